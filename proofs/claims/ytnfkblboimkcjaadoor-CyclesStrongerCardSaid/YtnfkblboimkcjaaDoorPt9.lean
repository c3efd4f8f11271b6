/-
  A part of the walk of the program. | Stable sorting by one bit, in plain lists: insertion, rotation, merging in place. | Calls of a comparison and of an exchange that are values; whole numbers as naturals. | A part of the walk of the program.
-/
import Derived.Test.YtnfkblboimkcjaaDoorPt8
import Derived.Laws.IdiomCopy
section
set_option linter.unusedVariables false
set_option linter.unusedSimpArgs false
set_option maxRecDepth 100000
namespace Go.Proofs.YtnfkblboimkcjaaDoor
open Go Go.RowKit Sg

def wantN (k : Int) : Nat := if k = 8 then 1 else if k = 9 then 2 else if k = 10 then 4 else if k = 11 then 4 else 0
def baseN (k : Int) : Nat := if k = 8 then 1 else if k = 9 then 3 else if k = 10 then 3 else if k = 11 then 7 else 0
def othN (k : Int) (r : Bool) : Nat := if r = true then baseN k ||| 8 else baseN k
def mostN (k : Int) : Nat := if k = 10 then 1 else 300
def okK (k : Int) : Prop := 8 ≤ k ∧ k ≤ 11
instance (k : Int) : Decidable (okK k) := by unfold okK; infer_instance
def oneL (z : Int) : Bool := decide (z = 1 ∨ z = 2 ∨ z = 4 ∨ z = 8)
theorem okK_cases {k : Int} (h : okK k) : k = 8 ∨ k = 9 ∨ k = 10 ∨ k = 11 := by unfold okK at h; omega
theorem want_ok {k : Int} (h : okK k) : wantN k ≠ 0 := by rcases okK_cases h with rfl | rfl | rfl | rfl <;> decide
theorem want_out {k : Int} (h : ¬ okK k) : wantN k = 0 := by
  unfold wantN
  unfold okK at h
  rw [if_neg (by omega), if_neg (by omega), if_neg (by omega), if_neg (by omega)]
theorem want_lt (k : Int) : wantN k < 16 := by unfold wantN; split <;> (try split) <;> (try split) <;> (try split) <;> omega
theorem base_lt (k : Int) : baseN k < 8 := by unfold baseN; split <;> (try split) <;> (try split) <;> (try split) <;> omega
theorem oth_lt (k : Int) (r : Bool) : othN k r < 16 := by
  have := base_lt k
  unfold othN
  split
  · exact or_lt16 (by omega) (by decide)
  · omega
theorem bc_of {z : Int} (h0 : 0 ≤ z) (h1 : z < 16) : bcell (BitVec.ofNat 64 z.toNat) = .int .u64 z := by
  unfold bcell
  rw [BitVec.toNat_ofNat]
  congr 1
  omega
theorem one_all : ∀ n, n < 16 → 0 < n → decide (((pop (BitVec.ofNat 64 n).toNat : Nat) : Int) = 1) = oneL (n : Int) := by decide
theorem one_pop {z : Int} (h0 : 0 < z) (h1 : z < 16) : decide (((pop (BitVec.ofNat 64 z.toNat).toNat : Nat) : Int) = 1) = oneL z := by
  obtain ⟨n, rfl⟩ : ∃ n : Nat, z = n := ⟨z.toNat, by omega⟩
  have := one_all n (by omega) (by omega)
  rwa [Int.toNat_natCast]
theorem oneL_out {z : Int} (h : ¬ (0 < z ∧ z < 16)) : oneL z = false := by unfold oneL; exact decide_eq_false (by omega)
/-- The least bit. -/
def lsb (m : Nat) : Nat := if m % 2 = 1 then 1 else if m / 2 % 2 = 1 then 2 else if m / 4 % 2 = 1 then 4 else if m / 8 % 2 = 1 then 8 else 0
theorem lsb_all : ∀ m : Nat, m < 16 → bitop .and .i64 (m : Int) (-(m : Int)) = (lsb m : Int) := by decide
theorem and_bit : ∀ m, m < 16 → ∀ e, e < 4 → (m &&& 2 ^ e ≠ 0 ↔ m / 2 ^ e % 2 = 1) := by decide

theorem ones_ok (x : BV) (w : World) :
  Sg.Ret Tryd.prog 56 #[bcell x] w fun v w' => v = .int .i64 (pop x.toNat : Int) ∧ w = w' := by
 have hb : bcell x = .int .u64 (x.toNat : Int) := rfl
 rw [hb]
 refine enter1 (n := 35) (l := [bcell x]) Tryd.func56 rfl rfl rfl rfl ?_
 refine W.g1 0 (v1 := bcell x) rfl ?_; intro σ s0
 refine W.seq ?_
 refine W.region ?_
 refine WL.x (X.asg lc) rfl ?_
 refine WL.e1 Nx.thn 0 (lt rfl (s0)) ?_
 intro σ1 s0
 refine W.seq ?_
 refine W.region ?_
 refine WL.x (X.mv (s0)) rfl ?_
 refine WL.x (X.shr (lh) lc (by omega)) rfl ?_
 refine WL.x (X.and (lh) lc) rfl ?_
 refine WL.x (X.mv (jt2 rfl (lt rfl (s0)))) rfl ?_
 refine WL.x (X.and (lh) lc) rfl ?_
 refine WL.x (X.addw (jt2 rfl (lh)) (lh)) rfl ?_
 refine WL.x (X.asg (lh)) rfl ?_
 refine WL.e1 Nx.thn 0 (lh) ?_
 intro σ2 s0
 refine W.seq ?_
 refine W.region ?_
 refine WL.x (X.mv (s0)) rfl ?_
 refine WL.x (X.shr (lh) lc (by omega)) rfl ?_
 refine WL.x (X.and (lh) lc) rfl ?_
 refine WL.x (X.mv (jt2 rfl (lt rfl (s0)))) rfl ?_
 refine WL.x (X.and (lh) lc) rfl ?_
 refine WL.x (X.addw (jt2 rfl (lh)) (lh)) rfl ?_
 refine WL.x (X.asg (lh)) rfl ?_
 refine WL.e1 Nx.thn 0 (lh) ?_
 intro σ3 s0
 refine W.seq ?_
 refine W.region ?_
 refine WL.x (X.mv (s0)) rfl ?_
 refine WL.x (X.shr (lh) lc (by omega)) rfl ?_
 refine WL.x (X.mv (jt2 rfl (s0))) rfl ?_
 refine WL.x (X.addw (lt rfl (lh)) (lh)) rfl ?_
 refine WL.x (X.and (lh) lc) rfl ?_
 refine WL.x (X.asg (lh)) rfl ?_
 refine WL.e1 Nx.thn 0 (lh) ?_
 intro σ4 s0
 refine W.seq ?_
 refine W.region ?_
 refine WL.x (X.mv (s0)) rfl ?_
 refine WL.x (X.mv (lt rfl (s0))) rfl ?_
 refine WL.x (X.shr (lh) lc (by omega)) rfl ?_
 refine WL.x (X.addw (jt2 rfl (lh)) (lh)) rfl ?_
 refine WL.x (X.asg (lh)) rfl ?_
 refine WL.e1 Nx.thn 0 (lh) ?_
 intro σ5 s0
 refine W.seq ?_
 refine W.region ?_
 refine WL.x (X.mv (s0)) rfl ?_
 refine WL.x (X.mv (lt rfl (s0))) rfl ?_
 refine WL.x (X.shr (lh) lc (by omega)) rfl ?_
 refine WL.x (X.addw (jt2 rfl (lh)) (lh)) rfl ?_
 refine WL.x (X.asg (lh)) rfl ?_
 refine WL.e1 Nx.thn 0 (lh) ?_
 intro σ6 s0
 refine W.seq ?_
 refine W.region ?_
 refine WL.x (X.mv (s0)) rfl ?_
 refine WL.x (X.mv (lt rfl (s0))) rfl ?_
 refine WL.x (X.shr (lh) lc (by omega)) rfl ?_
 refine WL.x (X.addw (jt2 rfl (lh)) (lh)) rfl ?_
 refine WL.x (X.asg (lh)) rfl ?_
 refine WL.e1 Nx.thn 0 (lh) ?_
 intro σ7 s0
 refine W.seq ?_
 refine W.region ?_
 refine WL.x (X.mv (s0)) rfl ?_
 refine WL.x (X.conv Tryd.underlying97 Tryd.underlying3 (lh)) rfl ?_
 refine WL.x (X.and (lh) lc) rfl ?_
 refine WL.x (X.asg (lh)) rfl ?_
 refine WL.e1 Nx.thn 2 (lh) ?_
 intro σ8 s2
 refine W.ret1 Nx.f1 s2 ?_
 exact ⟨congrArg _ (ones_pure x.toNat x.isLt _ _ _ _ _ _ rfl rfl rfl rfl rfl rfl), rfl⟩
theorem onesc_ok (x : BV) (w : World) :
  Sg.Ret Tryd.prog 35 #[bcell x] w fun v w' => v = .int .i64 (pop x.toNat : Int) ∧ w = w' := by
 refine enter1 (n := 8) (l := [bcell x]) Tryd.func35 rfl rfl rfl rfl ?_
 refine W.g1 0 (v1 := bcell x) rfl ?_; intro σ s0
 refine W.seq ?_
 refine W.region ?_
 refine WL.x (X.asg lc) rfl ?_
 refine WL.e1 Nx.thn 0 (lt rfl (s0)) ?_
 intro σ1 s0
 refine W.seq ?_
 refine W.cndF lc ?_
 refine W.skip Nx.thn ?_
 refine W.seq ?_
 refine W.region ?_
 refine WL.x (X.mv (s0)) rfl ?_
 refine WL.call1 ce56 (lh) (ones_ok x w) rfl ?_
 rintro _ _ ⟨rfl, rfl⟩
 refine WL.x (X.asg (lh)) rfl ?_
 refine WL.e1 Nx.thn 2 (lh) ?_
 intro σ2 s2
 refine W.ret1 Nx.f1 s2 ?_
 exact ⟨rfl, rfl⟩
theorem one_ok (z : Int) (w : World) :
  Sg.Ret Tryd.prog 17 #[.int .i64 z] w fun v w' => v = .bool (oneL z) ∧ w = w' := by
 refine enter1 (n := 15) (l := [.int .i64 z]) Tryd.func17 rfl rfl rfl rfl ?_
 refine W.g1 0 (v1 := .int .i64 z) rfl ?_; intro σ s0
 refine W.seq ?_
 refine W.region ?_
 refine WL.x (X.asg lc) rfl ?_
 refine WL.e1 Nx.thn 0 (lt rfl (s0)) ?_
 intro σ1 s0
 refine W.seq ?_
 refine W.region ?_
 refine WL.x (X.mv (s0)) rfl ?_
 refine WL.x (X.gtr (lh) lc) rfl ?_
 refine WL.x (X.mv (lh)) rfl ?_
 refine WL.splitp (lh) (fun h1 => ?_) (fun h1 => ?_)
 ·
  refine WL.yes rfl rfl (lh) (decide_eq_true h1) ?_
  refine WL.x (X.mv (jt2 rfl (lt rfl (s0)))) rfl ?_
  refine WL.yes rfl rfl (lt rfl (lh)) (decide_eq_true h1) ?_
  refine WL.x (X.lss (lh) lc) rfl ?_
  refine WL.x (X.pickT (jt2 rfl (lh)) (decide_eq_true h1) (lh)) rfl ?_
  refine WL.x (X.mv (lh)) rfl ?_
  refine WL.splitp (lh) (fun h2 => ?_) (fun h2 => ?_)
  ·
   refine WL.yes rfl rfl (lh) (decide_eq_true h2) ?_
   refine WL.x (X.mv (jt4 rfl (jt2 rfl (lt rfl (s0))))) rfl ?_
   refine WL.yes rfl rfl (lt rfl (lh)) (decide_eq_true h2) ?_
   refine WL.x (v := bcell (BitVec.ofNat 64 z.toNat)) (by rw [bc_of (by omega) (by omega)]; exact X.convi Tryd.underlying3 Tryd.underlying39 (lh) (wrap_u64_in (by omega) (by omega))) rfl ?_
   refine WL.yes rfl rfl (jt2 rfl (lh)) (decide_eq_true h2) ?_
   refine WL.call1 ce35 (lh) (onesc_ok (BitVec.ofNat 64 z.toNat) w) rfl ?_
   rintro _ _ ⟨rfl, rfl⟩
   refine WL.yes rfl rfl (jt2 rfl (lt rfl (lh))) (decide_eq_true h2) ?_
   refine WL.x (X.eql (lh) lc) rfl ?_
   refine WL.x (X.pickT (jt4 rfl (lh)) (decide_eq_true h2) (lh)) rfl ?_
   refine WL.x (X.asg (lh)) rfl ?_
   refine WL.e1 Nx.thn 2 (lh) ?_
   intro σ2 s2
   refine W.ret1 Nx.f1 s2 ?_
   exact ⟨congrArg Value.bool (one_pop h1 h2), rfl⟩
  ·
   refine WL.no rfl rfl (lh) (decide_eq_false h2) rfl ?_
   refine WL.no rfl rfl (lt rfl (lh)) (decide_eq_false h2) rfl ?_
   refine WL.no rfl rfl (jt2 rfl (lh)) (decide_eq_false h2) rfl ?_
   refine WL.no rfl rfl (jt2 rfl (lt rfl (lh))) (decide_eq_false h2) rfl ?_
   refine WL.x (X.pickF (jt4 rfl (lh)) (decide_eq_false h2) lc) rfl ?_
   refine WL.x (X.asg (lh)) rfl ?_
   refine WL.e1 Nx.thn 2 (lh) ?_
   intro σ3 s2
   refine W.ret1 Nx.f1 s2 ?_
   exact ⟨congrArg Value.bool (oneL_out (fun h => h2 h.2)).symm, rfl⟩
 ·
  refine WL.no rfl rfl (lh) (decide_eq_false h1) rfl ?_
  refine WL.no rfl rfl (lt rfl (lh)) (decide_eq_false h1) rfl ?_
  refine WL.x (X.pickF (jt2 rfl (lh)) (decide_eq_false h1) lc) rfl ?_
  refine WL.x (X.mv (lh)) rfl ?_
  refine WL.no rfl rfl (lh) rfl rfl ?_
  refine WL.no rfl rfl (lt rfl (lh)) rfl rfl ?_
  refine WL.no rfl rfl (jt2 rfl (lh)) rfl rfl ?_
  refine WL.no rfl rfl (jt2 rfl (lt rfl (lh))) rfl rfl ?_
  refine WL.x (X.pickF (jt4 rfl (lh)) rfl lc) rfl ?_
  refine WL.x (X.asg (lh)) rfl ?_
  refine WL.e1 Nx.thn 2 (lh) ?_
  intro σ4 s2
  refine W.ret1 Nx.f1 s2 ?_
  exact ⟨congrArg Value.bool (oneL_out (fun h => h1 h.1)).symm, rfl⟩

def clsV : List Value := [.int .i64 1, .int .i64 1, .int .i64 300, .int .i64 2, .int .i64 3, .int .i64 300, .int .i64 4, .int .i64 3, .int .i64 1, .int .i64 4, .int .i64 7, .int .i64 300]
theorem cls_at {k : Int} (h : okK k) : clsV.toArray.extract ((k - 8).toNat * 3) ((k - 8).toNat * 3 + 3) = [Value.int .i64 (wantN k : Int), .int .i64 (baseN k : Int), .int .i64 (mostN k : Int)].toArray := by
  rcases okK_cases h with rfl | rfl | rfl | rfl <;> rfl
theorem classes_ok (w : World) :
  Sg.Ret Tryd.prog 34 #[] w fun v w' => v = .agg clsV.toArray ∧ Ch0 w w' := by
 refine enterG (n := 6) (l := []) Tryd.func34 rfl rfl rfl rfl ?_
 refine W.g0 ?_; intro σ
 refine W.seq ?_
 refine W.region ?_
 refine WL.alloc el67 rfl ?_
 intro w1 u0_0; have hu0_0 := u0_0.at_; have cu0_0 := u0_0.ch; have zu0_0 := u0_0.size
 refine WL.e1 Nx.thn 0 (lh) ?_
 intro σ1 s0
 refine W.seq ?_
 refine W.region ?_
 refine WL.x (X.build bd43 (pcons lc (pcons lc (pcons lc pnil))) rfl (rfl : _ = [_, _, _])) rfl ?_
 refine WL.x (X.build bd43 (pcons lc (pcons lc (pcons lc pnil))) rfl (rfl : _ = [_, _, _])) rfl ?_
 refine WL.x (X.build bd43 (pcons lc (pcons lc (pcons lc pnil))) rfl (rfl : _ = [_, _, _])) rfl ?_
 refine WL.x (X.build bd43 (pcons lc (pcons lc (pcons lc pnil))) rfl (rfl : _ = [_, _, _])) rfl ?_
 refine WL.x (v := .agg clsV.toArray) (X.buildA (vs := [_, _, _, _]) (size := 3) Tryd.underlying67 (show Tryd.prog.info? 67 = some _ from rfl) rfl rfl (show Tryd.prog.info? 43 = some _ from rfl) rfl (by decide) (pcons (jt2 rfl (lt rfl (lh))) (pcons (jt2 rfl (lh)) (pcons (lt rfl (lh)) (pcons (lh) pnil)))) (fun u hu => by simp only [List.mem_cons, List.not_mem_nil, or_false] at hu; rcases hu with rfl | rfl | rfl | rfl <;> rfl)) rfl ?_
 refine WL.storeS (vs := clsV) ag67 (jt4 rfl (lt rfl (s0))) (lh) rfl rfl hu0_0 (by decide) ?_
 intro w2 us; have cst := us.ch
 have hres : w2.heap[w.heap.size]? = some (.cells clsV.toArray 67 (0, 0)) := us.at_
 have hcl := cu0_0.trans cst (H := fun _ => False) (fun _ _ e => e) (fun i hi e => by (try dsimp only at e); omega)
 refine WL.e1 Nx.thn 0 (jt4 rfl (lt rfl (s0))) ?_
 intro σ2 s0
 refine W.retG Nx.fG ⟨[_], (.cell s0 (by assumption) (by exact ag67) .nil), ?_⟩
 exact ⟨rfl, hcl⟩
set_option maxHeartbeats 800000 in
theorem of_in (k : Int) (r : Bool) (w : World) (hk : okK k) :
  Sg.Ret Tryd.prog 16 #[.int .i64 k, .bool r] w fun v w' => v = .tuple #[.agg #[.int .i64 (wantN k : Int), .int .i64 (othN k r : Int), .int .i64 (mostN k : Int)], .bool true] ∧ Ch0 w w' := by
 have hk2 := hk
 unfold okK at hk2
 refine enterG (n := 24) (l := [.int .i64 k, .bool r]) Tryd.func16 rfl rfl rfl rfl ?_
 refine W.g2 0 1 (v1 := .int .i64 k) (v2 := .bool r) rfl rfl ?_; intro σ s0 s1
 refine W.seq ?_
 refine W.region ?_
 refine WL.alloc el43 rfl ?_
 intro w1 u0_0; have hu0_0 := u0_0.at_; have cu0_0 := u0_0.ch; have zu0_0 := u0_0.size
 refine WL.x (X.asg lc) rfl ?_
 refine WL.e3 Nx.thn 0 1 4 (jt2 rfl (s0)) (jt2 rfl (s1)) (lt rfl (lh)) ?_
 intro σ1 s0 s1 s4
 refine W.seq ?_
 refine W.seq ?_
 refine W.region ?_
 refine WL.x (X.mv (s0)) rfl ?_
 refine WL.x (X.lss (lh) lc) rfl ?_
 refine WL.x (X.mv (lh)) rfl ?_
 refine WL.yes rfl rfl (lh) (decide_eq_false (by omega)) ?_
 refine WL.x (X.mv (jt2 rfl (lt rfl (s0)))) rfl ?_
 refine WL.yes rfl rfl (lt rfl (lh)) (decide_eq_false (by omega)) ?_
 refine WL.x (X.gtr (lh) lc) rfl ?_
 refine WL.x (X.pickF (jt2 rfl (lh)) (decide_eq_false (by omega)) (lh)) rfl ?_
 refine WL.e4 Nx.thn 0 1 4 12 (jt4 rfl (jt2 rfl (s0))) (jt4 rfl (jt2 rfl (s1))) (jt4 rfl (jt2 rfl (s4))) (lh) ?_
 intro σ2 s0 s1 s4 s12
 refine W.cndN s12 (by omega) ?_
 refine W.skip Nx.thn ?_
 refine W.seq ?_
 refine W.region ?_
 refine WL.call0 ce34  (classes_ok w1) rfl ?_
 rintro _ w2 ⟨rfl, c1⟩
 have hz4 : w2.heap[w.heap.size]? = some (.cells #[Value.int .i64 0, .int .i64 0, .int .i64 0] 43 (0, 0)) := c1.at0 hu0_0
 have hcl := cu0_0.trans0 c1
 refine WL.x (X.mv (lt rfl (s0))) rfl ?_
 refine WL.x (X.sub (lh) lc (by omega) (by omega)) rfl ?_
 refine WL.x (v := .agg ([Value.int .i64 (wantN k : Int), .int .i64 (baseN k : Int), .int .i64 (mostN k : Int)]).toArray) (X.indexAS Tryd.underlying67 ag43 (jt2 rfl (lh)) (lh) (by omega) (by omega) (cls_at hk)) rfl ?_
 refine WL.alloc el43 rfl ?_
 intro w3 u3_4; have hu3_4 := u3_4.at_; have cu3_4 := u3_4.ch; have zu3_4 := u3_4.size
 refine WL.storeS (vs := [Value.int .i64 (wantN k : Int), .int .i64 (baseN k : Int), .int .i64 (mostN k : Int)]) ag43 (lh) (lt rfl (lh)) rfl rfl hu3_4 (by decide) ?_
 intro w4 us; have cst := us.ch
 have hc6 : w4.heap[w2.heap.size]? = some (.cells #[Value.int .i64 (wantN k : Int), .int .i64 (baseN k : Int), .int .i64 (mostN k : Int)] 43 (0, 0)) := us.at_
 have hz1 := lt_of_blk hu0_0
 have hz2 := c1.size
 have hz4 := cst.at (cu3_4.at0 hz4) (fun e => by (try dsimp only at e); omega)
 have hcl := (hcl.trans0 cu3_4).trans cst (H := fun _ => False) (fun _ _ e => e) (fun i hi e => by (try dsimp only at e); omega)
 refine WL.e3 Nx.thn 1 4 6 (jt4 rfl (lt rfl (s1))) (jt4 rfl (lt rfl (s4))) (lh) ?_
 intro σ3 s1 s4 s6
 have qo2 := s4
 have qo3 := s6
 refine W.seqJ (fun σ' w' => (σ' 4 = σ3 4 ∧ σ' 6 = σ3 6 ∧ True) ∧ (w').heap[w2.heap.size]? = some (.cells #[Value.int .i64 (wantN k : Int), .int .i64 (othN k r : Int), .int .i64 (mostN k : Int)] 43 (0, 0)) ∧ (w').heap[w.heap.size]? = some (.cells #[Value.int .i64 0, .int .i64 0, .int .i64 0] 43 (0, 0)) ∧ Ch0 w w') ?_ ?_
 ·
  refine W.seq ?_
  refine W.region ?_
  refine WL.x (X.mv (s1)) rfl ?_
  refine WL.e3 Nx.thn 4 6 18 (lt rfl (s4)) (lt rfl (s6)) (lh) ?_
  intro σ4 s4 s6 s18
  refine W.cnd s18 (fun hr => ?_) (fun hr => ?_)
  ·
   refine W.region ?_
   refine WL.x (X.fieldAddr fd43_1 (s6)) rfl ?_
   refine WL.x (X.load pl3 (lh) hc6 (v := .int .i64 (baseN k : Int)) rfl) rfl ?_
   refine WL.x (v := .int .i64 ((baseN k ||| 8 : Nat) : Int)) (by rw [← or_nat (by have := base_lt k; omega) (by decide)]; exact X.or (lh) lc) rfl ?_
   refine WL.x (X.fieldAddr fd43_1 (jt2 rfl (lt rfl (s6)))) rfl ?_
   refine WL.store el3 (lh) (lt rfl (lh)) rfl hc6 (by (simp; done)) ?_
   intro w5 us5; have cst5 := us5.ch
   have hc6 : w5.heap[w2.heap.size]? = some (.cells #[Value.int .i64 (wantN k : Int), .int .i64 ((baseN k ||| 8 : Nat) : Int), .int .i64 (mostN k : Int)] 43 (0, 0)) := us5.at_
   have hz4 := cst5.at hz4 (fun e => by (try dsimp only at e); omega)
   have hcl := hcl.trans cst5 (H := fun _ => False) (fun _ _ e => e) (fun i hi e => by (try dsimp only at e); omega)
   refine WL.e2 Nx.thn 4 6 (jt4 rfl (s4)) (jt4 rfl (s6)) ?_
   intro σ5 s4 s6
   refine ⟨⟨s4.trans qo2.symm, s6.trans qo3.symm, trivial⟩, (by unfold othN; rw [if_pos hr]; exact hc6), hz4, hcl⟩
  ·
   refine W.skip Nx.thn ?_
   refine ⟨⟨s4.trans qo2.symm, s6.trans qo3.symm, trivial⟩, (by unfold othN; rw [if_neg (by rw [hr]; decide)]; exact hc6), hz4, hcl⟩
 ·
  rintro σ6 w6 ⟨⟨f4, f6, _⟩, hc6, hz4, hcl⟩
  have s4 := f4.trans qo2
  have s6 := f6.trans qo3
  refine W.seq ?_
  refine W.region ?_
  refine WL.x (X.loadBox (vs := [Value.int .i64 (wantN k : Int), .int .i64 (othN k r : Int), .int .i64 (mostN k : Int)]) ag43 (s6) hc6 rfl) rfl ?_
  refine WL.storeS (vs := [Value.int .i64 (wantN k : Int), .int .i64 (othN k r : Int), .int .i64 (mostN k : Int)]) ag43 (lt rfl (s4)) (lh) rfl rfl hz4 (by decide) ?_
  intro w7 us9; have cst9 := us9.ch
  have hres : w7.heap[w.heap.size]? = some (.cells #[Value.int .i64 (wantN k : Int), .int .i64 (othN k r : Int), .int .i64 (mostN k : Int)] 43 (0, 0)) := us9.at_
  have hclr := hcl.trans cst9 (H := fun _ => False) (fun _ _ e => e) (fun i hi e => by (try dsimp only at e); omega)
  refine WL.x (X.asg lc) rfl ?_
  refine WL.e2 Nx.thn 4 5 (jt2 rfl (s4)) (lh) ?_
  intro σ7 s4 s5
  refine W.retG Nx.fG ⟨[_, _], (.cell s4 (by assumption) (by exact ag43) (.tmp s5 .nil)), ?_⟩
  exact ⟨rfl, hclr⟩
set_option maxHeartbeats 800000 in
theorem of_out (k : Int) (r : Bool) (w : World) (hk : ¬ okK k) :
  Sg.Ret Tryd.prog 16 #[.int .i64 k, .bool r] w fun v w' => v = .tuple #[.agg #[.int .i64 0, .int .i64 0, .int .i64 0], .bool false] ∧ Ch0 w w' := by
 have hk2 := hk
 unfold okK at hk2
 refine enterG (n := 24) (l := [.int .i64 k, .bool r]) Tryd.func16 rfl rfl rfl rfl ?_
 refine W.g2 0 1 (v1 := .int .i64 k) (v2 := .bool r) rfl rfl ?_; intro σ s0 s1
 refine W.seq ?_
 refine W.region ?_
 refine WL.alloc el43 rfl ?_
 intro w1 u0_0; have hu0_0 := u0_0.at_; have cu0_0 := u0_0.ch; have zu0_0 := u0_0.size
 refine WL.x (X.asg lc) rfl ?_
 refine WL.e3 Nx.thn 0 1 4 (jt2 rfl (s0)) (jt2 rfl (s1)) (lt rfl (lh)) ?_
 intro σ1 s0 s1 s4
 refine W.seq ?_
 refine W.seq ?_
 refine W.region ?_
 refine WL.x (X.mv (s0)) rfl ?_
 refine WL.x (X.lss (lh) lc) rfl ?_
 refine WL.x (X.mv (lh)) rfl ?_
 refine WL.splitp (lh) (fun h8 => ?_) (fun h8 => ?_)
 ·
  refine WL.no rfl rfl (lh) (decide_eq_true h8) rfl ?_
  refine WL.no rfl rfl (lt rfl (lh)) (decide_eq_true h8) rfl ?_
  refine WL.x (X.pickT (jt2 rfl (lh)) (decide_eq_true h8) lc) rfl ?_
  refine WL.e4 Nx.thn 0 1 4 12 (jt4 rfl (jt2 rfl (s0))) (jt4 rfl (jt2 rfl (s1))) (jt4 rfl (jt2 rfl (s4))) (lh) ?_
  intro σ2 s0 s1 s4 s12
  refine W.cndT s12 ?_
  refine W.seq ?_
  refine W.region ?_
  refine WL.x (X.build bd43 pnil rfl (rfl : _ = [_, _, _])) rfl ?_
  refine WL.storeS (vs := [Value.int .i64 0, .int .i64 0, .int .i64 0]) ag43 (lt rfl (s4)) (lh) rfl rfl hu0_0 (by decide) ?_
  intro w2 us9; have cst9 := us9.ch
  have hres : w2.heap[w.heap.size]? = some (.cells #[Value.int .i64 0, .int .i64 0, .int .i64 0] 43 (0, 0)) := us9.at_
  have hclr := cu0_0.trans cst9 (H := fun _ => False) (fun _ _ e => e) (fun i hi e => by (try dsimp only at e); omega)
  refine WL.x (X.asg lc) rfl ?_
  refine WL.e2 Nx.thn 4 5 (jt2 rfl (s4)) (lh) ?_
  intro σ3 s4 s5
  refine W.retG (Nx.rthn Nx.fG) ⟨[_, _], (.cell s4 (by assumption) (by exact ag43) (.tmp s5 .nil)), ?_⟩
  exact ⟨rfl, hclr⟩
 ·
  refine WL.yes rfl rfl (lh) (decide_eq_false h8) ?_
  refine WL.x (X.mv (jt2 rfl (lt rfl (s0)))) rfl ?_
  refine WL.yes rfl rfl (lt rfl (lh)) (decide_eq_false h8) ?_
  refine WL.x (X.gtr (lh) lc) rfl ?_
  refine WL.x (X.pickF (jt2 rfl (lh)) (decide_eq_false h8) (lh)) rfl ?_
  refine WL.e4 Nx.thn 0 1 4 12 (jt4 rfl (jt2 rfl (s0))) (jt4 rfl (jt2 rfl (s1))) (jt4 rfl (jt2 rfl (s4))) (lh) ?_
  intro σ4 s0 s1 s4 s12
  refine W.cndY s12 (by omega) ?_
  refine W.seq ?_
  refine W.region ?_
  refine WL.x (X.build bd43 pnil rfl (rfl : _ = [_, _, _])) rfl ?_
  refine WL.storeS (vs := [Value.int .i64 0, .int .i64 0, .int .i64 0]) ag43 (lt rfl (s4)) (lh) rfl rfl hu0_0 (by decide) ?_
  intro w3 us9; have cst9 := us9.ch
  have hres : w3.heap[w.heap.size]? = some (.cells #[Value.int .i64 0, .int .i64 0, .int .i64 0] 43 (0, 0)) := us9.at_
  have hclr := cu0_0.trans cst9 (H := fun _ => False) (fun _ _ e => e) (fun i hi e => by (try dsimp only at e); omega)
  refine WL.x (X.asg lc) rfl ?_
  refine WL.e2 Nx.thn 4 5 (jt2 rfl (s4)) (lh) ?_
  intro σ5 s4 s5
  refine W.retG (Nx.rthn Nx.fG) ⟨[_, _], (.cell s4 (by assumption) (by exact ag43) (.tmp s5 .nil)), ?_⟩
  exact ⟨rfl, hclr⟩
theorem of_ok (k : Int) (r : Bool) (w : World) : Sg.Ret Tryd.prog 16 #[.int .i64 k, .bool r] w fun v w' => (∃ wv ov mv : Int, v = .tuple #[.agg #[.int .i64 wv, .int .i64 ov, .int .i64 mv], .bool (decide (okK k))] ∧ (okK k → wv = (wantN k : Int) ∧ ov = (othN k r : Int) ∧ mv = (mostN k : Int))) ∧ Ch0 w w' := by
  by_cases hk : okK k
  · exact Ret.mono (of_in k r w hk) fun v w' h => ⟨⟨_, _, _, by rw [decide_eq_true hk]; exact h.1, fun _ => ⟨rfl, rfl, rfl⟩⟩, h.2⟩
  · exact Ret.mono (of_out k r w hk) fun v w' h => ⟨⟨_, _, _, by rw [decide_eq_false hk]; exact h.1, fun h9 => absurd h9 hk⟩, h.2⟩

set_option maxHeartbeats 800000 in
theorem wants_ok (k : Int) (r : Bool) (w : World) :
  Sg.Ret Tryd.prog 24 #[.int .i64 k, .bool r] w fun v w' => v = .tuple #[.int .i64 (wantN k : Int), .int .i64 (othN k r : Int)] ∧ w = w' := by
 refine enter2 (n := 22) (l := [.int .i64 k, .bool r]) Tryd.func24 rfl rfl rfl rfl ?_
 refine W.g2 0 1 (v1 := .int .i64 k) (v2 := .bool r) rfl rfl ?_; intro σ s0 s1
 refine W.seq ?_
 refine W.region ?_
 refine WL.x (X.asg lc) rfl ?_
 refine WL.x (X.asg lc) rfl ?_
 refine WL.e2 Nx.thn 0 1 (jt2 rfl (s0)) (jt2 rfl (s1)) ?_
 intro σ1 s0 s1
 refine W.seq ?_
 refine W.region ?_
 refine WL.x (X.asg lc) rfl ?_
 refine WL.x (X.asg lc) rfl ?_
 refine WL.e4 Nx.thn 0 1 6 7 (jt2 rfl (s0)) (jt2 rfl (s1)) (lt rfl (lh)) (lh) ?_
 intro σ2 s0 s1 s6 s7
 have qo1 := s1
 refine W.seqJ (fun σ' w' => (σ' 1 = σ2 1 ∧ True) ∧ σ' 6 = .int .i64 (wantN k : Int) ∧ σ' 7 = .int .i64 (baseN k : Int) ∧ w = w') ?_ ?_
 ·
  refine W.seq ?_
  refine W.region ?_
  refine WL.x (X.mv (s0)) rfl ?_
  refine WL.e4 Nx.thn 1 6 7 8 (lt rfl (s1)) (lt rfl (s6)) (lt rfl (s7)) (lh) ?_
  intro σ3 s1 s6 s7 s8
  refine W.block ?_
  refine W.seq ?_
  refine W.region ?_
  refine WL.x (X.eql (s8) lc) rfl ?_
  refine WL.x (X.asg (lh)) rfl ?_
  refine WL.e5 Nx.thn 1 6 7 8 9 (jt2 rfl (s1)) (jt2 rfl (s6)) (jt2 rfl (s7)) (jt2 rfl (s8)) (lh) ?_
  intro σ4 s1 s6 s7 s8 s9
  refine W.cndp s9 (fun h8 => ?_) (fun h8 => ?_)
  ·
   refine W.region ?_
   refine WL.x (X.asg lc) rfl ?_
   refine WL.x (X.asg lc) rfl ?_
   refine WL.e3 (Nx.blk Nx.thn) 1 6 7 (jt2 rfl (s1)) (lt rfl (lh)) (lh) ?_
   intro σ5 s1 s6 s7
   refine ⟨⟨s1.trans qo1.symm, trivial⟩, (by rw [s6, h8]; rfl), (by rw [s7, h8]; rfl), rfl⟩
  ·
   refine W.seq ?_
   refine W.region ?_
   refine WL.x (X.eql (s8) lc) rfl ?_
   refine WL.x (X.asg (lh)) rfl ?_
   refine WL.e5 Nx.thn 1 6 7 8 11 (jt2 rfl (s1)) (jt2 rfl (s6)) (jt2 rfl (s7)) (jt2 rfl (s8)) (lh) ?_
   intro σ6 s1 s6 s7 s8 s11
   refine W.cndp s11 (fun h9 => ?_) (fun h9 => ?_)
   ·
    refine W.region ?_
    refine WL.x (X.asg lc) rfl ?_
    refine WL.x (X.asg lc) rfl ?_
    refine WL.e3 (Nx.blk Nx.thn) 1 6 7 (jt2 rfl (s1)) (lt rfl (lh)) (lh) ?_
    intro σ7 s1 s6 s7
    refine ⟨⟨s1.trans qo1.symm, trivial⟩, (by rw [s6, h9]; rfl), (by rw [s7, h9]; rfl), rfl⟩
   ·
    refine W.seq ?_
    refine W.region ?_
    refine WL.x (X.eql (s8) lc) rfl ?_
    refine WL.x (X.asg (lh)) rfl ?_
    refine WL.e5 Nx.thn 1 6 7 8 13 (jt2 rfl (s1)) (jt2 rfl (s6)) (jt2 rfl (s7)) (jt2 rfl (s8)) (lh) ?_
    intro σ8 s1 s6 s7 s8 s13
    refine W.cndp s13 (fun h10 => ?_) (fun h10 => ?_)
    ·
     refine W.region ?_
     refine WL.x (X.asg lc) rfl ?_
     refine WL.x (X.asg lc) rfl ?_
     refine WL.e3 (Nx.blk Nx.thn) 1 6 7 (jt2 rfl (s1)) (lt rfl (lh)) (lh) ?_
     intro σ9 s1 s6 s7
     refine ⟨⟨s1.trans qo1.symm, trivial⟩, (by rw [s6, h10]; rfl), (by rw [s7, h10]; rfl), rfl⟩
    ·
     refine W.seq ?_
     refine W.region ?_
     refine WL.x (X.eql (s8) lc) rfl ?_
     refine WL.x (X.asg (lh)) rfl ?_
     refine WL.e4 Nx.thn 1 6 7 15 (jt2 rfl (s1)) (jt2 rfl (s6)) (jt2 rfl (s7)) (lh) ?_
     intro σ10 s1 s6 s7 s15
     refine W.cndp s15 (fun h11 => ?_) (fun h11 => ?_)
     ·
      refine W.region ?_
      refine WL.x (X.asg lc) rfl ?_
      refine WL.x (X.asg lc) rfl ?_
      refine WL.e3 (Nx.blk Nx.thn) 1 6 7 (jt2 rfl (s1)) (lt rfl (lh)) (lh) ?_
      intro σ11 s1 s6 s7
      refine ⟨⟨s1.trans qo1.symm, trivial⟩, (by rw [s6, h11]; rfl), (by rw [s7, h11]; rfl), rfl⟩
     ·
      refine W.skip (Nx.blk Nx.thn) ?_
      refine ⟨⟨s1.trans qo1.symm, trivial⟩, (by unfold wantN; rw [if_neg h8, if_neg h9, if_neg h10, if_neg h11]; exact s6), (by unfold baseN; rw [if_neg h8, if_neg h9, if_neg h10, if_neg h11]; exact s7), rfl⟩
 ·
  rintro σ12 w1 ⟨⟨f1, _⟩, s6, s7, rfl⟩
  have s1 := f1.trans qo1
  refine W.seq ?_
  refine W.seq ?_
  refine W.region ?_
  refine WL.x (X.mv (s1)) rfl ?_
  refine WL.e3 Nx.thn 6 7 17 (lt rfl (s6)) (lt rfl (s7)) (lh) ?_
  intro σ13 s6 s7 s17
  refine W.cnd s17 (fun hr => ?_) (fun hr => ?_)
  ·
   refine W.region ?_
   refine WL.x (X.mv (s7)) rfl ?_
   refine WL.x (v := .int .i64 ((baseN k ||| 8 : Nat) : Int)) (by rw [← or_nat (by have := base_lt k; omega) (by decide)]; exact X.or (lh) lc) rfl ?_
   refine WL.x (X.asg (lh)) rfl ?_
   refine WL.e2 Nx.thn 6 7 (jt2 rfl (lt rfl (s6))) (lh) ?_
   intro σ14 s6 s7
   refine W.seq ?_
   refine W.region ?_
   refine WL.x (X.mv (s6)) rfl ?_
   refine WL.x (X.mv (lt rfl (s7))) rfl ?_
   refine WL.x (X.asg (lt rfl (lh))) rfl ?_
   refine WL.x (X.asg (lt rfl (lh))) rfl ?_
   refine WL.e2 Nx.thn 4 5 (lt rfl (lh)) (lh) ?_
   intro σ15 s4 s5
   refine W.ret2 Nx.f2 s4 s5 ?_
   exact ⟨by unfold othN; rw [if_pos hr], rfl⟩
  ·
   refine W.skip Nx.thn ?_
   refine W.seq ?_
   refine W.region ?_
   refine WL.x (X.mv (s6)) rfl ?_
   refine WL.x (X.mv (lt rfl (s7))) rfl ?_
   refine WL.x (X.asg (lt rfl (lh))) rfl ?_
   refine WL.x (X.asg (lt rfl (lh))) rfl ?_
   refine WL.e2 Nx.thn 4 5 (lt rfl (lh)) (lh) ?_
   intro σ16 s4 s5
   refine W.ret2 Nx.f2 s4 s5 ?_
   exact ⟨by unfold othN; rw [if_neg (by rw [hr]; decide)], rfl⟩
theorem rone_ok (z : Int) (w : World) :
  Sg.Ret Tryd.prog 25 #[.int .i64 z] w fun v w' => v = .bool (oneL z) ∧ w = w' := by
 refine enter1 (n := 17) (l := [.int .i64 z]) Tryd.func25 rfl rfl rfl rfl ?_
 refine W.g1 0 (v1 := .int .i64 z) rfl ?_; intro σ s0
 refine W.seq ?_
 refine W.region ?_
 refine WL.x (X.asg lc) rfl ?_
 refine WL.e1 Nx.thn 0 (lt rfl (s0)) ?_
 intro σ1 s0
 refine W.seq ?_
 refine W.region ?_
 refine WL.x (X.mv (s0)) rfl ?_
 refine WL.x (X.eql (lh) lc) rfl ?_
 refine WL.x (X.mv (lh)) rfl ?_
 refine WL.splitp (lh) (fun h1 => ?_) (fun h1 => ?_)
 ·
  refine WL.no rfl rfl (lh) (decide_eq_true h1) rfl ?_
  refine WL.no rfl rfl (lt rfl (lh)) (decide_eq_true h1) rfl ?_
  refine WL.x (X.pickT (jt2 rfl (lh)) (decide_eq_true h1) lc) rfl ?_
  refine WL.x (X.mv (lh)) rfl ?_
  refine WL.no rfl rfl (lh) rfl rfl ?_
  refine WL.no rfl rfl (lt rfl (lh)) rfl rfl ?_
  refine WL.x (X.pickT (jt2 rfl (lh)) rfl lc) rfl ?_
  refine WL.x (X.mv (lh)) rfl ?_
  refine WL.no rfl rfl (lh) rfl rfl ?_
  refine WL.no rfl rfl (lt rfl (lh)) rfl rfl ?_
  refine WL.x (X.pickT (jt2 rfl (lh)) rfl lc) rfl ?_
  refine WL.x (X.asg (lh)) rfl ?_
  refine WL.e1 Nx.thn 2 (lh) ?_
  intro σ2 s2
  refine W.ret1 Nx.f1 s2 ?_
  exact ⟨by unfold oneL; congr 1; exact (decide_eq_true (by omega)).symm, rfl⟩
 ·
  refine WL.yes rfl rfl (lh) (decide_eq_false h1) ?_
  refine WL.x (X.mv (jt2 rfl (lt rfl (s0)))) rfl ?_
  refine WL.yes rfl rfl (lt rfl (lh)) (decide_eq_false h1) ?_
  refine WL.x (X.eql (lh) lc) rfl ?_
  refine WL.x (X.pickF (jt2 rfl (lh)) (decide_eq_false h1) (lh)) rfl ?_
  refine WL.x (X.mv (lh)) rfl ?_
  refine WL.splitp (lh) (fun h2 => ?_) (fun h2 => ?_)
  ·
   refine WL.no rfl rfl (lh) (decide_eq_true h2) rfl ?_
   refine WL.no rfl rfl (lt rfl (lh)) (decide_eq_true h2) rfl ?_
   refine WL.x (X.pickT (jt2 rfl (lh)) (decide_eq_true h2) lc) rfl ?_
   refine WL.x (X.mv (lh)) rfl ?_
   refine WL.no rfl rfl (lh) rfl rfl ?_
   refine WL.no rfl rfl (lt rfl (lh)) rfl rfl ?_
   refine WL.x (X.pickT (jt2 rfl (lh)) rfl lc) rfl ?_
   refine WL.x (X.asg (lh)) rfl ?_
   refine WL.e1 Nx.thn 2 (lh) ?_
   intro σ3 s2
   refine W.ret1 Nx.f1 s2 ?_
   exact ⟨by unfold oneL; congr 1; exact (decide_eq_true (by omega)).symm, rfl⟩
  ·
   refine WL.yes rfl rfl (lh) (decide_eq_false h2) ?_
   refine WL.x (X.mv (jt4 rfl (jt2 rfl (lt rfl (s0))))) rfl ?_
   refine WL.yes rfl rfl (lt rfl (lh)) (decide_eq_false h2) ?_
   refine WL.x (X.eql (lh) lc) rfl ?_
   refine WL.x (X.pickF (jt2 rfl (lh)) (decide_eq_false h2) (lh)) rfl ?_
   refine WL.x (X.mv (lh)) rfl ?_
   refine WL.splitp (lh) (fun h3 => ?_) (fun h3 => ?_)
   ·
    refine WL.no rfl rfl (lh) (decide_eq_true h3) rfl ?_
    refine WL.no rfl rfl (lt rfl (lh)) (decide_eq_true h3) rfl ?_
    refine WL.x (X.pickT (jt2 rfl (lh)) (decide_eq_true h3) lc) rfl ?_
    refine WL.x (X.asg (lh)) rfl ?_
    refine WL.e1 Nx.thn 2 (lh) ?_
    intro σ4 s2
    refine W.ret1 Nx.f1 s2 ?_
    exact ⟨by unfold oneL; congr 1; exact (decide_eq_true (by omega)).symm, rfl⟩
   ·
    refine WL.yes rfl rfl (lh) (decide_eq_false h3) ?_
    refine WL.x (X.mv (jt8 rfl (jt2 rfl (lt rfl (s0))))) rfl ?_
    refine WL.yes rfl rfl (lt rfl (lh)) (decide_eq_false h3) ?_
    refine WL.x (X.eql (lh) lc) rfl ?_
    refine WL.x (X.pickF (jt2 rfl (lh)) (decide_eq_false h3) (lh)) rfl ?_
    refine WL.x (X.asg (lh)) rfl ?_
    refine WL.e1 Nx.thn 2 (lh) ?_
    intro σ5 s2
    refine W.ret1 Nx.f1 s2 ?_
    exact ⟨by unfold oneL; congr 1; exact decide_eq_decide.2 (by omega), rfl⟩

theorem and_eq0 {m e : Nat} (hm : m < 16) (he : e < 4) : (bitop .and .i64 (m : Int) ((2 ^ e : Nat) : Int) ≠ 0) ↔ m / 2 ^ e % 2 = 1 := by
  have h2 : 2 ^ e < 16 := Nat.lt_of_le_of_lt (Nat.pow_le_pow_right (by decide) (by omega : e ≤ 3)) (by decide)
  rw [and_ofm hm, ofm_in (Int.natCast_nonneg _) (Int.ofNat_le.2 (show 2 ^ e ≤ 15 by omega)), Int.toNat_natCast, ← and_bit m hm e he]
  generalize m &&& 2 ^ e = q
  omega
theorem least_ok (m : Nat) (w : World) (hm : m < 16) :
  Sg.Ret Tryd.prog 29 #[.int .i64 (m : Int)] w fun v w' => v = .int .i64 (lsb m : Int) ∧ w = w' := by
 refine enter1 (n := 13) (l := [.int .i64 (m : Int)]) Tryd.func29 rfl rfl rfl rfl ?_
 refine W.g1 0 (v1 := .int .i64 (m : Int)) rfl ?_; intro σ s0
 refine W.seq ?_
 refine W.region ?_
 refine WL.x (X.asg lc) rfl ?_
 refine WL.e1 Nx.thn 0 (lt rfl (s0)) ?_
 intro σ1 s0
 refine W.seq ?_
 refine W.seq ?_
 refine W.region ?_
 refine WL.x (X.asg lc) rfl ?_
 refine WL.e2 Nx.thn 0 3 (lt rfl (s0)) (lh) ?_
 intro σ2 s0 s3
 refine W.block ?_
 have qo1 := s0
 -- loop 0: kept [0], varied [3]
 refine W.loop (G := Nat) (fun e σ' w' => (σ' 0 = σ2 0 ∧ True) ∧ w = w' ∧ (σ' 3 = .int .i64 ((2 ^ e : Nat) : Int) ∧ e ≤ 4 ∧ ∀ i, i < e → ¬ m / 2 ^ i % 2 = 1)) (fun e => 4 - e) (0) ⟨⟨rfl, trivial⟩, rfl, s3, by omega, fun i hi => absurd hi (by omega)⟩ ?_
 rintro e σ3 w1 ⟨⟨f0, _⟩, rfl, s3, he, hno⟩
 have s0 := f0.trans qo1
 refine W.seq ?_
 refine W.seq ?_
 refine W.region ?_
 refine WL.x (X.mv (s3)) rfl ?_
 refine WL.x (X.leq (lh) lc) rfl ?_
 refine WL.e3 Nx.thn 0 3 5 (jt2 rfl (s0)) (jt2 rfl (s3)) (lh) ?_
 intro σ4 s0 s3 s5
 refine W.cndp s5 (fun hle => ?_) (fun hle => ?_)
 ·
  have he4 : e < 4 := by
    refine Nat.lt_of_not_le fun h9 => ?_
    have := Nat.pow_le_pow_right (n := 2) (by decide) h9
    omega
  have hp8 : 2 ^ e ≤ 8 := by omega
  have hp9 : ((2 ^ e : Nat) : Int) ≤ 8 := Int.ofNat_le.2 hp8
  have hp0 : (0 : Int) ≤ ((2 ^ e : Nat) : Int) := Int.natCast_nonneg _
  refine W.skip Nx.thn ?_
  refine W.seq ?_
  refine W.block ?_
  refine W.seq ?_
  refine W.region ?_
  refine WL.x (X.mv (s0)) rfl ?_
  refine WL.x (X.mv (lt rfl (s3))) rfl ?_
  refine WL.x (X.and (lt rfl (lh)) (lh)) rfl ?_
  refine WL.x (X.neq (lh) lc) rfl ?_
  refine WL.e3 Nx.thn 0 3 11 (jt4 rfl (s0)) (jt4 rfl (s3)) (lh) ?_
  intro σ5 s0 s3 s11
  refine W.cndp s11 (fun hb => ?_) (fun hb => ?_)
  ·
   have hb := (and_eq0 hm he4).1 hb
   refine W.seq ?_
   refine W.region ?_
   refine WL.x (X.mv (s3)) rfl ?_
   refine WL.x (X.asg (lh)) rfl ?_
   refine WL.e1 Nx.thn 2 (lh) ?_
   intro σ6 s2
   refine W.ret1 (Nx.rblk (Nx.rthn (Nx.rthn (Nx.rblk (Nx.rthn Nx.f1))))) s2 ?_
   refine ⟨congrArg (fun z : Nat => Value.int .i64 (z : Int)) ?_, rfl⟩
   unfold lsb
   rcases (show e = 0 ∨ e = 1 ∨ e = 2 ∨ e = 3 by omega) with rfl | rfl | rfl | rfl
   · have h0 := hb; simp only [Nat.pow_zero, Nat.div_one] at h0; rw [if_pos h0]
   · have h0 := hno 0 (by omega); simp only [Nat.pow_zero, Nat.div_one] at h0; rw [if_neg h0, if_pos hb]
   · have h0 := hno 0 (by omega); simp only [Nat.pow_zero, Nat.div_one] at h0; have h1 := hno 1 (by omega); rw [if_neg h0, if_neg h1, if_pos hb]
   · have h0 := hno 0 (by omega); simp only [Nat.pow_zero, Nat.div_one] at h0; have h1 := hno 1 (by omega); have h2 := hno 2 (by omega); rw [if_neg h0, if_neg h1, if_neg h2, if_pos hb]
  ·
   have hb : ¬ m / 2 ^ e % 2 = 1 := fun h9 => hb ((and_eq0 hm he4).2 h9)
   refine W.skip (Nx.blk Nx.thn) ?_
   refine W.region ?_
   refine WL.x (X.mv (s3)) rfl ?_
   refine WL.x (v := .int .i64 ((2 ^ (e + 1) : Nat) : Int)) (by rw [show ((2 ^ (e + 1) : Nat) : Int) = 2 * ((2 ^ e : Nat) : Int) by rw [Nat.pow_succ]; omega]; exact X.mul lc (lh) (by omega) (by omega)) rfl ?_
   refine WL.x (X.asg (lh)) rfl ?_
   refine WL.e2 Nx.thn 0 3 (jt2 rfl (lt rfl (s0))) (lh) ?_
   intro σ7 s0 s3
   refine ⟨e + 1, by omega, ⟨s0.trans qo1.symm, trivial⟩, rfl, s3, by omega, fun i hi => by by_cases h9 : i = e; (· subst h9; exact hb); (· exact hno i (by omega))⟩
 ·
  refine W.exit (Nx.xthn (Nx.xthn (Nx.xblk Nx.thn))) ?_
  refine W.seq ?_
  refine W.region ?_
  refine WL.x (X.asg lc) rfl ?_
  refine WL.e1 Nx.thn 2 (lh) ?_
  intro σ8 s2
  refine W.ret1 Nx.f1 s2 ?_
  have he4 : e = 4 := by
    refine Nat.le_antisymm he (Nat.le_of_not_lt fun h9 => hle ?_)
    have := Nat.pow_le_pow_right (n := 2) (by decide) (show e ≤ 3 by omega)
    omega
  subst he4
  refine ⟨congrArg (fun z : Nat => Value.int .i64 (z : Int)) ?_, rfl⟩
  have h0 := hno 0 (by omega)
  simp only [Nat.pow_zero, Nat.div_one] at h0
  have h1 := hno 1 (by omega)
  have h2 := hno 2 (by omega)
  have h3 := hno 3 (by omega)
  unfold lsb
  rw [if_neg h0, if_neg h1, if_neg h2, if_neg h3]
end Go.Proofs.YtnfkblboimkcjaaDoor
end

section
set_option linter.unusedVariables false
set_option linter.unusedSimpArgs false
namespace Sg
section
variable {α : Type}
def zs (c : α → Bool) (l : List α) : List α := l.filter (fun x => !c x)
def os (c : α → Bool) (l : List α) : List α := l.filter c
/-- Those of the first kind ahead. -/
def stb (c : α → Bool) (l : List α) : List α := zs c l ++ os c l
def Srt (c : α → Bool) (l : List α) : Prop := stb c l = l
def mg (c : α → Bool) (l r : List α) : List α := zs c l ++ zs c r ++ (os c l ++ os c r)
variable {c : α → Bool}
theorem zs_app (l r : List α) : zs c (l ++ r) = zs c l ++ zs c r := List.filter_append ..
theorem os_app (l r : List α) : os c (l ++ r) = os c l ++ os c r := List.filter_append ..
theorem zs_zs (l : List α) : zs c (zs c l) = zs c l := by unfold zs; rw [List.filter_filter]; congr 1; funext x; cases c x <;> rfl
theorem os_os (l : List α) : os c (os c l) = os c l := by unfold os; rw [List.filter_filter]; congr 1; funext x; cases c x <;> rfl
theorem os_zs (l : List α) : os c (zs c l) = [] := by unfold os zs; rw [List.filter_filter]; refine List.filter_eq_nil_iff.2 fun x _ => ?_; cases c x <;> simp
theorem zs_os (l : List α) : zs c (os c l) = [] := by unfold os zs; rw [List.filter_filter]; refine List.filter_eq_nil_iff.2 fun x _ => ?_; cases c x <;> simp
theorem zs_mem {l : List α} {x : α} (h : x ∈ zs c l) : c x = false := by have := (List.mem_filter.1 h).2; simpa using this
theorem os_mem {l : List α} {x : α} (h : x ∈ os c l) : c x = true := (List.mem_filter.1 h).2
theorem os_none {l : List α} (h : ∀ x ∈ l, c x = false) : os c l = [] := by unfold os; exact List.filter_eq_nil_iff.2 fun x hx => by rw [h x hx]; simp
theorem zs_none {l : List α} (h : ∀ x ∈ l, c x = true) : zs c l = [] := by unfold zs; exact List.filter_eq_nil_iff.2 fun x hx => by rw [h x hx]; simp
theorem zs_nil : zs c ([] : List α) = [] := rfl
theorem os_nil : os c ([] : List α) = [] := rfl
theorem stb_len (l : List α) : (stb c l).length = l.length := by
  induction l with
  | nil => rfl
  | cons x l ih =>
    unfold stb zs os at ih ⊢
    rw [List.length_append] at ih ⊢
    cases h : c x <;> simp [List.filter_cons, h] <;> omega
theorem mg_len (l r : List α) : (mg c l r).length = l.length + r.length := by
  have h1 := stb_len (c := c) l
  have h2 := stb_len (c := c) r
  unfold stb at h1 h2
  unfold mg
  simp only [List.length_append] at h1 h2 ⊢
  omega
theorem zs_stb (l : List α) : zs c (stb c l) = zs c l := by unfold stb; rw [zs_app, zs_zs, zs_os, List.append_nil]
theorem os_stb (l : List α) : os c (stb c l) = os c l := by unfold stb; rw [os_app, os_zs, os_os, List.nil_append]
theorem srt_stb (l : List α) : Srt c (stb c l) := by show stb c (stb c l) = stb c l; rw [show stb c (stb c l) = zs c (stb c l) ++ os c (stb c l) from rfl, zs_stb, os_stb]; rfl
theorem mg_stb (l r : List α) : mg c (stb c l) (stb c r) = stb c (l ++ r) := by
  unfold mg
  rw [zs_stb, zs_stb, os_stb, os_stb]
  unfold stb
  rw [zs_app, os_app]
theorem mg_nil_l {r : List α} (h : Srt c r) : mg c [] r = r := by unfold mg; rw [zs_nil, os_nil]; exact h
theorem mg_nil_r {l : List α} (h : Srt c l) : mg c l [] = l := by unfold mg; rw [zs_nil, os_nil, List.append_nil, List.append_nil]; exact h
/-- Sorted: what comes behind one of the second kind is of it. -/
theorem Srt.mono {l : List α} (h : Srt c l) {i j : Nat} (hij : i ≤ j) (hj : j < l.length) (hi : c (l[i]'(by omega)) = true) : c l[j] = true := by
  have hlen : (zs c l).length ≤ i := by
    refine Nat.le_of_not_lt fun hlt => ?_
    have e : l[i]'(by omega) = (zs c l)[i] := by
      have : l[i]? = (stb c l)[i]? := by rw [h]
      unfold stb at this
      rw [List.getElem?_append_left hlt, List.getElem?_eq_getElem (by omega), List.getElem?_eq_getElem hlt] at this
      exact Option.some.inj this
    rw [e] at hi
    have := zs_mem (List.getElem_mem hlt)
    rw [this] at hi; cases hi
  have hjo : j - (zs c l).length < (os c l).length := by
    have := stb_len (c := c) l
    unfold stb at this
    rw [List.length_append] at this
    omega
  have e : l[j] = (os c l)[j - (zs c l).length] := by
    have : l[j]? = (stb c l)[j]? := by rw [h]
    unfold stb at this
    rw [List.getElem?_append_right (by omega), List.getElem?_eq_getElem hj, List.getElem?_eq_getElem hjo] at this
    exact Option.some.inj this
  rw [e]
  exact os_mem (List.getElem_mem hjo)
theorem Srt.app {l r : List α} (h : Srt c (l ++ r)) : Srt c l ∧ Srt c r ∧ (os c l = [] ∨ zs c r = []) := by
  have hz : os c l = [] ∨ zs c r = [] := by
    by_cases e : os c l = []
    · exact .inl e
    · refine .inr (zs_none fun x hx => ?_)
      obtain ⟨y, hy⟩ := List.exists_mem_of_ne_nil _ e
      have hyl : y ∈ l := (List.mem_filter.1 hy).1
      obtain ⟨i, hi, rfl⟩ := List.mem_iff_getElem.1 hyl
      obtain ⟨j, hj, rfl⟩ := List.mem_iff_getElem.1 hx
      have := h.mono (i := i) (j := l.length + j) (by omega) (by rw [List.length_append]; omega) (by rw [List.getElem_append_left hi]; exact os_mem hy)
      rw [List.getElem_append_right (by omega)] at this
      simpa using this
  have h0 : zs c l ++ zs c r ++ (os c l ++ os c r) = l ++ r := by
    have := h
    unfold Srt stb at this
    rwa [zs_app, os_app] at this
  have hll := stb_len (c := c) l
  unfold stb at hll
  rw [List.length_append] at hll
  have h2 : stb c l ++ stb c r = l ++ r := by
    rw [← h0]
    unfold stb
    rcases hz with e | e <;> rw [e] <;> simp
  obtain ⟨e1, e2⟩ := List.append_inj h2 (stb_len l)
  exact ⟨e1, e2, hz⟩
/-- Merging falls into two mergings. -/
theorem mg_split {L1 L2 R1 R2 : List α} (hL : Srt c (L1 ++ L2)) (hR : Srt c (R1 ++ R2)) (hA : R1 = [] ∨ L2 = [] ∨ (zs c L2 = [] ∧ os c R1 = [])) (hB : R2 = [] ∨ L1 = [] ∨ zs c R2 = [] ∨ os c L1 = []) :
    mg c (L1 ++ L2) (R1 ++ R2) = mg c L1 R1 ++ mg c L2 R2 := by
  have sL := hL.app.2.2
  have sR := hR.app.2.2
  unfold mg
  rw [zs_app, zs_app, os_app, os_app]
  rcases hA with rfl | rfl | ⟨a1, a2⟩ <;> rcases hB with rfl | rfl | b | b <;> rcases sL with s | s <;> rcases sR with r | r <;> simp_all [zs_nil, os_nil]
def swp (D : List α) (i j : Nat) : List α :=
  match D[i]?, D[j]? with
  | some x, some y => (D.set i y).set j x
  | _, _ => D
theorem set_at (p q : List α) (x y : α) : (p ++ x :: q).set p.length y = p ++ y :: q := by rw [List.set_append_right _ _ (Nat.le_refl _)]; simp
theorem swp_split (p m q : List α) (x y : α) : swp (p ++ x :: (m ++ y :: q)) p.length (p.length + 1 + m.length) = p ++ y :: (m ++ x :: q) := by
  have e1 : (p ++ x :: (m ++ y :: q))[p.length]? = some x := by rw [List.getElem?_append_right (Nat.le_refl _)]; simp
  have e2 : (p ++ x :: (m ++ y :: q))[p.length + 1 + m.length]? = some y := by
    rw [List.getElem?_append_right (by omega), show p.length + 1 + m.length - p.length = m.length + 1 by omega, List.getElem?_cons_succ, List.getElem?_append_right (Nat.le_refl _)]; simp
  unfold swp
  rw [e1, e2]
  show ((p ++ x :: (m ++ y :: q)).set p.length y).set (p.length + 1 + m.length) x = _
  rw [set_at]
  have h := set_at (p ++ y :: m) q y x
  rw [show (p ++ y :: m).length = p.length + 1 + m.length by simp; omega, List.append_assoc, List.append_assoc] at h
  simpa using h
theorem swp_split' (p m q : List α) (x y : α) : swp (p ++ x :: (m ++ y :: q)) (p.length + 1 + m.length) p.length = p ++ y :: (m ++ x :: q) := by
  have e1 : (p ++ x :: (m ++ y :: q))[p.length]? = some x := by rw [List.getElem?_append_right (Nat.le_refl _)]; simp
  have e2 : (p ++ x :: (m ++ y :: q))[p.length + 1 + m.length]? = some y := by
    rw [List.getElem?_append_right (by omega), show p.length + 1 + m.length - p.length = m.length + 1 by omega, List.getElem?_cons_succ, List.getElem?_append_right (Nat.le_refl _)]; simp
  unfold swp
  rw [e1, e2]
  show ((p ++ x :: (m ++ y :: q)).set (p.length + 1 + m.length) x).set p.length y = _
  have h := set_at (p ++ x :: m) q y x
  rw [show (p ++ x :: m).length = p.length + 1 + m.length by simp; omega, List.append_assoc, List.append_assoc] at h
  have h' : (p ++ x :: (m ++ y :: q)).set (p.length + 1 + m.length) x = p ++ x :: (m ++ x :: q) := by simpa using h
  rw [h', set_at]
/-- Two runs half exchanged. -/
def swr (p X m Y q : List α) (k : Nat) : List α := p ++ (Y.take k ++ X.drop k) ++ m ++ (X.take k ++ Y.drop k) ++ q
theorem swr_zero (p X m Y q : List α) : swr p X m Y q 0 = p ++ X ++ m ++ Y ++ q := by unfold swr; simp
theorem swr_all (p X m Y q : List α) (h : X.length = Y.length) : swr p X m Y q X.length = p ++ Y ++ m ++ X ++ q := by unfold swr; rw [List.take_length, List.drop_length, h, List.take_length, List.drop_length]; simp
theorem swr_step {p X m Y q : List α} (h : X.length = Y.length) {k : Nat} (hk : k < X.length) : swp (swr p X m Y q k) (p.length + k) (p.length + X.length + m.length + k) = swr p X m Y q (k + 1) := by
  have hky : k < Y.length := by omega
  have dX : X.drop k = X[k] :: X.drop (k + 1) := List.drop_eq_getElem_cons hk
  have dY : Y.drop k = Y[k] :: Y.drop (k + 1) := List.drop_eq_getElem_cons hky
  have tX : X.take (k + 1) = X.take k ++ [X[k]] := List.take_succ_eq_append_getElem hk
  have tY : Y.take (k + 1) = Y.take k ++ [Y[k]] := List.take_succ_eq_append_getElem hky
  have e1 : swr p X m Y q k = (p ++ Y.take k) ++ X[k] :: ((X.drop (k + 1) ++ m ++ X.take k) ++ Y[k] :: (Y.drop (k + 1) ++ q)) := by
    unfold swr
    rw [dX, dY]
    simp only [List.append_assoc, List.cons_append, List.nil_append]
  have e2 : swr p X m Y q (k + 1) = (p ++ Y.take k) ++ Y[k] :: ((X.drop (k + 1) ++ m ++ X.take k) ++ X[k] :: (Y.drop (k + 1) ++ q)) := by
    unfold swr
    rw [tX, tY]
    simp only [List.append_assoc, List.cons_append, List.nil_append]
  have h1 : (p ++ Y.take k).length = p.length + k := by rw [List.length_append, List.length_take]; omega
  have h2 : (X.drop (k + 1) ++ m ++ X.take k).length + 1 + (p.length + k) = p.length + X.length + m.length + k := by simp only [List.length_append, List.length_take, List.length_drop]; omega
  rw [e1, e2]
  have := swp_split (p ++ Y.take k) (X.drop (k + 1) ++ m ++ X.take k) (Y.drop (k + 1) ++ q) X[k] Y[k]
  rw [h1, show p.length + k + 1 + (X.drop (k + 1) ++ m ++ X.take k).length = p.length + X.length + m.length + k by omega] at this
  exact this
/-- One goes back by one. -/
theorem swp_back (p q : List α) (y x : α) : swp (p ++ y :: x :: q) (p.length + 1) p.length = p ++ x :: y :: q := by
  have := swp_split' p [] q y x
  simpa using this
theorem swp_on (p q : List α) (x y : α) : swp (p ++ x :: y :: q) p.length (p.length + 1) = p ++ y :: x :: q := by
  have := swp_split p [] q x y
  simpa using this
theorem stb_take1 (X : List α) : stb c (X.take 1) = X.take 1 := by
  cases X with
  | nil => rfl
  | cons x l => unfold stb zs os; cases h : c x <;> simp [h]
theorem ins_at {p Z O1 TL : List α} {x : α} (h : p.length + Z.length + O1.length < (p ++ Z ++ O1 ++ x :: TL).length) : (p ++ Z ++ O1 ++ x :: TL)[p.length + Z.length + O1.length]'h = x := by
  rw [List.getElem_append_right (by simp only [List.length_append]; omega)]
  simp only [List.length_append, Nat.sub_self, List.getElem_cons_zero]
theorem ins_prev {p Z O1 TL : List α} {x : α} (hz : ∀ y ∈ Z, c y = false) (ho : ∀ y ∈ O1, c y = true) (h0 : 0 < Z.length + O1.length) (h : p.length + Z.length + O1.length - 1 < (p ++ Z ++ O1 ++ x :: TL).length) :
    c ((p ++ Z ++ O1 ++ x :: TL)[p.length + Z.length + O1.length - 1]'h) = decide (0 < O1.length) := by
  rw [List.getElem_append_left (by simp only [List.length_append]; omega)]
  by_cases e : 0 < O1.length
  · rw [List.getElem_append_right (by simp only [List.length_append]; omega), decide_eq_true e]
    exact ho _ (List.getElem_mem _)
  · rw [List.getElem_append_left (by simp only [List.length_append]; omega), List.getElem_append_right (by omega), decide_eq_false e]
    exact hz _ (List.getElem_mem _)
theorem ins_done {T O1 O2 : List α} {x : α} (hO : O1 ++ O2 = os c T) (h2 : c x = true → O2 = []) (hcs : c x = true ∨ O1 = []) : zs c T ++ O1 ++ x :: O2 = stb c (T ++ [x]) := by
  unfold stb
  rw [zs_app, os_app]
  cases hx : c x with
  | true =>
    have e2 := h2 hx
    subst e2
    rw [List.append_nil] at hO
    rw [hO]
    simp [zs, os, hx]
  | false =>
    have e1 : O1 = [] := by
      rcases hcs with h | h
      · rw [hx] at h; cases h
      · exact h
    subst e1
    rw [List.nil_append] at hO
    rw [hO]
    simp [zs, os, hx]
theorem last_of {l : List α} (h : 0 < l.length) : ∃ k y, l = k ++ [y] := ⟨l.dropLast, l.getLast (fun e => by rw [e] at h; exact absurd h (by simp)), (List.dropLast_concat_getLast _).symm⟩
def bt (c : α → Bool) (l : List α) (i : Nat) : Bool := match l[i]? with | some x => c x | none => false
theorem bt_at {l : List α} {i : Nat} (h : i < l.length) : bt c l i = c l[i] := by unfold bt; rw [List.getElem?_eq_getElem h]
theorem zs_len_le (l : List α) : (zs c l).length ≤ l.length := List.length_filter_le ..
theorem srt_bit {l : List α} (h : Srt c l) {i : Nat} (hi : i < l.length) : c l[i] = decide ((zs c l).length ≤ i) := by
  have hs : stb c l = l := h
  by_cases e : (zs c l).length ≤ i
  · rw [decide_eq_true e]
    have hjo : i - (zs c l).length < (os c l).length := by
      have := stb_len (c := c) l
      unfold stb at this
      rw [List.length_append] at this
      omega
    have e9 : l[i] = (os c l)[i - (zs c l).length] := by
      have : l[i]? = (stb c l)[i]? := by rw [hs]
      unfold stb at this
      rw [List.getElem?_append_right e, List.getElem?_eq_getElem hi, List.getElem?_eq_getElem hjo] at this
      exact Option.some.inj this
    rw [e9]
    exact os_mem (List.getElem_mem hjo)
  · rw [decide_eq_false e]
    have hlt : i < (zs c l).length := by omega
    have e9 : l[i] = (zs c l)[i] := by
      have : l[i]? = (stb c l)[i]? := by rw [hs]
      unfold stb at this
      rw [List.getElem?_append_left hlt, List.getElem?_eq_getElem hi, List.getElem?_eq_getElem hlt] at this
      exact Option.some.inj this
    rw [e9]
    exact zs_mem (List.getElem_mem hlt)
theorem bt_srt {l : List α} (h : Srt c l) {i : Nat} (hi : i < l.length) : bt c l i = decide ((zs c l).length ≤ i) := by rw [bt_at hi, srt_bit h hi]
theorem take_zs {l : List α} (h : Srt c l) : l.take (zs c l).length = zs c l := by
  have hs : stb c l = l := h
  have : (stb c l).take (zs c l).length = zs c l := by unfold stb; rw [List.take_append_of_le_length (Nat.le_refl _), List.take_length]
  rwa [hs] at this
theorem drop_zs {l : List α} (h : Srt c l) : l.drop (zs c l).length = os c l := by
  have hs : stb c l = l := h
  have : (stb c l).drop (zs c l).length = os c l := by unfold stb; rw [List.drop_append_of_le_length (Nat.le_refl _), List.drop_length, List.nil_append]
  rwa [hs] at this
theorem sym_split {L R : List α} (hL : Srt c L) (hR : Srt c R) {u v : Nat} (hu : u ≤ L.length) (hv : v ≤ R.length) (hA : v = 0 ∨ u = L.length ∨ (bt c R (v - 1) = false ∧ bt c L u = true))
    (hB : v = R.length ∨ u = 0 ∨ bt c R v = true ∨ bt c L (u - 1) = false) : mg c L R = mg c (L.take u) (R.take v) ++ mg c (L.drop u) (R.drop v) := by
  have h := mg_split (c := c) (L1 := L.take u) (L2 := L.drop u) (R1 := R.take v) (R2 := R.drop v) (by rw [List.take_append_drop]; exact hL) (by rw [List.take_append_drop]; exact hR) ?_ ?_
  · rw [List.take_append_drop, List.take_append_drop] at h
    exact h
  · by_cases e1 : v = 0
    · left; rw [e1]; rfl
    by_cases e2 : u = L.length
    · right; left; rw [e2, List.drop_length]
    rcases hA with h | h | ⟨h1, h2⟩
    · exact absurd h e1
    · exact absurd h e2
    · right; right
      rw [bt_srt hR (by omega)] at h1
      rw [bt_srt hL (by omega)] at h2
      have h1 := of_decide_eq_false h1
      have h2 := of_decide_eq_true h2
      refine ⟨zs_none fun x hx => ?_, os_none fun x hx => ?_⟩
      · obtain ⟨i, hi, rfl⟩ := List.mem_iff_getElem.1 hx
        rw [List.length_drop] at hi
        rw [List.getElem_drop, srt_bit hL (by omega)]
        exact decide_eq_true (by omega)
      · obtain ⟨i, hi, rfl⟩ := List.mem_iff_getElem.1 hx
        rw [List.length_take] at hi
        rw [List.getElem_take, srt_bit hR (by omega)]
        exact decide_eq_false (by omega)
  · by_cases e1 : v = R.length
    · left; rw [e1, List.drop_length]
    by_cases e2 : u = 0
    · right; left; rw [e2]; rfl
    right; right
    rcases hB with h | h | h | h
    · exact absurd h e1
    · exact absurd h e2
    · left
      rw [bt_srt hR (by omega)] at h
      have h := of_decide_eq_true h
      refine zs_none fun x hx => ?_
      obtain ⟨i, hi, rfl⟩ := List.mem_iff_getElem.1 hx
      rw [List.length_drop] at hi
      rw [List.getElem_drop, srt_bit hR (by omega)]
      exact decide_eq_true (by omega)
    · right
      rw [bt_srt hL (by omega)] at h
      have h := of_decide_eq_false h
      refine os_none fun x hx => ?_
      obtain ⟨i, hi, rfl⟩ := List.mem_iff_getElem.1 hx
      rw [List.length_take] at hi
      rw [List.getElem_take, srt_bit hL (by omega)]
      exact decide_eq_false (by omega)
/-- One merged with many. -/
def t1 (c : α → Bool) (x : α) (R : List α) : Nat := if c x = true then (zs c R).length else 0
theorem t1_le (x : α) (R : List α) : t1 c x R ≤ R.length := by
  unfold t1
  split <;> first | exact zs_len_le R | omega
theorem mg_one_l {x : α} {R : List α} (hR : Srt c R) : mg c [x] R = R.take (t1 c x R) ++ x :: R.drop (t1 c x R) := by
  unfold t1 mg
  by_cases h : c x = true
  · rw [if_pos h, take_zs hR, drop_zs hR]
    simp [zs, os, h]
  · have h : c x = false := by simpa using h
    have hs : zs c R ++ os c R = R := hR
    rw [if_neg (by rw [h]; simp)]
    simp only [List.take_zero, List.drop_zero, List.nil_append]
    rw [show zs c [x] = [x] by simp [zs, h], show os c [x] = [] by simp [os, h]]
    simp [hs]
theorem less_one {x : α} {R : List α} (hR : Srt c R) {i : Nat} (hi : i < R.length) : (!c R[i] && c x) = decide (i < t1 c x R) := by
  rw [srt_bit hR hi]
  unfold t1
  cases h : c x
  · rw [if_neg (by simp), Bool.and_false]; exact (decide_eq_false (by omega)).symm
  · rw [if_pos rfl, Bool.and_true, ← decide_not]
    exact decide_eq_decide.2 (by omega)
def t2 (c : α → Bool) (L : List α) (y : α) : Nat := if c y = true then L.length else (zs c L).length
theorem t2_le (L : List α) (y : α) : t2 c L y ≤ L.length := by
  unfold t2
  split <;> first | exact zs_len_le L | omega
theorem mg_one_r {y : α} {L : List α} (hL : Srt c L) : mg c L [y] = L.take (t2 c L y) ++ y :: L.drop (t2 c L y) := by
  unfold t2 mg
  have hs : zs c L ++ os c L = L := hL
  by_cases h : c y = true
  · rw [if_pos h, List.take_length, List.drop_length]
    rw [show zs c [y] = [] by simp [zs, h], show os c [y] = [y] by simp [os, h], List.append_nil, ← List.append_assoc, hs]
  · have h : c y = false := by simpa using h
    rw [if_neg (by rw [h]; simp), take_zs hL, drop_zs hL]
    rw [show zs c [y] = [y] by simp [zs, h], show os c [y] = [] by simp [os, h]]
    simp
theorem less_oner {y : α} {L : List α} (hL : Srt c L) {i : Nat} (hi : i < L.length) : (!(!c y && c L[i])) = decide (i < t2 c L y) := by
  rw [srt_bit hL hi]
  unfold t2
  cases h : c y
  · rw [if_neg (by simp), Bool.not_false, Bool.true_and, ← decide_not]
    exact decide_eq_decide.2 (by omega)
  · rw [if_pos rfl]; exact (decide_eq_true hi).symm
def chk (c : α → Bool) (b : Nat) (l : List α) : List α := if h : b = 0 ∨ l.length ≤ b then stb c l else stb c (l.take b) ++ chk c b (l.drop b)
termination_by l.length
decreasing_by rw [List.length_drop]; omega
theorem chk_small {b : Nat} {l : List α} (h : l.length ≤ b) : chk c b l = stb c l := by rw [chk, dif_pos (.inr h)]
theorem chk_cut {b : Nat} {l r : List α} (h : l.length = b) (hb : 0 < b) : chk c b (l ++ r) = stb c l ++ chk c b r := by
  by_cases e : r = []
  · subst e
    rw [List.append_nil, chk_small (by omega), chk_small (by simp)]
    exact (List.append_nil _).symm
  · have h0 : 0 < r.length := List.length_pos_iff.2 e
    rw [chk, dif_neg (by rw [List.length_append]; omega), ← h, List.take_left', List.drop_left'] <;> rfl
theorem cut_at {l : List α} {b : Nat} (h : b ≤ l.length) : ∃ l1 l2, l = l1 ++ l2 ∧ l1.length = b := ⟨l.take b, l.drop b, (List.take_append_drop _ _).symm, by rw [List.length_take]; omega⟩
theorem fst_at {A B C D : List α} {e k : Nat} (h : e < B.length) (hk : k = A.length + e) (h' : k < (A ++ B ++ C ++ D).length) : (A ++ B ++ C ++ D)[k]'h' = B[e] := by
  subst hk
  rw [List.getElem_append_left (by simp only [List.length_append]; omega), List.getElem_append_left (by simp only [List.length_append]; omega), List.getElem_append_right (by omega)]
  congr 1; omega
theorem snd_at {A B C D : List α} {e k : Nat} (h : e < C.length) (hk : k = A.length + B.length + e) (h' : k < (A ++ B ++ C ++ D).length) : (A ++ B ++ C ++ D)[k]'h' = C[e] := by
  subst hk
  rw [List.getElem_append_left (by simp only [List.length_append]; omega), List.getElem_append_right (by simp only [List.length_append]; omega)]
  congr 1; simp only [List.length_append]; omega
end
end Sg
end

section
set_option linter.unusedVariables false
set_option linter.unusedSimpArgs false
namespace Sg
open Go Go.RowKit
section
variable {P : Program} {n : Nat} {Q : Post} {σ : Env} {w : World} {ops : Array Oper} {rest : List Oper}
variable {d : Nat} {t xt yt : TypeId} {pos : String} {af : Array Edge} {x y : Operand} {a b : Nat}
theorem X.addN (h1 : ev σ x = .int .i64 (a : Int)) (h2 : ev σ y = .int .i64 (b : Int)) (hb : a + b < 4611686018427387904) : X P σ w (.binOp .add xt x y yt) t (.int .i64 ((a + b : Nat) : Int)) := by
  rw [show ((a + b : Nat) : Int) = (a : Int) + (b : Int) by omega]
  exact X.add h1 h2 (by omega) (by omega)
theorem X.subN (h1 : ev σ x = .int .i64 (a : Int)) (h2 : ev σ y = .int .i64 (b : Int)) (hb : b ≤ a) (ha : a < 4611686018427387904) : X P σ w (.binOp .sub xt x y yt) t (.int .i64 ((a - b : Nat) : Int)) := by
  rw [show ((a - b : Nat) : Int) = (a : Int) - (b : Int) by omega]
  exact X.sub h1 h2 (by omega) (by omega)
theorem X.mulN (h1 : ev σ x = .int .i64 (a : Int)) (h2 : ev σ y = .int .i64 (b : Int)) (hb : a * b < 4611686018427387904) : X P σ w (.binOp .mul xt x y yt) t (.int .i64 ((a * b : Nat) : Int)) := by
  have e : ((a * b : Nat) : Int) = (a : Int) * (b : Int) := Int.natCast_mul a b
  rw [e]
  exact X.mul h1 h2 (by rw [← e]; omega) (by rw [← e]; omega)
theorem X.shrN (hx : ev σ x = .int .u64 (a : Int)) : X P σ w (.binOp .shr xt x (.const (.int .u64 1)) yt) t (.int .u64 ((a / 2 : Nat) : Int)) := by
  have h := X.shr (P := P) (σ := σ) (w := w) (xt := xt) (yt := yt) (t := t) (y := .const (.int .u64 1)) (q := 1) hx lc (by decide)
  have e : (a : Int).fdiv (2 ^ Min.min (1 : Int).toNat (IntKind.bits .u64)) = ((a / 2 : Nat) : Int) := by
    rw [show (2 : Int) ^ Min.min (1 : Int).toNat (IntKind.bits .u64) = 2 from rfl, Int.fdiv_eq_ediv_of_nonneg _ (by decide)]
    omega
  rw [e] at h
  exact h
theorem X.ifaceW {ds : TypeDesc} {v : Value} (hu : P.underlying xt = some ds) (hn : (match ds with | .interface _ => False | _ => True)) (hx : ev σ x = v) : X P σ w (.makeInterface xt x) t (.iface xt v) := fun _ _ _ _ => by
  have hr : (Instr.makeInterface xt v).run P w = .ok (.iface xt v) w := by
    cases ds <;> first | exact hn.elim | simp [Instr.makeInterface, run_underlying hu]
  simp [execOp, hx, hr]
/-- An exchange that the library gives. -/
theorem WL.extv2 {f : Nat} {x1 x2 : Operand} {v1 v2 v : Value} {caps : List Value} {tys : Array TypeId} {w' : World} (hx : ev σ x = .func (.func f) #[] caps.toArray) (h1 : ev σ x1 = v1) (h2 : ev σ x2 = v2)
    (hr : (callFunc f (v1 :: v2 :: caps).toArray).run P w = .ok (.value v) w') (hn : Nat.blt d n = true) (h : WL P n ops Q rest (up σ d v) w') :
    WL P n ops Q (⟨some d, .call ⟨.value x, #[x1, x2], tys⟩, t, pos, af, none⟩ :: rest) σ w := by
  refine WL.step (w' := w') rfl rfl hn ?_ h
  simp [execOp, resolve, Deferred.ofValue, invoke, hx, h1, h2, hr]
end
theorem setCells_st {b : Nat} {T : TypeId} : ∀ (vs : List Value) {w : World} {o : Nat} {cs : Array Value}, w.heap[b]? = some (.cells cs T (0, 0)) → o + vs.length ≤ cs.size → St w (w.setCells b o vs) b (.cells (blit cs o vs) T (0, 0))
  | [], w, o, cs, h, _ => ⟨by rw [show blit cs o [] = cs by simp [blit]]; exact h, Ch.refl _ _, rfl⟩
  | v :: r, w, o, cs, h, hl => by
    simp only [List.length_cons] at hl
    have s1 := st_setCell (i := o) h v
    have s2 := setCells_st r (o := o + 1) s1.at_ (by rw [Array.size_setIfInBounds]; omega)
    have hlt : o < cs.toList.length := by rw [Array.length_toList]; omega
    have e : blit (cs.setIfInBounds o v) (o + 1) r = blit cs o (v :: r) := by
      unfold blit
      congr 1
      rw [Array.toList_setIfInBounds, List.set_eq_take_append_cons_drop, if_pos hlt]
      have hl1 : (cs.toList.take o).length = o := by rw [List.length_take]; omega
      have e1 : (cs.toList.take o ++ v :: cs.toList.drop (o + 1)).take (o + 1) = cs.toList.take o ++ [v] := by
        rw [List.take_append, hl1, List.take_of_length_le (by omega), show o + 1 - o = 1 by omega]; rfl
      have e2 : (cs.toList.take o ++ v :: cs.toList.drop (o + 1)).drop (o + 1 + r.length) = cs.toList.drop (o + (v :: r).length) := by
        rw [List.drop_append, hl1, List.drop_eq_nil_of_le (by omega), show o + 1 + r.length - o = r.length + 1 by omega, List.drop_succ_cons, List.drop_drop, List.nil_append, List.length_cons]
        congr 1; omega
      rw [e1, e2]
      simp
    rw [World.setCells, ← e]
    exact ⟨s2.at_, s1.ch.trans s2.ch (fun _ _ e => e) (fun _ _ e => e), s2.size.trans s1.size⟩
/-- What a sorting asks: a comparison by one bit, and an exchange, of m things that lie in a block. -/
structure Srts (P : Program) {α : Type} (c : α → Bool) (m blk lf : Nat) (lb : List Value) (sf : Nat) (sb : List Value) (S : List α → World → Prop) : Prop where
  cal : Callee P lf
  small : m ≤ 1000000000
  len : ∀ D w, S D w → D.length = m
  lt : ∀ D w, S D w → blk < w.heap.size
  ch : ∀ D w w', S D w → Ch0 w w' → S D w'
  less : ∀ D w (i j : Nat) (hi : i < D.length) (hj : j < D.length), S D w → Ret P lf (.int .i64 (i : Int) :: .int .i64 (j : Int) :: lb).toArray w fun v w' => v = .bool (!c D[i] && c D[j]) ∧ Ch0 w w'
  swap : ∀ D w (i j : Nat), i < m → j < m → S D w → ∃ v w', (callFunc sf (.int .i64 (i : Int) :: .int .i64 (j : Int) :: sb).toArray).run P w = .ok (.value v) w' ∧ S (swp D i j) w' ∧ Ch (fun k => k = blk) w w'
theorem Srts.step {P : Program} {α : Type} {c : α → Bool} {m blk lf : Nat} {lb : List Value} {sf : Nat} {sb : List Value} {S : List α → World → Prop} (H : Srts P c m blk lf lb sf sb S) {D : List α} {w w0 : World} {cs : Array Value} {T : TypeId}
    (hS : S D w) (hb : blk < w0.heap.size) (hbx : w.heap[w0.heap.size]? = some (.cells cs T (0, 0))) (hc : Ch (fun k => k = blk) w0 w) {w' : World} (c1 : Ch (fun k => k = blk) w w') : w'.heap[w0.heap.size]? = some (.cells cs T (0, 0)) ∧ Ch (fun k => k = blk) w0 w' :=
  ⟨c1.at hbx (fun e => by (try dsimp only at e); omega), hc.trans c1 (fun _ _ e => e) (fun _ _ e => e)⟩
theorem Srts.same {P : Program} {α : Type} {c : α → Bool} {m blk lf : Nat} {lb : List Value} {sf : Nat} {sb : List Value} {S : List α → World → Prop} (H : Srts P c m blk lf lb sf sb S) {D : List α} {w w0 : World} {cs : Array Value} {T : TypeId}
    (hS : S D w) (hbx : w.heap[w0.heap.size]? = some (.cells cs T (0, 0))) (hc : Ch (fun k => k = blk) w0 w) {w' : World} (c1 : Ch0 w w') : S D w' ∧ w'.heap[w0.heap.size]? = some (.cells cs T (0, 0)) ∧ Ch (fun k => k = blk) w0 w' :=
  ⟨H.ch _ _ _ hS c1, c1.at0 hbx, hc.trans c1 (fun _ _ e => e) (fun _ _ e => False.elim e)⟩
end Sg
end

section
set_option linter.unusedVariables false
set_option linter.unusedSimpArgs false
set_option maxRecDepth 100000
namespace Go.Proofs.YtnfkblboimkcjaaDoor
open Go Go.RowKit Sg
theorem swapr_ok {α : Type} {c : α → Bool} {m blk lf sf : Nat} {lb sb : List Value} {S : List α → World → Prop} (H : Srts Tryd.prog c m blk lf lb sf sb S) (p U M V q : List α) (w : World) (hS : S (p ++ U ++ M ++ V ++ q) w) (hXY : U.length = V.length) (a b k : Nat) (ha : a = p.length) (hb : b = p.length + U.length + M.length) (hk : k = U.length) :
  Sg.Ret Tryd.prog 89 #[.agg #[.func (.func lf) #[] lb.toArray, .func (.func sf) #[] sb.toArray], .int .i64 ((a : Nat) : Int), .int .i64 ((b : Nat) : Int), .int .i64 ((k : Nat) : Int)] w fun v w' => S (p ++ V ++ M ++ U ++ q) w' ∧ Ch (fun k => k = blk) w w' := by
 have hlt := H.lt _ _ hS
 have hsm := H.small
 have hm := H.len _ _ hS
 simp only [List.length_append] at hm
 refine enter0 (n := 23) (l := [.agg #[.func (.func lf) #[] lb.toArray, .func (.func sf) #[] sb.toArray], .int .i64 ((a : Nat) : Int), .int .i64 ((b : Nat) : Int), .int .i64 ((k : Nat) : Int)]) Tryd.func89 rfl rfl rfl rfl ?_
 refine W.g4 0 1 2 3 (v1 := .agg #[.func (.func lf) #[] lb.toArray, .func (.func sf) #[] sb.toArray]) (v2 := .int .i64 ((a : Nat) : Int)) (v3 := .int .i64 ((b : Nat) : Int)) (v4 := .int .i64 ((k : Nat) : Int)) rfl rfl rfl rfl ?_; intro σ s0 s1 s2 s3
 refine W.seq ?_
 refine W.region ?_
 refine WL.box (s0) rfl ?_
 intro w1 u0_0; have hu0_0 := u0_0.at_; have cu0_0 := u0_0.ch; have zu0_0 := u0_0.size
 refine WL.e4 Nx.thn 1 2 3 4 (lt rfl (s1)) (lt rfl (s2)) (lt rfl (s3)) (lh) ?_
 intro σ1 s1 s2 s3 s4
 refine W.seq ?_
 refine W.region ?_
 refine WL.x (X.asg lc) rfl ?_
 refine WL.e5 Nx.thn 1 2 3 4 8 (lt rfl (s1)) (lt rfl (s2)) (lt rfl (s3)) (lt rfl (s4)) (lh) ?_
 intro σ2 s1 s2 s3 s4 s8
 refine W.block ?_
 have qo1 := s1
 have qo2 := s2
 have qo3 := s3
 have qo4 := s4
 -- loop 0: kept [1, 2, 3, 4], varied [8]
 refine W.loop (G := Nat) (fun i σ' w' => (σ' 1 = σ2 1 ∧ σ' 2 = σ2 2 ∧ σ' 3 = σ2 3 ∧ σ' 4 = σ2 4 ∧ True) ∧ (σ' 8 = .int .i64 ((i : Nat) : Int) ∧ i ≤ k ∧ S (swr p U M V q i) w' ∧ (w').heap[w.heap.size]? = some (.cells #[.func (.func lf) #[] lb.toArray, .func (.func sf) #[] sb.toArray] 120 (0, 0)) ∧ Ch (fun j => j = blk) w w')) (fun i => k - i) (0) ⟨⟨rfl, rfl, rfl, rfl, trivial⟩, s8, by omega, (by rw [swr_zero]; exact H.ch _ _ _ hS cu0_0), hu0_0, Ch.weak cu0_0⟩ ?_
 rintro i σ3 w2 ⟨⟨f1, f2, f3, f4, _⟩, s8, hi, hSi, hbx, hcl⟩
 have s1 := f1.trans qo1
 have s2 := f2.trans qo2
 have s3 := f3.trans qo3
 have s4 := f4.trans qo4
 refine W.seq ?_
 refine W.seq ?_
 refine W.region ?_
 refine WL.x (X.mv (s8)) rfl ?_
 refine WL.x (X.mv (lt rfl (s3))) rfl ?_
 refine WL.x (X.lss (lt rfl (lh)) (lh)) rfl ?_
 refine WL.e6 Nx.thn 1 2 3 4 8 11 (jt2 rfl (lt rfl (s1))) (jt2 rfl (lt rfl (s2))) (jt2 rfl (lt rfl (s3))) (jt2 rfl (lt rfl (s4))) (jt2 rfl (lt rfl (s8))) (lh) ?_
 intro σ4 s1 s2 s3 s4 s8 s11
 refine W.cndp s11 (fun hlt2 => ?_) (fun hlt2 => ?_)
 ·
  refine W.skip Nx.thn ?_
  refine W.seq ?_
  refine W.block ?_
  refine W.region ?_
  refine WL.x (X.fieldAddr fd120_1 (s4)) rfl ?_
  refine WL.x (X.load pl116 (lh) (by assumption) (by rfl)) rfl ?_
  refine WL.x (X.mv (jt2 rfl (s1))) rfl ?_
  refine WL.x (X.mv (jt2 rfl (lt rfl (s8)))) rfl ?_
  refine WL.x (X.addN (lt rfl (lh)) (lh) (by omega)) rfl ?_
  refine WL.x (X.mv (jt4 rfl (lt rfl (s2)))) rfl ?_
  refine WL.x (X.mv (jt4 rfl (jt2 rfl (s8)))) rfl ?_
  refine WL.x (X.addN (lt rfl (lh)) (lh) (by omega)) rfl ?_
  obtain ⟨v9, w3, hr9, hs9, ck⟩ := H.swap _ w2 (a + i) (b + i) (by omega) (by omega) hSi
  rw [ha, hb, swr_step hXY (by omega)] at hs9
  obtain ⟨hbx2, hcl2⟩ := H.step hSi hlt hbx hcl ck
  refine WL.extv2 (jt4 rfl (jt2 rfl (lh))) (jt2 rfl (lt rfl (lh))) (lh) hr9 rfl ?_
  refine WL.e5 (Nx.blk Nx.thn) 1 2 3 4 8 (jt8 rfl (lt rfl (s1))) (jt8 rfl (lt rfl (s2))) (jt8 rfl (lt rfl (s3))) (jt8 rfl (lt rfl (s4))) (jt8 rfl (lt rfl (s8))) ?_
  intro σ5 s1 s2 s3 s4 s8
  refine W.region ?_
  refine WL.x (X.mv (s8)) rfl ?_
  refine WL.x (X.addN (b := 1) (lh) lc (by omega)) rfl ?_
  refine WL.x (X.asg (lh)) rfl ?_
  refine WL.e5 Nx.thn 1 2 3 4 8 (jt2 rfl (lt rfl (s1))) (jt2 rfl (lt rfl (s2))) (jt2 rfl (lt rfl (s3))) (jt2 rfl (lt rfl (s4))) (lh) ?_
  intro σ6 s1 s2 s3 s4 s8
  refine ⟨i + 1, by omega, ⟨s1.trans qo1.symm, s2.trans qo2.symm, s3.trans qo3.symm, s4.trans qo4.symm, trivial⟩, s8, by omega, hs9, hbx2, hcl2⟩
 ·
  refine W.exit (Nx.xthn (Nx.xthn (Nx.xblk Nx.n0))) ?_
  have hik : i = U.length := by omega
  rw [hik, swr_all _ _ _ _ _ hXY] at hSi
  exact ⟨hSi, hcl⟩
set_option maxHeartbeats 800000 in
theorem rotate_ok {α : Type} {c : α → Bool} {m blk lf sf : Nat} {lb sb : List Value} {S : List α → World → Prop} (H : Srts Tryd.prog c m blk lf lb sf sb S) (p U V q : List α) (w : World) (hS : S (p ++ U ++ V ++ q) w) (hX0 : 0 < U.length) (hY0 : 0 < V.length) (a mm b : Nat) (ha : a = p.length) (hmm : mm = p.length + U.length) (hb : b = p.length + U.length + V.length) :
  Sg.Ret Tryd.prog 88 #[.agg #[.func (.func lf) #[] lb.toArray, .func (.func sf) #[] sb.toArray], .int .i64 ((a : Nat) : Int), .int .i64 ((mm : Nat) : Int), .int .i64 ((b : Nat) : Int)] w fun v w' => S (p ++ V ++ U ++ q) w' ∧ Ch (fun k => k = blk) w w' := by
 have hlt := H.lt _ _ hS
 have hsm := H.small
 have hm := H.len _ _ hS
 simp only [List.length_append] at hm
 refine enter0 (n := 53) (l := [.agg #[.func (.func lf) #[] lb.toArray, .func (.func sf) #[] sb.toArray], .int .i64 ((a : Nat) : Int), .int .i64 ((mm : Nat) : Int), .int .i64 ((b : Nat) : Int)]) Tryd.func88 rfl rfl rfl rfl ?_
 refine W.g4 0 1 2 3 (v1 := .agg #[.func (.func lf) #[] lb.toArray, .func (.func sf) #[] sb.toArray]) (v2 := .int .i64 ((a : Nat) : Int)) (v3 := .int .i64 ((mm : Nat) : Int)) (v4 := .int .i64 ((b : Nat) : Int)) rfl rfl rfl rfl ?_; intro σ s0 s1 s2 s3
 refine W.seq ?_
 refine W.region ?_
 refine WL.box (s0) rfl ?_
 intro w1 u0_0; have hu0_0 := u0_0.at_; have cu0_0 := u0_0.ch; have zu0_0 := u0_0.size
 refine WL.e4 Nx.thn 1 2 3 4 (lt rfl (s1)) (lt rfl (s2)) (lt rfl (s3)) (lh) ?_
 intro σ1 s1 s2 s3 s4
 refine W.seq ?_
 refine W.region ?_
 refine WL.x (X.mv (s2)) rfl ?_
 refine WL.x (X.mv (lt rfl (s1))) rfl ?_
 refine WL.x (X.subN (lt rfl (lh)) (lh) (by omega) (by omega)) rfl ?_
 refine WL.x (X.asg (lh)) rfl ?_
 refine WL.e4 Nx.thn 2 3 4 8 (jt4 rfl (s2)) (jt4 rfl (s3)) (jt4 rfl (s4)) (lh) ?_
 intro σ2 s2 s3 s4 s8
 refine W.seq ?_
 refine W.region ?_
 refine WL.x (X.mv (s3)) rfl ?_
 refine WL.x (X.mv (lt rfl (s2))) rfl ?_
 refine WL.x (X.subN (lt rfl (lh)) (lh) (by omega) (by omega)) rfl ?_
 refine WL.x (X.asg (lh)) rfl ?_
 refine WL.e4 Nx.thn 2 4 8 9 (jt4 rfl (s2)) (jt4 rfl (s4)) (jt4 rfl (s8)) (lh) ?_
 intro σ3 s2 s4 s8 s9
 refine W.seq ?_
 refine W.block ?_
 have qo1 := s2
 have qo2 := s4
 -- loop 0: kept [2, 4], varied [8, 9]
 refine W.loop (G := List α × List α × List α × List α) (fun (A, X1, Y1, B) σ' w' => (σ' 2 = σ3 2 ∧ σ' 4 = σ3 4 ∧ True) ∧ (σ' 8 = .int .i64 ((X1.length : Nat) : Int) ∧ σ' 9 = .int .i64 ((Y1.length : Nat) : Int) ∧ 0 < X1.length ∧ 0 < Y1.length ∧ S (p ++ A ++ X1 ++ Y1 ++ B ++ q) w' ∧ A ++ (Y1 ++ X1) ++ B = V ++ U ∧ p.length + A.length + X1.length = mm ∧ A.length + X1.length + Y1.length + B.length = U.length + V.length ∧ (w').heap[w.heap.size]? = some (.cells #[.func (.func lf) #[] lb.toArray, .func (.func sf) #[] sb.toArray] 120 (0, 0)) ∧ Ch (fun j => j = blk) w w')) (fun (A, X1, Y1, B) => X1.length + Y1.length) (([], U, V, [])) ⟨⟨rfl, rfl, trivial⟩, s8.trans (by congr 2; omega), s9.trans (by congr 2; omega), hX0, hY0, (by simpa only [List.append_nil] using H.ch _ _ _ hS cu0_0), (by simp), (by simp only [List.length_nil]; omega), (by simp only [List.length_nil]; omega), hu0_0, Ch.weak cu0_0⟩ ?_
 rintro ⟨A, X1, Y1, B⟩ σ4 w2 ⟨⟨f2, f4, _⟩, s8, s9, hx0, hy0, hSi, heq, hml, hsum, hbx, hcl⟩
 have s2 := f2.trans qo1
 have s4 := f4.trans qo2
 refine W.seq ?_
 refine W.seq ?_
 refine W.region ?_
 refine WL.x (X.mv (s8)) rfl ?_
 refine WL.x (X.mv (lt rfl (s9))) rfl ?_
 refine WL.x (X.neq (lt rfl (lh)) (lh)) rfl ?_
 refine WL.e5 Nx.thn 2 4 8 9 18 (jt2 rfl (lt rfl (s2))) (jt2 rfl (lt rfl (s4))) (jt2 rfl (lt rfl (s8))) (jt2 rfl (lt rfl (s9))) (lh) ?_
 intro σ5 s2 s4 s8 s9 s18
 refine W.cndp s18 (fun hne => ?_) (fun hne => ?_)
 ·
  refine W.skip Nx.thn ?_
  refine W.block ?_
  refine W.seq ?_
  refine W.region ?_
  refine WL.x (X.mv (s8)) rfl ?_
  refine WL.x (X.mv (lt rfl (s9))) rfl ?_
  refine WL.x (X.gtr (lt rfl (lh)) (lh)) rfl ?_
  refine WL.e5 Nx.thn 2 4 8 9 21 (jt2 rfl (lt rfl (s2))) (jt2 rfl (lt rfl (s4))) (jt2 rfl (lt rfl (s8))) (jt2 rfl (lt rfl (s9))) (lh) ?_
  intro σ6 s2 s4 s8 s9 s21
  refine W.cndp s21 (fun hgt => ?_) (fun hgt => ?_)
  ·
   obtain ⟨Xa, Xb, hX1, hXa⟩ := cut_at (l := X1) (b := Y1.length) (by omega)
   have hXl : X1.length = Xa.length + Xb.length := by rw [hX1, List.length_append]
   refine W.seq ?_
   refine W.region ?_
   refine WL.x (X.loadBox ag120 (s4) (by assumption) rfl) rfl ?_
   refine WL.x (X.mv (lt rfl (s2))) rfl ?_
   refine WL.x (X.mv (jt2 rfl (s8))) rfl ?_
   refine WL.x (X.subN (lt rfl (lh)) (lh) (by omega) (by omega)) rfl ?_
   refine WL.x (X.mv (jt4 rfl (s2))) rfl ?_
   refine WL.x (X.mv (jt4 rfl (lt rfl (s9)))) rfl ?_
   refine WL.call4 ce89 (jt4 rfl (lt rfl (lh))) (jt2 rfl (lh)) (lt rfl (lh)) (lh) (swapr_ok H (p ++ A) Xa Xb Y1 (B ++ q) w2 (by have h9 := hSi; rw [hX1] at h9; simpa only [List.append_assoc] using h9) hXa _ _ _ (by rw [List.length_append]; omega) (by rw [List.length_append]; omega) (by omega)) rfl ?_
   rintro _ w3 ⟨hs9, cw⟩
   obtain ⟨hbx, hcl⟩ := H.step hSi hlt hbx hcl cw
   refine WL.e4 Nx.thn 2 4 8 9 (jt4 rfl (jt2 rfl (lt rfl (s2)))) (jt4 rfl (jt2 rfl (lt rfl (s4)))) (jt4 rfl (jt2 rfl (lt rfl (s8)))) (jt4 rfl (jt2 rfl (lt rfl (s9)))) ?_
   intro σ7 s2 s4 s8 s9
   refine W.region ?_
   refine WL.x (X.mv (s8)) rfl ?_
   refine WL.x (X.mv (lt rfl (s9))) rfl ?_
   refine WL.x (X.subN (lt rfl (lh)) (lh) (by omega) (by omega)) rfl ?_
   refine WL.x (X.asg (lh)) rfl ?_
   refine WL.e4 (Nx.blk Nx.thn) 2 4 8 9 (jt4 rfl (s2)) (jt4 rfl (s4)) (lh) (jt4 rfl (s9)) ?_
   intro σ8 s2 s4 s8 s9
   refine ⟨(A ++ Y1, Xb, Xa, B), by (try dsimp only); omega, ⟨s2.trans qo1.symm, s4.trans qo2.symm, trivial⟩, s8.trans (by congr 2; omega), s9.trans (by congr 2; omega), by omega, by omega, (by simpa only [List.append_assoc] using hs9), (by rw [← heq, hX1]; simp only [List.append_assoc]), (by rw [List.length_append]; omega), (by rw [List.length_append]; omega), hbx, hcl⟩
  ·
   obtain ⟨Ya, Yb, hY1, hYa⟩ := cut_at (l := Y1) (b := Y1.length - X1.length) (by omega)
   have hYl : Y1.length = Ya.length + Yb.length := by rw [hY1, List.length_append]
   refine W.seq ?_
   refine W.region ?_
   refine WL.x (X.loadBox ag120 (s4) (by assumption) rfl) rfl ?_
   refine WL.x (X.mv (lt rfl (s2))) rfl ?_
   refine WL.x (X.mv (jt2 rfl (s8))) rfl ?_
   refine WL.x (X.subN (lt rfl (lh)) (lh) (by omega) (by omega)) rfl ?_
   refine WL.x (X.mv (jt4 rfl (s2))) rfl ?_
   refine WL.x (X.mv (jt4 rfl (lt rfl (s9)))) rfl ?_
   refine WL.x (X.addN (lt rfl (lh)) (lh) (by omega)) rfl ?_
   refine WL.x (X.mv (jt4 rfl (jt2 rfl (lt rfl (s8))))) rfl ?_
   refine WL.x (X.subN (lt rfl (lh)) (lh) (by omega) (by omega)) rfl ?_
   refine WL.x (X.mv (jt8 rfl (lt rfl (s8)))) rfl ?_
   refine WL.call4 ce89 (jt8 rfl (lt rfl (lh))) (jt4 rfl (jt2 rfl (lh))) (lt rfl (lh)) (lh) (swapr_ok H (p ++ A) X1 Ya Yb (B ++ q) w2 (by have h9 := hSi; rw [hY1] at h9; simpa only [List.append_assoc] using h9) (by omega) _ _ _ (by rw [List.length_append]; omega) (by rw [List.length_append]; omega) (by omega)) rfl ?_
   rintro _ w4 ⟨hs9, cw⟩
   obtain ⟨hbx, hcl⟩ := H.step hSi hlt hbx hcl cw
   refine WL.e4 Nx.thn 2 4 8 9 (jt8 rfl (jt2 rfl (lt rfl (s2)))) (jt8 rfl (jt2 rfl (lt rfl (s4)))) (jt8 rfl (jt2 rfl (lt rfl (s8)))) (jt8 rfl (jt2 rfl (lt rfl (s9)))) ?_
   intro σ9 s2 s4 s8 s9
   refine W.region ?_
   refine WL.x (X.mv (s9)) rfl ?_
   refine WL.x (X.mv (lt rfl (s8))) rfl ?_
   refine WL.x (X.subN (lt rfl (lh)) (lh) (by omega) (by omega)) rfl ?_
   refine WL.x (X.asg (lh)) rfl ?_
   refine WL.e4 (Nx.blk Nx.thn) 2 4 8 9 (jt4 rfl (s2)) (jt4 rfl (s4)) (jt4 rfl (s8)) (lh) ?_
   intro σ10 s2 s4 s8 s9
   refine ⟨(A, Yb, Ya, X1 ++ B), by (try dsimp only); omega, ⟨s2.trans qo1.symm, s4.trans qo2.symm, trivial⟩, s8.trans (by congr 2; omega), s9.trans (by congr 2; omega), by omega, by omega, (by simpa only [List.append_assoc] using hs9), (by rw [← heq, hY1]; simp only [List.append_assoc]), by omega, (by rw [List.length_append]; omega), hbx, hcl⟩
 ·
  refine W.exit (Nx.xthn (Nx.xthn (Nx.xblk Nx.thn))) ?_
  refine W.region ?_
  refine WL.x (X.loadBox ag120 (s4) (by assumption) rfl) rfl ?_
  refine WL.x (X.mv (lt rfl (s2))) rfl ?_
  refine WL.x (X.mv (jt2 rfl (s8))) rfl ?_
  refine WL.x (X.subN (lt rfl (lh)) (lh) (by omega) (by omega)) rfl ?_
  refine WL.x (X.mv (jt4 rfl (s2))) rfl ?_
  refine WL.x (X.mv (jt4 rfl (lt rfl (s8)))) rfl ?_
  refine WL.call4 ce89 (jt4 rfl (lt rfl (lh))) (jt2 rfl (lh)) (lt rfl (lh)) (lh) (swapr_ok H (p ++ A) X1 [] Y1 (B ++ q) w2 (by simpa only [List.append_assoc, List.nil_append] using hSi) (by omega) _ _ _ (by rw [List.length_append]; omega) (by rw [List.length_append]; simp only [List.length_nil]; omega) (by omega)) rfl ?_
  rintro _ w5 ⟨hs9, cw⟩
  obtain ⟨hbx, hcl⟩ := H.step hSi hlt hbx hcl cw
  refine WL.e0 Nx.n0  ?_
  intro σ11 
  refine ⟨?_, hcl⟩
  have h9 : p ++ A ++ Y1 ++ [] ++ X1 ++ (B ++ q) = p ++ V ++ U ++ q := by
    have := congrArg (fun z => p ++ z ++ q) heq
    simpa only [List.append_assoc, List.nil_append] using this
  rw [← h9]
  exact hs9
set_option maxHeartbeats 800000 in
theorem insert_ok {α : Type} {c : α → Bool} {m blk lf sf : Nat} {lb sb : List Value} {S : List α → World → Prop} (H : Srts Tryd.prog c m blk lf lb sf sb S) (p U q : List α) (w : World) (hS : S (p ++ U ++ q) w) (a b : Nat) (ha : a = p.length) (hb : b = p.length + U.length) :
  Sg.Ret Tryd.prog 85 #[.agg #[.func (.func lf) #[] lb.toArray, .func (.func sf) #[] sb.toArray], .int .i64 ((a : Nat) : Int), .int .i64 ((b : Nat) : Int)] w fun v w' => S (p ++ stb c U ++ q) w' ∧ Ch (fun k => k = blk) w w' := by
 have hlt := H.lt _ _ hS
 have hsm := H.small
 have hm := H.len _ _ hS
 simp only [List.length_append] at hm
 refine enter0 (n := 35) (l := [.agg #[.func (.func lf) #[] lb.toArray, .func (.func sf) #[] sb.toArray], .int .i64 ((a : Nat) : Int), .int .i64 ((b : Nat) : Int)]) Tryd.func85 rfl rfl rfl rfl ?_
 refine W.g3 0 1 2 (v1 := .agg #[.func (.func lf) #[] lb.toArray, .func (.func sf) #[] sb.toArray]) (v2 := .int .i64 ((a : Nat) : Int)) (v3 := .int .i64 ((b : Nat) : Int)) rfl rfl rfl ?_; intro σ s0 s1 s2
 refine W.seq ?_
 refine W.region ?_
 refine WL.box (s0) rfl ?_
 intro w1 u0_0; have hu0_0 := u0_0.at_; have cu0_0 := u0_0.ch; have zu0_0 := u0_0.size
 refine WL.e3 Nx.thn 1 2 3 (lt rfl (s1)) (lt rfl (s2)) (lh) ?_
 intro σ1 s1 s2 s3
 refine W.seq ?_
 refine W.region ?_
 refine WL.x (X.mv (s1)) rfl ?_
 refine WL.x (X.addN (b := 1) (lh) lc (by omega)) rfl ?_
 refine WL.x (X.asg (lh)) rfl ?_
 refine WL.e4 Nx.thn 1 2 3 6 (jt2 rfl (lt rfl (s1))) (jt2 rfl (lt rfl (s2))) (jt2 rfl (lt rfl (s3))) (lh) ?_
 intro σ2 s1 s2 s3 s6
 refine W.block ?_
 have qo1 := s1
 have qo2 := s2
 have qo3 := s3
 -- loop 0: kept [1, 2, 3], varied [6]
 refine W.loop (G := Nat) (fun k σ' w' => (σ' 1 = σ2 1 ∧ σ' 2 = σ2 2 ∧ σ' 3 = σ2 3 ∧ True) ∧ (σ' 6 = .int .i64 ((p.length + k : Nat) : Int) ∧ 1 ≤ k ∧ k ≤ U.length + 1 ∧ S (p ++ stb c (U.take k) ++ U.drop k ++ q) w' ∧ (w').heap[w.heap.size]? = some (.cells #[.func (.func lf) #[] lb.toArray, .func (.func sf) #[] sb.toArray] 120 (0, 0)) ∧ Ch (fun j => j = blk) w w')) (fun k => U.length + 1 - k) (1) ⟨⟨rfl, rfl, rfl, trivial⟩, s6.trans (by rw [ha]), by omega, by omega, (by rw [stb_take1]; have h9 := H.ch _ _ _ hS cu0_0; rw [List.append_assoc p, List.take_append_drop]; exact h9), hu0_0, Ch.weak cu0_0⟩ ?_
 rintro k σ3 w2 ⟨⟨f1, f2, f3, _⟩, s6, hk1, hk2, hSi, hbx, hcl⟩
 have s1 := f1.trans qo1
 have s2 := f2.trans qo2
 have s3 := f3.trans qo3
 refine W.seq ?_
 refine W.seq ?_
 refine W.region ?_
 refine WL.x (X.mv (s6)) rfl ?_
 refine WL.x (X.mv (lt rfl (s2))) rfl ?_
 refine WL.x (X.lss (lt rfl (lh)) (lh)) rfl ?_
 refine WL.e5 Nx.thn 1 2 3 6 12 (jt2 rfl (lt rfl (s1))) (jt2 rfl (lt rfl (s2))) (jt2 rfl (lt rfl (s3))) (jt2 rfl (lt rfl (s6))) (lh) ?_
 intro σ4 s1 s2 s3 s6 s12
 refine W.cndp s12 (fun hlt2 => ?_) (fun hlt2 => ?_)
 ·
  have hkX : k < U.length := by omega
  obtain ⟨x, hx⟩ : ∃ x, U[k] = x := ⟨_, rfl⟩
  have hdX : U.drop k = x :: U.drop (k + 1) := by rw [← hx]; exact List.drop_eq_getElem_cons hkX
  have htX : U.take (k + 1) = U.take k ++ [x] := by rw [← hx]; exact List.take_succ_eq_append_getElem hkX
  obtain ⟨Z, hZ⟩ : ∃ Z, Z = zs c (U.take k) := ⟨_, rfl⟩
  obtain ⟨O, hOO⟩ : ∃ O, O = os c (U.take k) := ⟨_, rfl⟩
  have hZO : Z.length + O.length = k := by
    have h9 := stb_len (c := c) (U.take k)
    unfold stb at h9
    rw [← hZ, ← hOO, List.length_append, List.length_take] at h9
    omega
  have hSk : S (p ++ Z ++ O ++ x :: ([] ++ (U.drop (k + 1) ++ q))) w2 := by
    have h9 := hSi
    rw [hdX] at h9
    unfold stb at h9
    rw [← hZ, ← hOO] at h9
    simpa only [List.append_assoc, List.cons_append, List.nil_append] using h9
  refine W.skip Nx.thn ?_
  refine W.seq ?_
  refine W.block ?_
  refine W.seq ?_
  refine W.region ?_
  refine WL.x (X.mv (s6)) rfl ?_
  refine WL.x (X.asg (lh)) rfl ?_
  refine WL.e5 Nx.thn 1 2 3 6 7 (jt2 rfl (s1)) (jt2 rfl (s2)) (jt2 rfl (s3)) (jt2 rfl (s6)) (lh) ?_
  intro σ5 s1 s2 s3 s6 s7
  refine W.block ?_
  have qo4 := s1
  have qo5 := s2
  have qo6 := s3
  have qo7 := s6
  -- loop 1: kept [1, 2, 3, 6], varied [7]
  refine W.loop (G := List α × List α) (fun (O1, O2) σ' w' => (σ' 1 = σ5 1 ∧ σ' 2 = σ5 2 ∧ σ' 3 = σ5 3 ∧ σ' 6 = σ5 6 ∧ True) ∧ (σ' 7 = .int .i64 ((p.length + Z.length + O1.length : Nat) : Int) ∧ O1 ++ O2 = O ∧ (c x = true → O2 = []) ∧ O1.length + O2.length = O.length ∧ S (p ++ Z ++ O1 ++ x :: (O2 ++ (U.drop (k + 1) ++ q))) w' ∧ (w').heap[w.heap.size]? = some (.cells #[.func (.func lf) #[] lb.toArray, .func (.func sf) #[] sb.toArray] 120 (0, 0)) ∧ Ch (fun j => j = blk) w w')) (fun (O1, O2) => O1.length) ((O, [])) ⟨⟨rfl, rfl, rfl, rfl, trivial⟩, s7.trans (by congr 2; omega), List.append_nil _, (fun _ => rfl), (by simp only [List.length_nil]; omega), hSk, hbx, hcl⟩ ?_
  rintro ⟨O1, O2⟩ σ6 w3 ⟨⟨f1, f2, f3, f6, _⟩, s7, hO12, hx2, hO12l, hSj, hbx, hcl⟩
  have s1 := f1.trans qo4
  have s2 := f2.trans qo5
  have s3 := f3.trans qo6
  have s6 := f6.trans qo7
  refine W.seq ?_
  refine W.seq ?_
  refine W.region ?_
  refine WL.x (X.mv (s7)) rfl ?_
  refine WL.x (X.mv (lt rfl (s1))) rfl ?_
  refine WL.x (X.gtr (lt rfl (lh)) (lh)) rfl ?_
  refine WL.x (X.mv (lh)) rfl ?_
  refine WL.splitp (lh) (fun hja => ?_) (fun hja => ?_)
  ·
   refine WL.yes rfl rfl (lh) (decide_eq_true hja) ?_
   refine WL.x (X.fieldAddr fd120_0 (jt4 rfl (s3))) rfl ?_
   refine WL.yes rfl rfl (lt rfl (lh)) (decide_eq_true hja) ?_
   refine WL.x (X.load pl87 (lh) (by assumption) (by rfl)) rfl ?_
   refine WL.yes rfl rfl (jt2 rfl (lh)) (decide_eq_true hja) ?_
   refine WL.x (X.mv (jt4 rfl (jt2 rfl (s7)))) rfl ?_
   refine WL.yes rfl rfl (jt2 rfl (lt rfl (lh))) (decide_eq_true hja) ?_
   refine WL.x (X.mv (jt4 rfl (jt2 rfl (lt rfl (s7))))) rfl ?_
   refine WL.yes rfl rfl (jt4 rfl (lh)) (decide_eq_true hja) ?_
   refine WL.x (X.subN (b := 1) (lh) lc (by omega) (by omega)) rfl ?_
   refine WL.yes rfl rfl (jt4 rfl (lt rfl (lh))) (decide_eq_true hja) ?_
   have hzf : ∀ y ∈ Z, c y = false := fun y hy => by rw [hZ] at hy; exact zs_mem hy
   have hof : ∀ y ∈ O1, c y = true := fun y hy => by
     have h9 : y ∈ O := by rw [← hO12]; exact List.mem_append_left _ hy
     rw [hOO] at h9; exact os_mem h9
   have hDl := H.len _ _ hSj
   have hd1 := ins_at (p := p) (Z := Z) (O1 := O1) (TL := (O2 ++ (U.drop (k + 1) ++ q))) (x := x) (by simp only [List.length_append, List.length_cons]; omega)
   have hd2 := ins_prev (p := p) (x := x) (TL := (O2 ++ (U.drop (k + 1) ++ q))) hzf hof (by omega) (by simp only [List.length_append, List.length_cons]; omega)
   refine WL.callv2 H.cal (jt2 rfl (lt rfl (lh))) (jt2 rfl (lh)) (lh) (H.less _ w3 (p.length + Z.length + O1.length) (p.length + Z.length + O1.length - 1) (by simp only [List.length_append, List.length_cons]; omega) (by simp only [List.length_append, List.length_cons]; omega) hSj) rfl ?_
   rintro _ w4 ⟨rfl, cl⟩
   rw [hd1, hd2]
   obtain ⟨hSj, hbx, hcl⟩ := H.same hSj hbx hcl cl
   refine WL.x (X.pickT (jt4 rfl (jt2 rfl (lh))) (decide_eq_true hja) (lh)) rfl ?_
   refine WL.e6 Nx.thn 1 2 3 6 7 26 (jt8 rfl (jt2 rfl (lt rfl (s1)))) (jt8 rfl (jt2 rfl (lt rfl (s2)))) (jt8 rfl (jt2 rfl (lt rfl (s3)))) (jt8 rfl (jt2 rfl (lt rfl (s6)))) (jt8 rfl (jt2 rfl (lt rfl (s7)))) (lh) ?_
   intro σ7 s1 s2 s3 s6 s7 s26
   refine W.cnd s26 (fun hls => ?_) (fun hls => ?_)
   ·
    rw [Bool.and_eq_true] at hls
    obtain ⟨hcx, hO1⟩ := hls
    have hcx : c x = false := by simpa using hcx
    have hO1 := of_decide_eq_true hO1
    obtain ⟨Oa, y, hOy⟩ := last_of hO1
    have hOl : O1.length = Oa.length + 1 := by rw [hOy, List.length_append]; rfl
    refine W.skip Nx.thn ?_
    refine W.seq ?_
    refine W.block ?_
    refine W.region ?_
    refine WL.x (X.fieldAddr fd120_1 (s3)) rfl ?_
    refine WL.x (X.load pl116 (lh) (by assumption) (by rfl)) rfl ?_
    refine WL.x (X.mv (jt2 rfl (s7))) rfl ?_
    refine WL.x (X.mv (jt2 rfl (lt rfl (s7)))) rfl ?_
    refine WL.x (X.subN (b := 1) (lh) lc (by omega) (by omega)) rfl ?_
    rw [hOy] at hSj
    have hSj : S ((p ++ Z ++ Oa) ++ y :: x :: (O2 ++ (U.drop (k + 1) ++ q))) w4 := by simpa only [List.append_assoc, List.cons_append, List.nil_append] using hSj
    have hDl2 := H.len _ _ hSj
    simp only [List.length_append, List.length_cons] at hDl2
    obtain ⟨v9, w5, hr9, hs9, ck⟩ := H.swap _ w4 (p.length + Z.length + O1.length) (p.length + Z.length + O1.length - 1) (by omega) (by omega) hSj
    rw [show p.length + Z.length + O1.length = (p ++ Z ++ Oa).length + 1 by simp only [List.length_append]; omega, Nat.add_sub_cancel, swp_back] at hs9
    obtain ⟨hbx2, hcl2⟩ := H.step hSj hlt hbx hcl ck
    refine WL.extv2 (jt2 rfl (lt rfl (lh))) (jt2 rfl (lh)) (lh) hr9 rfl ?_
    refine WL.e5 (Nx.blk Nx.thn) 1 2 3 6 7 (jt4 rfl (jt2 rfl (s1))) (jt4 rfl (jt2 rfl (s2))) (jt4 rfl (jt2 rfl (s3))) (jt4 rfl (jt2 rfl (s6))) (jt4 rfl (jt2 rfl (s7))) ?_
    intro σ8 s1 s2 s3 s6 s7
    refine W.region ?_
    refine WL.x (X.mv (s7)) rfl ?_
    refine WL.x (X.subN (b := 1) (lh) lc (by omega) (by omega)) rfl ?_
    refine WL.x (X.asg (lh)) rfl ?_
    refine WL.e5 Nx.thn 1 2 3 6 7 (jt2 rfl (lt rfl (s1))) (jt2 rfl (lt rfl (s2))) (jt2 rfl (lt rfl (s3))) (jt2 rfl (lt rfl (s6))) (lh) ?_
    intro σ9 s1 s2 s3 s6 s7
    refine ⟨(Oa, y :: O2), by (try dsimp only); omega, ⟨s1.trans qo4.symm, s2.trans qo5.symm, s3.trans qo6.symm, s6.trans qo7.symm, trivial⟩, s7.trans (by congr 2; omega), (by rw [← hO12, hOy]; simp), (fun h9 => by rw [hcx] at h9; cases h9), (by simp only [List.length_cons]; omega), hs9, hbx2, hcl2⟩
   ·
    refine W.exit (Nx.xthn (Nx.xthn (Nx.xblk (Nx.blk Nx.thn)))) ?_
    refine W.region ?_
    refine WL.x (X.mv (s6)) rfl ?_
    refine WL.x (X.addN (b := 1) (lh) lc (by omega)) rfl ?_
    refine WL.x (X.asg (lh)) rfl ?_
    refine WL.e4 Nx.thn 1 2 3 6 (jt2 rfl (lt rfl (s1))) (jt2 rfl (lt rfl (s2))) (jt2 rfl (lt rfl (s3))) (lh) ?_
    intro σ10 s1 s2 s3 s6
    have hfin : S (p ++ stb c (U.take (k + 1)) ++ U.drop (k + 1) ++ q) w4 := by
      rw [htX, ← ins_done (x := x) (hO12.trans hOO) hx2 (by exact (by cases hcx : c x <;> simp_all)), ← hZ]
      simpa only [List.append_assoc, List.cons_append, List.nil_append] using hSj
    refine ⟨k + 1, by omega, ⟨s1.trans qo1.symm, s2.trans qo2.symm, s3.trans qo3.symm, trivial⟩, s6, by omega, by omega, hfin, hbx, hcl⟩
  ·
   refine WL.no rfl rfl (lh) (decide_eq_false hja) rfl ?_
   refine WL.no rfl rfl (lt rfl (lh)) (decide_eq_false hja) rfl ?_
   refine WL.no rfl rfl (jt2 rfl (lh)) (decide_eq_false hja) rfl ?_
   refine WL.no rfl rfl (jt2 rfl (lt rfl (lh))) (decide_eq_false hja) rfl ?_
   refine WL.no rfl rfl (jt4 rfl (lh)) (decide_eq_false hja) rfl ?_
   refine WL.no rfl rfl (jt4 rfl (lt rfl (lh))) (decide_eq_false hja) rfl ?_
   refine WL.x (X.pickF (jt4 rfl (jt2 rfl (lh))) (decide_eq_false hja) lc) rfl ?_
   refine WL.e6 Nx.thn 1 2 3 6 7 26 (jt8 rfl (jt2 rfl (lt rfl (s1)))) (jt8 rfl (jt2 rfl (lt rfl (s2)))) (jt8 rfl (jt2 rfl (lt rfl (s3)))) (jt8 rfl (jt2 rfl (lt rfl (s6)))) (jt8 rfl (jt2 rfl (lt rfl (s7)))) (lh) ?_
   intro σ11 s1 s2 s3 s6 s7 s26
   refine W.cndF s26 ?_
   refine W.exit (Nx.xthn (Nx.xthn (Nx.xblk (Nx.blk Nx.thn)))) ?_
   refine W.region ?_
   refine WL.x (X.mv (s6)) rfl ?_
   refine WL.x (X.addN (b := 1) (lh) lc (by omega)) rfl ?_
   refine WL.x (X.asg (lh)) rfl ?_
   refine WL.e4 Nx.thn 1 2 3 6 (jt2 rfl (lt rfl (s1))) (jt2 rfl (lt rfl (s2))) (jt2 rfl (lt rfl (s3))) (lh) ?_
   intro σ12 s1 s2 s3 s6
   have hfin : S (p ++ stb c (U.take (k + 1)) ++ U.drop (k + 1) ++ q) w3 := by
     rw [htX, ← ins_done (x := x) (hO12.trans hOO) hx2 (by exact .inr (List.eq_nil_of_length_eq_zero (by omega))), ← hZ]
     simpa only [List.append_assoc, List.cons_append, List.nil_append] using hSj
   refine ⟨k + 1, by omega, ⟨s1.trans qo1.symm, s2.trans qo2.symm, s3.trans qo3.symm, trivial⟩, s6, by omega, by omega, hfin, hbx, hcl⟩
 ·
  refine W.exit (Nx.xthn (Nx.xthn (Nx.xblk Nx.n0))) ?_
  have e1 : U.take k = U := List.take_of_length_le (by omega)
  have e2 : U.drop k = [] := List.drop_eq_nil_of_le (by omega)
  rw [e1, e2, List.append_nil] at hSi
  exact ⟨hSi, hcl⟩
end Go.Proofs.YtnfkblboimkcjaaDoor
end
