/-
  A part of the walk of the program.
-/
import Derived.Test.YtpmbnpehknmmjaaDoorK
set_option linter.unusedVariables false
set_option linter.unusedSimpArgs false
set_option maxRecDepth 100000
namespace Go.Proofs.YtpmbnpehknmmjaaDoor
open Go Go.RowKit Sg

def inR (n : Int) (a b : Int) : Prop := 0 ≤ a ∧ a < n ∧ 0 ≤ b ∧ b < n
instance (n a b : Int) : Decidable (inR n a b) := by unfold inR; infer_instance
def addP (n : Int) (P : List GPr) (a b : Int) (s : Bool) : List GPr := if inR n a b then P ++ [(a.toNat, b.toNat, s)] else P
def adds (n : Int) (l : List Gpr) : List GPr := (l.filter fun p => decide (inR n p.1 p.2.1)).map fun p => (p.1.toNat, p.2.1.toNat, p.2.2)
theorem adds_snoc (n : Int) (l : List Gpr) (p : Gpr) : adds n (l ++ [p]) = addP n (adds n l) p.1 p.2.1 p.2.2 := by
  unfold adds addP
  rw [List.filter_append, List.map_append, List.filter_cons]
  by_cases h : inR n p.1 p.2.1
  · rw [if_pos h, if_pos (decide_eq_true h)]; rfl
  · rw [if_neg h, if_neg (by simp [h])]; simp
theorem adds_len (n : Int) (l : List Gpr) : (adds n l).length ≤ l.length := by unfold adds; rw [List.length_map]; exact List.length_filter_le _ _
theorem adds_next (n : Int) (l : List Gpr) {k : Nat} (hk : k < l.length) (h : k < 100) : adds n (l.take (min (k + 1) 100)) = addP n (adds n (l.take (min k 100))) l[k].1 l[k].2.1 l[k].2.2 := by
  rw [show min (k + 1) 100 = k + 1 by omega, show min k 100 = k by omega, List.take_succ_eq_append_getElem hk, adds_snoc]
noncomputable abbrev Mf (P : List GPr) := viaB (sel false P)
noncomputable abbrev Ms (P : List GPr) := viaB (sel true P)
theorem Mf_add {P : List GPr} {a b : Nat} {s : Bool} (i j : Nat) : Mf (P ++ [(a, b, s)]) i j = joinM (Mf P) a b i j := by
  unfold Mf joinM
  rw [sel_snoc]; simp only [Bool.not_false, Bool.or_true, if_true]; rw [viaB_push]
theorem Ms_add {P : List GPr} {a b : Nat} {s : Bool} (i j : Nat) : Ms (P ++ [(a, b, s)]) i j = (if s then joinM (Ms P) a b else Ms P) i j := by
  unfold Ms
  rw [sel_snoc]
  cases s
  · simp
  · simp only [Bool.true_or, if_true, joinM]; rw [viaB_push]
theorem oaddP (base o n : Nat) (P : List GPr) (w : World) (h : IsOrd w base o n (Mf P) (Ms P)) (a b : Int) (s : Bool) : Sg.Ret Tryd.prog 17 #[.pointer (some ⟨o, 0, none⟩), .int .i64 a, .int .i64 b, .bool s] w fun v w' =>
    v = .int .i64 (if inR n a b then 0 else 1) ∧ IsOrd w' base o n (Mf (addP n P a b s)) (Ms (addP n P a b s)) ∧ Ch (Mine [78] base w) w w' := by
  by_cases hr : inR n a b
  · refine Ret.mono (oadd_in base o n _ _ w h a b s hr.1 hr.2.1 hr.2.2.1 hr.2.2.2) fun v w' hh => ⟨by rw [if_pos hr]; exact hh.1, ?_, hh.2.2⟩
    unfold addP
    rw [if_pos hr]
    exact hh.2.1.eq (fun i j _ => (Mf_add i j).symm) (fun i j _ => (Ms_add i j).symm)
  · refine Ret.mono (oadd_out base o n _ _ w h a b s (fun hc => hr hc)) fun v w' hh => ⟨by rw [if_neg hr]; exact hh.1, ?_, hh.2 ▸ Ch.refl _ _⟩
    unfold addP
    rw [if_neg hr, ← hh.2]; exact h
theorem raddP (base x n : Nat) (P : List GPr) (w : World) (h : IsRO w base x n P) (hl : P.length < 1000) (a b : Int) (s : Bool) : Sg.Ret Tryd.prog 22 #[.pointer (some ⟨x, 0, none⟩), .int .i64 a, .int .i64 b, .bool s] w fun v w' =>
    v = .int .i64 (if inR n a b then 0 else 1) ∧ IsRO w' base x n (addP n P a b s) ∧ Ch (Mine [58, 67] base w) w w' := by
  by_cases hr : inR n a b
  · refine Ret.mono (radd_in base x n _ w h a b s hr.1 hr.2.1 hr.2.2.1 hr.2.2.2 hl) fun v w' hh => ⟨by rw [if_pos hr]; exact hh.1, ?_, hh.2.2⟩
    unfold addP
    rw [if_pos hr]
    exact hh.2.1
  · refine Ret.mono (radd_out base x n _ w h a b s (fun hc => hr hc)) fun v w' hh => ⟨by rw [if_neg hr]; exact hh.1, ?_, hh.2 ▸ Ch.refl _ _⟩
    unfold addP
    rw [if_neg hr, ← hh.2]; exact h
theorem Mf_nil : Mf [] = fun _ _ => false := by funext i j; exact viaB_nil
theorem Ms_nil : Ms [] = fun _ _ => false := by funext i j; exact viaB_nil

set_option maxHeartbeats 1600000 in
theorem added_in (n : Int) (x1 : Option Addr) (c1 : Nat) (l : List Gpr) (w : World) (hl : RSl 3 (Rc fpr) all w (.slice x1 l.length c1) l) (hm : l.length * 24 ≤ 140737488355328) (hn : 0 ≤ n ∧ n ≤ 300) :
    Sg.Ret Tryd.prog 7 #[.int .i64 n, .slice x1 l.length c1] w fun v w' => Ch0 w w' ∧ ∃ o x bx, v = .tuple #[.pointer (some ⟨o, 0, none⟩), .pointer (some ⟨x, 0, none⟩), .bool true] ∧ IsOrd w' w.heap.size o n.toNat (Mf (adds n (l.take 100))) (Ms (adds n (l.take 100))) ∧ IsRO w' bx x n.toNat (adds n (l.take 100)) ∧ w.heap.size ≤ bx := by
  refine enter3 (n := 68) (l := [.int .i64 n, .slice x1 l.length c1]) Tryd.func7 rfl rfl rfl rfl ?_
  refine W.g2 0 1 (v1 := .int .i64 n) (v2 := .slice x1 l.length c1) rfl rfl ?_; intro σ s0 s1
  refine W.seq ?_
  refine W.region ?_
  refine WL.x (X.asg lc) rfl ?_
  refine WL.x (X.asg lc) rfl ?_
  refine WL.x (X.asg lc) rfl ?_
  refine WL.e2 Nx.thn 0 1 (lt rfl (lt rfl (lt rfl (s0)))) (lt rfl (lt rfl (lt rfl (s1)))) ?_
  intro σ1 s0 s1
  refine W.seq ?_
  refine W.region ?_
  refine WL.x (X.mv (s0)) rfl ?_
  refine WL.call1 ce20 (lh) (onew_ok n w) rfl ?_
  rintro v1 w1 ⟨k1, hv⟩
  rw [if_pos hn] at hv
  obtain ⟨o, rfl, ho0⟩ := hv
  have hz1 := k1.size
  refine WL.x (X.mv (lh)) rfl ?_
  refine WL.x (X.ex2_0 (lh)) rfl ?_
  refine WL.x (X.ex2_1 (lt rfl (lh))) rfl ?_
  refine WL.x (X.asg (lt rfl (lh))) rfl ?_
  refine WL.x (X.asg (lt rfl (lh))) rfl ?_
  refine WL.e4 Nx.thn 0 1 7 8 (lt rfl (lt rfl (lt rfl (lt rfl (lt rfl (lt rfl (lt rfl (s0)))))))) (lt rfl (lt rfl (lt rfl (lt rfl (lt rfl (lt rfl (lt rfl (s1)))))))) (lt rfl (lh)) (lh) ?_
  intro σ2 s0 s1 s7 s8
  refine W.seq ?_
  refine W.region ?_
  refine WL.x (X.mv (s0)) rfl ?_
  refine WL.call1 ce21 (lh) (rnew_ok n w1) rfl ?_
  rintro v2 w2 ⟨k2, hv⟩
  rw [if_pos hn] at hv
  obtain ⟨x, rfl, hx0⟩ := hv
  have hz2 := k2.size
  refine WL.x (X.mv (lh)) rfl ?_
  refine WL.x (X.ex2_0 (lh)) rfl ?_
  refine WL.x (X.ex2_1 (lt rfl (lh))) rfl ?_
  refine WL.x (X.asg (lt rfl (lh))) rfl ?_
  refine WL.x (X.asg (lt rfl (lh))) rfl ?_
  refine WL.e5 Nx.thn 1 7 8 9 10 (lt rfl (lt rfl (lt rfl (lt rfl (lt rfl (lt rfl (lt rfl (s1)))))))) (lt rfl (lt rfl (lt rfl (lt rfl (lt rfl (lt rfl (lt rfl (s7)))))))) (lt rfl (lt rfl (lt rfl (lt rfl (lt rfl (lt rfl (lt rfl (s8)))))))) (lt rfl (lh)) (lh) ?_
  intro σ3 s1 s7 s8 s9 s10
  refine W.seq ?_
  refine W.seq ?_
  refine W.region ?_
  refine WL.x (X.mv (s8)) rfl ?_
  refine WL.x (X.mv (lt rfl (s10))) rfl ?_
  refine WL.x (X.neq (lt rfl (lh)) (lh)) rfl ?_
  refine WL.x (X.mv (lh)) rfl ?_
  refine WL.yes rfl rfl (lh) (decide_eq_false (fun h => h rfl)) ?_
  refine WL.x (X.mv (lt rfl (lt rfl (lt rfl (lt rfl (s7)))))) rfl ?_
  refine WL.yes rfl rfl (lt rfl (lh)) (decide_eq_false (fun h => h rfl)) ?_
  refine WL.x (X.eqlN Tryd.underlying24 (lh) lc) rfl ?_
  refine WL.yes rfl rfl (lt rfl (lt rfl (lh))) (decide_eq_false (fun h => h rfl)) ?_
  refine WL.x (X.mv (lt rfl (lt rfl (lt rfl (lt rfl (lt rfl (lt rfl (s9)))))))) rfl ?_
  refine WL.yes rfl rfl (lt rfl (lt rfl (lt rfl (lh)))) (decide_eq_false (fun h => h rfl)) ?_
  refine WL.x (X.eqlN Tryd.underlying25 (lh) lc) rfl ?_
  refine WL.yes rfl rfl (lt rfl (lt rfl (lt rfl (lt rfl (lh))))) (decide_eq_false (fun h => h rfl)) ?_
  refine WL.x (X.neqB Tryd.underlying4 (lt rfl (lt rfl (lh))) (lh)) rfl ?_
  refine WL.x (X.pickF (lt rfl (lt rfl (lt rfl (lt rfl (lt rfl (lh)))))) (decide_eq_false (fun h => h rfl)) (lh)) rfl ?_
  refine WL.e4 Nx.thn 1 7 9 32 (lt rfl (lt rfl (lt rfl (lt rfl (lt rfl (lt rfl (lt rfl (lt rfl (lt rfl (lt rfl (s1))))))))))) (lt rfl (lt rfl (lt rfl (lt rfl (lt rfl (lt rfl (lt rfl (lt rfl (lt rfl (lt rfl (s7))))))))))) (lt rfl (lt rfl (lt rfl (lt rfl (lt rfl (lt rfl (lt rfl (lt rfl (lt rfl (lt rfl (s9))))))))))) (lh) ?_
  intro σ4 s1 s7 s9 s32
  refine W.cndN s32 (fun h => h rfl) ?_
  refine W.skip Nx.thn ?_
  refine W.seq ?_
  refine W.seq ?_
  refine W.region ?_
  refine WL.x (X.mv (s1)) rfl ?_
  refine WL.x (X.lenSl Tryd.underlying22 (lh)) rfl ?_
  refine WL.x (X.mv lc) rfl ?_
  refine WL.e5 Nx.thn 7 9 33 34 35 (lt rfl (lt rfl (lt rfl (s7)))) (lt rfl (lt rfl (lt rfl (s9)))) (lt rfl (lt rfl (lh))) (lt rfl (lh)) (lh) ?_
  intro σ5 s7 s9 s33 s34 s35
  refine W.block ?_
  have qo2 := s7
  have qo3 := s9
  have qo4 := s33
  have qo5 := s34
  -- loop 0: kept [7, 9, 33, 34], varied [35]
  refine W.loop (G := Nat) (fun k σ' w' => (σ' 7 = σ5 7 ∧ σ' 9 = σ5 9 ∧ σ' 33 = σ5 33 ∧ σ' 34 = σ5 34 ∧ True) ∧ (σ' 35 = .int .i64 (k : Int) ∧ k ≤ l.length ∧ IsOrd w' w.heap.size o n.toNat (Mf (adds n (l.take (min k 100)))) (Ms (adds n (l.take (min k 100)))) ∧ IsRO w' w1.heap.size x n.toNat (adds n (l.take (min k 100))) ∧ Ch0 w w')) (fun k => l.length - k) (0) ⟨⟨rfl, rfl, rfl, rfl, trivial⟩, s35, by omega, by have := ho0.ch0 k2; rw [show adds n (l.take (min 0 100)) = [] from rfl, Mf_nil, Ms_nil]; exact this, by rw [show adds n (l.take (min 0 100)) = [] from rfl]; exact hx0, k1.trans0 k2⟩ ?_
  rintro k σ6 w3 ⟨⟨f7, f9, f33, f34, _⟩, s35, hk, ho, hx, hcl⟩
  have s7 := f7.trans qo2
  have s9 := f9.trans qo3
  have s33 := f33.trans qo4
  have s34 := f34.trans qo5
  have hzc := hcl.size
  refine W.seq ?_
  refine W.region ?_
  refine WL.x (X.lss (s35) (s34)) rfl ?_
  refine WL.e6 Nx.thn 7 9 33 34 35 36 (lt rfl (s7)) (lt rfl (s9)) (lt rfl (s33)) (lt rfl (s34)) (lt rfl (s35)) (lh) ?_
  intro σ7 s7 s9 s33 s34 s35 s36
  refine W.seq ?_
  refine W.cndp s36 (fun hlt => ?_) (fun hlt => ?_)
  · obtain ⟨be, oe, cse, Te, fre, rfl, hme, hle, -, hce⟩ := hl.get (k := k) (by omega)
    obtain ⟨⟨p1, p2, p3⟩, hpk⟩ : ∃ p, l[k] = p := ⟨_, rfl⟩
    rw [hpk] at hle hce
    refine W.skip Nx.thn ?_
    refine W.seq ?_
    refine W.block ?_
    refine W.seq ?_
    refine W.region ?_
    refine WL.x (X.mv (s35)) rfl ?_
    refine WL.x (X.indexAddr Tryd.underlying22 el33 (lt rfl (s33)) (lt rfl (s35)) (by omega) (by omega)) rfl ?_
    refine WL.x (X.loadS (vs := [.int .i64 p1, .int .i64 p2, .bool p3]) ag33 (lh) (hcl.at0 hme) rfl hce) rfl ?_
    refine WL.alloc el33 rfl ?_
    intro w4 u7_3; have hu7_3 := u7_3.at_; have cu7_3 := u7_3.ch; have zu7_3 := u7_3.size
    refine WL.x (X.asg (lt rfl (lt rfl (lt rfl (lh))))) rfl ?_
    refine WL.storeS ag33 (lt rfl (lh)) (lt rfl (lt rfl (lh))) rfl rfl hu7_3 (by first | decide | (simp; done) | (simp; omega)) ?_
    intro w5 us; have cst := us.ch
    have hkb : w5.heap[w3.heap.size]? = some (.cells #[.int .i64 p1, .int .i64 p2, .bool p3] 33 (0, 0)) := us.at_
    have cku := (cu7_3.trans cst (F := fun _ => False) (H := Mine [33] w3.heap.size w3) (fun _ _ e => e.elim) (fun i hi e => absurd hi (by rw [show i = w3.heap.size from e]; omega)))
    have ho3 := ho.keep cku (by decide)
    have hx3 := hx.keep cku (by decide)
    have hcl3 := hcl.trans cku (H := fun _ => False) (fun _ _ e => e) (fun i hi e => by have := e.1; omega)
    have hzk := lt_of_blk hkb
    refine WL.e7 Nx.thn 7 9 11 12 33 34 35 (lt rfl (lt rfl (lt rfl (lt rfl (lt rfl (s7)))))) (lt rfl (lt rfl (lt rfl (lt rfl (lt rfl (s9)))))) (lh) (lt rfl (lh)) (lt rfl (lt rfl (lt rfl (lt rfl (lt rfl (s33)))))) (lt rfl (lt rfl (lt rfl (lt rfl (lt rfl (s34)))))) (lt rfl (lt rfl (lt rfl (lt rfl (lt rfl (s35)))))) ?_
    intro σ8 s7 s9 s11 s12 s33 s34 s35
    refine W.seq ?_
    refine W.held (fun w' => Ch (fun j => j ≠ w3.heap.size ∧ w.heap.size ≤ j) w5 w') mo ?_
    intro w6 qhh6 qc7
    have hS : Ch (fun j => j ≠ w3.heap.size ∧ w.heap.size ≤ j) w5 w6 := Ch.weak qc7
    have hzqc7 := qc7.size
    have cdh8 := qc7
    refine WH.take 0 rfl (by kernel_rfl) (by kernel_rfl) (by kernel_rfl) (fun _ _ _ h => h) Gd.none rfl (fun w' hS' => X.mv (s9)) hS ?_
    refine WH.take 1 rfl (by kernel_rfl) (by kernel_rfl) (by kernel_rfl) (fun _ _ _ h => h) Gd.none rfl (fun w' hS' => X.neqN Tryd.underlying25 (lh) lc) hS ?_
    refine WH.take 2 rfl (by kernel_rfl) (by kernel_rfl) (by kernel_rfl) (fun _ _ _ h => h) Gd.none rfl (fun w' hS' => X.mv (lh)) hS ?_
    refine WH.take 3 rfl (by kernel_rfl) (by kernel_rfl) (by kernel_rfl) (fun _ _ _ h => h) (Gd.yes rfl rfl (lh) (rfl)) rfl (fun w' hS' => X.mv (lt rfl (lt rfl (lt rfl (s11))))) hS ?_
    refine WH.take 4 rfl (by kernel_rfl) (by kernel_rfl) (by kernel_rfl) (fun _ _ _ h => h) (Gd.yes rfl rfl (lt rfl (lh)) (rfl)) rfl (fun w' hS' => X.lss (lh) lc) hS ?_
    refine WH.take 5 rfl (by kernel_rfl) (by kernel_rfl) (by kernel_rfl) (fun _ _ _ h => h) Gd.none rfl (fun w' hS' => X.pickT (lt rfl (lt rfl (lh))) (rfl) (lh)) hS ?_
    refine WH.take 6 rfl (by kernel_rfl) (by kernel_rfl) (by kernel_rfl) (fun _ _ _ h => h) Gd.none rfl (fun w' hS' => X.mv (lh)) hS ?_
    refine WH.splitp (lh) (fun h100 => ?_) (fun h100 => ?_)
    · refine WH.take 7 rfl (by kernel_rfl) (by kernel_rfl) (by kernel_rfl) (fun _ _ _ h => h) (Gd.yes rfl rfl (lh) (decide_eq_true h100)) rfl (fun w' hS' => X.mv (lt rfl (lt rfl (lt rfl (lt rfl (lt rfl (lt rfl (lt rfl (s7))))))))) hS ?_
      refine WH.take 8 rfl (by kernel_rfl) (by kernel_rfl) (by kernel_rfl) (fun _ _ _ h => h) (Gd.yes rfl rfl (lt rfl (lh)) (decide_eq_true h100)) rfl (fun w' hS' => X.fieldAddr fd33_0 (lt rfl (lt rfl (lt rfl (lt rfl (lt rfl (lt rfl (lt rfl (lt rfl (s12)))))))))) hS ?_
      refine WH.take 9 rfl (by kernel_rfl) (by kernel_rfl) (by kernel_rfl) (fun _ _ _ h => h) (Gd.yes rfl rfl (lt rfl (lt rfl (lh))) (decide_eq_true h100)) rfl (fun w' hS' => X.load pl3 (lh) (by first | assumption | exact hS'.at (by assumption) (by intro hne; first | exact hne | ((try dsimp only at hne); omega)) | exact hS'.at (cst.at (by assumption) (by intro hne; first | exact hne | ((try dsimp only at hne); omega))) (by intro hne; first | exact hne | ((try dsimp only at hne); omega)) | exact hS'.at (cst.at (cu7_3.at0 (by assumption)) (by intro hne; first | exact hne | ((try dsimp only at hne); omega))) (by intro hne; first | exact hne | ((try dsimp only at hne); omega)) | exact hS'.at (cst.at (cu7_3.at0 (hcl.at0 (by assumption))) (by intro hne; first | exact hne | ((try dsimp only at hne); omega))) (by intro hne; first | exact hne | ((try dsimp only at hne); omega)) | exact hS'.at (cst.at (cu7_3.at0 (hcl.at0 (k2.at0 (by assumption)))) (by intro hne; first | exact hne | ((try dsimp only at hne); omega))) (by intro hne; first | exact hne | ((try dsimp only at hne); omega)) | exact hS'.at (cst.at (cu7_3.at0 (hcl.at0 (k2.at0 (k1.at0 (by assumption))))) (by intro hne; first | exact hne | ((try dsimp only at hne); omega))) (by intro hne; first | exact hne | ((try dsimp only at hne); omega))) (by first | rfl | assumption)) hS ?_
      refine WH.take 10 rfl (by kernel_rfl) (by kernel_rfl) (by kernel_rfl) (fun _ _ _ h => h) (Gd.yes rfl rfl (lt rfl (lt rfl (lt rfl (lh)))) (decide_eq_true h100)) rfl (fun w' hS' => X.fieldAddr fd33_1 (lt rfl (lt rfl (lt rfl (lt rfl (lt rfl (lt rfl (lt rfl (lt rfl (lt rfl (lt rfl (s12)))))))))))) hS ?_
      refine WH.take 11 rfl (by kernel_rfl) (by kernel_rfl) (by kernel_rfl) (fun _ _ _ h => h) (Gd.yes rfl rfl (lt rfl (lt rfl (lt rfl (lt rfl (lh))))) (decide_eq_true h100)) rfl (fun w' hS' => X.load pl3 (lh) (by first | assumption | exact hS'.at (by assumption) (by intro hne; first | exact hne | ((try dsimp only at hne); omega)) | exact hS'.at (cst.at (by assumption) (by intro hne; first | exact hne | ((try dsimp only at hne); omega))) (by intro hne; first | exact hne | ((try dsimp only at hne); omega)) | exact hS'.at (cst.at (cu7_3.at0 (by assumption)) (by intro hne; first | exact hne | ((try dsimp only at hne); omega))) (by intro hne; first | exact hne | ((try dsimp only at hne); omega)) | exact hS'.at (cst.at (cu7_3.at0 (hcl.at0 (by assumption))) (by intro hne; first | exact hne | ((try dsimp only at hne); omega))) (by intro hne; first | exact hne | ((try dsimp only at hne); omega)) | exact hS'.at (cst.at (cu7_3.at0 (hcl.at0 (k2.at0 (by assumption)))) (by intro hne; first | exact hne | ((try dsimp only at hne); omega))) (by intro hne; first | exact hne | ((try dsimp only at hne); omega)) | exact hS'.at (cst.at (cu7_3.at0 (hcl.at0 (k2.at0 (k1.at0 (by assumption))))) (by intro hne; first | exact hne | ((try dsimp only at hne); omega))) (by intro hne; first | exact hne | ((try dsimp only at hne); omega))) (by first | rfl | assumption)) hS ?_
      refine WH.take 12 rfl (by kernel_rfl) (by kernel_rfl) (by kernel_rfl) (fun _ _ _ h => h) (Gd.yes rfl rfl (lt rfl (lt rfl (lt rfl (lt rfl (lt rfl (lh)))))) (decide_eq_true h100)) rfl (fun w' hS' => X.fieldAddr fd33_2 (lt rfl (lt rfl (lt rfl (lt rfl (lt rfl (lt rfl (lt rfl (lt rfl (lt rfl (lt rfl (lt rfl (lt rfl (s12)))))))))))))) hS ?_
      refine WH.take 13 rfl (by kernel_rfl) (by kernel_rfl) (by kernel_rfl) (fun _ _ _ h => h) (Gd.yes rfl rfl (lt rfl (lt rfl (lt rfl (lt rfl (lt rfl (lt rfl (lh))))))) (decide_eq_true h100)) rfl (fun w' hS' => X.load pl4 (lh) (by first | assumption | exact hS'.at (by assumption) (by intro hne; first | exact hne | ((try dsimp only at hne); omega)) | exact hS'.at (cst.at (by assumption) (by intro hne; first | exact hne | ((try dsimp only at hne); omega))) (by intro hne; first | exact hne | ((try dsimp only at hne); omega)) | exact hS'.at (cst.at (cu7_3.at0 (by assumption)) (by intro hne; first | exact hne | ((try dsimp only at hne); omega))) (by intro hne; first | exact hne | ((try dsimp only at hne); omega)) | exact hS'.at (cst.at (cu7_3.at0 (hcl.at0 (by assumption))) (by intro hne; first | exact hne | ((try dsimp only at hne); omega))) (by intro hne; first | exact hne | ((try dsimp only at hne); omega)) | exact hS'.at (cst.at (cu7_3.at0 (hcl.at0 (k2.at0 (by assumption)))) (by intro hne; first | exact hne | ((try dsimp only at hne); omega))) (by intro hne; first | exact hne | ((try dsimp only at hne); omega)) | exact hS'.at (cst.at (cu7_3.at0 (hcl.at0 (k2.at0 (k1.at0 (by assumption))))) (by intro hne; first | exact hne | ((try dsimp only at hne); omega))) (by intro hne; first | exact hne | ((try dsimp only at hne); omega))) (by first | rfl | assumption)) hS ?_
      refine WH.take 15 rfl (by kernel_rfl) (by kernel_rfl) (by kernel_rfl) (fun _ _ _ h => h) (Gd.yes rfl rfl (lt rfl (lt rfl (lt rfl (lt rfl (lt rfl (lt rfl (lt rfl (lh)))))))) (decide_eq_true h100)) rfl (fun w' hS' => X.mv (lt rfl (lt rfl (lt rfl (lt rfl (lt rfl (lt rfl (lt rfl (lt rfl (lt rfl (lt rfl (lt rfl (lt rfl (lt rfl (lt rfl (s9)))))))))))))))) hS ?_
      refine WH.take 16 rfl (by kernel_rfl) (by kernel_rfl) (by kernel_rfl) (fun _ _ _ h => h) (Gd.yes rfl rfl (lt rfl (lt rfl (lt rfl (lt rfl (lt rfl (lt rfl (lt rfl (lt rfl (lh))))))))) (decide_eq_true h100)) rfl (fun w' hS' => X.fieldAddr fd33_0 (lt rfl (lt rfl (lt rfl (lt rfl (lt rfl (lt rfl (lt rfl (lt rfl (lt rfl (lt rfl (lt rfl (lt rfl (lt rfl (lt rfl (lt rfl (s12))))))))))))))))) hS ?_
      refine WH.take 17 rfl (by kernel_rfl) (by kernel_rfl) (by kernel_rfl) (fun _ _ _ h => h) (Gd.yes rfl rfl (lt rfl (lt rfl (lt rfl (lt rfl (lt rfl (lt rfl (lt rfl (lt rfl (lt rfl (lh)))))))))) (decide_eq_true h100)) rfl (fun w' hS' => X.load pl3 (lh) (by first | assumption | exact hS'.at (by assumption) (by intro hne; first | exact hne | ((try dsimp only at hne); omega)) | exact hS'.at (cst.at (by assumption) (by intro hne; first | exact hne | ((try dsimp only at hne); omega))) (by intro hne; first | exact hne | ((try dsimp only at hne); omega)) | exact hS'.at (cst.at (cu7_3.at0 (by assumption)) (by intro hne; first | exact hne | ((try dsimp only at hne); omega))) (by intro hne; first | exact hne | ((try dsimp only at hne); omega)) | exact hS'.at (cst.at (cu7_3.at0 (hcl.at0 (by assumption))) (by intro hne; first | exact hne | ((try dsimp only at hne); omega))) (by intro hne; first | exact hne | ((try dsimp only at hne); omega)) | exact hS'.at (cst.at (cu7_3.at0 (hcl.at0 (k2.at0 (by assumption)))) (by intro hne; first | exact hne | ((try dsimp only at hne); omega))) (by intro hne; first | exact hne | ((try dsimp only at hne); omega)) | exact hS'.at (cst.at (cu7_3.at0 (hcl.at0 (k2.at0 (k1.at0 (by assumption))))) (by intro hne; first | exact hne | ((try dsimp only at hne); omega))) (by intro hne; first | exact hne | ((try dsimp only at hne); omega))) (by first | rfl | assumption)) hS ?_
      refine WH.take 18 rfl (by kernel_rfl) (by kernel_rfl) (by kernel_rfl) (fun _ _ _ h => h) (Gd.yes rfl rfl (lt rfl (lt rfl (lt rfl (lt rfl (lt rfl (lt rfl (lt rfl (lt rfl (lt rfl (lt rfl (lh))))))))))) (decide_eq_true h100)) rfl (fun w' hS' => X.fieldAddr fd33_1 (lt rfl (lt rfl (lt rfl (lt rfl (lt rfl (lt rfl (lt rfl (lt rfl (lt rfl (lt rfl (lt rfl (lt rfl (lt rfl (lt rfl (lt rfl (lt rfl (lt rfl (s12))))))))))))))))))) hS ?_
      refine WH.take 19 rfl (by kernel_rfl) (by kernel_rfl) (by kernel_rfl) (fun _ _ _ h => h) (Gd.yes rfl rfl (lt rfl (lt rfl (lt rfl (lt rfl (lt rfl (lt rfl (lt rfl (lt rfl (lt rfl (lt rfl (lt rfl (lh)))))))))))) (decide_eq_true h100)) rfl (fun w' hS' => X.load pl3 (lh) (by first | assumption | exact hS'.at (by assumption) (by intro hne; first | exact hne | ((try dsimp only at hne); omega)) | exact hS'.at (cst.at (by assumption) (by intro hne; first | exact hne | ((try dsimp only at hne); omega))) (by intro hne; first | exact hne | ((try dsimp only at hne); omega)) | exact hS'.at (cst.at (cu7_3.at0 (by assumption)) (by intro hne; first | exact hne | ((try dsimp only at hne); omega))) (by intro hne; first | exact hne | ((try dsimp only at hne); omega)) | exact hS'.at (cst.at (cu7_3.at0 (hcl.at0 (by assumption))) (by intro hne; first | exact hne | ((try dsimp only at hne); omega))) (by intro hne; first | exact hne | ((try dsimp only at hne); omega)) | exact hS'.at (cst.at (cu7_3.at0 (hcl.at0 (k2.at0 (by assumption)))) (by intro hne; first | exact hne | ((try dsimp only at hne); omega))) (by intro hne; first | exact hne | ((try dsimp only at hne); omega)) | exact hS'.at (cst.at (cu7_3.at0 (hcl.at0 (k2.at0 (k1.at0 (by assumption))))) (by intro hne; first | exact hne | ((try dsimp only at hne); omega))) (by intro hne; first | exact hne | ((try dsimp only at hne); omega))) (by first | rfl | assumption)) hS ?_
      refine WH.take 20 rfl (by kernel_rfl) (by kernel_rfl) (by kernel_rfl) (fun _ _ _ h => h) (Gd.yes rfl rfl (lt rfl (lt rfl (lt rfl (lt rfl (lt rfl (lt rfl (lt rfl (lt rfl (lt rfl (lt rfl (lt rfl (lt rfl (lh))))))))))))) (decide_eq_true h100)) rfl (fun w' hS' => X.fieldAddr fd33_2 (lt rfl (lt rfl (lt rfl (lt rfl (lt rfl (lt rfl (lt rfl (lt rfl (lt rfl (lt rfl (lt rfl (lt rfl (lt rfl (lt rfl (lt rfl (lt rfl (lt rfl (lt rfl (lt rfl (s12))))))))))))))))))))) hS ?_
      refine WH.take 21 rfl (by kernel_rfl) (by kernel_rfl) (by kernel_rfl) (fun _ _ _ h => h) (Gd.yes rfl rfl (lt rfl (lt rfl (lt rfl (lt rfl (lt rfl (lt rfl (lt rfl (lt rfl (lt rfl (lt rfl (lt rfl (lt rfl (lt rfl (lh)))))))))))))) (decide_eq_true h100)) rfl (fun w' hS' => X.load pl4 (lh) (by first | assumption | exact hS'.at (by assumption) (by intro hne; first | exact hne | ((try dsimp only at hne); omega)) | exact hS'.at (cst.at (by assumption) (by intro hne; first | exact hne | ((try dsimp only at hne); omega))) (by intro hne; first | exact hne | ((try dsimp only at hne); omega)) | exact hS'.at (cst.at (cu7_3.at0 (by assumption)) (by intro hne; first | exact hne | ((try dsimp only at hne); omega))) (by intro hne; first | exact hne | ((try dsimp only at hne); omega)) | exact hS'.at (cst.at (cu7_3.at0 (hcl.at0 (by assumption))) (by intro hne; first | exact hne | ((try dsimp only at hne); omega))) (by intro hne; first | exact hne | ((try dsimp only at hne); omega)) | exact hS'.at (cst.at (cu7_3.at0 (hcl.at0 (k2.at0 (by assumption)))) (by intro hne; first | exact hne | ((try dsimp only at hne); omega))) (by intro hne; first | exact hne | ((try dsimp only at hne); omega)) | exact hS'.at (cst.at (cu7_3.at0 (hcl.at0 (k2.at0 (k1.at0 (by assumption))))) (by intro hne; first | exact hne | ((try dsimp only at hne); omega))) (by intro hne; first | exact hne | ((try dsimp only at hne); omega))) (by first | rfl | assumption)) hS ?_
      refine WH.one 14 rfl (by kernel_rfl) (fun _ _ h => h) ?_
      refine WL.yes rfl rfl (lt rfl (lt rfl (lt rfl (lt rfl (lt rfl (lt rfl (lt rfl (lt rfl (lt rfl (lt rfl (lt rfl (lt rfl (lt rfl (lt rfl (lh))))))))))))))) (decide_eq_true h100) ?_
      refine WL.call4 ce17 (lt rfl (lt rfl (lt rfl (lt rfl (lt rfl (lt rfl (lt rfl (lt rfl (lt rfl (lt rfl (lt rfl (lt rfl (lt rfl (lh)))))))))))))) (lt rfl (lt rfl (lt rfl (lt rfl (lt rfl (lt rfl (lt rfl (lt rfl (lt rfl (lt rfl (lt rfl (lh)))))))))))) (lt rfl (lt rfl (lt rfl (lt rfl (lt rfl (lt rfl (lt rfl (lt rfl (lt rfl (lh)))))))))) (lt rfl (lt rfl (lt rfl (lt rfl (lt rfl (lt rfl (lt rfl (lh)))))))) (oaddP _ o n.toNat _ w6 (ho3.ch0 cdh8) p1 p2 p3) rfl ?_
      rintro _ w7 ⟨rfl, ho4, c4⟩
      have hx4 := (hx3.ch0 cdh8).keep c4 (by decide)
      have hS := hS.trans c4 (fun _ _ => id) (fun i hi hg => ⟨fun e => mine_not (T := 33) ⟨_, hS.at hkb (fun e => e.1 rfl)⟩ (by decide) (e ▸ hg), hg.1⟩)
      refine WL.nil Nx.thn ⟨hS, ?_⟩
      refine WH.one 22 rfl (by kernel_rfl) (fun _ _ h => h) ?_
      refine WL.yes rfl rfl (lt rfl (lt rfl (lt rfl (lt rfl (lt rfl (lt rfl (lt rfl (lt rfl (lt rfl (lt rfl (lt rfl (lt rfl (lt rfl (lt rfl (lt rfl (lh)))))))))))))))) (decide_eq_true h100) ?_
      refine WL.call4 ce22 (lt rfl (lt rfl (lt rfl (lt rfl (lt rfl (lt rfl (lt rfl (lh)))))))) (lt rfl (lt rfl (lt rfl (lt rfl (lt rfl (lh)))))) (lt rfl (lt rfl (lt rfl (lh)))) (lt rfl (lh)) (raddP _ x n.toNat _ w7 hx4 (by have := adds_len n (l.take (min k 100)); rw [List.length_take] at this; omega) p1 p2 p3) rfl ?_
      rintro _ w8 ⟨rfl, hx5, c5⟩
      have ho5 := ho4.keep c5 (by decide)
      have hS := hS.trans c5 (fun _ _ => id) (fun i hi hg => ⟨fun e => mine_not (T := 33) ⟨_, hS.at hkb (fun e => e.1 rfl)⟩ (by decide) (e ▸ hg), Nat.le_trans hz1 hg.1⟩)
      refine WL.nil Nx.thn ⟨hS, ?_⟩
      refine WH.take 23 rfl (by kernel_rfl) (by kernel_rfl) (by kernel_rfl) (fun _ _ _ h => h) (Gd.yes rfl rfl (lt rfl (lt rfl (lt rfl (lt rfl (lt rfl (lt rfl (lt rfl (lt rfl (lt rfl (lt rfl (lt rfl (lt rfl (lt rfl (lt rfl (lt rfl (lt rfl (lh))))))))))))))))) (decide_eq_true h100)) rfl (fun w' hS' => X.neq (lt rfl (lh)) (lh)) hS ?_
      refine WH.take 24 rfl (by kernel_rfl) (by kernel_rfl) (by kernel_rfl) (fun _ _ _ h => h) Gd.none rfl (fun w' hS' => X.pickT (lt rfl (lt rfl (lt rfl (lt rfl (lt rfl (lt rfl (lt rfl (lt rfl (lt rfl (lt rfl (lt rfl (lt rfl (lt rfl (lt rfl (lt rfl (lt rfl (lt rfl (lh)))))))))))))))))) (decide_eq_true h100) (lh)) hS ?_
      refine WH.done (by kernel_rfl) ?_
      refine WL.e6 Nx.thn 7 9 33 34 35 64 (lt rfl (lt rfl (lt rfl (lt rfl (lt rfl (lt rfl (lt rfl (lt rfl (lt rfl (lt rfl (lt rfl (lt rfl (lt rfl (lt rfl (lt rfl (lt rfl (lt rfl (lt rfl (lt rfl (lt rfl (lt rfl (lt rfl (lt rfl (lt rfl (lt rfl (s7)))))))))))))))))))))))))) (lt rfl (lt rfl (lt rfl (lt rfl (lt rfl (lt rfl (lt rfl (lt rfl (lt rfl (lt rfl (lt rfl (lt rfl (lt rfl (lt rfl (lt rfl (lt rfl (lt rfl (lt rfl (lt rfl (lt rfl (lt rfl (lt rfl (lt rfl (lt rfl (lt rfl (s9)))))))))))))))))))))))))) (lt rfl (lt rfl (lt rfl (lt rfl (lt rfl (lt rfl (lt rfl (lt rfl (lt rfl (lt rfl (lt rfl (lt rfl (lt rfl (lt rfl (lt rfl (lt rfl (lt rfl (lt rfl (lt rfl (lt rfl (lt rfl (lt rfl (lt rfl (lt rfl (lt rfl (s33)))))))))))))))))))))))))) (lt rfl (lt rfl (lt rfl (lt rfl (lt rfl (lt rfl (lt rfl (lt rfl (lt rfl (lt rfl (lt rfl (lt rfl (lt rfl (lt rfl (lt rfl (lt rfl (lt rfl (lt rfl (lt rfl (lt rfl (lt rfl (lt rfl (lt rfl (lt rfl (lt rfl (s34)))))))))))))))))))))))))) (lt rfl (lt rfl (lt rfl (lt rfl (lt rfl (lt rfl (lt rfl (lt rfl (lt rfl (lt rfl (lt rfl (lt rfl (lt rfl (lt rfl (lt rfl (lt rfl (lt rfl (lt rfl (lt rfl (lt rfl (lt rfl (lt rfl (lt rfl (lt rfl (lt rfl (s35)))))))))))))))))))))))))) (lh) ?_
      intro σ9 s7 s9 s33 s34 s35 s64
      refine W.cndN s64 (fun h => h rfl) ?_
      refine W.skip (Nx.blk Nx.thn) ?_
      refine W.region ?_
      first | refine WL.x (X.add (s35) lc (by omega) (by omega)) rfl ?_ | refine WL.x (X.addw (s35) lc) rfl ?_
      refine WL.x (X.mv (lh)) rfl ?_
      refine WL.e5 Nx.thn 7 9 33 34 35 (lt rfl (lt rfl (s7))) (lt rfl (lt rfl (s9))) (lt rfl (lt rfl (s33))) (lt rfl (lt rfl (s34))) (lh) ?_
      intro σ10 s7 s9 s33 s34 s35
      have hnx := adds_next n l (k := k) (by omega) (by omega)
      rw [hpk] at hnx
      have hnn : ((n.toNat : Nat) : Int) = n := by omega
      rw [hnn] at ho5 hx5
      refine ⟨k + 1, by first | omega | (dsimp only; omega), ⟨s7.trans qo2.symm, s9.trans qo3.symm, s33.trans qo4.symm, s34.trans qo5.symm, trivial⟩, s35, by omega, by rw [hnx]; exact ho5, by rw [hnx]; exact hx5, hcl3.trans hS (H := fun _ => False) (fun _ _ e => e) (fun i hi e => by have := e.2; omega)⟩
    · refine WH.pass 7 rfl (by kernel_rfl) (by kernel_rfl) (by kernel_rfl) (fun _ _ _ h => h) (Gd.no rfl rfl (lh) (decide_eq_false h100)) rfl hS ?_
      refine WH.pass 8 rfl (by kernel_rfl) (by kernel_rfl) (by kernel_rfl) (fun _ _ _ h => h) (Gd.no rfl rfl (lt rfl (lh)) (decide_eq_false h100)) rfl hS ?_
      refine WH.pass 9 rfl (by kernel_rfl) (by kernel_rfl) (by kernel_rfl) (fun _ _ _ h => h) (Gd.no rfl rfl (lt rfl (lt rfl (lh))) (decide_eq_false h100)) rfl hS ?_
      refine WH.pass 10 rfl (by kernel_rfl) (by kernel_rfl) (by kernel_rfl) (fun _ _ _ h => h) (Gd.no rfl rfl (lt rfl (lt rfl (lt rfl (lh)))) (decide_eq_false h100)) rfl hS ?_
      refine WH.pass 11 rfl (by kernel_rfl) (by kernel_rfl) (by kernel_rfl) (fun _ _ _ h => h) (Gd.no rfl rfl (lt rfl (lt rfl (lt rfl (lt rfl (lh))))) (decide_eq_false h100)) rfl hS ?_
      refine WH.pass 12 rfl (by kernel_rfl) (by kernel_rfl) (by kernel_rfl) (fun _ _ _ h => h) (Gd.no rfl rfl (lt rfl (lt rfl (lt rfl (lt rfl (lt rfl (lh)))))) (decide_eq_false h100)) rfl hS ?_
      refine WH.pass 13 rfl (by kernel_rfl) (by kernel_rfl) (by kernel_rfl) (fun _ _ _ h => h) (Gd.no rfl rfl (lt rfl (lt rfl (lt rfl (lt rfl (lt rfl (lt rfl (lh))))))) (decide_eq_false h100)) rfl hS ?_
      refine WH.pass 14 rfl (by kernel_rfl) (by kernel_rfl) (by kernel_rfl) (fun _ _ _ h => h) (Gd.no rfl rfl (lt rfl (lt rfl (lt rfl (lt rfl (lt rfl (lt rfl (lt rfl (lh)))))))) (decide_eq_false h100)) rfl hS ?_
      refine WH.pass 15 rfl (by kernel_rfl) (by kernel_rfl) (by kernel_rfl) (fun _ _ _ h => h) (Gd.no rfl rfl (lt rfl (lt rfl (lt rfl (lt rfl (lt rfl (lt rfl (lt rfl (lt rfl (lh))))))))) (decide_eq_false h100)) rfl hS ?_
      refine WH.pass 16 rfl (by kernel_rfl) (by kernel_rfl) (by kernel_rfl) (fun _ _ _ h => h) (Gd.no rfl rfl (lt rfl (lt rfl (lt rfl (lt rfl (lt rfl (lt rfl (lt rfl (lt rfl (lt rfl (lh)))))))))) (decide_eq_false h100)) rfl hS ?_
      refine WH.pass 17 rfl (by kernel_rfl) (by kernel_rfl) (by kernel_rfl) (fun _ _ _ h => h) (Gd.no rfl rfl (lt rfl (lt rfl (lt rfl (lt rfl (lt rfl (lt rfl (lt rfl (lt rfl (lt rfl (lt rfl (lh))))))))))) (decide_eq_false h100)) rfl hS ?_
      refine WH.pass 18 rfl (by kernel_rfl) (by kernel_rfl) (by kernel_rfl) (fun _ _ _ h => h) (Gd.no rfl rfl (lt rfl (lt rfl (lt rfl (lt rfl (lt rfl (lt rfl (lt rfl (lt rfl (lt rfl (lt rfl (lt rfl (lh)))))))))))) (decide_eq_false h100)) rfl hS ?_
      refine WH.pass 19 rfl (by kernel_rfl) (by kernel_rfl) (by kernel_rfl) (fun _ _ _ h => h) (Gd.no rfl rfl (lt rfl (lt rfl (lt rfl (lt rfl (lt rfl (lt rfl (lt rfl (lt rfl (lt rfl (lt rfl (lt rfl (lt rfl (lh))))))))))))) (decide_eq_false h100)) rfl hS ?_
      refine WH.pass 20 rfl (by kernel_rfl) (by kernel_rfl) (by kernel_rfl) (fun _ _ _ h => h) (Gd.no rfl rfl (lt rfl (lt rfl (lt rfl (lt rfl (lt rfl (lt rfl (lt rfl (lt rfl (lt rfl (lt rfl (lt rfl (lt rfl (lt rfl (lh)))))))))))))) (decide_eq_false h100)) rfl hS ?_
      refine WH.pass 21 rfl (by kernel_rfl) (by kernel_rfl) (by kernel_rfl) (fun _ _ _ h => h) (Gd.no rfl rfl (lt rfl (lt rfl (lt rfl (lt rfl (lt rfl (lt rfl (lt rfl (lt rfl (lt rfl (lt rfl (lt rfl (lt rfl (lt rfl (lt rfl (lh))))))))))))))) (decide_eq_false h100)) rfl hS ?_
      refine WH.pass 22 rfl (by kernel_rfl) (by kernel_rfl) (by kernel_rfl) (fun _ _ _ h => h) (Gd.no rfl rfl (lt rfl (lt rfl (lt rfl (lt rfl (lt rfl (lt rfl (lt rfl (lt rfl (lt rfl (lt rfl (lt rfl (lt rfl (lt rfl (lt rfl (lt rfl (lh)))))))))))))))) (decide_eq_false h100)) rfl hS ?_
      refine WH.pass 23 rfl (by kernel_rfl) (by kernel_rfl) (by kernel_rfl) (fun _ _ _ h => h) (Gd.no rfl rfl (lt rfl (lt rfl (lt rfl (lt rfl (lt rfl (lt rfl (lt rfl (lt rfl (lt rfl (lt rfl (lt rfl (lt rfl (lt rfl (lt rfl (lt rfl (lt rfl (lh))))))))))))))))) (decide_eq_false h100)) rfl hS ?_
      refine WH.take 24 rfl (by kernel_rfl) (by kernel_rfl) (by kernel_rfl) (fun _ _ _ h => h) Gd.none rfl (fun w' hS' => X.pickF (lt rfl (lt rfl (lt rfl (lt rfl (lt rfl (lt rfl (lt rfl (lt rfl (lt rfl (lt rfl (lt rfl (lt rfl (lt rfl (lt rfl (lt rfl (lt rfl (lt rfl (lh)))))))))))))))))) (decide_eq_false h100) lc) hS ?_
      refine WH.done (by kernel_rfl) ?_
      refine WL.e6 Nx.thn 7 9 33 34 35 64 (lt rfl (lt rfl (lt rfl (lt rfl (lt rfl (lt rfl (lt rfl (lt rfl (lt rfl (lt rfl (lt rfl (lt rfl (lt rfl (lt rfl (lt rfl (lt rfl (lt rfl (lt rfl (lt rfl (lt rfl (lt rfl (lt rfl (lt rfl (lt rfl (lt rfl (s7)))))))))))))))))))))))))) (lt rfl (lt rfl (lt rfl (lt rfl (lt rfl (lt rfl (lt rfl (lt rfl (lt rfl (lt rfl (lt rfl (lt rfl (lt rfl (lt rfl (lt rfl (lt rfl (lt rfl (lt rfl (lt rfl (lt rfl (lt rfl (lt rfl (lt rfl (lt rfl (lt rfl (s9)))))))))))))))))))))))))) (lt rfl (lt rfl (lt rfl (lt rfl (lt rfl (lt rfl (lt rfl (lt rfl (lt rfl (lt rfl (lt rfl (lt rfl (lt rfl (lt rfl (lt rfl (lt rfl (lt rfl (lt rfl (lt rfl (lt rfl (lt rfl (lt rfl (lt rfl (lt rfl (lt rfl (s33)))))))))))))))))))))))))) (lt rfl (lt rfl (lt rfl (lt rfl (lt rfl (lt rfl (lt rfl (lt rfl (lt rfl (lt rfl (lt rfl (lt rfl (lt rfl (lt rfl (lt rfl (lt rfl (lt rfl (lt rfl (lt rfl (lt rfl (lt rfl (lt rfl (lt rfl (lt rfl (lt rfl (s34)))))))))))))))))))))))))) (lt rfl (lt rfl (lt rfl (lt rfl (lt rfl (lt rfl (lt rfl (lt rfl (lt rfl (lt rfl (lt rfl (lt rfl (lt rfl (lt rfl (lt rfl (lt rfl (lt rfl (lt rfl (lt rfl (lt rfl (lt rfl (lt rfl (lt rfl (lt rfl (lt rfl (s35)))))))))))))))))))))))))) (lh) ?_
      intro σ11 s7 s9 s33 s34 s35 s64
      refine W.cndF s64 ?_
      refine W.skip (Nx.blk Nx.thn) ?_
      refine W.region ?_
      first | refine WL.x (X.add (s35) lc (by omega) (by omega)) rfl ?_ | refine WL.x (X.addw (s35) lc) rfl ?_
      refine WL.x (X.mv (lh)) rfl ?_
      refine WL.e5 Nx.thn 7 9 33 34 35 (lt rfl (lt rfl (s7))) (lt rfl (lt rfl (s9))) (lt rfl (lt rfl (s33))) (lt rfl (lt rfl (s34))) (lh) ?_
      intro σ12 s7 s9 s33 s34 s35
      refine ⟨k + 1, by first | omega | (dsimp only; omega), ⟨s7.trans qo2.symm, s9.trans qo3.symm, s33.trans qo4.symm, s34.trans qo5.symm, trivial⟩, s35, by omega, by rw [show min (k + 1) 100 = min k 100 by omega]; exact ho3.ch0 cdh8, by rw [show min (k + 1) 100 = min k 100 by omega]; exact hx3.ch0 cdh8, hcl3.trans0 cdh8⟩
  · refine W.exit (Nx.xthn (Nx.xthn (Nx.xblk Nx.thn))) ?_
    refine W.seq ?_
    refine W.region ?_
    refine WL.x (X.mv (s7)) rfl ?_
    refine WL.x (X.mv (lt rfl (s9))) rfl ?_
    refine WL.x (X.asg (lt rfl (lh))) rfl ?_
    refine WL.x (X.asg (lt rfl (lh))) rfl ?_
    refine WL.x (X.asg lc) rfl ?_
    refine WL.e3 Nx.thn 4 5 6 (lt rfl (lt rfl (lh))) (lt rfl (lh)) (lh) ?_
    intro σ13 s4 s5 s6
    refine W.ret3 Nx.f3 s4 s5 s6 ?_
    have htk : adds n (l.take (min k 100)) = adds n (l.take 100) := by
      rw [show min k 100 = min l.length 100 by omega]
      by_cases h : l.length ≤ 100
      · rw [show min l.length 100 = l.length by omega, List.take_of_length_le (Nat.le_refl _), List.take_of_length_le h]
      · rw [show min l.length 100 = 100 by omega]
    rw [htk] at ho hx
    exact ⟨hcl, o, x, _, rfl, ho, hx, hz1⟩
theorem added_out (n : Int) (x1 : Option Addr) (c1 : Nat) (l : List Gpr) (w : World) (hl : RSl 3 (Rc fpr) all w (.slice x1 l.length c1) l) (hm : l.length * 24 ≤ 140737488355328) (hn : ¬ (0 ≤ n ∧ n ≤ 300)) :
    Sg.Ret Tryd.prog 7 #[.int .i64 n, .slice x1 l.length c1] w fun v w' => Ch0 w w' ∧ v = .tuple #[.pointer none, .pointer none, .bool true] := by
  refine enter3 (n := 68) (l := [.int .i64 n, .slice x1 l.length c1]) Tryd.func7 rfl rfl rfl rfl ?_
  refine W.g2 0 1 (v1 := .int .i64 n) (v2 := .slice x1 l.length c1) rfl rfl ?_; intro σ s0 s1
  refine W.seq ?_
  refine W.region ?_
  refine WL.x (X.asg lc) rfl ?_
  refine WL.x (X.asg lc) rfl ?_
  refine WL.x (X.asg lc) rfl ?_
  refine WL.e2 Nx.thn 0 1 (lt rfl (lt rfl (lt rfl (s0)))) (lt rfl (lt rfl (lt rfl (s1)))) ?_
  intro σ1 s0 s1
  refine W.seq ?_
  refine W.region ?_
  refine WL.x (X.mv (s0)) rfl ?_
  refine WL.call1 ce20 (lh) (onew_ok n w) rfl ?_
  rintro v1 w1 ⟨k1, hv⟩
  rw [if_neg hn] at hv
  subst hv
  have hz1 := k1.size
  refine WL.x (X.mv (lh)) rfl ?_
  refine WL.x (X.ex2_0 (lh)) rfl ?_
  refine WL.x (X.ex2_1 (lt rfl (lh))) rfl ?_
  refine WL.x (X.asg (lt rfl (lh))) rfl ?_
  refine WL.x (X.asg (lt rfl (lh))) rfl ?_
  refine WL.e4 Nx.thn 0 1 7 8 (lt rfl (lt rfl (lt rfl (lt rfl (lt rfl (lt rfl (lt rfl (s0)))))))) (lt rfl (lt rfl (lt rfl (lt rfl (lt rfl (lt rfl (lt rfl (s1)))))))) (lt rfl (lh)) (lh) ?_
  intro σ2 s0 s1 s7 s8
  refine W.seq ?_
  refine W.region ?_
  refine WL.x (X.mv (s0)) rfl ?_
  refine WL.call1 ce21 (lh) (rnew_ok n w1) rfl ?_
  rintro v2 w2 ⟨k2, hv⟩
  rw [if_neg hn] at hv
  subst hv
  have hz2 := k2.size
  refine WL.x (X.mv (lh)) rfl ?_
  refine WL.x (X.ex2_0 (lh)) rfl ?_
  refine WL.x (X.ex2_1 (lt rfl (lh))) rfl ?_
  refine WL.x (X.asg (lt rfl (lh))) rfl ?_
  refine WL.x (X.asg (lt rfl (lh))) rfl ?_
  refine WL.e5 Nx.thn 1 7 8 9 10 (lt rfl (lt rfl (lt rfl (lt rfl (lt rfl (lt rfl (lt rfl (s1)))))))) (lt rfl (lt rfl (lt rfl (lt rfl (lt rfl (lt rfl (lt rfl (s7)))))))) (lt rfl (lt rfl (lt rfl (lt rfl (lt rfl (lt rfl (lt rfl (s8)))))))) (lt rfl (lh)) (lh) ?_
  intro σ3 s1 s7 s8 s9 s10
  refine W.seq ?_
  refine W.seq ?_
  refine W.region ?_
  refine WL.x (X.mv (s8)) rfl ?_
  refine WL.x (X.mv (lt rfl (s10))) rfl ?_
  refine WL.x (X.neq (lt rfl (lh)) (lh)) rfl ?_
  refine WL.x (X.mv (lh)) rfl ?_
  refine WL.yes rfl rfl (lh) (decide_eq_false (fun h => h rfl)) ?_
  refine WL.x (X.mv (lt rfl (lt rfl (lt rfl (lt rfl (s7)))))) rfl ?_
  refine WL.yes rfl rfl (lt rfl (lh)) (decide_eq_false (fun h => h rfl)) ?_
  refine WL.x (X.eqlN Tryd.underlying24 (lh) lc) rfl ?_
  refine WL.yes rfl rfl (lt rfl (lt rfl (lh))) (decide_eq_false (fun h => h rfl)) ?_
  refine WL.x (X.mv (lt rfl (lt rfl (lt rfl (lt rfl (lt rfl (lt rfl (s9)))))))) rfl ?_
  refine WL.yes rfl rfl (lt rfl (lt rfl (lt rfl (lh)))) (decide_eq_false (fun h => h rfl)) ?_
  refine WL.x (X.eqlN Tryd.underlying25 (lh) lc) rfl ?_
  refine WL.yes rfl rfl (lt rfl (lt rfl (lt rfl (lt rfl (lh))))) (decide_eq_false (fun h => h rfl)) ?_
  refine WL.x (X.neqB Tryd.underlying4 (lt rfl (lt rfl (lh))) (lh)) rfl ?_
  refine WL.x (X.pickF (lt rfl (lt rfl (lt rfl (lt rfl (lt rfl (lh)))))) (decide_eq_false (fun h => h rfl)) (lh)) rfl ?_
  refine WL.e4 Nx.thn 1 7 9 32 (lt rfl (lt rfl (lt rfl (lt rfl (lt rfl (lt rfl (lt rfl (lt rfl (lt rfl (lt rfl (s1))))))))))) (lt rfl (lt rfl (lt rfl (lt rfl (lt rfl (lt rfl (lt rfl (lt rfl (lt rfl (lt rfl (s7))))))))))) (lt rfl (lt rfl (lt rfl (lt rfl (lt rfl (lt rfl (lt rfl (lt rfl (lt rfl (lt rfl (s9))))))))))) (lh) ?_
  intro σ4 s1 s7 s9 s32
  refine W.cndN s32 (fun h => h rfl) ?_
  refine W.skip Nx.thn ?_
  refine W.seq ?_
  refine W.seq ?_
  refine W.region ?_
  refine WL.x (X.mv (s1)) rfl ?_
  refine WL.x (X.lenSl Tryd.underlying22 (lh)) rfl ?_
  refine WL.x (X.mv lc) rfl ?_
  refine WL.e5 Nx.thn 7 9 33 34 35 (lt rfl (lt rfl (lt rfl (s7)))) (lt rfl (lt rfl (lt rfl (s9)))) (lt rfl (lt rfl (lh))) (lt rfl (lh)) (lh) ?_
  intro σ5 s7 s9 s33 s34 s35
  refine W.block ?_
  have qo2 := s7
  have qo3 := s9
  have qo4 := s33
  have qo5 := s34
  -- loop 0: kept [7, 9, 33, 34], varied [35]
  refine W.loop (G := Nat) (fun k σ' w' => (σ' 7 = σ5 7 ∧ σ' 9 = σ5 9 ∧ σ' 33 = σ5 33 ∧ σ' 34 = σ5 34 ∧ True) ∧ (σ' 35 = .int .i64 (k : Int) ∧ k ≤ l.length ∧ Ch0 w w')) (fun k => l.length - k) (0) ⟨⟨rfl, rfl, rfl, rfl, trivial⟩, s35, by omega, k1.trans0 k2⟩ ?_
  rintro k σ6 w3 ⟨⟨f7, f9, f33, f34, _⟩, s35, hk, hcl⟩
  have s7 := f7.trans qo2
  have s9 := f9.trans qo3
  have s33 := f33.trans qo4
  have s34 := f34.trans qo5
  refine W.seq ?_
  refine W.region ?_
  refine WL.x (X.lss (s35) (s34)) rfl ?_
  refine WL.e6 Nx.thn 7 9 33 34 35 36 (lt rfl (s7)) (lt rfl (s9)) (lt rfl (s33)) (lt rfl (s34)) (lt rfl (s35)) (lh) ?_
  intro σ7 s7 s9 s33 s34 s35 s36
  refine W.seq ?_
  refine W.cndp s36 (fun hlt => ?_) (fun hlt => ?_)
  · obtain ⟨be, oe, cse, Te, fre, rfl, hme, hle, -, hce⟩ := hl.get (k := k) (by omega)
    obtain ⟨⟨p1, p2, p3⟩, hpk⟩ : ∃ p, l[k] = p := ⟨_, rfl⟩
    rw [hpk] at hle hce
    refine W.skip Nx.thn ?_
    refine W.seq ?_
    refine W.block ?_
    refine W.seq ?_
    refine W.region ?_
    refine WL.x (X.mv (s35)) rfl ?_
    refine WL.x (X.indexAddr Tryd.underlying22 el33 (lt rfl (s33)) (lt rfl (s35)) (by omega) (by omega)) rfl ?_
    refine WL.x (X.loadS (vs := [.int .i64 p1, .int .i64 p2, .bool p3]) ag33 (lh) (hcl.at0 hme) rfl hce) rfl ?_
    refine WL.alloc el33 rfl ?_
    intro w4 u7_3; have hu7_3 := u7_3.at_; have cu7_3 := u7_3.ch; have zu7_3 := u7_3.size
    refine WL.x (X.asg (lt rfl (lt rfl (lt rfl (lh))))) rfl ?_
    refine WL.storeS ag33 (lt rfl (lh)) (lt rfl (lt rfl (lh))) rfl rfl hu7_3 (by first | decide | (simp; done) | (simp; omega)) ?_
    intro w5 us; have cst := us.ch
    have hcl3 := (hcl.trans0 cu7_3).trans cst (H := fun _ => False) (fun _ _ e => e) (fun i hi e => by have := hcl.size; (try dsimp only at e); omega)
    refine WL.e7 Nx.thn 7 9 11 12 33 34 35 (lt rfl (lt rfl (lt rfl (lt rfl (lt rfl (s7)))))) (lt rfl (lt rfl (lt rfl (lt rfl (lt rfl (s9)))))) (lh) (lt rfl (lh)) (lt rfl (lt rfl (lt rfl (lt rfl (lt rfl (s33)))))) (lt rfl (lt rfl (lt rfl (lt rfl (lt rfl (s34)))))) (lt rfl (lt rfl (lt rfl (lt rfl (lt rfl (s35)))))) ?_
    intro σ8 s7 s9 s11 s12 s33 s34 s35
    refine W.seq ?_
    refine W.held (fun w' => Ch (fun _ => False) w5 w') mo ?_
    intro w6 qhh6 qc7
    have hS : Ch (fun _ => False) w5 w6 := Ch.weak qc7
    have hzqc7 := qc7.size
    have cdh8 := qc7
    refine WH.take 0 rfl (by kernel_rfl) (by kernel_rfl) (by kernel_rfl) (fun _ _ _ h => h) Gd.none rfl (fun w' hS' => X.mv (s9)) hS ?_
    refine WH.take 1 rfl (by kernel_rfl) (by kernel_rfl) (by kernel_rfl) (fun _ _ _ h => h) Gd.none rfl (fun w' hS' => X.neqN Tryd.underlying25 (lh) lc) hS ?_
    refine WH.take 2 rfl (by kernel_rfl) (by kernel_rfl) (by kernel_rfl) (fun _ _ _ h => h) Gd.none rfl (fun w' hS' => X.mv (lh)) hS ?_
    refine WH.pass 3 rfl (by kernel_rfl) (by kernel_rfl) (by kernel_rfl) (fun _ _ _ h => h) (Gd.no rfl rfl (lh) (rfl)) rfl hS ?_
    refine WH.pass 4 rfl (by kernel_rfl) (by kernel_rfl) (by kernel_rfl) (fun _ _ _ h => h) (Gd.no rfl rfl (lt rfl (lh)) (rfl)) rfl hS ?_
    refine WH.take 5 rfl (by kernel_rfl) (by kernel_rfl) (by kernel_rfl) (fun _ _ _ h => h) Gd.none rfl (fun w' hS' => X.pickF (lt rfl (lt rfl (lh))) (rfl) lc) hS ?_
    refine WH.take 6 rfl (by kernel_rfl) (by kernel_rfl) (by kernel_rfl) (fun _ _ _ h => h) Gd.none rfl (fun w' hS' => X.mv (lh)) hS ?_
    refine WH.pass 7 rfl (by kernel_rfl) (by kernel_rfl) (by kernel_rfl) (fun _ _ _ h => h) (Gd.no rfl rfl (lh) rfl) rfl hS ?_
    refine WH.pass 8 rfl (by kernel_rfl) (by kernel_rfl) (by kernel_rfl) (fun _ _ _ h => h) (Gd.no rfl rfl (lt rfl (lh)) rfl) rfl hS ?_
    refine WH.pass 9 rfl (by kernel_rfl) (by kernel_rfl) (by kernel_rfl) (fun _ _ _ h => h) (Gd.no rfl rfl (lt rfl (lt rfl (lh))) rfl) rfl hS ?_
    refine WH.pass 10 rfl (by kernel_rfl) (by kernel_rfl) (by kernel_rfl) (fun _ _ _ h => h) (Gd.no rfl rfl (lt rfl (lt rfl (lt rfl (lh)))) rfl) rfl hS ?_
    refine WH.pass 11 rfl (by kernel_rfl) (by kernel_rfl) (by kernel_rfl) (fun _ _ _ h => h) (Gd.no rfl rfl (lt rfl (lt rfl (lt rfl (lt rfl (lh))))) rfl) rfl hS ?_
    refine WH.pass 12 rfl (by kernel_rfl) (by kernel_rfl) (by kernel_rfl) (fun _ _ _ h => h) (Gd.no rfl rfl (lt rfl (lt rfl (lt rfl (lt rfl (lt rfl (lh)))))) rfl) rfl hS ?_
    refine WH.pass 13 rfl (by kernel_rfl) (by kernel_rfl) (by kernel_rfl) (fun _ _ _ h => h) (Gd.no rfl rfl (lt rfl (lt rfl (lt rfl (lt rfl (lt rfl (lt rfl (lh))))))) rfl) rfl hS ?_
    refine WH.pass 14 rfl (by kernel_rfl) (by kernel_rfl) (by kernel_rfl) (fun _ _ _ h => h) (Gd.no rfl rfl (lt rfl (lt rfl (lt rfl (lt rfl (lt rfl (lt rfl (lt rfl (lh)))))))) rfl) rfl hS ?_
    refine WH.pass 15 rfl (by kernel_rfl) (by kernel_rfl) (by kernel_rfl) (fun _ _ _ h => h) (Gd.no rfl rfl (lt rfl (lt rfl (lt rfl (lt rfl (lt rfl (lt rfl (lt rfl (lt rfl (lh))))))))) rfl) rfl hS ?_
    refine WH.pass 16 rfl (by kernel_rfl) (by kernel_rfl) (by kernel_rfl) (fun _ _ _ h => h) (Gd.no rfl rfl (lt rfl (lt rfl (lt rfl (lt rfl (lt rfl (lt rfl (lt rfl (lt rfl (lt rfl (lh)))))))))) rfl) rfl hS ?_
    refine WH.pass 17 rfl (by kernel_rfl) (by kernel_rfl) (by kernel_rfl) (fun _ _ _ h => h) (Gd.no rfl rfl (lt rfl (lt rfl (lt rfl (lt rfl (lt rfl (lt rfl (lt rfl (lt rfl (lt rfl (lt rfl (lh))))))))))) rfl) rfl hS ?_
    refine WH.pass 18 rfl (by kernel_rfl) (by kernel_rfl) (by kernel_rfl) (fun _ _ _ h => h) (Gd.no rfl rfl (lt rfl (lt rfl (lt rfl (lt rfl (lt rfl (lt rfl (lt rfl (lt rfl (lt rfl (lt rfl (lt rfl (lh)))))))))))) rfl) rfl hS ?_
    refine WH.pass 19 rfl (by kernel_rfl) (by kernel_rfl) (by kernel_rfl) (fun _ _ _ h => h) (Gd.no rfl rfl (lt rfl (lt rfl (lt rfl (lt rfl (lt rfl (lt rfl (lt rfl (lt rfl (lt rfl (lt rfl (lt rfl (lt rfl (lh))))))))))))) rfl) rfl hS ?_
    refine WH.pass 20 rfl (by kernel_rfl) (by kernel_rfl) (by kernel_rfl) (fun _ _ _ h => h) (Gd.no rfl rfl (lt rfl (lt rfl (lt rfl (lt rfl (lt rfl (lt rfl (lt rfl (lt rfl (lt rfl (lt rfl (lt rfl (lt rfl (lt rfl (lh)))))))))))))) rfl) rfl hS ?_
    refine WH.pass 21 rfl (by kernel_rfl) (by kernel_rfl) (by kernel_rfl) (fun _ _ _ h => h) (Gd.no rfl rfl (lt rfl (lt rfl (lt rfl (lt rfl (lt rfl (lt rfl (lt rfl (lt rfl (lt rfl (lt rfl (lt rfl (lt rfl (lt rfl (lt rfl (lh))))))))))))))) rfl) rfl hS ?_
    refine WH.pass 22 rfl (by kernel_rfl) (by kernel_rfl) (by kernel_rfl) (fun _ _ _ h => h) (Gd.no rfl rfl (lt rfl (lt rfl (lt rfl (lt rfl (lt rfl (lt rfl (lt rfl (lt rfl (lt rfl (lt rfl (lt rfl (lt rfl (lt rfl (lt rfl (lt rfl (lh)))))))))))))))) rfl) rfl hS ?_
    refine WH.pass 23 rfl (by kernel_rfl) (by kernel_rfl) (by kernel_rfl) (fun _ _ _ h => h) (Gd.no rfl rfl (lt rfl (lt rfl (lt rfl (lt rfl (lt rfl (lt rfl (lt rfl (lt rfl (lt rfl (lt rfl (lt rfl (lt rfl (lt rfl (lt rfl (lt rfl (lt rfl (lh))))))))))))))))) rfl) rfl hS ?_
    refine WH.take 24 rfl (by kernel_rfl) (by kernel_rfl) (by kernel_rfl) (fun _ _ _ h => h) Gd.none rfl (fun w' hS' => X.pickF (lt rfl (lt rfl (lt rfl (lt rfl (lt rfl (lt rfl (lt rfl (lt rfl (lt rfl (lt rfl (lt rfl (lt rfl (lt rfl (lt rfl (lt rfl (lt rfl (lt rfl (lh)))))))))))))))))) rfl lc) hS ?_
    refine WH.done (by kernel_rfl) ?_
    refine WL.e6 Nx.thn 7 9 33 34 35 64 (lt rfl (lt rfl (lt rfl (lt rfl (lt rfl (lt rfl (lt rfl (lt rfl (lt rfl (lt rfl (lt rfl (lt rfl (lt rfl (lt rfl (lt rfl (lt rfl (lt rfl (lt rfl (lt rfl (lt rfl (lt rfl (lt rfl (lt rfl (lt rfl (lt rfl (s7)))))))))))))))))))))))))) (lt rfl (lt rfl (lt rfl (lt rfl (lt rfl (lt rfl (lt rfl (lt rfl (lt rfl (lt rfl (lt rfl (lt rfl (lt rfl (lt rfl (lt rfl (lt rfl (lt rfl (lt rfl (lt rfl (lt rfl (lt rfl (lt rfl (lt rfl (lt rfl (lt rfl (s9)))))))))))))))))))))))))) (lt rfl (lt rfl (lt rfl (lt rfl (lt rfl (lt rfl (lt rfl (lt rfl (lt rfl (lt rfl (lt rfl (lt rfl (lt rfl (lt rfl (lt rfl (lt rfl (lt rfl (lt rfl (lt rfl (lt rfl (lt rfl (lt rfl (lt rfl (lt rfl (lt rfl (s33)))))))))))))))))))))))))) (lt rfl (lt rfl (lt rfl (lt rfl (lt rfl (lt rfl (lt rfl (lt rfl (lt rfl (lt rfl (lt rfl (lt rfl (lt rfl (lt rfl (lt rfl (lt rfl (lt rfl (lt rfl (lt rfl (lt rfl (lt rfl (lt rfl (lt rfl (lt rfl (lt rfl (s34)))))))))))))))))))))))))) (lt rfl (lt rfl (lt rfl (lt rfl (lt rfl (lt rfl (lt rfl (lt rfl (lt rfl (lt rfl (lt rfl (lt rfl (lt rfl (lt rfl (lt rfl (lt rfl (lt rfl (lt rfl (lt rfl (lt rfl (lt rfl (lt rfl (lt rfl (lt rfl (lt rfl (s35)))))))))))))))))))))))))) (lh) ?_
    intro σ9 s7 s9 s33 s34 s35 s64
    refine W.cndF s64 ?_
    refine W.skip (Nx.blk Nx.thn) ?_
    refine W.region ?_
    first | refine WL.x (X.add (s35) lc (by omega) (by omega)) rfl ?_ | refine WL.x (X.addw (s35) lc) rfl ?_
    refine WL.x (X.mv (lh)) rfl ?_
    refine WL.e5 Nx.thn 7 9 33 34 35 (lt rfl (lt rfl (s7))) (lt rfl (lt rfl (s9))) (lt rfl (lt rfl (s33))) (lt rfl (lt rfl (s34))) (lh) ?_
    intro σ10 s7 s9 s33 s34 s35
    refine ⟨k + 1, by first | omega | (dsimp only; omega), ⟨s7.trans qo2.symm, s9.trans qo3.symm, s33.trans qo4.symm, s34.trans qo5.symm, trivial⟩, s35, by omega, hcl3.trans0 cdh8⟩
  · refine W.exit (Nx.xthn (Nx.xthn (Nx.xblk Nx.thn))) ?_
    refine W.seq ?_
    refine W.region ?_
    refine WL.x (X.mv (s7)) rfl ?_
    refine WL.x (X.mv (lt rfl (s9))) rfl ?_
    refine WL.x (X.asg (lt rfl (lh))) rfl ?_
    refine WL.x (X.asg (lt rfl (lh))) rfl ?_
    refine WL.x (X.asg lc) rfl ?_
    refine WL.e3 Nx.thn 4 5 6 (lt rfl (lt rfl (lh))) (lt rfl (lh)) (lh) ?_
    intro σ11 s4 s5 s6
    refine W.ret3 Nx.f3 s4 s5 s6 ?_
    exact ⟨hcl, rfl⟩
end Go.Proofs.YtpmbnpehknmmjaaDoor
