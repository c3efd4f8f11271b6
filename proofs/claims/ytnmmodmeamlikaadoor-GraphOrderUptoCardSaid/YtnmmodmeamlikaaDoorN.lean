/-
  A part of the walk of the program.
-/
import Derived.Test.YtnmmodmeamlikaaDoorM
set_option linter.unusedVariables false
set_option linter.unusedSimpArgs false
set_option maxRecDepth 100000
namespace Go.Proofs.YtnmmodmeamlikaaDoor
open Go Go.RowKit Sg
set_option maxHeartbeats 1600000 in
theorem drawn_in (n : Int) (x1 : Option Addr) (c1 : Nat) (l : List Ged) (w : World) (hl : RSl 3 (Rc fed) all w (.slice x1 l.length c1) l) (hm : l.length * 24 ≤ 140737488355328) (hn : 0 ≤ n ∧ n ≤ 300) :
    Sg.Ret Tryd.prog 9 #[.int .i64 n, .slice x1 l.length c1] w fun v w' => Ch0 w w' ∧ ∃ g x bx, v = .tuple #[.pointer (some ⟨g, 0, none⟩), .pointer (some ⟨x, 0, none⟩), .bool true] ∧ IsG w' w.heap.size g n.toNat (foldE n.toNat l) ∧ IsRG w' bx x n.toNat (foldE n.toNat l) ∧ w.heap.size ≤ bx := by
  refine enter3 (n := 63) (l := [.int .i64 n, .slice x1 l.length c1]) Tryd.func9 rfl rfl rfl rfl ?_
  refine W.g2 0 1 (v1 := .int .i64 n) (v2 := .slice x1 l.length c1) rfl rfl ?_; intro σ s0 s1
  refine W.seq ?_
  refine W.region ?_
  refine WL.x (X.asg lc) rfl ?_
  refine WL.x (X.asg lc) rfl ?_
  refine WL.x (X.asg lc) rfl ?_
  refine WL.e2 Nx.thn 0 1 (lt rfl (lt rfl (lt rfl (s0)))) (lt rfl (lt rfl (lt rfl (s1)))) ?_
  intro σ1 s0 s1
  refine W.seq ?_
  refine W.region ?_
  refine WL.x (X.mv (s0)) rfl ?_
  refine WL.call1 ce27 (lh) (gnew_ok n w) rfl ?_
  rintro v1 w1 ⟨k1, hv⟩
  rw [if_pos hn] at hv
  obtain ⟨g, rfl, hg0⟩ := hv
  have hz1 := k1.size
  refine WL.x (X.mv (lh)) rfl ?_
  refine WL.x (X.ex2_0 (lh)) rfl ?_
  refine WL.x (X.ex2_1 (lt rfl (lh))) rfl ?_
  refine WL.x (X.asg (lt rfl (lh))) rfl ?_
  refine WL.x (X.asg (lt rfl (lh))) rfl ?_
  refine WL.e4 Nx.thn 0 1 7 8 (lt rfl (lt rfl (lt rfl (lt rfl (lt rfl (lt rfl (lt rfl (s0)))))))) (lt rfl (lt rfl (lt rfl (lt rfl (lt rfl (lt rfl (lt rfl (s1)))))))) (lt rfl (lh)) (lh) ?_
  intro σ2 s0 s1 s7 s8
  refine W.seq ?_
  refine W.region ?_
  refine WL.x (X.mv (s0)) rfl ?_
  refine WL.call1 ce28 (lh) (rnew_ok n w1) rfl ?_
  rintro v2 w2 ⟨k2, hv⟩
  rw [if_pos hn] at hv
  obtain ⟨x, rfl, hx0⟩ := hv
  have hz2 := k2.size
  refine WL.x (X.mv (lh)) rfl ?_
  refine WL.x (X.ex2_0 (lh)) rfl ?_
  refine WL.x (X.ex2_1 (lt rfl (lh))) rfl ?_
  refine WL.x (X.asg (lt rfl (lh))) rfl ?_
  refine WL.x (X.asg (lt rfl (lh))) rfl ?_
  refine WL.e5 Nx.thn 1 7 8 9 10 (lt rfl (lt rfl (lt rfl (lt rfl (lt rfl (lt rfl (lt rfl (s1)))))))) (lt rfl (lt rfl (lt rfl (lt rfl (lt rfl (lt rfl (lt rfl (s7)))))))) (lt rfl (lt rfl (lt rfl (lt rfl (lt rfl (lt rfl (lt rfl (s8)))))))) (lt rfl (lh)) (lh) ?_
  intro σ3 s1 s7 s8 s9 s10
  refine W.seq ?_
  refine W.seq ?_
  refine W.region ?_
  refine WL.x (X.mv (s8)) rfl ?_
  refine WL.x (X.mv (lt rfl (s10))) rfl ?_
  refine WL.x (X.neq (lt rfl (lh)) (lh)) rfl ?_
  refine WL.x (X.mv (lh)) rfl ?_
  refine WL.yes rfl rfl (lh) (decide_eq_false (fun h => h rfl)) ?_
  refine WL.x (X.mv (lt rfl (lt rfl (lt rfl (lt rfl (s7)))))) rfl ?_
  refine WL.yes rfl rfl (lt rfl (lh)) (decide_eq_false (fun h => h rfl)) ?_
  refine WL.x (X.eqlN Tryd.underlying23 (lh) lc) rfl ?_
  refine WL.yes rfl rfl (lt rfl (lt rfl (lh))) (decide_eq_false (fun h => h rfl)) ?_
  refine WL.x (X.mv (lt rfl (lt rfl (lt rfl (lt rfl (lt rfl (lt rfl (s9)))))))) rfl ?_
  refine WL.yes rfl rfl (lt rfl (lt rfl (lt rfl (lh)))) (decide_eq_false (fun h => h rfl)) ?_
  refine WL.x (X.eqlN Tryd.underlying24 (lh) lc) rfl ?_
  refine WL.yes rfl rfl (lt rfl (lt rfl (lt rfl (lt rfl (lh))))) (decide_eq_false (fun h => h rfl)) ?_
  refine WL.x (X.neqB Tryd.underlying4 (lt rfl (lt rfl (lh))) (lh)) rfl ?_
  refine WL.x (X.pickF (lt rfl (lt rfl (lt rfl (lt rfl (lt rfl (lh)))))) (decide_eq_false (fun h => h rfl)) (lh)) rfl ?_
  refine WL.e4 Nx.thn 1 7 9 32 (lt rfl (lt rfl (lt rfl (lt rfl (lt rfl (lt rfl (lt rfl (lt rfl (lt rfl (lt rfl (s1))))))))))) (lt rfl (lt rfl (lt rfl (lt rfl (lt rfl (lt rfl (lt rfl (lt rfl (lt rfl (lt rfl (s7))))))))))) (lt rfl (lt rfl (lt rfl (lt rfl (lt rfl (lt rfl (lt rfl (lt rfl (lt rfl (lt rfl (s9))))))))))) (lh) ?_
  intro σ4 s1 s7 s9 s32
  refine W.cndN s32 (fun h => h rfl) ?_
  refine W.skip Nx.thn ?_
  refine W.seq ?_
  refine W.seq ?_
  refine W.region ?_
  refine WL.x (X.mv (s1)) rfl ?_
  refine WL.x (X.lenSl Tryd.underlying22 (lh)) rfl ?_
  refine WL.x (X.mv lc) rfl ?_
  refine WL.e5 Nx.thn 7 9 33 34 35 (lt rfl (lt rfl (lt rfl (s7)))) (lt rfl (lt rfl (lt rfl (s9)))) (lt rfl (lt rfl (lh))) (lt rfl (lh)) (lh) ?_
  intro σ5 s7 s9 s33 s34 s35
  refine W.block ?_
  have qo2 := s7
  have qo3 := s9
  have qo4 := s33
  have qo5 := s34
  -- loop 0: kept [7, 9, 33, 34], varied [35]
  refine W.loop (G := Nat) (fun k σ' w' => (σ' 7 = σ5 7 ∧ σ' 9 = σ5 9 ∧ σ' 33 = σ5 33 ∧ σ' 34 = σ5 34 ∧ True) ∧ (σ' 35 = .int .i64 (k : Int) ∧ k ≤ l.length ∧ IsG w' w.heap.size g n.toNat (foldE n.toNat (l.take k)) ∧ IsRG w' w1.heap.size x n.toNat (foldE n.toNat (l.take k)) ∧ Ch0 w w')) (fun k => l.length - k) (0) ⟨⟨rfl, rfl, rfl, rfl, trivial⟩, s35, by omega, hg0.ch0 k2, hx0, k1.trans0 k2⟩ ?_
  rintro k σ6 w3 ⟨⟨f7, f9, f33, f34, _⟩, s35, hk, hg, hx, hcl⟩
  have s7 := f7.trans qo2
  have s9 := f9.trans qo3
  have s33 := f33.trans qo4
  have s34 := f34.trans qo5
  have hzc := hcl.size
  refine W.seq ?_
  refine W.region ?_
  refine WL.x (X.lss (s35) (s34)) rfl ?_
  refine WL.e6 Nx.thn 7 9 33 34 35 36 (lt rfl (s7)) (lt rfl (s9)) (lt rfl (s33)) (lt rfl (s34)) (lt rfl (s35)) (lh) ?_
  intro σ7 s7 s9 s33 s34 s35 s36
  refine W.seq ?_
  refine W.cndp s36 (fun hlt => ?_) (fun hlt => ?_)
  · obtain ⟨be, oe, cse, Te, fre, rfl, hme, hle, -, hce⟩ := hl.get (k := k) (by omega)
    obtain ⟨⟨p1, p2, p3⟩, hpk⟩ : ∃ p, l[k] = p := ⟨_, rfl⟩
    have hft := foldE_take (n := n.toNat) (l := l) (k := k) (by omega)
    rw [hpk] at hle hce hft
    refine W.skip Nx.thn ?_
    refine W.seq ?_
    refine W.block ?_
    refine W.seq ?_
    refine W.region ?_
    refine WL.x (X.indexAddr Tryd.underlying22 el36 (s33) (s35) (by omega) (by omega)) rfl ?_
    refine WL.x (X.loadS (vs := [.int .i64 p1, .int .i64 p2, .int .i64 p3]) ag36 (lh) (hcl.at0 hme) rfl hce) rfl ?_
    refine WL.alloc el36 rfl ?_
    intro w4 u7_2; have hu7_2 := u7_2.at_; have cu7_2 := u7_2.ch; have zu7_2 := u7_2.size
    refine WL.storeS ag36 (lh) (lt rfl (lh)) rfl rfl hu7_2 (by first | decide | (simp; done) | (simp; omega)) ?_
    intro w5 us; have cst := us.ch
    have hkb : w5.heap[w3.heap.size]? = some (.cells #[.int .i64 p1, .int .i64 p2, .int .i64 p3] 36 (0, 0)) := us.at_
    have cku : Ch0 w3 w5 := cu7_2.trans cst (fun _ _ e => e) (fun i hi e => by (try dsimp only at e); omega)
    have hg3 := hg.ch0 cku
    have hx3 := hx.ch0 cku
    have hcl3 := hcl.trans0 cku
    have hzk := lt_of_blk hkb
    refine WL.e6 Nx.thn 7 9 12 33 34 35 (lt rfl (lt rfl (lt rfl (s7)))) (lt rfl (lt rfl (lt rfl (s9)))) (lh) (lt rfl (lt rfl (lt rfl (s33)))) (lt rfl (lt rfl (lt rfl (s34)))) (lt rfl (lt rfl (lt rfl (s35)))) ?_
    intro σ8 s7 s9 s12 s33 s34 s35
    refine W.seq ?_
    refine W.held (fun w' => Ch (fun j => j ≠ w3.heap.size ∧ w.heap.size ≤ j) w5 w') mo ?_
    intro w6 qhh6 qc7
    have hS : Ch (fun j => j ≠ w3.heap.size ∧ w.heap.size ≤ j) w5 w6 := Ch.weak qc7
    have hzqc7 := qc7.size
    have cdh8 := qc7
    refine WH.take 0 rfl (by kernel_rfl) (by kernel_rfl) (by kernel_rfl) (fun _ _ _ h => h) Gd.none rfl (fun w' hS' => X.mv (s9)) hS ?_
    refine WH.take 1 rfl (by kernel_rfl) (by kernel_rfl) (by kernel_rfl) (fun _ _ _ h => h) Gd.none rfl (fun w' hS' => X.neqN Tryd.underlying24 (lh) lc) hS ?_
    refine WH.take 2 rfl (by kernel_rfl) (by kernel_rfl) (by kernel_rfl) (fun _ _ _ h => h) Gd.none rfl (fun w' hS' => X.mv (lh)) hS ?_
    refine WH.take 3 rfl (by kernel_rfl) (by kernel_rfl) (by kernel_rfl) (fun _ _ _ h => h) (Gd.yes rfl rfl (lh) (rfl)) rfl (fun w' hS' => X.mv (lt rfl (lt rfl (lt rfl (s7))))) hS ?_
    refine WH.take 4 rfl (by kernel_rfl) (by kernel_rfl) (by kernel_rfl) (fun _ _ _ h => h) (Gd.yes rfl rfl (lt rfl (lh)) (rfl)) rfl (fun w' hS' => X.fieldAddr fd36_0 (lt rfl (lt rfl (lt rfl (lt rfl (s12)))))) hS ?_
    refine WH.take 5 rfl (by kernel_rfl) (by kernel_rfl) (by kernel_rfl) (fun _ _ _ h => h) (Gd.yes rfl rfl (lt rfl (lt rfl (lh))) (rfl)) rfl (fun w' hS' => X.load pl3 (lh) (by first | assumption | exact hS'.at (by assumption) (by intro hne; first | exact hne | ((try dsimp only at hne); omega)) | exact hS'.at (cst.at (by assumption) (by intro hne; first | exact hne | ((try dsimp only at hne); omega))) (by intro hne; first | exact hne | ((try dsimp only at hne); omega)) | exact hS'.at (cst.at (cu7_2.at0 (by assumption)) (by intro hne; first | exact hne | ((try dsimp only at hne); omega))) (by intro hne; first | exact hne | ((try dsimp only at hne); omega)) | exact hS'.at (cst.at (cu7_2.at0 (hcl.at0 (by assumption))) (by intro hne; first | exact hne | ((try dsimp only at hne); omega))) (by intro hne; first | exact hne | ((try dsimp only at hne); omega)) | exact hS'.at (cst.at (cu7_2.at0 (hcl.at0 (k2.at0 (by assumption)))) (by intro hne; first | exact hne | ((try dsimp only at hne); omega))) (by intro hne; first | exact hne | ((try dsimp only at hne); omega)) | exact hS'.at (cst.at (cu7_2.at0 (hcl.at0 (k2.at0 (k1.at0 (by assumption))))) (by intro hne; first | exact hne | ((try dsimp only at hne); omega))) (by intro hne; first | exact hne | ((try dsimp only at hne); omega))) (by first | rfl | assumption)) hS ?_
    refine WH.take 6 rfl (by kernel_rfl) (by kernel_rfl) (by kernel_rfl) (fun _ _ _ h => h) (Gd.yes rfl rfl (lt rfl (lt rfl (lt rfl (lh)))) (rfl)) rfl (fun w' hS' => X.fieldAddr fd36_1 (lt rfl (lt rfl (lt rfl (lt rfl (lt rfl (lt rfl (s12)))))))) hS ?_
    refine WH.take 7 rfl (by kernel_rfl) (by kernel_rfl) (by kernel_rfl) (fun _ _ _ h => h) (Gd.yes rfl rfl (lt rfl (lt rfl (lt rfl (lt rfl (lh))))) (rfl)) rfl (fun w' hS' => X.load pl3 (lh) (by first | assumption | exact hS'.at (by assumption) (by intro hne; first | exact hne | ((try dsimp only at hne); omega)) | exact hS'.at (cst.at (by assumption) (by intro hne; first | exact hne | ((try dsimp only at hne); omega))) (by intro hne; first | exact hne | ((try dsimp only at hne); omega)) | exact hS'.at (cst.at (cu7_2.at0 (by assumption)) (by intro hne; first | exact hne | ((try dsimp only at hne); omega))) (by intro hne; first | exact hne | ((try dsimp only at hne); omega)) | exact hS'.at (cst.at (cu7_2.at0 (hcl.at0 (by assumption))) (by intro hne; first | exact hne | ((try dsimp only at hne); omega))) (by intro hne; first | exact hne | ((try dsimp only at hne); omega)) | exact hS'.at (cst.at (cu7_2.at0 (hcl.at0 (k2.at0 (by assumption)))) (by intro hne; first | exact hne | ((try dsimp only at hne); omega))) (by intro hne; first | exact hne | ((try dsimp only at hne); omega)) | exact hS'.at (cst.at (cu7_2.at0 (hcl.at0 (k2.at0 (k1.at0 (by assumption))))) (by intro hne; first | exact hne | ((try dsimp only at hne); omega))) (by intro hne; first | exact hne | ((try dsimp only at hne); omega))) (by first | rfl | assumption)) hS ?_
    refine WH.take 8 rfl (by kernel_rfl) (by kernel_rfl) (by kernel_rfl) (fun _ _ _ h => h) (Gd.yes rfl rfl (lt rfl (lt rfl (lt rfl (lt rfl (lt rfl (lh)))))) (rfl)) rfl (fun w' hS' => X.fieldAddr fd36_2 (lt rfl (lt rfl (lt rfl (lt rfl (lt rfl (lt rfl (lt rfl (lt rfl (s12)))))))))) hS ?_
    refine WH.take 9 rfl (by kernel_rfl) (by kernel_rfl) (by kernel_rfl) (fun _ _ _ h => h) (Gd.yes rfl rfl (lt rfl (lt rfl (lt rfl (lt rfl (lt rfl (lt rfl (lh))))))) (rfl)) rfl (fun w' hS' => X.load pl3 (lh) (by first | assumption | exact hS'.at (by assumption) (by intro hne; first | exact hne | ((try dsimp only at hne); omega)) | exact hS'.at (cst.at (by assumption) (by intro hne; first | exact hne | ((try dsimp only at hne); omega))) (by intro hne; first | exact hne | ((try dsimp only at hne); omega)) | exact hS'.at (cst.at (cu7_2.at0 (by assumption)) (by intro hne; first | exact hne | ((try dsimp only at hne); omega))) (by intro hne; first | exact hne | ((try dsimp only at hne); omega)) | exact hS'.at (cst.at (cu7_2.at0 (hcl.at0 (by assumption))) (by intro hne; first | exact hne | ((try dsimp only at hne); omega))) (by intro hne; first | exact hne | ((try dsimp only at hne); omega)) | exact hS'.at (cst.at (cu7_2.at0 (hcl.at0 (k2.at0 (by assumption)))) (by intro hne; first | exact hne | ((try dsimp only at hne); omega))) (by intro hne; first | exact hne | ((try dsimp only at hne); omega)) | exact hS'.at (cst.at (cu7_2.at0 (hcl.at0 (k2.at0 (k1.at0 (by assumption))))) (by intro hne; first | exact hne | ((try dsimp only at hne); omega))) (by intro hne; first | exact hne | ((try dsimp only at hne); omega))) (by first | rfl | assumption)) hS ?_
    refine WH.take 11 rfl (by kernel_rfl) (by kernel_rfl) (by kernel_rfl) (fun _ _ _ h => h) (Gd.yes rfl rfl (lt rfl (lt rfl (lt rfl (lt rfl (lt rfl (lt rfl (lt rfl (lh)))))))) (rfl)) rfl (fun w' hS' => X.mv (lt rfl (lt rfl (lt rfl (lt rfl (lt rfl (lt rfl (lt rfl (lt rfl (lt rfl (lt rfl (s9)))))))))))) hS ?_
    refine WH.take 12 rfl (by kernel_rfl) (by kernel_rfl) (by kernel_rfl) (fun _ _ _ h => h) (Gd.yes rfl rfl (lt rfl (lt rfl (lt rfl (lt rfl (lt rfl (lt rfl (lt rfl (lt rfl (lh))))))))) (rfl)) rfl (fun w' hS' => X.fieldAddr fd36_0 (lt rfl (lt rfl (lt rfl (lt rfl (lt rfl (lt rfl (lt rfl (lt rfl (lt rfl (lt rfl (lt rfl (s12))))))))))))) hS ?_
    refine WH.take 13 rfl (by kernel_rfl) (by kernel_rfl) (by kernel_rfl) (fun _ _ _ h => h) (Gd.yes rfl rfl (lt rfl (lt rfl (lt rfl (lt rfl (lt rfl (lt rfl (lt rfl (lt rfl (lt rfl (lh)))))))))) (rfl)) rfl (fun w' hS' => X.load pl3 (lh) (by first | assumption | exact hS'.at (by assumption) (by intro hne; first | exact hne | ((try dsimp only at hne); omega)) | exact hS'.at (cst.at (by assumption) (by intro hne; first | exact hne | ((try dsimp only at hne); omega))) (by intro hne; first | exact hne | ((try dsimp only at hne); omega)) | exact hS'.at (cst.at (cu7_2.at0 (by assumption)) (by intro hne; first | exact hne | ((try dsimp only at hne); omega))) (by intro hne; first | exact hne | ((try dsimp only at hne); omega)) | exact hS'.at (cst.at (cu7_2.at0 (hcl.at0 (by assumption))) (by intro hne; first | exact hne | ((try dsimp only at hne); omega))) (by intro hne; first | exact hne | ((try dsimp only at hne); omega)) | exact hS'.at (cst.at (cu7_2.at0 (hcl.at0 (k2.at0 (by assumption)))) (by intro hne; first | exact hne | ((try dsimp only at hne); omega))) (by intro hne; first | exact hne | ((try dsimp only at hne); omega)) | exact hS'.at (cst.at (cu7_2.at0 (hcl.at0 (k2.at0 (k1.at0 (by assumption))))) (by intro hne; first | exact hne | ((try dsimp only at hne); omega))) (by intro hne; first | exact hne | ((try dsimp only at hne); omega))) (by first | rfl | assumption)) hS ?_
    refine WH.take 14 rfl (by kernel_rfl) (by kernel_rfl) (by kernel_rfl) (fun _ _ _ h => h) (Gd.yes rfl rfl (lt rfl (lt rfl (lt rfl (lt rfl (lt rfl (lt rfl (lt rfl (lt rfl (lt rfl (lt rfl (lh))))))))))) (rfl)) rfl (fun w' hS' => X.fieldAddr fd36_1 (lt rfl (lt rfl (lt rfl (lt rfl (lt rfl (lt rfl (lt rfl (lt rfl (lt rfl (lt rfl (lt rfl (lt rfl (lt rfl (s12))))))))))))))) hS ?_
    refine WH.take 15 rfl (by kernel_rfl) (by kernel_rfl) (by kernel_rfl) (fun _ _ _ h => h) (Gd.yes rfl rfl (lt rfl (lt rfl (lt rfl (lt rfl (lt rfl (lt rfl (lt rfl (lt rfl (lt rfl (lt rfl (lt rfl (lh)))))))))))) (rfl)) rfl (fun w' hS' => X.load pl3 (lh) (by first | assumption | exact hS'.at (by assumption) (by intro hne; first | exact hne | ((try dsimp only at hne); omega)) | exact hS'.at (cst.at (by assumption) (by intro hne; first | exact hne | ((try dsimp only at hne); omega))) (by intro hne; first | exact hne | ((try dsimp only at hne); omega)) | exact hS'.at (cst.at (cu7_2.at0 (by assumption)) (by intro hne; first | exact hne | ((try dsimp only at hne); omega))) (by intro hne; first | exact hne | ((try dsimp only at hne); omega)) | exact hS'.at (cst.at (cu7_2.at0 (hcl.at0 (by assumption))) (by intro hne; first | exact hne | ((try dsimp only at hne); omega))) (by intro hne; first | exact hne | ((try dsimp only at hne); omega)) | exact hS'.at (cst.at (cu7_2.at0 (hcl.at0 (k2.at0 (by assumption)))) (by intro hne; first | exact hne | ((try dsimp only at hne); omega))) (by intro hne; first | exact hne | ((try dsimp only at hne); omega)) | exact hS'.at (cst.at (cu7_2.at0 (hcl.at0 (k2.at0 (k1.at0 (by assumption))))) (by intro hne; first | exact hne | ((try dsimp only at hne); omega))) (by intro hne; first | exact hne | ((try dsimp only at hne); omega))) (by first | rfl | assumption)) hS ?_
    refine WH.take 16 rfl (by kernel_rfl) (by kernel_rfl) (by kernel_rfl) (fun _ _ _ h => h) (Gd.yes rfl rfl (lt rfl (lt rfl (lt rfl (lt rfl (lt rfl (lt rfl (lt rfl (lt rfl (lt rfl (lt rfl (lt rfl (lt rfl (lh))))))))))))) (rfl)) rfl (fun w' hS' => X.fieldAddr fd36_2 (lt rfl (lt rfl (lt rfl (lt rfl (lt rfl (lt rfl (lt rfl (lt rfl (lt rfl (lt rfl (lt rfl (lt rfl (lt rfl (lt rfl (lt rfl (s12))))))))))))))))) hS ?_
    refine WH.take 17 rfl (by kernel_rfl) (by kernel_rfl) (by kernel_rfl) (fun _ _ _ h => h) (Gd.yes rfl rfl (lt rfl (lt rfl (lt rfl (lt rfl (lt rfl (lt rfl (lt rfl (lt rfl (lt rfl (lt rfl (lt rfl (lt rfl (lt rfl (lh)))))))))))))) (rfl)) rfl (fun w' hS' => X.load pl3 (lh) (by first | assumption | exact hS'.at (by assumption) (by intro hne; first | exact hne | ((try dsimp only at hne); omega)) | exact hS'.at (cst.at (by assumption) (by intro hne; first | exact hne | ((try dsimp only at hne); omega))) (by intro hne; first | exact hne | ((try dsimp only at hne); omega)) | exact hS'.at (cst.at (cu7_2.at0 (by assumption)) (by intro hne; first | exact hne | ((try dsimp only at hne); omega))) (by intro hne; first | exact hne | ((try dsimp only at hne); omega)) | exact hS'.at (cst.at (cu7_2.at0 (hcl.at0 (by assumption))) (by intro hne; first | exact hne | ((try dsimp only at hne); omega))) (by intro hne; first | exact hne | ((try dsimp only at hne); omega)) | exact hS'.at (cst.at (cu7_2.at0 (hcl.at0 (k2.at0 (by assumption)))) (by intro hne; first | exact hne | ((try dsimp only at hne); omega))) (by intro hne; first | exact hne | ((try dsimp only at hne); omega)) | exact hS'.at (cst.at (cu7_2.at0 (hcl.at0 (k2.at0 (k1.at0 (by assumption))))) (by intro hne; first | exact hne | ((try dsimp only at hne); omega))) (by intro hne; first | exact hne | ((try dsimp only at hne); omega))) (by first | rfl | assumption)) hS ?_
    refine WH.one 10 rfl (by kernel_rfl) (fun _ _ h => h) ?_
    refine WL.yes rfl rfl (lt rfl (lt rfl (lt rfl (lt rfl (lt rfl (lt rfl (lt rfl (lt rfl (lt rfl (lt rfl (lt rfl (lt rfl (lt rfl (lt rfl (lh))))))))))))))) (rfl) ?_
    refine WL.call4 ce26 (lt rfl (lt rfl (lt rfl (lt rfl (lt rfl (lt rfl (lt rfl (lt rfl (lt rfl (lt rfl (lt rfl (lt rfl (lt rfl (lh)))))))))))))) (lt rfl (lt rfl (lt rfl (lt rfl (lt rfl (lt rfl (lt rfl (lt rfl (lt rfl (lt rfl (lt rfl (lh)))))))))))) (lt rfl (lt rfl (lt rfl (lt rfl (lt rfl (lt rfl (lt rfl (lt rfl (lt rfl (lh)))))))))) (lt rfl (lt rfl (lt rfl (lt rfl (lt rfl (lt rfl (lt rfl (lh)))))))) (gadd_ok _ g n.toNat _ w6 (hg3.ch0 cdh8) (p1, p2, p3)) rfl ?_
    rintro _ w7 ⟨rfl, hg4, c4⟩
    have hx4 := (hx3.ch0 cdh8).keep c4 (by decide)
    have hS := hS.trans c4 (fun _ _ => id) (fun i hi hg => ⟨fun e => mine_not (T := 36) ⟨_, hS.at hkb (fun e => e.1 rfl)⟩ (by decide) (e ▸ hg), hg.1⟩)
    refine WL.nil Nx.thn ⟨hS, ?_⟩
    refine WH.one 18 rfl (by kernel_rfl) (fun _ _ h => h) ?_
    refine WL.yes rfl rfl (lt rfl (lt rfl (lt rfl (lt rfl (lt rfl (lt rfl (lt rfl (lt rfl (lt rfl (lt rfl (lt rfl (lt rfl (lt rfl (lt rfl (lt rfl (lh)))))))))))))))) (rfl) ?_
    refine WL.call4 ce29 (lt rfl (lt rfl (lt rfl (lt rfl (lt rfl (lt rfl (lt rfl (lh)))))))) (lt rfl (lt rfl (lt rfl (lt rfl (lt rfl (lh)))))) (lt rfl (lt rfl (lt rfl (lh)))) (lt rfl (lh)) (radd_ok _ x n.toNat _ w7 hx4 (p1, p2, p3)) rfl ?_
    rintro _ w8 ⟨rfl, hx5, c5⟩
    have hg5 := hg4.keep c5 (by decide)
    have hS := hS.trans c5 (fun _ _ => id) (fun i hi hg => ⟨fun e => mine_not (T := 36) ⟨_, hS.at hkb (fun e => e.1 rfl)⟩ (by decide) (e ▸ hg), Nat.le_trans hz1 hg.1⟩)
    refine WL.nil Nx.thn ⟨hS, ?_⟩
    refine WH.take 19 rfl (by kernel_rfl) (by kernel_rfl) (by kernel_rfl) (fun _ _ _ h => h) (Gd.yes rfl rfl (lt rfl (lt rfl (lt rfl (lt rfl (lt rfl (lt rfl (lt rfl (lt rfl (lt rfl (lt rfl (lt rfl (lt rfl (lt rfl (lt rfl (lt rfl (lt rfl (lh))))))))))))))))) (rfl)) rfl (fun w' hS' => X.neq (lt rfl (lh)) (lh)) hS ?_
    refine WH.take 20 rfl (by kernel_rfl) (by kernel_rfl) (by kernel_rfl) (fun _ _ _ h => h) Gd.none rfl (fun w' hS' => X.pickT (lt rfl (lt rfl (lt rfl (lt rfl (lt rfl (lt rfl (lt rfl (lt rfl (lt rfl (lt rfl (lt rfl (lt rfl (lt rfl (lt rfl (lt rfl (lt rfl (lt rfl (lh)))))))))))))))))) (rfl) (lh)) hS ?_
    refine WH.done (by kernel_rfl) ?_
    refine WL.e6 Nx.thn 7 9 33 34 35 59 (lt rfl (lt rfl (lt rfl (lt rfl (lt rfl (lt rfl (lt rfl (lt rfl (lt rfl (lt rfl (lt rfl (lt rfl (lt rfl (lt rfl (lt rfl (lt rfl (lt rfl (lt rfl (lt rfl (lt rfl (lt rfl (s7)))))))))))))))))))))) (lt rfl (lt rfl (lt rfl (lt rfl (lt rfl (lt rfl (lt rfl (lt rfl (lt rfl (lt rfl (lt rfl (lt rfl (lt rfl (lt rfl (lt rfl (lt rfl (lt rfl (lt rfl (lt rfl (lt rfl (lt rfl (s9)))))))))))))))))))))) (lt rfl (lt rfl (lt rfl (lt rfl (lt rfl (lt rfl (lt rfl (lt rfl (lt rfl (lt rfl (lt rfl (lt rfl (lt rfl (lt rfl (lt rfl (lt rfl (lt rfl (lt rfl (lt rfl (lt rfl (lt rfl (s33)))))))))))))))))))))) (lt rfl (lt rfl (lt rfl (lt rfl (lt rfl (lt rfl (lt rfl (lt rfl (lt rfl (lt rfl (lt rfl (lt rfl (lt rfl (lt rfl (lt rfl (lt rfl (lt rfl (lt rfl (lt rfl (lt rfl (lt rfl (s34)))))))))))))))))))))) (lt rfl (lt rfl (lt rfl (lt rfl (lt rfl (lt rfl (lt rfl (lt rfl (lt rfl (lt rfl (lt rfl (lt rfl (lt rfl (lt rfl (lt rfl (lt rfl (lt rfl (lt rfl (lt rfl (lt rfl (lt rfl (s35)))))))))))))))))))))) (lh) ?_
    intro σ9 s7 s9 s33 s34 s35 s59
    refine W.cndN s59 (fun h => h rfl) ?_
    refine W.skip (Nx.blk Nx.thn) ?_
    refine W.region ?_
    first | refine WL.x (X.add (s35) lc (by omega) (by omega)) rfl ?_ | refine WL.x (X.addw (s35) lc) rfl ?_
    refine WL.x (X.mv (lh)) rfl ?_
    refine WL.e5 Nx.thn 7 9 33 34 35 (lt rfl (lt rfl (s7))) (lt rfl (lt rfl (s9))) (lt rfl (lt rfl (s33))) (lt rfl (lt rfl (s34))) (lh) ?_
    intro σ10 s7 s9 s33 s34 s35
    refine ⟨k + 1, by first | omega | (dsimp only; omega), ⟨s7.trans qo2.symm, s9.trans qo3.symm, s33.trans qo4.symm, s34.trans qo5.symm, trivial⟩, s35, by omega, by rw [hft]; exact hg5, by rw [hft]; exact hx5, hcl3.trans hS (H := fun _ => False) (fun _ _ e => e) (fun i hi e => by have := e.2; omega)⟩
  · refine W.exit (Nx.xthn (Nx.xthn (Nx.xblk Nx.thn))) ?_
    refine W.seq ?_
    refine W.region ?_
    refine WL.x (X.mv (s7)) rfl ?_
    refine WL.x (X.mv (lt rfl (s9))) rfl ?_
    refine WL.x (X.asg (lt rfl (lh))) rfl ?_
    refine WL.x (X.asg (lt rfl (lh))) rfl ?_
    refine WL.x (X.asg lc) rfl ?_
    refine WL.e3 Nx.thn 4 5 6 (lt rfl (lt rfl (lh))) (lt rfl (lh)) (lh) ?_
    intro σ11 s4 s5 s6
    refine W.ret3 Nx.f3 s4 s5 s6 ?_
    have hke : k = l.length := by omega
    subst hke
    rw [List.take_of_length_le (Nat.le_refl _)] at hg hx
    exact ⟨hcl, g, x, _, rfl, hg, hx, hz1⟩
theorem drawn_out (n : Int) (x1 : Option Addr) (c1 : Nat) (l : List Ged) (w : World) (hl : RSl 3 (Rc fed) all w (.slice x1 l.length c1) l) (hm : l.length * 24 ≤ 140737488355328) (hn : ¬ (0 ≤ n ∧ n ≤ 300)) :
    Sg.Ret Tryd.prog 9 #[.int .i64 n, .slice x1 l.length c1] w fun v w' => Ch0 w w' ∧ v = .tuple #[.pointer none, .pointer none, .bool true] := by
  refine enter3 (n := 63) (l := [.int .i64 n, .slice x1 l.length c1]) Tryd.func9 rfl rfl rfl rfl ?_
  refine W.g2 0 1 (v1 := .int .i64 n) (v2 := .slice x1 l.length c1) rfl rfl ?_; intro σ s0 s1
  refine W.seq ?_
  refine W.region ?_
  refine WL.x (X.asg lc) rfl ?_
  refine WL.x (X.asg lc) rfl ?_
  refine WL.x (X.asg lc) rfl ?_
  refine WL.e2 Nx.thn 0 1 (lt rfl (lt rfl (lt rfl (s0)))) (lt rfl (lt rfl (lt rfl (s1)))) ?_
  intro σ1 s0 s1
  refine W.seq ?_
  refine W.region ?_
  refine WL.x (X.mv (s0)) rfl ?_
  refine WL.call1 ce27 (lh) (gnew_ok n w) rfl ?_
  rintro v1 w1 ⟨k1, hv⟩
  rw [if_neg hn] at hv
  subst hv
  have hz1 := k1.size
  refine WL.x (X.mv (lh)) rfl ?_
  refine WL.x (X.ex2_0 (lh)) rfl ?_
  refine WL.x (X.ex2_1 (lt rfl (lh))) rfl ?_
  refine WL.x (X.asg (lt rfl (lh))) rfl ?_
  refine WL.x (X.asg (lt rfl (lh))) rfl ?_
  refine WL.e4 Nx.thn 0 1 7 8 (lt rfl (lt rfl (lt rfl (lt rfl (lt rfl (lt rfl (lt rfl (s0)))))))) (lt rfl (lt rfl (lt rfl (lt rfl (lt rfl (lt rfl (lt rfl (s1)))))))) (lt rfl (lh)) (lh) ?_
  intro σ2 s0 s1 s7 s8
  refine W.seq ?_
  refine W.region ?_
  refine WL.x (X.mv (s0)) rfl ?_
  refine WL.call1 ce28 (lh) (rnew_ok n w1) rfl ?_
  rintro v2 w2 ⟨k2, hv⟩
  rw [if_neg hn] at hv
  subst hv
  have hz2 := k2.size
  refine WL.x (X.mv (lh)) rfl ?_
  refine WL.x (X.ex2_0 (lh)) rfl ?_
  refine WL.x (X.ex2_1 (lt rfl (lh))) rfl ?_
  refine WL.x (X.asg (lt rfl (lh))) rfl ?_
  refine WL.x (X.asg (lt rfl (lh))) rfl ?_
  refine WL.e5 Nx.thn 1 7 8 9 10 (lt rfl (lt rfl (lt rfl (lt rfl (lt rfl (lt rfl (lt rfl (s1)))))))) (lt rfl (lt rfl (lt rfl (lt rfl (lt rfl (lt rfl (lt rfl (s7)))))))) (lt rfl (lt rfl (lt rfl (lt rfl (lt rfl (lt rfl (lt rfl (s8)))))))) (lt rfl (lh)) (lh) ?_
  intro σ3 s1 s7 s8 s9 s10
  refine W.seq ?_
  refine W.seq ?_
  refine W.region ?_
  refine WL.x (X.mv (s8)) rfl ?_
  refine WL.x (X.mv (lt rfl (s10))) rfl ?_
  refine WL.x (X.neq (lt rfl (lh)) (lh)) rfl ?_
  refine WL.x (X.mv (lh)) rfl ?_
  refine WL.yes rfl rfl (lh) (decide_eq_false (fun h => h rfl)) ?_
  refine WL.x (X.mv (lt rfl (lt rfl (lt rfl (lt rfl (s7)))))) rfl ?_
  refine WL.yes rfl rfl (lt rfl (lh)) (decide_eq_false (fun h => h rfl)) ?_
  refine WL.x (X.eqlN Tryd.underlying23 (lh) lc) rfl ?_
  refine WL.yes rfl rfl (lt rfl (lt rfl (lh))) (decide_eq_false (fun h => h rfl)) ?_
  refine WL.x (X.mv (lt rfl (lt rfl (lt rfl (lt rfl (lt rfl (lt rfl (s9)))))))) rfl ?_
  refine WL.yes rfl rfl (lt rfl (lt rfl (lt rfl (lh)))) (decide_eq_false (fun h => h rfl)) ?_
  refine WL.x (X.eqlN Tryd.underlying24 (lh) lc) rfl ?_
  refine WL.yes rfl rfl (lt rfl (lt rfl (lt rfl (lt rfl (lh))))) (decide_eq_false (fun h => h rfl)) ?_
  refine WL.x (X.neqB Tryd.underlying4 (lt rfl (lt rfl (lh))) (lh)) rfl ?_
  refine WL.x (X.pickF (lt rfl (lt rfl (lt rfl (lt rfl (lt rfl (lh)))))) (decide_eq_false (fun h => h rfl)) (lh)) rfl ?_
  refine WL.e4 Nx.thn 1 7 9 32 (lt rfl (lt rfl (lt rfl (lt rfl (lt rfl (lt rfl (lt rfl (lt rfl (lt rfl (lt rfl (s1))))))))))) (lt rfl (lt rfl (lt rfl (lt rfl (lt rfl (lt rfl (lt rfl (lt rfl (lt rfl (lt rfl (s7))))))))))) (lt rfl (lt rfl (lt rfl (lt rfl (lt rfl (lt rfl (lt rfl (lt rfl (lt rfl (lt rfl (s9))))))))))) (lh) ?_
  intro σ4 s1 s7 s9 s32
  refine W.cndN s32 (fun h => h rfl) ?_
  refine W.skip Nx.thn ?_
  refine W.seq ?_
  refine W.seq ?_
  refine W.region ?_
  refine WL.x (X.mv (s1)) rfl ?_
  refine WL.x (X.lenSl Tryd.underlying22 (lh)) rfl ?_
  refine WL.x (X.mv lc) rfl ?_
  refine WL.e5 Nx.thn 7 9 33 34 35 (lt rfl (lt rfl (lt rfl (s7)))) (lt rfl (lt rfl (lt rfl (s9)))) (lt rfl (lt rfl (lh))) (lt rfl (lh)) (lh) ?_
  intro σ5 s7 s9 s33 s34 s35
  refine W.block ?_
  have qo2 := s7
  have qo3 := s9
  have qo4 := s33
  have qo5 := s34
  -- loop 0: kept [7, 9, 33, 34], varied [35]
  refine W.loop (G := Nat) (fun k σ' w' => (σ' 7 = σ5 7 ∧ σ' 9 = σ5 9 ∧ σ' 33 = σ5 33 ∧ σ' 34 = σ5 34 ∧ True) ∧ (σ' 35 = .int .i64 (k : Int) ∧ k ≤ l.length ∧ Ch0 w w')) (fun k => l.length - k) (0) ⟨⟨rfl, rfl, rfl, rfl, trivial⟩, s35, by omega, k1.trans0 k2⟩ ?_
  rintro k σ6 w3 ⟨⟨f7, f9, f33, f34, _⟩, s35, hk, hcl⟩
  have s7 := f7.trans qo2
  have s9 := f9.trans qo3
  have s33 := f33.trans qo4
  have s34 := f34.trans qo5
  refine W.seq ?_
  refine W.region ?_
  refine WL.x (X.lss (s35) (s34)) rfl ?_
  refine WL.e6 Nx.thn 7 9 33 34 35 36 (lt rfl (s7)) (lt rfl (s9)) (lt rfl (s33)) (lt rfl (s34)) (lt rfl (s35)) (lh) ?_
  intro σ7 s7 s9 s33 s34 s35 s36
  refine W.seq ?_
  refine W.cndp s36 (fun hlt => ?_) (fun hlt => ?_)
  · obtain ⟨be, oe, cse, Te, fre, rfl, hme, hle, -, hce⟩ := hl.get (k := k) (by omega)
    obtain ⟨⟨p1, p2, p3⟩, hpk⟩ : ∃ p, l[k] = p := ⟨_, rfl⟩
    have hft := foldE_take (n := n.toNat) (l := l) (k := k) (by omega)
    rw [hpk] at hle hce hft
    refine W.skip Nx.thn ?_
    refine W.seq ?_
    refine W.block ?_
    refine W.seq ?_
    refine W.region ?_
    refine WL.x (X.indexAddr Tryd.underlying22 el36 (s33) (s35) (by omega) (by omega)) rfl ?_
    refine WL.x (X.loadS (vs := [.int .i64 p1, .int .i64 p2, .int .i64 p3]) ag36 (lh) (hcl.at0 hme) rfl hce) rfl ?_
    refine WL.alloc el36 rfl ?_
    intro w4 u7_2; have hu7_2 := u7_2.at_; have cu7_2 := u7_2.ch; have zu7_2 := u7_2.size
    refine WL.storeS ag36 (lh) (lt rfl (lh)) rfl rfl hu7_2 (by first | decide | (simp; done) | (simp; omega)) ?_
    intro w5 us; have cst := us.ch
    have hcl3 := (hcl.trans0 cu7_2).trans cst (H := fun _ => False) (fun _ _ e => e) (fun i hi e => by have := hcl.size; (try dsimp only at e); omega)
    refine WL.e6 Nx.thn 7 9 12 33 34 35 (lt rfl (lt rfl (lt rfl (s7)))) (lt rfl (lt rfl (lt rfl (s9)))) (lh) (lt rfl (lt rfl (lt rfl (s33)))) (lt rfl (lt rfl (lt rfl (s34)))) (lt rfl (lt rfl (lt rfl (s35)))) ?_
    intro σ8 s7 s9 s12 s33 s34 s35
    refine W.seq ?_
    refine W.held (fun w' => Ch (fun _ => False) w5 w') mo ?_
    intro w6 qhh6 qc7
    have hS : Ch (fun _ => False) w5 w6 := Ch.weak qc7
    have hzqc7 := qc7.size
    have cdh8 := qc7
    refine WH.take 0 rfl (by kernel_rfl) (by kernel_rfl) (by kernel_rfl) (fun _ _ _ h => h) Gd.none rfl (fun w' hS' => X.mv (s9)) hS ?_
    refine WH.take 1 rfl (by kernel_rfl) (by kernel_rfl) (by kernel_rfl) (fun _ _ _ h => h) Gd.none rfl (fun w' hS' => X.neqN Tryd.underlying24 (lh) lc) hS ?_
    refine WH.take 2 rfl (by kernel_rfl) (by kernel_rfl) (by kernel_rfl) (fun _ _ _ h => h) Gd.none rfl (fun w' hS' => X.mv (lh)) hS ?_
    refine WH.pass 3 rfl (by kernel_rfl) (by kernel_rfl) (by kernel_rfl) (fun _ _ _ h => h) (Gd.no rfl rfl (lh) (rfl)) rfl hS ?_
    refine WH.pass 4 rfl (by kernel_rfl) (by kernel_rfl) (by kernel_rfl) (fun _ _ _ h => h) (Gd.no rfl rfl (lt rfl (lh)) (rfl)) rfl hS ?_
    refine WH.pass 5 rfl (by kernel_rfl) (by kernel_rfl) (by kernel_rfl) (fun _ _ _ h => h) (Gd.no rfl rfl (lt rfl (lt rfl (lh))) (rfl)) rfl hS ?_
    refine WH.pass 6 rfl (by kernel_rfl) (by kernel_rfl) (by kernel_rfl) (fun _ _ _ h => h) (Gd.no rfl rfl (lt rfl (lt rfl (lt rfl (lh)))) (rfl)) rfl hS ?_
    refine WH.pass 7 rfl (by kernel_rfl) (by kernel_rfl) (by kernel_rfl) (fun _ _ _ h => h) (Gd.no rfl rfl (lt rfl (lt rfl (lt rfl (lt rfl (lh))))) (rfl)) rfl hS ?_
    refine WH.pass 8 rfl (by kernel_rfl) (by kernel_rfl) (by kernel_rfl) (fun _ _ _ h => h) (Gd.no rfl rfl (lt rfl (lt rfl (lt rfl (lt rfl (lt rfl (lh)))))) (rfl)) rfl hS ?_
    refine WH.pass 9 rfl (by kernel_rfl) (by kernel_rfl) (by kernel_rfl) (fun _ _ _ h => h) (Gd.no rfl rfl (lt rfl (lt rfl (lt rfl (lt rfl (lt rfl (lt rfl (lh))))))) (rfl)) rfl hS ?_
    refine WH.pass 10 rfl (by kernel_rfl) (by kernel_rfl) (by kernel_rfl) (fun _ _ _ h => h) (Gd.no rfl rfl (lt rfl (lt rfl (lt rfl (lt rfl (lt rfl (lt rfl (lt rfl (lh)))))))) (rfl)) rfl hS ?_
    refine WH.pass 11 rfl (by kernel_rfl) (by kernel_rfl) (by kernel_rfl) (fun _ _ _ h => h) (Gd.no rfl rfl (lt rfl (lt rfl (lt rfl (lt rfl (lt rfl (lt rfl (lt rfl (lt rfl (lh))))))))) (rfl)) rfl hS ?_
    refine WH.pass 12 rfl (by kernel_rfl) (by kernel_rfl) (by kernel_rfl) (fun _ _ _ h => h) (Gd.no rfl rfl (lt rfl (lt rfl (lt rfl (lt rfl (lt rfl (lt rfl (lt rfl (lt rfl (lt rfl (lh)))))))))) (rfl)) rfl hS ?_
    refine WH.pass 13 rfl (by kernel_rfl) (by kernel_rfl) (by kernel_rfl) (fun _ _ _ h => h) (Gd.no rfl rfl (lt rfl (lt rfl (lt rfl (lt rfl (lt rfl (lt rfl (lt rfl (lt rfl (lt rfl (lt rfl (lh))))))))))) (rfl)) rfl hS ?_
    refine WH.pass 14 rfl (by kernel_rfl) (by kernel_rfl) (by kernel_rfl) (fun _ _ _ h => h) (Gd.no rfl rfl (lt rfl (lt rfl (lt rfl (lt rfl (lt rfl (lt rfl (lt rfl (lt rfl (lt rfl (lt rfl (lt rfl (lh)))))))))))) (rfl)) rfl hS ?_
    refine WH.pass 15 rfl (by kernel_rfl) (by kernel_rfl) (by kernel_rfl) (fun _ _ _ h => h) (Gd.no rfl rfl (lt rfl (lt rfl (lt rfl (lt rfl (lt rfl (lt rfl (lt rfl (lt rfl (lt rfl (lt rfl (lt rfl (lt rfl (lh))))))))))))) (rfl)) rfl hS ?_
    refine WH.pass 16 rfl (by kernel_rfl) (by kernel_rfl) (by kernel_rfl) (fun _ _ _ h => h) (Gd.no rfl rfl (lt rfl (lt rfl (lt rfl (lt rfl (lt rfl (lt rfl (lt rfl (lt rfl (lt rfl (lt rfl (lt rfl (lt rfl (lt rfl (lh)))))))))))))) (rfl)) rfl hS ?_
    refine WH.pass 17 rfl (by kernel_rfl) (by kernel_rfl) (by kernel_rfl) (fun _ _ _ h => h) (Gd.no rfl rfl (lt rfl (lt rfl (lt rfl (lt rfl (lt rfl (lt rfl (lt rfl (lt rfl (lt rfl (lt rfl (lt rfl (lt rfl (lt rfl (lt rfl (lh))))))))))))))) (rfl)) rfl hS ?_
    refine WH.pass 18 rfl (by kernel_rfl) (by kernel_rfl) (by kernel_rfl) (fun _ _ _ h => h) (Gd.no rfl rfl (lt rfl (lt rfl (lt rfl (lt rfl (lt rfl (lt rfl (lt rfl (lt rfl (lt rfl (lt rfl (lt rfl (lt rfl (lt rfl (lt rfl (lt rfl (lh)))))))))))))))) (rfl)) rfl hS ?_
    refine WH.pass 19 rfl (by kernel_rfl) (by kernel_rfl) (by kernel_rfl) (fun _ _ _ h => h) (Gd.no rfl rfl (lt rfl (lt rfl (lt rfl (lt rfl (lt rfl (lt rfl (lt rfl (lt rfl (lt rfl (lt rfl (lt rfl (lt rfl (lt rfl (lt rfl (lt rfl (lt rfl (lh))))))))))))))))) (rfl)) rfl hS ?_
    refine WH.take 20 rfl (by kernel_rfl) (by kernel_rfl) (by kernel_rfl) (fun _ _ _ h => h) Gd.none rfl (fun w' hS' => X.pickF (lt rfl (lt rfl (lt rfl (lt rfl (lt rfl (lt rfl (lt rfl (lt rfl (lt rfl (lt rfl (lt rfl (lt rfl (lt rfl (lt rfl (lt rfl (lt rfl (lt rfl (lh)))))))))))))))))) (rfl) lc) hS ?_
    refine WH.done (by kernel_rfl) ?_
    refine WL.e6 Nx.thn 7 9 33 34 35 59 (lt rfl (lt rfl (lt rfl (lt rfl (lt rfl (lt rfl (lt rfl (lt rfl (lt rfl (lt rfl (lt rfl (lt rfl (lt rfl (lt rfl (lt rfl (lt rfl (lt rfl (lt rfl (lt rfl (lt rfl (lt rfl (s7)))))))))))))))))))))) (lt rfl (lt rfl (lt rfl (lt rfl (lt rfl (lt rfl (lt rfl (lt rfl (lt rfl (lt rfl (lt rfl (lt rfl (lt rfl (lt rfl (lt rfl (lt rfl (lt rfl (lt rfl (lt rfl (lt rfl (lt rfl (s9)))))))))))))))))))))) (lt rfl (lt rfl (lt rfl (lt rfl (lt rfl (lt rfl (lt rfl (lt rfl (lt rfl (lt rfl (lt rfl (lt rfl (lt rfl (lt rfl (lt rfl (lt rfl (lt rfl (lt rfl (lt rfl (lt rfl (lt rfl (s33)))))))))))))))))))))) (lt rfl (lt rfl (lt rfl (lt rfl (lt rfl (lt rfl (lt rfl (lt rfl (lt rfl (lt rfl (lt rfl (lt rfl (lt rfl (lt rfl (lt rfl (lt rfl (lt rfl (lt rfl (lt rfl (lt rfl (lt rfl (s34)))))))))))))))))))))) (lt rfl (lt rfl (lt rfl (lt rfl (lt rfl (lt rfl (lt rfl (lt rfl (lt rfl (lt rfl (lt rfl (lt rfl (lt rfl (lt rfl (lt rfl (lt rfl (lt rfl (lt rfl (lt rfl (lt rfl (lt rfl (s35)))))))))))))))))))))) (lh) ?_
    intro σ9 s7 s9 s33 s34 s35 s59
    refine W.cndF s59 ?_
    refine W.skip (Nx.blk Nx.thn) ?_
    refine W.region ?_
    first | refine WL.x (X.add (s35) lc (by omega) (by omega)) rfl ?_ | refine WL.x (X.addw (s35) lc) rfl ?_
    refine WL.x (X.mv (lh)) rfl ?_
    refine WL.e5 Nx.thn 7 9 33 34 35 (lt rfl (lt rfl (s7))) (lt rfl (lt rfl (s9))) (lt rfl (lt rfl (s33))) (lt rfl (lt rfl (s34))) (lh) ?_
    intro σ10 s7 s9 s33 s34 s35
    refine ⟨k + 1, by first | omega | (dsimp only; omega), ⟨s7.trans qo2.symm, s9.trans qo3.symm, s33.trans qo4.symm, s34.trans qo5.symm, trivial⟩, s35, by omega, hcl3.trans0 cdh8⟩
  · refine W.exit (Nx.xthn (Nx.xthn (Nx.xblk Nx.thn))) ?_
    refine W.seq ?_
    refine W.region ?_
    refine WL.x (X.mv (s7)) rfl ?_
    refine WL.x (X.mv (lt rfl (s9))) rfl ?_
    refine WL.x (X.asg (lt rfl (lh))) rfl ?_
    refine WL.x (X.asg (lt rfl (lh))) rfl ?_
    refine WL.x (X.asg lc) rfl ?_
    refine WL.e3 Nx.thn 4 5 6 (lt rfl (lt rfl (lh))) (lt rfl (lh)) (lh) ?_
    intro σ11 s4 s5 s6
    refine W.ret3 Nx.f3 s4 s5 s6 ?_
    exact ⟨hcl, rfl⟩
set_option maxHeartbeats 800000 in
theorem same_ok (base g bx x n : Nat) (Lb : Nat → Nat → Nat) (w : World) (h : IsG w base g n Lb) (hx : IsRG w bx x n Lb) (htab : Tab w) (hb0 : 0 < w.heap.size)  :
    Sg.Ret Tryd.prog 10 #[.pointer (some ⟨g, 0, none⟩), .pointer (some ⟨x, 0, none⟩)] w fun v w' => v = .bool true ∧ Ch0 w w' := by
  obtain ⟨rv, rs, hd, hrr, hrl⟩ := hx.ex
  obtain ⟨ra, rc, rfl⟩ := rsl_len hrr.sl
  have hle := h.le
  have hpl := edL_len hle Lb n
  refine enter1 (n := 20) (l := [.pointer (some ⟨g, 0, none⟩), .pointer (some ⟨x, 0, none⟩)]) Tryd.func10 rfl rfl rfl rfl ?_
  refine W.g2 0 1 (v1 := .pointer (some ⟨g, 0, none⟩)) (v2 := .pointer (some ⟨x, 0, none⟩)) rfl rfl ?_; intro σ s0 s1
  refine W.seq ?_
  refine W.region ?_
  refine WL.x (X.asg lc) rfl ?_
  refine WL.e2 Nx.thn 0 1 (lt rfl (s0)) (lt rfl (s1)) ?_
  intro σ1 s0 s1
  refine W.seq ?_
  refine W.held (fun w' => Ch (fun _ => False) w w') mo ?_
  intro w1 qhh1 qc2
  have hS : Ch (fun _ => False) w w1 := Ch.weak qc2
  have hzqc2 := qc2.size
  have cdh1 := qc2
  refine WH.take 0 rfl (by kernel_rfl) (by kernel_rfl) (by kernel_rfl) (fun _ _ _ h => h) Gd.none rfl (fun w' hS' => X.mv (s0)) hS ?_
  refine WH.take 2 rfl (by kernel_rfl) (by kernel_rfl) (by kernel_rfl) (fun _ _ _ h => h) Gd.none rfl (fun w' hS' => X.mv (lt rfl (s1))) hS ?_
  refine WH.take 3 rfl (by kernel_rfl) (by kernel_rfl) (by kernel_rfl) (fun _ _ _ h => h) Gd.none rfl (fun w' hS' => X.nilck (lh)) hS ?_
  refine WH.take 4 rfl (by kernel_rfl) (by kernel_rfl) (by kernel_rfl) (fun _ _ _ h => h) Gd.none rfl (fun w' hS' => X.fieldAddr fd62_0 (lh)) hS ?_
  refine WH.take 5 rfl (by kernel_rfl) (by kernel_rfl) (by kernel_rfl) (fun _ _ _ h => h) Gd.none rfl (fun w' hS' => X.load pl60 (lh) (by first | assumption | exact hS'.at (by assumption) (by intro hne; first | exact hne | ((try dsimp only at hne); omega))) (by first | rfl | assumption)) hS ?_
  refine WH.take 6 rfl (by kernel_rfl) (by kernel_rfl) (by kernel_rfl) (fun _ _ _ h => h) Gd.none rfl (fun w' hS' => X.lenSl Tryd.underlying60 (lh)) hS ?_
  refine WH.one 1 rfl (by kernel_rfl) (fun _ _ h => h) ?_
  refine WL.call1 ce16 (lt rfl (lt rfl (lt rfl (lt rfl (lt rfl (lh)))))) (gnodes_ok base g n Lb w1 (h.ch0 hS)) rfl ?_
  rintro _ _ ⟨rfl, rfl⟩
  refine WL.nil Nx.thn ⟨hS, ?_⟩
  refine WH.take 7 rfl (by kernel_rfl) (by kernel_rfl) (by kernel_rfl) (fun _ _ _ h => h) Gd.none rfl (fun w' hS' => X.eql (lh) (lt rfl (lh))) hS ?_
  refine WH.take 8 rfl (by kernel_rfl) (by kernel_rfl) (by kernel_rfl) (fun _ _ _ h => h) Gd.none rfl (fun w' hS' => X.mv (lh)) hS ?_
  refine WH.take 9 rfl (by kernel_rfl) (by kernel_rfl) (by kernel_rfl) (fun _ _ _ h => h) (Gd.yes rfl rfl (lh) (decide_eq_true (by omega))) rfl (fun w' hS' => X.mv (lt rfl (lt rfl (lt rfl (lt rfl (lt rfl (lt rfl (lt rfl (lt rfl (lt rfl (s0))))))))))) hS ?_
  refine WH.take 11 rfl (by kernel_rfl) (by kernel_rfl) (by kernel_rfl) (fun _ _ _ h => h) (Gd.yes rfl rfl (lt rfl (lh)) (decide_eq_true (by omega))) rfl (fun w' hS' => X.mv (lt rfl (lt rfl (lt rfl (lt rfl (lt rfl (lt rfl (lt rfl (lt rfl (lt rfl (lt rfl (s1)))))))))))) hS ?_
  refine WH.one 10 rfl (by kernel_rfl) (fun _ _ h => h) ?_
  refine WL.yes rfl rfl (lt rfl (lt rfl (lh))) (decide_eq_true (by omega)) ?_
  refine WL.call1 ce18 (lt rfl (lh)) (gedges_ok base g n Lb w1 (h.ch0 hS) (htab.ch0 hS) (by have := hS.size; omega)) rfl ?_
  rintro v1 w2 ⟨hq1, d1⟩
  have hS := hS.trans d1 (fun _ _ => id) (by intro i hi hg; first | exact hg | exact False.elim hg | omega | ((try dsimp only at hg ⊢); omega))
  refine WL.nil Nx.thn ⟨hS, ?_⟩
  refine WH.one 12 rfl (by kernel_rfl) (fun _ _ h => h) ?_
  refine WL.yes rfl rfl (lt rfl (lt rfl (lt rfl (lh)))) (decide_eq_true (by omega)) ?_
  refine WL.call1 ce19 (lt rfl (lh)) (redges_ok bx x n Lb w2 (hx.ch0 hS)) rfl ?_
  rintro v2 w3 ⟨hq2, d2⟩
  have hq1 := hq1.ch0 d2
  have hS := hS.trans d2 (fun _ _ => id) (by intro i hi hg; first | exact hg | exact False.elim hg | omega | ((try dsimp only at hg ⊢); omega))
  refine WL.nil Nx.thn ⟨hS, ?_⟩
  refine WH.one 13 rfl (by kernel_rfl) (fun _ _ h => h) ?_
  refine WL.yes rfl rfl (lt rfl (lt rfl (lt rfl (lt rfl (lh))))) (decide_eq_true (by omega)) ?_
  refine WL.call2 ce17 (lt rfl (lh)) (lh) (eq_ed_ok all all _ _ _ _ w3 (hq1.rsl fed_len (fun _ _ => trivial)) (hq2.rsl fed_len (fun _ _ => trivial)) (by omega)) rfl ?_
  rintro _ w4 ⟨rfl, d3⟩
  have cd3 := d3.ch0
  have hS := hS.trans cd3 (fun _ _ => id) (by intro i hi hg; first | exact hg | exact False.elim hg | omega | ((try dsimp only at hg ⊢); omega))
  refine WL.nil Nx.thn ⟨hS, ?_⟩
  refine WH.take 14 rfl (by kernel_rfl) (by kernel_rfl) (by kernel_rfl) (fun _ _ _ h => h) Gd.none rfl (fun w' hS' => X.pickT (lt rfl (lt rfl (lt rfl (lt rfl (lt rfl (lh)))))) (decide_eq_true (by omega)) (lh)) hS ?_
  refine WH.take 15 rfl (by kernel_rfl) (by kernel_rfl) (by kernel_rfl) (fun _ _ _ h => h) Gd.none rfl (fun w' hS' => X.asg (lh)) hS ?_
  refine WH.done (by kernel_rfl) ?_
  refine WL.e1 Nx.thn 4 (lh) ?_
  intro σ2 s4
  refine W.ret1 Nx.f1 s4 ?_
  exact ⟨congrArg Value.bool (decide_eq_true rfl), hS⟩
end Go.Proofs.YtnmmodmeamlikaaDoor
