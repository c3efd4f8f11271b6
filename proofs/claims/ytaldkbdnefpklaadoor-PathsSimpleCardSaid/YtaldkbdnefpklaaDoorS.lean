/-
  A part of the walk of the program.
-/
import Derived.Test.YtaldkbdnefpklaaDoorR
set_option linter.unusedVariables false
set_option linter.unusedSimpArgs false
set_option maxRecDepth 100000
namespace Go.Proofs.YtaldkbdnefpklaaDoor
open Go Go.RowKit Sg
set_option maxHeartbeats 1600000 in
theorem drawn_ok (a : Int) (x1 : Option Addr) (c1 : Nat) (l : List Ged) (w : World) (hl : RSl 3 (Rc fed) all w (.slice x1 l.length c1) l) (hm : l.length * 24 ≤ 140737488355328)  :
    Sg.Ret Tryd.prog 9 #[.int .i64 a, .slice x1 l.length c1] w fun v w' => Ch0 w w' ∧ ∃ n g x bx, n < 60 ∧ v = .tuple #[.pointer (some ⟨g, 0, none⟩), .pointer (some ⟨x, 0, none⟩), .bool true] ∧ IsG w' w.heap.size g n (foldE n l) ∧ IsRG w' bx x n (foldE n l) ∧ w.heap.size ≤ bx := by
  obtain ⟨n, hn⟩ : ∃ n : Nat, a % 18446744073709551616 % 60 = (n : Int) := ⟨_, (Int.toNat_of_nonneg (by omega)).symm⟩
  have hn2 : n < 60 := by omega
  refine enter3 (n := 59) (l := [.int .i64 a, .slice x1 l.length c1]) Tryd.func9 rfl rfl rfl rfl ?_
  refine W.g2 0 1 (v1 := .int .i64 a) (v2 := .slice x1 l.length c1) rfl rfl ?_; intro σ s0 s1
  refine W.seq ?_
  refine W.region ?_
  refine WL.x (X.asg lc) rfl ?_
  refine WL.x (X.asg lc) rfl ?_
  refine WL.x (X.asg lc) rfl ?_
  refine WL.e2 Nx.thn 0 1 (lt rfl (lt rfl (lt rfl (s0)))) (lt rfl (lt rfl (lt rfl (s1)))) ?_
  intro σ1 s0 s1
  refine W.seq ?_
  refine W.region ?_
  refine WL.x (X.mv (s0)) rfl ?_
  first | refine WL.x (X.convi Tryd.underlying3 Tryd.underlying48 (lh) (wrap_u64_in (by omega) (by omega))) rfl ?_ | refine WL.x (X.convu Tryd.underlying3 Tryd.underlying48 (lh)) rfl ?_ | refine WL.x (X.conv Tryd.underlying3 Tryd.underlying48 (lh)) rfl ?_
  first | refine WL.x (X.rem (lh) lc (by omega) (by omega)) rfl ?_ | refine WL.x (X.remw (lh) lc (by omega)) rfl ?_
  refine WL.x (v := .int .i64 (n : Int)) (hn ▸ X.convi Tryd.underlying70 Tryd.underlying3 (lh) (wrap_i64 (by omega) (by omega))) rfl ?_
  refine WL.x (X.asg (lh)) rfl ?_
  refine WL.e2 Nx.thn 0 1 (lh) (lt rfl (lt rfl (lt rfl (lt rfl (lt rfl (s1)))))) ?_
  intro σ2 s0 s1
  refine W.seq ?_
  refine W.region ?_
  refine WL.x (X.mv (s0)) rfl ?_
  refine WL.call1 ce20 (lh) (gnew_ok (n : Int) w) rfl ?_
  rintro v1 w1 ⟨k1, hv⟩
  rw [if_pos ⟨by omega, by omega⟩] at hv
  obtain ⟨g, rfl, hg0⟩ := hv
  rw [Int.toNat_natCast] at hg0
  have hz1 := k1.size
  refine WL.x (X.mv (lh)) rfl ?_
  refine WL.x (X.ex2_0 (lh)) rfl ?_
  refine WL.x (X.ex2_1 (lt rfl (lh))) rfl ?_
  refine WL.x (X.asg (lt rfl (lh))) rfl ?_
  refine WL.x (X.asg (lt rfl (lh))) rfl ?_
  refine WL.e4 Nx.thn 0 1 7 8 (lt rfl (lt rfl (lt rfl (lt rfl (lt rfl (lt rfl (lt rfl (s0)))))))) (lt rfl (lt rfl (lt rfl (lt rfl (lt rfl (lt rfl (lt rfl (s1)))))))) (lt rfl (lh)) (lh) ?_
  intro σ3 s0 s1 s7 s8
  refine W.seq ?_
  refine W.region ?_
  refine WL.x (X.mv (s0)) rfl ?_
  refine WL.call1 ce24 (lh) (rnew_ok (n : Int) w1) rfl ?_
  rintro v2 w2 ⟨k2, hv⟩
  rw [if_pos ⟨by omega, by omega⟩] at hv
  obtain ⟨x, rfl, hx0⟩ := hv
  rw [Int.toNat_natCast] at hx0
  have hz2 := k2.size
  refine WL.x (X.mv (lh)) rfl ?_
  refine WL.x (X.ex2_0 (lh)) rfl ?_
  refine WL.x (X.ex2_1 (lt rfl (lh))) rfl ?_
  refine WL.x (X.asg (lt rfl (lh))) rfl ?_
  refine WL.x (X.asg (lt rfl (lh))) rfl ?_
  refine WL.e5 Nx.thn 1 7 8 9 10 (lt rfl (lt rfl (lt rfl (lt rfl (lt rfl (lt rfl (lt rfl (s1)))))))) (lt rfl (lt rfl (lt rfl (lt rfl (lt rfl (lt rfl (lt rfl (s7)))))))) (lt rfl (lt rfl (lt rfl (lt rfl (lt rfl (lt rfl (lt rfl (s8)))))))) (lt rfl (lh)) (lh) ?_
  intro σ4 s1 s7 s8 s9 s10
  refine W.seq ?_
  refine W.seq ?_
  refine W.region ?_
  refine WL.x (X.mv (s8)) rfl ?_
  refine WL.x (X.neq (lh) lc) rfl ?_
  refine WL.x (X.mv (lh)) rfl ?_
  refine WL.yes rfl rfl (lh) (decide_eq_false (fun h => h rfl)) ?_
  refine WL.x (X.mv (lt rfl (lt rfl (lt rfl (s10))))) rfl ?_
  refine WL.yes rfl rfl (lt rfl (lh)) (decide_eq_false (fun h => h rfl)) ?_
  refine WL.x (X.neq (lh) lc) rfl ?_
  refine WL.x (X.pickF (lt rfl (lt rfl (lh))) (decide_eq_false (fun h => h rfl)) (lh)) rfl ?_
  refine WL.e4 Nx.thn 1 7 9 32 (lt rfl (lt rfl (lt rfl (lt rfl (lt rfl (lt rfl (s1))))))) (lt rfl (lt rfl (lt rfl (lt rfl (lt rfl (lt rfl (s7))))))) (lt rfl (lt rfl (lt rfl (lt rfl (lt rfl (lt rfl (s9))))))) (lh) ?_
  intro σ5 s1 s7 s9 s32
  refine W.cndN s32 (fun h => h rfl) ?_
  refine W.skip Nx.thn ?_
  refine W.seq ?_
  refine W.seq ?_
  refine W.region ?_
  refine WL.x (X.mv (s1)) rfl ?_
  refine WL.x (X.lenSl Tryd.underlying22 (lh)) rfl ?_
  refine WL.x (X.mv lc) rfl ?_
  refine WL.e5 Nx.thn 7 9 33 34 35 (lt rfl (lt rfl (lt rfl (s7)))) (lt rfl (lt rfl (lt rfl (s9)))) (lt rfl (lt rfl (lh))) (lt rfl (lh)) (lh) ?_
  intro σ6 s7 s9 s33 s34 s35
  refine W.block ?_
  have qo2 := s7
  have qo3 := s9
  have qo4 := s33
  have qo5 := s34
  -- loop 0: kept [7, 9, 33, 34], varied [35]
  refine W.loop (G := Nat) (fun k σ' w' => (σ' 7 = σ6 7 ∧ σ' 9 = σ6 9 ∧ σ' 33 = σ6 33 ∧ σ' 34 = σ6 34 ∧ True) ∧ (σ' 35 = .int .i64 (k : Int) ∧ k ≤ l.length ∧ IsG w' w.heap.size g n (foldE n (l.take k)) ∧ IsRG w' w1.heap.size x n (foldE n (l.take k)) ∧ Ch0 w w')) (fun k => l.length - k) (0) ⟨⟨rfl, rfl, rfl, rfl, trivial⟩, s35, by omega, hg0.ch0 k2, hx0, k1.trans0 k2⟩ ?_
  rintro k σ7 w3 ⟨⟨f7, f9, f33, f34, _⟩, s35, hk, hg, hx, hcl⟩
  have s7 := f7.trans qo2
  have s9 := f9.trans qo3
  have s33 := f33.trans qo4
  have s34 := f34.trans qo5
  have hzc := hcl.size
  refine W.seq ?_
  refine W.region ?_
  refine WL.x (X.lss (s35) (s34)) rfl ?_
  refine WL.e6 Nx.thn 7 9 33 34 35 36 (lt rfl (s7)) (lt rfl (s9)) (lt rfl (s33)) (lt rfl (s34)) (lt rfl (s35)) (lh) ?_
  intro σ8 s7 s9 s33 s34 s35 s36
  refine W.seq ?_
  refine W.cndp s36 (fun hlt => ?_) (fun hlt => ?_)
  · obtain ⟨be, oe, cse, Te, fre, rfl, hme, hle, -, hce⟩ := hl.get (k := k) (by omega)
    obtain ⟨⟨p1, p2, p3⟩, hpk⟩ : ∃ p, l[k] = p := ⟨_, rfl⟩
    have hft := foldE_take (n := n) (l := l) (k := k) (by omega)
    rw [hpk] at hle hce hft
    refine W.skip Nx.thn ?_
    refine W.seq ?_
    refine W.block ?_
    refine W.seq ?_
    refine W.region ?_
    refine WL.x (X.indexAddr Tryd.underlying22 el58 (s33) (s35) (by omega) (by omega)) rfl ?_
    refine WL.x (X.loadS (vs := [.int .i64 p1, .int .i64 p2, .int .i64 p3]) ag58 (lh) (hcl.at0 hme) rfl hce) rfl ?_
    refine WL.alloc el58 rfl ?_
    intro w4 u8_2; have hu8_2 := u8_2.at_; have cu8_2 := u8_2.ch; have zu8_2 := u8_2.size
    refine WL.storeS ag58 (lh) (lt rfl (lh)) rfl rfl hu8_2 (by first | decide | (simp; done) | (simp; omega)) ?_
    intro w5 us; have cst := us.ch
    have hkb : w5.heap[w3.heap.size]? = some (.cells #[.int .i64 p1, .int .i64 p2, .int .i64 p3] 58 (0, 0)) := us.at_
    have cku : Ch0 w3 w5 := cu8_2.trans cst (fun _ _ e => e) (fun i hi e => by (try dsimp only at e); omega)
    have hg3 := hg.ch0 cku
    have hx3 := hx.ch0 cku
    have hcl3 := hcl.trans0 cku
    have hzk := lt_of_blk hkb
    refine WL.e6 Nx.thn 7 9 12 33 34 35 (lt rfl (lt rfl (lt rfl (s7)))) (lt rfl (lt rfl (lt rfl (s9)))) (lh) (lt rfl (lt rfl (lt rfl (s33)))) (lt rfl (lt rfl (lt rfl (s34)))) (lt rfl (lt rfl (lt rfl (s35)))) ?_
    intro σ9 s7 s9 s12 s33 s34 s35
    refine W.seq ?_
    refine W.held (fun w' => Ch (fun j => j ≠ w3.heap.size ∧ w.heap.size ≤ j) w5 w') mo ?_
    intro w6 qhh6 qc7
    have hS : Ch (fun j => j ≠ w3.heap.size ∧ w.heap.size ≤ j) w5 w6 := Ch.weak qc7
    have hzqc7 := qc7.size
    have cdh9 := qc7
    refine WH.take 0 rfl (by kernel_rfl) (by kernel_rfl) (by kernel_rfl) (fun _ _ _ h => h) Gd.none rfl (fun w' hS' => X.mv (s7)) hS ?_
    refine WH.take 1 rfl (by kernel_rfl) (by kernel_rfl) (by kernel_rfl) (fun _ _ _ h => h) Gd.none rfl (fun w' hS' => X.fieldAddr fd58_0 (lt rfl (s12))) hS ?_
    refine WH.take 2 rfl (by kernel_rfl) (by kernel_rfl) (by kernel_rfl) (fun _ _ _ h => h) Gd.none rfl (fun w' hS' => X.load pl3 (lh) (by first | assumption | exact hS'.at (by assumption) (by intro hne; first | exact hne | ((try dsimp only at hne); omega)) | exact hS'.at (cst.at (by assumption) (by intro hne; first | exact hne | ((try dsimp only at hne); omega))) (by intro hne; first | exact hne | ((try dsimp only at hne); omega)) | exact hS'.at (cst.at (cu8_2.at0 (by assumption)) (by intro hne; first | exact hne | ((try dsimp only at hne); omega))) (by intro hne; first | exact hne | ((try dsimp only at hne); omega)) | exact hS'.at (cst.at (cu8_2.at0 (hcl.at0 (by assumption))) (by intro hne; first | exact hne | ((try dsimp only at hne); omega))) (by intro hne; first | exact hne | ((try dsimp only at hne); omega)) | exact hS'.at (cst.at (cu8_2.at0 (hcl.at0 (k2.at0 (by assumption)))) (by intro hne; first | exact hne | ((try dsimp only at hne); omega))) (by intro hne; first | exact hne | ((try dsimp only at hne); omega)) | exact hS'.at (cst.at (cu8_2.at0 (hcl.at0 (k2.at0 (k1.at0 (by assumption))))) (by intro hne; first | exact hne | ((try dsimp only at hne); omega))) (by intro hne; first | exact hne | ((try dsimp only at hne); omega))) (by first | rfl | assumption)) hS ?_
    refine WH.take 3 rfl (by kernel_rfl) (by kernel_rfl) (by kernel_rfl) (fun _ _ _ h => h) Gd.none rfl (fun w' hS' => X.fieldAddr fd58_1 (lt rfl (lt rfl (lt rfl (s12))))) hS ?_
    refine WH.take 4 rfl (by kernel_rfl) (by kernel_rfl) (by kernel_rfl) (fun _ _ _ h => h) Gd.none rfl (fun w' hS' => X.load pl3 (lh) (by first | assumption | exact hS'.at (by assumption) (by intro hne; first | exact hne | ((try dsimp only at hne); omega)) | exact hS'.at (cst.at (by assumption) (by intro hne; first | exact hne | ((try dsimp only at hne); omega))) (by intro hne; first | exact hne | ((try dsimp only at hne); omega)) | exact hS'.at (cst.at (cu8_2.at0 (by assumption)) (by intro hne; first | exact hne | ((try dsimp only at hne); omega))) (by intro hne; first | exact hne | ((try dsimp only at hne); omega)) | exact hS'.at (cst.at (cu8_2.at0 (hcl.at0 (by assumption))) (by intro hne; first | exact hne | ((try dsimp only at hne); omega))) (by intro hne; first | exact hne | ((try dsimp only at hne); omega)) | exact hS'.at (cst.at (cu8_2.at0 (hcl.at0 (k2.at0 (by assumption)))) (by intro hne; first | exact hne | ((try dsimp only at hne); omega))) (by intro hne; first | exact hne | ((try dsimp only at hne); omega)) | exact hS'.at (cst.at (cu8_2.at0 (hcl.at0 (k2.at0 (k1.at0 (by assumption))))) (by intro hne; first | exact hne | ((try dsimp only at hne); omega))) (by intro hne; first | exact hne | ((try dsimp only at hne); omega))) (by first | rfl | assumption)) hS ?_
    refine WH.take 5 rfl (by kernel_rfl) (by kernel_rfl) (by kernel_rfl) (fun _ _ _ h => h) Gd.none rfl (fun w' hS' => X.fieldAddr fd58_2 (lt rfl (lt rfl (lt rfl (lt rfl (lt rfl (s12))))))) hS ?_
    refine WH.take 6 rfl (by kernel_rfl) (by kernel_rfl) (by kernel_rfl) (fun _ _ _ h => h) Gd.none rfl (fun w' hS' => X.load pl3 (lh) (by first | assumption | exact hS'.at (by assumption) (by intro hne; first | exact hne | ((try dsimp only at hne); omega)) | exact hS'.at (cst.at (by assumption) (by intro hne; first | exact hne | ((try dsimp only at hne); omega))) (by intro hne; first | exact hne | ((try dsimp only at hne); omega)) | exact hS'.at (cst.at (cu8_2.at0 (by assumption)) (by intro hne; first | exact hne | ((try dsimp only at hne); omega))) (by intro hne; first | exact hne | ((try dsimp only at hne); omega)) | exact hS'.at (cst.at (cu8_2.at0 (hcl.at0 (by assumption))) (by intro hne; first | exact hne | ((try dsimp only at hne); omega))) (by intro hne; first | exact hne | ((try dsimp only at hne); omega)) | exact hS'.at (cst.at (cu8_2.at0 (hcl.at0 (k2.at0 (by assumption)))) (by intro hne; first | exact hne | ((try dsimp only at hne); omega))) (by intro hne; first | exact hne | ((try dsimp only at hne); omega)) | exact hS'.at (cst.at (cu8_2.at0 (hcl.at0 (k2.at0 (k1.at0 (by assumption))))) (by intro hne; first | exact hne | ((try dsimp only at hne); omega))) (by intro hne; first | exact hne | ((try dsimp only at hne); omega))) (by first | rfl | assumption)) hS ?_
    refine WH.take 8 rfl (by kernel_rfl) (by kernel_rfl) (by kernel_rfl) (fun _ _ _ h => h) Gd.none rfl (fun w' hS' => X.mv (lt rfl (lt rfl (lt rfl (lt rfl (lt rfl (lt rfl (lt rfl (s9))))))))) hS ?_
    refine WH.take 9 rfl (by kernel_rfl) (by kernel_rfl) (by kernel_rfl) (fun _ _ _ h => h) Gd.none rfl (fun w' hS' => X.fieldAddr fd58_0 (lt rfl (lt rfl (lt rfl (lt rfl (lt rfl (lt rfl (lt rfl (lt rfl (s12)))))))))) hS ?_
    refine WH.take 10 rfl (by kernel_rfl) (by kernel_rfl) (by kernel_rfl) (fun _ _ _ h => h) Gd.none rfl (fun w' hS' => X.load pl3 (lh) (by first | assumption | exact hS'.at (by assumption) (by intro hne; first | exact hne | ((try dsimp only at hne); omega)) | exact hS'.at (cst.at (by assumption) (by intro hne; first | exact hne | ((try dsimp only at hne); omega))) (by intro hne; first | exact hne | ((try dsimp only at hne); omega)) | exact hS'.at (cst.at (cu8_2.at0 (by assumption)) (by intro hne; first | exact hne | ((try dsimp only at hne); omega))) (by intro hne; first | exact hne | ((try dsimp only at hne); omega)) | exact hS'.at (cst.at (cu8_2.at0 (hcl.at0 (by assumption))) (by intro hne; first | exact hne | ((try dsimp only at hne); omega))) (by intro hne; first | exact hne | ((try dsimp only at hne); omega)) | exact hS'.at (cst.at (cu8_2.at0 (hcl.at0 (k2.at0 (by assumption)))) (by intro hne; first | exact hne | ((try dsimp only at hne); omega))) (by intro hne; first | exact hne | ((try dsimp only at hne); omega)) | exact hS'.at (cst.at (cu8_2.at0 (hcl.at0 (k2.at0 (k1.at0 (by assumption))))) (by intro hne; first | exact hne | ((try dsimp only at hne); omega))) (by intro hne; first | exact hne | ((try dsimp only at hne); omega))) (by first | rfl | assumption)) hS ?_
    refine WH.take 11 rfl (by kernel_rfl) (by kernel_rfl) (by kernel_rfl) (fun _ _ _ h => h) Gd.none rfl (fun w' hS' => X.fieldAddr fd58_1 (lt rfl (lt rfl (lt rfl (lt rfl (lt rfl (lt rfl (lt rfl (lt rfl (lt rfl (lt rfl (s12)))))))))))) hS ?_
    refine WH.take 12 rfl (by kernel_rfl) (by kernel_rfl) (by kernel_rfl) (fun _ _ _ h => h) Gd.none rfl (fun w' hS' => X.load pl3 (lh) (by first | assumption | exact hS'.at (by assumption) (by intro hne; first | exact hne | ((try dsimp only at hne); omega)) | exact hS'.at (cst.at (by assumption) (by intro hne; first | exact hne | ((try dsimp only at hne); omega))) (by intro hne; first | exact hne | ((try dsimp only at hne); omega)) | exact hS'.at (cst.at (cu8_2.at0 (by assumption)) (by intro hne; first | exact hne | ((try dsimp only at hne); omega))) (by intro hne; first | exact hne | ((try dsimp only at hne); omega)) | exact hS'.at (cst.at (cu8_2.at0 (hcl.at0 (by assumption))) (by intro hne; first | exact hne | ((try dsimp only at hne); omega))) (by intro hne; first | exact hne | ((try dsimp only at hne); omega)) | exact hS'.at (cst.at (cu8_2.at0 (hcl.at0 (k2.at0 (by assumption)))) (by intro hne; first | exact hne | ((try dsimp only at hne); omega))) (by intro hne; first | exact hne | ((try dsimp only at hne); omega)) | exact hS'.at (cst.at (cu8_2.at0 (hcl.at0 (k2.at0 (k1.at0 (by assumption))))) (by intro hne; first | exact hne | ((try dsimp only at hne); omega))) (by intro hne; first | exact hne | ((try dsimp only at hne); omega))) (by first | rfl | assumption)) hS ?_
    refine WH.take 13 rfl (by kernel_rfl) (by kernel_rfl) (by kernel_rfl) (fun _ _ _ h => h) Gd.none rfl (fun w' hS' => X.fieldAddr fd58_2 (lt rfl (lt rfl (lt rfl (lt rfl (lt rfl (lt rfl (lt rfl (lt rfl (lt rfl (lt rfl (lt rfl (lt rfl (s12)))))))))))))) hS ?_
    refine WH.take 14 rfl (by kernel_rfl) (by kernel_rfl) (by kernel_rfl) (fun _ _ _ h => h) Gd.none rfl (fun w' hS' => X.load pl3 (lh) (by first | assumption | exact hS'.at (by assumption) (by intro hne; first | exact hne | ((try dsimp only at hne); omega)) | exact hS'.at (cst.at (by assumption) (by intro hne; first | exact hne | ((try dsimp only at hne); omega))) (by intro hne; first | exact hne | ((try dsimp only at hne); omega)) | exact hS'.at (cst.at (cu8_2.at0 (by assumption)) (by intro hne; first | exact hne | ((try dsimp only at hne); omega))) (by intro hne; first | exact hne | ((try dsimp only at hne); omega)) | exact hS'.at (cst.at (cu8_2.at0 (hcl.at0 (by assumption))) (by intro hne; first | exact hne | ((try dsimp only at hne); omega))) (by intro hne; first | exact hne | ((try dsimp only at hne); omega)) | exact hS'.at (cst.at (cu8_2.at0 (hcl.at0 (k2.at0 (by assumption)))) (by intro hne; first | exact hne | ((try dsimp only at hne); omega))) (by intro hne; first | exact hne | ((try dsimp only at hne); omega)) | exact hS'.at (cst.at (cu8_2.at0 (hcl.at0 (k2.at0 (k1.at0 (by assumption))))) (by intro hne; first | exact hne | ((try dsimp only at hne); omega))) (by intro hne; first | exact hne | ((try dsimp only at hne); omega))) (by first | rfl | assumption)) hS ?_
    refine WH.one 7 rfl (by kernel_rfl) (fun _ _ h => h) ?_
    refine WL.call4 ce21 (lt rfl (lt rfl (lt rfl (lt rfl (lt rfl (lt rfl (lt rfl (lt rfl (lt rfl (lt rfl (lt rfl (lt rfl (lt rfl (lh)))))))))))))) (lt rfl (lt rfl (lt rfl (lt rfl (lt rfl (lt rfl (lt rfl (lt rfl (lt rfl (lt rfl (lt rfl (lh)))))))))))) (lt rfl (lt rfl (lt rfl (lt rfl (lt rfl (lt rfl (lt rfl (lt rfl (lt rfl (lh)))))))))) (lt rfl (lt rfl (lt rfl (lt rfl (lt rfl (lt rfl (lt rfl (lh)))))))) (gadd_ok _ g n _ w6 (hg3.ch0 cdh9) (p1, p2, p3)) rfl ?_
    rintro _ w7 ⟨rfl, hg4, c4⟩
    have hx4 := (hx3.ch0 cdh9).keep c4 (by decide)
    have hS := hS.trans c4 (fun _ _ => id) (fun i hi hg => ⟨fun e => mine_not (T := 58) ⟨_, hS.at hkb (fun e => e.1 rfl)⟩ (by decide) (e ▸ hg), hg.1⟩)
    refine WL.nil Nx.thn ⟨hS, ?_⟩
    refine WH.one 15 rfl (by kernel_rfl) (fun _ _ h => h) ?_
    refine WL.call4 ce25 (lt rfl (lt rfl (lt rfl (lt rfl (lt rfl (lt rfl (lt rfl (lh)))))))) (lt rfl (lt rfl (lt rfl (lt rfl (lt rfl (lh)))))) (lt rfl (lt rfl (lt rfl (lh)))) (lt rfl (lh)) (radd_ok _ x n _ w7 hx4 (p1, p2, p3)) rfl ?_
    rintro _ w8 ⟨rfl, hx5, c5⟩
    have hg5 := hg4.keep c5 (by decide)
    have hS := hS.trans c5 (fun _ _ => id) (fun i hi hg => ⟨fun e => mine_not (T := 58) ⟨_, hS.at hkb (fun e => e.1 rfl)⟩ (by decide) (e ▸ hg), Nat.le_trans hz1 hg.1⟩)
    refine WL.nil Nx.thn ⟨hS, ?_⟩
    refine WH.take 16 rfl (by kernel_rfl) (by kernel_rfl) (by kernel_rfl) (fun _ _ _ h => h) Gd.none rfl (fun w' hS' => X.neq (lt rfl (lh)) (lh)) hS ?_
    refine WH.done (by kernel_rfl) ?_
    refine WL.e6 Nx.thn 7 9 33 34 35 55 (lt rfl (lt rfl (lt rfl (lt rfl (lt rfl (lt rfl (lt rfl (lt rfl (lt rfl (lt rfl (lt rfl (lt rfl (lt rfl (lt rfl (lt rfl (lt rfl (lt rfl (s7)))))))))))))))))) (lt rfl (lt rfl (lt rfl (lt rfl (lt rfl (lt rfl (lt rfl (lt rfl (lt rfl (lt rfl (lt rfl (lt rfl (lt rfl (lt rfl (lt rfl (lt rfl (lt rfl (s9)))))))))))))))))) (lt rfl (lt rfl (lt rfl (lt rfl (lt rfl (lt rfl (lt rfl (lt rfl (lt rfl (lt rfl (lt rfl (lt rfl (lt rfl (lt rfl (lt rfl (lt rfl (lt rfl (s33)))))))))))))))))) (lt rfl (lt rfl (lt rfl (lt rfl (lt rfl (lt rfl (lt rfl (lt rfl (lt rfl (lt rfl (lt rfl (lt rfl (lt rfl (lt rfl (lt rfl (lt rfl (lt rfl (s34)))))))))))))))))) (lt rfl (lt rfl (lt rfl (lt rfl (lt rfl (lt rfl (lt rfl (lt rfl (lt rfl (lt rfl (lt rfl (lt rfl (lt rfl (lt rfl (lt rfl (lt rfl (lt rfl (s35)))))))))))))))))) (lh) ?_
    intro σ10 s7 s9 s33 s34 s35 s55
    refine W.cndN s55 (fun h => h rfl) ?_
    refine W.skip (Nx.blk Nx.thn) ?_
    refine W.region ?_
    first | refine WL.x (X.add (s35) lc (by omega) (by omega)) rfl ?_ | refine WL.x (X.addw (s35) lc) rfl ?_
    refine WL.x (X.mv (lh)) rfl ?_
    refine WL.e5 Nx.thn 7 9 33 34 35 (lt rfl (lt rfl (s7))) (lt rfl (lt rfl (s9))) (lt rfl (lt rfl (s33))) (lt rfl (lt rfl (s34))) (lh) ?_
    intro σ11 s7 s9 s33 s34 s35
    refine ⟨k + 1, by first | omega | (dsimp only; omega), ⟨s7.trans qo2.symm, s9.trans qo3.symm, s33.trans qo4.symm, s34.trans qo5.symm, trivial⟩, s35, by omega, by rw [hft]; exact hg5, by rw [hft]; exact hx5, hcl3.trans hS (H := fun _ => False) (fun _ _ e => e) (fun i hi e => by have := e.2; omega)⟩
  · refine W.exit (Nx.xthn (Nx.xthn (Nx.xblk Nx.thn))) ?_
    refine W.seq ?_
    refine W.region ?_
    refine WL.x (X.mv (s7)) rfl ?_
    refine WL.x (X.mv (lt rfl (s9))) rfl ?_
    refine WL.x (X.asg (lt rfl (lh))) rfl ?_
    refine WL.x (X.asg (lt rfl (lh))) rfl ?_
    refine WL.x (X.asg lc) rfl ?_
    refine WL.e3 Nx.thn 4 5 6 (lt rfl (lt rfl (lh))) (lt rfl (lh)) (lh) ?_
    intro σ12 s4 s5 s6
    refine W.ret3 Nx.f3 s4 s5 s6 ?_
    have hke : k = l.length := by omega
    subst hke
    rw [List.take_of_length_le (Nat.le_refl _)] at hg hx
    exact ⟨hcl, n, g, x, _, hn2, rfl, hg, hx, hz1⟩
end Go.Proofs.YtaldkbdnefpklaaDoor
