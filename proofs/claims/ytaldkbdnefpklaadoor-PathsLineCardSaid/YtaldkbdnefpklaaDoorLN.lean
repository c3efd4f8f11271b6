/-
  A part of the walk of the program.
-/
import Derived.Test.YtaldkbdnefpklaaDoorLM
set_option linter.unusedVariables false
set_option linter.unusedSimpArgs false
set_option maxRecDepth 100000
namespace Go.Proofs.YtaldkbdnefpklaaDoor
open Go Go.RowKit Sg
set_option maxHeartbeats 1600000 in
theorem line_ok (a p q : Int) (w : World) (htab : Tab w) (hb0 : 0 < w.heap.size)  :
    Sg.Ret Tryd.prog 7 #[.int .i64 a, .int .i64 p, .int .i64 q] w fun v w' => v = .bool true ∧ Ch0 w w' := by
  obtain ⟨n, hn⟩ : ∃ n : Nat, 2 + a % 18446744073709551616 % 50 = (n : Int) := ⟨_, (Int.toNat_of_nonneg (by omega)).symm⟩
  have hn2 : 2 ≤ n ∧ n < 52 := by omega
  have hp1 := Int.emod_nonneg (p % 18446744073709551616) (show (n : Int) ≠ 0 by omega)
  have hp2 := Int.emod_lt_of_pos (p % 18446744073709551616) (show (0 : Int) < n by omega)
  have hq1 := Int.emod_nonneg (q % 18446744073709551616) (show (n : Int) ≠ 0 by omega)
  have hq2 := Int.emod_lt_of_pos (q % 18446744073709551616) (show (0 : Int) < n by omega)
  obtain ⟨x, hx⟩ : ∃ x : Nat, p % 18446744073709551616 % (n : Int) = (x : Int) := ⟨_, (Int.toNat_of_nonneg hp1).symm⟩
  obtain ⟨y, hy⟩ : ∃ y : Nat, q % 18446744073709551616 % (n : Int) = (y : Int) := ⟨_, (Int.toNat_of_nonneg hq1).symm⟩
  have hxn : x < n := by omega
  have hyn : y < n := by omega
  have hdm1 := Int.emod_nonneg ((y : Int) - x + n) (show (n : Int) ≠ 0 by omega)
  have hdm2 := Int.emod_lt_of_pos ((y : Int) - x + n) (show (0 : Int) < n by omega)
  refine enter1 (n := 99) (l := [.int .i64 a, .int .i64 p, .int .i64 q]) Tryd.func7 rfl rfl rfl rfl ?_
  refine W.g3 0 1 2 (v1 := .int .i64 a) (v2 := .int .i64 p) (v3 := .int .i64 q) rfl rfl rfl ?_; intro σ s0 s1 s2
  refine W.seq ?_
  refine W.region ?_
  refine WL.x (X.asg lc) rfl ?_
  refine WL.e3 Nx.thn 0 1 2 (lt rfl (s0)) (lt rfl (s1)) (lt rfl (s2)) ?_
  intro σ1 s0 s1 s2
  refine W.seq ?_
  refine W.region ?_
  refine WL.x (X.mv (s0)) rfl ?_
  first | refine WL.x (X.convi Tryd.underlying3 Tryd.underlying48 (lh) (wrap_u64_in (by omega) (by omega))) rfl ?_ | refine WL.x (X.convu Tryd.underlying3 Tryd.underlying48 (lh)) rfl ?_ | refine WL.x (X.conv Tryd.underlying3 Tryd.underlying48 (lh)) rfl ?_
  first | refine WL.x (X.rem (lh) lc (by omega) (by omega)) rfl ?_ | refine WL.x (X.remw (lh) lc (by omega)) rfl ?_
  first | refine WL.x (X.convi Tryd.underlying48 Tryd.underlying3 (lh) (wrap_i64 (by omega) (by omega))) rfl ?_ | refine WL.x (X.conv Tryd.underlying48 Tryd.underlying3 (lh)) rfl ?_
  refine WL.x (v := .int .i64 (n : Int)) (hn ▸ X.add lc (lh) (by omega) (by omega)) rfl ?_
  refine WL.x (X.asg (lh)) rfl ?_
  refine WL.e3 Nx.thn 0 1 2 (lh) (lt rfl (lt rfl (lt rfl (lt rfl (lt rfl (lt rfl (s1))))))) (lt rfl (lt rfl (lt rfl (lt rfl (lt rfl (lt rfl (s2))))))) ?_
  intro σ2 s0 s1 s2
  refine W.seq ?_
  refine W.draw mo (by kernel_rfl) Nx.thn ?_
  refine WQ.x (fun _ => X.mv (s1)) rfl ?_
  first | refine WQ.x (fun _ => X.convi Tryd.underlying3 Tryd.underlying48 (lh) (wrap_u64_in (by omega) (by omega))) rfl ?_ | refine WQ.x (fun _ => X.convu Tryd.underlying3 Tryd.underlying48 (lh)) rfl ?_ | refine WQ.x (fun _ => X.conv Tryd.underlying3 Tryd.underlying48 (lh)) rfl ?_
  refine WQ.x (fun _ => X.mv (lt rfl (lt rfl (s0)))) rfl ?_
  first | refine WQ.x (fun _ => X.convi Tryd.underlying3 Tryd.underlying48 (lh) (wrap_u64_in (by omega) (by omega))) rfl ?_ | refine WQ.x (fun _ => X.convu Tryd.underlying3 Tryd.underlying48 (lh)) rfl ?_ | refine WQ.x (fun _ => X.conv Tryd.underlying3 Tryd.underlying48 (lh)) rfl ?_
  first | refine WQ.x (fun _ => X.rem (lt rfl (lt rfl (lh))) (lh) (by omega) (by omega)) rfl ?_ | refine WQ.x (fun _ => X.remw (lt rfl (lt rfl (lh))) (lh) (by omega)) rfl ?_
  refine WQ.x (v := .int .i64 (x : Int)) (fun m9 => hx ▸ X.convi Tryd.underlying70 Tryd.underlying3 (lh) (wrap_i64 (by omega) (by omega))) rfl ?_
  refine WQ.x (fun _ => X.mv (lt rfl (lt rfl (lt rfl (lt rfl (lt rfl (lt rfl (s2)))))))) rfl ?_
  first | refine WQ.x (fun _ => X.convi Tryd.underlying3 Tryd.underlying48 (lh) (wrap_u64_in (by omega) (by omega))) rfl ?_ | refine WQ.x (fun _ => X.convu Tryd.underlying3 Tryd.underlying48 (lh)) rfl ?_ | refine WQ.x (fun _ => X.conv Tryd.underlying3 Tryd.underlying48 (lh)) rfl ?_
  refine WQ.x (fun _ => X.mv (lt rfl (lt rfl (lt rfl (lt rfl (lt rfl (lt rfl (lt rfl (lt rfl (s0)))))))))) rfl ?_
  first | refine WQ.x (fun _ => X.convi Tryd.underlying3 Tryd.underlying48 (lh) (wrap_u64_in (by omega) (by omega))) rfl ?_ | refine WQ.x (fun _ => X.convu Tryd.underlying3 Tryd.underlying48 (lh)) rfl ?_ | refine WQ.x (fun _ => X.conv Tryd.underlying3 Tryd.underlying48 (lh)) rfl ?_
  first | refine WQ.x (fun _ => X.rem (lt rfl (lt rfl (lh))) (lh) (by omega) (by omega)) rfl ?_ | refine WQ.x (fun _ => X.remw (lt rfl (lt rfl (lh))) (lh) (by omega)) rfl ?_
  refine WQ.x (v := .int .i64 (y : Int)) (fun m9 => hy ▸ X.convi Tryd.underlying70 Tryd.underlying3 (lh) (wrap_i64 (by omega) (by omega))) rfl ?_
  refine WQ.x (fun _ => X.asg (lt rfl (lt rfl (lt rfl (lt rfl (lt rfl (lt rfl (lh)))))))) rfl ?_
  refine WQ.x (fun _ => X.asg (lt rfl (lh))) rfl ?_
  refine WQ.e3 0 1 2 (lt rfl (lt rfl (lt rfl (lt rfl (lt rfl (lt rfl (lt rfl (lt rfl (lt rfl (lt rfl (lt rfl (lt rfl (lt rfl (lt rfl (s0))))))))))))))) (lt rfl (lh)) (lh) ?_
  intro σ3 s0 s1 s2
  intro _; refine gdrew ?_; intro w1 hh2 cd2 dr2
  refine W.seq ?_
  refine W.region ?_
  refine WL.x (X.mv (s0)) rfl ?_
  refine WL.call1 ce20 (lh) (gnew_ok (n : Int) w1) rfl ?_
  rintro v0 w2 ⟨k1, hv⟩
  rw [if_pos ⟨by omega, by omega⟩] at hv
  obtain ⟨g, rfl, hg0⟩ := hv
  rw [Int.toNat_natCast] at hg0
  have hz1 := k1.size
  have hz0 := (Dr.ch0 dr2).size
  refine WL.x (X.mv (lh)) rfl ?_
  refine WL.x (X.ex2_0 (lh)) rfl ?_
  refine WL.x (X.ex2_1 (lt rfl (lh))) rfl ?_
  refine WL.x (X.asg (lt rfl (lh))) rfl ?_
  refine WL.x (X.asg (lt rfl (lh))) rfl ?_
  refine WL.e5 Nx.thn 0 1 2 7 8 (lt rfl (lt rfl (lt rfl (lt rfl (lt rfl (lt rfl (lt rfl (s0)))))))) (lt rfl (lt rfl (lt rfl (lt rfl (lt rfl (lt rfl (lt rfl (s1)))))))) (lt rfl (lt rfl (lt rfl (lt rfl (lt rfl (lt rfl (lt rfl (s2)))))))) (lt rfl (lh)) (lh) ?_
  intro σ4 s0 s1 s2 s7 s8
  refine W.seq ?_
  refine W.seq ?_
  refine W.region ?_
  refine WL.x (X.mv (s8)) rfl ?_
  refine WL.x (X.neq (lh) lc) rfl ?_
  refine WL.e5 Nx.thn 0 1 2 7 37 (lt rfl (lt rfl (s0))) (lt rfl (lt rfl (s1))) (lt rfl (lt rfl (s2))) (lt rfl (lt rfl (s7))) (lh) ?_
  intro σ5 s0 s1 s2 s7 s37
  refine W.cndN s37 (fun h => h rfl) ?_
  refine W.skip Nx.thn ?_
  refine W.seq ?_
  refine W.seq ?_
  refine W.region ?_
  refine WL.x (X.mv (s0)) rfl ?_
  refine WL.x (X.mv lc) rfl ?_
  refine WL.e6 Nx.thn 0 1 2 7 38 39 (lt rfl (lt rfl (s0))) (lt rfl (lt rfl (s1))) (lt rfl (lt rfl (s2))) (lt rfl (lt rfl (s7))) (lt rfl (lh)) (lh) ?_
  intro σ6 s0 s1 s2 s7 s38 s39
  refine W.block ?_
  have qo1 := s0
  have qo2 := s1
  have qo3 := s2
  have qo4 := s7
  have qo5 := s38
  -- loop 0: kept [0, 1, 2, 7, 38], varied [39]
  refine W.loop (G := Nat) (fun k σ' w' => (σ' 0 = σ6 0 ∧ σ' 1 = σ6 1 ∧ σ' 2 = σ6 2 ∧ σ' 7 = σ6 7 ∧ σ' 38 = σ6 38 ∧ True) ∧ (σ' 39 = .int .i64 (k : Int) ∧ k ≤ n ∧ IsG w' w1.heap.size g n (ringL n k) ∧ Ch0 w w')) (fun k => n - k) (0) ⟨⟨rfl, rfl, rfl, rfl, rfl, trivial⟩, s39, by omega, (by rw [show ringL n 0 = fun _ _ => 0 from funext fun x => funext fun y => if_neg (by omega)]; exact hg0), (Dr.ch0 dr2).trans0 k1⟩ ?_
  rintro k σ7 w3 ⟨⟨f0, f1, f2, f7, f38, _⟩, s39, hk, hg, hcl⟩
  have s0 := f0.trans qo1
  have s1 := f1.trans qo2
  have s2 := f2.trans qo3
  have s7 := f7.trans qo4
  have s38 := f38.trans qo5
  refine W.seq ?_
  refine W.region ?_
  refine WL.x (X.lss (s39) (s38)) rfl ?_
  refine WL.e7 Nx.thn 0 1 2 7 38 39 40 (lt rfl (s0)) (lt rfl (s1)) (lt rfl (s2)) (lt rfl (s7)) (lt rfl (s38)) (lt rfl (s39)) (lh) ?_
  intro σ8 s0 s1 s2 s7 s38 s39 s40
  refine W.seq ?_
  refine W.cndp s40 (fun hlt => ?_) (fun hlt => ?_)
  · refine W.skip Nx.thn ?_
    refine W.seq ?_
    refine W.block ?_
    refine W.seq ?_
    refine W.region ?_
    refine WL.x (X.mv (s39)) rfl ?_
    refine WL.x (X.asg (lh)) rfl ?_
    refine WL.e7 Nx.thn 0 1 2 7 9 38 39 (lt rfl (lt rfl (s0))) (lt rfl (lt rfl (s1))) (lt rfl (lt rfl (s2))) (lt rfl (lt rfl (s7))) (lh) (lt rfl (lt rfl (s38))) (lt rfl (lt rfl (s39))) ?_
    intro σ9 s0 s1 s2 s7 s9 s38 s39
    refine W.region ?_
    refine WL.x (X.mv (s7)) rfl ?_
    refine WL.x (X.mv (lt rfl (s9))) rfl ?_
    refine WL.x (X.mv (lt rfl (lt rfl (s9)))) rfl ?_
    first | refine WL.x (X.add (lh) lc (by omega) (by omega)) rfl ?_ | refine WL.x (X.addw (lh) lc) rfl ?_
    refine WL.x (X.mv (lt rfl (lt rfl (lt rfl (lt rfl (s0)))))) rfl ?_
    refine WL.x (v := .int .i64 (((k + 1) % n : Nat) : Int)) (by rw [Int.natCast_emod, Int.natCast_add, show ((1 : Nat) : Int) = 1 from rfl]; exact X.rem (lt rfl (lh)) (lh) (by omega) (by omega)) rfl ?_
    refine WL.call4 ce21 (lt rfl (lt rfl (lt rfl (lt rfl (lt rfl (lh)))))) (lt rfl (lt rfl (lt rfl (lt rfl (lh))))) (lh) lc (gadd_ok w1.heap.size g n _ w3 hg ((k : Int), (((k + 1) % n : Nat) : Int), 4)) rfl ?_
    rintro _ w4 ⟨rfl, hg2, c4⟩
    rw [ring_add (by omega) (by omega)] at hg2
    have hcl2 := hcl.trans c4 (H := fun _ => False) (fun _ _ e => e) (fun i hi e => by have := e.1; omega)
    refine WL.e6 (Nx.blk Nx.thn) 0 1 2 7 38 39 (lt rfl (lt rfl (lt rfl (lt rfl (lt rfl (lt rfl (lt rfl (s0)))))))) (lt rfl (lt rfl (lt rfl (lt rfl (lt rfl (lt rfl (lt rfl (s1)))))))) (lt rfl (lt rfl (lt rfl (lt rfl (lt rfl (lt rfl (lt rfl (s2)))))))) (lt rfl (lt rfl (lt rfl (lt rfl (lt rfl (lt rfl (lt rfl (s7)))))))) (lt rfl (lt rfl (lt rfl (lt rfl (lt rfl (lt rfl (lt rfl (s38)))))))) (lt rfl (lt rfl (lt rfl (lt rfl (lt rfl (lt rfl (lt rfl (s39)))))))) ?_
    intro σ10 s0 s1 s2 s7 s38 s39
    refine W.region ?_
    first | refine WL.x (X.add (s39) lc (by omega) (by omega)) rfl ?_ | refine WL.x (X.addw (s39) lc) rfl ?_
    refine WL.x (X.mv (lh)) rfl ?_
    refine WL.e6 Nx.thn 0 1 2 7 38 39 (lt rfl (lt rfl (s0))) (lt rfl (lt rfl (s1))) (lt rfl (lt rfl (s2))) (lt rfl (lt rfl (s7))) (lt rfl (lt rfl (s38))) (lh) ?_
    intro σ11 s0 s1 s2 s7 s38 s39
    refine ⟨k + 1, by first | omega | (dsimp only; omega), ⟨s0.trans qo1.symm, s1.trans qo2.symm, s2.trans qo3.symm, s7.trans qo4.symm, s38.trans qo5.symm, trivial⟩, s39, by omega, hg2, hcl2⟩
  · have hke : n = k := by omega
    subst hke
    refine W.exit (Nx.xthn (Nx.xthn (Nx.xblk Nx.thn))) ?_
    refine W.seq ?_
    refine W.region ?_
    refine WL.x (X.mv (s7)) rfl ?_
    refine WL.x (X.mv (lt rfl (s1))) rfl ?_
    refine WL.x (X.mv (lt rfl (lt rfl (s2)))) rfl ?_
    refine WL.call4 ce18 (lt rfl (lt rfl (lh))) lc (lt rfl (lh)) (lh) (short_ok _ g n _ w3 hg (htab.ch0 hcl) (by have := hcl.size; omega) 4 x y) rfl ?_
    rintro v1 w5 ⟨hps, hbn, d1⟩
    have hg := hg.ch0 d1
    have hcl := hcl.trans0 d1
    have hsh := ring_sh (by omega) hxn hyn
    obtain ⟨L, hL⟩ : ∃ L, L = shI n (ringL n n) 4 x y := ⟨_, rfl⟩
    rw [← hL] at hps hsh
    have hLl : L.length ≤ n + 1 := by rw [hL]; exact shI_len hbn
    obtain ⟨pa, pc, rfl⟩ : ∃ a c, v1 = .slice a L.length c := by
      obtain ⟨a, c, e⟩ := hps.len
      rw [List.length_map] at e
      exact ⟨a, c, e⟩
    refine WL.x (X.asg (lh)) rfl ?_
    refine WL.e5 Nx.thn 0 1 2 7 10 (lt rfl (lt rfl (lt rfl (lt rfl (lt rfl (s0)))))) (lt rfl (lt rfl (lt rfl (lt rfl (lt rfl (s1)))))) (lt rfl (lt rfl (lt rfl (lt rfl (lt rfl (s2)))))) (lt rfl (lt rfl (lt rfl (lt rfl (lt rfl (s7)))))) (lh) ?_
    intro σ12 s0 s1 s2 s7 s10
    refine W.seq ?_
    refine W.seq ?_
    refine W.region ?_
    refine WL.x (X.mv (s10)) rfl ?_
    refine WL.x (X.lenSl Tryd.underlying44 (lh)) rfl ?_
    refine WL.x (X.mv lc) rfl ?_
    refine WL.e8 Nx.thn 0 1 2 7 10 54 55 56 (lt rfl (lt rfl (lt rfl (s0)))) (lt rfl (lt rfl (lt rfl (s1)))) (lt rfl (lt rfl (lt rfl (s2)))) (lt rfl (lt rfl (lt rfl (s7)))) (lt rfl (lt rfl (lt rfl (s10)))) (lt rfl (lt rfl (lh))) (lt rfl (lh)) (lh) ?_
    intro σ13 s0 s1 s2 s7 s10 s54 s55 s56
    refine W.block ?_
    have qo6 := s0
    have qo7 := s1
    have qo8 := s2
    have qo9 := s7
    have qo10 := s10
    have qo11 := s54
    have qo12 := s55
    -- loop 1: kept [0, 1, 2, 7, 10, 54, 55], varied [56]
    refine W.loop (G := Nat) (fun k σ' w' => (σ' 0 = σ13 0 ∧ σ' 1 = σ13 1 ∧ σ' 2 = σ13 2 ∧ σ' 7 = σ13 7 ∧ σ' 10 = σ13 10 ∧ σ' 54 = σ13 54 ∧ σ' 55 = σ13 55 ∧ True) ∧ w5 = w' ∧ (σ' 56 = .int .i64 (k : Int) ∧ k ≤ L.length)) (fun k => L.length - k) (0) ⟨⟨rfl, rfl, rfl, rfl, rfl, rfl, rfl, trivial⟩, rfl, s56, by omega⟩ ?_
    rintro k σ14 w6 ⟨⟨f0, f1, f2, f7, f10, f54, f55, _⟩, rfl, s56, hk⟩
    have s0 := f0.trans qo6
    have s1 := f1.trans qo7
    have s2 := f2.trans qo8
    have s7 := f7.trans qo9
    have s10 := f10.trans qo10
    have s54 := f54.trans qo11
    have s55 := f55.trans qo12
    refine W.seq ?_
    refine W.region ?_
    refine WL.x (X.lss (s56) (s55)) rfl ?_
    refine WL.e9 Nx.thn 0 1 2 7 10 54 55 56 57 (lt rfl (s0)) (lt rfl (s1)) (lt rfl (s2)) (lt rfl (s7)) (lt rfl (s10)) (lt rfl (s54)) (lt rfl (s55)) (lt rfl (s56)) (lh) ?_
    intro σ15 s0 s1 s2 s7 s10 s54 s55 s56 s57
    refine W.seq ?_
    refine W.cndp s57 (fun hlt2 => ?_) (fun hlt2 => ?_)
    · obtain ⟨gr, gor, csr, Tr, frr, rfl, hr1, hr2⟩ := hps.at (k := k) (by rw [List.length_map]; omega)
      have hkl : k < L.length := by omega
      have hm := hsh.2 k hkl
      refine W.skip Nx.thn ?_
      refine W.seq ?_
      refine W.block ?_
      refine W.seq ?_
      refine W.region ?_
      refine WL.x (X.mv (s56)) rfl ?_
      refine WL.x (X.indexAddr Tryd.underlying44 el3 (lt rfl (s54)) (lt rfl (s56)) (by omega) (by omega)) rfl ?_
      refine WL.x (X.load pl3 (lh) hr1 (v := .int .i64 (L[k]'hkl)) (by rw [show gor + (k : Int).toNat * 1 = gor + k by omega, hr2 k (by rw [List.length_map]; omega), List.getElem?_map, List.getElem?_eq_getElem hkl]; rfl)) rfl ?_
      refine WL.x (X.asg (lt rfl (lt rfl (lh)))) rfl ?_
      refine WL.x (X.asg (lt rfl (lh))) rfl ?_
      refine WL.e10 Nx.thn 0 1 2 7 10 11 12 54 55 56 (lt rfl (lt rfl (lt rfl (lt rfl (lt rfl (s0)))))) (lt rfl (lt rfl (lt rfl (lt rfl (lt rfl (s1)))))) (lt rfl (lt rfl (lt rfl (lt rfl (lt rfl (s2)))))) (lt rfl (lt rfl (lt rfl (lt rfl (lt rfl (s7)))))) (lt rfl (lt rfl (lt rfl (lt rfl (lt rfl (s10)))))) (lt rfl (lh)) (lh) (lt rfl (lt rfl (lt rfl (lt rfl (lt rfl (s54)))))) (lt rfl (lt rfl (lt rfl (lt rfl (lt rfl (s55)))))) (lt rfl (lt rfl (lt rfl (lt rfl (lt rfl (s56)))))) ?_
      intro σ16 s0 s1 s2 s7 s10 s11 s12 s54 s55 s56
      refine W.seq ?_
      refine W.region ?_
      refine WL.x (X.mv (s12)) rfl ?_
      refine WL.x (X.mv (lt rfl (s1))) rfl ?_
      refine WL.x (X.mv (lt rfl (lt rfl (s11)))) rfl ?_
      first | refine WL.x (X.add (lt rfl (lh)) (lh) (by omega) (by omega)) rfl ?_ | refine WL.x (X.addw (lt rfl (lh)) (lh)) rfl ?_
      refine WL.x (X.mv (lt rfl (lt rfl (lt rfl (lt rfl (s0)))))) rfl ?_
      refine WL.x (v := .int .i64 (((x + k) % n : Nat) : Int)) (by rw [Int.natCast_emod, Int.natCast_add]; exact X.rem (lt rfl (lh)) (lh) (by omega) (by omega)) rfl ?_
      refine WL.x (X.neq (lt rfl (lt rfl (lt rfl (lt rfl (lt rfl (lh)))))) (lh)) rfl ?_
      refine WL.e9 Nx.thn 0 1 2 7 10 54 55 56 67 (lt rfl (lt rfl (lt rfl (lt rfl (lt rfl (lt rfl (lt rfl (s0)))))))) (lt rfl (lt rfl (lt rfl (lt rfl (lt rfl (lt rfl (lt rfl (s1)))))))) (lt rfl (lt rfl (lt rfl (lt rfl (lt rfl (lt rfl (lt rfl (s2)))))))) (lt rfl (lt rfl (lt rfl (lt rfl (lt rfl (lt rfl (lt rfl (s7)))))))) (lt rfl (lt rfl (lt rfl (lt rfl (lt rfl (lt rfl (lt rfl (s10)))))))) (lt rfl (lt rfl (lt rfl (lt rfl (lt rfl (lt rfl (lt rfl (s54)))))))) (lt rfl (lt rfl (lt rfl (lt rfl (lt rfl (lt rfl (lt rfl (s55)))))))) (lt rfl (lt rfl (lt rfl (lt rfl (lt rfl (lt rfl (lt rfl (s56)))))))) (lh) ?_
      intro σ17 s0 s1 s2 s7 s10 s54 s55 s56 s67
      refine W.cndN s67 (fun h9 => h9 hm) ?_
      refine W.skip (Nx.blk Nx.thn) ?_
      refine W.region ?_
      first | refine WL.x (X.add (s56) lc (by omega) (by omega)) rfl ?_ | refine WL.x (X.addw (s56) lc) rfl ?_
      refine WL.x (X.mv (lh)) rfl ?_
      refine WL.e8 Nx.thn 0 1 2 7 10 54 55 56 (lt rfl (lt rfl (s0))) (lt rfl (lt rfl (s1))) (lt rfl (lt rfl (s2))) (lt rfl (lt rfl (s7))) (lt rfl (lt rfl (s10))) (lt rfl (lt rfl (s54))) (lt rfl (lt rfl (s55))) (lh) ?_
      intro σ18 s0 s1 s2 s7 s10 s54 s55 s56
      refine ⟨k + 1, by first | omega | (dsimp only; omega), ⟨s0.trans qo6.symm, s1.trans qo7.symm, s2.trans qo8.symm, s7.trans qo9.symm, s10.trans qo10.symm, s54.trans qo11.symm, s55.trans qo12.symm, trivial⟩, rfl, s56, by omega⟩
    · refine W.exit (Nx.xthn (Nx.xthn (Nx.xblk Nx.thn))) ?_
      refine W.seq ?_
      refine W.region ?_
      refine WL.x (X.mv (s2)) rfl ?_
      refine WL.x (X.mv (lt rfl (s1))) rfl ?_
      first | refine WL.x (X.sub (lt rfl (lh)) (lh) (by omega) (by omega)) rfl ?_ | refine WL.x (X.subw (lt rfl (lh)) (lh)) rfl ?_
      refine WL.x (X.mv (lt rfl (lt rfl (lt rfl (s0))))) rfl ?_
      first | refine WL.x (X.add (lt rfl (lh)) (lh) (by omega) (by omega)) rfl ?_ | refine WL.x (X.addw (lt rfl (lh)) (lh)) rfl ?_
      refine WL.x (X.mv (lt rfl (lt rfl (lt rfl (lt rfl (lt rfl (s0))))))) rfl ?_
      first | refine WL.x (X.rem (lt rfl (lh)) (lh) (by omega) (by omega)) rfl ?_ | refine WL.x (X.remw (lt rfl (lh)) (lh) (by omega)) rfl ?_
      refine WL.x (X.asg (lh)) rfl ?_
      refine WL.e6 Nx.thn 0 1 2 7 10 13 (lt rfl (lt rfl (lt rfl (lt rfl (lt rfl (lt rfl (lt rfl (lt rfl (s0))))))))) (lt rfl (lt rfl (lt rfl (lt rfl (lt rfl (lt rfl (lt rfl (lt rfl (s1))))))))) (lt rfl (lt rfl (lt rfl (lt rfl (lt rfl (lt rfl (lt rfl (lt rfl (s2))))))))) (lt rfl (lt rfl (lt rfl (lt rfl (lt rfl (lt rfl (lt rfl (lt rfl (s7))))))))) (lt rfl (lt rfl (lt rfl (lt rfl (lt rfl (lt rfl (lt rfl (lt rfl (s10))))))))) (lh) ?_
      intro σ19 s0 s1 s2 s7 s10 s13
      refine W.seq ?_
      refine W.seq ?_
      refine W.region ?_
      refine WL.x (X.mv (s13)) rfl ?_
      refine WL.x (X.eql (lh) lc) rfl ?_
      refine WL.e7 Nx.thn 0 1 2 7 10 13 77 (lt rfl (lt rfl (s0))) (lt rfl (lt rfl (s1))) (lt rfl (lt rfl (s2))) (lt rfl (lt rfl (s7))) (lt rfl (lt rfl (s10))) (lt rfl (lt rfl (s13))) (lh) ?_
      intro σ20 s0 s1 s2 s7 s10 s13 s77
      refine W.cndp s77 (fun hd0 => ?_) (fun hd0 => ?_)
      · refine W.region ?_
        refine WL.x (X.mv (s0)) rfl ?_
        refine WL.x (X.asg (lh)) rfl ?_
        refine WL.e5 Nx.thn 1 2 7 10 13 (lt rfl (lt rfl (s1))) (lt rfl (lt rfl (s2))) (lt rfl (lt rfl (s7))) (lt rfl (lt rfl (s10))) (lh) ?_
        intro σ21 s1 s2 s7 s10 s13
        refine W.seq ?_
        refine W.region ?_
        refine WL.x (X.mv (s10)) rfl ?_
        refine WL.x (X.lenSl Tryd.underlying44 (lh)) rfl ?_
        refine WL.x (X.mv (lt rfl (lt rfl (s13)))) rfl ?_
        first | refine WL.x (X.add (lh) lc (by omega) (by omega)) rfl ?_ | refine WL.x (X.addw (lh) lc) rfl ?_
        refine WL.x (X.eql (lt rfl (lt rfl (lh))) (lh)) rfl ?_
        refine WL.x (X.mv (lh)) rfl ?_
        refine WL.yes rfl rfl (lh) (decide_eq_true (by have h8 := hsh.1; first | (have h9 := (ringd hxn hyn).1 hd0; omega) | (have h9 := (ringd hxn hyn).2 hd0; omega))) ?_
        refine WL.x (X.mv (lt rfl (lt rfl (lt rfl (lt rfl (lt rfl (lt rfl (s7)))))))) rfl ?_
        refine WL.yes rfl rfl (lt rfl (lh)) (decide_eq_true (by have h8 := hsh.1; first | (have h9 := (ringd hxn hyn).1 hd0; omega) | (have h9 := (ringd hxn hyn).2 hd0; omega))) ?_
        refine WL.x (X.mv (lt rfl (lt rfl (lt rfl (lt rfl (lt rfl (lt rfl (lt rfl (s1))))))))) rfl ?_
        refine WL.yes rfl rfl (lt rfl (lt rfl (lh))) (decide_eq_true (by have h8 := hsh.1; first | (have h9 := (ringd hxn hyn).1 hd0; omega) | (have h9 := (ringd hxn hyn).2 hd0; omega))) ?_
        refine WL.x (X.mv (lt rfl (lt rfl (lt rfl (lt rfl (lt rfl (lt rfl (lt rfl (lt rfl (s2)))))))))) rfl ?_
        refine WL.yes rfl rfl (lt rfl (lt rfl (lt rfl (lh)))) (decide_eq_true (by have h8 := hsh.1; first | (have h9 := (ringd hxn hyn).1 hd0; omega) | (have h9 := (ringd hxn hyn).2 hd0; omega))) ?_
        refine WL.call4 ce10 (lt rfl (lt rfl (lh))) lc (lt rfl (lh)) (lh) (pdist_ok _ g n _ w5 hg (htab.ch0 hcl) (by have := hcl.size; omega) 4 x y) rfl ?_
        rintro _ w7 ⟨rfl, b2, d2⟩
        have hg := hg.ch0 d2
        have hcl := hcl.trans0 d2
        rw [ring_ds hxn hyn]
        refine WL.yes rfl rfl (lt rfl (lt rfl (lt rfl (lt rfl (lh))))) (decide_eq_true (by have h8 := hsh.1; first | (have h9 := (ringd hxn hyn).1 hd0; omega) | (have h9 := (ringd hxn hyn).2 hd0; omega))) ?_
        refine WL.x (X.mv (lt rfl (lt rfl (lt rfl (lt rfl (lt rfl (lt rfl (lt rfl (lt rfl (lt rfl (lt rfl (s13)))))))))))) rfl ?_
        refine WL.yes rfl rfl (lt rfl (lt rfl (lt rfl (lt rfl (lt rfl (lh)))))) (decide_eq_true (by have h8 := hsh.1; first | (have h9 := (ringd hxn hyn).1 hd0; omega) | (have h9 := (ringd hxn hyn).2 hd0; omega))) ?_
        refine WL.x (X.eql (lt rfl (lh)) (lh)) rfl ?_
        refine WL.x (X.pickT (lt rfl (lt rfl (lt rfl (lt rfl (lt rfl (lt rfl (lh))))))) (decide_eq_true (by have h8 := hsh.1; first | (have h9 := (ringd hxn hyn).1 hd0; omega) | (have h9 := (ringd hxn hyn).2 hd0; omega))) (lh)) rfl ?_
        refine WL.x (X.mv (lh)) rfl ?_
        refine WL.yes rfl rfl (lh) (decide_eq_true (by first | exact (ringd hxn hyn).1 hd0 | exact (ringd hxn hyn).2 hd0)) ?_
        refine WL.x (X.mv (lt rfl (lt rfl (lt rfl (lt rfl (lt rfl (lt rfl (lt rfl (lt rfl (lt rfl (lt rfl (lt rfl (lt rfl (lt rfl (lt rfl (s7)))))))))))))))) rfl ?_
        refine WL.yes rfl rfl (lt rfl (lh)) (decide_eq_true (by first | exact (ringd hxn hyn).1 hd0 | exact (ringd hxn hyn).2 hd0)) ?_
        refine WL.x (X.mv (lt rfl (lt rfl (lt rfl (lt rfl (lt rfl (lt rfl (lt rfl (lt rfl (lt rfl (lt rfl (lt rfl (lt rfl (lt rfl (lt rfl (lt rfl (s1))))))))))))))))) rfl ?_
        refine WL.yes rfl rfl (lt rfl (lt rfl (lh))) (decide_eq_true (by first | exact (ringd hxn hyn).1 hd0 | exact (ringd hxn hyn).2 hd0)) ?_
        refine WL.x (X.mv (lt rfl (lt rfl (lt rfl (lt rfl (lt rfl (lt rfl (lt rfl (lt rfl (lt rfl (lt rfl (lt rfl (lt rfl (lt rfl (lt rfl (lt rfl (lt rfl (s2)))))))))))))))))) rfl ?_
        refine WL.yes rfl rfl (lt rfl (lt rfl (lt rfl (lh)))) (decide_eq_true (by first | exact (ringd hxn hyn).1 hd0 | exact (ringd hxn hyn).2 hd0)) ?_
        refine WL.call4 ce10 (lt rfl (lt rfl (lh))) lc (lt rfl (lh)) (lh) (pdist_ok _ g n _ w7 hg (htab.ch0 hcl) (by have := hcl.size; omega) 3 x y) rfl ?_
        rintro _ w8 ⟨rfl, b3, d3⟩
        have hg := hg.ch0 d3
        have hcl := hcl.trans0 d3
        refine WL.yes rfl rfl (lt rfl (lt rfl (lt rfl (lt rfl (lh))))) (decide_eq_true (by first | exact (ringd hxn hyn).1 hd0 | exact (ringd hxn hyn).2 hd0)) ?_
        refine WL.x (X.eql (lh) lc) rfl ?_
        refine WL.x (X.pickT (lt rfl (lt rfl (lt rfl (lt rfl (lt rfl (lh)))))) (decide_eq_true (by first | exact (ringd hxn hyn).1 hd0 | exact (ringd hxn hyn).2 hd0)) (lh)) rfl ?_
        refine WL.x (X.asg (lh)) rfl ?_
        refine WL.e1 Nx.thn 6 (lh) ?_
        intro σ22 s6
        refine W.ret1 Nx.f1 s6 ?_
        exact ⟨congrArg Value.bool (decide_eq_true ring_ds3), hcl⟩
      · refine W.skip Nx.thn ?_
        refine W.seq ?_
        refine W.region ?_
        refine WL.x (X.mv (s10)) rfl ?_
        refine WL.x (X.lenSl Tryd.underlying44 (lh)) rfl ?_
        refine WL.x (X.mv (lt rfl (lt rfl (s13)))) rfl ?_
        first | refine WL.x (X.add (lh) lc (by omega) (by omega)) rfl ?_ | refine WL.x (X.addw (lh) lc) rfl ?_
        refine WL.x (X.eql (lt rfl (lt rfl (lh))) (lh)) rfl ?_
        refine WL.x (X.mv (lh)) rfl ?_
        refine WL.yes rfl rfl (lh) (decide_eq_true (by have h8 := hsh.1; first | (have h9 := (ringd hxn hyn).1 hd0; omega) | (have h9 := (ringd hxn hyn).2 hd0; omega))) ?_
        refine WL.x (X.mv (lt rfl (lt rfl (lt rfl (lt rfl (lt rfl (lt rfl (s7)))))))) rfl ?_
        refine WL.yes rfl rfl (lt rfl (lh)) (decide_eq_true (by have h8 := hsh.1; first | (have h9 := (ringd hxn hyn).1 hd0; omega) | (have h9 := (ringd hxn hyn).2 hd0; omega))) ?_
        refine WL.x (X.mv (lt rfl (lt rfl (lt rfl (lt rfl (lt rfl (lt rfl (lt rfl (s1))))))))) rfl ?_
        refine WL.yes rfl rfl (lt rfl (lt rfl (lh))) (decide_eq_true (by have h8 := hsh.1; first | (have h9 := (ringd hxn hyn).1 hd0; omega) | (have h9 := (ringd hxn hyn).2 hd0; omega))) ?_
        refine WL.x (X.mv (lt rfl (lt rfl (lt rfl (lt rfl (lt rfl (lt rfl (lt rfl (lt rfl (s2)))))))))) rfl ?_
        refine WL.yes rfl rfl (lt rfl (lt rfl (lt rfl (lh)))) (decide_eq_true (by have h8 := hsh.1; first | (have h9 := (ringd hxn hyn).1 hd0; omega) | (have h9 := (ringd hxn hyn).2 hd0; omega))) ?_
        refine WL.call4 ce10 (lt rfl (lt rfl (lh))) lc (lt rfl (lh)) (lh) (pdist_ok _ g n _ w5 hg (htab.ch0 hcl) (by have := hcl.size; omega) 4 x y) rfl ?_
        rintro _ w9 ⟨rfl, b2, d2⟩
        have hg := hg.ch0 d2
        have hcl := hcl.trans0 d2
        rw [ring_ds hxn hyn]
        refine WL.yes rfl rfl (lt rfl (lt rfl (lt rfl (lt rfl (lh))))) (decide_eq_true (by have h8 := hsh.1; first | (have h9 := (ringd hxn hyn).1 hd0; omega) | (have h9 := (ringd hxn hyn).2 hd0; omega))) ?_
        refine WL.x (X.mv (lt rfl (lt rfl (lt rfl (lt rfl (lt rfl (lt rfl (lt rfl (lt rfl (lt rfl (lt rfl (s13)))))))))))) rfl ?_
        refine WL.yes rfl rfl (lt rfl (lt rfl (lt rfl (lt rfl (lt rfl (lh)))))) (decide_eq_true (by have h8 := hsh.1; first | (have h9 := (ringd hxn hyn).1 hd0; omega) | (have h9 := (ringd hxn hyn).2 hd0; omega))) ?_
        refine WL.x (X.eql (lt rfl (lh)) (lh)) rfl ?_
        refine WL.x (X.pickT (lt rfl (lt rfl (lt rfl (lt rfl (lt rfl (lt rfl (lh))))))) (decide_eq_true (by have h8 := hsh.1; first | (have h9 := (ringd hxn hyn).1 hd0; omega) | (have h9 := (ringd hxn hyn).2 hd0; omega))) (lh)) rfl ?_
        refine WL.x (X.mv (lh)) rfl ?_
        refine WL.yes rfl rfl (lh) (decide_eq_true (by first | exact (ringd hxn hyn).1 hd0 | exact (ringd hxn hyn).2 hd0)) ?_
        refine WL.x (X.mv (lt rfl (lt rfl (lt rfl (lt rfl (lt rfl (lt rfl (lt rfl (lt rfl (lt rfl (lt rfl (lt rfl (lt rfl (lt rfl (lt rfl (s7)))))))))))))))) rfl ?_
        refine WL.yes rfl rfl (lt rfl (lh)) (decide_eq_true (by first | exact (ringd hxn hyn).1 hd0 | exact (ringd hxn hyn).2 hd0)) ?_
        refine WL.x (X.mv (lt rfl (lt rfl (lt rfl (lt rfl (lt rfl (lt rfl (lt rfl (lt rfl (lt rfl (lt rfl (lt rfl (lt rfl (lt rfl (lt rfl (lt rfl (s1))))))))))))))))) rfl ?_
        refine WL.yes rfl rfl (lt rfl (lt rfl (lh))) (decide_eq_true (by first | exact (ringd hxn hyn).1 hd0 | exact (ringd hxn hyn).2 hd0)) ?_
        refine WL.x (X.mv (lt rfl (lt rfl (lt rfl (lt rfl (lt rfl (lt rfl (lt rfl (lt rfl (lt rfl (lt rfl (lt rfl (lt rfl (lt rfl (lt rfl (lt rfl (lt rfl (s2)))))))))))))))))) rfl ?_
        refine WL.yes rfl rfl (lt rfl (lt rfl (lt rfl (lh)))) (decide_eq_true (by first | exact (ringd hxn hyn).1 hd0 | exact (ringd hxn hyn).2 hd0)) ?_
        refine WL.call4 ce10 (lt rfl (lt rfl (lh))) lc (lt rfl (lh)) (lh) (pdist_ok _ g n _ w9 hg (htab.ch0 hcl) (by have := hcl.size; omega) 3 x y) rfl ?_
        rintro _ w10 ⟨rfl, b3, d3⟩
        have hg := hg.ch0 d3
        have hcl := hcl.trans0 d3
        refine WL.yes rfl rfl (lt rfl (lt rfl (lt rfl (lt rfl (lh))))) (decide_eq_true (by first | exact (ringd hxn hyn).1 hd0 | exact (ringd hxn hyn).2 hd0)) ?_
        refine WL.x (X.eql (lh) lc) rfl ?_
        refine WL.x (X.pickT (lt rfl (lt rfl (lt rfl (lt rfl (lt rfl (lh)))))) (decide_eq_true (by first | exact (ringd hxn hyn).1 hd0 | exact (ringd hxn hyn).2 hd0)) (lh)) rfl ?_
        refine WL.x (X.asg (lh)) rfl ?_
        refine WL.e1 Nx.thn 6 (lh) ?_
        intro σ23 s6
        refine W.ret1 Nx.f1 s6 ?_
        exact ⟨congrArg Value.bool (decide_eq_true ring_ds3), hcl⟩
end Go.Proofs.YtaldkbdnefpklaaDoor
