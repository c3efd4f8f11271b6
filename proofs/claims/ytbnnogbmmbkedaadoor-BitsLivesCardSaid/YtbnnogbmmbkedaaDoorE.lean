/-
  A part of the walk of the program.
-/
import Derived.Test.YtbnnogbmmbkedaaDoorD
import Derived.Test.YtbnnogbmmbkedaaDoorLists
set_option linter.unusedVariables false
set_option linter.unusedSimpArgs false
set_option maxRecDepth 100000
namespace Go.Proofs.YtbnnogbmmbkedaaDoor
open Go Go.RowKit Sg

theorem add_ok (b wb n : Nat) (ws : List BV) (i : Int) (w : World) (h : IsSet w b wb n ws) : Sg.Ret Tryd.prog 8 #[.pointer (some ⟨b, 0, none⟩), .int .i64 i] w
    fun v w' => v = .int .i64 (if 0 ≤ i ∧ i < n then 0 else 1) ∧ ∃ ws', IsSet w' b wb n ws' ∧ (∀ j : Nat, mem ws' j = (decide ((j : Int) = i ∧ i < n) || mem ws j)) ∧ Ch (fun k => k = wb) w w' := by
  by_cases h0 : 0 ≤ i ∧ i < n
  · refine Ret.mono (add_in b wb n ws i w h h0.1 h0.2) fun v w' hh => ⟨by rw [if_pos h0]; exact hh.1, _, hh.2.2, fun j => ?_, hh.2.1⟩
    rw [mem_addW _ _ _ (h.slot (i := i.toNat) (by omega))]
    congr 1; exact decide_eq_decide.2 (by omega)
  · refine Ret.mono (add_out b wb n ws i w h h0) fun v w' hh => ⟨by rw [if_neg h0]; exact hh.1, ws, hh.2 ▸ h, fun j => ?_, hh.2 ▸ Ch.refl _ _⟩
    rw [decide_eq_false (by omega)]; simp
/-- Which numbers are in a set that was filled with the numbers of l, each one cut. -/
def filB (n : Nat) (l : List Int) (j : Nat) : Bool := l.any fun i => decide ((j : Int) = i % 18446744073709551616 % n)
theorem filB_succ {n : Nat} {l : List Int} {k : Nat} (hn : 0 < n) (hk : k < l.length) (j : Nat) :
    filB n (l.take (k + 1)) j = (decide ((j : Int) = l.getD k 0 % 18446744073709551616 % n ∧ l.getD k 0 % 18446744073709551616 % n < n) || filB n (l.take k) j) := by
  unfold filB
  have h2 : l.getD k 0 % 18446744073709551616 % (n : Int) < n := Int.emod_lt_of_pos _ (by omega)
  rw [List.take_succ_eq_append_getElem hk, List.any_append, Bool.or_comm]
  simp only [h2, and_true]
  simp [List.getD_eq_getElem?_getD, List.getElem?_eq_getElem hk]

theorem drop_ok (b wb n : Nat) (ws : List BV) (i : Int) (w : World) (h : IsSet w b wb n ws) : Sg.Ret Tryd.prog 10 #[.pointer (some ⟨b, 0, none⟩), .int .i64 i] w
    fun v w' => v = .int .i64 (if 0 ≤ i ∧ i < n then 0 else 1) ∧ ∃ ws', IsSet w' b wb n ws' ∧ (∀ j : Nat, mem ws' j = (mem ws j && !decide ((j : Int) = i ∧ i < n))) ∧ Ch (fun k => k = wb) w w' := by
  by_cases h0 : 0 ≤ i ∧ i < n
  · refine Ret.mono (drop_in b wb n ws i w h h0.1 h0.2) fun v w' hh => ⟨by rw [if_pos h0]; exact hh.1, _, hh.2.2, fun j => ?_, hh.2.1⟩
    rw [mem_dropW _ _ _ (h.slot (i := i.toNat) (by omega))]
    congr 2; exact decide_eq_decide.2 (by omega)
  · refine Ret.mono (drop_out b wb n ws i w h h0) fun v w' hh => ⟨by rw [if_neg h0]; exact hh.1, ws, hh.2 ▸ h, fun j => ?_, hh.2 ▸ Ch.refl _ _⟩
    rw [decide_eq_false (by omega)]; simp
theorem has_c (b wb n : Nat) (ws : List BV) (i : Int) (w : World) (h : IsSet w b wb n ws) : Sg.Ret Tryd.prog 9 #[.pointer (some ⟨b, 0, none⟩), .int .i64 i] w fun v w' => v = .bool (hasB ws i) ∧ Ch0 w w' :=
  Ret.mono (has_ok b wb n ws i w h) fun v w' hh => ⟨hh.1, hh.2.ch0⟩
theorem els_le (ws : List BV) (n : Nat) : (els ws n).length ≤ n := Nat.le_trans (List.length_filter_le _ _) (by simp)

theorem filled_ok (n : Nat) (a1 : Option Addr) (c1 : Nat) (l : List Int) (w : World) (h1 : Sl w (.slice a1 l.length c1) (l.map (Value.int .i64))) (hn : 0 < n) (hn2 : n ≤ 4096) (hl : l.length ≤ 9223372036854775807) :
    Sg.Ret Tryd.prog 13 #[.int .i64 (n : Int), .slice a1 l.length c1] w fun v w' => ∃ b wb ws, v = .pointer (some ⟨b, 0, none⟩) ∧ IsSet w' b wb n ws ∧ (∀ j, mem ws j = filB n l j) ∧ Ch0 w w' ∧ w.heap.size ≤ b ∧ w.heap.size ≤ wb := by
  refine enter1 (n := 32) (l := [.int .i64 (n : Int), .slice a1 l.length c1]) Tryd.func13 rfl rfl rfl rfl ?_
  refine W.g2 0 1 (v1 := .int .i64 (n : Int)) (v2 := .slice a1 l.length c1) rfl rfl ?_; intro σ s0 s1
  refine W.seq ?_
  refine W.region ?_
  refine WL.x (X.asg lc) rfl ?_
  refine WL.e2 Nx.thn 0 1 (lt rfl (s0)) (lt rfl (s1)) ?_
  intro σ1 s0 s1
  refine W.seq ?_
  refine W.region ?_
  refine WL.x (X.mv (s0)) rfl ?_
  refine WL.call1 ce7 (lh) (new_ok (n : Int) w) rfl ?_
  rintro v0 w1 ⟨hc0, hv0⟩
  rw [if_pos ⟨by omega, by omega⟩] at hv0
  obtain ⟨b, wb, rfl, hset0, hb, hwb⟩ := hv0
  simp only [Int.toNat_natCast] at hset0
  refine WL.x (X.mv (lh)) rfl ?_
  refine WL.x (X.ex2_0 (lh)) rfl ?_
  refine WL.x (X.ex2_1 (lt rfl (lh))) rfl ?_
  refine WL.x (X.asg (lt rfl (lh))) rfl ?_
  refine WL.x (X.asg (lt rfl (lh))) rfl ?_
  refine WL.e4 Nx.thn 0 1 5 6 (lt rfl (lt rfl (lt rfl (lt rfl (lt rfl (lt rfl (lt rfl (s0)))))))) (lt rfl (lt rfl (lt rfl (lt rfl (lt rfl (lt rfl (lt rfl (s1)))))))) (lt rfl (lh)) (lh) ?_
  intro σ2 s0 s1 s5 s6
  refine W.seq ?_
  refine W.seq ?_
  refine W.region ?_
  refine WL.x (X.mv (s6)) rfl ?_
  refine WL.x (X.neq (lh) lc) rfl ?_
  refine WL.e4 Nx.thn 0 1 5 15 (lt rfl (lt rfl (s0))) (lt rfl (lt rfl (s1))) (lt rfl (lt rfl (s5))) (lh) ?_
  intro σ3 s0 s1 s5 s15
  refine W.cndN s15 (by omega) ?_
  refine W.skip Nx.thn ?_
  refine W.seq ?_
  refine W.seq ?_
  refine W.region ?_
  refine WL.x (X.mv (s1)) rfl ?_
  refine WL.x (X.lenSl Tryd.underlying22 (lh)) rfl ?_
  refine WL.x (X.mv lc) rfl ?_
  refine WL.e5 Nx.thn 0 5 16 17 18 (lt rfl (lt rfl (lt rfl (s0)))) (lt rfl (lt rfl (lt rfl (s5)))) (lt rfl (lt rfl (lh))) (lt rfl (lh)) (lh) ?_
  intro σ4 s0 s5 s16 s17 s18
  refine W.block ?_
  have qo1 := s0
  have qo2 := s5
  have qo3 := s16
  have qo4 := s17
  -- loop 0: kept [0, 5, 16, 17], varied [18]
  refine W.loop (G := Nat) (fun k σ' w' => (σ' 0 = σ4 0 ∧ σ' 5 = σ4 5 ∧ σ' 16 = σ4 16 ∧ σ' 17 = σ4 17 ∧ True) ∧ (∃ ws, σ' 18 = .int .i64 (k : Int) ∧ k ≤ l.length ∧ IsSet w' b wb n ws ∧ (∀ j, mem ws j = filB n (l.take k) j) ∧ Ch0 w w')) (fun k => l.length - k) (0) ⟨⟨rfl, rfl, rfl, rfl, trivial⟩, _, s18, by omega, hset0, fun j => by rw [mem_replicate]; simp [filB], hc0⟩ ?_
  rintro k σ5 w2 ⟨⟨f0, f5, f16, f17, _⟩, ws, s18, hk, hset, hmem, hcl⟩
  have s0 := f0.trans qo1
  have s5 := f5.trans qo2
  have s16 := f16.trans qo3
  have s17 := f17.trans qo4
  refine W.seq ?_
  refine W.region ?_
  refine WL.x (X.lss (s18) (s17)) rfl ?_
  refine WL.e6 Nx.thn 0 5 16 17 18 19 (lt rfl (s0)) (lt rfl (s5)) (lt rfl (s16)) (lt rfl (s17)) (lt rfl (s18)) (lh) ?_
  intro σ6 s0 s5 s16 s17 s18 s19
  refine W.seq ?_
  refine W.cndp s19 (fun hlt => ?_) (fun hlt => ?_)
  · obtain ⟨bl, ol, csl, Tl, frl, rfl, hml, hgl⟩ := h1.geti (k := k) (by omega)
    have hml := hcl.at0 hml
    have hmd := Int.emod_nonneg (l.getD k 0 % 18446744073709551616) (b := (n : Int)) (by omega)
    have hmd2 := Int.emod_lt_of_pos (l.getD k 0 % 18446744073709551616) (b := (n : Int)) (by omega)
    refine W.skip Nx.thn ?_
    refine W.seq ?_
    refine W.block ?_
    refine W.seq ?_
    refine W.region ?_
    refine WL.x (X.indexAddr Tryd.underlying22 el3 (s16) (s18) (by omega) (by omega)) rfl ?_
    refine WL.x (X.load pl3 (lh) hml hgl) rfl ?_
    refine WL.x (X.asg (lh)) rfl ?_
    refine WL.e6 Nx.thn 0 5 8 16 17 18 (lt rfl (lt rfl (lt rfl (s0)))) (lt rfl (lt rfl (lt rfl (s5)))) (lh) (lt rfl (lt rfl (lt rfl (s16)))) (lt rfl (lt rfl (lt rfl (s17)))) (lt rfl (lt rfl (lt rfl (s18)))) ?_
    intro σ7 s0 s5 s8 s16 s17 s18
    refine W.region ?_
    refine WL.x (X.mv (s5)) rfl ?_
    refine WL.x (X.mv (lt rfl (s8))) rfl ?_
    first | refine WL.x (X.convi Tryd.underlying3 Tryd.underlying23 (lh) (wrap_u64_in (by omega) (by omega))) rfl ?_ | refine WL.x (X.convu Tryd.underlying3 Tryd.underlying23 (lh)) rfl ?_ | refine WL.x (X.conv Tryd.underlying3 Tryd.underlying23 (lh)) rfl ?_
    refine WL.x (X.mv (lt rfl (lt rfl (lt rfl (s0))))) rfl ?_
    first | refine WL.x (X.convi Tryd.underlying3 Tryd.underlying23 (lh) (wrap_u64_in (by omega) (by omega))) rfl ?_ | refine WL.x (X.convu Tryd.underlying3 Tryd.underlying23 (lh)) rfl ?_ | refine WL.x (X.conv Tryd.underlying3 Tryd.underlying23 (lh)) rfl ?_
    first | refine WL.x (X.rem (lt rfl (lt rfl (lh))) (lh) (by omega) (by omega)) rfl ?_ | refine WL.x (X.remw (lt rfl (lt rfl (lh))) (lh) (by omega)) rfl ?_
    first | refine WL.x (X.convi Tryd.underlying23 Tryd.underlying3 (lh) (wrap_i64 (by omega) (by omega))) rfl ?_ | refine WL.x (X.conv Tryd.underlying23 Tryd.underlying3 (lh)) rfl ?_
    refine WL.call2 ce8 (lt rfl (lt rfl (lt rfl (lt rfl (lt rfl (lt rfl (lh))))))) (lh) (add_ok b wb n ws _ w2 hset) rfl ?_
    rintro _ w3 ⟨rfl, ws2, hset2, hm2, ca⟩
    refine WL.e5 (Nx.blk Nx.thn) 0 5 16 17 18 (lt rfl (lt rfl (lt rfl (lt rfl (lt rfl (lt rfl (lt rfl (lt rfl (s0))))))))) (lt rfl (lt rfl (lt rfl (lt rfl (lt rfl (lt rfl (lt rfl (lt rfl (s5))))))))) (lt rfl (lt rfl (lt rfl (lt rfl (lt rfl (lt rfl (lt rfl (lt rfl (s16))))))))) (lt rfl (lt rfl (lt rfl (lt rfl (lt rfl (lt rfl (lt rfl (lt rfl (s17))))))))) (lt rfl (lt rfl (lt rfl (lt rfl (lt rfl (lt rfl (lt rfl (lt rfl (s18))))))))) ?_
    intro σ8 s0 s5 s16 s17 s18
    refine W.region ?_
    first | refine WL.x (X.add (s18) lc (by omega) (by omega)) rfl ?_ | refine WL.x (X.addw (s18) lc) rfl ?_
    refine WL.x (X.mv (lh)) rfl ?_
    refine WL.e5 Nx.thn 0 5 16 17 18 (lt rfl (lt rfl (s0))) (lt rfl (lt rfl (s5))) (lt rfl (lt rfl (s16))) (lt rfl (lt rfl (s17))) (lh) ?_
    intro σ9 s0 s5 s16 s17 s18
    refine ⟨k + 1, by omega, ⟨s0.trans qo1.symm, s5.trans qo2.symm, s16.trans qo3.symm, s17.trans qo4.symm, trivial⟩, ws2, s18, by omega, hset2, fun j => by rw [hm2, hmem, filB_succ hn (by omega)], hcl.trans ca (fun _ _ => id) (fun i hi e => by (try dsimp only at e); omega)⟩
  · refine W.exit (Nx.xthn (Nx.xthn (Nx.xblk Nx.thn))) ?_
    refine W.seq ?_
    refine W.region ?_
    refine WL.x (X.mv (s5)) rfl ?_
    refine WL.x (X.asg (lh)) rfl ?_
    refine WL.e1 Nx.thn 4 (lh) ?_
    intro σ10 s4
    refine W.ret1 Nx.f1 s4 ?_
    have hke : k = l.length := by omega
    subst hke
    exact ⟨b, wb, ws, rfl, hset, fun j => by rw [hmem, List.take_length], hcl, hb, hwb⟩

theorem els_drop {ws ws' : List BV} {q : Int} {n : Nat} (h0 : 0 ≤ q) (h1 : q < n) (h : ∀ j : Nat, mem ws' j = (mem ws j && !decide ((j : Int) = q ∧ q < n))) :
    (hasB ws q = true → (els ws n).length = (els ws' n).length + 1) ∧ (hasB ws q = false → (els ws n).length = (els ws' n).length) ∧ hasB ws' q = false := by
  have hh : hasB ws q = mem ws q.toNat := by simp [hasB, h0]
  have h' : ∀ j, mem ws' j = (mem ws j && !decide (j = q.toNat)) := fun j => by rw [h]; congr 2; exact decide_eq_decide.2 (by omega)
  refine ⟨fun e => cnt_drop _ _ q.toNat n (by omega) (hh ▸ e) h', fun e => ?_, ?_⟩
  · unfold els
    rw [show mem ws' = mem ws by
      funext j; rw [h']
      by_cases ej : j = q.toNat
      · rw [ej, ← hh, e]; rfl
      · rw [decide_eq_false ej]; simp]
  · unfold hasB; rw [h']; simp
theorem els_all {ws : List BV} {n : Nat} (h : ∀ j, mem ws j = decide (j < n)) : (els ws n).length = n := by
  unfold els
  rw [List.filter_eq_self.2 (fun a ha => by rw [h]; simpa using ha)]; simp
theorem edges_ok (a : Int) (a1 : Option Addr) (c1 : Nat) (l : List Int) (w : World) (h1 : Sl w (.slice a1 l.length c1) (l.map (Value.int .i64))) (hl : l.length ≤ 9223372036854775807) (htab : Tab w) (hb0 : 0 < w.heap.size) :
    Sg.Ret Tryd.prog 3 #[.int .i64 a, .slice a1 l.length c1] w fun v w' => v = .bool true ∧ Ch0 w w' := by
  obtain ⟨n, hn⟩ : ∃ n : Nat, 1 + a % 18446744073709551616 % 300 = (n : Int) := ⟨_, (Int.toNat_of_nonneg (by omega)).symm⟩
  have hn1 : 0 < n := by omega
  have hn2 : n ≤ 300 := by omega
  refine enter1 (n := 85) (l := [.int .i64 a, .slice a1 l.length c1]) Tryd.func3 rfl rfl rfl rfl ?_
  refine W.g2 0 1 (v1 := .int .i64 a) (v2 := .slice a1 l.length c1) rfl rfl ?_; intro σ s0 s1
  refine W.seq ?_
  refine W.region ?_
  refine WL.x (X.asg lc) rfl ?_
  refine WL.e2 Nx.thn 0 1 (lt rfl (s0)) (lt rfl (s1)) ?_
  intro σ1 s0 s1
  refine W.seq ?_
  refine W.region ?_
  refine WL.x (X.mv (s0)) rfl ?_
  first | refine WL.x (X.convi Tryd.underlying3 Tryd.underlying23 (lh) (wrap_u64_in (by omega) (by omega))) rfl ?_ | refine WL.x (X.convu Tryd.underlying3 Tryd.underlying23 (lh)) rfl ?_ | refine WL.x (X.conv Tryd.underlying3 Tryd.underlying23 (lh)) rfl ?_
  first | refine WL.x (X.rem (lh) lc (by omega) (by omega)) rfl ?_ | refine WL.x (X.remw (lh) lc (by omega)) rfl ?_
  first | refine WL.x (X.convi Tryd.underlying23 Tryd.underlying3 (lh) (wrap_i64 (by omega) (by omega))) rfl ?_ | refine WL.x (X.conv Tryd.underlying23 Tryd.underlying3 (lh)) rfl ?_
  refine WL.x (v := .int .i64 (n : Int)) (hn ▸ X.add lc (lh) (by omega) (by omega)) rfl ?_
  refine WL.x (X.asg (lh)) rfl ?_
  refine WL.e2 Nx.thn 0 1 (lh) (lt rfl (lt rfl (lt rfl (lt rfl (lt rfl (lt rfl (s1))))))) ?_
  intro σ2 s0 s1
  refine W.seq ?_
  refine W.region ?_
  refine WL.x (X.mv (s0)) rfl ?_
  refine WL.call1 ce7 (lh) (new_ok (n : Int) w) rfl ?_
  rintro v0 w1 ⟨hc0, hv0⟩
  rw [if_pos ⟨by omega, by omega⟩] at hv0
  obtain ⟨b, wb, rfl, hset0, hb, hwb⟩ := hv0
  simp only [Int.toNat_natCast] at hset0
  refine WL.x (X.mv (lh)) rfl ?_
  refine WL.x (X.ex2_0 (lh)) rfl ?_
  refine WL.x (X.ex2_1 (lt rfl (lh))) rfl ?_
  refine WL.x (X.asg (lt rfl (lh))) rfl ?_
  refine WL.x (X.asg (lt rfl (lh))) rfl ?_
  refine WL.e4 Nx.thn 0 1 5 6 (lt rfl (lt rfl (lt rfl (lt rfl (lt rfl (lt rfl (lt rfl (s0)))))))) (lt rfl (lt rfl (lt rfl (lt rfl (lt rfl (lt rfl (lt rfl (s1)))))))) (lt rfl (lh)) (lh) ?_
  intro σ3 s0 s1 s5 s6
  refine W.seq ?_
  refine W.seq ?_
  refine W.region ?_
  refine WL.x (X.mv (s6)) rfl ?_
  refine WL.x (X.neq (lh) lc) rfl ?_
  refine WL.e4 Nx.thn 0 1 5 23 (lt rfl (lt rfl (s0))) (lt rfl (lt rfl (s1))) (lt rfl (lt rfl (s5))) (lh) ?_
  intro σ4 s0 s1 s5 s23
  refine W.cndN s23 (by omega) ?_
  refine W.skip Nx.thn ?_
  refine W.seq ?_
  refine W.seq ?_
  refine W.region ?_
  refine WL.x (X.mv (s0)) rfl ?_
  refine WL.x (X.mv lc) rfl ?_
  refine WL.e5 Nx.thn 0 1 5 24 25 (lt rfl (lt rfl (s0))) (lt rfl (lt rfl (s1))) (lt rfl (lt rfl (s5))) (lt rfl (lh)) (lh) ?_
  intro σ5 s0 s1 s5 s24 s25
  refine W.block ?_
  have qo1 := s0
  have qo2 := s1
  have qo3 := s5
  have qo4 := s24
  -- loop 0: kept [0, 1, 5, 24], varied [25]
  refine W.loop (G := Nat) (fun k σ' w' => (σ' 0 = σ5 0 ∧ σ' 1 = σ5 1 ∧ σ' 5 = σ5 5 ∧ σ' 24 = σ5 24 ∧ True) ∧ (∃ ws, σ' 25 = .int .i64 (k : Int) ∧ k ≤ n ∧ IsSet w' b wb n ws ∧ (∀ j, mem ws j = decide (j < k)) ∧ Ch0 w w')) (fun k => n - k) (0) ⟨⟨rfl, rfl, rfl, rfl, trivial⟩, _, s25, by omega, hset0, fun j => by rw [mem_replicate]; simp, hc0⟩ ?_
  rintro k σ6 w2 ⟨⟨f0, f1, f5, f24, _⟩, ws, s25, hk, hset, hmem, hcl⟩
  have s0 := f0.trans qo1
  have s1 := f1.trans qo2
  have s5 := f5.trans qo3
  have s24 := f24.trans qo4
  refine W.seq ?_
  refine W.region ?_
  refine WL.x (X.lss (s25) (s24)) rfl ?_
  refine WL.e6 Nx.thn 0 1 5 24 25 26 (lt rfl (s0)) (lt rfl (s1)) (lt rfl (s5)) (lt rfl (s24)) (lt rfl (s25)) (lh) ?_
  intro σ7 s0 s1 s5 s24 s25 s26
  refine W.seq ?_
  refine W.cndp s26 (fun hlt => ?_) (fun hlt => ?_)
  · refine W.skip Nx.thn ?_
    refine W.seq ?_
    refine W.block ?_
    refine W.seq ?_
    refine W.region ?_
    refine WL.x (X.mv (s25)) rfl ?_
    refine WL.x (X.asg (lh)) rfl ?_
    refine WL.e6 Nx.thn 0 1 5 7 24 25 (lt rfl (lt rfl (s0))) (lt rfl (lt rfl (s1))) (lt rfl (lt rfl (s5))) (lh) (lt rfl (lt rfl (s24))) (lt rfl (lt rfl (s25))) ?_
    intro σ8 s0 s1 s5 s7 s24 s25
    refine W.region ?_
    refine WL.x (X.mv (s5)) rfl ?_
    refine WL.x (X.mv (lt rfl (s7))) rfl ?_
    refine WL.call2 ce8 (lt rfl (lh)) (lh) (add_ok b wb n ws _ w2 hset) rfl ?_
    rintro _ w3 ⟨rfl, ws2, hset2, hm2, ca⟩
    refine WL.e5 (Nx.blk Nx.thn) 0 1 5 24 25 (lt rfl (lt rfl (lt rfl (s0)))) (lt rfl (lt rfl (lt rfl (s1)))) (lt rfl (lt rfl (lt rfl (s5)))) (lt rfl (lt rfl (lt rfl (s24)))) (lt rfl (lt rfl (lt rfl (s25)))) ?_
    intro σ9 s0 s1 s5 s24 s25
    refine W.region ?_
    first | refine WL.x (X.add (s25) lc (by omega) (by omega)) rfl ?_ | refine WL.x (X.addw (s25) lc) rfl ?_
    refine WL.x (X.mv (lh)) rfl ?_
    refine WL.e5 Nx.thn 0 1 5 24 25 (lt rfl (lt rfl (s0))) (lt rfl (lt rfl (s1))) (lt rfl (lt rfl (s5))) (lt rfl (lt rfl (s24))) (lh) ?_
    intro σ10 s0 s1 s5 s24 s25
    refine ⟨k + 1, by omega, ⟨s0.trans qo1.symm, s1.trans qo2.symm, s5.trans qo3.symm, s24.trans qo4.symm, trivial⟩, ws2, s25, by omega, hset2, fun j => by rw [hm2, hmem, ← Bool.decide_or]; exact decide_eq_decide.2 (by omega), hcl.trans ca (fun _ _ => id) (fun i hi e => by (try dsimp only at e); omega)⟩
  · refine W.exit (Nx.xthn (Nx.xthn (Nx.xblk Nx.thn))) ?_
    refine W.seq ?_
    refine W.region ?_
    refine WL.x (X.mv (s0)) rfl ?_
    refine WL.x (X.asg (lh)) rfl ?_
    refine WL.e4 Nx.thn 0 1 5 8 (lt rfl (lt rfl (s0))) (lt rfl (lt rfl (s1))) (lt rfl (lt rfl (s5))) (lh) ?_
    intro σ11 s0 s1 s5 s8
    refine W.seq ?_
    refine W.seq ?_
    refine W.region ?_
    refine WL.x (X.mv (s1)) rfl ?_
    refine WL.x (X.lenSl Tryd.underlying22 (lh)) rfl ?_
    refine WL.x (X.mv lc) rfl ?_
    refine WL.e6 Nx.thn 0 5 8 33 34 35 (lt rfl (lt rfl (lt rfl (s0)))) (lt rfl (lt rfl (lt rfl (s5)))) (lt rfl (lt rfl (lt rfl (s8)))) (lt rfl (lt rfl (lh))) (lt rfl (lh)) (lh) ?_
    intro σ12 s0 s5 s8 s33 s34 s35
    refine W.block ?_
    have qo5 := s0
    have qo6 := s5
    have qo7 := s33
    have qo8 := s34
    -- loop 1: kept [0, 5, 33, 34], varied [8, 35]
    refine W.loop (G := Nat) (fun k σ' w' => (σ' 0 = σ12 0 ∧ σ' 5 = σ12 5 ∧ σ' 33 = σ12 33 ∧ σ' 34 = σ12 34 ∧ True) ∧ (∃ ws, σ' 35 = .int .i64 (k : Int) ∧ k ≤ l.length ∧ σ' 8 = .int .i64 ((els ws n).length : Int) ∧ IsSet w' b wb n ws ∧ Ch0 w w')) (fun k => l.length - k) (0) ⟨⟨rfl, rfl, rfl, rfl, trivial⟩, _, s35, by omega, by rw [els_all (fun j => by rw [hmem]; exact decide_eq_decide.2 (by omega))]; exact s8, hset, hcl⟩ ?_
    rintro k σ13 w4 ⟨⟨f0, f5, f33, f34, _⟩, ws, s35, hk, s8, hset, hcl⟩
    have s0 := f0.trans qo5
    have s5 := f5.trans qo6
    have s33 := f33.trans qo7
    have s34 := f34.trans qo8
    refine W.seq ?_
    refine W.region ?_
    refine WL.x (X.lss (s35) (s34)) rfl ?_
    refine WL.e7 Nx.thn 0 5 8 33 34 35 36 (lt rfl (s0)) (lt rfl (s5)) (lt rfl (s8)) (lt rfl (s33)) (lt rfl (s34)) (lt rfl (s35)) (lh) ?_
    intro σ14 s0 s5 s8 s33 s34 s35 s36
    refine W.seq ?_
    refine W.cndp s36 (fun hlt => ?_) (fun hlt => ?_)
    · obtain ⟨bl, ol, csl, Tl, frl, rfl, hml, hgl⟩ := h1.geti (k := k) (by omega)
      have hml := hcl.at0 hml
      have hmd := Int.emod_nonneg (l.getD k 0 % 18446744073709551616) (b := (n : Int)) (by omega)
      have hmd2 := Int.emod_lt_of_pos (l.getD k 0 % 18446744073709551616) (b := (n : Int)) (by omega)
      refine W.skip Nx.thn ?_
      refine W.seq ?_
      refine W.block ?_
      refine W.seq ?_
      refine W.region ?_
      refine WL.x (X.indexAddr Tryd.underlying22 el3 (s33) (s35) (by omega) (by omega)) rfl ?_
      refine WL.x (X.load pl3 (lh) hml hgl) rfl ?_
      refine WL.x (X.asg (lh)) rfl ?_
      refine WL.e7 Nx.thn 0 5 8 10 33 34 35 (lt rfl (lt rfl (lt rfl (s0)))) (lt rfl (lt rfl (lt rfl (s5)))) (lt rfl (lt rfl (lt rfl (s8)))) (lh) (lt rfl (lt rfl (lt rfl (s33)))) (lt rfl (lt rfl (lt rfl (s34)))) (lt rfl (lt rfl (lt rfl (s35)))) ?_
      intro σ15 s0 s5 s8 s10 s33 s34 s35
      refine W.seq ?_
      refine W.region ?_
      refine WL.x (X.mv (s10)) rfl ?_
      first | refine WL.x (X.convi Tryd.underlying3 Tryd.underlying23 (lh) (wrap_u64_in (by omega) (by omega))) rfl ?_ | refine WL.x (X.convu Tryd.underlying3 Tryd.underlying23 (lh)) rfl ?_ | refine WL.x (X.conv Tryd.underlying3 Tryd.underlying23 (lh)) rfl ?_
      refine WL.x (X.mv (lt rfl (lt rfl (s0)))) rfl ?_
      first | refine WL.x (X.convi Tryd.underlying3 Tryd.underlying23 (lh) (wrap_u64_in (by omega) (by omega))) rfl ?_ | refine WL.x (X.convu Tryd.underlying3 Tryd.underlying23 (lh)) rfl ?_ | refine WL.x (X.conv Tryd.underlying3 Tryd.underlying23 (lh)) rfl ?_
      first | refine WL.x (X.rem (lt rfl (lt rfl (lh))) (lh) (by omega) (by omega)) rfl ?_ | refine WL.x (X.remw (lt rfl (lt rfl (lh))) (lh) (by omega)) rfl ?_
      first | refine WL.x (X.convi Tryd.underlying23 Tryd.underlying3 (lh) (wrap_i64 (by omega) (by omega))) rfl ?_ | refine WL.x (X.conv Tryd.underlying23 Tryd.underlying3 (lh)) rfl ?_
      refine WL.x (X.asg (lh)) rfl ?_
      refine WL.e7 Nx.thn 0 5 8 11 33 34 35 (lt rfl (lt rfl (lt rfl (lt rfl (lt rfl (lt rfl (lt rfl (s0)))))))) (lt rfl (lt rfl (lt rfl (lt rfl (lt rfl (lt rfl (lt rfl (s5)))))))) (lt rfl (lt rfl (lt rfl (lt rfl (lt rfl (lt rfl (lt rfl (s8)))))))) (lh) (lt rfl (lt rfl (lt rfl (lt rfl (lt rfl (lt rfl (lt rfl (s33)))))))) (lt rfl (lt rfl (lt rfl (lt rfl (lt rfl (lt rfl (lt rfl (s34)))))))) (lt rfl (lt rfl (lt rfl (lt rfl (lt rfl (lt rfl (lt rfl (s35)))))))) ?_
      intro σ16 s0 s5 s8 s11 s33 s34 s35
      refine W.seq ?_
      refine W.seq ?_
      refine W.region ?_
      refine WL.x (X.mv (s5)) rfl ?_
      refine WL.x (X.mv (lt rfl (s11))) rfl ?_
      refine WL.call2 ce9 (lt rfl (lh)) (lh) (has_c b wb n ws _ w4 hset) rfl ?_
      rintro _ w5 ⟨rfl, cdr⟩
      have hsetd := hset.ch0 cdr
      have hel := els_le ws n
      refine WL.e8 Nx.thn 0 5 8 11 33 34 35 47 (lt rfl (lt rfl (lt rfl (s0)))) (lt rfl (lt rfl (lt rfl (s5)))) (lt rfl (lt rfl (lt rfl (s8)))) (lt rfl (lt rfl (lt rfl (s11)))) (lt rfl (lt rfl (lt rfl (s33)))) (lt rfl (lt rfl (lt rfl (s34)))) (lt rfl (lt rfl (lt rfl (s35)))) (lh) ?_
      intro σ17 s0 s5 s8 s11 s33 s34 s35 s47
      refine W.cnd s47 (fun hhas => ?_) (fun hhas => ?_)
      · refine W.region ?_
        refine WL.x (X.mv (s8)) rfl ?_
        first | refine WL.x (X.sub (lh) lc (by omega) (by omega)) rfl ?_ | refine WL.x (X.subw (lh) lc) rfl ?_
        refine WL.x (X.asg (lh)) rfl ?_
        refine WL.e7 Nx.thn 0 5 8 11 33 34 35 (lt rfl (lt rfl (lt rfl (s0)))) (lt rfl (lt rfl (lt rfl (s5)))) (lh) (lt rfl (lt rfl (lt rfl (s11)))) (lt rfl (lt rfl (lt rfl (s33)))) (lt rfl (lt rfl (lt rfl (s34)))) (lt rfl (lt rfl (lt rfl (s35)))) ?_
        intro σ18 s0 s5 s8 s11 s33 s34 s35
        refine W.seq ?_
        refine W.region ?_
        refine WL.x (X.mv (s5)) rfl ?_
        refine WL.x (X.mv (lt rfl (s11))) rfl ?_
        refine WL.call2 ce10 (lt rfl (lh)) (lh) (drop_ok b wb n ws _ w5 hsetd) rfl ?_
        rintro _ w6 ⟨rfl, ws2, hset2, hm2, ca⟩
        have hed := els_drop (by omega) (by omega) hm2
        have hed1 := hed.1 hhas
        refine WL.e7 Nx.thn 0 5 8 11 33 34 35 (lt rfl (lt rfl (lt rfl (s0)))) (lt rfl (lt rfl (lt rfl (s5)))) (lt rfl (lt rfl (lt rfl (s8)))) (lt rfl (lt rfl (lt rfl (s11)))) (lt rfl (lt rfl (lt rfl (s33)))) (lt rfl (lt rfl (lt rfl (s34)))) (lt rfl (lt rfl (lt rfl (s35)))) ?_
        intro σ19 s0 s5 s8 s11 s33 s34 s35
        refine W.seq ?_
        refine W.region ?_
        refine WL.x (X.mv (s5)) rfl ?_
        refine WL.x (X.mv (lt rfl (s11))) rfl ?_
        refine WL.call2 ce9 (lt rfl (lh)) (lh) (has_c b wb n ws2 _ w6 hset2) rfl ?_
        rintro _ w7 ⟨rfl, cdr2⟩
        have hset3 := hset2.ch0 cdr2
        refine WL.x (X.mv (lh)) rfl ?_
        refine WL.yes rfl rfl (lh) (hed.2.2) ?_
        refine WL.x (X.mv (lt rfl (lt rfl (lt rfl (lt rfl (s5)))))) rfl ?_
        refine WL.yes rfl rfl (lt rfl (lh)) (hed.2.2) ?_
        refine WL.call1 ce11 (lh) (count_ok b wb n ws2 w7 hset3) rfl ?_
        rintro _ _ ⟨rfl, rfl⟩
        refine WL.yes rfl rfl (lt rfl (lt rfl (lh))) (hed.2.2) ?_
        refine WL.x (X.mv (lt rfl (lt rfl (lt rfl (lt rfl (lt rfl (lt rfl (s8)))))))) rfl ?_
        refine WL.yes rfl rfl (lt rfl (lt rfl (lt rfl (lh)))) (hed.2.2) ?_
        refine WL.x (X.neq (lt rfl (lh)) (lh)) rfl ?_
        refine WL.x (X.pickF (lt rfl (lt rfl (lt rfl (lt rfl (lh))))) (hed.2.2) (lh)) rfl ?_
        refine WL.e7 Nx.thn 0 5 8 33 34 35 61 (lt rfl (lt rfl (lt rfl (lt rfl (lt rfl (lt rfl (lt rfl (lt rfl (lt rfl (s0)))))))))) (lt rfl (lt rfl (lt rfl (lt rfl (lt rfl (lt rfl (lt rfl (lt rfl (lt rfl (s5)))))))))) (lt rfl (lt rfl (lt rfl (lt rfl (lt rfl (lt rfl (lt rfl (lt rfl (lt rfl (s8)))))))))) (lt rfl (lt rfl (lt rfl (lt rfl (lt rfl (lt rfl (lt rfl (lt rfl (lt rfl (s33)))))))))) (lt rfl (lt rfl (lt rfl (lt rfl (lt rfl (lt rfl (lt rfl (lt rfl (lt rfl (s34)))))))))) (lt rfl (lt rfl (lt rfl (lt rfl (lt rfl (lt rfl (lt rfl (lt rfl (lt rfl (s35)))))))))) (lh) ?_
        intro σ20 s0 s5 s8 s33 s34 s35 s61
        refine W.cndN s61 (by omega) ?_
        refine W.skip (Nx.blk Nx.thn) ?_
        refine W.region ?_
        first | refine WL.x (X.add (s35) lc (by omega) (by omega)) rfl ?_ | refine WL.x (X.addw (s35) lc) rfl ?_
        refine WL.x (X.mv (lh)) rfl ?_
        refine WL.e6 Nx.thn 0 5 8 33 34 35 (lt rfl (lt rfl (s0))) (lt rfl (lt rfl (s5))) (lt rfl (lt rfl (s8))) (lt rfl (lt rfl (s33))) (lt rfl (lt rfl (s34))) (lh) ?_
        intro σ21 s0 s5 s8 s33 s34 s35
        refine ⟨k + 1, by omega, ⟨s0.trans qo5.symm, s5.trans qo6.symm, s33.trans qo7.symm, s34.trans qo8.symm, trivial⟩, ws2, s35, by omega, s8.trans (congrArg _ (by omega)), hset3, ((hcl.trans0 cdr).trans ca (fun _ _ => id) (fun i hi e => by (try dsimp only at e); omega)).trans0 cdr2⟩
      · refine W.skip Nx.thn ?_
        refine W.seq ?_
        refine W.region ?_
        refine WL.x (X.mv (s5)) rfl ?_
        refine WL.x (X.mv (lt rfl (s11))) rfl ?_
        refine WL.call2 ce10 (lt rfl (lh)) (lh) (drop_ok b wb n ws _ w5 hsetd) rfl ?_
        rintro _ w8 ⟨rfl, ws2, hset2, hm2, ca⟩
        have hed := els_drop (by omega) (by omega) hm2
        have hed1 := hed.2.1 hhas
        refine WL.e7 Nx.thn 0 5 8 11 33 34 35 (lt rfl (lt rfl (lt rfl (s0)))) (lt rfl (lt rfl (lt rfl (s5)))) (lt rfl (lt rfl (lt rfl (s8)))) (lt rfl (lt rfl (lt rfl (s11)))) (lt rfl (lt rfl (lt rfl (s33)))) (lt rfl (lt rfl (lt rfl (s34)))) (lt rfl (lt rfl (lt rfl (s35)))) ?_
        intro σ22 s0 s5 s8 s11 s33 s34 s35
        refine W.seq ?_
        refine W.region ?_
        refine WL.x (X.mv (s5)) rfl ?_
        refine WL.x (X.mv (lt rfl (s11))) rfl ?_
        refine WL.call2 ce9 (lt rfl (lh)) (lh) (has_c b wb n ws2 _ w8 hset2) rfl ?_
        rintro _ w9 ⟨rfl, cdr2⟩
        have hset3 := hset2.ch0 cdr2
        refine WL.x (X.mv (lh)) rfl ?_
        refine WL.yes rfl rfl (lh) (hed.2.2) ?_
        refine WL.x (X.mv (lt rfl (lt rfl (lt rfl (lt rfl (s5)))))) rfl ?_
        refine WL.yes rfl rfl (lt rfl (lh)) (hed.2.2) ?_
        refine WL.call1 ce11 (lh) (count_ok b wb n ws2 w9 hset3) rfl ?_
        rintro _ _ ⟨rfl, rfl⟩
        refine WL.yes rfl rfl (lt rfl (lt rfl (lh))) (hed.2.2) ?_
        refine WL.x (X.mv (lt rfl (lt rfl (lt rfl (lt rfl (lt rfl (lt rfl (s8)))))))) rfl ?_
        refine WL.yes rfl rfl (lt rfl (lt rfl (lt rfl (lh)))) (hed.2.2) ?_
        refine WL.x (X.neq (lt rfl (lh)) (lh)) rfl ?_
        refine WL.x (X.pickF (lt rfl (lt rfl (lt rfl (lt rfl (lh))))) (hed.2.2) (lh)) rfl ?_
        refine WL.e7 Nx.thn 0 5 8 33 34 35 61 (lt rfl (lt rfl (lt rfl (lt rfl (lt rfl (lt rfl (lt rfl (lt rfl (lt rfl (s0)))))))))) (lt rfl (lt rfl (lt rfl (lt rfl (lt rfl (lt rfl (lt rfl (lt rfl (lt rfl (s5)))))))))) (lt rfl (lt rfl (lt rfl (lt rfl (lt rfl (lt rfl (lt rfl (lt rfl (lt rfl (s8)))))))))) (lt rfl (lt rfl (lt rfl (lt rfl (lt rfl (lt rfl (lt rfl (lt rfl (lt rfl (s33)))))))))) (lt rfl (lt rfl (lt rfl (lt rfl (lt rfl (lt rfl (lt rfl (lt rfl (lt rfl (s34)))))))))) (lt rfl (lt rfl (lt rfl (lt rfl (lt rfl (lt rfl (lt rfl (lt rfl (lt rfl (s35)))))))))) (lh) ?_
        intro σ23 s0 s5 s8 s33 s34 s35 s61
        refine W.cndN s61 (by omega) ?_
        refine W.skip (Nx.blk Nx.thn) ?_
        refine W.region ?_
        first | refine WL.x (X.add (s35) lc (by omega) (by omega)) rfl ?_ | refine WL.x (X.addw (s35) lc) rfl ?_
        refine WL.x (X.mv (lh)) rfl ?_
        refine WL.e6 Nx.thn 0 5 8 33 34 35 (lt rfl (lt rfl (s0))) (lt rfl (lt rfl (s5))) (lt rfl (lt rfl (s8))) (lt rfl (lt rfl (s33))) (lt rfl (lt rfl (s34))) (lh) ?_
        intro σ24 s0 s5 s8 s33 s34 s35
        refine ⟨k + 1, by omega, ⟨s0.trans qo5.symm, s5.trans qo6.symm, s33.trans qo7.symm, s34.trans qo8.symm, trivial⟩, ws2, s35, by omega, s8.trans (congrArg _ (by omega)), hset3, ((hcl.trans0 cdr).trans ca (fun _ _ => id) (fun i hi e => by (try dsimp only at e); omega)).trans0 cdr2⟩
    · refine W.exit (Nx.xthn (Nx.xthn (Nx.xblk Nx.thn))) ?_
      refine W.seq ?_
      refine W.region ?_
      refine WL.x (X.mv (s5)) rfl ?_
      refine WL.x (X.mv (lt rfl (s0))) rfl ?_
      refine WL.call2 ce8 (lt rfl (lh)) (lh) (add_out b wb n ws (n : Int) w4 hset (by omega)) rfl ?_
      rintro _ _ ⟨rfl, rfl⟩
      refine WL.x (X.eql (lh) lc) rfl ?_
      refine WL.x (X.mv (lh)) rfl ?_
      refine WL.yes rfl rfl (lh) (decide_eq_true (rfl)) ?_
      refine WL.x (X.mv (lt rfl (lt rfl (lt rfl (lt rfl (lt rfl (s5))))))) rfl ?_
      refine WL.yes rfl rfl (lt rfl (lh)) (decide_eq_true (rfl)) ?_
      refine WL.call2 ce10 (lh) lc (drop_out b wb n ws (-1) w4 hset (by omega)) rfl ?_
      rintro _ _ ⟨rfl, rfl⟩
      refine WL.yes rfl rfl (lt rfl (lt rfl (lh))) (decide_eq_true (rfl)) ?_
      refine WL.x (X.eql (lh) lc) rfl ?_
      refine WL.x (X.pickT (lt rfl (lt rfl (lt rfl (lh)))) (decide_eq_true (rfl)) (lh)) rfl ?_
      refine WL.x (X.mv (lh)) rfl ?_
      refine WL.yes rfl rfl (lh) (decide_eq_true (rfl)) ?_
      refine WL.x (X.mv (lt rfl (lt rfl (lt rfl (lt rfl (lt rfl (lt rfl (lt rfl (lt rfl (lt rfl (lt rfl (s5)))))))))))) rfl ?_
      refine WL.yes rfl rfl (lt rfl (lh)) (decide_eq_true (rfl)) ?_
      refine WL.x (X.mv (lt rfl (lt rfl (lt rfl (lt rfl (lt rfl (lt rfl (lt rfl (lt rfl (lt rfl (lt rfl (lt rfl (s0))))))))))))) rfl ?_
      refine WL.yes rfl rfl (lt rfl (lt rfl (lh))) (decide_eq_true (rfl)) ?_
      refine WL.call2 ce9 (lt rfl (lh)) (lh) (has_out b wb n ws (n : Int) w4 hset (by omega)) rfl ?_
      rintro _ _ ⟨rfl, rfl⟩
      refine WL.yes rfl rfl (lt rfl (lt rfl (lt rfl (lh)))) (decide_eq_true (rfl)) ?_
      refine WL.x (X.not (lh)) rfl ?_
      refine WL.x (X.pickT (lt rfl (lt rfl (lt rfl (lt rfl (lh))))) (decide_eq_true (rfl)) (lh)) rfl ?_
      refine WL.x (X.mv (lh)) rfl ?_
      refine WL.yes rfl rfl (lh) (rfl) ?_
      refine WL.x (X.mv (lt rfl (lt rfl (lt rfl (lt rfl (lt rfl (lt rfl (lt rfl (lt rfl (lt rfl (lt rfl (lt rfl (lt rfl (lt rfl (lt rfl (lt rfl (lt rfl (s5)))))))))))))))))) rfl ?_
      refine WL.yes rfl rfl (lt rfl (lh)) (rfl) ?_
      refine WL.call1 ce12 (lh) (list_ok b wb n ws w4 hset (htab.ch0 hcl) (by have := hcl.size; omega)) rfl ?_
      rintro v8 w10 ⟨hown, hcf⟩
      obtain ⟨a9, c9, rfl⟩ := (Sl.own hown).len
      refine WL.yes rfl rfl (lt rfl (lt rfl (lh))) (rfl) ?_
      refine WL.x (X.lenSl Tryd.underlying22 (lh)) rfl ?_
      refine WL.yes rfl rfl (lt rfl (lt rfl (lt rfl (lh)))) (rfl) ?_
      refine WL.x (X.mv (lt rfl (lt rfl (lt rfl (lt rfl (lt rfl (lt rfl (lt rfl (lt rfl (lt rfl (lt rfl (lt rfl (lt rfl (lt rfl (lt rfl (lt rfl (lt rfl (lt rfl (lt rfl (lt rfl (s8))))))))))))))))))))) rfl ?_
      refine WL.yes rfl rfl (lt rfl (lt rfl (lt rfl (lt rfl (lh))))) (rfl) ?_
      refine WL.x (X.eql (lt rfl (lh)) (lh)) rfl ?_
      refine WL.x (X.pickT (lt rfl (lt rfl (lt rfl (lt rfl (lt rfl (lh)))))) (rfl) (lh)) rfl ?_
      refine WL.x (X.asg (lh)) rfl ?_
      refine WL.e1 Nx.thn 4 (lh) ?_
      intro σ25 s4
      refine W.ret1 Nx.f1 s4 ?_
      exact ⟨by rw [decide_eq_true (by simp [elv, els])], hcl.trans0 hcf⟩

theorem elv_no {p : Nat → Bool} {k : Nat} (h : p k = false) : elv p (k + 1) = elv p k := by
  unfold elv
  rw [List.range_succ, List.filter_append, List.map_append]
  simp [h]
def eli (ws : List BV) (n : Nat) : List Int := (els ws n).map fun (j : Nat) => (j : Int)
theorem elv_eli (ws : List BV) (n : Nat) : elv (mem ws) n = (eli ws n).map (Value.int .i64) := by simp [elv, eli, els]
theorem eli_len (ws : List BV) (n : Nat) : (eli ws n).length = (els ws n).length := by simp [eli]
theorem els_pre (ws : List BV) {p n : Nat} (h : p ≤ n) : ∃ r, els ws n = els ws p ++ r := by
  obtain ⟨d, rfl⟩ : ∃ d, n = p + d := ⟨n - p, by omega⟩
  unfold els
  rw [List.range_add, List.filter_append]
  exact ⟨_, rfl⟩
theorem els_next {ws : List BV} {n p k : Nat} (hc : ∀ i, n ≤ i → mem ws i = false) (hp : p ≤ n) (hpre : els ws p = (els ws n).take k) (hk : k < (eli ws n).length) {x : Int} {c : Bool} (hx : NextIs (mem ws) p x c) :
    c = true ∧ x = (eli ws n).getD k 0 ∧ ∃ q : Nat, x + 1 = q ∧ q ≤ n ∧ els ws q = (els ws n).take (k + 1) := by
  rw [eli_len] at hk
  have hkl : (els ws p).length = k := by rw [hpre, List.length_take]; omega
  rcases hx with ⟨j, rfl, rfl, hj, hpj, hno⟩ | ⟨_, _, hno⟩
  · have hjn : j < n := by
      rcases Nat.lt_or_ge j n with h' | h'
      · exact h'
      · rw [hc j h'] at hj; cases hj
    have h1 : els ws (j + 1) = els ws p ++ [j] := by
      unfold els
      rw [List.range_succ, List.filter_append, filter_range_lt (i := p) (j := j) (by omega) (fun m h1 h2 => hno m h1 (by omega))]
      simp [hj]
    obtain ⟨r, hr⟩ := els_pre ws (show j + 1 ≤ n by omega)
    rw [h1] at hr
    refine ⟨rfl, ?_, j + 1, rfl, by omega, ?_⟩
    · unfold eli
      rw [hr, List.getD_eq_getElem?_getD, List.getElem?_map, List.getElem?_append_left (by simp; omega), List.getElem?_append_right (by omega), hkl]
      simp
    · rw [hr, h1, ← hkl, List.take_append_of_le_length (by simp)]
      rw [List.take_of_length_le (by simp)]
  · have : els ws n = els ws p := filter_range_le hp (fun i hi => hno i (by omega))
    rw [this, hkl] at hk
    omega
theorem els_stop {ws : List BV} {n p : Nat} (hc : ∀ i, n ≤ i → mem ws i = false) (hpre : els ws p = els ws n) {x : Int} {c : Bool} (hx : NextIs (mem ws) p x c) : c = false := by
  rcases hx with ⟨j, rfl, rfl, hj, hpj, hno⟩ | ⟨_, h, _⟩
  · exfalso
    have hjn : j < n := by
      rcases Nat.lt_or_ge j n with h' | h'
      · exact h'
      · rw [hc j h'] at hj; cases hj
    have h1 : j ∈ els ws n := by unfold els; simp [hjn, hj]
    rw [← hpre] at h1
    unfold els at h1
    simp at h1
    omega
  · exact h
theorem goes_empty {ws : List BV} {n : Nat} {l : List Int} (hn : 0 < n) (h : ∀ j, mem ws j = filB n l j) : l.length = 0 ↔ (eli ws n).length = 0 := by
  rw [eli_len]
  constructor
  · intro e
    have : l = [] := List.eq_nil_of_length_eq_zero e
    subst this
    rw [List.length_eq_zero_iff]
    unfold els
    exact List.filter_eq_nil_iff.2 fun a _ => by rw [h]; simp [filB]
  · intro e
    rcases l with _ | ⟨i, l⟩
    · rfl
    · exfalso
      have h0 := Int.emod_nonneg (i % 18446744073709551616) (b := (n : Int)) (by omega)
      have h1 := Int.emod_lt_of_pos (i % 18446744073709551616) (b := (n : Int)) (by omega)
      have h2 : (i % 18446744073709551616 % (n : Int)).toNat ∈ els ws n := by
        unfold els
        refine List.mem_filter.2 ⟨List.mem_range.2 (by omega), ?_⟩
        rw [h]; unfold filB
        rw [List.any_cons, decide_eq_true (by omega)]; rfl
      rw [List.eq_nil_of_length_eq_zero e] at h2
      cases h2
theorem goes_ok (a : Int) (a1 : Option Addr) (c1 : Nat) (l : List Int) (w : World) (h1 : Sl w (.slice a1 l.length c1) (l.map (Value.int .i64))) (hl : l.length ≤ 9223372036854775807) (htab : Tab w) (hb0 : 0 < w.heap.size) :
    Sg.Ret Tryd.prog 4 #[.int .i64 a, .slice a1 l.length c1] w fun v w' => v = .bool true ∧ Ch0 w w' := by
  obtain ⟨n, hn⟩ : ∃ n : Nat, 1 + a % 18446744073709551616 % 200 = (n : Int) := ⟨_, (Int.toNat_of_nonneg (by omega)).symm⟩
  have hn1 : 0 < n := by omega
  have hn2 : n ≤ 200 := by omega
  refine enter1 (n := 95) (l := [.int .i64 a, .slice a1 l.length c1]) Tryd.func4 rfl rfl rfl rfl ?_
  refine W.g2 0 1 (v1 := .int .i64 a) (v2 := .slice a1 l.length c1) rfl rfl ?_; intro σ s0 s1
  refine W.seq ?_
  refine W.region ?_
  refine WL.x (X.asg lc) rfl ?_
  refine WL.e2 Nx.thn 0 1 (lt rfl (s0)) (lt rfl (s1)) ?_
  intro σ1 s0 s1
  refine W.seq ?_
  refine W.region ?_
  refine WL.x (X.mv (s0)) rfl ?_
  first | refine WL.x (X.convi Tryd.underlying3 Tryd.underlying23 (lh) (wrap_u64_in (by omega) (by omega))) rfl ?_ | refine WL.x (X.convu Tryd.underlying3 Tryd.underlying23 (lh)) rfl ?_ | refine WL.x (X.conv Tryd.underlying3 Tryd.underlying23 (lh)) rfl ?_
  first | refine WL.x (X.rem (lh) lc (by omega) (by omega)) rfl ?_ | refine WL.x (X.remw (lh) lc (by omega)) rfl ?_
  first | refine WL.x (X.convi Tryd.underlying23 Tryd.underlying3 (lh) (wrap_i64 (by omega) (by omega))) rfl ?_ | refine WL.x (X.conv Tryd.underlying23 Tryd.underlying3 (lh)) rfl ?_
  refine WL.x (v := .int .i64 (n : Int)) (hn ▸ X.add lc (lh) (by omega) (by omega)) rfl ?_
  refine WL.x (X.asg (lh)) rfl ?_
  refine WL.e2 Nx.thn 0 1 (lh) (lt rfl (lt rfl (lt rfl (lt rfl (lt rfl (lt rfl (s1))))))) ?_
  intro σ2 s0 s1
  refine W.seq ?_
  refine W.region ?_
  refine WL.x (X.mv (s0)) rfl ?_
  refine WL.x (X.mv (lt rfl (s1))) rfl ?_
  refine WL.call2 ce13 (lt rfl (lh)) (lh) (filled_ok n a1 c1 l w h1 hn1 (by omega) hl) rfl ?_
  rintro v0 w1 ⟨b, wb, ws, rfl, hset0, hmem, hc0, hb, hwb⟩
  obtain ⟨sz, hsz⟩ : ∃ sz, sz = w1.heap.size := ⟨_, rfl⟩
  have hsz0 := hc0.size
  have hb1 := hset0.ltb
  have hwb1 := hset0.ltw
  have hclean := hset0.clean
  have hels := els_le ws n
  have heln := eli_len ws n
  refine WL.x (X.asg (lh)) rfl ?_
  refine WL.e3 Nx.thn 0 1 5 (lt rfl (lt rfl (lt rfl (lt rfl (s0))))) (lt rfl (lt rfl (lt rfl (lt rfl (s1))))) (lh) ?_
  intro σ3 s0 s1 s5
  refine W.seq ?_
  refine W.seq ?_
  refine W.region ?_
  refine WL.x (X.mv (s5)) rfl ?_
  refine WL.x (X.eqlN Tryd.underlying24 (lh) lc) rfl ?_
  refine WL.x (X.mv (lh)) rfl ?_
  refine WL.yes rfl rfl (lh) (rfl) ?_
  refine WL.x (X.mv (lt rfl (lt rfl (lt rfl (s5))))) rfl ?_
  refine WL.yes rfl rfl (lt rfl (lh)) (rfl) ?_
  refine WL.call1 ce14 (lh) (bound_ok b wb n ws w1 hset0) rfl ?_
  rintro _ _ ⟨rfl, rfl⟩
  refine WL.yes rfl rfl (lt rfl (lt rfl (lh))) (rfl) ?_
  refine WL.x (X.mv (lt rfl (lt rfl (lt rfl (lt rfl (lt rfl (s0))))))) rfl ?_
  refine WL.yes rfl rfl (lt rfl (lt rfl (lt rfl (lh)))) (rfl) ?_
  refine WL.x (X.neq (lt rfl (lh)) (lh)) rfl ?_
  refine WL.x (X.pickF (lt rfl (lt rfl (lt rfl (lt rfl (lh))))) (rfl) (lh)) rfl ?_
  refine WL.e4 Nx.thn 0 1 5 30 (lt rfl (lt rfl (lt rfl (lt rfl (lt rfl (lt rfl (lt rfl (lt rfl (s0))))))))) (lt rfl (lt rfl (lt rfl (lt rfl (lt rfl (lt rfl (lt rfl (lt rfl (s1))))))))) (lt rfl (lt rfl (lt rfl (lt rfl (lt rfl (lt rfl (lt rfl (lt rfl (s5))))))))) (lh) ?_
  intro σ4 s0 s1 s5 s30
  refine W.cndN s30 (by omega) ?_
  refine W.skip Nx.thn ?_
  refine W.seq ?_
  refine W.region ?_
  refine WL.x (X.asg lc) rfl ?_
  refine WL.e4 Nx.thn 0 1 5 6 (lt rfl (s0)) (lt rfl (s1)) (lt rfl (s5)) (lh) ?_
  intro σ5 s0 s1 s5 s6
  refine W.seq ?_
  refine W.seq ?_
  refine W.region ?_
  refine WL.x (X.mv (s0)) rfl ?_
  refine WL.x (X.mv lc) rfl ?_
  refine WL.e5 Nx.thn 1 5 6 31 32 (lt rfl (lt rfl (s1))) (lt rfl (lt rfl (s5))) (lt rfl (lt rfl (s6))) (lt rfl (lh)) (lh) ?_
  intro σ6 s1 s5 s6 s31 s32
  refine W.block ?_
  have qo2 := s1
  have qo3 := s5
  have qo4 := s31
  -- loop 0: kept [1, 5, 31], varied [6, 32]
  refine W.loop (G := Nat) (fun k σ' w' => (σ' 1 = σ6 1 ∧ σ' 5 = σ6 5 ∧ σ' 31 = σ6 31 ∧ True) ∧ (∃ lv, σ' 32 = .int .i64 (k : Int) ∧ k ≤ n ∧ σ' 6 = lv ∧ w'.ownsRow sz 3 1 lv (elv (mem ws) k).length (elv (mem ws) k) ∧ IsSet w' b wb n ws ∧ sz ≤ w'.heap.size ∧ Ch0 w w')) (fun k => n - k) (0) ⟨⟨rfl, rfl, rfl, trivial⟩, _, s32, by omega, s6, World.ownsRow_nil _ _ _ _, hset0, by omega, hc0⟩ ?_
  rintro k σ7 w2 ⟨⟨f1, f5, f31, _⟩, lv, s32, hk, s6, hown, hset, hsw, hcl⟩
  have s1 := f1.trans qo2
  have s5 := f5.trans qo3
  have s31 := f31.trans qo4
  refine W.seq ?_
  refine W.region ?_
  refine WL.x (X.lss (s32) (s31)) rfl ?_
  refine WL.e6 Nx.thn 1 5 6 31 32 33 (lt rfl (s1)) (lt rfl (s5)) (lt rfl (s6)) (lt rfl (s31)) (lt rfl (s32)) (lh) ?_
  intro σ8 s1 s5 s6 s31 s32 s33
  refine W.seq ?_
  refine W.cndp s33 (fun hlt => ?_) (fun hlt => ?_)
  · refine W.skip Nx.thn ?_
    refine W.seq ?_
    refine W.block ?_
    refine W.seq ?_
    refine W.region ?_
    refine WL.x (X.mv (s32)) rfl ?_
    refine WL.x (X.asg (lh)) rfl ?_
    refine WL.e6 Nx.thn 1 5 6 7 31 32 (lt rfl (lt rfl (s1))) (lt rfl (lt rfl (s5))) (lt rfl (lt rfl (s6))) (lh) (lt rfl (lt rfl (s31))) (lt rfl (lt rfl (s32))) ?_
    intro σ9 s1 s5 s6 s7 s31 s32
    refine W.seq ?_
    refine W.region ?_
    refine WL.x (X.mv (s5)) rfl ?_
    refine WL.x (X.mv (lt rfl (s7))) rfl ?_
    refine WL.call2 ce9 (lt rfl (lh)) (lh) (has_c b wb n ws _ w2 hset) rfl ?_
    rintro _ w3 ⟨rfl, cdr⟩
    have hel := elv_len (mem ws) k
    have hown := own_ch hown cdr (fun _ _ => id)
    have hcz := cdr.size
    refine WL.e7 Nx.thn 1 5 6 7 31 32 37 (lt rfl (lt rfl (lt rfl (s1)))) (lt rfl (lt rfl (lt rfl (s5)))) (lt rfl (lt rfl (lt rfl (s6)))) (lt rfl (lt rfl (lt rfl (s7)))) (lt rfl (lt rfl (lt rfl (s31)))) (lt rfl (lt rfl (lt rfl (s32)))) (lh) ?_
    intro σ10 s1 s5 s6 s7 s31 s32 s37
    refine W.cnd s37 (fun hhas => ?_) (fun hhas => ?_)
    · refine W.region ?_
      refine WL.x (X.mv (s6)) rfl ?_
      refine WL.x (X.mv (lt rfl (s7))) rfl ?_
      refine WL.bslice Tryd.underlying22 el3 rfl (pcons (lh) pnil) rfl (rfl : _ = [_]) rfl ?_
      intro w4 u10_2; have hu10_2 := u10_2.at_; have cu10_2 := u10_2.ch; have zu10_2 := u10_2.size
      refine WL.append Tryd.underlying22 el3 rfl (by decide) (lt rfl (lt rfl (lh))) (lh) (own_ch hown cu10_2 (fun _ _ => id)) (by first | assumption | exact cu10_2.at0 (by assumption) | exact cu10_2.at0 (cdr.at0 (by assumption)) | exact cu10_2.at0 (cdr.at0 (hcl.at0 (by assumption))) | exact cu10_2.at0 (cdr.at0 (hcl.at0 (hc0.at0 (by assumption))))) rfl (by simp [Value.oneCell']) (by unfold maxLen; omega) (by omega) (by omega) rfl ?_
      intro va10_3 w5 ho10_3 ca10_3
      have hstep : Ch (fun j => sz ≤ j) _ w5 := (cdr.trans0 cu10_2).trans ca10_3 (F := fun _ => False) (H := fun j => sz ≤ j) (fun _ _ e => e.elim) (fun i hi e => (own_lt hown e).1)
      have hcn := hcl.trans hstep (H := fun _ => False) (fun _ _ e => e) (fun i hi e => by (try dsimp only at e); omega)
      have hsetn := hset.ch hstep (by (try dsimp only); omega) (by (try dsimp only); omega)
      refine WL.x (X.asg (lh)) rfl ?_
      refine WL.e5 (Nx.blk Nx.thn) 1 5 6 31 32 (lt rfl (lt rfl (lt rfl (lt rfl (lt rfl (s1)))))) (lt rfl (lt rfl (lt rfl (lt rfl (lt rfl (s5)))))) (lh) (lt rfl (lt rfl (lt rfl (lt rfl (lt rfl (s31)))))) (lt rfl (lt rfl (lt rfl (lt rfl (lt rfl (s32)))))) ?_
      intro σ11 s1 s5 s6 s31 s32
      refine W.region ?_
      first | refine WL.x (X.add (s32) lc (by omega) (by omega)) rfl ?_ | refine WL.x (X.addw (s32) lc) rfl ?_
      refine WL.x (X.mv (lh)) rfl ?_
      refine WL.e5 Nx.thn 1 5 6 31 32 (lt rfl (lt rfl (s1))) (lt rfl (lt rfl (s5))) (lt rfl (lt rfl (s6))) (lt rfl (lt rfl (s31))) (lh) ?_
      intro σ12 s1 s5 s6 s31 s32
      refine ⟨k + 1, by omega, ⟨s1.trans qo2.symm, s5.trans qo3.symm, s31.trans qo4.symm, trivial⟩, _, s32, by omega, s6, by rw [elv_succ_yes (Nat.le_refl k) (by simpa [hasB] using hhas) (fun m h1 h2 => absurd h1 (by omega)), List.length_append]; exact ho10_3, hsetn, Nat.le_trans hsw hstep.size, hcn⟩
    · refine W.skip (Nx.blk Nx.thn) ?_
      refine W.region ?_
      first | refine WL.x (X.add (s32) lc (by omega) (by omega)) rfl ?_ | refine WL.x (X.addw (s32) lc) rfl ?_
      refine WL.x (X.mv (lh)) rfl ?_
      refine WL.e5 Nx.thn 1 5 6 31 32 (lt rfl (lt rfl (s1))) (lt rfl (lt rfl (s5))) (lt rfl (lt rfl (s6))) (lt rfl (lt rfl (s31))) (lh) ?_
      intro σ13 s1 s5 s6 s31 s32
      refine ⟨k + 1, by omega, ⟨s1.trans qo2.symm, s5.trans qo3.symm, s31.trans qo4.symm, trivial⟩, _, s32, by omega, s6, by rw [elv_no (by simpa [hasB] using hhas)]; exact hown, hset.ch0 cdr, Nat.le_trans hsw cdr.size, hcl.trans0 cdr⟩
  · have hke : n = k := by omega
    subst hke
    have hsl := Sl.own hown
    rw [elv_eli] at hsl
    obtain ⟨a9, c9, rfl⟩ := hsl.len
    simp only [List.length_map] at hsl s6
    refine W.exit (Nx.xthn (Nx.xthn (Nx.xblk Nx.thn))) ?_
    refine W.seq ?_
    refine W.region ?_
    refine WL.x (X.asg lc) rfl ?_
    refine WL.e4 Nx.thn 1 5 6 8 (lt rfl (s1)) (lt rfl (s5)) (lt rfl (s6)) (lh) ?_
    intro σ14 s1 s5 s6 s8
    refine W.seq ?_
    refine W.seq ?_
    refine W.region ?_
    refine WL.x (X.mv (s6)) rfl ?_
    refine WL.x (X.lenSl Tryd.underlying22 (lh)) rfl ?_
    refine WL.x (X.mv lc) rfl ?_
    refine WL.e7 Nx.thn 1 5 6 8 43 44 45 (lt rfl (lt rfl (lt rfl (s1)))) (lt rfl (lt rfl (lt rfl (s5)))) (lt rfl (lt rfl (lt rfl (s6)))) (lt rfl (lt rfl (lt rfl (s8)))) (lt rfl (lt rfl (lh))) (lt rfl (lh)) (lh) ?_
    intro σ15 s1 s5 s6 s8 s43 s44 s45
    refine W.block ?_
    have qo5 := s1
    have qo6 := s5
    have qo7 := s6
    have qo8 := s43
    have qo9 := s44
    -- loop 1: kept [1, 5, 6, 43, 44], varied [8, 45]
    refine W.loop (G := Nat) (fun k σ' w' => (σ' 1 = σ15 1 ∧ σ' 5 = σ15 5 ∧ σ' 6 = σ15 6 ∧ σ' 43 = σ15 43 ∧ σ' 44 = σ15 44 ∧ True) ∧ w2 = w' ∧ (∃ p : Nat, σ' 45 = .int .i64 (k : Int) ∧ k ≤ (eli ws n).length ∧ σ' 8 = .int .i64 (p : Int) ∧ p ≤ n ∧ els ws p = (els ws n).take k)) (fun k => (eli ws n).length - k) (0) ⟨⟨rfl, rfl, rfl, rfl, rfl, trivial⟩, rfl, 0, s45, by omega, s8, by omega, by simp [els]⟩ ?_
    rintro k σ16 w6 ⟨⟨f1, f5, f6, f43, f44, _⟩, rfl, p, s45, hk, s8, hp, hpre⟩
    have s1 := f1.trans qo5
    have s5 := f5.trans qo6
    have s6 := f6.trans qo7
    have s43 := f43.trans qo8
    have s44 := f44.trans qo9
    refine W.seq ?_
    refine W.region ?_
    refine WL.x (X.lss (s45) (s44)) rfl ?_
    refine WL.e8 Nx.thn 1 5 6 8 43 44 45 46 (lt rfl (s1)) (lt rfl (s5)) (lt rfl (s6)) (lt rfl (s8)) (lt rfl (s43)) (lt rfl (s44)) (lt rfl (s45)) (lh) ?_
    intro σ17 s1 s5 s6 s8 s43 s44 s45 s46
    refine W.seq ?_
    refine W.cndp s46 (fun hlt => ?_) (fun hlt => ?_)
    · obtain ⟨bl, ol, csl, Tl, frl, rfl, hml, hgl⟩ := hsl.geti (k := k) (by omega)
      refine W.skip Nx.thn ?_
      refine W.seq ?_
      refine W.block ?_
      refine W.seq ?_
      refine W.region ?_
      refine WL.x (X.indexAddr Tryd.underlying22 el3 (s43) (s45) (by omega) (by omega)) rfl ?_
      refine WL.x (X.load pl3 (lh) hml hgl) rfl ?_
      refine WL.x (X.asg (lh)) rfl ?_
      refine WL.e8 Nx.thn 1 5 6 8 10 43 44 45 (lt rfl (lt rfl (lt rfl (s1)))) (lt rfl (lt rfl (lt rfl (s5)))) (lt rfl (lt rfl (lt rfl (s6)))) (lt rfl (lt rfl (lt rfl (s8)))) (lh) (lt rfl (lt rfl (lt rfl (s43)))) (lt rfl (lt rfl (lt rfl (s44)))) (lt rfl (lt rfl (lt rfl (s45)))) ?_
      intro σ18 s1 s5 s6 s8 s10 s43 s44 s45
      refine W.seq ?_
      refine W.region ?_
      refine WL.x (X.mv (s5)) rfl ?_
      refine WL.x (X.mv (lt rfl (s8))) rfl ?_
      refine WL.call2 ce15 (lt rfl (lh)) (lh) (next_ok b wb n ws _ w2 hset (htab.ch0 hcl) (by omega)) rfl ?_
      rintro v1 _ ⟨hnx, rfl⟩
      obtain ⟨x1, k1, rfl, hx1⟩ := hnx.pair
      obtain ⟨rfl, hx2, q, hq1, hq2, hq3⟩ := els_next hclean hp hpre (by omega) hx1
      refine WL.x (X.mv (lh)) rfl ?_
      refine WL.x (X.ex2_0 (lh)) rfl ?_
      refine WL.x (X.ex2_1 (lt rfl (lh))) rfl ?_
      refine WL.x (X.asg (lt rfl (lh))) rfl ?_
      refine WL.x (X.asg (lt rfl (lh))) rfl ?_
      refine WL.e9 Nx.thn 1 5 6 10 11 12 43 44 45 (lt rfl (lt rfl (lt rfl (lt rfl (lt rfl (lt rfl (lt rfl (lt rfl (s1))))))))) (lt rfl (lt rfl (lt rfl (lt rfl (lt rfl (lt rfl (lt rfl (lt rfl (s5))))))))) (lt rfl (lt rfl (lt rfl (lt rfl (lt rfl (lt rfl (lt rfl (lt rfl (s6))))))))) (lt rfl (lt rfl (lt rfl (lt rfl (lt rfl (lt rfl (lt rfl (lt rfl (s10))))))))) (lt rfl (lh)) (lh) (lt rfl (lt rfl (lt rfl (lt rfl (lt rfl (lt rfl (lt rfl (lt rfl (s43))))))))) (lt rfl (lt rfl (lt rfl (lt rfl (lt rfl (lt rfl (lt rfl (lt rfl (s44))))))))) (lt rfl (lt rfl (lt rfl (lt rfl (lt rfl (lt rfl (lt rfl (lt rfl (s45))))))))) ?_
      intro σ19 s1 s5 s6 s10 s11 s12 s43 s44 s45
      refine W.seq ?_
      refine W.seq ?_
      refine W.region ?_
      refine WL.x (X.mv (s12)) rfl ?_
      refine WL.x (X.not (lh)) rfl ?_
      refine WL.x (X.mv (lh)) rfl ?_
      refine WL.yes rfl rfl (lh) (rfl) ?_
      refine WL.x (X.mv (lt rfl (lt rfl (lt rfl (s11))))) rfl ?_
      refine WL.yes rfl rfl (lt rfl (lh)) (rfl) ?_
      refine WL.x (X.mv (lt rfl (lt rfl (lt rfl (lt rfl (s10)))))) rfl ?_
      refine WL.yes rfl rfl (lt rfl (lt rfl (lh))) (rfl) ?_
      refine WL.x (X.neq (lt rfl (lh)) (lh)) rfl ?_
      refine WL.x (X.pickF (lt rfl (lt rfl (lt rfl (lh)))) (rfl) (lh)) rfl ?_
      refine WL.e8 Nx.thn 1 5 6 11 43 44 45 61 (lt rfl (lt rfl (lt rfl (lt rfl (lt rfl (lt rfl (lt rfl (s1)))))))) (lt rfl (lt rfl (lt rfl (lt rfl (lt rfl (lt rfl (lt rfl (s5)))))))) (lt rfl (lt rfl (lt rfl (lt rfl (lt rfl (lt rfl (lt rfl (s6)))))))) (lt rfl (lt rfl (lt rfl (lt rfl (lt rfl (lt rfl (lt rfl (s11)))))))) (lt rfl (lt rfl (lt rfl (lt rfl (lt rfl (lt rfl (lt rfl (s43)))))))) (lt rfl (lt rfl (lt rfl (lt rfl (lt rfl (lt rfl (lt rfl (s44)))))))) (lt rfl (lt rfl (lt rfl (lt rfl (lt rfl (lt rfl (lt rfl (s45)))))))) (lh) ?_
      intro σ20 s1 s5 s6 s11 s43 s44 s45 s61
      refine W.cndN s61 (by omega) ?_
      refine W.skip Nx.thn ?_
      refine W.region ?_
      refine WL.x (X.mv (s11)) rfl ?_
      first | refine WL.x (X.add (lh) lc (by omega) (by omega)) rfl ?_ | refine WL.x (X.addw (lh) lc) rfl ?_
      refine WL.x (X.asg (lh)) rfl ?_
      refine WL.e7 (Nx.blk Nx.thn) 1 5 6 8 43 44 45 (lt rfl (lt rfl (lt rfl (s1)))) (lt rfl (lt rfl (lt rfl (s5)))) (lt rfl (lt rfl (lt rfl (s6)))) (lh) (lt rfl (lt rfl (lt rfl (s43)))) (lt rfl (lt rfl (lt rfl (s44)))) (lt rfl (lt rfl (lt rfl (s45)))) ?_
      intro σ21 s1 s5 s6 s8 s43 s44 s45
      refine W.region ?_
      first | refine WL.x (X.add (s45) lc (by omega) (by omega)) rfl ?_ | refine WL.x (X.addw (s45) lc) rfl ?_
      refine WL.x (X.mv (lh)) rfl ?_
      refine WL.e7 Nx.thn 1 5 6 8 43 44 45 (lt rfl (lt rfl (s1))) (lt rfl (lt rfl (s5))) (lt rfl (lt rfl (s6))) (lt rfl (lt rfl (s8))) (lt rfl (lt rfl (s43))) (lt rfl (lt rfl (s44))) (lh) ?_
      intro σ22 s1 s5 s6 s8 s43 s44 s45
      refine ⟨k + 1, by omega, ⟨s1.trans qo5.symm, s5.trans qo6.symm, s6.trans qo7.symm, s43.trans qo8.symm, s44.trans qo9.symm, trivial⟩, rfl, q, s45, by omega, s8.trans (congrArg _ hq1), hq2, hq3⟩
    · refine W.exit (Nx.xthn (Nx.xthn (Nx.xblk Nx.thn))) ?_
      refine W.seq ?_
      refine W.region ?_
      refine WL.x (X.mv (s5)) rfl ?_
      refine WL.x (X.mv (lt rfl (s8))) rfl ?_
      refine WL.call2 ce15 (lt rfl (lh)) (lh) (next_ok b wb n ws _ w2 hset (htab.ch0 hcl) (by omega)) rfl ?_
      rintro v1 _ ⟨hnx, rfl⟩
      obtain ⟨x1, k1, rfl, hx1⟩ := hnx.pair
      have hk1 := els_stop hclean (by rw [hpre, List.take_of_length_le (by omega)]) hx1
      subst hk1
      refine WL.x (X.mv (lh)) rfl ?_
      refine WL.x (X.ex2_0 (lh)) rfl ?_
      refine WL.x (X.ex2_1 (lt rfl (lh))) rfl ?_
      refine WL.x (X.asg (lt rfl (lh))) rfl ?_
      refine WL.x (X.asg (lt rfl (lh))) rfl ?_
      refine WL.e4 Nx.thn 1 5 6 14 (lt rfl (lt rfl (lt rfl (lt rfl (lt rfl (lt rfl (lt rfl (lt rfl (s1))))))))) (lt rfl (lt rfl (lt rfl (lt rfl (lt rfl (lt rfl (lt rfl (lt rfl (s5))))))))) (lt rfl (lt rfl (lt rfl (lt rfl (lt rfl (lt rfl (lt rfl (lt rfl (s6))))))))) (lh) ?_
      intro σ23 s1 s5 s6 s14
      refine W.seq ?_
      refine W.region ?_
      refine WL.x (X.mv (s14)) rfl ?_
      refine WL.x (X.not (lh)) rfl ?_
      refine WL.x (X.mv (lh)) rfl ?_
      refine WL.yes rfl rfl (lh) (rfl) ?_
      refine WL.x (X.mv (lt rfl (lt rfl (lt rfl (s5))))) rfl ?_
      refine WL.yes rfl rfl (lt rfl (lh)) (rfl) ?_
      refine WL.call1 ce12 (lh) (list_ok b wb n ws w2 hset (htab.ch0 hcl) (by have := hcl.size; omega)) rfl ?_
      rintro v8 w7 ⟨hown2, hcf⟩
      refine WL.yes rfl rfl (lt rfl (lt rfl (lh))) (rfl) ?_
      refine WL.x (X.mv (lt rfl (lt rfl (lt rfl (lt rfl (lt rfl (s6))))))) rfl ?_
      refine WL.yes rfl rfl (lt rfl (lt rfl (lt rfl (lh)))) (rfl) ?_
      refine WL.call2 ce16 (lt rfl (lh)) (lh) (eqi_ok _ _ (eli ws n) (eli ws n) w7 (by rw [← elv_eli]; exact Sl.own hown2) (hsl.ch0 hcf) (by omega)) rfl ?_
      rintro _ w8 ⟨rfl, hdr4⟩
      refine WL.x (X.pickT (lt rfl (lt rfl (lt rfl (lt rfl (lh))))) (rfl) (lh)) rfl ?_
      refine WL.x (X.mv (lh)) rfl ?_
      refine WL.yes rfl rfl (lh) (decide_eq_true rfl) ?_
      refine WL.x (X.mv (lt rfl (lt rfl (lt rfl (lt rfl (lt rfl (lt rfl (lt rfl (lt rfl (lt rfl (s5))))))))))) rfl ?_
      refine WL.yes rfl rfl (lt rfl (lh)) (decide_eq_true rfl) ?_
      refine WL.call1 ce11 (lh) (count_ok b wb n ws w8 ((hset.ch0 hcf).dr hdr4)) rfl ?_
      rintro _ _ ⟨rfl, rfl⟩
      refine WL.yes rfl rfl (lt rfl (lt rfl (lh))) (decide_eq_true rfl) ?_
      refine WL.x (X.mv (lt rfl (lt rfl (lt rfl (lt rfl (lt rfl (lt rfl (lt rfl (lt rfl (lt rfl (lt rfl (lt rfl (s6))))))))))))) rfl ?_
      refine WL.yes rfl rfl (lt rfl (lt rfl (lt rfl (lh)))) (decide_eq_true rfl) ?_
      refine WL.x (X.lenSl Tryd.underlying22 (lh)) rfl ?_
      refine WL.yes rfl rfl (lt rfl (lt rfl (lt rfl (lt rfl (lh))))) (decide_eq_true rfl) ?_
      refine WL.x (X.eql (lt rfl (lt rfl (lh))) (lh)) rfl ?_
      refine WL.x (X.pickT (lt rfl (lt rfl (lt rfl (lt rfl (lt rfl (lh)))))) (decide_eq_true rfl) (lh)) rfl ?_
      refine WL.x (X.mv (lh)) rfl ?_
      refine WL.yes rfl rfl (lh) (decide_eq_true (by omega)) ?_
      refine WL.x (X.mv (lt rfl (lt rfl (lt rfl (lt rfl (lt rfl (lt rfl (lt rfl (lt rfl (lt rfl (lt rfl (lt rfl (lt rfl (lt rfl (lt rfl (lt rfl (lt rfl (s1)))))))))))))))))) rfl ?_
      refine WL.yes rfl rfl (lt rfl (lh)) (decide_eq_true (by omega)) ?_
      refine WL.x (X.lenSl Tryd.underlying22 (lh)) rfl ?_
      refine WL.yes rfl rfl (lt rfl (lt rfl (lh))) (decide_eq_true (by omega)) ?_
      refine WL.x (X.eql (lh) lc) rfl ?_
      refine WL.yes rfl rfl (lt rfl (lt rfl (lt rfl (lh)))) (decide_eq_true (by omega)) ?_
      refine WL.x (X.mv (lt rfl (lt rfl (lt rfl (lt rfl (lt rfl (lt rfl (lt rfl (lt rfl (lt rfl (lt rfl (lt rfl (lt rfl (lt rfl (lt rfl (lt rfl (lt rfl (lt rfl (lt rfl (lt rfl (s6))))))))))))))))))))) rfl ?_
      refine WL.yes rfl rfl (lt rfl (lt rfl (lt rfl (lt rfl (lh))))) (decide_eq_true (by omega)) ?_
      refine WL.x (X.lenSl Tryd.underlying22 (lh)) rfl ?_
      refine WL.yes rfl rfl (lt rfl (lt rfl (lt rfl (lt rfl (lt rfl (lh)))))) (decide_eq_true (by omega)) ?_
      refine WL.x (X.eql (lh) lc) rfl ?_
      refine WL.yes rfl rfl (lt rfl (lt rfl (lt rfl (lt rfl (lt rfl (lt rfl (lh))))))) (decide_eq_true (by omega)) ?_
      refine WL.x (X.eqlB Tryd.underlying4 (lt rfl (lt rfl (lt rfl (lh)))) (lh)) rfl ?_
      refine WL.x (X.pickT (lt rfl (lt rfl (lt rfl (lt rfl (lt rfl (lt rfl (lt rfl (lh)))))))) (decide_eq_true (by omega)) (lh)) rfl ?_
      refine WL.x (X.asg (lh)) rfl ?_
      refine WL.e1 Nx.thn 4 (lh) ?_
      intro σ24 s4
      refine W.ret1 Nx.f1 s4 ?_
      exact ⟨congrArg Value.bool (decide_eq_true (decide_eq_decide.2 (by have := goes_empty hn1 hmem; omega))), (hcl.trans0 hcf).trans0 hdr4.ch0⟩
end Go.Proofs.YtbnnogbmmbkedaaDoor
