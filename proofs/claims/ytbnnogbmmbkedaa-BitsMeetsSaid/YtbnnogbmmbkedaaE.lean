/-
  A part of the walk of the program.
-/
import Derived.Test.YtbnnogbmmbkedaaD
import Derived.Test.YtbnnogbmmbkedaaLists
set_option linter.unusedVariables false
set_option linter.unusedSimpArgs false
set_option maxRecDepth 100000
namespace Go.Proofs.Ytbnnogbmmbkedaa
open Go Go.RowKit Sg

theorem add_ok (b wb n : Nat) (ws : List BV) (i : Int) (w : World) (h : IsSet w b wb n ws) : Sg.Ret Try.prog 12 #[.pointer (some ⟨b, 0, none⟩), .int .i64 i] w
    fun v w' => v = .int .i64 (if 0 ≤ i ∧ i < n then 0 else 1) ∧ ∃ ws', IsSet w' b wb n ws' ∧ (∀ j : Nat, mem ws' j = (decide ((j : Int) = i ∧ i < n) || mem ws j)) ∧ Ch (fun k => k = wb) w w' := by
  by_cases h0 : 0 ≤ i ∧ i < n
  · refine Ret.mono (add_in b wb n ws i w h h0.1 h0.2) fun v w' hh => ⟨by rw [if_pos h0]; exact hh.1, _, hh.2.2, fun j => ?_, hh.2.1⟩
    rw [mem_addW _ _ _ (h.slot (i := i.toNat) (by omega))]
    congr 1; exact decide_eq_decide.2 (by omega)
  · refine Ret.mono (add_out b wb n ws i w h h0) fun v w' hh => ⟨by rw [if_neg h0]; exact hh.1, ws, hh.2 ▸ h, fun j => ?_, hh.2 ▸ Ch.refl _ _⟩
    rw [decide_eq_false (by omega)]; simp
/-- Which numbers are in a set that was filled with the numbers of l, each one cut. -/
def filB (n : Nat) (l : List Int) (j : Nat) : Bool := l.any fun i => decide ((j : Int) = i % 18446744073709551616 % n)
theorem filB_succ {n : Nat} {l : List Int} {k : Nat} (hn : 0 < n) (hk : k < l.length) (j : Nat) :
    filB n (l.take (k + 1)) j = (decide ((j : Int) = l.getD k 0 % 18446744073709551616 % n ∧ l.getD k 0 % 18446744073709551616 % n < n) || filB n (l.take k) j) := by
  unfold filB
  have h2 : l.getD k 0 % 18446744073709551616 % (n : Int) < n := Int.emod_lt_of_pos _ (by omega)
  rw [List.take_succ_eq_append_getElem hk, List.any_append, Bool.or_comm]
  simp only [h2, and_true]
  simp [List.getD_eq_getElem?_getD, List.getElem?_eq_getElem hk]

theorem filled_ok (n : Nat) (a1 : Option Addr) (c1 : Nat) (l : List Int) (w : World) (h1 : Sl w (.slice a1 l.length c1) (l.map (Value.int .i64))) (hn : 0 < n) (hn2 : n ≤ 4096) (hl : l.length ≤ 9223372036854775807) :
    Sg.Ret Try.prog 4 #[.int .i64 (n : Int), .slice a1 l.length c1] w fun v w' => ∃ b wb ws, v = .pointer (some ⟨b, 0, none⟩) ∧ IsSet w' b wb n ws ∧ (∀ j, mem ws j = filB n l j) ∧ Ch0 w w' ∧ w.heap.size ≤ b ∧ w.heap.size ≤ wb := by
  refine enter1 (n := 32) (l := [.int .i64 (n : Int), .slice a1 l.length c1]) Try.func4 rfl rfl rfl rfl ?_
  refine W.g2 0 1 (v1 := .int .i64 (n : Int)) (v2 := .slice a1 l.length c1) rfl rfl ?_; intro σ s0 s1
  refine W.seq ?_
  refine W.region ?_
  refine WL.x (X.asg lc) rfl ?_
  refine WL.e2 Nx.thn 0 1 (lt rfl (s0)) (lt rfl (s1)) ?_
  intro σ1 s0 s1
  refine W.seq ?_
  refine W.region ?_
  refine WL.x (X.mv (s0)) rfl ?_
  refine WL.call1 ce11 (lh) (new_ok (n : Int) w) rfl ?_
  rintro v0 w1 ⟨hc0, hv0⟩
  rw [if_pos ⟨by omega, by omega⟩] at hv0
  obtain ⟨b, wb, rfl, hset0, hb, hwb⟩ := hv0
  simp only [Int.toNat_natCast] at hset0
  refine WL.x (X.mv (lh)) rfl ?_
  refine WL.x (X.ex2_0 (lh)) rfl ?_
  refine WL.x (X.ex2_1 (lt rfl (lh))) rfl ?_
  refine WL.x (X.asg (lt rfl (lh))) rfl ?_
  refine WL.x (X.asg (lt rfl (lh))) rfl ?_
  refine WL.e4 Nx.thn 0 1 5 6 (lt rfl (lt rfl (lt rfl (lt rfl (lt rfl (lt rfl (lt rfl (s0)))))))) (lt rfl (lt rfl (lt rfl (lt rfl (lt rfl (lt rfl (lt rfl (s1)))))))) (lt rfl (lh)) (lh) ?_
  intro σ2 s0 s1 s5 s6
  refine W.seq ?_
  refine W.seq ?_
  refine W.region ?_
  refine WL.x (X.mv (s6)) rfl ?_
  refine WL.x (X.neq (lh) lc) rfl ?_
  refine WL.e4 Nx.thn 0 1 5 15 (lt rfl (lt rfl (s0))) (lt rfl (lt rfl (s1))) (lt rfl (lt rfl (s5))) (lh) ?_
  intro σ3 s0 s1 s5 s15
  refine W.cndN s15 (by omega) ?_
  refine W.skip Nx.thn ?_
  refine W.seq ?_
  refine W.seq ?_
  refine W.region ?_
  refine WL.x (X.mv (s1)) rfl ?_
  refine WL.x (X.lenSl Try.underlying22 (lh)) rfl ?_
  refine WL.x (X.mv lc) rfl ?_
  refine WL.e5 Nx.thn 0 5 16 17 18 (lt rfl (lt rfl (lt rfl (s0)))) (lt rfl (lt rfl (lt rfl (s5)))) (lt rfl (lt rfl (lh))) (lt rfl (lh)) (lh) ?_
  intro σ4 s0 s5 s16 s17 s18
  refine W.block ?_
  have qo1 := s0
  have qo2 := s5
  have qo3 := s16
  have qo4 := s17
  -- loop 0: kept [0, 5, 16, 17], varied [18]
  refine W.loop (G := Nat) (fun k σ' w' => (σ' 0 = σ4 0 ∧ σ' 5 = σ4 5 ∧ σ' 16 = σ4 16 ∧ σ' 17 = σ4 17 ∧ True) ∧ (∃ ws, σ' 18 = .int .i64 (k : Int) ∧ k ≤ l.length ∧ IsSet w' b wb n ws ∧ (∀ j, mem ws j = filB n (l.take k) j) ∧ Ch0 w w')) (fun k => l.length - k) (0) ⟨⟨rfl, rfl, rfl, rfl, trivial⟩, _, s18, by omega, hset0, fun j => by rw [mem_replicate]; simp [filB], hc0⟩ ?_
  rintro k σ5 w2 ⟨⟨f0, f5, f16, f17, _⟩, ws, s18, hk, hset, hmem, hcl⟩
  have s0 := f0.trans qo1
  have s5 := f5.trans qo2
  have s16 := f16.trans qo3
  have s17 := f17.trans qo4
  refine W.seq ?_
  refine W.region ?_
  refine WL.x (X.lss (s18) (s17)) rfl ?_
  refine WL.e6 Nx.thn 0 5 16 17 18 19 (lt rfl (s0)) (lt rfl (s5)) (lt rfl (s16)) (lt rfl (s17)) (lt rfl (s18)) (lh) ?_
  intro σ6 s0 s5 s16 s17 s18 s19
  refine W.seq ?_
  refine W.cndp s19 (fun hlt => ?_) (fun hlt => ?_)
  · obtain ⟨bl, ol, csl, Tl, frl, rfl, hml, hgl⟩ := h1.geti (k := k) (by omega)
    have hml := hcl.at0 hml
    have hmd := Int.emod_nonneg (l.getD k 0 % 18446744073709551616) (b := (n : Int)) (by omega)
    have hmd2 := Int.emod_lt_of_pos (l.getD k 0 % 18446744073709551616) (b := (n : Int)) (by omega)
    refine W.skip Nx.thn ?_
    refine W.seq ?_
    refine W.block ?_
    refine W.seq ?_
    refine W.region ?_
    refine WL.x (X.indexAddr Try.underlying22 el3 (s16) (s18) (by omega) (by omega)) rfl ?_
    refine WL.x (X.load pl3 (lh) hml hgl) rfl ?_
    refine WL.x (X.asg (lh)) rfl ?_
    refine WL.e6 Nx.thn 0 5 8 16 17 18 (lt rfl (lt rfl (lt rfl (s0)))) (lt rfl (lt rfl (lt rfl (s5)))) (lh) (lt rfl (lt rfl (lt rfl (s16)))) (lt rfl (lt rfl (lt rfl (s17)))) (lt rfl (lt rfl (lt rfl (s18)))) ?_
    intro σ7 s0 s5 s8 s16 s17 s18
    refine W.region ?_
    refine WL.x (X.mv (s5)) rfl ?_
    refine WL.x (X.mv (lt rfl (s8))) rfl ?_
    first | refine WL.x (X.convi Try.underlying3 Try.underlying23 (lh) (wrap_u64_in (by omega) (by omega))) rfl ?_ | refine WL.x (X.convu Try.underlying3 Try.underlying23 (lh)) rfl ?_ | refine WL.x (X.conv Try.underlying3 Try.underlying23 (lh)) rfl ?_
    refine WL.x (X.mv (lt rfl (lt rfl (lt rfl (s0))))) rfl ?_
    first | refine WL.x (X.convi Try.underlying3 Try.underlying23 (lh) (wrap_u64_in (by omega) (by omega))) rfl ?_ | refine WL.x (X.convu Try.underlying3 Try.underlying23 (lh)) rfl ?_ | refine WL.x (X.conv Try.underlying3 Try.underlying23 (lh)) rfl ?_
    first | refine WL.x (X.rem (lt rfl (lt rfl (lh))) (lh) (by omega) (by omega)) rfl ?_ | refine WL.x (X.remw (lt rfl (lt rfl (lh))) (lh) (by omega)) rfl ?_
    first | refine WL.x (X.convi Try.underlying23 Try.underlying3 (lh) (wrap_i64 (by omega) (by omega))) rfl ?_ | refine WL.x (X.conv Try.underlying23 Try.underlying3 (lh)) rfl ?_
    refine WL.call2 ce12 (lt rfl (lt rfl (lt rfl (lt rfl (lt rfl (lt rfl (lh))))))) (lh) (add_ok b wb n ws _ w2 hset) rfl ?_
    rintro _ w3 ⟨rfl, ws2, hset2, hm2, ca⟩
    refine WL.e5 (Nx.blk Nx.thn) 0 5 16 17 18 (lt rfl (lt rfl (lt rfl (lt rfl (lt rfl (lt rfl (lt rfl (lt rfl (s0))))))))) (lt rfl (lt rfl (lt rfl (lt rfl (lt rfl (lt rfl (lt rfl (lt rfl (s5))))))))) (lt rfl (lt rfl (lt rfl (lt rfl (lt rfl (lt rfl (lt rfl (lt rfl (s16))))))))) (lt rfl (lt rfl (lt rfl (lt rfl (lt rfl (lt rfl (lt rfl (lt rfl (s17))))))))) (lt rfl (lt rfl (lt rfl (lt rfl (lt rfl (lt rfl (lt rfl (lt rfl (s18))))))))) ?_
    intro σ8 s0 s5 s16 s17 s18
    refine W.region ?_
    first | refine WL.x (X.add (s18) lc (by omega) (by omega)) rfl ?_ | refine WL.x (X.addw (s18) lc) rfl ?_
    refine WL.x (X.mv (lh)) rfl ?_
    refine WL.e5 Nx.thn 0 5 16 17 18 (lt rfl (lt rfl (s0))) (lt rfl (lt rfl (s5))) (lt rfl (lt rfl (s16))) (lt rfl (lt rfl (s17))) (lh) ?_
    intro σ9 s0 s5 s16 s17 s18
    refine ⟨k + 1, by omega, ⟨s0.trans qo1.symm, s5.trans qo2.symm, s16.trans qo3.symm, s17.trans qo4.symm, trivial⟩, ws2, s18, by omega, hset2, fun j => by rw [hm2, hmem, filB_succ hn (by omega)], hcl.trans ca (fun _ _ => id) (fun i hi e => by (try dsimp only at e); omega)⟩
  · refine W.exit (Nx.xthn (Nx.xthn (Nx.xblk Nx.thn))) ?_
    refine W.seq ?_
    refine W.region ?_
    refine WL.x (X.mv (s5)) rfl ?_
    refine WL.x (X.asg (lh)) rfl ?_
    refine WL.e1 Nx.thn 4 (lh) ?_
    intro σ10 s4
    refine W.ret1 Nx.f1 s4 ?_
    have hke : k = l.length := by omega
    subst hke
    exact ⟨b, wb, ws, rfl, hset, fun j => by rw [hmem, List.take_length], hcl, hb, hwb⟩

theorem zipw_get {g : BV → BV → BV} {ws vs : List BV} (h : ws.length = vs.length) (hg : g 0 0 = 0) (i : Nat) : (List.zipWith g ws vs).getD i 0 = g (ws.getD i 0) (vs.getD i 0) := by
  simp only [List.getD_eq_getElem?_getD]
  by_cases hi : i < ws.length
  · rw [List.getElem?_eq_getElem (show i < (List.zipWith g ws vs).length by simp; omega), List.getElem?_eq_getElem hi, List.getElem?_eq_getElem (show i < vs.length by omega)]
    simp
  · rw [List.getElem?_eq_none (by simp; omega), List.getElem?_eq_none (by omega), List.getElem?_eq_none (by omega)]
    exact hg.symm
theorem zip_set {w w' : World} {b wb n b2 wb2 : Nat} {ws vs : List BV} {g : BV → BV → BV} (p : Bool → Bool → Bool) (hg : ∀ x y j, (g x y).getLsbD j = p (x.getLsbD j) (y.getLsbD j)) (hp : p false false = false) (h00 : g 0 0 = 0)
    (h : IsSet w b wb n ws) (h2 : IsSet w b2 wb2 n vs) (c : Ch (fun k => k = wb) w w') (hc : w'.heap[wb]? = some (.cells (wcells (List.zipWith g ws vs)) 41 (0, 0))) :
    IsSet w' b wb n (List.zipWith g ws vs) ∧ ∀ j, mem (List.zipWith g ws vs) j = p (mem ws j) (mem vs j) := by
  have hll : ws.length = vs.length := by rw [h.len, h2.len]
  have hm : ∀ j, mem (List.zipWith g ws vs) j = p (mem ws j) (mem vs j) := fun j => by
    unfold mem; rw [zipw_get hll h00, hg]
  have hlen : (List.zipWith g ws vs).length = ws.length := by simp; omega
  refine ⟨⟨by rw [hlen]; exact c.at h.hd h.ne, hc, by rw [hlen]; exact h.len, h.le, fun i hi => by rw [hm, h.clean i hi, h2.clean i hi, hp]⟩, hm⟩
theorem chg_all {g : BV → BV → BV} {ws vs : List BV} (h : ws.length = vs.length) : chg g ws vs ws.length = decide (List.zipWith g ws vs ≠ ws) := by
  rw [Bool.eq_iff_iff, decide_eq_true_iff]
  unfold chg
  rw [List.any_eq_true]
  constructor
  · rintro ⟨i, hi, hne⟩ e
    have hi := List.mem_range.1 hi
    have := of_decide_eq_true hne
    refine this ?_
    have h1 : (List.zipWith g ws vs)[i]? = ws[i]? := by rw [e]
    rw [List.getElem?_eq_getElem (show i < (List.zipWith g ws vs).length by simp; omega), List.getElem?_eq_getElem hi] at h1
    simp only [List.getElem_zipWith, Option.some.injEq] at h1
    simp only [List.getD_eq_getElem?_getD, List.getElem?_eq_getElem hi, List.getElem?_eq_getElem (show i < vs.length by omega), Option.getD_some]
    exact h1
  · intro e
    refine Classical.byContradiction fun hno => e ?_
    refine List.ext_getElem (by simp; omega) fun i h1 h2 => ?_
    refine Classical.byContradiction fun hne => hno ⟨i, List.mem_range.2 h2, ?_⟩
    refine decide_eq_true ?_
    simp only [List.getElem_zipWith] at hne
    simp only [List.getD_eq_getElem?_getD, List.getElem?_eq_getElem h2, List.getElem?_eq_getElem (show i < vs.length by omega), Option.getD_some]
    exact hne

theorem or_ok (b wb n : Nat) (ws : List BV) (b2 wb2 : Nat) (vs : List BV) (w : World) (h : IsSet w b wb n ws) (h2 : IsSet w b2 wb2 n vs) (hne : b2 ≠ wb) (hal : wb ≠ wb2) :
    Sg.Ret Try.prog 7 #[.pointer (some ⟨b, 0, none⟩), .pointer (some ⟨b2, 0, none⟩)] w fun v w' => ∃ ws', v = .tuple #[.bool (decide (ws' ≠ ws)), .int .i64 0] ∧ IsSet w' b wb n ws' ∧ (∀ j, mem ws' j = (mem ws j || mem vs j)) ∧ Ch (fun k => k = wb) w w' := by
  have hll : ws.length = vs.length := by rw [h.len, h2.len]
  refine enter2 (n := 11) (l := [.pointer (some ⟨b, 0, none⟩), .pointer (some ⟨b2, 0, none⟩)]) Try.func7 rfl rfl rfl rfl ?_
  refine W.g2 0 1 (v1 := .pointer (some ⟨b, 0, none⟩)) (v2 := .pointer (some ⟨b2, 0, none⟩)) rfl rfl ?_; intro σ s0 s1
  refine W.seq ?_
  refine W.region ?_
  refine WL.x (X.asg lc) rfl ?_
  refine WL.x (X.asg lc) rfl ?_
  refine WL.e2 Nx.thn 0 1 (lt rfl (lt rfl (s0))) (lt rfl (lt rfl (s1))) ?_
  intro σ1 s0 s1
  refine W.seq ?_
  refine W.region ?_
  refine WL.x (X.mv (s0)) rfl ?_
  refine WL.x (X.mv (lt rfl (s1))) rfl ?_
  refine WL.call3 ce14 (lt rfl (lh)) (lh) lf (with_ok b wb n ws b2 wb2 n vs 15 (fun x y => x ||| y) ce15 (fun x y w => or_fn x y w) w h h2 rfl hne (.inl hal)) rfl ?_
  rintro _ w1 ⟨rfl, cw, hcw⟩
  rw [chg_all hll]
  refine WL.x (X.ex2_0 (lh)) rfl ?_
  refine WL.x (X.ex2_1 (lt rfl (lh))) rfl ?_
  refine WL.x (X.asg (lt rfl (lh))) rfl ?_
  refine WL.x (X.asg (lt rfl (lh))) rfl ?_
  refine WL.e2 Nx.thn 4 5 (lt rfl (lh)) (lh) ?_
  intro σ2 s4 s5
  refine W.ret2 Nx.f2 s4 s5 ?_
  have hz := zip_set (fun x y => x || y) (fun x y j => BitVec.getLsbD_or) rfl rfl h h2 cw hcw
  exact ⟨_, rfl, hz.1, hz.2, cw⟩
theorem and_ok (b wb n : Nat) (ws : List BV) (b2 wb2 : Nat) (vs : List BV) (w : World) (h : IsSet w b wb n ws) (h2 : IsSet w b2 wb2 n vs) (hne : b2 ≠ wb) (hal : wb ≠ wb2) :
    Sg.Ret Try.prog 8 #[.pointer (some ⟨b, 0, none⟩), .pointer (some ⟨b2, 0, none⟩)] w fun v w' => ∃ ws', v = .tuple #[.bool (decide (ws' ≠ ws)), .int .i64 0] ∧ IsSet w' b wb n ws' ∧ (∀ j, mem ws' j = (mem ws j && mem vs j)) ∧ Ch (fun k => k = wb) w w' := by
  have hll : ws.length = vs.length := by rw [h.len, h2.len]
  refine enter2 (n := 11) (l := [.pointer (some ⟨b, 0, none⟩), .pointer (some ⟨b2, 0, none⟩)]) Try.func8 rfl rfl rfl rfl ?_
  refine W.g2 0 1 (v1 := .pointer (some ⟨b, 0, none⟩)) (v2 := .pointer (some ⟨b2, 0, none⟩)) rfl rfl ?_; intro σ s0 s1
  refine W.seq ?_
  refine W.region ?_
  refine WL.x (X.asg lc) rfl ?_
  refine WL.x (X.asg lc) rfl ?_
  refine WL.e2 Nx.thn 0 1 (lt rfl (lt rfl (s0))) (lt rfl (lt rfl (s1))) ?_
  intro σ1 s0 s1
  refine W.seq ?_
  refine W.region ?_
  refine WL.x (X.mv (s0)) rfl ?_
  refine WL.x (X.mv (lt rfl (s1))) rfl ?_
  refine WL.call3 ce14 (lt rfl (lh)) (lh) lf (with_ok b wb n ws b2 wb2 n vs 16 (fun x y => x &&& y) ce16 (fun x y w => and_fn x y w) w h h2 rfl hne (.inl hal)) rfl ?_
  rintro _ w1 ⟨rfl, cw, hcw⟩
  rw [chg_all hll]
  refine WL.x (X.ex2_0 (lh)) rfl ?_
  refine WL.x (X.ex2_1 (lt rfl (lh))) rfl ?_
  refine WL.x (X.asg (lt rfl (lh))) rfl ?_
  refine WL.x (X.asg (lt rfl (lh))) rfl ?_
  refine WL.e2 Nx.thn 4 5 (lt rfl (lh)) (lh) ?_
  intro σ2 s4 s5
  refine W.ret2 Nx.f2 s4 s5 ?_
  have hz := zip_set (fun x y => x && y) (fun x y j => BitVec.getLsbD_and) rfl rfl h h2 cw hcw
  exact ⟨_, rfl, hz.1, hz.2, cw⟩

theorem els_le (ws : List BV) (n : Nat) : (els ws n).length ≤ n := Nat.le_trans (List.length_filter_le _ _) (by simp)
theorem two_counts (p q : Nat → Bool) (l : List Nat) : (l.filter fun j => p j || q j).length + (l.filter fun j => p j && q j).length = (l.filter p).length + (l.filter q).length := by
  induction l with
  | nil => rfl
  | cons x l ih =>
    simp only [List.filter_cons]
    cases p x <;> cases q x <;> simp <;> omega
theorem els_both {n : Nat} {l1 l2 : List Int} {a b c d : List BV} (ha : ∀ j, mem a j = (filB n l1 j || filB n l2 j)) (hb : ∀ j, mem b j = (filB n l1 j && filB n l2 j)) (hc : ∀ j, mem c j = filB n l1 j) (hd : ∀ j, mem d j = filB n l2 j) :
    (els a n).length + (els b n).length = (els c n).length + (els d n).length := by
  unfold els
  rw [show mem a = fun j => filB n l1 j || filB n l2 j from funext ha, show mem b = fun j => filB n l1 j && filB n l2 j from funext hb, show mem c = filB n l1 from funext hc, show mem d = filB n l2 from funext hd]
  exact two_counts _ _ _
theorem meets_ok (a : Int) (x1 : Option Addr) (c1 : Nat) (l1 : List Int) (x2 : Option Addr) (c2 : Nat) (l2 : List Int) (w : World) (hs1 : Sl w (.slice x1 l1.length c1) (l1.map (Value.int .i64))) (hs2 : Sl w (.slice x2 l2.length c2) (l2.map (Value.int .i64))) (hl1 : l1.length ≤ 9223372036854775807) (hl2 : l2.length ≤ 9223372036854775807) :
    Sg.Ret Try.prog 3 #[.int .i64 a, .slice x1 l1.length c1, .slice x2 l2.length c2] w fun v w' => v = .bool true ∧ Ch0 w w' := by
  obtain ⟨n, hn⟩ : ∃ n : Nat, 1 + a % 18446744073709551616 % 200 = (n : Int) := ⟨_, (Int.toNat_of_nonneg (by omega)).symm⟩
  have hn1 : 0 < n := by omega
  have hn2 : n ≤ 200 := by omega
  have hcl : Ch0 w w := Ch.refl _ _
  refine enter1 (n := 127) (l := [.int .i64 a, .slice x1 l1.length c1, .slice x2 l2.length c2]) Try.func3 rfl rfl rfl rfl ?_
  refine W.g3 0 1 2 (v1 := .int .i64 a) (v2 := .slice x1 l1.length c1) (v3 := .slice x2 l2.length c2) rfl rfl rfl ?_; intro σ s0 s1 s2
  refine W.seq ?_
  refine W.region ?_
  refine WL.x (X.asg lc) rfl ?_
  refine WL.e3 Nx.thn 0 1 2 (lt rfl (s0)) (lt rfl (s1)) (lt rfl (s2)) ?_
  intro σ1 s0 s1 s2
  refine W.seq ?_
  refine W.region ?_
  refine WL.x (X.mv (s0)) rfl ?_
  first | refine WL.x (X.convi Try.underlying3 Try.underlying23 (lh) (wrap_u64_in (by omega) (by omega))) rfl ?_ | refine WL.x (X.convu Try.underlying3 Try.underlying23 (lh)) rfl ?_ | refine WL.x (X.conv Try.underlying3 Try.underlying23 (lh)) rfl ?_
  first | refine WL.x (X.rem (lh) lc (by omega) (by omega)) rfl ?_ | refine WL.x (X.remw (lh) lc (by omega)) rfl ?_
  first | refine WL.x (X.convi Try.underlying23 Try.underlying3 (lh) (wrap_i64 (by omega) (by omega))) rfl ?_ | refine WL.x (X.conv Try.underlying23 Try.underlying3 (lh)) rfl ?_
  refine WL.x (v := .int .i64 (n : Int)) (hn ▸ X.add lc (lh) (by omega) (by omega)) rfl ?_
  refine WL.x (X.asg (lh)) rfl ?_
  refine WL.e3 Nx.thn 0 1 2 (lh) (lt rfl (lt rfl (lt rfl (lt rfl (lt rfl (lt rfl (s1))))))) (lt rfl (lt rfl (lt rfl (lt rfl (lt rfl (lt rfl (s2))))))) ?_
  intro σ2 s0 s1 s2
  refine W.seq ?_
  refine W.region ?_
  refine WL.x (X.mv (s0)) rfl ?_
  refine WL.x (X.mv (lt rfl (s1))) rfl ?_
  refine WL.call2 ce4 (lt rfl (lh)) (lh) (filled_ok n x1 c1 l1 w (hs1.ch0 hcl) hn1 (by omega) hl1) rfl ?_
  rintro _ w1 ⟨bs, wbs, wss, rfl, hnew, hms, ks, hbs, hwbs⟩
  have hcl := hcl.trans0 ks
  have hzks := ks.size
  have hs := hnew
  have hxs := hs.ltb
  have hys := hs.ltw
  refine WL.x (X.mv (lt rfl (lt rfl (lt rfl (s0))))) rfl ?_
  refine WL.x (X.mv (lt rfl (lt rfl (lt rfl (lt rfl (s2)))))) rfl ?_
  refine WL.call2 ce4 (lt rfl (lh)) (lh) (filled_ok n x2 c2 l2 w1 (hs2.ch0 hcl) hn1 (by omega) hl2) rfl ?_
  rintro _ w2 ⟨bt, wbt, wst, rfl, hnew, hmt, kt, hbt, hwbt⟩
  have hs := hs.ch0 kt
  have hcl := hcl.trans0 kt
  have hzkt := kt.size
  have ht := hnew
  have hxt := ht.ltb
  have hyt := ht.ltw
  refine WL.x (X.asg (lt rfl (lt rfl (lt rfl (lh))))) rfl ?_
  refine WL.x (X.asg (lt rfl (lh))) rfl ?_
  refine WL.e5 Nx.thn 0 1 2 7 8 (lt rfl (lt rfl (lt rfl (lt rfl (lt rfl (lt rfl (lt rfl (lt rfl (s0))))))))) (lt rfl (lt rfl (lt rfl (lt rfl (lt rfl (lt rfl (lt rfl (lt rfl (s1))))))))) (lt rfl (lt rfl (lt rfl (lt rfl (lt rfl (lt rfl (lt rfl (lt rfl (s2))))))))) (lt rfl (lh)) (lh) ?_
  intro σ3 s0 s1 s2 s7 s8
  refine W.seq ?_
  refine W.region ?_
  refine WL.x (X.mv (s0)) rfl ?_
  refine WL.x (X.mv (lt rfl (s2))) rfl ?_
  refine WL.call2 ce4 (lt rfl (lh)) (lh) (filled_ok n x2 c2 l2 w2 (hs2.ch0 hcl) hn1 (by omega) hl2) rfl ?_
  rintro _ w3 ⟨bx, wbx, wsx, rfl, hnew, hmx, kx, hbx, hwbx⟩
  have hs := hs.ch0 kx
  have ht := ht.ch0 kx
  have hcl := hcl.trans0 kx
  have hzkx := kx.size
  have hx := hnew
  have hxx := hx.ltb
  have hyx := hx.ltw
  refine WL.x (X.mv (lt rfl (lt rfl (lt rfl (s0))))) rfl ?_
  refine WL.x (X.mv (lt rfl (lt rfl (lt rfl (lt rfl (s1)))))) rfl ?_
  refine WL.call2 ce4 (lt rfl (lh)) (lh) (filled_ok n x1 c1 l1 w3 (hs1.ch0 hcl) hn1 (by omega) hl1) rfl ?_
  rintro _ w4 ⟨bz, wbz, wsz, rfl, hnew, hmz, kz, hbz, hwbz⟩
  have hs := hs.ch0 kz
  have ht := ht.ch0 kz
  have hx := hx.ch0 kz
  have hcl := hcl.trans0 kz
  have hzkz := kz.size
  have hz := hnew
  have hxz := hz.ltb
  have hyz := hz.ltw
  refine WL.x (X.asg (lt rfl (lt rfl (lt rfl (lh))))) rfl ?_
  refine WL.x (X.asg (lt rfl (lh))) rfl ?_
  refine WL.e7 Nx.thn 0 1 2 7 8 9 10 (lt rfl (lt rfl (lt rfl (lt rfl (lt rfl (lt rfl (lt rfl (lt rfl (s0))))))))) (lt rfl (lt rfl (lt rfl (lt rfl (lt rfl (lt rfl (lt rfl (lt rfl (s1))))))))) (lt rfl (lt rfl (lt rfl (lt rfl (lt rfl (lt rfl (lt rfl (lt rfl (s2))))))))) (lt rfl (lt rfl (lt rfl (lt rfl (lt rfl (lt rfl (lt rfl (lt rfl (s7))))))))) (lt rfl (lt rfl (lt rfl (lt rfl (lt rfl (lt rfl (lt rfl (lt rfl (s8))))))))) (lt rfl (lh)) (lh) ?_
  intro σ4 s0 s1 s2 s7 s8 s9 s10
  refine W.seq ?_
  refine W.seq ?_
  refine W.region ?_
  refine WL.x (X.mv (s7)) rfl ?_
  refine WL.x (X.eqlN Try.underlying24 (lh) lc) rfl ?_
  refine WL.x (X.mv (lh)) rfl ?_
  refine WL.yes rfl rfl (lh) (rfl) ?_
  refine WL.x (X.mv (lt rfl (lt rfl (lt rfl (s8))))) rfl ?_
  refine WL.yes rfl rfl (lt rfl (lh)) (rfl) ?_
  refine WL.x (X.eqlN Try.underlying24 (lh) lc) rfl ?_
  refine WL.x (X.pickF (lt rfl (lt rfl (lh))) (rfl) (lh)) rfl ?_
  refine WL.x (X.mv (lh)) rfl ?_
  refine WL.yes rfl rfl (lh) (rfl) ?_
  refine WL.x (X.mv (lt rfl (lt rfl (lt rfl (lt rfl (lt rfl (lt rfl (lt rfl (s9))))))))) rfl ?_
  refine WL.yes rfl rfl (lt rfl (lh)) (rfl) ?_
  refine WL.x (X.eqlN Try.underlying24 (lh) lc) rfl ?_
  refine WL.x (X.pickF (lt rfl (lt rfl (lh))) (rfl) (lh)) rfl ?_
  refine WL.x (X.mv (lh)) rfl ?_
  refine WL.yes rfl rfl (lh) (rfl) ?_
  refine WL.x (X.mv (lt rfl (lt rfl (lt rfl (lt rfl (lt rfl (lt rfl (lt rfl (lt rfl (lt rfl (lt rfl (lt rfl (s10))))))))))))) rfl ?_
  refine WL.yes rfl rfl (lt rfl (lh)) (rfl) ?_
  refine WL.x (X.eqlN Try.underlying24 (lh) lc) rfl ?_
  refine WL.x (X.pickF (lt rfl (lt rfl (lh))) (rfl) (lh)) rfl ?_
  refine WL.x (X.mv (lh)) rfl ?_
  refine WL.yes rfl rfl (lh) (rfl) ?_
  refine WL.x (X.mv (lt rfl (lt rfl (lt rfl (lt rfl (lt rfl (lt rfl (lt rfl (lt rfl (lt rfl (lt rfl (lt rfl (lt rfl (lt rfl (lt rfl (lt rfl (s7))))))))))))))))) rfl ?_
  refine WL.yes rfl rfl (lt rfl (lh)) (rfl) ?_
  refine WL.call1 ce5 (lh) (bound_ok bs wbs n wss w4 hs) rfl ?_
  rintro _ _ ⟨rfl, rfl⟩
  refine WL.yes rfl rfl (lt rfl (lt rfl (lh))) (rfl) ?_
  refine WL.x (X.mv (lt rfl (lt rfl (lt rfl (lt rfl (lt rfl (lt rfl (lt rfl (lt rfl (lt rfl (lt rfl (lt rfl (lt rfl (lt rfl (lt rfl (lt rfl (lt rfl (lt rfl (s0))))))))))))))))))) rfl ?_
  refine WL.yes rfl rfl (lt rfl (lt rfl (lt rfl (lh)))) (rfl) ?_
  refine WL.x (X.neq (lt rfl (lh)) (lh)) rfl ?_
  refine WL.x (X.pickF (lt rfl (lt rfl (lt rfl (lt rfl (lh))))) (rfl) (lh)) rfl ?_
  refine WL.e8 Nx.thn 0 1 2 7 8 9 10 53 (lt rfl (lt rfl (lt rfl (lt rfl (lt rfl (lt rfl (lt rfl (lt rfl (lt rfl (lt rfl (lt rfl (lt rfl (lt rfl (lt rfl (lt rfl (lt rfl (lt rfl (lt rfl (lt rfl (lt rfl (s0))))))))))))))))))))) (lt rfl (lt rfl (lt rfl (lt rfl (lt rfl (lt rfl (lt rfl (lt rfl (lt rfl (lt rfl (lt rfl (lt rfl (lt rfl (lt rfl (lt rfl (lt rfl (lt rfl (lt rfl (lt rfl (lt rfl (s1))))))))))))))))))))) (lt rfl (lt rfl (lt rfl (lt rfl (lt rfl (lt rfl (lt rfl (lt rfl (lt rfl (lt rfl (lt rfl (lt rfl (lt rfl (lt rfl (lt rfl (lt rfl (lt rfl (lt rfl (lt rfl (lt rfl (s2))))))))))))))))))))) (lt rfl (lt rfl (lt rfl (lt rfl (lt rfl (lt rfl (lt rfl (lt rfl (lt rfl (lt rfl (lt rfl (lt rfl (lt rfl (lt rfl (lt rfl (lt rfl (lt rfl (lt rfl (lt rfl (lt rfl (s7))))))))))))))))))))) (lt rfl (lt rfl (lt rfl (lt rfl (lt rfl (lt rfl (lt rfl (lt rfl (lt rfl (lt rfl (lt rfl (lt rfl (lt rfl (lt rfl (lt rfl (lt rfl (lt rfl (lt rfl (lt rfl (lt rfl (s8))))))))))))))))))))) (lt rfl (lt rfl (lt rfl (lt rfl (lt rfl (lt rfl (lt rfl (lt rfl (lt rfl (lt rfl (lt rfl (lt rfl (lt rfl (lt rfl (lt rfl (lt rfl (lt rfl (lt rfl (lt rfl (lt rfl (s9))))))))))))))))))))) (lt rfl (lt rfl (lt rfl (lt rfl (lt rfl (lt rfl (lt rfl (lt rfl (lt rfl (lt rfl (lt rfl (lt rfl (lt rfl (lt rfl (lt rfl (lt rfl (lt rfl (lt rfl (lt rfl (lt rfl (s10))))))))))))))))))))) (lh) ?_
  intro σ5 s0 s1 s2 s7 s8 s9 s10 s53
  refine W.cndN s53 (by omega) ?_
  refine W.skip Nx.thn ?_
  refine W.seq ?_
  refine W.region ?_
  refine WL.x (X.mv (s7)) rfl ?_
  refine WL.call1 ce6 (lh) (copy_ok bs wbs n wss w4 hs) rfl ?_
  rintro _ w5 ⟨bu, wbu, rfl, hnew, ku, hbu, hwbu⟩
  have hs := hs.ch0 ku
  have ht := ht.ch0 ku
  have hx := hx.ch0 ku
  have hz := hz.ch0 ku
  have hcl := hcl.trans0 ku
  have hzku := ku.size
  have hu := hnew
  have hmu := hms
  have hxu := hu.ltb
  have hyu := hu.ltw
  refine WL.x (X.mv (lt rfl (lt rfl (s8)))) rfl ?_
  refine WL.call1 ce6 (lh) (copy_ok bt wbt n wst w5 ht) rfl ?_
  rintro _ w6 ⟨bv, wbv, rfl, hnew, kv, hbv, hwbv⟩
  have hs := hs.ch0 kv
  have ht := ht.ch0 kv
  have hx := hx.ch0 kv
  have hz := hz.ch0 kv
  have hu := hu.ch0 kv
  have hcl := hcl.trans0 kv
  have hzkv := kv.size
  have hv := hnew
  have hmv := hmt
  have hxv := hv.ltb
  have hyv := hv.ltw
  refine WL.x (X.asg (lt rfl (lt rfl (lh)))) rfl ?_
  refine WL.x (X.asg (lt rfl (lh))) rfl ?_
  refine WL.e9 Nx.thn 0 1 2 7 8 9 10 11 12 (lt rfl (lt rfl (lt rfl (lt rfl (lt rfl (lt rfl (s0))))))) (lt rfl (lt rfl (lt rfl (lt rfl (lt rfl (lt rfl (s1))))))) (lt rfl (lt rfl (lt rfl (lt rfl (lt rfl (lt rfl (s2))))))) (lt rfl (lt rfl (lt rfl (lt rfl (lt rfl (lt rfl (s7))))))) (lt rfl (lt rfl (lt rfl (lt rfl (lt rfl (lt rfl (s8))))))) (lt rfl (lt rfl (lt rfl (lt rfl (lt rfl (lt rfl (s9))))))) (lt rfl (lt rfl (lt rfl (lt rfl (lt rfl (lt rfl (s10))))))) (lt rfl (lh)) (lh) ?_
  intro σ6 s0 s1 s2 s7 s8 s9 s10 s11 s12
  refine W.seq ?_
  refine W.region ?_
  refine WL.x (X.mv (s7)) rfl ?_
  refine WL.x (X.mv (lt rfl (s8))) rfl ?_
  refine WL.call2 ce7 (lt rfl (lh)) (lh) (or_ok bs wbs n wss bt wbt wst w6 hs ht (by omega) (by omega)) rfl ?_
  rintro _ w7 ⟨vo1, rfl, hnew, hmo1, o1⟩
  have ht := ht.ch o1 (by (try dsimp only); omega) (by (try dsimp only); omega)
  have hx := hx.ch o1 (by (try dsimp only); omega) (by (try dsimp only); omega)
  have hz := hz.ch o1 (by (try dsimp only); omega) (by (try dsimp only); omega)
  have hu := hu.ch o1 (by (try dsimp only); omega) (by (try dsimp only); omega)
  have hv := hv.ch o1 (by (try dsimp only); omega) (by (try dsimp only); omega)
  have hcl := hcl.trans o1 (H := fun _ => False) (fun _ _ => id) (fun i hi e => by (try dsimp only at e); omega)
  have hzo1 := o1.size
  have hs := hnew
  have hlo1 := hs.len
  refine WL.e9 Nx.thn 0 1 2 7 8 9 10 11 12 (lt rfl (lt rfl (lt rfl (s0)))) (lt rfl (lt rfl (lt rfl (s1)))) (lt rfl (lt rfl (lt rfl (s2)))) (lt rfl (lt rfl (lt rfl (s7)))) (lt rfl (lt rfl (lt rfl (s8)))) (lt rfl (lt rfl (lt rfl (s9)))) (lt rfl (lt rfl (lt rfl (s10)))) (lt rfl (lt rfl (lt rfl (s11)))) (lt rfl (lt rfl (lt rfl (s12)))) ?_
  intro σ7 s0 s1 s2 s7 s8 s9 s10 s11 s12
  refine W.seq ?_
  refine W.region ?_
  refine WL.x (X.mv (s9)) rfl ?_
  refine WL.x (X.mv (lt rfl (s10))) rfl ?_
  refine WL.call2 ce7 (lt rfl (lh)) (lh) (or_ok bx wbx n wsx bz wbz wsz w7 hx hz (by omega) (by omega)) rfl ?_
  rintro _ w8 ⟨vo2, rfl, hnew, hmo2, o2⟩
  have ht := ht.ch o2 (by (try dsimp only); omega) (by (try dsimp only); omega)
  have hz := hz.ch o2 (by (try dsimp only); omega) (by (try dsimp only); omega)
  have hu := hu.ch o2 (by (try dsimp only); omega) (by (try dsimp only); omega)
  have hv := hv.ch o2 (by (try dsimp only); omega) (by (try dsimp only); omega)
  have hs := hs.ch o2 (by (try dsimp only); omega) (by (try dsimp only); omega)
  have hcl := hcl.trans o2 (H := fun _ => False) (fun _ _ => id) (fun i hi e => by (try dsimp only at e); omega)
  have hzo2 := o2.size
  have hx := hnew
  refine WL.e8 Nx.thn 0 1 2 7 8 9 11 12 (lt rfl (lt rfl (lt rfl (s0)))) (lt rfl (lt rfl (lt rfl (s1)))) (lt rfl (lt rfl (lt rfl (s2)))) (lt rfl (lt rfl (lt rfl (s7)))) (lt rfl (lt rfl (lt rfl (s8)))) (lt rfl (lt rfl (lt rfl (s9)))) (lt rfl (lt rfl (lt rfl (s11)))) (lt rfl (lt rfl (lt rfl (s12)))) ?_
  intro σ8 s0 s1 s2 s7 s8 s9 s11 s12
  refine W.seq ?_
  refine W.region ?_
  refine WL.x (X.mv (s11)) rfl ?_
  refine WL.x (X.mv (lt rfl (s12))) rfl ?_
  refine WL.call2 ce8 (lt rfl (lh)) (lh) (and_ok bu wbu n wss bv wbv wst w8 hu hv (by omega) (by omega)) rfl ?_
  rintro _ w9 ⟨vo3, rfl, hnew, hmo3, o3⟩
  have ht := ht.ch o3 (by (try dsimp only); omega) (by (try dsimp only); omega)
  have hz := hz.ch o3 (by (try dsimp only); omega) (by (try dsimp only); omega)
  have hv := hv.ch o3 (by (try dsimp only); omega) (by (try dsimp only); omega)
  have hs := hs.ch o3 (by (try dsimp only); omega) (by (try dsimp only); omega)
  have hx := hx.ch o3 (by (try dsimp only); omega) (by (try dsimp only); omega)
  have hcl := hcl.trans o3 (H := fun _ => False) (fun _ _ => id) (fun i hi e => by (try dsimp only at e); omega)
  have hzo3 := o3.size
  have hu := hnew
  have hlo3 := hu.len
  refine WL.e8 Nx.thn 0 1 2 7 8 9 11 12 (lt rfl (lt rfl (lt rfl (s0)))) (lt rfl (lt rfl (lt rfl (s1)))) (lt rfl (lt rfl (lt rfl (s2)))) (lt rfl (lt rfl (lt rfl (s7)))) (lt rfl (lt rfl (lt rfl (s8)))) (lt rfl (lt rfl (lt rfl (s9)))) (lt rfl (lt rfl (lt rfl (s11)))) (lt rfl (lt rfl (lt rfl (s12)))) ?_
  intro σ9 s0 s1 s2 s7 s8 s9 s11 s12
  refine W.seq ?_
  refine W.region ?_
  refine WL.x (X.mv (s12)) rfl ?_
  refine WL.x (X.mv (lt rfl (s0))) rfl ?_
  refine WL.x (X.mv (lt rfl (lt rfl (s1)))) rfl ?_
  refine WL.call2 ce4 (lt rfl (lh)) (lh) (filled_ok n x1 c1 l1 w9 (hs1.ch0 hcl) hn1 (by omega) hl1) rfl ?_
  rintro _ w10 ⟨bp, wbp, wsp, rfl, hnew, hmp, kp, hbp, hwbp⟩
  have ht := ht.ch0 kp
  have hz := hz.ch0 kp
  have hv := hv.ch0 kp
  have hs := hs.ch0 kp
  have hx := hx.ch0 kp
  have hu := hu.ch0 kp
  have hcl := hcl.trans0 kp
  have hzkp := kp.size
  have hp := hnew
  have hxp := hp.ltb
  have hyp := hp.ltw
  refine WL.call2 ce8 (lt rfl (lt rfl (lt rfl (lh)))) (lh) (and_ok bv wbv n wst bp wbp wsp w10 hv hp (by omega) (by omega)) rfl ?_
  rintro _ w11 ⟨vo4, rfl, hnew, hmo4, o4⟩
  have ht := ht.ch o4 (by (try dsimp only); omega) (by (try dsimp only); omega)
  have hz := hz.ch o4 (by (try dsimp only); omega) (by (try dsimp only); omega)
  have hs := hs.ch o4 (by (try dsimp only); omega) (by (try dsimp only); omega)
  have hx := hx.ch o4 (by (try dsimp only); omega) (by (try dsimp only); omega)
  have hu := hu.ch o4 (by (try dsimp only); omega) (by (try dsimp only); omega)
  have hp := hp.ch o4 (by (try dsimp only); omega) (by (try dsimp only); omega)
  have hcl := hcl.trans o4 (H := fun _ => False) (fun _ _ => id) (fun i hi e => by (try dsimp only at e); omega)
  have hzo4 := o4.size
  have hv := hnew
  refine WL.e8 Nx.thn 0 1 2 7 8 9 11 12 (lt rfl (lt rfl (lt rfl (lt rfl (lt rfl (s0)))))) (lt rfl (lt rfl (lt rfl (lt rfl (lt rfl (s1)))))) (lt rfl (lt rfl (lt rfl (lt rfl (lt rfl (s2)))))) (lt rfl (lt rfl (lt rfl (lt rfl (lt rfl (s7)))))) (lt rfl (lt rfl (lt rfl (lt rfl (lt rfl (s8)))))) (lt rfl (lt rfl (lt rfl (lt rfl (lt rfl (s9)))))) (lt rfl (lt rfl (lt rfl (lt rfl (lt rfl (s11)))))) (lt rfl (lt rfl (lt rfl (lt rfl (lt rfl (s12)))))) ?_
  intro σ10 s0 s1 s2 s7 s8 s9 s11 s12
  refine W.seq ?_
  refine W.region ?_
  refine WL.x (X.mv (s7)) rfl ?_
  refine WL.x (X.mv (lt rfl (s8))) rfl ?_
  refine WL.call2 ce7 (lt rfl (lh)) (lh) (or_ok bs wbs n vo1 bt wbt wst w11 hs ht (by omega) (by omega)) rfl ?_
  rintro _ w12 ⟨vo5, rfl, hnew, hmo5, o5⟩
  have ht := ht.ch o5 (by (try dsimp only); omega) (by (try dsimp only); omega)
  have hz := hz.ch o5 (by (try dsimp only); omega) (by (try dsimp only); omega)
  have hx := hx.ch o5 (by (try dsimp only); omega) (by (try dsimp only); omega)
  have hu := hu.ch o5 (by (try dsimp only); omega) (by (try dsimp only); omega)
  have hp := hp.ch o5 (by (try dsimp only); omega) (by (try dsimp only); omega)
  have hv := hv.ch o5 (by (try dsimp only); omega) (by (try dsimp only); omega)
  have hcl := hcl.trans o5 (H := fun _ => False) (fun _ _ => id) (fun i hi e => by (try dsimp only at e); omega)
  have hzo5 := o5.size
  have hs := hnew
  refine WL.x (X.mv (lh)) rfl ?_
  refine WL.x (X.ex2_0 (lh)) rfl ?_
  refine WL.x (X.ex2_1 (lt rfl (lh))) rfl ?_
  refine WL.x (X.asg (lt rfl (lh))) rfl ?_
  refine WL.x (X.asg (lt rfl (lh))) rfl ?_
  refine WL.e9 Nx.thn 0 1 2 7 9 11 12 13 14 (lt rfl (lt rfl (lt rfl (lt rfl (lt rfl (lt rfl (lt rfl (lt rfl (s0))))))))) (lt rfl (lt rfl (lt rfl (lt rfl (lt rfl (lt rfl (lt rfl (lt rfl (s1))))))))) (lt rfl (lt rfl (lt rfl (lt rfl (lt rfl (lt rfl (lt rfl (lt rfl (s2))))))))) (lt rfl (lt rfl (lt rfl (lt rfl (lt rfl (lt rfl (lt rfl (lt rfl (s7))))))))) (lt rfl (lt rfl (lt rfl (lt rfl (lt rfl (lt rfl (lt rfl (lt rfl (s9))))))))) (lt rfl (lt rfl (lt rfl (lt rfl (lt rfl (lt rfl (lt rfl (lt rfl (s11))))))))) (lt rfl (lt rfl (lt rfl (lt rfl (lt rfl (lt rfl (lt rfl (lt rfl (s12))))))))) (lt rfl (lh)) (lh) ?_
  intro σ11 s0 s1 s2 s7 s9 s11 s12 s13 s14
  refine W.seq ?_
  refine W.region ?_
  refine WL.x (X.mv (s11)) rfl ?_
  refine WL.x (X.mv (lt rfl (s0))) rfl ?_
  refine WL.x (X.mv (lt rfl (lt rfl (s2)))) rfl ?_
  refine WL.call2 ce4 (lt rfl (lh)) (lh) (filled_ok n x2 c2 l2 w12 (hs2.ch0 hcl) hn1 (by omega) hl2) rfl ?_
  rintro _ w13 ⟨bq, wbq, wsq, rfl, hnew, hmq, kq, hbq, hwbq⟩
  have ht := ht.ch0 kq
  have hz := hz.ch0 kq
  have hx := hx.ch0 kq
  have hu := hu.ch0 kq
  have hp := hp.ch0 kq
  have hv := hv.ch0 kq
  have hs := hs.ch0 kq
  have hcl := hcl.trans0 kq
  have hzkq := kq.size
  have hq := hnew
  have hxq := hq.ltb
  have hyq := hq.ltw
  refine WL.call2 ce8 (lt rfl (lt rfl (lt rfl (lh)))) (lh) (and_ok bu wbu n vo3 bq wbq wsq w13 hu hq (by omega) (by omega)) rfl ?_
  rintro _ w14 ⟨vo6, rfl, hnew, hmo6, o6⟩
  have ht := ht.ch o6 (by (try dsimp only); omega) (by (try dsimp only); omega)
  have hz := hz.ch o6 (by (try dsimp only); omega) (by (try dsimp only); omega)
  have hx := hx.ch o6 (by (try dsimp only); omega) (by (try dsimp only); omega)
  have hp := hp.ch o6 (by (try dsimp only); omega) (by (try dsimp only); omega)
  have hv := hv.ch o6 (by (try dsimp only); omega) (by (try dsimp only); omega)
  have hs := hs.ch o6 (by (try dsimp only); omega) (by (try dsimp only); omega)
  have hq := hq.ch o6 (by (try dsimp only); omega) (by (try dsimp only); omega)
  have hcl := hcl.trans o6 (H := fun _ => False) (fun _ _ => id) (fun i hi e => by (try dsimp only at e); omega)
  have hzo6 := o6.size
  have hu := hnew
  have q1 : vo5 = vo2 := words_ext (by rw [hs.len, hx.len]) (fun j => by rw [hmo5, hmo1, hmo2, hms, hmt, hmx, hmz]; cases filB n l1 j <;> cases filB n l2 j <;> rfl)
  have q2 : vo6 = vo4 := words_ext (by rw [hu.len, hv.len]) (fun j => by rw [hmo6, hmo3, hmo4, hmq, hmp, hmu, hmv]; cases filB n l1 j <;> cases filB n l2 j <;> rfl)
  have q3 : vo5 = vo1 := words_ext (by rw [hs.len, hlo1]) (fun j => by rw [hmo5, hmo1, hms, hmt]; cases filB n l1 j <;> cases filB n l2 j <;> rfl)
  have q4 : vo6 = vo3 := words_ext (by rw [hu.len, hlo3]) (fun j => by rw [hmo6, hmo3, hmq, hmu, hmv]; cases filB n l1 j <;> cases filB n l2 j <;> rfl)
  have w1 := els_le vo5 n
  have w2 := els_le vo6 n
  refine WL.x (X.mv (lh)) rfl ?_
  refine WL.x (X.ex2_0 (lh)) rfl ?_
  refine WL.x (X.ex2_1 (lt rfl (lh))) rfl ?_
  refine WL.x (X.asg (lt rfl (lh))) rfl ?_
  refine WL.x (X.asg (lt rfl (lh))) rfl ?_
  refine WL.e11 Nx.thn 0 1 2 7 9 11 12 13 14 15 16 (lt rfl (lt rfl (lt rfl (lt rfl (lt rfl (lt rfl (lt rfl (lt rfl (lt rfl (lt rfl (s0))))))))))) (lt rfl (lt rfl (lt rfl (lt rfl (lt rfl (lt rfl (lt rfl (lt rfl (lt rfl (lt rfl (s1))))))))))) (lt rfl (lt rfl (lt rfl (lt rfl (lt rfl (lt rfl (lt rfl (lt rfl (lt rfl (lt rfl (s2))))))))))) (lt rfl (lt rfl (lt rfl (lt rfl (lt rfl (lt rfl (lt rfl (lt rfl (lt rfl (lt rfl (s7))))))))))) (lt rfl (lt rfl (lt rfl (lt rfl (lt rfl (lt rfl (lt rfl (lt rfl (lt rfl (lt rfl (s9))))))))))) (lt rfl (lt rfl (lt rfl (lt rfl (lt rfl (lt rfl (lt rfl (lt rfl (lt rfl (lt rfl (s11))))))))))) (lt rfl (lt rfl (lt rfl (lt rfl (lt rfl (lt rfl (lt rfl (lt rfl (lt rfl (lt rfl (s12))))))))))) (lt rfl (lt rfl (lt rfl (lt rfl (lt rfl (lt rfl (lt rfl (lt rfl (lt rfl (lt rfl (s13))))))))))) (lt rfl (lt rfl (lt rfl (lt rfl (lt rfl (lt rfl (lt rfl (lt rfl (lt rfl (lt rfl (s14))))))))))) (lt rfl (lh)) (lh) ?_
  intro σ12 s0 s1 s2 s7 s9 s11 s12 s13 s14 s15 s16
  refine W.seq ?_
  refine W.region ?_
  refine WL.x (X.mv (s7)) rfl ?_
  refine WL.x (X.mv (lt rfl (s9))) rfl ?_
  refine WL.call2 ce9 (lt rfl (lh)) (lh) (same_ok bs wbs n vo5 bx wbx n vo2 w14 hs hx) rfl ?_
  rintro _ w15 ⟨rfl, hdre1⟩
  have ke1 := hdre1.ch0
  have ht := ht.ch0 ke1
  have hz := hz.ch0 ke1
  have hx := hx.ch0 ke1
  have hp := hp.ch0 ke1
  have hv := hv.ch0 ke1
  have hs := hs.ch0 ke1
  have hq := hq.ch0 ke1
  have hu := hu.ch0 ke1
  have hcl := hcl.trans0 ke1
  have hzke1 := ke1.size
  refine WL.x (X.mv (lh)) rfl ?_
  refine WL.yes rfl rfl (lh) (decide_eq_true ⟨rfl, q1⟩) ?_
  refine WL.x (X.mv (lt rfl (lt rfl (lt rfl (lt rfl (s11)))))) rfl ?_
  refine WL.yes rfl rfl (lt rfl (lh)) (decide_eq_true ⟨rfl, q1⟩) ?_
  refine WL.x (X.mv (lt rfl (lt rfl (lt rfl (lt rfl (lt rfl (s12))))))) rfl ?_
  refine WL.yes rfl rfl (lt rfl (lt rfl (lh))) (decide_eq_true ⟨rfl, q1⟩) ?_
  refine WL.call2 ce9 (lt rfl (lh)) (lh) (same_ok bu wbu n vo6 bv wbv n vo4 w15 hu hv) rfl ?_
  rintro _ w16 ⟨rfl, hdre2⟩
  have ke2 := hdre2.ch0
  have ht := ht.ch0 ke2
  have hz := hz.ch0 ke2
  have hx := hx.ch0 ke2
  have hp := hp.ch0 ke2
  have hv := hv.ch0 ke2
  have hs := hs.ch0 ke2
  have hq := hq.ch0 ke2
  have hu := hu.ch0 ke2
  have hcl := hcl.trans0 ke2
  have hzke2 := ke2.size
  refine WL.x (X.pickT (lt rfl (lt rfl (lt rfl (lh)))) (decide_eq_true ⟨rfl, q1⟩) (lh)) rfl ?_
  refine WL.x (X.mv (lh)) rfl ?_
  refine WL.yes rfl rfl (lh) (decide_eq_true ⟨rfl, q2⟩) ?_
  refine WL.x (X.mv (lt rfl (lt rfl (lt rfl (lt rfl (lt rfl (lt rfl (lt rfl (lt rfl (lt rfl (s13))))))))))) rfl ?_
  refine WL.yes rfl rfl (lt rfl (lh)) (decide_eq_true ⟨rfl, q2⟩) ?_
  refine WL.x (X.not (lh)) rfl ?_
  refine WL.x (X.pickT (lt rfl (lt rfl (lh))) (decide_eq_true ⟨rfl, q2⟩) (lh)) rfl ?_
  refine WL.x (X.mv (lh)) rfl ?_
  refine WL.yes rfl rfl (lh) (by simp [q3]) ?_
  refine WL.x (X.mv (lt rfl (lt rfl (lt rfl (lt rfl (lt rfl (lt rfl (lt rfl (lt rfl (lt rfl (lt rfl (lt rfl (lt rfl (lt rfl (s15))))))))))))))) rfl ?_
  refine WL.yes rfl rfl (lt rfl (lh)) (by simp [q3]) ?_
  refine WL.x (X.not (lh)) rfl ?_
  refine WL.x (X.pickT (lt rfl (lt rfl (lh))) (by simp [q3]) (lh)) rfl ?_
  refine WL.x (X.mv (lh)) rfl ?_
  refine WL.yes rfl rfl (lh) (by simp [q4]) ?_
  refine WL.x (X.mv (lt rfl (lt rfl (lt rfl (lt rfl (lt rfl (lt rfl (lt rfl (lt rfl (lt rfl (lt rfl (lt rfl (lt rfl (lt rfl (lt rfl (lt rfl (lt rfl (lt rfl (s14))))))))))))))))))) rfl ?_
  refine WL.yes rfl rfl (lt rfl (lh)) (by simp [q4]) ?_
  refine WL.x (X.eql (lh) lc) rfl ?_
  refine WL.x (X.pickT (lt rfl (lt rfl (lh))) (by simp [q4]) (lh)) rfl ?_
  refine WL.x (X.mv (lh)) rfl ?_
  refine WL.yes rfl rfl (lh) (decide_eq_true (rfl)) ?_
  refine WL.x (X.mv (lt rfl (lt rfl (lt rfl (lt rfl (lt rfl (lt rfl (lt rfl (lt rfl (lt rfl (lt rfl (lt rfl (lt rfl (lt rfl (lt rfl (lt rfl (lt rfl (lt rfl (lt rfl (lt rfl (lt rfl (lt rfl (s16))))))))))))))))))))))) rfl ?_
  refine WL.yes rfl rfl (lt rfl (lh)) (decide_eq_true (rfl)) ?_
  refine WL.x (X.eql (lh) lc) rfl ?_
  refine WL.x (X.pickT (lt rfl (lt rfl (lh))) (decide_eq_true (rfl)) (lh)) rfl ?_
  refine WL.x (X.mv (lh)) rfl ?_
  refine WL.yes rfl rfl (lh) (decide_eq_true (rfl)) ?_
  refine WL.x (X.mv (lt rfl (lt rfl (lt rfl (lt rfl (lt rfl (lt rfl (lt rfl (lt rfl (lt rfl (lt rfl (lt rfl (lt rfl (lt rfl (lt rfl (lt rfl (lt rfl (lt rfl (lt rfl (lt rfl (lt rfl (lt rfl (lt rfl (lt rfl (lt rfl (lt rfl (s7))))))))))))))))))))))))))) rfl ?_
  refine WL.yes rfl rfl (lt rfl (lh)) (decide_eq_true (rfl)) ?_
  refine WL.call1 ce10 (lh) (count_ok bs wbs n vo5 w16 hs) rfl ?_
  rintro _ _ ⟨rfl, rfl⟩
  refine WL.yes rfl rfl (lt rfl (lt rfl (lh))) (decide_eq_true (rfl)) ?_
  refine WL.x (X.mv (lt rfl (lt rfl (lt rfl (lt rfl (lt rfl (lt rfl (lt rfl (lt rfl (lt rfl (lt rfl (lt rfl (lt rfl (lt rfl (lt rfl (lt rfl (lt rfl (lt rfl (lt rfl (lt rfl (lt rfl (lt rfl (lt rfl (lt rfl (lt rfl (lt rfl (lt rfl (lt rfl (s11))))))))))))))))))))))))))))) rfl ?_
  refine WL.yes rfl rfl (lt rfl (lt rfl (lt rfl (lh)))) (decide_eq_true (rfl)) ?_
  refine WL.call1 ce10 (lh) (count_ok bu wbu n vo6 w16 hu) rfl ?_
  rintro _ _ ⟨rfl, rfl⟩
  refine WL.yes rfl rfl (lt rfl (lt rfl (lt rfl (lt rfl (lh))))) (decide_eq_true (rfl)) ?_
  first | refine WL.x (X.add (lt rfl (lt rfl (lh))) (lh) (by omega) (by omega)) rfl ?_ | refine WL.x (X.addw (lt rfl (lt rfl (lh))) (lh)) rfl ?_
  refine WL.yes rfl rfl (lt rfl (lt rfl (lt rfl (lt rfl (lt rfl (lh)))))) (decide_eq_true (rfl)) ?_
  refine WL.x (X.mv (lt rfl (lt rfl (lt rfl (lt rfl (lt rfl (lt rfl (lt rfl (lt rfl (lt rfl (lt rfl (lt rfl (lt rfl (lt rfl (lt rfl (lt rfl (lt rfl (lt rfl (lt rfl (lt rfl (lt rfl (lt rfl (lt rfl (lt rfl (lt rfl (lt rfl (lt rfl (lt rfl (lt rfl (lt rfl (lt rfl (s0)))))))))))))))))))))))))))))))) rfl ?_
  refine WL.yes rfl rfl (lt rfl (lt rfl (lt rfl (lt rfl (lt rfl (lt rfl (lh))))))) (decide_eq_true (rfl)) ?_
  refine WL.x (X.mv (lt rfl (lt rfl (lt rfl (lt rfl (lt rfl (lt rfl (lt rfl (lt rfl (lt rfl (lt rfl (lt rfl (lt rfl (lt rfl (lt rfl (lt rfl (lt rfl (lt rfl (lt rfl (lt rfl (lt rfl (lt rfl (lt rfl (lt rfl (lt rfl (lt rfl (lt rfl (lt rfl (lt rfl (lt rfl (lt rfl (lt rfl (s1))))))))))))))))))))))))))))))))) rfl ?_
  refine WL.yes rfl rfl (lt rfl (lt rfl (lt rfl (lt rfl (lt rfl (lt rfl (lt rfl (lh)))))))) (decide_eq_true (rfl)) ?_
  refine WL.call2 ce4 (lt rfl (lh)) (lh) (filled_ok n x1 c1 l1 w16 (hs1.ch0 hcl) hn1 (by omega) hl1) rfl ?_
  rintro _ w17 ⟨bg, wbg, wsg, rfl, hnew, hmg, kg, hbg, hwbg⟩
  have ht := ht.ch0 kg
  have hz := hz.ch0 kg
  have hx := hx.ch0 kg
  have hp := hp.ch0 kg
  have hv := hv.ch0 kg
  have hs := hs.ch0 kg
  have hq := hq.ch0 kg
  have hu := hu.ch0 kg
  have hcl := hcl.trans0 kg
  have hzkg := kg.size
  have hg := hnew
  have hxg := hg.ltb
  have hyg := hg.ltw
  have w3 := els_le wsg n
  refine WL.yes rfl rfl (lt rfl (lt rfl (lt rfl (lt rfl (lt rfl (lt rfl (lt rfl (lt rfl (lh))))))))) (decide_eq_true (rfl)) ?_
  refine WL.call1 ce10 (lh) (count_ok bg wbg n wsg w17 hg) rfl ?_
  rintro _ _ ⟨rfl, rfl⟩
  refine WL.yes rfl rfl (lt rfl (lt rfl (lt rfl (lt rfl (lt rfl (lt rfl (lt rfl (lt rfl (lt rfl (lh)))))))))) (decide_eq_true (rfl)) ?_
  refine WL.x (X.mv (lt rfl (lt rfl (lt rfl (lt rfl (lt rfl (lt rfl (lt rfl (lt rfl (lt rfl (lt rfl (lt rfl (lt rfl (lt rfl (lt rfl (lt rfl (lt rfl (lt rfl (lt rfl (lt rfl (lt rfl (lt rfl (lt rfl (lt rfl (lt rfl (lt rfl (lt rfl (lt rfl (lt rfl (lt rfl (lt rfl (lt rfl (lt rfl (lt rfl (lt rfl (s0)))))))))))))))))))))))))))))))))))) rfl ?_
  refine WL.yes rfl rfl (lt rfl (lt rfl (lt rfl (lt rfl (lt rfl (lt rfl (lt rfl (lt rfl (lt rfl (lt rfl (lh))))))))))) (decide_eq_true (rfl)) ?_
  refine WL.x (X.mv (lt rfl (lt rfl (lt rfl (lt rfl (lt rfl (lt rfl (lt rfl (lt rfl (lt rfl (lt rfl (lt rfl (lt rfl (lt rfl (lt rfl (lt rfl (lt rfl (lt rfl (lt rfl (lt rfl (lt rfl (lt rfl (lt rfl (lt rfl (lt rfl (lt rfl (lt rfl (lt rfl (lt rfl (lt rfl (lt rfl (lt rfl (lt rfl (lt rfl (lt rfl (lt rfl (s2))))))))))))))))))))))))))))))))))))) rfl ?_
  refine WL.yes rfl rfl (lt rfl (lt rfl (lt rfl (lt rfl (lt rfl (lt rfl (lt rfl (lt rfl (lt rfl (lt rfl (lt rfl (lh)))))))))))) (decide_eq_true (rfl)) ?_
  refine WL.call2 ce4 (lt rfl (lh)) (lh) (filled_ok n x2 c2 l2 w17 (hs2.ch0 hcl) hn1 (by omega) hl2) rfl ?_
  rintro _ w18 ⟨bh, wbh, wsh, rfl, hnew, hmh, kh, hbh, hwbh⟩
  have ht := ht.ch0 kh
  have hz := hz.ch0 kh
  have hx := hx.ch0 kh
  have hp := hp.ch0 kh
  have hv := hv.ch0 kh
  have hs := hs.ch0 kh
  have hq := hq.ch0 kh
  have hu := hu.ch0 kh
  have hg := hg.ch0 kh
  have hcl := hcl.trans0 kh
  have hzkh := kh.size
  have hh := hnew
  have hxh := hh.ltb
  have hyh := hh.ltw
  have w4 := els_le wsh n
  refine WL.yes rfl rfl (lt rfl (lt rfl (lt rfl (lt rfl (lt rfl (lt rfl (lt rfl (lt rfl (lt rfl (lt rfl (lt rfl (lt rfl (lh))))))))))))) (decide_eq_true (rfl)) ?_
  refine WL.call1 ce10 (lh) (count_ok bh wbh n wsh w18 hh) rfl ?_
  rintro _ _ ⟨rfl, rfl⟩
  refine WL.yes rfl rfl (lt rfl (lt rfl (lt rfl (lt rfl (lt rfl (lt rfl (lt rfl (lt rfl (lt rfl (lt rfl (lt rfl (lt rfl (lt rfl (lh)))))))))))))) (decide_eq_true (rfl)) ?_
  first | refine WL.x (X.add (lt rfl (lt rfl (lt rfl (lt rfl (lh))))) (lh) (by omega) (by omega)) rfl ?_ | refine WL.x (X.addw (lt rfl (lt rfl (lt rfl (lt rfl (lh))))) (lh)) rfl ?_
  refine WL.yes rfl rfl (lt rfl (lt rfl (lt rfl (lt rfl (lt rfl (lt rfl (lt rfl (lt rfl (lt rfl (lt rfl (lt rfl (lt rfl (lt rfl (lt rfl (lh))))))))))))))) (decide_eq_true (rfl)) ?_
  refine WL.x (X.eql (lt rfl (lt rfl (lt rfl (lt rfl (lt rfl (lt rfl (lt rfl (lt rfl (lt rfl (lh)))))))))) (lh)) rfl ?_
  refine WL.x (X.pickT (lt rfl (lt rfl (lt rfl (lt rfl (lt rfl (lt rfl (lt rfl (lt rfl (lt rfl (lt rfl (lt rfl (lt rfl (lt rfl (lt rfl (lt rfl (lh)))))))))))))))) (decide_eq_true (rfl)) (lh)) rfl ?_
  refine WL.x (X.asg (lh)) rfl ?_
  refine WL.e1 Nx.thn 6 (lh) ?_
  intro σ13 s6
  refine W.ret1 Nx.f1 s6 ?_
  have hfin := els_both (n := n) (l1 := l1) (l2 := l2) (a := vo5) (b := vo6) (c := wsg) (d := wsh) (fun j => by rw [hmo5, hmo1, hms, hmt]; cases filB n l1 j <;> cases filB n l2 j <;> rfl) (fun j => by rw [hmo6, hmo3, hmq, hmu, hmv]; cases filB n l1 j <;> cases filB n l2 j <;> rfl) hmg hmh
  exact ⟨congrArg Value.bool (decide_eq_true (by omega)), hcl⟩
end Go.Proofs.Ytbnnogbmmbkedaa
