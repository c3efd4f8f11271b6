/-
  A part of the walk of the program. | Arrays of structs as values; methods that are values. | A part of the walk of the program. | Stable sorting by one bit, in plain lists: insertion, rotation, merging in place. | Calls of a comparison and of an exchange that are values; whole numbers as naturals.
-/
import Derived.Test.YtnfkblboimkcjaaDoorPr6
import Derived.Laws.IdiomCopy
section
set_option linter.unusedVariables false
set_option linter.unusedSimpArgs false
set_option maxRecDepth 100000
namespace Go.Proofs.YtnfkblboimkcjaaDoor
open Go Go.RowKit Sg
theorem idxi_ok (b n : Nat) (A : Nat → Int) (z : Int) (w : World) (hb : w.heap[b]? = some (.cells (wI n A) 3 (0, 0))) (hn : n ≤ 300) :
  Sg.Ret Tryd.prog 59 #[.slice (some ⟨b, 0, none⟩) n n, .int .i64 z] w fun v w' => ∃ k : Int, v = .int .i64 k ∧ ((k = -1 ∧ ∀ i, i < n → A i ≠ z) ∨ (0 ≤ k ∧ k < n ∧ A k.toNat = z)) ∧ w = w' := by
 refine enter1 (n := 19) (l := [.slice (some ⟨b, 0, none⟩) n n, .int .i64 z]) Tryd.func59 rfl rfl rfl rfl ?_
 refine W.g2 0 1 (v1 := .slice (some ⟨b, 0, none⟩) n n) (v2 := .int .i64 z) rfl rfl ?_; intro σ s0 s1
 refine W.seq ?_
 refine W.region ?_
 refine WL.x (X.asg lc) rfl ?_
 refine WL.e2 Nx.thn 0 1 (lt rfl (s0)) (lt rfl (s1)) ?_
 intro σ1 s0 s1
 refine W.seq ?_
 refine W.seq ?_
 refine W.region ?_
 refine WL.x (X.mv (s0)) rfl ?_
 refine WL.x (X.lenSl Tryd.underlying40 (lh)) rfl ?_
 refine WL.x (X.mv lc) rfl ?_
 refine WL.e4 Nx.thn 0 1 7 8 (jt2 rfl (lt rfl (s0))) (jt2 rfl (lt rfl (s1))) (lt rfl (lh)) (lh) ?_
 intro σ2 s0 s1 s7 s8
 refine W.block ?_
 have qo1 := s0
 have qo2 := s1
 have qo3 := s7
 -- loop 0: kept [0, 1, 7], varied [8]
 refine W.loop (G := Nat) (fun k σ' w' => (σ' 0 = σ2 0 ∧ σ' 1 = σ2 1 ∧ σ' 7 = σ2 7 ∧ True) ∧ w = w' ∧ (σ' 8 = .int .i64 (k : Int) ∧ k ≤ n ∧ ∀ i, i < k → A i ≠ z)) (fun k => n - k) (0) ⟨⟨rfl, rfl, rfl, trivial⟩, rfl, s8, by omega, fun i hi => absurd hi (by omega)⟩ ?_
 rintro k σ3 w1 ⟨⟨f0, f1, f7, _⟩, rfl, s8, hk, hno⟩
 have s0 := f0.trans qo1
 have s1 := f1.trans qo2
 have s7 := f7.trans qo3
 refine W.seq ?_
 refine W.region ?_
 refine WL.x (X.lss (s8) (s7)) rfl ?_
 refine WL.e5 Nx.thn 0 1 7 8 9 (lt rfl (s0)) (lt rfl (s1)) (lt rfl (s7)) (lt rfl (s8)) (lh) ?_
 intro σ4 s0 s1 s7 s8 s9
 refine W.seq ?_
 refine W.cndp s9 (fun hlt => ?_) (fun hlt => ?_)
 ·
  refine W.skip Nx.thn ?_
  refine W.seq ?_
  refine W.block ?_
  refine W.seq ?_
  refine W.region ?_
  refine WL.x (X.mv (s8)) rfl ?_
  refine WL.x (X.asg (lh)) rfl ?_
  refine WL.e5 Nx.thn 0 1 5 7 8 (jt2 rfl (s0)) (jt2 rfl (s1)) (lh) (jt2 rfl (s7)) (jt2 rfl (s8)) ?_
  intro σ5 s0 s1 s5 s7 s8
  refine W.seq ?_
  refine W.region ?_
  refine WL.x (X.mv (s1)) rfl ?_
  refine WL.x (X.mv (lt rfl (s0))) rfl ?_
  refine WL.x (X.mv (jt2 rfl (s5))) rfl ?_
  refine WL.x (X.indexAddr Tryd.underlying40 el3 (lt rfl (lh)) (lh) (by omega) (by omega)) rfl ?_
  refine WL.x (X.load pl3 (lh) hb (v := .int .i64 (A k)) (by rw [show 0 + (k : Int).toNat * 1 = k by omega]; exact wI_get (by omega))) rfl ?_
  refine WL.x (X.eql (jt4 rfl (lh)) (lh)) rfl ?_
  refine WL.e6 Nx.thn 0 1 5 7 8 16 (jt4 rfl (jt2 rfl (s0))) (jt4 rfl (jt2 rfl (s1))) (jt4 rfl (jt2 rfl (s5))) (jt4 rfl (jt2 rfl (s7))) (jt4 rfl (jt2 rfl (s8))) (lh) ?_
  intro σ6 s0 s1 s5 s7 s8 s16
  refine W.cndp s16 (fun hq => ?_) (fun hq => ?_)
  ·
   refine W.seq ?_
   refine W.region ?_
   refine WL.x (X.mv (s5)) rfl ?_
   refine WL.x (X.asg (lh)) rfl ?_
   refine WL.e1 Nx.thn 4 (lh) ?_
   intro σ7 s4
   refine W.ret1 (Nx.rblk (Nx.rthn (Nx.rthn (Nx.rblk (Nx.rthn Nx.f1))))) s4 ?_
   exact ⟨_, rfl, .inr ⟨by omega, by omega, by rw [show (k : Int).toNat = k by omega]; exact hq.symm⟩, rfl⟩
  ·
   refine W.skip (Nx.blk Nx.thn) ?_
   refine W.region ?_
   refine WL.x (X.add (s8) lc (by omega) (by omega)) rfl ?_
   refine WL.x (X.mv (lh)) rfl ?_
   refine WL.e4 Nx.thn 0 1 7 8 (jt2 rfl (s0)) (jt2 rfl (s1)) (jt2 rfl (s7)) (lh) ?_
   intro σ8 s0 s1 s7 s8
   refine ⟨k + 1, by omega, ⟨s0.trans qo1.symm, s1.trans qo2.symm, s7.trans qo3.symm, trivial⟩, rfl, s8, by omega, fun i hi => by by_cases e : i = k; (· subst e; exact fun e9 => hq e9.symm); (· exact hno i (by omega))⟩
 ·
  refine W.exit (Nx.xthn (Nx.xthn (Nx.xblk Nx.thn))) ?_
  refine W.seq ?_
  refine W.region ?_
  refine WL.x (X.asg lc) rfl ?_
  refine WL.e1 Nx.thn 4 (lh) ?_
  intro σ9 s4
  refine W.ret1 Nx.f1 s4 ?_
  exact ⟨_, rfl, .inl ⟨rfl, fun i hi => hno i (by omega)⟩, rfl⟩

theorem outN_nodup (Lb : Nat → Nat → Nat) (a n : Nat) (o : Int) : (outN Lb a n o).Nodup := List.Nodup.sublist List.filter_sublist List.nodup_range
theorem take_not {l : List Nat} (h : l.Nodup) {j : Nat} (hj : j < l.length) : l[j] ∉ l.take j := by
  intro hm
  obtain ⟨i, hi, e⟩ := List.mem_iff_getElem.1 hm
  rw [List.length_take] at hi
  rw [List.getElem_take] at e
  have := (List.getElem_inj (h₀ := by omega) (h₁ := hj) h).1 e
  omega
theorem take_mem {l : List Nat} {j : Nat} (hj : j < l.length) {x : Nat} : x ∈ l.take (j + 1) ↔ x ∈ l.take j ∨ x = l[j] := by
  rw [List.take_succ_eq_append_getElem hj, List.mem_append, List.mem_singleton]
def tkI (l : List Nat) (j m : Nat) : Int := if m ∈ l.take j then 1 else 0
theorem tkI_zero (l : List Nat) (m : Nat) : tkI l 0 m = 0 := by unfold tkI; rw [List.take_zero, if_neg (by simp)]
theorem tkI_le (l : List Nat) (j m : Nat) : 0 ≤ tkI l j m ∧ tkI l j m ≤ 1 := by unfold tkI; split <;> omega
theorem tkI_at {l : List Nat} (h : l.Nodup) {j : Nat} (hj : j < l.length) : tkI l j l[j] = 0 := if_neg (take_not h hj)
theorem tkI_succ {l : List Nat} (h : l.Nodup) {j m : Nat} (hj : j < l.length) : tkI l (j + 1) m = if m = l[j] then 1 else tkI l j m := by
  unfold tkI
  by_cases e : m = l[j]
  · rw [if_pos ((take_mem hj).2 (.inr e)), if_pos e]
  · rw [if_neg e]
    by_cases h2 : m ∈ l.take j
    · rw [if_pos ((take_mem hj).2 (.inl h2)), if_pos h2]
    · rw [if_neg (fun k => ((take_mem hj).1 k).elim h2 e), if_neg h2]
set_option maxHeartbeats 3200000 in
theorem order_ok (base g n : Nat) (Lb : Nat → Nat → Nat) (w : World) (h : IsG w base g n Lb) (htab : Tab w) (hb0 : 0 < w.heap.size) (o : Int)  :
  Sg.Ret Tryd.prog 38 #[.pointer (some ⟨g, 0, none⟩), .int .i64 o] w fun v w' => ∃ lv ob, v = .tuple #[lv, .bool ob] ∧ (ob = true → ∀ k a, 1 ≤ k → ¬ Wk (EE Lb o) k a a) ∧ Ch0 w w' := by
 obtain ⟨bss, vs, hfk, hbl, hd⟩ := h.ex
 have hle := h.le
 have hok := h.ok
 have hok := h.ok
 refine enter2 (n := 75) (l := [.pointer (some ⟨g, 0, none⟩), .int .i64 o]) Tryd.func38 rfl rfl rfl rfl ?_
 refine W.g2 0 1 (v1 := .pointer (some ⟨g, 0, none⟩)) (v2 := .int .i64 o) rfl rfl ?_; intro σ s0 s1
 refine W.seq ?_
 refine W.region ?_
 refine WL.x (X.asg lc) rfl ?_
 refine WL.x (X.asg lc) rfl ?_
 refine WL.e2 Nx.thn 0 1 (jt2 rfl (s0)) (jt2 rfl (s1)) ?_
 intro σ1 s0 s1
 refine W.seq ?_
 refine W.seq ?_
 refine W.region ?_
 refine WL.x (X.mv (s0)) rfl ?_
 refine WL.call1 ce39 (lh) (gmade_ok base g n Lb w h) rfl ?_
 rintro _ _ ⟨rfl, rfl⟩
 refine WL.x (X.not (lh)) rfl ?_
 refine WL.e3 Nx.thn 0 1 16 (jt2 rfl (lt rfl (s0))) (jt2 rfl (lt rfl (s1))) (lh) ?_
 intro σ2 s0 s1 s16
 refine W.cndBF s16 (rfl) ?_
 refine W.skip Nx.thn ?_
 refine W.seq ?_
 refine W.region ?_
 refine WL.x (X.mv (s0)) rfl ?_
 refine WL.call1 ce42 (lh) (gnodes_ok base g n Lb w h) rfl ?_
 rintro _ _ ⟨rfl, rfl⟩
 refine WL.makeN Tryd.underlying40 el3 rfl (lh) (lh) (by omega) (by omega) rfl ?_
 intro w1 u1_2; have hu1_2 := u1_2.at_; have cu1_2 := u1_2.ch; have zu1_2 := u1_2.size
 rw [wI_rep] at hu1_2
 refine WL.x (X.asg (lh)) rfl ?_
 refine WL.e3 Nx.thn 0 1 6 (jt4 rfl (s0)) (jt4 rfl (s1)) (lh) ?_
 intro σ3 s0 s1 s6
 refine W.seq ?_
 refine W.seq ?_
 refine W.region ?_
 refine WL.x (X.mv (s6)) rfl ?_
 refine WL.x (X.lenSl Tryd.underlying40 (lh)) rfl ?_
 refine WL.x (X.mv lc) rfl ?_
 refine WL.e5 Nx.thn 0 1 6 21 22 (jt2 rfl (lt rfl (s0))) (jt2 rfl (lt rfl (s1))) (jt2 rfl (lt rfl (s6))) (lt rfl (lh)) (lh) ?_
 intro σ4 s0 s1 s6 s21 s22
 refine W.block ?_
 have qo1 := s0
 have qo2 := s1
 have qo3 := s6
 have qo4 := s21
 -- loop 0: kept [0, 1, 6, 21], varied [22]
 refine W.loop (G := Nat) (fun i σ' w' => (σ' 0 = σ4 0 ∧ σ' 1 = σ4 1 ∧ σ' 6 = σ4 6 ∧ σ' 21 = σ4 21 ∧ True) ∧ (σ' 22 = .int .i64 (i : Int) ∧ i ≤ n ∧ w'.heap[w.heap.size]? = some (.cells (wI n (fun m => (cntT (EE Lb o) [] m i : Int))) 3 (0, 0)) ∧ Ch0 w w')) (fun i => n - i) (0) ⟨⟨rfl, rfl, rfl, rfl, trivial⟩, s22, by omega, hu1_2, cu1_2⟩ ?_
 rintro i σ5 w2 ⟨⟨f0, f1, f6, f21, _⟩, s22, hi, hfb, hcl⟩
 have s0 := f0.trans qo1
 have s1 := f1.trans qo2
 have s6 := f6.trans qo3
 have s21 := f21.trans qo4
 have hzc := hcl.size
 have hzf := lt_of_blk hfb
 refine W.seq ?_
 refine W.region ?_
 refine WL.x (X.lss (s22) (s21)) rfl ?_
 refine WL.e6 Nx.thn 0 1 6 21 22 23 (lt rfl (s0)) (lt rfl (s1)) (lt rfl (s6)) (lt rfl (s21)) (lt rfl (s22)) (lh) ?_
 intro σ6 s0 s1 s6 s21 s22 s23
 refine W.seq ?_
 refine W.cndp s23 (fun hlt => ?_) (fun hlt => ?_)
 ·
  refine W.skip Nx.thn ?_
  refine W.seq ?_
  refine W.block ?_
  refine W.seq ?_
  refine W.region ?_
  refine WL.x (X.mv (s22)) rfl ?_
  refine WL.x (X.asg (lh)) rfl ?_
  refine WL.e6 Nx.thn 0 1 6 7 21 22 (jt2 rfl (s0)) (jt2 rfl (s1)) (jt2 rfl (s6)) (lh) (jt2 rfl (s21)) (jt2 rfl (s22)) ?_
  intro σ7 s0 s1 s6 s7 s21 s22
  refine W.seq ?_
  refine W.region ?_
  refine WL.x (X.mv (s0)) rfl ?_
  refine WL.x (X.mv (lt rfl (s7))) rfl ?_
  refine WL.x (X.mv (jt2 rfl (s1))) rfl ?_
  refine WL.call3 ce43 (jt2 rfl (lh)) (lt rfl (lh)) (lh) (gout_ok base g n Lb w2 (h.ch0 hcl) (i : Int) o (htab.ch0 hcl) (by have := hcl.size; omega)) rfl ?_
  rintro v8 w3 ⟨hownL, cls⟩
  rw [outN_elv] at hownL
  have hoq0 := QRow.own hownL
  have hol := outN_len Lb i n o
  have hond := outN_nodup Lb i n o
  obtain ⟨l2, hl2⟩ : ∃ l2, l2 = outN Lb i n o := ⟨_, rfl⟩
  rw [← hl2] at hoq0 hol hond
  have hfb := cls.at0 hfb
  have hcl := hcl.trans0 cls
  obtain ⟨oa, oc, rfl⟩ : ∃ a c, v8 = .slice a l2.length c := qn_len hoq0
  have hzq := hcl.size
  refine WL.x (X.lenSl Tryd.underlying40 (lh)) rfl ?_
  refine WL.x (X.mv lc) rfl ?_
  refine WL.e8 Nx.thn 0 1 6 21 22 28 29 30 (jt4 rfl (jt2 rfl (s0))) (jt4 rfl (jt2 rfl (s1))) (jt4 rfl (jt2 rfl (s6))) (jt4 rfl (jt2 rfl (s21))) (jt4 rfl (jt2 rfl (s22))) (jt2 rfl (lh)) (lt rfl (lh)) (lh) ?_
  intro σ8 s0 s1 s6 s21 s22 s28 s29 s30
  refine W.block ?_
  have qo5 := s0
  have qo6 := s1
  have qo7 := s6
  have qo8 := s21
  have qo9 := s22
  have qo10 := s28
  have qo11 := s29
  -- loop 1: kept [0, 1, 6, 21, 22, 28, 29], varied [30]
  refine W.loop (G := Nat) (fun j σ' w' => (σ' 0 = σ8 0 ∧ σ' 1 = σ8 1 ∧ σ' 6 = σ8 6 ∧ σ' 21 = σ8 21 ∧ σ' 22 = σ8 22 ∧ σ' 28 = σ8 28 ∧ σ' 29 = σ8 29 ∧ True) ∧ (σ' 30 = .int .i64 (j : Int) ∧ j ≤ l2.length ∧ w'.heap[w.heap.size]? = some (.cells (wI n (fun m => (cntT (EE Lb o) [] m i : Int) + tkI l2 j m)) 3 (0, 0)) ∧ QRow w' (w.heap.size + 1) 3 (.slice oa l2.length oc) (l2.map fun (x : Nat) => Value.int .i64 (x : Int)) ∧ Ch0 w w')) (fun j => l2.length - j) (0) ⟨⟨rfl, rfl, rfl, rfl, rfl, rfl, rfl, trivial⟩, s30, by omega, (by rw [hfb]; exact congrArg (fun z => some (Obj.cells z _ _)) (wI_eq fun m _ => by rw [tkI_zero]; omega)), hoq0.base (by omega), hcl⟩ ?_
  rintro j σ9 w4 ⟨⟨f0, f1, f6, f21, f22, f28, f29, _⟩, s30, hj, hfb2, hoq, hcl2⟩
  have s0 := f0.trans qo5
  have s1 := f1.trans qo6
  have s6 := f6.trans qo7
  have s21 := f21.trans qo8
  have s22 := f22.trans qo9
  have s28 := f28.trans qo10
  have s29 := f29.trans qo11
  have hzc2 := hcl2.size
  have hzf2 := lt_of_blk hfb2
  refine W.seq ?_
  refine W.region ?_
  refine WL.x (X.lss (s30) (s29)) rfl ?_
  refine WL.e9 Nx.thn 0 1 6 21 22 28 29 30 31 (lt rfl (s0)) (lt rfl (s1)) (lt rfl (s6)) (lt rfl (s21)) (lt rfl (s22)) (lt rfl (s28)) (lt rfl (s29)) (lt rfl (s30)) (lh) ?_
  intro σ10 s0 s1 s6 s21 s22 s28 s29 s30 s31
  refine W.seq ?_
  refine W.cndp s31 (fun hlt2 => ?_) (fun hlt2 => ?_)
  ·
   obtain ⟨gr, gor, csr, Tr, frr, rfl, hr1, hr2⟩ := hoq.sl.at (k := j) (by rw [List.length_map]; omega)
   have hjl : j < l2.length := by omega
   obtain ⟨m, hm⟩ : ∃ m : Nat, l2[j]'hjl = m := ⟨_, rfl⟩
   have hmo : m < n ∧ EE Lb o i m := mem_outN.1 (by rw [← hl2, ← hm]; exact List.getElem_mem hjl)
   have htk := tkI_at hond hjl
   rw [hm] at htk
   refine W.skip Nx.thn ?_
   refine W.seq ?_
   refine W.block ?_
   refine W.seq ?_
   refine W.region ?_
   refine WL.x (X.indexAddr Tryd.underlying40 el3 (s28) (s30) (by omega) (by omega)) rfl ?_
   refine WL.x (X.load pl3 (lh) hr1 (v := .int .i64 (m : Int)) (by rw [show gor + (j : Int).toNat * 1 = gor + j by omega, hr2 j (by rw [List.length_map]; omega), List.getElem?_map, List.getElem?_eq_getElem hjl, hm]; rfl)) rfl ?_
   refine WL.x (X.asg (lh)) rfl ?_
   refine WL.e9 Nx.thn 0 1 6 9 21 22 28 29 30 (jt2 rfl (lt rfl (s0))) (jt2 rfl (lt rfl (s1))) (jt2 rfl (lt rfl (s6))) (lh) (jt2 rfl (lt rfl (s21))) (jt2 rfl (lt rfl (s22))) (jt2 rfl (lt rfl (s28))) (jt2 rfl (lt rfl (s29))) (jt2 rfl (lt rfl (s30))) ?_
   intro σ11 s0 s1 s6 s9 s21 s22 s28 s29 s30
   refine W.region ?_
   refine WL.x (X.mv (s6)) rfl ?_
   refine WL.x (X.mv (lt rfl (s9))) rfl ?_
   refine WL.x (X.indexAddr Tryd.underlying40 el3 (lt rfl (lh)) (lh) (by omega) (by omega)) rfl ?_
   refine WL.x (X.load pl3 (lh) hfb2 (v := .int .i64 ((cntT (EE Lb o) [] m i : Int) + tkI l2 j m)) (by rw [show 0 + (m : Int).toNat * 1 = m by omega]; exact wI_get hmo.1)) rfl ?_
   have hcb := cntT_le (E := (EE Lb o)) (D := []) (m := m) i
   refine WL.x (X.add (lh) lc (by rw [htk]; omega) (by rw [htk]; omega)) rfl ?_
   refine WL.x (X.indexAddr Tryd.underlying40 el3 (jt4 rfl (lh)) (jt2 rfl (lt rfl (lh))) (by omega) (by omega)) rfl ?_
   refine WL.store el3 (lh) (lt rfl (lh)) rfl hfb2 (by rw [wI_size]; omega) ?_
   intro w5 us; have cst := us.ch
   have hfb3 : w5.heap[w.heap.size]? = some (.cells (wI n (fun m => (cntT (EE Lb o) [] m i : Int) + tkI l2 (j + 1) m)) 3 (0, 0)) := by
     rw [us.at_, show 0 + (m : Int).toNat * 1 = m by omega, wI_put]
     refine congrArg (fun z => some (Obj.cells z _ _)) (wI_eq fun i _ => ?_)
     (try dsimp only)
     rw [tkI_succ hond hjl, hm]
     by_cases e9 : i = m
     · subst e9; rw [if_pos rfl, if_pos rfl, htk]; omega
     · rw [if_neg e9, if_neg e9]
   have hoq3 := hoq.ch cst (fun k hk e => by have := (hoq.lt hk).1; (try dsimp only at e); omega)
   have hcl3 := hcl2.trans cst (H := fun _ => False) (fun _ _ e => e) (fun i hi e => by (try dsimp only at e); omega)
   refine WL.e8 (Nx.blk Nx.thn) 0 1 6 21 22 28 29 30 (jt4 rfl (jt2 rfl (s0))) (jt4 rfl (jt2 rfl (s1))) (jt4 rfl (jt2 rfl (s6))) (jt4 rfl (jt2 rfl (s21))) (jt4 rfl (jt2 rfl (s22))) (jt4 rfl (jt2 rfl (s28))) (jt4 rfl (jt2 rfl (s29))) (jt4 rfl (jt2 rfl (s30))) ?_
   intro σ12 s0 s1 s6 s21 s22 s28 s29 s30
   refine W.region ?_
   refine WL.x (X.add (s30) lc (by omega) (by omega)) rfl ?_
   refine WL.x (X.mv (lh)) rfl ?_
   refine WL.e8 Nx.thn 0 1 6 21 22 28 29 30 (jt2 rfl (s0)) (jt2 rfl (s1)) (jt2 rfl (s6)) (jt2 rfl (s21)) (jt2 rfl (s22)) (jt2 rfl (s28)) (jt2 rfl (s29)) (lh) ?_
   intro σ13 s0 s1 s6 s21 s22 s28 s29 s30
   refine ⟨j + 1, by omega, ⟨s0.trans qo5.symm, s1.trans qo6.symm, s6.trans qo7.symm, s21.trans qo8.symm, s22.trans qo9.symm, s28.trans qo10.symm, s29.trans qo11.symm, trivial⟩, s30, by omega, hfb3, hoq3, hcl3⟩
  ·
   refine W.exit (Nx.xthn (Nx.xthn (Nx.xblk (Nx.blk Nx.thn)))) ?_
   refine W.region ?_
   refine WL.x (X.add (s22) lc (by omega) (by omega)) rfl ?_
   refine WL.x (X.mv (lh)) rfl ?_
   refine WL.e5 Nx.thn 0 1 6 21 22 (jt2 rfl (s0)) (jt2 rfl (s1)) (jt2 rfl (s6)) (jt2 rfl (s21)) (lh) ?_
   intro σ14 s0 s1 s6 s21 s22
   refine ⟨i + 1, by omega, ⟨s0.trans qo1.symm, s1.trans qo2.symm, s6.trans qo3.symm, s21.trans qo4.symm, trivial⟩, s22, by omega, (by
  rw [hfb2]
  refine congrArg (fun z => some (Obj.cells z _ _)) (wI_eq fun m hm => ?_)
  rw [show j = l2.length by omega]
  rw [cntT_succ]
  unfold tkI
  rw [List.take_length, hl2]
  by_cases e : EE Lb o i m
  · rw [if_pos (mem_outN.2 ⟨hm, e⟩), if_pos ⟨by simp, e⟩]; omega
  · rw [if_neg (fun k => e (mem_outN.1 k).2), if_neg (fun k => e k.2)]; omega), hcl2⟩
 ·
  have hin9 : n = i := by omega
  subst hin9
  refine W.exit (Nx.xthn (Nx.xthn (Nx.xblk Nx.thn))) ?_
  refine W.seq ?_
  refine W.region ?_
  refine WL.x (X.asg lc) rfl ?_
  refine WL.e4 Nx.thn 0 1 6 10 (lt rfl (s0)) (lt rfl (s1)) (lt rfl (s6)) (lh) ?_
  intro σ15 s0 s1 s6 s10
  refine W.seq ?_
  refine W.block ?_
  have qo12 := s0
  have qo13 := s1
  have qo14 := s6
  -- loop 2: kept [0, 1, 6], varied [10]
  refine W.loop (G := List Nat × (Nat → Int)) (fun (D, A) σ' w' => (σ' 0 = σ15 0 ∧ σ' 1 = σ15 1 ∧ σ' 6 = σ15 6 ∧ True) ∧ (∃ lv, σ' 10 = lv ∧ QRow w' (w.heap.size + 1) 3 lv (D.map fun (x : Nat) => Value.int .i64 (x : Int)) ∧ w'.heap[w.heap.size]? = some (.cells (wI n A) 3 (0, 0)) ∧ Tp (EE Lb o) n D ∧ D.length ≤ n ∧ (∀ m, m < n → m ∉ D → A m = (cntT (EE Lb o) D m n : Int)) ∧ (∀ m, m ∈ D → A m < 0 ∧ -(D.length : Int) ≤ A m) ∧ Ch0 w w')) (fun (D, A) => n - D.length) (([], fun m => (cntT (EE Lb o) [] m n : Int))) ⟨⟨rfl, rfl, rfl, trivial⟩, _, s10, QRow.nil, hfb, Tp.nil, by simp, (fun _ _ _ => rfl), (fun m hm => by cases hm), hcl⟩ ?_
  rintro ⟨D, A⟩ σ16 w6 ⟨⟨f0, f1, f6, _⟩, lv, s10, hqr, hfb, htp, hDn, hcnt, hneg2, hcl⟩
  have s0 := f0.trans qo12
  have s1 := f1.trans qo13
  have s6 := f6.trans qo14
  have hzc := hcl.size
  have hzf := lt_of_blk hfb
  obtain ⟨la, lc9, rfl⟩ := qn_len hqr
  refine W.seq ?_
  refine W.seq ?_
  refine W.region ?_
  refine WL.x (X.mv (s10)) rfl ?_
  refine WL.x (X.lenSl Tryd.underlying40 (lh)) rfl ?_
  refine WL.x (X.mv (jt2 rfl (s6))) rfl ?_
  refine WL.x (X.lenSl Tryd.underlying40 (lh)) rfl ?_
  refine WL.x (X.lss (jt2 rfl (lh)) (lh)) rfl ?_
  refine WL.e5 Nx.thn 0 1 6 10 46 (jt4 rfl (lt rfl (s0))) (jt4 rfl (lt rfl (s1))) (jt4 rfl (lt rfl (s6))) (jt4 rfl (lt rfl (s10))) (lh) ?_
  intro σ17 s0 s1 s6 s10 s46
  refine W.cndp s46 (fun hgo => ?_) (fun hgo => ?_)
  ·
   refine W.skip Nx.thn ?_
   refine W.block ?_
   refine W.seq ?_
   refine W.region ?_
   refine WL.x (X.mv (s6)) rfl ?_
   refine WL.call2 ce59 (lh) lc (idxi_ok w.heap.size n A 0 w6 hfb (by omega)) rfl ?_
   rintro _ _ ⟨xi, rfl, hxi, rfl⟩
   refine WL.x (X.asg (lh)) rfl ?_
   refine WL.e5 Nx.thn 0 1 6 10 11 (jt2 rfl (lt rfl (s0))) (jt2 rfl (lt rfl (s1))) (jt2 rfl (lt rfl (s6))) (jt2 rfl (lt rfl (s10))) (lh) ?_
   intro σ18 s0 s1 s6 s10 s11
   refine W.seq ?_
   refine W.seq ?_
   refine W.region ?_
   refine WL.x (X.mv (s11)) rfl ?_
   refine WL.x (X.lss (lh) lc) rfl ?_
   refine WL.e6 Nx.thn 0 1 6 10 11 50 (jt2 rfl (s0)) (jt2 rfl (s1)) (jt2 rfl (s6)) (jt2 rfl (s10)) (jt2 rfl (s11)) (lh) ?_
   intro σ19 s0 s1 s6 s10 s11 s50
   refine W.cndp s50 (fun hneg => ?_) (fun hneg => ?_)
   ·
    refine W.seq ?_
    refine W.region ?_
    refine WL.x (X.asg lc) rfl ?_
    refine WL.x (X.asg lc) rfl ?_
    refine WL.e2 Nx.thn 4 5 (lt rfl (lh)) (lh) ?_
    intro σ20 s4 s5
    refine W.ret2 (Nx.rthn (Nx.rblk (Nx.rthn (Nx.rblk (Nx.rthn Nx.f2))))) s4 s5 ?_
    exact ⟨_, _, rfl, (fun e => by cases e), hcl⟩
   ·
    obtain ⟨x, rfl⟩ : ∃ x : Nat, xi = (x : Int) := ⟨xi.toNat, by omega⟩
    have hx0 : x < n ∧ A x = 0 := by
      rcases hxi with h9 | h9
      · omega
      · exact ⟨by omega, by have h8 := h9.2.2; rwa [Int.toNat_natCast] at h8⟩
    have hxD : x ∉ D := fun e => by have := (hneg2 x e).1; omega
    have hback : ∀ a, EE Lb o a x → a ∈ D := fun a he => by
      have h8 := hcnt x hx0.1 hxD
      exact cntT_zero (show cntT (EE Lb o) D x n = 0 by omega) a (EE.lt hok _ _ he).1 he
    have hqr0 := hqr
    refine W.skip Nx.thn ?_
    refine W.seq ?_
    refine W.region ?_
    refine WL.x (X.mv (s6)) rfl ?_
    refine WL.x (X.mv (lt rfl (s11))) rfl ?_
    refine WL.x (X.indexAddr Tryd.underlying40 el3 (lt rfl (lh)) (lh) (by omega) (by omega)) rfl ?_
    refine WL.store el3 (lh) lc rfl hfb (by rw [wI_size]; omega) ?_
    intro w7 us; have cst0 := us.ch
    have hfb : w7.heap[w.heap.size]? = some (.cells (wI n (fun i => if i = x then -1 else A i)) 3 (0, 0)) := by rw [us.at_, show 0 + (x : Int).toNat * 1 = x by omega, wI_put]
    have hzf7 := lt_of_blk hfb
    have hqr := hqr.ch cst0 (fun k hk e => by have := (hqr.lt hk).1; (try dsimp only at e); omega)
    have hcl := hcl.trans cst0 (H := fun _ => False) (fun _ _ e => e) (fun i hi e => by (try dsimp only at e); omega)
    have hqr0 := hqr
    refine WL.e5 Nx.thn 0 1 6 10 11 (jt2 rfl (lt rfl (s0))) (jt2 rfl (lt rfl (s1))) (jt2 rfl (lt rfl (s6))) (jt2 rfl (lt rfl (s10))) (jt2 rfl (lt rfl (s11))) ?_
    intro σ21 s0 s1 s6 s10 s11
    refine W.seq ?_
    refine W.seq ?_
    refine W.region ?_
    refine WL.x (X.mv (s0)) rfl ?_
    refine WL.x (X.mv (lt rfl (s11))) rfl ?_
    refine WL.x (X.mv (jt2 rfl (s1))) rfl ?_
    refine WL.call3 ce43 (jt2 rfl (lh)) (lt rfl (lh)) (lh) (gout_ok base g n Lb w7 (h.ch0 hcl) ((x : Nat) : Int) o (htab.ch0 hcl) (by have := hcl.size; omega)) rfl ?_
    rintro v8 w8 ⟨hownL, cls⟩
    rw [outN_elv] at hownL
    have hoq0 := QRow.own hownL
    have hol := outN_len Lb x n o
    have hond := outN_nodup Lb x n o
    obtain ⟨l2, hl2⟩ : ∃ l2, l2 = outN Lb x n o := ⟨_, rfl⟩
    rw [← hl2] at hoq0 hol hond
    have hfb := cls.at0 hfb
    have hqr := hqr.ch0 cls
    have hcl := hcl.trans0 cls
    obtain ⟨oa, oc, rfl⟩ : ∃ a c, v8 = .slice a l2.length c := qn_len hoq0
    have hzq := hcl.size
    refine WL.x (X.lenSl Tryd.underlying40 (lh)) rfl ?_
    refine WL.x (X.mv lc) rfl ?_
    refine WL.e8 Nx.thn 0 1 6 10 11 57 58 59 (jt4 rfl (jt2 rfl (s0))) (jt4 rfl (jt2 rfl (s1))) (jt4 rfl (jt2 rfl (s6))) (jt4 rfl (jt2 rfl (s10))) (jt4 rfl (jt2 rfl (s11))) (jt2 rfl (lh)) (lt rfl (lh)) (lh) ?_
    intro σ22 s0 s1 s6 s10 s11 s57 s58 s59
    refine W.block ?_
    have qo15 := s0
    have qo16 := s1
    have qo17 := s6
    have qo18 := s10
    have qo19 := s11
    have qo20 := s57
    have qo21 := s58
    -- loop 3: kept [0, 1, 6, 10, 11, 57, 58], varied [59]
    refine W.loop (G := Nat) (fun j σ' w' => (σ' 0 = σ22 0 ∧ σ' 1 = σ22 1 ∧ σ' 6 = σ22 6 ∧ σ' 10 = σ22 10 ∧ σ' 11 = σ22 11 ∧ σ' 57 = σ22 57 ∧ σ' 58 = σ22 58 ∧ True) ∧ (σ' 59 = .int .i64 (j : Int) ∧ j ≤ l2.length ∧ w'.heap[w.heap.size]? = some (.cells (wI n (fun m => (if m = x then -1 else A m) - tkI l2 j m)) 3 (0, 0)) ∧ QRow w' (w.heap.size + 1) 3 (.slice oa l2.length oc) (l2.map fun (x : Nat) => Value.int .i64 (x : Int)) ∧ QRow w' (w.heap.size + 1) 3 (.slice la D.length lc9) (D.map fun (x : Nat) => Value.int .i64 (x : Int)) ∧ Ch0 w w')) (fun j => l2.length - j) (0) ⟨⟨rfl, rfl, rfl, rfl, rfl, rfl, rfl, trivial⟩, s59, by omega, (by rw [hfb]; exact congrArg (fun z => some (Obj.cells z _ _)) (wI_eq fun m _ => by rw [tkI_zero]; omega)), hoq0.base (by omega), hqr, hcl⟩ ?_
    rintro j σ23 w9 ⟨⟨f0, f1, f6, f10, f11, f57, f58, _⟩, s59, hj, hfb2, hoq, hqr, hcl2⟩
    have s0 := f0.trans qo15
    have s1 := f1.trans qo16
    have s6 := f6.trans qo17
    have s10 := f10.trans qo18
    have s11 := f11.trans qo19
    have s57 := f57.trans qo20
    have s58 := f58.trans qo21
    have hzc2 := hcl2.size
    have hzf2 := lt_of_blk hfb2
    refine W.seq ?_
    refine W.region ?_
    refine WL.x (X.lss (s59) (s58)) rfl ?_
    refine WL.e9 Nx.thn 0 1 6 10 11 57 58 59 60 (lt rfl (s0)) (lt rfl (s1)) (lt rfl (s6)) (lt rfl (s10)) (lt rfl (s11)) (lt rfl (s57)) (lt rfl (s58)) (lt rfl (s59)) (lh) ?_
    intro σ24 s0 s1 s6 s10 s11 s57 s58 s59 s60
    refine W.seq ?_
    refine W.cndp s60 (fun hlt2 => ?_) (fun hlt2 => ?_)
    ·
     obtain ⟨gr, gor, csr, Tr, frr, rfl, hr1, hr2⟩ := hoq.sl.at (k := j) (by rw [List.length_map]; omega)
     have hjl : j < l2.length := by omega
     obtain ⟨m, hm⟩ : ∃ m : Nat, l2[j]'hjl = m := ⟨_, rfl⟩
     have hmo : m < n ∧ EE Lb o x m := mem_outN.1 (by rw [← hl2, ← hm]; exact List.getElem_mem hjl)
     have htk := tkI_at hond hjl
     rw [hm] at htk
     refine W.skip Nx.thn ?_
     refine W.seq ?_
     refine W.block ?_
     refine W.seq ?_
     refine W.region ?_
     refine WL.x (X.indexAddr Tryd.underlying40 el3 (s57) (s59) (by omega) (by omega)) rfl ?_
     refine WL.x (X.load pl3 (lh) hr1 (v := .int .i64 (m : Int)) (by rw [show gor + (j : Int).toNat * 1 = gor + j by omega, hr2 j (by rw [List.length_map]; omega), List.getElem?_map, List.getElem?_eq_getElem hjl, hm]; rfl)) rfl ?_
     refine WL.x (X.asg (lh)) rfl ?_
     refine WL.e9 Nx.thn 0 1 6 10 11 13 57 58 59 (jt2 rfl (lt rfl (s0))) (jt2 rfl (lt rfl (s1))) (jt2 rfl (lt rfl (s6))) (jt2 rfl (lt rfl (s10))) (jt2 rfl (lt rfl (s11))) (lh) (jt2 rfl (lt rfl (s57))) (jt2 rfl (lt rfl (s58))) (jt2 rfl (lt rfl (s59))) ?_
     intro σ25 s0 s1 s6 s10 s11 s13 s57 s58 s59
     refine W.region ?_
     refine WL.x (X.mv (s6)) rfl ?_
     refine WL.x (X.mv (lt rfl (s13))) rfl ?_
     refine WL.x (X.indexAddr Tryd.underlying40 el3 (lt rfl (lh)) (lh) (by omega) (by omega)) rfl ?_
     refine WL.x (X.load pl3 (lh) hfb2 (v := .int .i64 ((if m = x then -1 else A m) - tkI l2 j m)) (by rw [show 0 + (m : Int).toNat * 1 = m by omega]; exact wI_get hmo.1)) rfl ?_
     have hbm : -301 ≤ (if m = x then (-1 : Int) else A m) ∧ (if m = x then (-1 : Int) else A m) ≤ 300 := by
       by_cases e9 : m = x
       · rw [if_pos e9]; omega
       · rw [if_neg e9]
         by_cases e8 : m ∈ D
         · have := hneg2 m e8; omega
         · have h7 := hcnt m hmo.1 e8; have h6 := cntT_le (E := EE Lb o) (D := D) (m := m) n; omega
     refine WL.x (X.sub (lh) lc (by rw [htk]; omega) (by rw [htk]; omega)) rfl ?_
     refine WL.x (X.indexAddr Tryd.underlying40 el3 (jt4 rfl (lh)) (jt2 rfl (lt rfl (lh))) (by omega) (by omega)) rfl ?_
     refine WL.store el3 (lh) (lt rfl (lh)) rfl hfb2 (by rw [wI_size]; omega) ?_
     intro w10 us; have cst := us.ch
     have hfb3 : w10.heap[w.heap.size]? = some (.cells (wI n (fun m => (if m = x then -1 else A m) - tkI l2 (j + 1) m)) 3 (0, 0)) := by
       rw [us.at_, show 0 + (m : Int).toNat * 1 = m by omega, wI_put]
       refine congrArg (fun z => some (Obj.cells z _ _)) (wI_eq fun i _ => ?_)
       (try dsimp only)
       rw [tkI_succ hond hjl, hm]
       by_cases e9 : i = m
       · subst e9; rw [if_pos rfl, if_pos rfl, htk]; omega
       · rw [if_neg e9, if_neg e9]
     have hoq3 := hoq.ch cst (fun k hk e => by have := (hoq.lt hk).1; (try dsimp only at e); omega)
     have hcl3 := hcl2.trans cst (H := fun _ => False) (fun _ _ e => e) (fun i hi e => by (try dsimp only at e); omega)
     refine WL.e8 (Nx.blk Nx.thn) 0 1 6 10 11 57 58 59 (jt4 rfl (jt2 rfl (s0))) (jt4 rfl (jt2 rfl (s1))) (jt4 rfl (jt2 rfl (s6))) (jt4 rfl (jt2 rfl (s10))) (jt4 rfl (jt2 rfl (s11))) (jt4 rfl (jt2 rfl (s57))) (jt4 rfl (jt2 rfl (s58))) (jt4 rfl (jt2 rfl (s59))) ?_
     intro σ26 s0 s1 s6 s10 s11 s57 s58 s59
     refine W.region ?_
     refine WL.x (X.add (s59) lc (by omega) (by omega)) rfl ?_
     refine WL.x (X.mv (lh)) rfl ?_
     refine WL.e8 Nx.thn 0 1 6 10 11 57 58 59 (jt2 rfl (s0)) (jt2 rfl (s1)) (jt2 rfl (s6)) (jt2 rfl (s10)) (jt2 rfl (s11)) (jt2 rfl (s57)) (jt2 rfl (s58)) (lh) ?_
     intro σ27 s0 s1 s6 s10 s11 s57 s58 s59
     have hqr3 := hqr.ch cst (fun k hk e => by have := (hqr.lt hk).1; (try dsimp only at e); omega)
     refine ⟨j + 1, by omega, ⟨s0.trans qo15.symm, s1.trans qo16.symm, s6.trans qo17.symm, s10.trans qo18.symm, s11.trans qo19.symm, s57.trans qo20.symm, s58.trans qo21.symm, trivial⟩, s59, by omega, hfb3, hoq3, hqr3, hcl3⟩
    ·
     refine W.exit (Nx.xthn (Nx.xthn (Nx.xblk Nx.thn))) ?_
     refine W.region ?_
     refine WL.x (X.mv (s10)) rfl ?_
     refine WL.x (X.mv (lt rfl (s11))) rfl ?_
     refine WL.bslice Tryd.underlying40 el3 rfl (pcons (lh) pnil) rfl (rfl : _ = [_]) rfl ?_
     intro w11 u24_2; have hu24_2 := u24_2.at_; have cu24_2 := u24_2.ch; have zu24_2 := u24_2.size
     refine WL.pushQ Tryd.underlying40 el3 rfl (jt2 rfl (lh)) (lh) (hqr.ch0 cu24_2) (by assumption) rfl (by rw [List.length_map]; unfold maxLen; omega) (by rw [List.length_map]; omega) (by have := cu24_2.size; have := hcl2.size; omega) rfl ?_
     intro va24_3 w12 ho24_3 ca24_3 hb24_3
     have hfb4 := ca24_3.at (cu24_2.at0 hfb2) (fun hk => by have := (hqr.lt hk).1; omega)
     have hcl4 := (hcl2.trans0 cu24_2).trans ca24_3 (H := fun _ => False) (fun _ _ e => e) (fun i hi e => by have := (hqr.lt e).1; omega)
     refine WL.x (X.asg (lh)) rfl ?_
     refine WL.e4 (Nx.blk Nx.thn) 0 1 6 10 (jt4 rfl (lt rfl (s0))) (jt4 rfl (lt rfl (s1))) (jt4 rfl (lt rfl (s6))) (lh) ?_
     intro σ28 s0 s1 s6 s10
     refine ⟨(D ++ [x], (fun m => (if m = x then -1 else A m) - tkI l2 l2.length m)), by (try dsimp only); rw [List.length_append]; simp only [List.length_cons, List.length_nil]; omega, ⟨s0.trans qo12.symm, s1.trans qo13.symm, s6.trans qo14.symm, trivial⟩, _, s10, (by rw [List.map_append]; exact ho24_3), (by rw [hfb4, show j = l2.length by omega]), htp.snoc hx0.1 hxD hback, (by rw [List.length_append]; simp only [List.length_cons, List.length_nil]; omega), (fun m hm hmD => by
  have hmx : m ≠ x := fun e => hmD (by rw [e]; simp)
  have h1 := hcnt m hm (fun e => hmD (List.mem_append_left _ e))
  have h2 := cntT_out (E := EE Lb o) (m := m) hx0.1 hxD
  (try dsimp only)
  rw [if_neg hmx, h1, h2]
  unfold tkI
  rw [List.take_length, hl2]
  by_cases e : EE Lb o x m
  · rw [if_pos (mem_outN.2 ⟨hm, e⟩), if_pos e]; omega
  · rw [if_neg (fun k => e (mem_outN.1 k).2), if_neg e]; omega), (fun m hm => by
  have h1 := tkI_le l2 l2.length m
  (try dsimp only)
  rw [List.length_append]
  simp only [List.length_cons, List.length_nil]
  by_cases e : m = x
  · have h5 : tkI l2 l2.length m = 0 := by
      unfold tkI
      rw [List.take_length, hl2, if_neg (fun k => by have h4 := (mem_outN.1 k).2; rw [e] at h4; exact h4 (by rw [hok.diag]; exact Nat.zero_and _))]
    rw [if_pos e, h5]; omega
  · rw [if_neg e]
    rcases List.mem_append.1 hm with h2 | h2
    · have := hneg2 m h2; omega
    · exact absurd (List.mem_singleton.1 h2) e), hcl4⟩
  ·
   refine W.exit (Nx.xthn (Nx.xthn (Nx.xblk Nx.thn))) ?_
   refine W.seq ?_
   refine W.region ?_
   refine WL.x (X.mv (s10)) rfl ?_
   refine WL.x (X.asg (lh)) rfl ?_
   refine WL.x (X.asg lc) rfl ?_
   refine WL.e2 Nx.thn 4 5 (lt rfl (lh)) (lh) ?_
   intro σ29 s4 s5
   refine W.ret2 Nx.f2 s4 s5 ?_
   exact ⟨_, _, rfl, (fun _ => htp.done (by omega) (EE.lt hok)), hcl⟩
theorem cyclic_ok (base g n : Nat) (Lb : Nat → Nat → Nat) (w : World) (h : IsG w base g n Lb) (htab : Tab w) (hb0 : 0 < w.heap.size) (o : Int)  :
  Sg.Ret Tryd.prog 19 #[.pointer (some ⟨g, 0, none⟩), .int .i64 o] w fun v w' => ∃ cb, v = .bool cb ∧ (cb = false → ∀ k a, 1 ≤ k → ¬ Wk (EE Lb o) k a a) ∧ Ch0 w w' := by
 refine enter1 (n := 19) (l := [.pointer (some ⟨g, 0, none⟩), .int .i64 o]) Tryd.func19 rfl rfl rfl rfl ?_
 refine W.g2 0 1 (v1 := .pointer (some ⟨g, 0, none⟩)) (v2 := .int .i64 o) rfl rfl ?_; intro σ s0 s1
 refine W.seq ?_
 refine W.region ?_
 refine WL.x (X.asg lc) rfl ?_
 refine WL.e2 Nx.thn 0 1 (lt rfl (s0)) (lt rfl (s1)) ?_
 intro σ1 s0 s1
 refine W.seq ?_
 refine W.region ?_
 refine WL.x (X.mv (s0)) rfl ?_
 refine WL.x (X.mv (lt rfl (s1))) rfl ?_
 refine WL.call2 ce38 (lt rfl (lh)) (lh) (order_ok base g n Lb w h htab hb0 o) rfl ?_
 rintro _ w1 ⟨lv, ob, rfl, hob, c1⟩
 refine WL.x (X.mv (lh)) rfl ?_
 refine WL.x (X.ex2_0 (lh)) rfl ?_
 refine WL.x (X.ex2_1 (lt rfl (lh))) rfl ?_
 refine WL.x (X.asg (lt rfl (lh))) rfl ?_
 refine WL.x (X.asg (lt rfl (lh))) rfl ?_
 refine WL.e2 Nx.thn 0 6 (jt8 rfl (s0)) (lh) ?_
 intro σ2 s0 s6
 refine W.seq ?_
 refine W.region ?_
 refine WL.x (X.mv (s0)) rfl ?_
 refine WL.call1 ce39 (lh) (gmade_ok base g n Lb w1 (h.ch0 c1)) rfl ?_
 rintro _ _ ⟨rfl, rfl⟩
 refine WL.x (X.mv (lh)) rfl ?_
 refine WL.yes rfl rfl (lh) (rfl) ?_
 refine WL.x (X.mv (jt2 rfl (lt rfl (s6)))) rfl ?_
 refine WL.yes rfl rfl (lt rfl (lh)) (rfl) ?_
 refine WL.x (X.not (lh)) rfl ?_
 refine WL.x (X.pickT (jt2 rfl (lh)) (rfl) (lh)) rfl ?_
 refine WL.x (X.asg (lh)) rfl ?_
 refine WL.e1 Nx.thn 4 (lh) ?_
 intro σ3 s4
 refine W.ret1 Nx.f1 s4 ?_
 exact ⟨_, rfl, (fun e => hob (by cases ob <;> simp_all)), c1⟩
end Go.Proofs.YtnfkblboimkcjaaDoor
end

section
set_option linter.unusedVariables false
set_option linter.unusedSimpArgs false
namespace Sg
open Go Go.RowKit
section
variable {P : Program} {n : Nat} {Q : Post} {σ : Env} {w : World} {ops : Array Oper} {rest : List Oper}
variable {d : Nat} {t xt yt : TypeId} {pos : String} {af : Array Edge} {v : Value} {x y : Operand} {cs : Array Value}
theorem run_buildA {e len size : Nat} {vs : List Value} {i ei : TypeInfo} {z : Array Value} (hu : P.underlying t = some (.array len e)) (hi : P.info? t = some i) (hz : i.zero = some (.agg z)) (hzs : z.size = vs.length * size) (hei : P.info? e = some ei) (he : ei.size = size) (h0 : 0 < size)
    (hv : ∀ u ∈ vs, u.cells.size = size) : (Instr.build t ((vs.zipIdx 0).map fun u => (u.2, u.1)).toArray).run P w = .ok (.agg (vs.flatMap fun u => u.cells.toList).toArray) w := by
  subst he
  have hf := Great.fill_whole h0 vs z hv hzs.symm
  unfold Instr.build
  simp only [Sem.run_bind, zeroValue, typeInfo, run_program, Result.andThen_ok, hi, Sem.run_pure, hz, run_underlying hu, Go.sizeOf, hei]
  simp only [Value.cells]
  rw [hf]
  rfl
theorem X.buildA {e len size : Nat} {vs : List Value} {parts : List (Nat × Operand)} {i ei : TypeInfo} {z : Array Value} (hu : P.underlying xt = some (.array len e)) (hi : P.info? xt = some i) (hz : i.zero = some (.agg z)) (hzs : z.size = vs.length * size) (hei : P.info? e = some ei) (he : ei.size = size) (h0 : 0 < size)
    (hps : parts.map (fun p => (p.1, ev σ p.2)) = (vs.zipIdx 0).map fun u => (u.2, u.1)) (hv : ∀ u ∈ vs, u.cells.size = size) : X P σ w (.build xt parts.toArray) t (.agg (vs.flatMap fun u => u.cells.toList).toArray) := fun _ _ _ _ => by
  have := run_buildA (w := w) hu hi hz hzs hei he h0 hv
  simp only [execOp]
  have e' : (parts.toArray.map fun x => (x.1, ev σ x.2)) = ((vs.zipIdx 0).map fun u => (u.2, u.1)).toArray := by rw [← hps]; simp
  simp [e', this]
theorem X.indexAS {len e size : Nat} {k : IntKind} {p : Int} {vs : List Value} (hs : P.underlying xt = some (.array len e)) (ha : Aggr P e size) (hx : ev σ x = .agg cs) (hy : ev σ y = .int k p) (h0 : 0 ≤ p) (h1 : p < len)
    (hc : cs.extract (p.toNat * size) (p.toNat * size + size) = vs.toArray) : X P σ w (.index xt x y) t (.agg vs.toArray) := fun _ _ _ _ => by
  have hag := run_isAgg_aggr (w := w) ha
  obtain ⟨_, i, hi, rfl⟩ := ha
  simp [execOp, hx, hy, Instr.index, asIntOf, run_underlying hs, h0, h1, Go.sizeOf, typeInfo, hi, part, hag, hc]
/-- A method that is a value: what it is bound to comes first. -/
theorem exec_callf {f : FuncId} {firsts : List Value} {xs : List Operand} {vs : List Value} {tys : Array TypeId} {d : Option Tmp} {t : TypeId} {pos : String} {af : Array Edge} {g : Option (Nat × Bool)} (hc : Callee P f)
    (hx : ev σ x = .func (.func f) firsts.toArray #[]) (hxs : xs.map (ev σ) = vs) : (execOp (ev σ) ⟨d, .call ⟨.value x, xs.toArray, tys⟩, t, pos, af, g⟩).run P w = .ok (.enter f (firsts ++ vs).toArray) w := by
  simp [execOp, resolve, Deferred.ofValue, invoke, hx, run_callFunc hc, hxs]
theorem WL.callf2 {f d : Nat} {firsts : List Value} {x1 x2 : Operand} {v1 v2 : Value} {tys : Array TypeId} {R : Value → World → Prop} (hc : Callee P f) (hx : ev σ x = .func (.func f) firsts.toArray #[]) (h1 : ev σ x1 = v1) (h2 : ev σ x2 = v2) (hr : Ret P f (firsts ++ [v1, v2]).toArray w R) (hn : Nat.blt d n = true)
    (h : ∀ v w', R v w' → WL P n ops Q rest (up σ d v) w') : WL P n ops Q (⟨some d, .call ⟨.value x, #[x1, x2], tys⟩, t, pos, af, none⟩ :: rest) σ w :=
  WL.enter rfl rfl hn (exec_callf (xs := [x1, x2]) (vs := [v1, v2]) hc hx (by simp [h1, h2])) hr h
end
end Sg
end

section
set_option linter.unusedVariables false
set_option linter.unusedSimpArgs false
set_option maxRecDepth 100000
namespace Go.Proofs.YtnfkblboimkcjaaDoor
open Go Go.RowKit Sg

def wantN (k : Int) : Nat := if k = 8 then 1 else if k = 9 then 2 else if k = 10 then 4 else if k = 11 then 4 else 0
def baseN (k : Int) : Nat := if k = 8 then 1 else if k = 9 then 3 else if k = 10 then 3 else if k = 11 then 7 else 0
def othN (k : Int) (r : Bool) : Nat := if r = true then baseN k ||| 8 else baseN k
def mostN (k : Int) : Nat := if k = 10 then 1 else 300
def okK (k : Int) : Prop := 8 ≤ k ∧ k ≤ 11
instance (k : Int) : Decidable (okK k) := by unfold okK; infer_instance
def oneL (z : Int) : Bool := decide (z = 1 ∨ z = 2 ∨ z = 4 ∨ z = 8)
theorem okK_cases {k : Int} (h : okK k) : k = 8 ∨ k = 9 ∨ k = 10 ∨ k = 11 := by unfold okK at h; omega
theorem want_lt (k : Int) : wantN k < 16 := by unfold wantN; split <;> (try split) <;> (try split) <;> (try split) <;> omega
theorem base_lt (k : Int) : baseN k < 8 := by unfold baseN; split <;> (try split) <;> (try split) <;> (try split) <;> omega
theorem oth_lt (k : Int) (r : Bool) : othN k r < 16 := by
  have := base_lt k
  unfold othN
  split
  · exact or_lt16 (by omega) (by decide)
  · omega
theorem bc_of {z : Int} (h0 : 0 ≤ z) (h1 : z < 16) : bcell (BitVec.ofNat 64 z.toNat) = .int .u64 z := by
  unfold bcell
  rw [BitVec.toNat_ofNat]
  congr 1
  omega
theorem one_all : ∀ n, n < 16 → 0 < n → decide (((pop (BitVec.ofNat 64 n).toNat : Nat) : Int) = 1) = oneL (n : Int) := by decide
theorem one_pop {z : Int} (h0 : 0 < z) (h1 : z < 16) : decide (((pop (BitVec.ofNat 64 z.toNat).toNat : Nat) : Int) = 1) = oneL z := by
  obtain ⟨n, rfl⟩ : ∃ n : Nat, z = n := ⟨z.toNat, by omega⟩
  have := one_all n (by omega) (by omega)
  rwa [Int.toNat_natCast]
theorem oneL_out {z : Int} (h : ¬ (0 < z ∧ z < 16)) : oneL z = false := by unfold oneL; exact decide_eq_false (by omega)
/-- The least bit. -/
def lsb (m : Nat) : Nat := if m % 2 = 1 then 1 else if m / 2 % 2 = 1 then 2 else if m / 4 % 2 = 1 then 4 else if m / 8 % 2 = 1 then 8 else 0
theorem lsb_all : ∀ m : Nat, m < 16 → bitop .and .i64 (m : Int) (-(m : Int)) = (lsb m : Int) := by decide
theorem ones_ok (x : BV) (w : World) :
  Sg.Ret Tryd.prog 56 #[bcell x] w fun v w' => v = .int .i64 (pop x.toNat : Int) ∧ w = w' := by
 have hb : bcell x = .int .u64 (x.toNat : Int) := rfl
 rw [hb]
 refine enter1 (n := 35) (l := [bcell x]) Tryd.func56 rfl rfl rfl rfl ?_
 refine W.g1 0 (v1 := bcell x) rfl ?_; intro σ s0
 refine W.seq ?_
 refine W.region ?_
 refine WL.x (X.asg lc) rfl ?_
 refine WL.e1 Nx.thn 0 (lt rfl (s0)) ?_
 intro σ1 s0
 refine W.seq ?_
 refine W.region ?_
 refine WL.x (X.mv (s0)) rfl ?_
 refine WL.x (X.shr (lh) lc (by omega)) rfl ?_
 refine WL.x (X.and (lh) lc) rfl ?_
 refine WL.x (X.mv (jt2 rfl (lt rfl (s0)))) rfl ?_
 refine WL.x (X.and (lh) lc) rfl ?_
 refine WL.x (X.addw (jt2 rfl (lh)) (lh)) rfl ?_
 refine WL.x (X.asg (lh)) rfl ?_
 refine WL.e1 Nx.thn 0 (lh) ?_
 intro σ2 s0
 refine W.seq ?_
 refine W.region ?_
 refine WL.x (X.mv (s0)) rfl ?_
 refine WL.x (X.shr (lh) lc (by omega)) rfl ?_
 refine WL.x (X.and (lh) lc) rfl ?_
 refine WL.x (X.mv (jt2 rfl (lt rfl (s0)))) rfl ?_
 refine WL.x (X.and (lh) lc) rfl ?_
 refine WL.x (X.addw (jt2 rfl (lh)) (lh)) rfl ?_
 refine WL.x (X.asg (lh)) rfl ?_
 refine WL.e1 Nx.thn 0 (lh) ?_
 intro σ3 s0
 refine W.seq ?_
 refine W.region ?_
 refine WL.x (X.mv (s0)) rfl ?_
 refine WL.x (X.shr (lh) lc (by omega)) rfl ?_
 refine WL.x (X.mv (jt2 rfl (s0))) rfl ?_
 refine WL.x (X.addw (lt rfl (lh)) (lh)) rfl ?_
 refine WL.x (X.and (lh) lc) rfl ?_
 refine WL.x (X.asg (lh)) rfl ?_
 refine WL.e1 Nx.thn 0 (lh) ?_
 intro σ4 s0
 refine W.seq ?_
 refine W.region ?_
 refine WL.x (X.mv (s0)) rfl ?_
 refine WL.x (X.mv (lt rfl (s0))) rfl ?_
 refine WL.x (X.shr (lh) lc (by omega)) rfl ?_
 refine WL.x (X.addw (jt2 rfl (lh)) (lh)) rfl ?_
 refine WL.x (X.asg (lh)) rfl ?_
 refine WL.e1 Nx.thn 0 (lh) ?_
 intro σ5 s0
 refine W.seq ?_
 refine W.region ?_
 refine WL.x (X.mv (s0)) rfl ?_
 refine WL.x (X.mv (lt rfl (s0))) rfl ?_
 refine WL.x (X.shr (lh) lc (by omega)) rfl ?_
 refine WL.x (X.addw (jt2 rfl (lh)) (lh)) rfl ?_
 refine WL.x (X.asg (lh)) rfl ?_
 refine WL.e1 Nx.thn 0 (lh) ?_
 intro σ6 s0
 refine W.seq ?_
 refine W.region ?_
 refine WL.x (X.mv (s0)) rfl ?_
 refine WL.x (X.mv (lt rfl (s0))) rfl ?_
 refine WL.x (X.shr (lh) lc (by omega)) rfl ?_
 refine WL.x (X.addw (jt2 rfl (lh)) (lh)) rfl ?_
 refine WL.x (X.asg (lh)) rfl ?_
 refine WL.e1 Nx.thn 0 (lh) ?_
 intro σ7 s0
 refine W.seq ?_
 refine W.region ?_
 refine WL.x (X.mv (s0)) rfl ?_
 refine WL.x (X.conv Tryd.underlying97 Tryd.underlying3 (lh)) rfl ?_
 refine WL.x (X.and (lh) lc) rfl ?_
 refine WL.x (X.asg (lh)) rfl ?_
 refine WL.e1 Nx.thn 2 (lh) ?_
 intro σ8 s2
 refine W.ret1 Nx.f1 s2 ?_
 exact ⟨congrArg _ (ones_pure x.toNat x.isLt _ _ _ _ _ _ rfl rfl rfl rfl rfl rfl), rfl⟩
theorem onesc_ok (x : BV) (w : World) :
  Sg.Ret Tryd.prog 35 #[bcell x] w fun v w' => v = .int .i64 (pop x.toNat : Int) ∧ w = w' := by
 refine enter1 (n := 8) (l := [bcell x]) Tryd.func35 rfl rfl rfl rfl ?_
 refine W.g1 0 (v1 := bcell x) rfl ?_; intro σ s0
 refine W.seq ?_
 refine W.region ?_
 refine WL.x (X.asg lc) rfl ?_
 refine WL.e1 Nx.thn 0 (lt rfl (s0)) ?_
 intro σ1 s0
 refine W.seq ?_
 refine W.cndF lc ?_
 refine W.skip Nx.thn ?_
 refine W.seq ?_
 refine W.region ?_
 refine WL.x (X.mv (s0)) rfl ?_
 refine WL.call1 ce56 (lh) (ones_ok x w) rfl ?_
 rintro _ _ ⟨rfl, rfl⟩
 refine WL.x (X.asg (lh)) rfl ?_
 refine WL.e1 Nx.thn 2 (lh) ?_
 intro σ2 s2
 refine W.ret1 Nx.f1 s2 ?_
 exact ⟨rfl, rfl⟩
theorem one_ok (z : Int) (w : World) :
  Sg.Ret Tryd.prog 17 #[.int .i64 z] w fun v w' => v = .bool (oneL z) ∧ w = w' := by
 refine enter1 (n := 15) (l := [.int .i64 z]) Tryd.func17 rfl rfl rfl rfl ?_
 refine W.g1 0 (v1 := .int .i64 z) rfl ?_; intro σ s0
 refine W.seq ?_
 refine W.region ?_
 refine WL.x (X.asg lc) rfl ?_
 refine WL.e1 Nx.thn 0 (lt rfl (s0)) ?_
 intro σ1 s0
 refine W.seq ?_
 refine W.region ?_
 refine WL.x (X.mv (s0)) rfl ?_
 refine WL.x (X.gtr (lh) lc) rfl ?_
 refine WL.x (X.mv (lh)) rfl ?_
 refine WL.splitp (lh) (fun h1 => ?_) (fun h1 => ?_)
 ·
  refine WL.yes rfl rfl (lh) (decide_eq_true h1) ?_
  refine WL.x (X.mv (jt2 rfl (lt rfl (s0)))) rfl ?_
  refine WL.yes rfl rfl (lt rfl (lh)) (decide_eq_true h1) ?_
  refine WL.x (X.lss (lh) lc) rfl ?_
  refine WL.x (X.pickT (jt2 rfl (lh)) (decide_eq_true h1) (lh)) rfl ?_
  refine WL.x (X.mv (lh)) rfl ?_
  refine WL.splitp (lh) (fun h2 => ?_) (fun h2 => ?_)
  ·
   refine WL.yes rfl rfl (lh) (decide_eq_true h2) ?_
   refine WL.x (X.mv (jt4 rfl (jt2 rfl (lt rfl (s0))))) rfl ?_
   refine WL.yes rfl rfl (lt rfl (lh)) (decide_eq_true h2) ?_
   refine WL.x (v := bcell (BitVec.ofNat 64 z.toNat)) (by rw [bc_of (by omega) (by omega)]; exact X.convi Tryd.underlying3 Tryd.underlying39 (lh) (wrap_u64_in (by omega) (by omega))) rfl ?_
   refine WL.yes rfl rfl (jt2 rfl (lh)) (decide_eq_true h2) ?_
   refine WL.call1 ce35 (lh) (onesc_ok (BitVec.ofNat 64 z.toNat) w) rfl ?_
   rintro _ _ ⟨rfl, rfl⟩
   refine WL.yes rfl rfl (jt2 rfl (lt rfl (lh))) (decide_eq_true h2) ?_
   refine WL.x (X.eql (lh) lc) rfl ?_
   refine WL.x (X.pickT (jt4 rfl (lh)) (decide_eq_true h2) (lh)) rfl ?_
   refine WL.x (X.asg (lh)) rfl ?_
   refine WL.e1 Nx.thn 2 (lh) ?_
   intro σ2 s2
   refine W.ret1 Nx.f1 s2 ?_
   exact ⟨congrArg Value.bool (one_pop h1 h2), rfl⟩
  ·
   refine WL.no rfl rfl (lh) (decide_eq_false h2) rfl ?_
   refine WL.no rfl rfl (lt rfl (lh)) (decide_eq_false h2) rfl ?_
   refine WL.no rfl rfl (jt2 rfl (lh)) (decide_eq_false h2) rfl ?_
   refine WL.no rfl rfl (jt2 rfl (lt rfl (lh))) (decide_eq_false h2) rfl ?_
   refine WL.x (X.pickF (jt4 rfl (lh)) (decide_eq_false h2) lc) rfl ?_
   refine WL.x (X.asg (lh)) rfl ?_
   refine WL.e1 Nx.thn 2 (lh) ?_
   intro σ3 s2
   refine W.ret1 Nx.f1 s2 ?_
   exact ⟨congrArg Value.bool (oneL_out (fun h => h2 h.2)).symm, rfl⟩
 ·
  refine WL.no rfl rfl (lh) (decide_eq_false h1) rfl ?_
  refine WL.no rfl rfl (lt rfl (lh)) (decide_eq_false h1) rfl ?_
  refine WL.x (X.pickF (jt2 rfl (lh)) (decide_eq_false h1) lc) rfl ?_
  refine WL.x (X.mv (lh)) rfl ?_
  refine WL.no rfl rfl (lh) rfl rfl ?_
  refine WL.no rfl rfl (lt rfl (lh)) rfl rfl ?_
  refine WL.no rfl rfl (jt2 rfl (lh)) rfl rfl ?_
  refine WL.no rfl rfl (jt2 rfl (lt rfl (lh))) rfl rfl ?_
  refine WL.x (X.pickF (jt4 rfl (lh)) rfl lc) rfl ?_
  refine WL.x (X.asg (lh)) rfl ?_
  refine WL.e1 Nx.thn 2 (lh) ?_
  intro σ4 s2
  refine W.ret1 Nx.f1 s2 ?_
  exact ⟨congrArg Value.bool (oneL_out (fun h => h1 h.1)).symm, rfl⟩

def clsV : List Value := [.int .i64 1, .int .i64 1, .int .i64 300, .int .i64 2, .int .i64 3, .int .i64 300, .int .i64 4, .int .i64 3, .int .i64 1, .int .i64 4, .int .i64 7, .int .i64 300]
theorem cls_at {k : Int} (h : okK k) : clsV.toArray.extract ((k - 8).toNat * 3) ((k - 8).toNat * 3 + 3) = [Value.int .i64 (wantN k : Int), .int .i64 (baseN k : Int), .int .i64 (mostN k : Int)].toArray := by
  rcases okK_cases h with rfl | rfl | rfl | rfl <;> rfl
theorem classes_ok (w : World) :
  Sg.Ret Tryd.prog 34 #[] w fun v w' => v = .agg clsV.toArray ∧ Ch0 w w' := by
 refine enterG (n := 6) (l := []) Tryd.func34 rfl rfl rfl rfl ?_
 refine W.g0 ?_; intro σ
 refine W.seq ?_
 refine W.region ?_
 refine WL.alloc el67 rfl ?_
 intro w1 u0_0; have hu0_0 := u0_0.at_; have cu0_0 := u0_0.ch; have zu0_0 := u0_0.size
 refine WL.e1 Nx.thn 0 (lh) ?_
 intro σ1 s0
 refine W.seq ?_
 refine W.region ?_
 refine WL.x (X.build bd43 (pcons lc (pcons lc (pcons lc pnil))) rfl (rfl : _ = [_, _, _])) rfl ?_
 refine WL.x (X.build bd43 (pcons lc (pcons lc (pcons lc pnil))) rfl (rfl : _ = [_, _, _])) rfl ?_
 refine WL.x (X.build bd43 (pcons lc (pcons lc (pcons lc pnil))) rfl (rfl : _ = [_, _, _])) rfl ?_
 refine WL.x (X.build bd43 (pcons lc (pcons lc (pcons lc pnil))) rfl (rfl : _ = [_, _, _])) rfl ?_
 refine WL.x (v := .agg clsV.toArray) (X.buildA (vs := [_, _, _, _]) (size := 3) Tryd.underlying67 (show Tryd.prog.info? 67 = some _ from rfl) rfl rfl (show Tryd.prog.info? 43 = some _ from rfl) rfl (by decide) (pcons (jt2 rfl (lt rfl (lh))) (pcons (jt2 rfl (lh)) (pcons (lt rfl (lh)) (pcons (lh) pnil)))) (fun u hu => by simp only [List.mem_cons, List.not_mem_nil, or_false] at hu; rcases hu with rfl | rfl | rfl | rfl <;> rfl)) rfl ?_
 refine WL.storeS (vs := clsV) ag67 (jt4 rfl (lt rfl (s0))) (lh) rfl rfl hu0_0 (by decide) ?_
 intro w2 us; have cst := us.ch
 have hres : w2.heap[w.heap.size]? = some (.cells clsV.toArray 67 (0, 0)) := us.at_
 have hcl := cu0_0.trans cst (H := fun _ => False) (fun _ _ e => e) (fun i hi e => by (try dsimp only at e); omega)
 refine WL.e1 Nx.thn 0 (jt4 rfl (lt rfl (s0))) ?_
 intro σ2 s0
 refine W.retG Nx.fG ⟨[_], (.cell s0 (by assumption) (by exact ag67) .nil), ?_⟩
 exact ⟨rfl, hcl⟩
set_option maxHeartbeats 800000 in
theorem of_in (k : Int) (r : Bool) (w : World) (hk : okK k) :
  Sg.Ret Tryd.prog 16 #[.int .i64 k, .bool r] w fun v w' => v = .tuple #[.agg #[.int .i64 (wantN k : Int), .int .i64 (othN k r : Int), .int .i64 (mostN k : Int)], .bool true] ∧ Ch0 w w' := by
 have hk2 := hk
 unfold okK at hk2
 refine enterG (n := 24) (l := [.int .i64 k, .bool r]) Tryd.func16 rfl rfl rfl rfl ?_
 refine W.g2 0 1 (v1 := .int .i64 k) (v2 := .bool r) rfl rfl ?_; intro σ s0 s1
 refine W.seq ?_
 refine W.region ?_
 refine WL.alloc el43 rfl ?_
 intro w1 u0_0; have hu0_0 := u0_0.at_; have cu0_0 := u0_0.ch; have zu0_0 := u0_0.size
 refine WL.x (X.asg lc) rfl ?_
 refine WL.e3 Nx.thn 0 1 4 (jt2 rfl (s0)) (jt2 rfl (s1)) (lt rfl (lh)) ?_
 intro σ1 s0 s1 s4
 refine W.seq ?_
 refine W.seq ?_
 refine W.region ?_
 refine WL.x (X.mv (s0)) rfl ?_
 refine WL.x (X.lss (lh) lc) rfl ?_
 refine WL.x (X.mv (lh)) rfl ?_
 refine WL.yes rfl rfl (lh) (decide_eq_false (by omega)) ?_
 refine WL.x (X.mv (jt2 rfl (lt rfl (s0)))) rfl ?_
 refine WL.yes rfl rfl (lt rfl (lh)) (decide_eq_false (by omega)) ?_
 refine WL.x (X.gtr (lh) lc) rfl ?_
 refine WL.x (X.pickF (jt2 rfl (lh)) (decide_eq_false (by omega)) (lh)) rfl ?_
 refine WL.e4 Nx.thn 0 1 4 12 (jt4 rfl (jt2 rfl (s0))) (jt4 rfl (jt2 rfl (s1))) (jt4 rfl (jt2 rfl (s4))) (lh) ?_
 intro σ2 s0 s1 s4 s12
 refine W.cndN s12 (by omega) ?_
 refine W.skip Nx.thn ?_
 refine W.seq ?_
 refine W.region ?_
 refine WL.call0 ce34  (classes_ok w1) rfl ?_
 rintro _ w2 ⟨rfl, c1⟩
 have hz4 : w2.heap[w.heap.size]? = some (.cells #[Value.int .i64 0, .int .i64 0, .int .i64 0] 43 (0, 0)) := c1.at0 hu0_0
 have hcl := cu0_0.trans0 c1
 refine WL.x (X.mv (lt rfl (s0))) rfl ?_
 refine WL.x (X.sub (lh) lc (by omega) (by omega)) rfl ?_
 refine WL.x (v := .agg ([Value.int .i64 (wantN k : Int), .int .i64 (baseN k : Int), .int .i64 (mostN k : Int)]).toArray) (X.indexAS Tryd.underlying67 ag43 (jt2 rfl (lh)) (lh) (by omega) (by omega) (cls_at hk)) rfl ?_
 refine WL.alloc el43 rfl ?_
 intro w3 u3_4; have hu3_4 := u3_4.at_; have cu3_4 := u3_4.ch; have zu3_4 := u3_4.size
 refine WL.storeS (vs := [Value.int .i64 (wantN k : Int), .int .i64 (baseN k : Int), .int .i64 (mostN k : Int)]) ag43 (lh) (lt rfl (lh)) rfl rfl hu3_4 (by decide) ?_
 intro w4 us; have cst := us.ch
 have hc6 : w4.heap[w2.heap.size]? = some (.cells #[Value.int .i64 (wantN k : Int), .int .i64 (baseN k : Int), .int .i64 (mostN k : Int)] 43 (0, 0)) := us.at_
 have hz1 := lt_of_blk hu0_0
 have hz2 := c1.size
 have hz4 := cst.at (cu3_4.at0 hz4) (fun e => by (try dsimp only at e); omega)
 have hcl := (hcl.trans0 cu3_4).trans cst (H := fun _ => False) (fun _ _ e => e) (fun i hi e => by (try dsimp only at e); omega)
 refine WL.e3 Nx.thn 1 4 6 (jt4 rfl (lt rfl (s1))) (jt4 rfl (lt rfl (s4))) (lh) ?_
 intro σ3 s1 s4 s6
 have qo2 := s4
 have qo3 := s6
 refine W.seqJ (fun σ' w' => (σ' 4 = σ3 4 ∧ σ' 6 = σ3 6 ∧ True) ∧ (w').heap[w2.heap.size]? = some (.cells #[Value.int .i64 (wantN k : Int), .int .i64 (othN k r : Int), .int .i64 (mostN k : Int)] 43 (0, 0)) ∧ (w').heap[w.heap.size]? = some (.cells #[Value.int .i64 0, .int .i64 0, .int .i64 0] 43 (0, 0)) ∧ Ch0 w w') ?_ ?_
 ·
  refine W.seq ?_
  refine W.region ?_
  refine WL.x (X.mv (s1)) rfl ?_
  refine WL.e3 Nx.thn 4 6 18 (lt rfl (s4)) (lt rfl (s6)) (lh) ?_
  intro σ4 s4 s6 s18
  refine W.cnd s18 (fun hr => ?_) (fun hr => ?_)
  ·
   refine W.region ?_
   refine WL.x (X.fieldAddr fd43_1 (s6)) rfl ?_
   refine WL.x (X.load pl3 (lh) hc6 (v := .int .i64 (baseN k : Int)) rfl) rfl ?_
   refine WL.x (v := .int .i64 ((baseN k ||| 8 : Nat) : Int)) (by rw [← or_nat (by have := base_lt k; omega) (by decide)]; exact X.or (lh) lc) rfl ?_
   refine WL.x (X.fieldAddr fd43_1 (jt2 rfl (lt rfl (s6)))) rfl ?_
   refine WL.store el3 (lh) (lt rfl (lh)) rfl hc6 (by (simp; done)) ?_
   intro w5 us5; have cst5 := us5.ch
   have hc6 : w5.heap[w2.heap.size]? = some (.cells #[Value.int .i64 (wantN k : Int), .int .i64 ((baseN k ||| 8 : Nat) : Int), .int .i64 (mostN k : Int)] 43 (0, 0)) := us5.at_
   have hz4 := cst5.at hz4 (fun e => by (try dsimp only at e); omega)
   have hcl := hcl.trans cst5 (H := fun _ => False) (fun _ _ e => e) (fun i hi e => by (try dsimp only at e); omega)
   refine WL.e2 Nx.thn 4 6 (jt4 rfl (s4)) (jt4 rfl (s6)) ?_
   intro σ5 s4 s6
   refine ⟨⟨s4.trans qo2.symm, s6.trans qo3.symm, trivial⟩, (by unfold othN; rw [if_pos hr]; exact hc6), hz4, hcl⟩
  ·
   refine W.skip Nx.thn ?_
   refine ⟨⟨s4.trans qo2.symm, s6.trans qo3.symm, trivial⟩, (by unfold othN; rw [if_neg (by rw [hr]; decide)]; exact hc6), hz4, hcl⟩
 ·
  rintro σ6 w6 ⟨⟨f4, f6, _⟩, hc6, hz4, hcl⟩
  have s4 := f4.trans qo2
  have s6 := f6.trans qo3
  refine W.seq ?_
  refine W.region ?_
  refine WL.x (X.loadBox (vs := [Value.int .i64 (wantN k : Int), .int .i64 (othN k r : Int), .int .i64 (mostN k : Int)]) ag43 (s6) hc6 rfl) rfl ?_
  refine WL.storeS (vs := [Value.int .i64 (wantN k : Int), .int .i64 (othN k r : Int), .int .i64 (mostN k : Int)]) ag43 (lt rfl (s4)) (lh) rfl rfl hz4 (by decide) ?_
  intro w7 us9; have cst9 := us9.ch
  have hres : w7.heap[w.heap.size]? = some (.cells #[Value.int .i64 (wantN k : Int), .int .i64 (othN k r : Int), .int .i64 (mostN k : Int)] 43 (0, 0)) := us9.at_
  have hclr := hcl.trans cst9 (H := fun _ => False) (fun _ _ e => e) (fun i hi e => by (try dsimp only at e); omega)
  refine WL.x (X.asg lc) rfl ?_
  refine WL.e2 Nx.thn 4 5 (jt2 rfl (s4)) (lh) ?_
  intro σ7 s4 s5
  refine W.retG Nx.fG ⟨[_, _], (.cell s4 (by assumption) (by exact ag43) (.tmp s5 .nil)), ?_⟩
  exact ⟨rfl, hclr⟩
set_option maxHeartbeats 800000 in
theorem of_out (k : Int) (r : Bool) (w : World) (hk : ¬ okK k) :
  Sg.Ret Tryd.prog 16 #[.int .i64 k, .bool r] w fun v w' => v = .tuple #[.agg #[.int .i64 0, .int .i64 0, .int .i64 0], .bool false] ∧ Ch0 w w' := by
 have hk2 := hk
 unfold okK at hk2
 refine enterG (n := 24) (l := [.int .i64 k, .bool r]) Tryd.func16 rfl rfl rfl rfl ?_
 refine W.g2 0 1 (v1 := .int .i64 k) (v2 := .bool r) rfl rfl ?_; intro σ s0 s1
 refine W.seq ?_
 refine W.region ?_
 refine WL.alloc el43 rfl ?_
 intro w1 u0_0; have hu0_0 := u0_0.at_; have cu0_0 := u0_0.ch; have zu0_0 := u0_0.size
 refine WL.x (X.asg lc) rfl ?_
 refine WL.e3 Nx.thn 0 1 4 (jt2 rfl (s0)) (jt2 rfl (s1)) (lt rfl (lh)) ?_
 intro σ1 s0 s1 s4
 refine W.seq ?_
 refine W.seq ?_
 refine W.region ?_
 refine WL.x (X.mv (s0)) rfl ?_
 refine WL.x (X.lss (lh) lc) rfl ?_
 refine WL.x (X.mv (lh)) rfl ?_
 refine WL.splitp (lh) (fun h8 => ?_) (fun h8 => ?_)
 ·
  refine WL.no rfl rfl (lh) (decide_eq_true h8) rfl ?_
  refine WL.no rfl rfl (lt rfl (lh)) (decide_eq_true h8) rfl ?_
  refine WL.x (X.pickT (jt2 rfl (lh)) (decide_eq_true h8) lc) rfl ?_
  refine WL.e4 Nx.thn 0 1 4 12 (jt4 rfl (jt2 rfl (s0))) (jt4 rfl (jt2 rfl (s1))) (jt4 rfl (jt2 rfl (s4))) (lh) ?_
  intro σ2 s0 s1 s4 s12
  refine W.cndT s12 ?_
  refine W.seq ?_
  refine W.region ?_
  refine WL.x (X.build bd43 pnil rfl (rfl : _ = [_, _, _])) rfl ?_
  refine WL.storeS (vs := [Value.int .i64 0, .int .i64 0, .int .i64 0]) ag43 (lt rfl (s4)) (lh) rfl rfl hu0_0 (by decide) ?_
  intro w2 us9; have cst9 := us9.ch
  have hres : w2.heap[w.heap.size]? = some (.cells #[Value.int .i64 0, .int .i64 0, .int .i64 0] 43 (0, 0)) := us9.at_
  have hclr := cu0_0.trans cst9 (H := fun _ => False) (fun _ _ e => e) (fun i hi e => by (try dsimp only at e); omega)
  refine WL.x (X.asg lc) rfl ?_
  refine WL.e2 Nx.thn 4 5 (jt2 rfl (s4)) (lh) ?_
  intro σ3 s4 s5
  refine W.retG (Nx.rthn Nx.fG) ⟨[_, _], (.cell s4 (by assumption) (by exact ag43) (.tmp s5 .nil)), ?_⟩
  exact ⟨rfl, hclr⟩
 ·
  refine WL.yes rfl rfl (lh) (decide_eq_false h8) ?_
  refine WL.x (X.mv (jt2 rfl (lt rfl (s0)))) rfl ?_
  refine WL.yes rfl rfl (lt rfl (lh)) (decide_eq_false h8) ?_
  refine WL.x (X.gtr (lh) lc) rfl ?_
  refine WL.x (X.pickF (jt2 rfl (lh)) (decide_eq_false h8) (lh)) rfl ?_
  refine WL.e4 Nx.thn 0 1 4 12 (jt4 rfl (jt2 rfl (s0))) (jt4 rfl (jt2 rfl (s1))) (jt4 rfl (jt2 rfl (s4))) (lh) ?_
  intro σ4 s0 s1 s4 s12
  refine W.cndY s12 (by omega) ?_
  refine W.seq ?_
  refine W.region ?_
  refine WL.x (X.build bd43 pnil rfl (rfl : _ = [_, _, _])) rfl ?_
  refine WL.storeS (vs := [Value.int .i64 0, .int .i64 0, .int .i64 0]) ag43 (lt rfl (s4)) (lh) rfl rfl hu0_0 (by decide) ?_
  intro w3 us9; have cst9 := us9.ch
  have hres : w3.heap[w.heap.size]? = some (.cells #[Value.int .i64 0, .int .i64 0, .int .i64 0] 43 (0, 0)) := us9.at_
  have hclr := cu0_0.trans cst9 (H := fun _ => False) (fun _ _ e => e) (fun i hi e => by (try dsimp only at e); omega)
  refine WL.x (X.asg lc) rfl ?_
  refine WL.e2 Nx.thn 4 5 (jt2 rfl (s4)) (lh) ?_
  intro σ5 s4 s5
  refine W.retG (Nx.rthn Nx.fG) ⟨[_, _], (.cell s4 (by assumption) (by exact ag43) (.tmp s5 .nil)), ?_⟩
  exact ⟨rfl, hclr⟩
theorem of_ok (k : Int) (r : Bool) (w : World) : Sg.Ret Tryd.prog 16 #[.int .i64 k, .bool r] w fun v w' => (∃ wv ov mv : Int, v = .tuple #[.agg #[.int .i64 wv, .int .i64 ov, .int .i64 mv], .bool (decide (okK k))] ∧ (okK k → wv = (wantN k : Int) ∧ ov = (othN k r : Int) ∧ mv = (mostN k : Int))) ∧ Ch0 w w' := by
  by_cases hk : okK k
  · exact Ret.mono (of_in k r w hk) fun v w' h => ⟨⟨_, _, _, by rw [decide_eq_true hk]; exact h.1, fun _ => ⟨rfl, rfl, rfl⟩⟩, h.2⟩
  · exact Ret.mono (of_out k r w hk) fun v w' h => ⟨⟨_, _, _, by rw [decide_eq_false hk]; exact h.1, fun h9 => absurd h9 hk⟩, h.2⟩

end Go.Proofs.YtnfkblboimkcjaaDoor
end

section
set_option linter.unusedVariables false
set_option linter.unusedSimpArgs false
namespace Sg
section
variable {α : Type}
def zs (c : α → Bool) (l : List α) : List α := l.filter (fun x => !c x)
def os (c : α → Bool) (l : List α) : List α := l.filter c
/-- Those of the first kind ahead. -/
def stb (c : α → Bool) (l : List α) : List α := zs c l ++ os c l
def Srt (c : α → Bool) (l : List α) : Prop := stb c l = l
def mg (c : α → Bool) (l r : List α) : List α := zs c l ++ zs c r ++ (os c l ++ os c r)
variable {c : α → Bool}
theorem zs_app (l r : List α) : zs c (l ++ r) = zs c l ++ zs c r := List.filter_append ..
theorem os_app (l r : List α) : os c (l ++ r) = os c l ++ os c r := List.filter_append ..
theorem zs_zs (l : List α) : zs c (zs c l) = zs c l := by unfold zs; rw [List.filter_filter]; congr 1; funext x; cases c x <;> rfl
theorem os_os (l : List α) : os c (os c l) = os c l := by unfold os; rw [List.filter_filter]; congr 1; funext x; cases c x <;> rfl
theorem os_zs (l : List α) : os c (zs c l) = [] := by unfold os zs; rw [List.filter_filter]; refine List.filter_eq_nil_iff.2 fun x _ => ?_; cases c x <;> simp
theorem zs_os (l : List α) : zs c (os c l) = [] := by unfold os zs; rw [List.filter_filter]; refine List.filter_eq_nil_iff.2 fun x _ => ?_; cases c x <;> simp
theorem zs_mem {l : List α} {x : α} (h : x ∈ zs c l) : c x = false := by have := (List.mem_filter.1 h).2; simpa using this
theorem os_mem {l : List α} {x : α} (h : x ∈ os c l) : c x = true := (List.mem_filter.1 h).2
theorem os_none {l : List α} (h : ∀ x ∈ l, c x = false) : os c l = [] := by unfold os; exact List.filter_eq_nil_iff.2 fun x hx => by rw [h x hx]; simp
theorem zs_none {l : List α} (h : ∀ x ∈ l, c x = true) : zs c l = [] := by unfold zs; exact List.filter_eq_nil_iff.2 fun x hx => by rw [h x hx]; simp
theorem zs_nil : zs c ([] : List α) = [] := rfl
theorem os_nil : os c ([] : List α) = [] := rfl
theorem stb_len (l : List α) : (stb c l).length = l.length := by
  induction l with
  | nil => rfl
  | cons x l ih =>
    unfold stb zs os at ih ⊢
    rw [List.length_append] at ih ⊢
    cases h : c x <;> simp [List.filter_cons, h] <;> omega
theorem mg_len (l r : List α) : (mg c l r).length = l.length + r.length := by
  have h1 := stb_len (c := c) l
  have h2 := stb_len (c := c) r
  unfold stb at h1 h2
  unfold mg
  simp only [List.length_append] at h1 h2 ⊢
  omega
theorem zs_stb (l : List α) : zs c (stb c l) = zs c l := by unfold stb; rw [zs_app, zs_zs, zs_os, List.append_nil]
theorem os_stb (l : List α) : os c (stb c l) = os c l := by unfold stb; rw [os_app, os_zs, os_os, List.nil_append]
theorem srt_stb (l : List α) : Srt c (stb c l) := by show stb c (stb c l) = stb c l; rw [show stb c (stb c l) = zs c (stb c l) ++ os c (stb c l) from rfl, zs_stb, os_stb]; rfl
theorem mg_stb (l r : List α) : mg c (stb c l) (stb c r) = stb c (l ++ r) := by
  unfold mg
  rw [zs_stb, zs_stb, os_stb, os_stb]
  unfold stb
  rw [zs_app, os_app]
theorem mg_nil_l {r : List α} (h : Srt c r) : mg c [] r = r := by unfold mg; rw [zs_nil, os_nil]; exact h
theorem mg_nil_r {l : List α} (h : Srt c l) : mg c l [] = l := by unfold mg; rw [zs_nil, os_nil, List.append_nil, List.append_nil]; exact h
/-- Sorted: what comes behind one of the second kind is of it. -/
theorem Srt.mono {l : List α} (h : Srt c l) {i j : Nat} (hij : i ≤ j) (hj : j < l.length) (hi : c (l[i]'(by omega)) = true) : c l[j] = true := by
  have hlen : (zs c l).length ≤ i := by
    refine Nat.le_of_not_lt fun hlt => ?_
    have e : l[i]'(by omega) = (zs c l)[i] := by
      have : l[i]? = (stb c l)[i]? := by rw [h]
      unfold stb at this
      rw [List.getElem?_append_left hlt, List.getElem?_eq_getElem (by omega), List.getElem?_eq_getElem hlt] at this
      exact Option.some.inj this
    rw [e] at hi
    have := zs_mem (List.getElem_mem hlt)
    rw [this] at hi; cases hi
  have hjo : j - (zs c l).length < (os c l).length := by
    have := stb_len (c := c) l
    unfold stb at this
    rw [List.length_append] at this
    omega
  have e : l[j] = (os c l)[j - (zs c l).length] := by
    have : l[j]? = (stb c l)[j]? := by rw [h]
    unfold stb at this
    rw [List.getElem?_append_right (by omega), List.getElem?_eq_getElem hj, List.getElem?_eq_getElem hjo] at this
    exact Option.some.inj this
  rw [e]
  exact os_mem (List.getElem_mem hjo)
theorem Srt.app {l r : List α} (h : Srt c (l ++ r)) : Srt c l ∧ Srt c r ∧ (os c l = [] ∨ zs c r = []) := by
  have hz : os c l = [] ∨ zs c r = [] := by
    by_cases e : os c l = []
    · exact .inl e
    · refine .inr (zs_none fun x hx => ?_)
      obtain ⟨y, hy⟩ := List.exists_mem_of_ne_nil _ e
      have hyl : y ∈ l := (List.mem_filter.1 hy).1
      obtain ⟨i, hi, rfl⟩ := List.mem_iff_getElem.1 hyl
      obtain ⟨j, hj, rfl⟩ := List.mem_iff_getElem.1 hx
      have := h.mono (i := i) (j := l.length + j) (by omega) (by rw [List.length_append]; omega) (by rw [List.getElem_append_left hi]; exact os_mem hy)
      rw [List.getElem_append_right (by omega)] at this
      simpa using this
  have h0 : zs c l ++ zs c r ++ (os c l ++ os c r) = l ++ r := by
    have := h
    unfold Srt stb at this
    rwa [zs_app, os_app] at this
  have hll := stb_len (c := c) l
  unfold stb at hll
  rw [List.length_append] at hll
  have h2 : stb c l ++ stb c r = l ++ r := by
    rw [← h0]
    unfold stb
    rcases hz with e | e <;> rw [e] <;> simp
  obtain ⟨e1, e2⟩ := List.append_inj h2 (stb_len l)
  exact ⟨e1, e2, hz⟩
/-- Merging falls into two mergings. -/
theorem mg_split {L1 L2 R1 R2 : List α} (hL : Srt c (L1 ++ L2)) (hR : Srt c (R1 ++ R2)) (hA : R1 = [] ∨ L2 = [] ∨ (zs c L2 = [] ∧ os c R1 = [])) (hB : R2 = [] ∨ L1 = [] ∨ zs c R2 = [] ∨ os c L1 = []) :
    mg c (L1 ++ L2) (R1 ++ R2) = mg c L1 R1 ++ mg c L2 R2 := by
  have sL := hL.app.2.2
  have sR := hR.app.2.2
  unfold mg
  rw [zs_app, zs_app, os_app, os_app]
  rcases hA with rfl | rfl | ⟨a1, a2⟩ <;> rcases hB with rfl | rfl | b | b <;> rcases sL with s | s <;> rcases sR with r | r <;> simp_all [zs_nil, os_nil]
def swp (D : List α) (i j : Nat) : List α :=
  match D[i]?, D[j]? with
  | some x, some y => (D.set i y).set j x
  | _, _ => D
theorem set_at (p q : List α) (x y : α) : (p ++ x :: q).set p.length y = p ++ y :: q := by rw [List.set_append_right _ _ (Nat.le_refl _)]; simp
theorem swp_split (p m q : List α) (x y : α) : swp (p ++ x :: (m ++ y :: q)) p.length (p.length + 1 + m.length) = p ++ y :: (m ++ x :: q) := by
  have e1 : (p ++ x :: (m ++ y :: q))[p.length]? = some x := by rw [List.getElem?_append_right (Nat.le_refl _)]; simp
  have e2 : (p ++ x :: (m ++ y :: q))[p.length + 1 + m.length]? = some y := by
    rw [List.getElem?_append_right (by omega), show p.length + 1 + m.length - p.length = m.length + 1 by omega, List.getElem?_cons_succ, List.getElem?_append_right (Nat.le_refl _)]; simp
  unfold swp
  rw [e1, e2]
  show ((p ++ x :: (m ++ y :: q)).set p.length y).set (p.length + 1 + m.length) x = _
  rw [set_at]
  have h := set_at (p ++ y :: m) q y x
  rw [show (p ++ y :: m).length = p.length + 1 + m.length by simp; omega, List.append_assoc, List.append_assoc] at h
  simpa using h
theorem swp_split' (p m q : List α) (x y : α) : swp (p ++ x :: (m ++ y :: q)) (p.length + 1 + m.length) p.length = p ++ y :: (m ++ x :: q) := by
  have e1 : (p ++ x :: (m ++ y :: q))[p.length]? = some x := by rw [List.getElem?_append_right (Nat.le_refl _)]; simp
  have e2 : (p ++ x :: (m ++ y :: q))[p.length + 1 + m.length]? = some y := by
    rw [List.getElem?_append_right (by omega), show p.length + 1 + m.length - p.length = m.length + 1 by omega, List.getElem?_cons_succ, List.getElem?_append_right (Nat.le_refl _)]; simp
  unfold swp
  rw [e1, e2]
  show ((p ++ x :: (m ++ y :: q)).set (p.length + 1 + m.length) x).set p.length y = _
  have h := set_at (p ++ x :: m) q y x
  rw [show (p ++ x :: m).length = p.length + 1 + m.length by simp; omega, List.append_assoc, List.append_assoc] at h
  have h' : (p ++ x :: (m ++ y :: q)).set (p.length + 1 + m.length) x = p ++ x :: (m ++ x :: q) := by simpa using h
  rw [h', set_at]
/-- Two runs half exchanged. -/
def swr (p X m Y q : List α) (k : Nat) : List α := p ++ (Y.take k ++ X.drop k) ++ m ++ (X.take k ++ Y.drop k) ++ q
theorem swr_zero (p X m Y q : List α) : swr p X m Y q 0 = p ++ X ++ m ++ Y ++ q := by unfold swr; simp
theorem swr_all (p X m Y q : List α) (h : X.length = Y.length) : swr p X m Y q X.length = p ++ Y ++ m ++ X ++ q := by unfold swr; rw [List.take_length, List.drop_length, h, List.take_length, List.drop_length]; simp
theorem swr_step {p X m Y q : List α} (h : X.length = Y.length) {k : Nat} (hk : k < X.length) : swp (swr p X m Y q k) (p.length + k) (p.length + X.length + m.length + k) = swr p X m Y q (k + 1) := by
  have hky : k < Y.length := by omega
  have dX : X.drop k = X[k] :: X.drop (k + 1) := List.drop_eq_getElem_cons hk
  have dY : Y.drop k = Y[k] :: Y.drop (k + 1) := List.drop_eq_getElem_cons hky
  have tX : X.take (k + 1) = X.take k ++ [X[k]] := List.take_succ_eq_append_getElem hk
  have tY : Y.take (k + 1) = Y.take k ++ [Y[k]] := List.take_succ_eq_append_getElem hky
  have e1 : swr p X m Y q k = (p ++ Y.take k) ++ X[k] :: ((X.drop (k + 1) ++ m ++ X.take k) ++ Y[k] :: (Y.drop (k + 1) ++ q)) := by
    unfold swr
    rw [dX, dY]
    simp only [List.append_assoc, List.cons_append, List.nil_append]
  have e2 : swr p X m Y q (k + 1) = (p ++ Y.take k) ++ Y[k] :: ((X.drop (k + 1) ++ m ++ X.take k) ++ X[k] :: (Y.drop (k + 1) ++ q)) := by
    unfold swr
    rw [tX, tY]
    simp only [List.append_assoc, List.cons_append, List.nil_append]
  have h1 : (p ++ Y.take k).length = p.length + k := by rw [List.length_append, List.length_take]; omega
  have h2 : (X.drop (k + 1) ++ m ++ X.take k).length + 1 + (p.length + k) = p.length + X.length + m.length + k := by simp only [List.length_append, List.length_take, List.length_drop]; omega
  rw [e1, e2]
  have := swp_split (p ++ Y.take k) (X.drop (k + 1) ++ m ++ X.take k) (Y.drop (k + 1) ++ q) X[k] Y[k]
  rw [h1, show p.length + k + 1 + (X.drop (k + 1) ++ m ++ X.take k).length = p.length + X.length + m.length + k by omega] at this
  exact this
/-- One goes back by one. -/
theorem swp_back (p q : List α) (y x : α) : swp (p ++ y :: x :: q) (p.length + 1) p.length = p ++ x :: y :: q := by
  have := swp_split' p [] q y x
  simpa using this
theorem swp_on (p q : List α) (x y : α) : swp (p ++ x :: y :: q) p.length (p.length + 1) = p ++ y :: x :: q := by
  have := swp_split p [] q x y
  simpa using this
theorem stb_take1 (X : List α) : stb c (X.take 1) = X.take 1 := by
  cases X with
  | nil => rfl
  | cons x l => unfold stb zs os; cases h : c x <;> simp [h]
theorem ins_at {p Z O1 TL : List α} {x : α} (h : p.length + Z.length + O1.length < (p ++ Z ++ O1 ++ x :: TL).length) : (p ++ Z ++ O1 ++ x :: TL)[p.length + Z.length + O1.length]'h = x := by
  rw [List.getElem_append_right (by simp only [List.length_append]; omega)]
  simp only [List.length_append, Nat.sub_self, List.getElem_cons_zero]
theorem ins_prev {p Z O1 TL : List α} {x : α} (hz : ∀ y ∈ Z, c y = false) (ho : ∀ y ∈ O1, c y = true) (h0 : 0 < Z.length + O1.length) (h : p.length + Z.length + O1.length - 1 < (p ++ Z ++ O1 ++ x :: TL).length) :
    c ((p ++ Z ++ O1 ++ x :: TL)[p.length + Z.length + O1.length - 1]'h) = decide (0 < O1.length) := by
  rw [List.getElem_append_left (by simp only [List.length_append]; omega)]
  by_cases e : 0 < O1.length
  · rw [List.getElem_append_right (by simp only [List.length_append]; omega), decide_eq_true e]
    exact ho _ (List.getElem_mem _)
  · rw [List.getElem_append_left (by simp only [List.length_append]; omega), List.getElem_append_right (by omega), decide_eq_false e]
    exact hz _ (List.getElem_mem _)
theorem ins_done {T O1 O2 : List α} {x : α} (hO : O1 ++ O2 = os c T) (h2 : c x = true → O2 = []) (hcs : c x = true ∨ O1 = []) : zs c T ++ O1 ++ x :: O2 = stb c (T ++ [x]) := by
  unfold stb
  rw [zs_app, os_app]
  cases hx : c x with
  | true =>
    have e2 := h2 hx
    subst e2
    rw [List.append_nil] at hO
    rw [hO]
    simp [zs, os, hx]
  | false =>
    have e1 : O1 = [] := by
      rcases hcs with h | h
      · rw [hx] at h; cases h
      · exact h
    subst e1
    rw [List.nil_append] at hO
    rw [hO]
    simp [zs, os, hx]
theorem last_of {l : List α} (h : 0 < l.length) : ∃ k y, l = k ++ [y] := ⟨l.dropLast, l.getLast (fun e => by rw [e] at h; exact absurd h (by simp)), (List.dropLast_concat_getLast _).symm⟩
def bt (c : α → Bool) (l : List α) (i : Nat) : Bool := match l[i]? with | some x => c x | none => false
theorem bt_at {l : List α} {i : Nat} (h : i < l.length) : bt c l i = c l[i] := by unfold bt; rw [List.getElem?_eq_getElem h]
theorem zs_len_le (l : List α) : (zs c l).length ≤ l.length := List.length_filter_le ..
theorem srt_bit {l : List α} (h : Srt c l) {i : Nat} (hi : i < l.length) : c l[i] = decide ((zs c l).length ≤ i) := by
  have hs : stb c l = l := h
  by_cases e : (zs c l).length ≤ i
  · rw [decide_eq_true e]
    have hjo : i - (zs c l).length < (os c l).length := by
      have := stb_len (c := c) l
      unfold stb at this
      rw [List.length_append] at this
      omega
    have e9 : l[i] = (os c l)[i - (zs c l).length] := by
      have : l[i]? = (stb c l)[i]? := by rw [hs]
      unfold stb at this
      rw [List.getElem?_append_right e, List.getElem?_eq_getElem hi, List.getElem?_eq_getElem hjo] at this
      exact Option.some.inj this
    rw [e9]
    exact os_mem (List.getElem_mem hjo)
  · rw [decide_eq_false e]
    have hlt : i < (zs c l).length := by omega
    have e9 : l[i] = (zs c l)[i] := by
      have : l[i]? = (stb c l)[i]? := by rw [hs]
      unfold stb at this
      rw [List.getElem?_append_left hlt, List.getElem?_eq_getElem hi, List.getElem?_eq_getElem hlt] at this
      exact Option.some.inj this
    rw [e9]
    exact zs_mem (List.getElem_mem hlt)
theorem bt_srt {l : List α} (h : Srt c l) {i : Nat} (hi : i < l.length) : bt c l i = decide ((zs c l).length ≤ i) := by rw [bt_at hi, srt_bit h hi]
theorem take_zs {l : List α} (h : Srt c l) : l.take (zs c l).length = zs c l := by
  have hs : stb c l = l := h
  have : (stb c l).take (zs c l).length = zs c l := by unfold stb; rw [List.take_append_of_le_length (Nat.le_refl _), List.take_length]
  rwa [hs] at this
theorem drop_zs {l : List α} (h : Srt c l) : l.drop (zs c l).length = os c l := by
  have hs : stb c l = l := h
  have : (stb c l).drop (zs c l).length = os c l := by unfold stb; rw [List.drop_append_of_le_length (Nat.le_refl _), List.drop_length, List.nil_append]
  rwa [hs] at this
theorem sym_split {L R : List α} (hL : Srt c L) (hR : Srt c R) {u v : Nat} (hu : u ≤ L.length) (hv : v ≤ R.length) (hA : v = 0 ∨ u = L.length ∨ (bt c R (v - 1) = false ∧ bt c L u = true))
    (hB : v = R.length ∨ u = 0 ∨ bt c R v = true ∨ bt c L (u - 1) = false) : mg c L R = mg c (L.take u) (R.take v) ++ mg c (L.drop u) (R.drop v) := by
  have h := mg_split (c := c) (L1 := L.take u) (L2 := L.drop u) (R1 := R.take v) (R2 := R.drop v) (by rw [List.take_append_drop]; exact hL) (by rw [List.take_append_drop]; exact hR) ?_ ?_
  · rw [List.take_append_drop, List.take_append_drop] at h
    exact h
  · by_cases e1 : v = 0
    · left; rw [e1]; rfl
    by_cases e2 : u = L.length
    · right; left; rw [e2, List.drop_length]
    rcases hA with h | h | ⟨h1, h2⟩
    · exact absurd h e1
    · exact absurd h e2
    · right; right
      rw [bt_srt hR (by omega)] at h1
      rw [bt_srt hL (by omega)] at h2
      have h1 := of_decide_eq_false h1
      have h2 := of_decide_eq_true h2
      refine ⟨zs_none fun x hx => ?_, os_none fun x hx => ?_⟩
      · obtain ⟨i, hi, rfl⟩ := List.mem_iff_getElem.1 hx
        rw [List.length_drop] at hi
        rw [List.getElem_drop, srt_bit hL (by omega)]
        exact decide_eq_true (by omega)
      · obtain ⟨i, hi, rfl⟩ := List.mem_iff_getElem.1 hx
        rw [List.length_take] at hi
        rw [List.getElem_take, srt_bit hR (by omega)]
        exact decide_eq_false (by omega)
  · by_cases e1 : v = R.length
    · left; rw [e1, List.drop_length]
    by_cases e2 : u = 0
    · right; left; rw [e2]; rfl
    right; right
    rcases hB with h | h | h | h
    · exact absurd h e1
    · exact absurd h e2
    · left
      rw [bt_srt hR (by omega)] at h
      have h := of_decide_eq_true h
      refine zs_none fun x hx => ?_
      obtain ⟨i, hi, rfl⟩ := List.mem_iff_getElem.1 hx
      rw [List.length_drop] at hi
      rw [List.getElem_drop, srt_bit hR (by omega)]
      exact decide_eq_true (by omega)
    · right
      rw [bt_srt hL (by omega)] at h
      have h := of_decide_eq_false h
      refine os_none fun x hx => ?_
      obtain ⟨i, hi, rfl⟩ := List.mem_iff_getElem.1 hx
      rw [List.length_take] at hi
      rw [List.getElem_take, srt_bit hL (by omega)]
      exact decide_eq_false (by omega)
/-- One merged with many. -/
def t1 (c : α → Bool) (x : α) (R : List α) : Nat := if c x = true then (zs c R).length else 0
theorem t1_le (x : α) (R : List α) : t1 c x R ≤ R.length := by
  unfold t1
  split <;> first | exact zs_len_le R | omega
theorem mg_one_l {x : α} {R : List α} (hR : Srt c R) : mg c [x] R = R.take (t1 c x R) ++ x :: R.drop (t1 c x R) := by
  unfold t1 mg
  by_cases h : c x = true
  · rw [if_pos h, take_zs hR, drop_zs hR]
    simp [zs, os, h]
  · have h : c x = false := by simpa using h
    have hs : zs c R ++ os c R = R := hR
    rw [if_neg (by rw [h]; simp)]
    simp only [List.take_zero, List.drop_zero, List.nil_append]
    rw [show zs c [x] = [x] by simp [zs, h], show os c [x] = [] by simp [os, h]]
    simp [hs]
theorem less_one {x : α} {R : List α} (hR : Srt c R) {i : Nat} (hi : i < R.length) : (!c R[i] && c x) = decide (i < t1 c x R) := by
  rw [srt_bit hR hi]
  unfold t1
  cases h : c x
  · rw [if_neg (by simp), Bool.and_false]; exact (decide_eq_false (by omega)).symm
  · rw [if_pos rfl, Bool.and_true, ← decide_not]
    exact decide_eq_decide.2 (by omega)
def t2 (c : α → Bool) (L : List α) (y : α) : Nat := if c y = true then L.length else (zs c L).length
theorem t2_le (L : List α) (y : α) : t2 c L y ≤ L.length := by
  unfold t2
  split <;> first | exact zs_len_le L | omega
theorem mg_one_r {y : α} {L : List α} (hL : Srt c L) : mg c L [y] = L.take (t2 c L y) ++ y :: L.drop (t2 c L y) := by
  unfold t2 mg
  have hs : zs c L ++ os c L = L := hL
  by_cases h : c y = true
  · rw [if_pos h, List.take_length, List.drop_length]
    rw [show zs c [y] = [] by simp [zs, h], show os c [y] = [y] by simp [os, h], List.append_nil, ← List.append_assoc, hs]
  · have h : c y = false := by simpa using h
    rw [if_neg (by rw [h]; simp), take_zs hL, drop_zs hL]
    rw [show zs c [y] = [y] by simp [zs, h], show os c [y] = [] by simp [os, h]]
    simp
theorem less_oner {y : α} {L : List α} (hL : Srt c L) {i : Nat} (hi : i < L.length) : (!(!c y && c L[i])) = decide (i < t2 c L y) := by
  rw [srt_bit hL hi]
  unfold t2
  cases h : c y
  · rw [if_neg (by simp), Bool.not_false, Bool.true_and, ← decide_not]
    exact decide_eq_decide.2 (by omega)
  · rw [if_pos rfl]; exact (decide_eq_true hi).symm
def chk (c : α → Bool) (b : Nat) (l : List α) : List α := if h : b = 0 ∨ l.length ≤ b then stb c l else stb c (l.take b) ++ chk c b (l.drop b)
termination_by l.length
decreasing_by rw [List.length_drop]; omega
theorem chk_small {b : Nat} {l : List α} (h : l.length ≤ b) : chk c b l = stb c l := by rw [chk, dif_pos (.inr h)]
theorem chk_cut {b : Nat} {l r : List α} (h : l.length = b) (hb : 0 < b) : chk c b (l ++ r) = stb c l ++ chk c b r := by
  by_cases e : r = []
  · subst e
    rw [List.append_nil, chk_small (by omega), chk_small (by simp)]
    exact (List.append_nil _).symm
  · have h0 : 0 < r.length := List.length_pos_iff.2 e
    rw [chk, dif_neg (by rw [List.length_append]; omega), ← h, List.take_left', List.drop_left'] <;> rfl
theorem cut_at {l : List α} {b : Nat} (h : b ≤ l.length) : ∃ l1 l2, l = l1 ++ l2 ∧ l1.length = b := ⟨l.take b, l.drop b, (List.take_append_drop _ _).symm, by rw [List.length_take]; omega⟩
theorem fst_at {A B C D : List α} {e k : Nat} (h : e < B.length) (hk : k = A.length + e) (h' : k < (A ++ B ++ C ++ D).length) : (A ++ B ++ C ++ D)[k]'h' = B[e] := by
  subst hk
  rw [List.getElem_append_left (by simp only [List.length_append]; omega), List.getElem_append_left (by simp only [List.length_append]; omega), List.getElem_append_right (by omega)]
  congr 1; omega
theorem snd_at {A B C D : List α} {e k : Nat} (h : e < C.length) (hk : k = A.length + B.length + e) (h' : k < (A ++ B ++ C ++ D).length) : (A ++ B ++ C ++ D)[k]'h' = C[e] := by
  subst hk
  rw [List.getElem_append_left (by simp only [List.length_append]; omega), List.getElem_append_right (by simp only [List.length_append]; omega)]
  congr 1; simp only [List.length_append]; omega
end
end Sg
end

section
set_option linter.unusedVariables false
set_option linter.unusedSimpArgs false
namespace Sg
open Go Go.RowKit
section
variable {P : Program} {n : Nat} {Q : Post} {σ : Env} {w : World} {ops : Array Oper} {rest : List Oper}
variable {d : Nat} {t xt yt : TypeId} {pos : String} {af : Array Edge} {x y : Operand} {a b : Nat}
theorem X.addN (h1 : ev σ x = .int .i64 (a : Int)) (h2 : ev σ y = .int .i64 (b : Int)) (hb : a + b < 4611686018427387904) : X P σ w (.binOp .add xt x y yt) t (.int .i64 ((a + b : Nat) : Int)) := by
  rw [show ((a + b : Nat) : Int) = (a : Int) + (b : Int) by omega]
  exact X.add h1 h2 (by omega) (by omega)
theorem X.subN (h1 : ev σ x = .int .i64 (a : Int)) (h2 : ev σ y = .int .i64 (b : Int)) (hb : b ≤ a) (ha : a < 4611686018427387904) : X P σ w (.binOp .sub xt x y yt) t (.int .i64 ((a - b : Nat) : Int)) := by
  rw [show ((a - b : Nat) : Int) = (a : Int) - (b : Int) by omega]
  exact X.sub h1 h2 (by omega) (by omega)
theorem X.mulN (h1 : ev σ x = .int .i64 (a : Int)) (h2 : ev σ y = .int .i64 (b : Int)) (hb : a * b < 4611686018427387904) : X P σ w (.binOp .mul xt x y yt) t (.int .i64 ((a * b : Nat) : Int)) := by
  have e : ((a * b : Nat) : Int) = (a : Int) * (b : Int) := Int.natCast_mul a b
  rw [e]
  exact X.mul h1 h2 (by rw [← e]; omega) (by rw [← e]; omega)
theorem X.shrN (hx : ev σ x = .int .u64 (a : Int)) : X P σ w (.binOp .shr xt x (.const (.int .u64 1)) yt) t (.int .u64 ((a / 2 : Nat) : Int)) := by
  have h := X.shr (P := P) (σ := σ) (w := w) (xt := xt) (yt := yt) (t := t) (y := .const (.int .u64 1)) (q := 1) hx lc (by decide)
  have e : (a : Int).fdiv (2 ^ Min.min (1 : Int).toNat (IntKind.bits .u64)) = ((a / 2 : Nat) : Int) := by
    rw [show (2 : Int) ^ Min.min (1 : Int).toNat (IntKind.bits .u64) = 2 from rfl, Int.fdiv_eq_ediv_of_nonneg _ (by decide)]
    omega
  rw [e] at h
  exact h
theorem X.ifaceW {ds : TypeDesc} {v : Value} (hu : P.underlying xt = some ds) (hn : (match ds with | .interface _ => False | _ => True)) (hx : ev σ x = v) : X P σ w (.makeInterface xt x) t (.iface xt v) := fun _ _ _ _ => by
  have hr : (Instr.makeInterface xt v).run P w = .ok (.iface xt v) w := by
    cases ds <;> first | exact hn.elim | simp [Instr.makeInterface, run_underlying hu]
  simp [execOp, hx, hr]
/-- An exchange that the library gives. -/
theorem WL.extv2 {f : Nat} {x1 x2 : Operand} {v1 v2 v : Value} {caps : List Value} {tys : Array TypeId} {w' : World} (hx : ev σ x = .func (.func f) #[] caps.toArray) (h1 : ev σ x1 = v1) (h2 : ev σ x2 = v2)
    (hr : (callFunc f (v1 :: v2 :: caps).toArray).run P w = .ok (.value v) w') (hn : Nat.blt d n = true) (h : WL P n ops Q rest (up σ d v) w') :
    WL P n ops Q (⟨some d, .call ⟨.value x, #[x1, x2], tys⟩, t, pos, af, none⟩ :: rest) σ w := by
  refine WL.step (w' := w') rfl rfl hn ?_ h
  simp [execOp, resolve, Deferred.ofValue, invoke, hx, h1, h2, hr]
end
theorem setCells_st {b : Nat} {T : TypeId} : ∀ (vs : List Value) {w : World} {o : Nat} {cs : Array Value}, w.heap[b]? = some (.cells cs T (0, 0)) → o + vs.length ≤ cs.size → St w (w.setCells b o vs) b (.cells (blit cs o vs) T (0, 0))
  | [], w, o, cs, h, _ => ⟨by rw [show blit cs o [] = cs by simp [blit]]; exact h, Ch.refl _ _, rfl⟩
  | v :: r, w, o, cs, h, hl => by
    simp only [List.length_cons] at hl
    have s1 := st_setCell (i := o) h v
    have s2 := setCells_st r (o := o + 1) s1.at_ (by rw [Array.size_setIfInBounds]; omega)
    have hlt : o < cs.toList.length := by rw [Array.length_toList]; omega
    have e : blit (cs.setIfInBounds o v) (o + 1) r = blit cs o (v :: r) := by
      unfold blit
      congr 1
      rw [Array.toList_setIfInBounds, List.set_eq_take_append_cons_drop, if_pos hlt]
      have hl1 : (cs.toList.take o).length = o := by rw [List.length_take]; omega
      have e1 : (cs.toList.take o ++ v :: cs.toList.drop (o + 1)).take (o + 1) = cs.toList.take o ++ [v] := by
        rw [List.take_append, hl1, List.take_of_length_le (by omega), show o + 1 - o = 1 by omega]; rfl
      have e2 : (cs.toList.take o ++ v :: cs.toList.drop (o + 1)).drop (o + 1 + r.length) = cs.toList.drop (o + (v :: r).length) := by
        rw [List.drop_append, hl1, List.drop_eq_nil_of_le (by omega), show o + 1 + r.length - o = r.length + 1 by omega, List.drop_succ_cons, List.drop_drop, List.nil_append, List.length_cons]
        congr 1; omega
      rw [e1, e2]
      simp
    rw [World.setCells, ← e]
    exact ⟨s2.at_, s1.ch.trans s2.ch (fun _ _ e => e) (fun _ _ e => e), s2.size.trans s1.size⟩
/-- What a sorting asks: a comparison by one bit, and an exchange, of m things that lie in a block. -/
structure Srts (P : Program) {α : Type} (c : α → Bool) (m blk lf : Nat) (lb : List Value) (sf : Nat) (sb : List Value) (S : List α → World → Prop) : Prop where
  cal : Callee P lf
  small : m ≤ 1000000000
  len : ∀ D w, S D w → D.length = m
  lt : ∀ D w, S D w → blk < w.heap.size
  ch : ∀ D w w', S D w → Ch0 w w' → S D w'
  less : ∀ D w (i j : Nat) (hi : i < D.length) (hj : j < D.length), S D w → Ret P lf (.int .i64 (i : Int) :: .int .i64 (j : Int) :: lb).toArray w fun v w' => v = .bool (!c D[i] && c D[j]) ∧ Ch0 w w'
  swap : ∀ D w (i j : Nat), i < m → j < m → S D w → ∃ v w', (callFunc sf (.int .i64 (i : Int) :: .int .i64 (j : Int) :: sb).toArray).run P w = .ok (.value v) w' ∧ S (swp D i j) w' ∧ Ch (fun k => k = blk) w w'
theorem Srts.step {P : Program} {α : Type} {c : α → Bool} {m blk lf : Nat} {lb : List Value} {sf : Nat} {sb : List Value} {S : List α → World → Prop} (H : Srts P c m blk lf lb sf sb S) {D : List α} {w w0 : World} {cs : Array Value} {T : TypeId}
    (hS : S D w) (hb : blk < w0.heap.size) (hbx : w.heap[w0.heap.size]? = some (.cells cs T (0, 0))) (hc : Ch (fun k => k = blk) w0 w) {w' : World} (c1 : Ch (fun k => k = blk) w w') : w'.heap[w0.heap.size]? = some (.cells cs T (0, 0)) ∧ Ch (fun k => k = blk) w0 w' :=
  ⟨c1.at hbx (fun e => by (try dsimp only at e); omega), hc.trans c1 (fun _ _ e => e) (fun _ _ e => e)⟩
theorem Srts.same {P : Program} {α : Type} {c : α → Bool} {m blk lf : Nat} {lb : List Value} {sf : Nat} {sb : List Value} {S : List α → World → Prop} (H : Srts P c m blk lf lb sf sb S) {D : List α} {w w0 : World} {cs : Array Value} {T : TypeId}
    (hS : S D w) (hbx : w.heap[w0.heap.size]? = some (.cells cs T (0, 0))) (hc : Ch (fun k => k = blk) w0 w) {w' : World} (c1 : Ch0 w w') : S D w' ∧ w'.heap[w0.heap.size]? = some (.cells cs T (0, 0)) ∧ Ch (fun k => k = blk) w0 w' :=
  ⟨H.ch _ _ _ hS c1, c1.at0 hbx, hc.trans c1 (fun _ _ e => e) (fun _ _ e => False.elim e)⟩
end Sg
end
