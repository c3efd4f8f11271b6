/-
  A part of the walk of the program.
-/
import Derived.Test.YtpmbnpehknmmjaaDoorH
set_option linter.unusedVariables false
set_option linter.unusedSimpArgs false
set_option maxRecDepth 100000
namespace Go.Proofs.YtpmbnpehknmmjaaDoor
open Go Go.RowKit Sg

theorem q_one {w : World} {g base : Nat} {e : TypeId} {u : Value} (h : w.heap[g]? = some (.cells #[u] e (0, 0))) (hb : base ≤ g) : QRow w base e (.slice (some ⟨g, 0, none⟩) 1 1) [u] :=
  .inr ⟨g, 0, 1, _, rfl, hb, h, Nat.le_refl _, by unfold maxLen; omega, by simp, fun j hj => by
    have : j = 0 := by simpa using hj
    subst this; rfl⟩
theorem qn_len {α : Type} {f : α → Value} {w : World} {base : Nat} {e : TypeId} {v : Value} {q : List α} (h : QRow w base e v (q.map f)) : ∃ a c, v = .slice a q.length c := by
  obtain ⟨a, c, e⟩ := h.len
  rw [List.length_map] at e
  exact ⟨a, c, e⟩
theorem qn_head {α : Type} {f : α → Value} {w : World} {base c m : Nat} {e : TypeId} {a : Option Addr} {x : α} {q : List α} (h : QRow w base e (.slice a m c) ((x :: q).map f)) : ∃ g o cs, a = some ⟨g, o, none⟩ ∧ w.heap[g]? = some (.cells cs e (0, 0)) ∧ cs[o]? = some (f x) := by
  obtain ⟨g, o, cap, cs, e, h1, h2⟩ := QRow.head (us := q.map f) h
  simp only [Value.slice.injEq] at e
  exact ⟨g, o, cs, e.1, h1, h2⟩
theorem bfs_push {P : List GPr} {s : Bool} {i a0 x0 : Nat} {ms : List Bool} {q : List Nat} {p : GPr} (hi : i < P.length) (hp : P[i] = p) (hf : (p.2.2 || !s) = true) (hx : p.1 = x0) (hd : p.2.1 < ms.length)
    (h : BfsIn (sel s P) a0 x0 (sel s (P.take i)) (fun y => ms.getD y false) q) : BfsIn (sel s P) a0 x0 (sel s (P.take (i + 1))) (fun y => (ms.set p.2.1 true).getD y false) (q ++ [p.2.1]) := by
  subst hp; subst hx
  rw [sel_take hi, if_pos hf]
  exact h.push (sel_mem hi hf) (fun y => getD_set ms _ hd y)
theorem bfs_skip {P : List GPr} {s : Bool} {i a0 x0 : Nat} {ms : List Bool} {q : List Nat} {p : GPr} (hi : i < P.length) (hp : P[i] = p) (hs : (p.2.2 || !s) = true → p.1 = x0 → ms.getD p.2.1 false = true)
    (h : BfsIn (sel s P) a0 x0 (sel s (P.take i)) (fun y => ms.getD y false) q) : BfsIn (sel s P) a0 x0 (sel s (P.take (i + 1))) (fun y => ms.getD y false) q := by
  subst hp
  rw [sel_take hi]
  by_cases hf : (P[i].2.2 || !s) = true
  · rw [if_pos hf]; exact h.skip (hs hf)
  · rw [if_neg hf, List.append_nil]; exact h
set_option maxHeartbeats 1600000 in
theorem behind_ok (base x n : Nat) (P : List GPr) (w : World) (h : IsRO w base x n P) (a : Int) (s : Bool) (ha0 : 0 ≤ a) (ha : a < n) :
    Sg.Ret Tryd.prog 26 #[.pointer (some ⟨x, 0, none⟩), .int .i64 a, .bool s] w fun v w' => ∃ ms : List Bool, v = .slice (some ⟨w.heap.size, 0, none⟩) n n ∧ w'.heap[w.heap.size]? = some (.cells (ms.map Value.bool).toArray 4 (0, 0)) ∧ ms.length = n ∧ (∀ y, ms.getD y false = viaB (sel s P) a.toNat y) ∧ Ch0 w w' := by
  obtain ⟨pv, hd, hrow⟩ := h.ex
  have hle := h.le
  have hln := h.len
  have hrsl := hrow.rsl (fun _ _ => trivial)
  obtain ⟨pa, pc, rfl⟩ := hrsl.len
  obtain ⟨a0, rfl⟩ : ∃ a0 : Nat, a = (a0 : Int) := ⟨a.toNat, by omega⟩
  refine enter1 (n := 67) (l := [.pointer (some ⟨x, 0, none⟩), .int .i64 (a0 : Int), .bool s]) Tryd.func26 rfl rfl rfl rfl ?_
  refine W.g3 0 1 2 (v1 := .pointer (some ⟨x, 0, none⟩)) (v2 := .int .i64 (a0 : Int)) (v3 := .bool s) rfl rfl rfl ?_; intro σ s0 s1 s2
  refine W.seq ?_
  refine W.region ?_
  refine WL.x (X.asg lc) rfl ?_
  refine WL.e3 Nx.thn 0 1 2 (lt rfl (s0)) (lt rfl (s1)) (lt rfl (s2)) ?_
  intro σ1 s0 s1 s2
  refine W.seq ?_
  refine W.region ?_
  refine WL.x (X.mv (s0)) rfl ?_
  refine WL.x (X.nilck (lh)) rfl ?_
  refine WL.x (X.fieldAddr fd58_0 (lh)) rfl ?_
  refine WL.x (X.load pl3 (lh) (by first | assumption) (by first | rfl | assumption)) rfl ?_
  first | refine WL.makeN Tryd.underlying59 el4 rfl (lh) (lh) (by omega) (by omega) rfl ?_ | refine WL.make Tryd.underlying59 el4 rfl (lh) (lh) (by omega) (by omega) (by omega) rfl ?_
  intro w1 u1_4; have hu1_4 := u1_4.at_; have cu1_4 := u1_4.ch; have zu1_4 := u1_4.size
  refine WL.x (X.asg (lh)) rfl ?_
  refine WL.e4 Nx.thn 0 1 2 7 (lt rfl (lt rfl (lt rfl (lt rfl (lt rfl (lt rfl (s0))))))) (lt rfl (lt rfl (lt rfl (lt rfl (lt rfl (lt rfl (s1))))))) (lt rfl (lt rfl (lt rfl (lt rfl (lt rfl (lt rfl (s2))))))) (lh) ?_
  intro σ2 s0 s1 s2 s7
  refine W.seq ?_
  refine W.region ?_
  refine WL.x (X.mv (s1)) rfl ?_
  refine WL.bslice Tryd.underlying54 el3 rfl (pcons (lh) pnil) rfl (rfl : _ = [_]) rfl ?_
  intro w2 u2_1; have hu2_1 := u2_1.at_; have cu2_1 := u2_1.ch; have zu2_1 := u2_1.size
  refine WL.x (X.asg (lh)) rfl ?_
  refine WL.e4 Nx.thn 0 2 7 8 (lt rfl (lt rfl (lt rfl (s0)))) (lt rfl (lt rfl (lt rfl (s2)))) (lt rfl (lt rfl (lt rfl (s7)))) (lh) ?_
  intro σ3 s0 s2 s7 s8
  refine W.seq ?_
  refine W.block ?_
  have qo1 := s0
  have qo2 := s2
  have qo3 := s7
  -- loop 0: kept [0, 2, 7], varied [8]
  refine W.loop (G := List Bool × List Nat) (fun (ms, q) σ' w' => (σ' 0 = σ3 0 ∧ σ' 2 = σ3 2 ∧ σ' 7 = σ3 7 ∧ True) ∧ (∃ qv, True ∧ σ' 8 = qv ∧ QRow w' w.heap.size 3 qv (q.map fun (x : Nat) => Value.int .i64 (x : Int)) ∧ w'.heap[w.heap.size]? = some (.cells (ms.map Value.bool).toArray 4 (0, 0)) ∧ ms.length = n ∧ Bfs (sel s P) a0 (fun y => ms.getD y false) q ∧ (∀ x, x ∈ q → x < n) ∧ ms.count false + q.length ≤ n + 1 ∧ Ch0 w w')) (fun (ms, q) => ms.count false + q.length) ((List.replicate n false, [a0])) ⟨⟨rfl, rfl, rfl, trivial⟩, _, trivial, s8, q_one hu2_1 (by omega), cu2_1.at0 (by rw [hu1_4, mp_rep]), by simp, Bfs.start _ _ (fun y => by simp [List.getD_eq_getElem?_getD, List.getElem?_replicate]; split <;> rfl), (fun x hx => by rw [List.mem_singleton.1 hx]; omega), by simp, cu1_4.trans0 cu2_1⟩ ?_
  rintro ⟨ms, q⟩ σ4 w3 ⟨⟨f0, f2, f7, _⟩, qv, -, s8, hqr, hmb, hml, hbf, hqn, hcnt, hcl⟩
  have s0 := f0.trans qo1
  have s2 := f2.trans qo2
  have s7 := f7.trans qo3
  obtain ⟨qa, qc, rfl⟩ := qn_len hqr
  have hzc := hcl.size
  refine W.seq ?_
  refine W.seq ?_
  refine W.region ?_
  refine WL.x (X.mv (s8)) rfl ?_
  refine WL.x (X.lenSl Tryd.underlying54 (lh)) rfl ?_
  refine WL.x (X.gtr (lh) lc) rfl ?_
  refine WL.e5 Nx.thn 0 2 7 8 21 (lt rfl (lt rfl (lt rfl (s0)))) (lt rfl (lt rfl (lt rfl (s2)))) (lt rfl (lt rfl (lt rfl (s7)))) (lt rfl (lt rfl (lt rfl (s8)))) (lh) ?_
  intro σ5 s0 s2 s7 s8 s21
  refine W.cndp s21 (fun hq0 => ?_) (fun hq0 => ?_)
  · have hq1 : q.length ≠ 0 := by omega
    obtain ⟨x0, q, rfl⟩ : ∃ x r, q = x :: r := by cases q with | nil => exact absurd rfl hq1 | cons x r => exact ⟨x, r, rfl⟩
    obtain ⟨qg, qo, qcs, rfl, hqg, hqx⟩ := qn_head hqr
    have hx0n := hqn x0 (List.mem_cons_self ..)
    have hcnt1 := hcnt
    rw [List.length_cons] at hcnt1
    refine W.skip Nx.thn ?_
    refine W.block ?_
    refine W.seq ?_
    refine W.region ?_
    refine WL.x (X.mv (s8)) rfl ?_
    refine WL.x (X.indexAddr Tryd.underlying54 el3 (lh) lc (by omega) (by omega)) rfl ?_
    refine WL.x (X.load pl3 (lh) hqg (v := .int .i64 (x0 : Int)) (by simpa using hqx)) rfl ?_
    refine WL.x (X.asg (lh)) rfl ?_
    refine WL.e5 Nx.thn 0 2 7 8 9 (lt rfl (lt rfl (lt rfl (lt rfl (s0))))) (lt rfl (lt rfl (lt rfl (lt rfl (s2))))) (lt rfl (lt rfl (lt rfl (lt rfl (s7))))) (lt rfl (lt rfl (lt rfl (lt rfl (s8))))) (lh) ?_
    intro σ6 s0 s2 s7 s8 s9
    refine W.seq ?_
    refine W.region ?_
    refine WL.x (X.mv (s8)) rfl ?_
    refine WL.popQ Tryd.underlying54 el3 (lh) lc hqr rfl ?_
    intro qv1 hqr1 hqs1
    refine WL.x (X.asg (lh)) rfl ?_
    refine WL.e5 Nx.thn 0 2 7 8 9 (lt rfl (lt rfl (lt rfl (s0)))) (lt rfl (lt rfl (lt rfl (s2)))) (lt rfl (lt rfl (lt rfl (s7)))) (lh) (lt rfl (lt rfl (lt rfl (s9)))) ?_
    intro σ7 s0 s2 s7 s8 s9
    refine W.seq ?_
    refine W.region ?_
    refine WL.x (X.mv (s0)) rfl ?_
    refine WL.x (X.nilck (lh)) rfl ?_
    refine WL.x (X.fieldAddr fd58_1 (lh)) rfl ?_
    refine WL.x (X.load pl56 (lh) (by first | assumption | exact hcl.at0 (by assumption) | exact hcl.at0 (cu2_1.at0 (by assumption)) | exact hcl.at0 (cu2_1.at0 (cu1_4.at0 (by assumption)))) (by first | rfl | assumption)) rfl ?_
    refine WL.x (X.lenSl Tryd.underlying56 (lh)) rfl ?_
    refine WL.x (X.mv lc) rfl ?_
    refine WL.e8 Nx.thn 0 2 7 8 9 30 31 32 (lt rfl (lt rfl (lt rfl (lt rfl (lt rfl (lt rfl (s0))))))) (lt rfl (lt rfl (lt rfl (lt rfl (lt rfl (lt rfl (s2))))))) (lt rfl (lt rfl (lt rfl (lt rfl (lt rfl (lt rfl (s7))))))) (lt rfl (lt rfl (lt rfl (lt rfl (lt rfl (lt rfl (s8))))))) (lt rfl (lt rfl (lt rfl (lt rfl (lt rfl (lt rfl (s9))))))) (lt rfl (lt rfl (lh))) (lt rfl (lh)) (lh) ?_
    intro σ8 s0 s2 s7 s8 s9 s30 s31 s32
    refine W.block ?_
    have qo4 := s0
    have qo5 := s2
    have qo6 := s7
    have qo7 := s9
    have qo8 := s30
    have qo9 := s31
    obtain ⟨m0, hm0⟩ : ∃ m0, m0 = ms.count false + q.length := ⟨_, rfl⟩
    -- loop 1: kept [0, 2, 7, 9, 30, 31], varied [8, 32]
    refine W.loop (G := Nat × List Bool × List Nat) (fun (i, ms2, q2) σ' w' => (σ' 0 = σ8 0 ∧ σ' 2 = σ8 2 ∧ σ' 7 = σ8 7 ∧ σ' 9 = σ8 9 ∧ σ' 30 = σ8 30 ∧ σ' 31 = σ8 31 ∧ True) ∧ (∃ qv, (σ' 32 = .int .i64 (i : Int) ∧ i ≤ P.length) ∧ σ' 8 = qv ∧ QRow w' w.heap.size 3 qv (q2.map fun (x : Nat) => Value.int .i64 (x : Int)) ∧ w'.heap[w.heap.size]? = some (.cells (ms2.map Value.bool).toArray 4 (0, 0)) ∧ ms2.length = n ∧ BfsIn (sel s P) a0 x0 (sel s (P.take i)) (fun y => ms2.getD y false) q2 ∧ (∀ x, x ∈ q2 → x < n) ∧ ms2.count false + q2.length = m0 ∧ Ch0 w w')) (fun (i, ms2, q2) => P.length - i) ((0, ms, q)) ⟨⟨rfl, rfl, rfl, rfl, rfl, rfl, trivial⟩, _, ⟨s32, by omega⟩, s8, hqr1, hmb, hml, (by simpa [sel] using hbf.pop), (fun x hx => hqn x (List.mem_cons_of_mem _ hx)), hm0.symm, hcl⟩ ?_
    rintro ⟨i, ms2, q2⟩ σ9 w4 ⟨⟨f0, f2, f7, f9, f30, f31, _⟩, qv2, ⟨s32, hi⟩, s8, hqr2, hmb2, hml2, hbf2, hqn2, hcnt2, hcl2⟩
    have s0 := f0.trans qo4
    have s2 := f2.trans qo5
    have s7 := f7.trans qo6
    have s9 := f9.trans qo7
    have s30 := f30.trans qo8
    have s31 := f31.trans qo9
    have hzc2 := hcl2.size
    have hmbl := lt_of_blk hmb2
    obtain ⟨qa2, qc2, rfl⟩ := qn_len hqr2
    refine W.seq ?_
    refine W.region ?_
    refine WL.x (X.lss (s32) (s31)) rfl ?_
    refine WL.e9 Nx.thn 0 2 7 8 9 30 31 32 33 (lt rfl (s0)) (lt rfl (s2)) (lt rfl (s7)) (lt rfl (s8)) (lt rfl (s9)) (lt rfl (s30)) (lt rfl (s31)) (lt rfl (s32)) (lh) ?_
    intro σ10 s0 s2 s7 s8 s9 s30 s31 s32 s33
    refine W.seq ?_
    refine W.cndp s33 (fun hlt => ?_) (fun hlt => ?_)
    · obtain ⟨be, oe, cse, Te, fre, es, rfl, hme, hle3, hce, hR⟩ := hrsl.at (k := i) (by omega)
      obtain ⟨⟨p1, p2, p3⟩, hpi⟩ : ∃ p, P[i] = p := ⟨_, rfl⟩
      rw [hpi] at hR
      have hes : es = [.int .i64 (p1 : Int), .int .i64 (p2 : Int), .bool p3] := hR
      subst hes
      have hrg := h.rng P[i] (List.getElem_mem _)
      rw [hpi] at hrg
      have hr1 : p1 < n := hrg.1
      have hr2 : p2 < n := hrg.2
      refine W.skip Nx.thn ?_
      refine W.seq ?_
      refine W.block ?_
      refine W.seq ?_
      refine W.region ?_
      refine WL.x (X.indexAddr Tryd.underlying56 el67 (s30) (s32) (by omega) (by omega)) rfl ?_
      refine WL.x (X.loadS (vs := [.int .i64 (p1 : Int), .int .i64 (p2 : Int), .bool p3]) ag67 (lh) (hcl2.at0 hme) hle3 hce) rfl ?_
      refine WL.alloc el67 rfl ?_
      intro w5 u8_2; have hu8_2 := u8_2.at_; have cu8_2 := u8_2.ch; have zu8_2 := u8_2.size
      refine WL.storeS ag67 (lh) (lt rfl (lh)) rfl rfl (by first | assumption | exact cu8_2.at0 (by assumption) | exact cu8_2.at0 (hcl.at0 (by assumption)) | exact cu8_2.at0 (hcl.at0 (cu2_1.at0 (by assumption))) | exact cu8_2.at0 (hcl.at0 (cu2_1.at0 (cu1_4.at0 (by assumption))))) (by first | decide | (simp; done) | (simp; omega)) ?_
      intro w6 u8_3; have hu8_3 := u8_3.at_; have cu8_3 := u8_3.ch; have zu8_3 := u8_3.size
      refine WL.e9 Nx.thn 0 2 7 8 9 11 30 31 32 (lt rfl (lt rfl (lt rfl (s0)))) (lt rfl (lt rfl (lt rfl (s2)))) (lt rfl (lt rfl (lt rfl (s7)))) (lt rfl (lt rfl (lt rfl (s8)))) (lt rfl (lt rfl (lt rfl (s9)))) (lh) (lt rfl (lt rfl (lt rfl (s30)))) (lt rfl (lt rfl (lt rfl (s31)))) (lt rfl (lt rfl (lt rfl (s32)))) ?_
      intro σ11 s0 s2 s7 s8 s9 s11 s30 s31 s32
      refine W.seq ?_
      refine W.region ?_
      have cku := (cu8_2.trans cu8_3 (F := fun _ => False) (H := fun j => w4.heap.size ≤ j) (fun _ _ e => e.elim) (fun i hi e => by (try dsimp only at e); omega))
      have hqr3 := hqr2.ch cku (fun k hk => by have := (hqr2.lt hk).2; (try dsimp only); omega)
      have hmb3 := cku.at hmb2 (by (try dsimp only); omega)
      have hcl3 := hcl2.trans cku (H := fun _ => False) (fun _ _ e => e) (fun i hi e => by (try dsimp only at e); omega)
      refine WL.x (X.fieldAddr fd67_0 (s11)) rfl ?_
      refine WL.x (X.load pl3 (lh) (by first | assumption | exact cu8_3.at (by assumption) (by intro hne; first | exact hne | ((try dsimp only at hne); omega)) | exact cu8_3.at (cu8_2.at0 (by assumption)) (by intro hne; first | exact hne | ((try dsimp only at hne); omega)) | exact cu8_3.at (cu8_2.at0 (hcl.at0 (by assumption))) (by intro hne; first | exact hne | ((try dsimp only at hne); omega)) | exact cu8_3.at (cu8_2.at0 (hcl.at0 (cu2_1.at0 (by assumption)))) (by intro hne; first | exact hne | ((try dsimp only at hne); omega)) | exact cu8_3.at (cu8_2.at0 (hcl.at0 (cu2_1.at0 (cu1_4.at0 (by assumption))))) (by intro hne; first | exact hne | ((try dsimp only at hne); omega))) (by first | rfl | assumption)) rfl ?_
      refine WL.x (X.mv (lt rfl (lt rfl (s9)))) rfl ?_
      refine WL.x (X.eql (lt rfl (lh)) (lh)) rfl ?_
      refine WL.x (X.mv (lh)) rfl ?_
      refine WL.splitp (lh) (fun hpx => ?_) (fun hpx => ?_)
      · refine WL.yes rfl rfl (lh) (decide_eq_true hpx) ?_
        refine WL.x (X.fieldAddr fd67_2 (lt rfl (lt rfl (lt rfl (lt rfl (lt rfl (s11))))))) rfl ?_
        refine WL.yes rfl rfl (lt rfl (lh)) (decide_eq_true hpx) ?_
        refine WL.x (X.load pl4 (lh) (by first | assumption | exact cu8_3.at (by assumption) (by intro hne; first | exact hne | ((try dsimp only at hne); omega)) | exact cu8_3.at (cu8_2.at0 (by assumption)) (by intro hne; first | exact hne | ((try dsimp only at hne); omega)) | exact cu8_3.at (cu8_2.at0 (hcl.at0 (by assumption))) (by intro hne; first | exact hne | ((try dsimp only at hne); omega)) | exact cu8_3.at (cu8_2.at0 (hcl.at0 (cu2_1.at0 (by assumption)))) (by intro hne; first | exact hne | ((try dsimp only at hne); omega)) | exact cu8_3.at (cu8_2.at0 (hcl.at0 (cu2_1.at0 (cu1_4.at0 (by assumption))))) (by intro hne; first | exact hne | ((try dsimp only at hne); omega))) (by first | rfl | assumption)) rfl ?_
        refine WL.yes rfl rfl (lt rfl (lt rfl (lh))) (decide_eq_true hpx) ?_
        refine WL.x (X.mv (lh)) rfl ?_
        refine WL.split (lh) (fun hps => ?_) (fun hps => ?_)
        · refine WL.no rfl rfl (lh) (hps) rfl ?_
          refine WL.no rfl rfl (lt rfl (lh)) (hps) rfl ?_
          refine WL.yes rfl rfl (lt rfl (lt rfl (lt rfl (lt rfl (lt rfl (lh)))))) (decide_eq_true hpx) ?_
          refine WL.x (X.pickT (lt rfl (lt rfl (lh))) (hps) lc) rfl ?_
          refine WL.x (X.pickT (lt rfl (lt rfl (lt rfl (lt rfl (lt rfl (lt rfl (lh))))))) (decide_eq_true hpx) (lh)) rfl ?_
          refine WL.x (X.mv (lh)) rfl ?_
          refine WL.yes rfl rfl (lh) rfl ?_
          refine WL.x (X.mv (lt rfl (lt rfl (lt rfl (lt rfl (lt rfl (lt rfl (lt rfl (lt rfl (lt rfl (lt rfl (lt rfl (lt rfl (lt rfl (s7))))))))))))))) rfl ?_
          refine WL.yes rfl rfl (lt rfl (lh)) rfl ?_
          refine WL.x (X.fieldAddr fd67_1 (lt rfl (lt rfl (lt rfl (lt rfl (lt rfl (lt rfl (lt rfl (lt rfl (lt rfl (lt rfl (lt rfl (lt rfl (lt rfl (lt rfl (s11)))))))))))))))) rfl ?_
          refine WL.yes rfl rfl (lt rfl (lt rfl (lh))) rfl ?_
          refine WL.x (X.load pl3 (lh) (by first | assumption | exact cu8_3.at (by assumption) (by intro hne; first | exact hne | ((try dsimp only at hne); omega)) | exact cu8_3.at (cu8_2.at0 (by assumption)) (by intro hne; first | exact hne | ((try dsimp only at hne); omega)) | exact cu8_3.at (cu8_2.at0 (hcl.at0 (by assumption))) (by intro hne; first | exact hne | ((try dsimp only at hne); omega)) | exact cu8_3.at (cu8_2.at0 (hcl.at0 (cu2_1.at0 (by assumption)))) (by intro hne; first | exact hne | ((try dsimp only at hne); omega)) | exact cu8_3.at (cu8_2.at0 (hcl.at0 (cu2_1.at0 (cu1_4.at0 (by assumption))))) (by intro hne; first | exact hne | ((try dsimp only at hne); omega))) (by first | rfl | assumption)) rfl ?_
          refine WL.yes rfl rfl (lt rfl (lt rfl (lt rfl (lh)))) rfl ?_
          refine WL.x (X.indexAddr Tryd.underlying59 el4 (lt rfl (lt rfl (lh))) (lh) (by omega) (by omega)) rfl ?_
          refine WL.yes rfl rfl (lt rfl (lt rfl (lt rfl (lt rfl (lh))))) rfl ?_
          refine WL.x (X.load pl4 (lh) hmb3 (v := .bool (ms2.getD p2 false)) (by rw [show 0 + (p2 : Int).toNat * 1 = p2 by omega]; exact mp_get _ _ (by omega))) rfl ?_
          refine WL.yes rfl rfl (lt rfl (lt rfl (lt rfl (lt rfl (lt rfl (lh)))))) rfl ?_
          refine WL.x (X.not (lh)) rfl ?_
          refine WL.x (X.pickT (lt rfl (lt rfl (lt rfl (lt rfl (lt rfl (lt rfl (lh))))))) rfl (lh)) rfl ?_
          refine WL.e10 Nx.thn 0 2 7 8 9 11 30 31 32 55 (lt rfl (lt rfl (lt rfl (lt rfl (lt rfl (lt rfl (lt rfl (lt rfl (lt rfl (lt rfl (lt rfl (lt rfl (lt rfl (lt rfl (lt rfl (lt rfl (lt rfl (lt rfl (lt rfl (lt rfl (s0))))))))))))))))))))) (lt rfl (lt rfl (lt rfl (lt rfl (lt rfl (lt rfl (lt rfl (lt rfl (lt rfl (lt rfl (lt rfl (lt rfl (lt rfl (lt rfl (lt rfl (lt rfl (lt rfl (lt rfl (lt rfl (lt rfl (s2))))))))))))))))))))) (lt rfl (lt rfl (lt rfl (lt rfl (lt rfl (lt rfl (lt rfl (lt rfl (lt rfl (lt rfl (lt rfl (lt rfl (lt rfl (lt rfl (lt rfl (lt rfl (lt rfl (lt rfl (lt rfl (lt rfl (s7))))))))))))))))))))) (lt rfl (lt rfl (lt rfl (lt rfl (lt rfl (lt rfl (lt rfl (lt rfl (lt rfl (lt rfl (lt rfl (lt rfl (lt rfl (lt rfl (lt rfl (lt rfl (lt rfl (lt rfl (lt rfl (lt rfl (s8))))))))))))))))))))) (lt rfl (lt rfl (lt rfl (lt rfl (lt rfl (lt rfl (lt rfl (lt rfl (lt rfl (lt rfl (lt rfl (lt rfl (lt rfl (lt rfl (lt rfl (lt rfl (lt rfl (lt rfl (lt rfl (lt rfl (s9))))))))))))))))))))) (lt rfl (lt rfl (lt rfl (lt rfl (lt rfl (lt rfl (lt rfl (lt rfl (lt rfl (lt rfl (lt rfl (lt rfl (lt rfl (lt rfl (lt rfl (lt rfl (lt rfl (lt rfl (lt rfl (lt rfl (s11))))))))))))))))))))) (lt rfl (lt rfl (lt rfl (lt rfl (lt rfl (lt rfl (lt rfl (lt rfl (lt rfl (lt rfl (lt rfl (lt rfl (lt rfl (lt rfl (lt rfl (lt rfl (lt rfl (lt rfl (lt rfl (lt rfl (s30))))))))))))))))))))) (lt rfl (lt rfl (lt rfl (lt rfl (lt rfl (lt rfl (lt rfl (lt rfl (lt rfl (lt rfl (lt rfl (lt rfl (lt rfl (lt rfl (lt rfl (lt rfl (lt rfl (lt rfl (lt rfl (lt rfl (s31))))))))))))))))))))) (lt rfl (lt rfl (lt rfl (lt rfl (lt rfl (lt rfl (lt rfl (lt rfl (lt rfl (lt rfl (lt rfl (lt rfl (lt rfl (lt rfl (lt rfl (lt rfl (lt rfl (lt rfl (lt rfl (lt rfl (s32))))))))))))))))))))) (lh) ?_
          intro σ12 s0 s2 s7 s8 s9 s11 s30 s31 s32 s55
          refine W.cnd s55 (fun hmet => ?_) (fun hmet => ?_)
          · refine W.seq ?_
            refine W.region ?_
            refine WL.x (X.mv (s7)) rfl ?_
            refine WL.x (X.fieldAddr fd67_1 (lt rfl (s11))) rfl ?_
            refine WL.x (X.load pl3 (lh) (by first | assumption | exact cu8_3.at (by assumption) (by intro hne; first | exact hne | ((try dsimp only at hne); omega)) | exact cu8_3.at (cu8_2.at0 (by assumption)) (by intro hne; first | exact hne | ((try dsimp only at hne); omega)) | exact cu8_3.at (cu8_2.at0 (hcl.at0 (by assumption))) (by intro hne; first | exact hne | ((try dsimp only at hne); omega)) | exact cu8_3.at (cu8_2.at0 (hcl.at0 (cu2_1.at0 (by assumption)))) (by intro hne; first | exact hne | ((try dsimp only at hne); omega)) | exact cu8_3.at (cu8_2.at0 (hcl.at0 (cu2_1.at0 (cu1_4.at0 (by assumption))))) (by intro hne; first | exact hne | ((try dsimp only at hne); omega))) (by first | rfl | assumption)) rfl ?_
            refine WL.x (X.indexAddr Tryd.underlying59 el4 (lt rfl (lt rfl (lh))) (lh) (by omega) (by omega)) rfl ?_
            refine WL.store el4 (lh) lc rfl hmb3 (by simp; omega) ?_
            intro w7 us; have cst := us.ch
            have hmb4 : w7.heap[w.heap.size]? = some (.cells ((ms2.set p2 true).map Value.bool).toArray 4 (0, 0)) := by rw [us.at_, show 0 + (p2 : Int).toNat * 1 = p2 by omega, mp_set]
            have hqr4 := hqr3.ch cst (fun k hk e => ty_ne (hqr3.ty hk) ⟨_, hmb3⟩ (by decide) e)
            have hcl4 := hcl3.trans cst (H := fun _ => False) (fun _ _ e => e) (fun i hi e => by (try dsimp only at e); omega)
            refine WL.e9 Nx.thn 0 2 7 8 9 11 30 31 32 (lt rfl (lt rfl (lt rfl (lt rfl (s0))))) (lt rfl (lt rfl (lt rfl (lt rfl (s2))))) (lt rfl (lt rfl (lt rfl (lt rfl (s7))))) (lt rfl (lt rfl (lt rfl (lt rfl (s8))))) (lt rfl (lt rfl (lt rfl (lt rfl (s9))))) (lt rfl (lt rfl (lt rfl (lt rfl (s11))))) (lt rfl (lt rfl (lt rfl (lt rfl (s30))))) (lt rfl (lt rfl (lt rfl (lt rfl (s31))))) (lt rfl (lt rfl (lt rfl (lt rfl (s32))))) ?_
            intro σ13 s0 s2 s7 s8 s9 s11 s30 s31 s32
            refine W.region ?_
            refine WL.x (X.mv (s8)) rfl ?_
            refine WL.x (X.fieldAddr fd67_1 (lt rfl (s11))) rfl ?_
            refine WL.x (X.load pl3 (lh) (by first | assumption | exact cst.at (by assumption) (by intro hne; first | exact hne | ((try dsimp only at hne); omega)) | exact cst.at (cu8_3.at (by assumption) (by intro hne; first | exact hne | ((try dsimp only at hne); omega))) (by intro hne; first | exact hne | ((try dsimp only at hne); omega)) | exact cst.at (cu8_3.at (cu8_2.at0 (by assumption)) (by intro hne; first | exact hne | ((try dsimp only at hne); omega))) (by intro hne; first | exact hne | ((try dsimp only at hne); omega)) | exact cst.at (cu8_3.at (cu8_2.at0 (hcl.at0 (by assumption))) (by intro hne; first | exact hne | ((try dsimp only at hne); omega))) (by intro hne; first | exact hne | ((try dsimp only at hne); omega)) | exact cst.at (cu8_3.at (cu8_2.at0 (hcl.at0 (cu2_1.at0 (by assumption)))) (by intro hne; first | exact hne | ((try dsimp only at hne); omega))) (by intro hne; first | exact hne | ((try dsimp only at hne); omega)) | exact cst.at (cu8_3.at (cu8_2.at0 (hcl.at0 (cu2_1.at0 (cu1_4.at0 (by assumption))))) (by intro hne; first | exact hne | ((try dsimp only at hne); omega))) (by intro hne; first | exact hne | ((try dsimp only at hne); omega))) (by first | rfl | assumption)) rfl ?_
            refine WL.bslice Tryd.underlying54 el3 rfl (pcons (lh) pnil) rfl (rfl : _ = [_]) rfl ?_
            intro w8 u11_3; have hu11_3 := u11_3.at_; have cu11_3 := u11_3.ch; have zu11_3 := u11_3.size
            refine WL.pushQ Tryd.underlying54 el3 rfl (lt rfl (lt rfl (lt rfl (lh)))) (lh) (hqr4.ch0 cu11_3) (by first | assumption | exact cu11_3.at0 (by assumption) | exact cu11_3.at0 (cst.at (by assumption) (by intro hne; first | exact hne | ((try dsimp only at hne); omega))) | exact cu11_3.at0 (cst.at (cu8_3.at (by assumption) (by intro hne; first | exact hne | ((try dsimp only at hne); omega))) (by intro hne; first | exact hne | ((try dsimp only at hne); omega))) | exact cu11_3.at0 (cst.at (cu8_3.at (cu8_2.at0 (by assumption)) (by intro hne; first | exact hne | ((try dsimp only at hne); omega))) (by intro hne; first | exact hne | ((try dsimp only at hne); omega))) | exact cu11_3.at0 (cst.at (cu8_3.at (cu8_2.at0 (hcl.at0 (by assumption))) (by intro hne; first | exact hne | ((try dsimp only at hne); omega))) (by intro hne; first | exact hne | ((try dsimp only at hne); omega))) | exact cu11_3.at0 (cst.at (cu8_3.at (cu8_2.at0 (hcl.at0 (cu2_1.at0 (by assumption)))) (by intro hne; first | exact hne | ((try dsimp only at hne); omega))) (by intro hne; first | exact hne | ((try dsimp only at hne); omega))) | exact cu11_3.at0 (cst.at (cu8_3.at (cu8_2.at0 (hcl.at0 (cu2_1.at0 (cu1_4.at0 (by assumption))))) (by intro hne; first | exact hne | ((try dsimp only at hne); omega))) (by intro hne; first | exact hne | ((try dsimp only at hne); omega)))) rfl (by rw [List.length_map]; unfold maxLen; omega) (by rw [List.length_map]; omega) (by have := cu11_3.size; have := cst.size; have := cku.size; omega) rfl ?_
            intro va11_4 w9 ho11_4 ca11_4 hb11_4
            have hmb5 := ca11_4.at (cu11_3.at0 hmb4) (fun hk => ty_ne (hqr4.ty hk) ⟨_, hmb4⟩ (by decide) rfl)
            have hcl5 := (hcl4.trans0 cu11_3).trans ca11_4 (H := fun _ => False) (fun _ _ e => e) (fun i hi e => by have := (hqr4.lt e).1; omega)
            refine WL.x (X.asg (lh)) rfl ?_
            refine WL.e8 (Nx.blk Nx.thn) 0 2 7 8 9 30 31 32 (lt rfl (lt rfl (lt rfl (lt rfl (lt rfl (lt rfl (s0))))))) (lt rfl (lt rfl (lt rfl (lt rfl (lt rfl (lt rfl (s2))))))) (lt rfl (lt rfl (lt rfl (lt rfl (lt rfl (lt rfl (s7))))))) (lh) (lt rfl (lt rfl (lt rfl (lt rfl (lt rfl (lt rfl (s9))))))) (lt rfl (lt rfl (lt rfl (lt rfl (lt rfl (lt rfl (s30))))))) (lt rfl (lt rfl (lt rfl (lt rfl (lt rfl (lt rfl (s31))))))) (lt rfl (lt rfl (lt rfl (lt rfl (lt rfl (lt rfl (s32))))))) ?_
            intro σ14 s0 s2 s7 s8 s9 s30 s31 s32
            refine W.region ?_
            first | refine WL.x (X.add (s32) lc (by omega) (by omega)) rfl ?_ | refine WL.x (X.addw (s32) lc) rfl ?_
            refine WL.x (X.mv (lh)) rfl ?_
            refine WL.e8 Nx.thn 0 2 7 8 9 30 31 32 (lt rfl (lt rfl (s0))) (lt rfl (lt rfl (s2))) (lt rfl (lt rfl (s7))) (lt rfl (lt rfl (s8))) (lt rfl (lt rfl (s9))) (lt rfl (lt rfl (s30))) (lt rfl (lt rfl (s31))) (lh) ?_
            intro σ15 s0 s2 s7 s8 s9 s30 s31 s32
            have hct := count_put (ms := ms2) (d := p2) (by rw [List.getElem?_eq_getElem (show p2 < ms2.length by omega)]; simpa [List.getD_eq_getElem?_getD, List.getElem?_eq_getElem (show p2 < ms2.length by omega)] using hmet)
            refine ⟨(i + 1, ms2.set p2 true, q2 ++ [p2]), by first | omega | (dsimp only; omega), ⟨s0.trans qo4.symm, s2.trans qo5.symm, s7.trans qo6.symm, s9.trans qo7.symm, s30.trans qo8.symm, s31.trans qo9.symm, trivial⟩, _, ⟨s32, by omega⟩, s8, (by rw [List.map_append]; exact ho11_4), hmb5, by rw [List.length_set]; exact hml2, bfs_push (by omega) hpi (by (try dsimp only); rw [hps]; rfl) (by (try dsimp only); omega) (by (try dsimp only); omega) hbf2, (fun x hx => by rcases List.mem_append.1 hx with hx | hx; (· exact hqn2 x hx); (· rw [List.mem_singleton.1 hx]; omega)), (by rw [List.length_append]; simp only [List.length_cons, List.length_nil]; omega), hcl5⟩
          · refine W.skip (Nx.blk Nx.thn) ?_
            refine W.region ?_
            first | refine WL.x (X.add (s32) lc (by omega) (by omega)) rfl ?_ | refine WL.x (X.addw (s32) lc) rfl ?_
            refine WL.x (X.mv (lh)) rfl ?_
            refine WL.e8 Nx.thn 0 2 7 8 9 30 31 32 (lt rfl (lt rfl (s0))) (lt rfl (lt rfl (s2))) (lt rfl (lt rfl (s7))) (lt rfl (lt rfl (s8))) (lt rfl (lt rfl (s9))) (lt rfl (lt rfl (s30))) (lt rfl (lt rfl (s31))) (lh) ?_
            intro σ16 s0 s2 s7 s8 s9 s30 s31 s32
            refine ⟨(i + 1, ms2, q2), by first | omega | (dsimp only; omega), ⟨s0.trans qo4.symm, s2.trans qo5.symm, s7.trans qo6.symm, s9.trans qo7.symm, s30.trans qo8.symm, s31.trans qo9.symm, trivial⟩, _, ⟨s32, by omega⟩, s8, hqr3, hmb3, hml2, bfs_skip (by omega) hpi (by intro _ _; simpa using hmet) hbf2, hqn2, hcnt2, hcl3⟩
        · refine WL.yes rfl rfl (lh) (hps) ?_
          refine WL.x (X.mv (lt rfl (lt rfl (lt rfl (lt rfl (lt rfl (lt rfl (lt rfl (lt rfl (s2)))))))))) rfl ?_
          refine WL.yes rfl rfl (lt rfl (lh)) (hps) ?_
          refine WL.x (X.not (lh)) rfl ?_
          refine WL.yes rfl rfl (lt rfl (lt rfl (lt rfl (lt rfl (lt rfl (lh)))))) (decide_eq_true hpx) ?_
          refine WL.x (X.pickF (lt rfl (lt rfl (lh))) (hps) (lh)) rfl ?_
          refine WL.x (X.pickT (lt rfl (lt rfl (lt rfl (lt rfl (lt rfl (lt rfl (lh))))))) (decide_eq_true hpx) (lh)) rfl ?_
          refine WL.x (X.mv (lh)) rfl ?_
          refine WL.split (lh) (fun hdo => ?_) (fun hdo => ?_)
          · refine WL.yes rfl rfl (lh) (hdo) ?_
            refine WL.x (X.mv (lt rfl (lt rfl (lt rfl (lt rfl (lt rfl (lt rfl (lt rfl (lt rfl (lt rfl (lt rfl (lt rfl (lt rfl (lt rfl (s7))))))))))))))) rfl ?_
            refine WL.yes rfl rfl (lt rfl (lh)) (hdo) ?_
            refine WL.x (X.fieldAddr fd67_1 (lt rfl (lt rfl (lt rfl (lt rfl (lt rfl (lt rfl (lt rfl (lt rfl (lt rfl (lt rfl (lt rfl (lt rfl (lt rfl (lt rfl (s11)))))))))))))))) rfl ?_
            refine WL.yes rfl rfl (lt rfl (lt rfl (lh))) (hdo) ?_
            refine WL.x (X.load pl3 (lh) (by first | assumption | exact cu8_3.at (by assumption) (by intro hne; first | exact hne | ((try dsimp only at hne); omega)) | exact cu8_3.at (cu8_2.at0 (by assumption)) (by intro hne; first | exact hne | ((try dsimp only at hne); omega)) | exact cu8_3.at (cu8_2.at0 (hcl.at0 (by assumption))) (by intro hne; first | exact hne | ((try dsimp only at hne); omega)) | exact cu8_3.at (cu8_2.at0 (hcl.at0 (cu2_1.at0 (by assumption)))) (by intro hne; first | exact hne | ((try dsimp only at hne); omega)) | exact cu8_3.at (cu8_2.at0 (hcl.at0 (cu2_1.at0 (cu1_4.at0 (by assumption))))) (by intro hne; first | exact hne | ((try dsimp only at hne); omega))) (by first | rfl | assumption)) rfl ?_
            refine WL.yes rfl rfl (lt rfl (lt rfl (lt rfl (lh)))) (hdo) ?_
            refine WL.x (X.indexAddr Tryd.underlying59 el4 (lt rfl (lt rfl (lh))) (lh) (by omega) (by omega)) rfl ?_
            refine WL.yes rfl rfl (lt rfl (lt rfl (lt rfl (lt rfl (lh))))) (hdo) ?_
            refine WL.x (X.load pl4 (lh) hmb3 (v := .bool (ms2.getD p2 false)) (by rw [show 0 + (p2 : Int).toNat * 1 = p2 by omega]; exact mp_get _ _ (by omega))) rfl ?_
            refine WL.yes rfl rfl (lt rfl (lt rfl (lt rfl (lt rfl (lt rfl (lh)))))) (hdo) ?_
            refine WL.x (X.not (lh)) rfl ?_
            refine WL.x (X.pickT (lt rfl (lt rfl (lt rfl (lt rfl (lt rfl (lt rfl (lh))))))) (hdo) (lh)) rfl ?_
            refine WL.e10 Nx.thn 0 2 7 8 9 11 30 31 32 55 (lt rfl (lt rfl (lt rfl (lt rfl (lt rfl (lt rfl (lt rfl (lt rfl (lt rfl (lt rfl (lt rfl (lt rfl (lt rfl (lt rfl (lt rfl (lt rfl (lt rfl (lt rfl (lt rfl (lt rfl (s0))))))))))))))))))))) (lt rfl (lt rfl (lt rfl (lt rfl (lt rfl (lt rfl (lt rfl (lt rfl (lt rfl (lt rfl (lt rfl (lt rfl (lt rfl (lt rfl (lt rfl (lt rfl (lt rfl (lt rfl (lt rfl (lt rfl (s2))))))))))))))))))))) (lt rfl (lt rfl (lt rfl (lt rfl (lt rfl (lt rfl (lt rfl (lt rfl (lt rfl (lt rfl (lt rfl (lt rfl (lt rfl (lt rfl (lt rfl (lt rfl (lt rfl (lt rfl (lt rfl (lt rfl (s7))))))))))))))))))))) (lt rfl (lt rfl (lt rfl (lt rfl (lt rfl (lt rfl (lt rfl (lt rfl (lt rfl (lt rfl (lt rfl (lt rfl (lt rfl (lt rfl (lt rfl (lt rfl (lt rfl (lt rfl (lt rfl (lt rfl (s8))))))))))))))))))))) (lt rfl (lt rfl (lt rfl (lt rfl (lt rfl (lt rfl (lt rfl (lt rfl (lt rfl (lt rfl (lt rfl (lt rfl (lt rfl (lt rfl (lt rfl (lt rfl (lt rfl (lt rfl (lt rfl (lt rfl (s9))))))))))))))))))))) (lt rfl (lt rfl (lt rfl (lt rfl (lt rfl (lt rfl (lt rfl (lt rfl (lt rfl (lt rfl (lt rfl (lt rfl (lt rfl (lt rfl (lt rfl (lt rfl (lt rfl (lt rfl (lt rfl (lt rfl (s11))))))))))))))))))))) (lt rfl (lt rfl (lt rfl (lt rfl (lt rfl (lt rfl (lt rfl (lt rfl (lt rfl (lt rfl (lt rfl (lt rfl (lt rfl (lt rfl (lt rfl (lt rfl (lt rfl (lt rfl (lt rfl (lt rfl (s30))))))))))))))))))))) (lt rfl (lt rfl (lt rfl (lt rfl (lt rfl (lt rfl (lt rfl (lt rfl (lt rfl (lt rfl (lt rfl (lt rfl (lt rfl (lt rfl (lt rfl (lt rfl (lt rfl (lt rfl (lt rfl (lt rfl (s31))))))))))))))))))))) (lt rfl (lt rfl (lt rfl (lt rfl (lt rfl (lt rfl (lt rfl (lt rfl (lt rfl (lt rfl (lt rfl (lt rfl (lt rfl (lt rfl (lt rfl (lt rfl (lt rfl (lt rfl (lt rfl (lt rfl (s32))))))))))))))))))))) (lh) ?_
            intro σ17 s0 s2 s7 s8 s9 s11 s30 s31 s32 s55
            refine W.cnd s55 (fun hmet => ?_) (fun hmet => ?_)
            · refine W.seq ?_
              refine W.region ?_
              refine WL.x (X.mv (s7)) rfl ?_
              refine WL.x (X.fieldAddr fd67_1 (lt rfl (s11))) rfl ?_
              refine WL.x (X.load pl3 (lh) (by first | assumption | exact cu8_3.at (by assumption) (by intro hne; first | exact hne | ((try dsimp only at hne); omega)) | exact cu8_3.at (cu8_2.at0 (by assumption)) (by intro hne; first | exact hne | ((try dsimp only at hne); omega)) | exact cu8_3.at (cu8_2.at0 (hcl.at0 (by assumption))) (by intro hne; first | exact hne | ((try dsimp only at hne); omega)) | exact cu8_3.at (cu8_2.at0 (hcl.at0 (cu2_1.at0 (by assumption)))) (by intro hne; first | exact hne | ((try dsimp only at hne); omega)) | exact cu8_3.at (cu8_2.at0 (hcl.at0 (cu2_1.at0 (cu1_4.at0 (by assumption))))) (by intro hne; first | exact hne | ((try dsimp only at hne); omega))) (by first | rfl | assumption)) rfl ?_
              refine WL.x (X.indexAddr Tryd.underlying59 el4 (lt rfl (lt rfl (lh))) (lh) (by omega) (by omega)) rfl ?_
              refine WL.store el4 (lh) lc rfl hmb3 (by simp; omega) ?_
              intro w10 us; have cst := us.ch
              have hmb4 : w10.heap[w.heap.size]? = some (.cells ((ms2.set p2 true).map Value.bool).toArray 4 (0, 0)) := by rw [us.at_, show 0 + (p2 : Int).toNat * 1 = p2 by omega, mp_set]
              have hqr4 := hqr3.ch cst (fun k hk e => ty_ne (hqr3.ty hk) ⟨_, hmb3⟩ (by decide) e)
              have hcl4 := hcl3.trans cst (H := fun _ => False) (fun _ _ e => e) (fun i hi e => by (try dsimp only at e); omega)
              refine WL.e9 Nx.thn 0 2 7 8 9 11 30 31 32 (lt rfl (lt rfl (lt rfl (lt rfl (s0))))) (lt rfl (lt rfl (lt rfl (lt rfl (s2))))) (lt rfl (lt rfl (lt rfl (lt rfl (s7))))) (lt rfl (lt rfl (lt rfl (lt rfl (s8))))) (lt rfl (lt rfl (lt rfl (lt rfl (s9))))) (lt rfl (lt rfl (lt rfl (lt rfl (s11))))) (lt rfl (lt rfl (lt rfl (lt rfl (s30))))) (lt rfl (lt rfl (lt rfl (lt rfl (s31))))) (lt rfl (lt rfl (lt rfl (lt rfl (s32))))) ?_
              intro σ18 s0 s2 s7 s8 s9 s11 s30 s31 s32
              refine W.region ?_
              refine WL.x (X.mv (s8)) rfl ?_
              refine WL.x (X.fieldAddr fd67_1 (lt rfl (s11))) rfl ?_
              refine WL.x (X.load pl3 (lh) (by first | assumption | exact cst.at (by assumption) (by intro hne; first | exact hne | ((try dsimp only at hne); omega)) | exact cst.at (cu8_3.at (by assumption) (by intro hne; first | exact hne | ((try dsimp only at hne); omega))) (by intro hne; first | exact hne | ((try dsimp only at hne); omega)) | exact cst.at (cu8_3.at (cu8_2.at0 (by assumption)) (by intro hne; first | exact hne | ((try dsimp only at hne); omega))) (by intro hne; first | exact hne | ((try dsimp only at hne); omega)) | exact cst.at (cu8_3.at (cu8_2.at0 (hcl.at0 (by assumption))) (by intro hne; first | exact hne | ((try dsimp only at hne); omega))) (by intro hne; first | exact hne | ((try dsimp only at hne); omega)) | exact cst.at (cu8_3.at (cu8_2.at0 (hcl.at0 (cu2_1.at0 (by assumption)))) (by intro hne; first | exact hne | ((try dsimp only at hne); omega))) (by intro hne; first | exact hne | ((try dsimp only at hne); omega)) | exact cst.at (cu8_3.at (cu8_2.at0 (hcl.at0 (cu2_1.at0 (cu1_4.at0 (by assumption))))) (by intro hne; first | exact hne | ((try dsimp only at hne); omega))) (by intro hne; first | exact hne | ((try dsimp only at hne); omega))) (by first | rfl | assumption)) rfl ?_
              refine WL.bslice Tryd.underlying54 el3 rfl (pcons (lh) pnil) rfl (rfl : _ = [_]) rfl ?_
              intro w11 u11_3; have hu11_3 := u11_3.at_; have cu11_3 := u11_3.ch; have zu11_3 := u11_3.size
              refine WL.pushQ Tryd.underlying54 el3 rfl (lt rfl (lt rfl (lt rfl (lh)))) (lh) (hqr4.ch0 cu11_3) (by first | assumption | exact cu11_3.at0 (by assumption) | exact cu11_3.at0 (cst.at (by assumption) (by intro hne; first | exact hne | ((try dsimp only at hne); omega))) | exact cu11_3.at0 (cst.at (cu8_3.at (by assumption) (by intro hne; first | exact hne | ((try dsimp only at hne); omega))) (by intro hne; first | exact hne | ((try dsimp only at hne); omega))) | exact cu11_3.at0 (cst.at (cu8_3.at (cu8_2.at0 (by assumption)) (by intro hne; first | exact hne | ((try dsimp only at hne); omega))) (by intro hne; first | exact hne | ((try dsimp only at hne); omega))) | exact cu11_3.at0 (cst.at (cu8_3.at (cu8_2.at0 (hcl.at0 (by assumption))) (by intro hne; first | exact hne | ((try dsimp only at hne); omega))) (by intro hne; first | exact hne | ((try dsimp only at hne); omega))) | exact cu11_3.at0 (cst.at (cu8_3.at (cu8_2.at0 (hcl.at0 (cu2_1.at0 (by assumption)))) (by intro hne; first | exact hne | ((try dsimp only at hne); omega))) (by intro hne; first | exact hne | ((try dsimp only at hne); omega))) | exact cu11_3.at0 (cst.at (cu8_3.at (cu8_2.at0 (hcl.at0 (cu2_1.at0 (cu1_4.at0 (by assumption))))) (by intro hne; first | exact hne | ((try dsimp only at hne); omega))) (by intro hne; first | exact hne | ((try dsimp only at hne); omega)))) rfl (by rw [List.length_map]; unfold maxLen; omega) (by rw [List.length_map]; omega) (by have := cu11_3.size; have := cst.size; have := cku.size; omega) rfl ?_
              intro va11_4 w12 ho11_4 ca11_4 hb11_4
              have hmb5 := ca11_4.at (cu11_3.at0 hmb4) (fun hk => ty_ne (hqr4.ty hk) ⟨_, hmb4⟩ (by decide) rfl)
              have hcl5 := (hcl4.trans0 cu11_3).trans ca11_4 (H := fun _ => False) (fun _ _ e => e) (fun i hi e => by have := (hqr4.lt e).1; omega)
              refine WL.x (X.asg (lh)) rfl ?_
              refine WL.e8 (Nx.blk Nx.thn) 0 2 7 8 9 30 31 32 (lt rfl (lt rfl (lt rfl (lt rfl (lt rfl (lt rfl (s0))))))) (lt rfl (lt rfl (lt rfl (lt rfl (lt rfl (lt rfl (s2))))))) (lt rfl (lt rfl (lt rfl (lt rfl (lt rfl (lt rfl (s7))))))) (lh) (lt rfl (lt rfl (lt rfl (lt rfl (lt rfl (lt rfl (s9))))))) (lt rfl (lt rfl (lt rfl (lt rfl (lt rfl (lt rfl (s30))))))) (lt rfl (lt rfl (lt rfl (lt rfl (lt rfl (lt rfl (s31))))))) (lt rfl (lt rfl (lt rfl (lt rfl (lt rfl (lt rfl (s32))))))) ?_
              intro σ19 s0 s2 s7 s8 s9 s30 s31 s32
              refine W.region ?_
              first | refine WL.x (X.add (s32) lc (by omega) (by omega)) rfl ?_ | refine WL.x (X.addw (s32) lc) rfl ?_
              refine WL.x (X.mv (lh)) rfl ?_
              refine WL.e8 Nx.thn 0 2 7 8 9 30 31 32 (lt rfl (lt rfl (s0))) (lt rfl (lt rfl (s2))) (lt rfl (lt rfl (s7))) (lt rfl (lt rfl (s8))) (lt rfl (lt rfl (s9))) (lt rfl (lt rfl (s30))) (lt rfl (lt rfl (s31))) (lh) ?_
              intro σ20 s0 s2 s7 s8 s9 s30 s31 s32
              have hct := count_put (ms := ms2) (d := p2) (by rw [List.getElem?_eq_getElem (show p2 < ms2.length by omega)]; simpa [List.getD_eq_getElem?_getD, List.getElem?_eq_getElem (show p2 < ms2.length by omega)] using hmet)
              refine ⟨(i + 1, ms2.set p2 true, q2 ++ [p2]), by first | omega | (dsimp only; omega), ⟨s0.trans qo4.symm, s2.trans qo5.symm, s7.trans qo6.symm, s9.trans qo7.symm, s30.trans qo8.symm, s31.trans qo9.symm, trivial⟩, _, ⟨s32, by omega⟩, s8, (by rw [List.map_append]; exact ho11_4), hmb5, by rw [List.length_set]; exact hml2, bfs_push (by omega) hpi (by (try dsimp only); rw [hdo, Bool.or_true]) (by (try dsimp only); omega) (by (try dsimp only); omega) hbf2, (fun x hx => by rcases List.mem_append.1 hx with hx | hx; (· exact hqn2 x hx); (· rw [List.mem_singleton.1 hx]; omega)), (by rw [List.length_append]; simp only [List.length_cons, List.length_nil]; omega), hcl5⟩
            · refine W.skip (Nx.blk Nx.thn) ?_
              refine W.region ?_
              first | refine WL.x (X.add (s32) lc (by omega) (by omega)) rfl ?_ | refine WL.x (X.addw (s32) lc) rfl ?_
              refine WL.x (X.mv (lh)) rfl ?_
              refine WL.e8 Nx.thn 0 2 7 8 9 30 31 32 (lt rfl (lt rfl (s0))) (lt rfl (lt rfl (s2))) (lt rfl (lt rfl (s7))) (lt rfl (lt rfl (s8))) (lt rfl (lt rfl (s9))) (lt rfl (lt rfl (s30))) (lt rfl (lt rfl (s31))) (lh) ?_
              intro σ21 s0 s2 s7 s8 s9 s30 s31 s32
              refine ⟨(i + 1, ms2, q2), by first | omega | (dsimp only; omega), ⟨s0.trans qo4.symm, s2.trans qo5.symm, s7.trans qo6.symm, s9.trans qo7.symm, s30.trans qo8.symm, s31.trans qo9.symm, trivial⟩, _, ⟨s32, by omega⟩, s8, hqr3, hmb3, hml2, bfs_skip (by omega) hpi (by intro _ _; simpa using hmet) hbf2, hqn2, hcnt2, hcl3⟩
          · refine WL.no rfl rfl (lh) (hdo) rfl ?_
            refine WL.no rfl rfl (lt rfl (lh)) (hdo) rfl ?_
            refine WL.no rfl rfl (lt rfl (lt rfl (lh))) (hdo) rfl ?_
            refine WL.no rfl rfl (lt rfl (lt rfl (lt rfl (lh)))) (hdo) rfl ?_
            refine WL.no rfl rfl (lt rfl (lt rfl (lt rfl (lt rfl (lh))))) (hdo) rfl ?_
            refine WL.no rfl rfl (lt rfl (lt rfl (lt rfl (lt rfl (lt rfl (lh)))))) (hdo) rfl ?_
            refine WL.x (X.pickF (lt rfl (lt rfl (lt rfl (lt rfl (lt rfl (lt rfl (lh))))))) (hdo) lc) rfl ?_
            refine WL.e10 Nx.thn 0 2 7 8 9 11 30 31 32 55 (lt rfl (lt rfl (lt rfl (lt rfl (lt rfl (lt rfl (lt rfl (lt rfl (lt rfl (lt rfl (lt rfl (lt rfl (lt rfl (lt rfl (lt rfl (lt rfl (lt rfl (lt rfl (lt rfl (lt rfl (s0))))))))))))))))))))) (lt rfl (lt rfl (lt rfl (lt rfl (lt rfl (lt rfl (lt rfl (lt rfl (lt rfl (lt rfl (lt rfl (lt rfl (lt rfl (lt rfl (lt rfl (lt rfl (lt rfl (lt rfl (lt rfl (lt rfl (s2))))))))))))))))))))) (lt rfl (lt rfl (lt rfl (lt rfl (lt rfl (lt rfl (lt rfl (lt rfl (lt rfl (lt rfl (lt rfl (lt rfl (lt rfl (lt rfl (lt rfl (lt rfl (lt rfl (lt rfl (lt rfl (lt rfl (s7))))))))))))))))))))) (lt rfl (lt rfl (lt rfl (lt rfl (lt rfl (lt rfl (lt rfl (lt rfl (lt rfl (lt rfl (lt rfl (lt rfl (lt rfl (lt rfl (lt rfl (lt rfl (lt rfl (lt rfl (lt rfl (lt rfl (s8))))))))))))))))))))) (lt rfl (lt rfl (lt rfl (lt rfl (lt rfl (lt rfl (lt rfl (lt rfl (lt rfl (lt rfl (lt rfl (lt rfl (lt rfl (lt rfl (lt rfl (lt rfl (lt rfl (lt rfl (lt rfl (lt rfl (s9))))))))))))))))))))) (lt rfl (lt rfl (lt rfl (lt rfl (lt rfl (lt rfl (lt rfl (lt rfl (lt rfl (lt rfl (lt rfl (lt rfl (lt rfl (lt rfl (lt rfl (lt rfl (lt rfl (lt rfl (lt rfl (lt rfl (s11))))))))))))))))))))) (lt rfl (lt rfl (lt rfl (lt rfl (lt rfl (lt rfl (lt rfl (lt rfl (lt rfl (lt rfl (lt rfl (lt rfl (lt rfl (lt rfl (lt rfl (lt rfl (lt rfl (lt rfl (lt rfl (lt rfl (s30))))))))))))))))))))) (lt rfl (lt rfl (lt rfl (lt rfl (lt rfl (lt rfl (lt rfl (lt rfl (lt rfl (lt rfl (lt rfl (lt rfl (lt rfl (lt rfl (lt rfl (lt rfl (lt rfl (lt rfl (lt rfl (lt rfl (s31))))))))))))))))))))) (lt rfl (lt rfl (lt rfl (lt rfl (lt rfl (lt rfl (lt rfl (lt rfl (lt rfl (lt rfl (lt rfl (lt rfl (lt rfl (lt rfl (lt rfl (lt rfl (lt rfl (lt rfl (lt rfl (lt rfl (s32))))))))))))))))))))) (lh) ?_
            intro σ22 s0 s2 s7 s8 s9 s11 s30 s31 s32 s55
            refine W.cndF s55 ?_
            refine W.skip (Nx.blk Nx.thn) ?_
            refine W.region ?_
            first | refine WL.x (X.add (s32) lc (by omega) (by omega)) rfl ?_ | refine WL.x (X.addw (s32) lc) rfl ?_
            refine WL.x (X.mv (lh)) rfl ?_
            refine WL.e8 Nx.thn 0 2 7 8 9 30 31 32 (lt rfl (lt rfl (s0))) (lt rfl (lt rfl (s2))) (lt rfl (lt rfl (s7))) (lt rfl (lt rfl (s8))) (lt rfl (lt rfl (s9))) (lt rfl (lt rfl (s30))) (lt rfl (lt rfl (s31))) (lh) ?_
            intro σ23 s0 s2 s7 s8 s9 s30 s31 s32
            refine ⟨(i + 1, ms2, q2), by first | omega | (dsimp only; omega), ⟨s0.trans qo4.symm, s2.trans qo5.symm, s7.trans qo6.symm, s9.trans qo7.symm, s30.trans qo8.symm, s31.trans qo9.symm, trivial⟩, _, ⟨s32, by omega⟩, s8, hqr3, hmb3, hml2, bfs_skip (by omega) hpi (by intro h9 _; (try dsimp only at h9); rw [hps, hdo] at h9; cases h9) hbf2, hqn2, hcnt2, hcl3⟩
      · refine WL.no rfl rfl (lh) (decide_eq_false hpx) rfl ?_
        refine WL.no rfl rfl (lt rfl (lh)) (decide_eq_false hpx) rfl ?_
        refine WL.no rfl rfl (lt rfl (lt rfl (lh))) (decide_eq_false hpx) rfl ?_
        refine WL.nou rfl (lh) rfl ?_
        refine WL.nou rfl (lt rfl (lh)) rfl ?_
        refine WL.no rfl rfl (lt rfl (lt rfl (lt rfl (lt rfl (lt rfl (lh)))))) (decide_eq_false hpx) rfl ?_
        refine WL.x (X.pickF (lt rfl (lt rfl (lt rfl (lt rfl (lt rfl (lt rfl (lh))))))) (decide_eq_false hpx) lc) rfl ?_
        refine WL.x (X.mv (lh)) rfl ?_
        refine WL.no rfl rfl (lh) rfl rfl ?_
        refine WL.no rfl rfl (lt rfl (lh)) rfl rfl ?_
        refine WL.no rfl rfl (lt rfl (lt rfl (lh))) rfl rfl ?_
        refine WL.no rfl rfl (lt rfl (lt rfl (lt rfl (lh)))) rfl rfl ?_
        refine WL.no rfl rfl (lt rfl (lt rfl (lt rfl (lt rfl (lh))))) rfl rfl ?_
        refine WL.no rfl rfl (lt rfl (lt rfl (lt rfl (lt rfl (lt rfl (lh)))))) rfl rfl ?_
        refine WL.x (X.pickF (lt rfl (lt rfl (lt rfl (lt rfl (lt rfl (lt rfl (lh))))))) rfl lc) rfl ?_
        refine WL.e10 Nx.thn 0 2 7 8 9 11 30 31 32 55 (lt rfl (lt rfl (lt rfl (lt rfl (lt rfl (lt rfl (lt rfl (lt rfl (lt rfl (lt rfl (lt rfl (lt rfl (lt rfl (lt rfl (lt rfl (lt rfl (lt rfl (lt rfl (lt rfl (lt rfl (s0))))))))))))))))))))) (lt rfl (lt rfl (lt rfl (lt rfl (lt rfl (lt rfl (lt rfl (lt rfl (lt rfl (lt rfl (lt rfl (lt rfl (lt rfl (lt rfl (lt rfl (lt rfl (lt rfl (lt rfl (lt rfl (lt rfl (s2))))))))))))))))))))) (lt rfl (lt rfl (lt rfl (lt rfl (lt rfl (lt rfl (lt rfl (lt rfl (lt rfl (lt rfl (lt rfl (lt rfl (lt rfl (lt rfl (lt rfl (lt rfl (lt rfl (lt rfl (lt rfl (lt rfl (s7))))))))))))))))))))) (lt rfl (lt rfl (lt rfl (lt rfl (lt rfl (lt rfl (lt rfl (lt rfl (lt rfl (lt rfl (lt rfl (lt rfl (lt rfl (lt rfl (lt rfl (lt rfl (lt rfl (lt rfl (lt rfl (lt rfl (s8))))))))))))))))))))) (lt rfl (lt rfl (lt rfl (lt rfl (lt rfl (lt rfl (lt rfl (lt rfl (lt rfl (lt rfl (lt rfl (lt rfl (lt rfl (lt rfl (lt rfl (lt rfl (lt rfl (lt rfl (lt rfl (lt rfl (s9))))))))))))))))))))) (lt rfl (lt rfl (lt rfl (lt rfl (lt rfl (lt rfl (lt rfl (lt rfl (lt rfl (lt rfl (lt rfl (lt rfl (lt rfl (lt rfl (lt rfl (lt rfl (lt rfl (lt rfl (lt rfl (lt rfl (s11))))))))))))))))))))) (lt rfl (lt rfl (lt rfl (lt rfl (lt rfl (lt rfl (lt rfl (lt rfl (lt rfl (lt rfl (lt rfl (lt rfl (lt rfl (lt rfl (lt rfl (lt rfl (lt rfl (lt rfl (lt rfl (lt rfl (s30))))))))))))))))))))) (lt rfl (lt rfl (lt rfl (lt rfl (lt rfl (lt rfl (lt rfl (lt rfl (lt rfl (lt rfl (lt rfl (lt rfl (lt rfl (lt rfl (lt rfl (lt rfl (lt rfl (lt rfl (lt rfl (lt rfl (s31))))))))))))))))))))) (lt rfl (lt rfl (lt rfl (lt rfl (lt rfl (lt rfl (lt rfl (lt rfl (lt rfl (lt rfl (lt rfl (lt rfl (lt rfl (lt rfl (lt rfl (lt rfl (lt rfl (lt rfl (lt rfl (lt rfl (s32))))))))))))))))))))) (lh) ?_
        intro σ24 s0 s2 s7 s8 s9 s11 s30 s31 s32 s55
        refine W.cndF s55 ?_
        refine W.skip (Nx.blk Nx.thn) ?_
        refine W.region ?_
        first | refine WL.x (X.add (s32) lc (by omega) (by omega)) rfl ?_ | refine WL.x (X.addw (s32) lc) rfl ?_
        refine WL.x (X.mv (lh)) rfl ?_
        refine WL.e8 Nx.thn 0 2 7 8 9 30 31 32 (lt rfl (lt rfl (s0))) (lt rfl (lt rfl (s2))) (lt rfl (lt rfl (s7))) (lt rfl (lt rfl (s8))) (lt rfl (lt rfl (s9))) (lt rfl (lt rfl (s30))) (lt rfl (lt rfl (s31))) (lh) ?_
        intro σ25 s0 s2 s7 s8 s9 s30 s31 s32
        refine ⟨(i + 1, ms2, q2), by first | omega | (dsimp only; omega), ⟨s0.trans qo4.symm, s2.trans qo5.symm, s7.trans qo6.symm, s9.trans qo7.symm, s30.trans qo8.symm, s31.trans qo9.symm, trivial⟩, _, ⟨s32, by omega⟩, s8, hqr3, hmb3, hml2, bfs_skip (by omega) hpi (by intro _ h9; (try dsimp only at h9); omega) hbf2, hqn2, hcnt2, hcl3⟩
    · refine W.exit (Nx.xthn (Nx.xthn (Nx.xblk (Nx.blk Nx.thn)))) ?_
      refine ⟨(ms2, q2), by (try dsimp only at *); simp only [List.length_cons] at *; omega, ⟨s0.trans qo1.symm, s2.trans qo2.symm, s7.trans qo3.symm, trivial⟩, _, trivial, s8, hqr2, hmb2, hml2, (by have := hbf2; rw [List.take_of_length_le (by omega)] at this; exact this.done), hqn2, by (try dsimp only at *); simp only [List.length_cons] at *; omega, hcl2⟩
  · refine W.exit (Nx.xthn (Nx.xthn (Nx.xblk Nx.thn))) ?_
    refine W.seq ?_
    refine W.region ?_
    refine WL.x (X.mv (s7)) rfl ?_
    refine WL.x (X.asg (lh)) rfl ?_
    refine WL.e1 Nx.thn 6 (lh) ?_
    intro σ26 s6
    refine W.ret1 Nx.f1 s6 ?_
    have hqe : q = [] := List.eq_nil_of_length_eq_zero (by omega)
    subst hqe
    exact ⟨ms, rfl, hmb, hml, hbf.fin, hcl⟩

theorem via_off {w : World} {base x n : Nat} {P : List GPr} (h : IsRO w base x n P) {s : Bool} {a b : Nat} (hb : n ≤ b) : viaB (sel s P) a b = false := by
  rw [← Bool.not_eq_true, viaB_iff]
  intro hv
  obtain ⟨c, hc⟩ := hv.right
  obtain ⟨p, hp, e⟩ := List.mem_map.1 hc
  have := (h.rng p (List.mem_filter.1 hp).1).2
  have e2 : p.2.1 = b := congrArg Prod.snd e
  omega
theorem ahead_ok (base x n : Nat) (P : List GPr) (w : World) (h : IsRO w base x n P) (a b : Int) (s : Bool) :
    Sg.Ret Tryd.prog 24 #[.pointer (some ⟨x, 0, none⟩), .int .i64 a, .int .i64 b, .bool s] w fun v w' => v = .bool (lessB n (viaB (sel s P)) a b) ∧ Ch0 w w' := by
  obtain ⟨pv, hd, hrow⟩ := h.ex
  have hle := h.le
  have hln := h.len
  refine enter1 (n := 40) (l := [.pointer (some ⟨x, 0, none⟩), .int .i64 a, .int .i64 b, .bool s]) Tryd.func24 rfl rfl rfl rfl ?_
  refine W.g4 0 1 2 3 (v1 := .pointer (some ⟨x, 0, none⟩)) (v2 := .int .i64 a) (v3 := .int .i64 b) (v4 := .bool s) rfl rfl rfl rfl ?_; intro σ s0 s1 s2 s3
  refine W.seq ?_
  refine W.region ?_
  refine WL.x (X.asg lc) rfl ?_
  refine WL.e4 Nx.thn 0 1 2 3 (lt rfl (s0)) (lt rfl (s1)) (lt rfl (s2)) (lt rfl (s3)) ?_
  intro σ1 s0 s1 s2 s3
  refine W.seq ?_
  refine W.region ?_
  refine WL.x (X.mv (s1)) rfl ?_
  refine WL.x (X.geq (lh) lc) rfl ?_
  refine WL.x (X.mv (lh)) rfl ?_
  refine WL.splitp (lh) (fun q1 => ?_) (fun q1 => ?_)
  · refine WL.yes rfl rfl (lh) (decide_eq_true q1) ?_
    refine WL.x (X.mv (lt rfl (lt rfl (lt rfl (s1))))) rfl ?_
    refine WL.yes rfl rfl (lt rfl (lh)) (decide_eq_true q1) ?_
    refine WL.x (X.mv (lt rfl (lt rfl (lt rfl (lt rfl (s0)))))) rfl ?_
    refine WL.yes rfl rfl (lt rfl (lt rfl (lh))) (decide_eq_true q1) ?_
    refine WL.x (X.nilck (lh)) rfl ?_
    refine WL.yes rfl rfl (lt rfl (lt rfl (lt rfl (lh)))) (decide_eq_true q1) ?_
    refine WL.x (X.fieldAddr fd58_0 (lh)) rfl ?_
    refine WL.yes rfl rfl (lt rfl (lt rfl (lt rfl (lt rfl (lh))))) (decide_eq_true q1) ?_
    refine WL.x (X.load pl3 (lh) (by first | assumption) (by first | rfl | assumption)) rfl ?_
    refine WL.yes rfl rfl (lt rfl (lt rfl (lt rfl (lt rfl (lt rfl (lh)))))) (decide_eq_true q1) ?_
    refine WL.x (X.lss (lt rfl (lt rfl (lt rfl (lt rfl (lh))))) (lh)) rfl ?_
    refine WL.x (X.pickT (lt rfl (lt rfl (lt rfl (lt rfl (lt rfl (lt rfl (lh))))))) (decide_eq_true q1) (lh)) rfl ?_
    refine WL.x (X.mv (lh)) rfl ?_
    refine WL.splitp (lh) (fun q2 => ?_) (fun q2 => ?_)
    · refine WL.yes rfl rfl (lh) (decide_eq_true q2) ?_
      refine WL.x (X.mv (lt rfl (lt rfl (lt rfl (lt rfl (lt rfl (lt rfl (lt rfl (lt rfl (lt rfl (lt rfl (lt rfl (s2))))))))))))) rfl ?_
      refine WL.yes rfl rfl (lt rfl (lh)) (decide_eq_true q2) ?_
      refine WL.x (X.geq (lh) lc) rfl ?_
      refine WL.x (X.pickT (lt rfl (lt rfl (lh))) (decide_eq_true q2) (lh)) rfl ?_
      refine WL.x (X.mv (lh)) rfl ?_
      refine WL.splitp (lh) (fun q3 => ?_) (fun q3 => ?_)
      · refine WL.yes rfl rfl (lh) (decide_eq_true q3) ?_
        refine WL.x (X.mv (lt rfl (lt rfl (lt rfl (lt rfl (lt rfl (lt rfl (lt rfl (lt rfl (lt rfl (lt rfl (lt rfl (lt rfl (lt rfl (lt rfl (lt rfl (s2))))))))))))))))) rfl ?_
        refine WL.yes rfl rfl (lt rfl (lh)) (decide_eq_true q3) ?_
        refine WL.x (X.mv (lt rfl (lt rfl (lt rfl (lt rfl (lt rfl (lt rfl (lt rfl (lt rfl (lt rfl (lt rfl (lt rfl (lt rfl (lt rfl (lt rfl (lt rfl (lt rfl (s0)))))))))))))))))) rfl ?_
        refine WL.yes rfl rfl (lt rfl (lt rfl (lh))) (decide_eq_true q3) ?_
        refine WL.x (X.nilck (lh)) rfl ?_
        refine WL.yes rfl rfl (lt rfl (lt rfl (lt rfl (lh)))) (decide_eq_true q3) ?_
        refine WL.x (X.fieldAddr fd58_0 (lh)) rfl ?_
        refine WL.yes rfl rfl (lt rfl (lt rfl (lt rfl (lt rfl (lh))))) (decide_eq_true q3) ?_
        refine WL.x (X.load pl3 (lh) (by first | assumption) (by first | rfl | assumption)) rfl ?_
        refine WL.yes rfl rfl (lt rfl (lt rfl (lt rfl (lt rfl (lt rfl (lh)))))) (decide_eq_true q3) ?_
        refine WL.x (X.lss (lt rfl (lt rfl (lt rfl (lt rfl (lh))))) (lh)) rfl ?_
        refine WL.x (X.pickT (lt rfl (lt rfl (lt rfl (lt rfl (lt rfl (lt rfl (lh))))))) (decide_eq_true q3) (lh)) rfl ?_
        refine WL.x (X.mv (lh)) rfl ?_
        refine WL.splitp (lh) (fun q4 => ?_) (fun q4 => ?_)
        · refine WL.yes rfl rfl (lh) (decide_eq_true q4) ?_
          refine WL.x (X.mv (lt rfl (lt rfl (lt rfl (lt rfl (lt rfl (lt rfl (lt rfl (lt rfl (lt rfl (lt rfl (lt rfl (lt rfl (lt rfl (lt rfl (lt rfl (lt rfl (lt rfl (lt rfl (lt rfl (lt rfl (lt rfl (lt rfl (lt rfl (s0))))))))))))))))))))))))) rfl ?_
          refine WL.yes rfl rfl (lt rfl (lh)) (decide_eq_true q4) ?_
          refine WL.x (X.mv (lt rfl (lt rfl (lt rfl (lt rfl (lt rfl (lt rfl (lt rfl (lt rfl (lt rfl (lt rfl (lt rfl (lt rfl (lt rfl (lt rfl (lt rfl (lt rfl (lt rfl (lt rfl (lt rfl (lt rfl (lt rfl (lt rfl (lt rfl (lt rfl (s1)))))))))))))))))))))))))) rfl ?_
          refine WL.yes rfl rfl (lt rfl (lt rfl (lh))) (decide_eq_true q4) ?_
          refine WL.x (X.mv (lt rfl (lt rfl (lt rfl (lt rfl (lt rfl (lt rfl (lt rfl (lt rfl (lt rfl (lt rfl (lt rfl (lt rfl (lt rfl (lt rfl (lt rfl (lt rfl (lt rfl (lt rfl (lt rfl (lt rfl (lt rfl (lt rfl (lt rfl (lt rfl (lt rfl (s3))))))))))))))))))))))))))) rfl ?_
          refine WL.yes rfl rfl (lt rfl (lt rfl (lt rfl (lh)))) (decide_eq_true q4) ?_
          refine WL.call3 ce26 (lt rfl (lt rfl (lh))) (lt rfl (lh)) (lh) (behind_ok base x n P w h a s q1 (by omega)) rfl ?_
          rintro _ w1 ⟨ms, rfl, hmb, hml, hmv, hcl⟩
          refine WL.yes rfl rfl (lt rfl (lt rfl (lt rfl (lt rfl (lh))))) (decide_eq_true q4) ?_
          refine WL.x (X.mv (lt rfl (lt rfl (lt rfl (lt rfl (lt rfl (lt rfl (lt rfl (lt rfl (lt rfl (lt rfl (lt rfl (lt rfl (lt rfl (lt rfl (lt rfl (lt rfl (lt rfl (lt rfl (lt rfl (lt rfl (lt rfl (lt rfl (lt rfl (lt rfl (lt rfl (lt rfl (lt rfl (s2))))))))))))))))))))))))))))) rfl ?_
          refine WL.yes rfl rfl (lt rfl (lt rfl (lt rfl (lt rfl (lt rfl (lh)))))) (decide_eq_true q4) ?_
          refine WL.x (X.indexAddr Tryd.underlying59 el4 (lt rfl (lh)) (lh) (by omega) (by omega)) rfl ?_
          refine WL.yes rfl rfl (lt rfl (lt rfl (lt rfl (lt rfl (lt rfl (lt rfl (lh))))))) (decide_eq_true q4) ?_
          refine WL.x (X.load pl4 (lh) hmb (v := .bool (ms.getD b.toNat false)) (by rw [show 0 + b.toNat * 1 = b.toNat by omega]; exact mp_get _ _ (by omega))) rfl ?_
          refine WL.x (X.pickT (lt rfl (lt rfl (lt rfl (lt rfl (lt rfl (lt rfl (lt rfl (lh)))))))) (decide_eq_true q4) (lh)) rfl ?_
          refine WL.x (X.asg (lh)) rfl ?_
          refine WL.e1 Nx.thn 8 (lh) ?_
          intro σ2 s8
          refine W.ret1 Nx.f1 s8 ?_
          exact ⟨congrArg Value.bool (by unfold lessB; rw [show decide (0 ≤ a ∧ a < (n : Int)) = true from decide_eq_true ⟨q1, q2⟩, decide_eq_true q3, hmv]; rfl), hcl⟩
        · refine WL.no rfl rfl (lh) (decide_eq_false q4) rfl ?_
          refine WL.no rfl rfl (lt rfl (lh)) (decide_eq_false q4) rfl ?_
          refine WL.no rfl rfl (lt rfl (lt rfl (lh))) (decide_eq_false q4) rfl ?_
          refine WL.no rfl rfl (lt rfl (lt rfl (lt rfl (lh)))) (decide_eq_false q4) rfl ?_
          refine WL.no rfl rfl (lt rfl (lt rfl (lt rfl (lt rfl (lh))))) (decide_eq_false q4) rfl ?_
          refine WL.no rfl rfl (lt rfl (lt rfl (lt rfl (lt rfl (lt rfl (lh)))))) (decide_eq_false q4) rfl ?_
          refine WL.no rfl rfl (lt rfl (lt rfl (lt rfl (lt rfl (lt rfl (lt rfl (lh))))))) (decide_eq_false q4) rfl ?_
          refine WL.x (X.pickF (lt rfl (lt rfl (lt rfl (lt rfl (lt rfl (lt rfl (lt rfl (lh)))))))) (decide_eq_false q4) lc) rfl ?_
          refine WL.x (X.asg (lh)) rfl ?_
          refine WL.e1 Nx.thn 8 (lh) ?_
          intro σ3 s8
          refine W.ret1 Nx.f1 s8 ?_
          exact ⟨congrArg Value.bool (by unfold lessB; rw [via_off h (by omega)]; simp), Ch.refl _ _⟩
      · refine WL.no rfl rfl (lh) (decide_eq_false q3) rfl ?_
        refine WL.no rfl rfl (lt rfl (lh)) (decide_eq_false q3) rfl ?_
        refine WL.no rfl rfl (lt rfl (lt rfl (lh))) (decide_eq_false q3) rfl ?_
        refine WL.no rfl rfl (lt rfl (lt rfl (lt rfl (lh)))) (decide_eq_false q3) rfl ?_
        refine WL.no rfl rfl (lt rfl (lt rfl (lt rfl (lt rfl (lh))))) (decide_eq_false q3) rfl ?_
        refine WL.no rfl rfl (lt rfl (lt rfl (lt rfl (lt rfl (lt rfl (lh)))))) (decide_eq_false q3) rfl ?_
        refine WL.x (X.pickF (lt rfl (lt rfl (lt rfl (lt rfl (lt rfl (lt rfl (lh))))))) (decide_eq_false q3) lc) rfl ?_
        refine WL.x (X.mv (lh)) rfl ?_
        refine WL.no rfl rfl (lh) rfl rfl ?_
        refine WL.no rfl rfl (lt rfl (lh)) rfl rfl ?_
        refine WL.no rfl rfl (lt rfl (lt rfl (lh))) rfl rfl ?_
        refine WL.no rfl rfl (lt rfl (lt rfl (lt rfl (lh)))) rfl rfl ?_
        refine WL.no rfl rfl (lt rfl (lt rfl (lt rfl (lt rfl (lh))))) rfl rfl ?_
        refine WL.no rfl rfl (lt rfl (lt rfl (lt rfl (lt rfl (lt rfl (lh)))))) rfl rfl ?_
        refine WL.no rfl rfl (lt rfl (lt rfl (lt rfl (lt rfl (lt rfl (lt rfl (lh))))))) rfl rfl ?_
        refine WL.x (X.pickF (lt rfl (lt rfl (lt rfl (lt rfl (lt rfl (lt rfl (lt rfl (lh)))))))) rfl lc) rfl ?_
        refine WL.x (X.asg (lh)) rfl ?_
        refine WL.e1 Nx.thn 8 (lh) ?_
        intro σ4 s8
        refine W.ret1 Nx.f1 s8 ?_
        exact ⟨congrArg Value.bool (by unfold lessB; rw [decide_eq_false q3]; simp), Ch.refl _ _⟩
    · refine WL.no rfl rfl (lh) (decide_eq_false q2) rfl ?_
      refine WL.no rfl rfl (lt rfl (lh)) (decide_eq_false q2) rfl ?_
      refine WL.x (X.pickF (lt rfl (lt rfl (lh))) (decide_eq_false q2) lc) rfl ?_
      refine WL.x (X.mv (lh)) rfl ?_
      refine WL.no rfl rfl (lh) rfl rfl ?_
      refine WL.no rfl rfl (lt rfl (lh)) rfl rfl ?_
      refine WL.no rfl rfl (lt rfl (lt rfl (lh))) rfl rfl ?_
      refine WL.no rfl rfl (lt rfl (lt rfl (lt rfl (lh)))) rfl rfl ?_
      refine WL.no rfl rfl (lt rfl (lt rfl (lt rfl (lt rfl (lh))))) rfl rfl ?_
      refine WL.no rfl rfl (lt rfl (lt rfl (lt rfl (lt rfl (lt rfl (lh)))))) rfl rfl ?_
      refine WL.x (X.pickF (lt rfl (lt rfl (lt rfl (lt rfl (lt rfl (lt rfl (lh))))))) rfl lc) rfl ?_
      refine WL.x (X.mv (lh)) rfl ?_
      refine WL.no rfl rfl (lh) rfl rfl ?_
      refine WL.no rfl rfl (lt rfl (lh)) rfl rfl ?_
      refine WL.no rfl rfl (lt rfl (lt rfl (lh))) rfl rfl ?_
      refine WL.no rfl rfl (lt rfl (lt rfl (lt rfl (lh)))) rfl rfl ?_
      refine WL.no rfl rfl (lt rfl (lt rfl (lt rfl (lt rfl (lh))))) rfl rfl ?_
      refine WL.no rfl rfl (lt rfl (lt rfl (lt rfl (lt rfl (lt rfl (lh)))))) rfl rfl ?_
      refine WL.no rfl rfl (lt rfl (lt rfl (lt rfl (lt rfl (lt rfl (lt rfl (lh))))))) rfl rfl ?_
      refine WL.x (X.pickF (lt rfl (lt rfl (lt rfl (lt rfl (lt rfl (lt rfl (lt rfl (lh)))))))) rfl lc) rfl ?_
      refine WL.x (X.asg (lh)) rfl ?_
      refine WL.e1 Nx.thn 8 (lh) ?_
      intro σ5 s8
      refine W.ret1 Nx.f1 s8 ?_
      exact ⟨congrArg Value.bool (by unfold lessB; rw [show decide (0 ≤ a ∧ a < (n : Int)) = false from decide_eq_false (by omega)]; rfl), Ch.refl _ _⟩
  · refine WL.no rfl rfl (lh) (decide_eq_false q1) rfl ?_
    refine WL.no rfl rfl (lt rfl (lh)) (decide_eq_false q1) rfl ?_
    refine WL.no rfl rfl (lt rfl (lt rfl (lh))) (decide_eq_false q1) rfl ?_
    refine WL.no rfl rfl (lt rfl (lt rfl (lt rfl (lh)))) (decide_eq_false q1) rfl ?_
    refine WL.no rfl rfl (lt rfl (lt rfl (lt rfl (lt rfl (lh))))) (decide_eq_false q1) rfl ?_
    refine WL.no rfl rfl (lt rfl (lt rfl (lt rfl (lt rfl (lt rfl (lh)))))) (decide_eq_false q1) rfl ?_
    refine WL.x (X.pickF (lt rfl (lt rfl (lt rfl (lt rfl (lt rfl (lt rfl (lh))))))) (decide_eq_false q1) lc) rfl ?_
    refine WL.x (X.mv (lh)) rfl ?_
    refine WL.no rfl rfl (lh) rfl rfl ?_
    refine WL.no rfl rfl (lt rfl (lh)) rfl rfl ?_
    refine WL.x (X.pickF (lt rfl (lt rfl (lh))) rfl lc) rfl ?_
    refine WL.x (X.mv (lh)) rfl ?_
    refine WL.no rfl rfl (lh) rfl rfl ?_
    refine WL.no rfl rfl (lt rfl (lh)) rfl rfl ?_
    refine WL.no rfl rfl (lt rfl (lt rfl (lh))) rfl rfl ?_
    refine WL.no rfl rfl (lt rfl (lt rfl (lt rfl (lh)))) rfl rfl ?_
    refine WL.no rfl rfl (lt rfl (lt rfl (lt rfl (lt rfl (lh))))) rfl rfl ?_
    refine WL.no rfl rfl (lt rfl (lt rfl (lt rfl (lt rfl (lt rfl (lh)))))) rfl rfl ?_
    refine WL.x (X.pickF (lt rfl (lt rfl (lt rfl (lt rfl (lt rfl (lt rfl (lh))))))) rfl lc) rfl ?_
    refine WL.x (X.mv (lh)) rfl ?_
    refine WL.no rfl rfl (lh) rfl rfl ?_
    refine WL.no rfl rfl (lt rfl (lh)) rfl rfl ?_
    refine WL.no rfl rfl (lt rfl (lt rfl (lh))) rfl rfl ?_
    refine WL.no rfl rfl (lt rfl (lt rfl (lt rfl (lh)))) rfl rfl ?_
    refine WL.no rfl rfl (lt rfl (lt rfl (lt rfl (lt rfl (lh))))) rfl rfl ?_
    refine WL.no rfl rfl (lt rfl (lt rfl (lt rfl (lt rfl (lt rfl (lh)))))) rfl rfl ?_
    refine WL.no rfl rfl (lt rfl (lt rfl (lt rfl (lt rfl (lt rfl (lt rfl (lh))))))) rfl rfl ?_
    refine WL.x (X.pickF (lt rfl (lt rfl (lt rfl (lt rfl (lt rfl (lt rfl (lt rfl (lh)))))))) rfl lc) rfl ?_
    refine WL.x (X.asg (lh)) rfl ?_
    refine WL.e1 Nx.thn 8 (lh) ?_
    intro σ6 s8
    refine W.ret1 Nx.f1 s8 ?_
    exact ⟨congrArg Value.bool (by unfold lessB; rw [show decide (0 ≤ a ∧ a < (n : Int)) = false from decide_eq_false (by omega)]; rfl), Ch.refl _ _⟩
theorem rless_ok (base x n : Nat) (P : List GPr) (w : World) (h : IsRO w base x n P) (a b : Int) :
    Sg.Ret Tryd.prog 10 #[.pointer (some ⟨x, 0, none⟩), .int .i64 a, .int .i64 b] w fun v w' => v = .bool (lessB n (viaB (sel false P)) a b) ∧ Ch0 w w' := by
  refine enter1 (n := 11) (l := [.pointer (some ⟨x, 0, none⟩), .int .i64 a, .int .i64 b]) Tryd.func10 rfl rfl rfl rfl ?_
  refine W.g3 0 1 2 (v1 := .pointer (some ⟨x, 0, none⟩)) (v2 := .int .i64 a) (v3 := .int .i64 b) rfl rfl rfl ?_; intro σ s0 s1 s2
  refine W.seq ?_
  refine W.region ?_
  refine WL.x (X.asg lc) rfl ?_
  refine WL.e3 Nx.thn 0 1 2 (lt rfl (s0)) (lt rfl (s1)) (lt rfl (s2)) ?_
  intro σ1 s0 s1 s2
  refine W.seq ?_
  refine W.region ?_
  refine WL.x (X.mv (s0)) rfl ?_
  refine WL.x (X.mv (lt rfl (s1))) rfl ?_
  refine WL.x (X.mv (lt rfl (lt rfl (s2)))) rfl ?_
  refine WL.call4 ce24 (lt rfl (lt rfl (lh))) (lt rfl (lh)) (lh) lc (ahead_ok base x n P w h a b false) rfl ?_
  rintro _ w1 ⟨rfl, hcl⟩
  refine WL.x (X.asg (lh)) rfl ?_
  refine WL.e1 Nx.thn 6 (lh) ?_
  intro σ2 s6
  refine W.ret1 Nx.f1 s6 ?_
  exact ⟨rfl, hcl⟩
theorem rsure_ok (base x n : Nat) (P : List GPr) (w : World) (h : IsRO w base x n P) (a b : Int) :
    Sg.Ret Tryd.prog 13 #[.pointer (some ⟨x, 0, none⟩), .int .i64 a, .int .i64 b] w fun v w' => v = .bool (lessB n (viaB (sel true P)) a b) ∧ Ch0 w w' := by
  refine enter1 (n := 11) (l := [.pointer (some ⟨x, 0, none⟩), .int .i64 a, .int .i64 b]) Tryd.func13 rfl rfl rfl rfl ?_
  refine W.g3 0 1 2 (v1 := .pointer (some ⟨x, 0, none⟩)) (v2 := .int .i64 a) (v3 := .int .i64 b) rfl rfl rfl ?_; intro σ s0 s1 s2
  refine W.seq ?_
  refine W.region ?_
  refine WL.x (X.asg lc) rfl ?_
  refine WL.e3 Nx.thn 0 1 2 (lt rfl (s0)) (lt rfl (s1)) (lt rfl (s2)) ?_
  intro σ1 s0 s1 s2
  refine W.seq ?_
  refine W.region ?_
  refine WL.x (X.mv (s0)) rfl ?_
  refine WL.x (X.mv (lt rfl (s1))) rfl ?_
  refine WL.x (X.mv (lt rfl (lt rfl (s2)))) rfl ?_
  refine WL.call4 ce24 (lt rfl (lt rfl (lh))) (lt rfl (lh)) (lh) lc (ahead_ok base x n P w h a b true) rfl ?_
  rintro _ w1 ⟨rfl, hcl⟩
  refine WL.x (X.asg (lh)) rfl ?_
  refine WL.e1 Nx.thn 6 (lh) ?_
  intro σ2 s6
  refine W.ret1 Nx.f1 s6 ?_
  exact ⟨rfl, hcl⟩
theorem rcyc_ok (base x n : Nat) (P : List GPr) (w : World) (h : IsRO w base x n P)  :
    Sg.Ret Tryd.prog 16 #[.pointer (some ⟨x, 0, none⟩)] w fun v w' => v = .bool ((List.range n).any fun a => viaB (sel false P) a a) ∧ Ch0 w w' := by
  obtain ⟨pv, hd, hrow⟩ := h.ex
  have hle := h.le
  have hln := h.len
  refine enter1 (n := 16) (l := [.pointer (some ⟨x, 0, none⟩)]) Tryd.func16 rfl rfl rfl rfl ?_
  refine W.g1 0 (v1 := .pointer (some ⟨x, 0, none⟩)) rfl ?_; intro σ s0
  refine W.seq ?_
  refine W.region ?_
  refine WL.x (X.asg lc) rfl ?_
  refine WL.e1 Nx.thn 0 (lt rfl (s0)) ?_
  intro σ1 s0
  refine W.seq ?_
  refine W.seq ?_
  refine W.region ?_
  refine WL.x (X.mv (s0)) rfl ?_
  refine WL.x (X.nilck (lh)) rfl ?_
  refine WL.x (X.fieldAddr fd58_0 (lh)) rfl ?_
  refine WL.x (X.load pl3 (lh) (by first | assumption) (by first | rfl | assumption)) rfl ?_
  refine WL.x (X.mv lc) rfl ?_
  refine WL.e3 Nx.thn 0 7 8 (lt rfl (lt rfl (lt rfl (lt rfl (lt rfl (s0)))))) (lt rfl (lh)) (lh) ?_
  intro σ2 s0 s7 s8
  refine W.block ?_
  have qo1 := s0
  have qo2 := s7
  -- loop 0: kept [0, 7], varied [8]
  refine W.loop (G := Nat) (fun k σ' w' => (σ' 0 = σ2 0 ∧ σ' 7 = σ2 7 ∧ True) ∧ (σ' 8 = .int .i64 (k : Int) ∧ k ≤ n ∧ Ch0 w w' ∧ ((List.range k).any fun a => viaB (sel false P) a a) = false)) (fun k => n - k) (0) ⟨⟨rfl, rfl, trivial⟩, s8, by omega, Ch.refl _ _, rfl⟩ ?_
  rintro k σ3 w1 ⟨⟨f0, f7, _⟩, s8, hk, hcl, hno⟩
  have s0 := f0.trans qo1
  have s7 := f7.trans qo2
  refine W.seq ?_
  refine W.region ?_
  refine WL.x (X.lss (s8) (s7)) rfl ?_
  refine WL.e4 Nx.thn 0 7 8 9 (lt rfl (s0)) (lt rfl (s7)) (lt rfl (s8)) (lh) ?_
  intro σ4 s0 s7 s8 s9
  refine W.seq ?_
  refine W.cndp s9 (fun hlt => ?_) (fun hlt => ?_)
  · refine W.skip Nx.thn ?_
    refine W.seq ?_
    refine W.block ?_
    refine W.seq ?_
    refine W.region ?_
    refine WL.x (X.mv (s8)) rfl ?_
    refine WL.x (X.asg (lh)) rfl ?_
    refine WL.e4 Nx.thn 0 3 7 8 (lt rfl (lt rfl (s0))) (lh) (lt rfl (lt rfl (s7))) (lt rfl (lt rfl (s8))) ?_
    intro σ5 s0 s3 s7 s8
    refine W.seq ?_
    refine W.region ?_
    refine WL.x (X.mv (s0)) rfl ?_
    refine WL.x (X.mv (lt rfl (s3))) rfl ?_
    refine WL.x (X.mv (lt rfl (lt rfl (s3)))) rfl ?_
    refine WL.call3 ce10 (lt rfl (lt rfl (lh))) (lt rfl (lh)) (lh) (rless_ok base x n P w1 (h.ch0 hcl) k k) rfl ?_
    rintro _ w2 ⟨rfl, hcl2⟩
    refine WL.e4 Nx.thn 0 7 8 14 (lt rfl (lt rfl (lt rfl (lt rfl (s0))))) (lt rfl (lt rfl (lt rfl (lt rfl (s7))))) (lt rfl (lt rfl (lt rfl (lt rfl (s8))))) (lh) ?_
    intro σ6 s0 s7 s8 s14
    refine W.cnd s14 (fun hc => ?_) (fun hc => ?_)
    · refine W.seq ?_
      refine W.region ?_
      refine WL.x (X.asg lc) rfl ?_
      refine WL.e1 Nx.thn 2 (lh) ?_
      intro σ7 s2
      refine W.ret1 (Nx.rblk (Nx.rthn (Nx.rthn (Nx.rblk (Nx.rthn Nx.f1))))) s2 ?_
      have hc2 : viaB (sel false P) k k = true := by unfold lessB at hc; rw [show decide (0 ≤ (k : Int) ∧ (k : Int) < (n : Int)) = true from decide_eq_true ⟨by omega, by omega⟩] at hc; simpa using hc
      exact ⟨congrArg Value.bool (any_range_at (p := fun a => viaB (sel false P) a a) (by omega) hc2).symm, hcl.trans0 hcl2⟩
    · refine W.skip (Nx.blk Nx.thn) ?_
      refine W.region ?_
      first | refine WL.x (X.add (s8) lc (by omega) (by omega)) rfl ?_ | refine WL.x (X.addw (s8) lc) rfl ?_
      refine WL.x (X.mv (lh)) rfl ?_
      refine WL.e3 Nx.thn 0 7 8 (lt rfl (lt rfl (s0))) (lt rfl (lt rfl (s7))) (lh) ?_
      intro σ8 s0 s7 s8
      refine ⟨k + 1, by first | omega | (dsimp only; omega), ⟨s0.trans qo1.symm, s7.trans qo2.symm, trivial⟩, s8, by omega, hcl.trans0 hcl2, by rw [any_range_succ, hno, Bool.false_or]; unfold lessB at hc; rw [show decide (0 ≤ (k : Int) ∧ (k : Int) < (n : Int)) = true from decide_eq_true ⟨by omega, by omega⟩] at hc; simpa using hc⟩
  · refine W.exit (Nx.xthn (Nx.xthn (Nx.xblk Nx.thn))) ?_
    refine W.seq ?_
    refine W.region ?_
    refine WL.x (X.asg lc) rfl ?_
    refine WL.e1 Nx.thn 2 (lh) ?_
    intro σ9 s2
    refine W.ret1 Nx.f1 s2 ?_
    have hke : k = n := by omega
    subst hke
    exact ⟨congrArg Value.bool hno.symm, hcl⟩
end Go.Proofs.YtpmbnpehknmmjaaDoor
