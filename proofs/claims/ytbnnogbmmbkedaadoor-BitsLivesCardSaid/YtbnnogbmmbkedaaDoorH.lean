/-
  A part of the walk of the program.
-/
import Derived.Test.YtbnnogbmmbkedaaDoorD
set_option linter.unusedVariables false
set_option linter.unusedSimpArgs false
set_option maxRecDepth 100000
namespace Go.Proofs.YtbnnogbmmbkedaaDoor
open Go Go.RowKit Sg

/-- At block p stands a set of the reference; its marks stand in block pb. -/
structure IsRef (w : World) (p pb : Nat) (ms : List Bool) : Prop where
  hd : ∃ cap, ms.length ≤ cap ∧ w.heap[p]? = some (.cells #[.slice (some ⟨pb, 0, none⟩) ms.length cap] 50 (0, 0))
  bd : ∃ cs, w.heap[pb]? = some (.cells cs 4 (0, 0)) ∧ ∀ i, i < ms.length → cs[i]? = some (.bool (ms.getD i false))
  le : ms.length ≤ 4096
theorem IsRef.ch {F : Nat → Prop} {w w' : World} {p pb : Nat} {ms : List Bool} (h : IsRef w p pb ms) (c : Ch F w w') (h1 : ¬ F p) (h2 : ¬ F pb) : IsRef w' p pb ms := by
  obtain ⟨cap, hcap, hd⟩ := h.hd
  obtain ⟨cs, hb, hg⟩ := h.bd
  exact ⟨⟨cap, hcap, c.at hd h1⟩, ⟨cs, c.at hb h2, hg⟩, h.le⟩
theorem IsRef.ch0 {w w' : World} {p pb : Nat} {ms : List Bool} (h : IsRef w p pb ms) (c : Ch0 w w') : IsRef w' p pb ms := h.ch c id id
theorem IsRef.ltp {w : World} {p pb : Nat} {ms : List Bool} (h : IsRef w p pb ms) : p < w.heap.size := by obtain ⟨cap, _, hd⟩ := h.hd; exact lt_of_blk hd
theorem IsRef.ltb {w : World} {p pb : Nat} {ms : List Bool} (h : IsRef w p pb ms) : pb < w.heap.size := by obtain ⟨cs, hb, _⟩ := h.bd; exact lt_of_blk hb
theorem IsRef.ne {w : World} {p pb : Nat} {ms : List Bool} (h : IsRef w p pb ms) : p ≠ pb := by
  obtain ⟨cap, _, hd⟩ := h.hd
  obtain ⟨cs, hb, _⟩ := h.bd
  intro e
  rw [e, hb] at hd
  exact absurd (Obj.cells.inj (Option.some.inj hd)).2.1 (by decide)
theorem IsRef.put {w w' : World} {p pb : Nat} {ms : List Bool} {cs : Array Value} {i : Nat} {b : Bool} (h : IsRef w p pb ms) (hg : ∀ i, i < ms.length → cs[i]? = some (.bool (ms.getD i false))) (hi : i < ms.length) (c : Ch (fun k => k = pb) w w')
    (hb : w'.heap[pb]? = some (.cells (cs.setIfInBounds i (.bool b)) 4 (0, 0))) : IsRef w' p pb (ms.set i b) := by
  obtain ⟨cap, hcap, hd⟩ := h.hd
  refine ⟨⟨cap, by rw [List.length_set]; exact hcap, by rw [List.length_set]; exact c.at hd h.ne⟩, ⟨_, hb, fun j hj => ?_⟩, by rw [List.length_set]; exact h.le⟩
  rw [List.length_set] at hj
  have hsz : i < cs.size := (Array.getElem?_eq_some_iff.1 (hg i hi)).1
  rw [Array.getElem?_setIfInBounds]
  by_cases e : i = j
  · subst e
    rw [if_pos rfl, if_pos hsz]
    simp [List.getD_eq_getElem?_getD, hi]
  · rw [if_neg e, hg j hj]
    simp [List.getD_eq_getElem?_getD, List.getElem?_set, e]

theorem there_ok (p pb : Nat) (ms : List Bool) (i : Int) (w : World) (h : IsRef w p pb ms) :
    Sg.Ret Tryd.prog 36 #[.pointer (some ⟨p, 0, none⟩), .int .i64 i] w fun v w' => v = .bool (decide (0 ≤ i ∧ i < ms.length)) ∧ w = w' := by
  obtain ⟨cap, hcap, hd⟩ := h.hd
  obtain ⟨cs, hb, hg⟩ := h.bd
  have hle := h.le
  refine enter1 (n := 16) (l := [.pointer (some ⟨p, 0, none⟩), .int .i64 i]) Tryd.func36 rfl rfl rfl rfl ?_
  refine W.g2 0 1 (v1 := .pointer (some ⟨p, 0, none⟩)) (v2 := .int .i64 i) rfl rfl ?_; intro σ s0 s1
  refine W.seq ?_
  refine W.region ?_
  refine WL.x (X.asg lc) rfl ?_
  refine WL.e2 Nx.thn 0 1 (lt rfl (s0)) (lt rfl (s1)) ?_
  intro σ1 s0 s1
  refine W.seq ?_
  refine W.region ?_
  refine WL.x (X.mv (s1)) rfl ?_
  refine WL.x (X.geq (lh) lc) rfl ?_
  refine WL.x (X.mv (lh)) rfl ?_
  refine WL.splitp (lh) (fun h0 => ?_) (fun h0 => ?_)
  · refine WL.yes rfl rfl (lh) (decide_eq_true h0) ?_
    refine WL.x (X.mv (lt rfl (lt rfl (lt rfl (s1))))) rfl ?_
    refine WL.yes rfl rfl (lt rfl (lh)) (decide_eq_true h0) ?_
    refine WL.x (X.mv (lt rfl (lt rfl (lt rfl (lt rfl (s0)))))) rfl ?_
    refine WL.yes rfl rfl (lt rfl (lt rfl (lh))) (decide_eq_true h0) ?_
    refine WL.x (X.nilck (lh)) rfl ?_
    refine WL.yes rfl rfl (lt rfl (lt rfl (lt rfl (lh)))) (decide_eq_true h0) ?_
    refine WL.x (X.fieldAddr fd50_0 (lh)) rfl ?_
    refine WL.yes rfl rfl (lt rfl (lt rfl (lt rfl (lt rfl (lh))))) (decide_eq_true h0) ?_
    refine WL.x (X.load pl48 (lh) (by first | assumption) (by first | rfl | assumption)) rfl ?_
    refine WL.yes rfl rfl (lt rfl (lt rfl (lt rfl (lt rfl (lt rfl (lh)))))) (decide_eq_true h0) ?_
    refine WL.x (X.lenSl Tryd.underlying48 (lh)) rfl ?_
    refine WL.yes rfl rfl (lt rfl (lt rfl (lt rfl (lt rfl (lt rfl (lt rfl (lh))))))) (decide_eq_true h0) ?_
    refine WL.x (X.lss (lt rfl (lt rfl (lt rfl (lt rfl (lt rfl (lh)))))) (lh)) rfl ?_
    refine WL.x (X.pickT (lt rfl (lt rfl (lt rfl (lt rfl (lt rfl (lt rfl (lt rfl (lh)))))))) (decide_eq_true h0) (lh)) rfl ?_
    refine WL.x (X.asg (lh)) rfl ?_
    refine WL.e1 Nx.thn 4 (lh) ?_
    intro σ2 s4
    refine W.ret1 Nx.f1 s4 ?_
    exact ⟨congrArg Value.bool (decide_eq_decide.2 ⟨fun e => ⟨h0, e⟩, fun e => e.2⟩), rfl⟩
  · refine WL.no rfl rfl (lh) (decide_eq_false h0) rfl ?_
    refine WL.no rfl rfl (lt rfl (lh)) (decide_eq_false h0) rfl ?_
    refine WL.no rfl rfl (lt rfl (lt rfl (lh))) (decide_eq_false h0) rfl ?_
    refine WL.no rfl rfl (lt rfl (lt rfl (lt rfl (lh)))) (decide_eq_false h0) rfl ?_
    refine WL.no rfl rfl (lt rfl (lt rfl (lt rfl (lt rfl (lh))))) (decide_eq_false h0) rfl ?_
    refine WL.no rfl rfl (lt rfl (lt rfl (lt rfl (lt rfl (lt rfl (lh)))))) (decide_eq_false h0) rfl ?_
    refine WL.no rfl rfl (lt rfl (lt rfl (lt rfl (lt rfl (lt rfl (lt rfl (lh))))))) (decide_eq_false h0) rfl ?_
    refine WL.x (X.pickF (lt rfl (lt rfl (lt rfl (lt rfl (lt rfl (lt rfl (lt rfl (lh)))))))) (decide_eq_false h0) lc) rfl ?_
    refine WL.x (X.asg (lh)) rfl ?_
    refine WL.e1 Nx.thn 4 (lh) ?_
    intro σ3 s4
    refine W.ret1 Nx.f1 s4 ?_
    exact ⟨congrArg Value.bool (decide_eq_false (fun e => h0 e.1)).symm, rfl⟩
theorem radd_ok (p pb : Nat) (ms : List Bool) (i : Int) (w : World) (h : IsRef w p pb ms) :
    Sg.Ret Tryd.prog 18 #[.pointer (some ⟨p, 0, none⟩), .int .i64 i] w fun v w' => v = .int .i64 (if 0 ≤ i ∧ i < ms.length then 0 else 1) ∧ IsRef w' p pb (if 0 ≤ i ∧ i < ms.length then ms.set i.toNat true else ms) ∧ Ch (fun k => k = pb) w w' := by
  obtain ⟨cap, hcap, hd⟩ := h.hd
  obtain ⟨cs, hb, hg⟩ := h.bd
  have hle := h.le
  refine enter1 (n := 15) (l := [.pointer (some ⟨p, 0, none⟩), .int .i64 i]) Tryd.func18 rfl rfl rfl rfl ?_
  refine W.g2 0 1 (v1 := .pointer (some ⟨p, 0, none⟩)) (v2 := .int .i64 i) rfl rfl ?_; intro σ s0 s1
  refine W.seq ?_
  refine W.region ?_
  refine WL.x (X.asg lc) rfl ?_
  refine WL.e2 Nx.thn 0 1 (lt rfl (s0)) (lt rfl (s1)) ?_
  intro σ1 s0 s1
  refine W.seq ?_
  refine W.seq ?_
  refine W.region ?_
  refine WL.x (X.mv (s0)) rfl ?_
  refine WL.x (X.mv (lt rfl (s1))) rfl ?_
  refine WL.call2 ce36 (lt rfl (lh)) (lh) (there_ok p pb ms i w h) rfl ?_
  rintro _ _ ⟨rfl, rfl⟩
  refine WL.x (X.notp (lh)) rfl ?_
  refine WL.e3 Nx.thn 0 1 8 (lt rfl (lt rfl (lt rfl (lt rfl (s0))))) (lt rfl (lt rfl (lt rfl (lt rfl (s1))))) (lh) ?_
  intro σ2 s0 s1 s8
  refine W.cndp s8 (fun hin => ?_) (fun hin => ?_)
  · refine W.seq ?_
    refine W.region ?_
    refine WL.x (X.asg lc) rfl ?_
    refine WL.e1 Nx.thn 4 (lh) ?_
    intro σ3 s4
    refine W.ret1 (Nx.rthn Nx.f1) s4 ?_
    exact ⟨by rw [if_neg hin], by rw [if_neg hin]; exact h, Ch.refl _ _⟩
  · have hin : 0 ≤ i ∧ i < ms.length := Classical.not_not.1 hin
    refine W.skip Nx.thn ?_
    refine W.seq ?_
    refine W.region ?_
    refine WL.x (X.mv (s0)) rfl ?_
    refine WL.x (X.nilck (lh)) rfl ?_
    refine WL.x (X.fieldAddr fd50_0 (lh)) rfl ?_
    refine WL.x (X.load pl48 (lh) (by first | assumption) (by first | rfl | assumption)) rfl ?_
    refine WL.x (X.mv (lt rfl (lt rfl (lt rfl (lt rfl (s1)))))) rfl ?_
    refine WL.x (X.indexAddr Tryd.underlying48 el4 (lt rfl (lh)) (lh) (by omega) (by omega)) rfl ?_
    refine WL.store el4 (lh) lc rfl hb (by have := (Array.getElem?_eq_some_iff.1 (hg i.toNat (by omega))).1; omega) ?_
    intro w1 us; have hs := us.at_; have cs1 := us.ch
    refine WL.e0 Nx.thn  ?_
    intro σ4 
    refine W.seq ?_
    refine W.region ?_
    refine WL.x (X.asg lc) rfl ?_
    refine WL.e1 Nx.thn 4 (lh) ?_
    intro σ5 s4
    refine W.ret1 Nx.f1 s4 ?_
    rw [if_pos hin, if_pos hin]
    refine ⟨rfl, h.put (i := i.toNat) hg (by omega) cs1 ?_, cs1⟩
    rw [hs, show 0 + i.toNat * 1 = i.toNat by omega]
theorem rdrop_ok (p pb : Nat) (ms : List Bool) (i : Int) (w : World) (h : IsRef w p pb ms) :
    Sg.Ret Tryd.prog 19 #[.pointer (some ⟨p, 0, none⟩), .int .i64 i] w fun v w' => v = .int .i64 (if 0 ≤ i ∧ i < ms.length then 0 else 1) ∧ IsRef w' p pb (if 0 ≤ i ∧ i < ms.length then ms.set i.toNat false else ms) ∧ Ch (fun k => k = pb) w w' := by
  obtain ⟨cap, hcap, hd⟩ := h.hd
  obtain ⟨cs, hb, hg⟩ := h.bd
  have hle := h.le
  refine enter1 (n := 15) (l := [.pointer (some ⟨p, 0, none⟩), .int .i64 i]) Tryd.func19 rfl rfl rfl rfl ?_
  refine W.g2 0 1 (v1 := .pointer (some ⟨p, 0, none⟩)) (v2 := .int .i64 i) rfl rfl ?_; intro σ s0 s1
  refine W.seq ?_
  refine W.region ?_
  refine WL.x (X.asg lc) rfl ?_
  refine WL.e2 Nx.thn 0 1 (lt rfl (s0)) (lt rfl (s1)) ?_
  intro σ1 s0 s1
  refine W.seq ?_
  refine W.seq ?_
  refine W.region ?_
  refine WL.x (X.mv (s0)) rfl ?_
  refine WL.x (X.mv (lt rfl (s1))) rfl ?_
  refine WL.call2 ce36 (lt rfl (lh)) (lh) (there_ok p pb ms i w h) rfl ?_
  rintro _ _ ⟨rfl, rfl⟩
  refine WL.x (X.notp (lh)) rfl ?_
  refine WL.e3 Nx.thn 0 1 8 (lt rfl (lt rfl (lt rfl (lt rfl (s0))))) (lt rfl (lt rfl (lt rfl (lt rfl (s1))))) (lh) ?_
  intro σ2 s0 s1 s8
  refine W.cndp s8 (fun hin => ?_) (fun hin => ?_)
  · refine W.seq ?_
    refine W.region ?_
    refine WL.x (X.asg lc) rfl ?_
    refine WL.e1 Nx.thn 4 (lh) ?_
    intro σ3 s4
    refine W.ret1 (Nx.rthn Nx.f1) s4 ?_
    exact ⟨by rw [if_neg hin], by rw [if_neg hin]; exact h, Ch.refl _ _⟩
  · have hin : 0 ≤ i ∧ i < ms.length := Classical.not_not.1 hin
    refine W.skip Nx.thn ?_
    refine W.seq ?_
    refine W.region ?_
    refine WL.x (X.mv (s0)) rfl ?_
    refine WL.x (X.nilck (lh)) rfl ?_
    refine WL.x (X.fieldAddr fd50_0 (lh)) rfl ?_
    refine WL.x (X.load pl48 (lh) (by first | assumption) (by first | rfl | assumption)) rfl ?_
    refine WL.x (X.mv (lt rfl (lt rfl (lt rfl (lt rfl (s1)))))) rfl ?_
    refine WL.x (X.indexAddr Tryd.underlying48 el4 (lt rfl (lh)) (lh) (by omega) (by omega)) rfl ?_
    refine WL.store el4 (lh) lc rfl hb (by have := (Array.getElem?_eq_some_iff.1 (hg i.toNat (by omega))).1; omega) ?_
    intro w1 us; have hs := us.at_; have cs1 := us.ch
    refine WL.e0 Nx.thn  ?_
    intro σ4 
    refine W.seq ?_
    refine W.region ?_
    refine WL.x (X.asg lc) rfl ?_
    refine WL.e1 Nx.thn 4 (lh) ?_
    intro σ5 s4
    refine W.ret1 Nx.f1 s4 ?_
    rw [if_pos hin, if_pos hin]
    refine ⟨rfl, h.put (i := i.toNat) hg (by omega) cs1 ?_, cs1⟩
    rw [hs, show 0 + i.toNat * 1 = i.toNat by omega]

theorem elvNo {p : Nat → Bool} {k : Nat} (h : p k = false) : elv p (k + 1) = elv p k := by
  unfold elv
  rw [List.range_succ, List.filter_append, List.map_append]
  simp [h]
theorem rnew_ok (n : Int) (w : World) :
    Sg.Ret Tryd.prog 17 #[.int .i64 n] w fun v w' => Ch0 w w' ∧ (if 0 ≤ n ∧ n ≤ 4096 then ∃ p pb, v = .tuple #[.pointer (some ⟨p, 0, none⟩), .int .i64 0] ∧ IsRef w' p pb (List.replicate n.toNat false) ∧ w.heap.size ≤ p ∧ w.heap.size ≤ pb else v = .tuple #[.pointer none, .int .i64 1]) := by
  refine enter2 (n := 14) (l := [.int .i64 n]) Tryd.func17 rfl rfl rfl rfl ?_
  refine W.g1 0 (v1 := .int .i64 n) rfl ?_; intro σ s0
  refine W.seq ?_
  refine W.region ?_
  refine WL.x (X.asg lc) rfl ?_
  refine WL.x (X.asg lc) rfl ?_
  refine WL.e1 Nx.thn 0 (lt rfl (lt rfl (s0))) ?_
  intro σ1 s0
  refine W.seq ?_
  refine W.seq ?_
  refine W.region ?_
  refine WL.x (X.mv (s0)) rfl ?_
  refine WL.x (X.lss (lh) lc) rfl ?_
  refine WL.x (X.mv (lh)) rfl ?_
  refine WL.splitp (lh) (fun qb1 => ?_) (fun qb1 => ?_)
  · refine WL.no rfl rfl (lh) (decide_eq_true qb1) rfl ?_
    refine WL.no rfl rfl (lt rfl (lh)) (decide_eq_true qb1) rfl ?_
    refine WL.x (X.pickT (lt rfl (lt rfl (lh))) (decide_eq_true qb1) lc) rfl ?_
    refine WL.e2 Nx.thn 0 9 (lt rfl (lt rfl (lt rfl (lt rfl (lt rfl (lt rfl (s0))))))) (lh) ?_
    intro σ2 s0 s9
    refine W.cndT s9 ?_
    refine W.seq ?_
    refine W.region ?_
    refine WL.x (X.asg lc) rfl ?_
    refine WL.x (X.asg lc) rfl ?_
    refine WL.e2 Nx.thn 2 3 (lt rfl (lh)) (lh) ?_
    intro σ3 s2 s3
    refine W.ret2 (Nx.rthn Nx.f2) s2 s3 ?_
    exact ⟨Ch.refl _ _, by rw [if_neg (by omega)]⟩
  · refine WL.yes rfl rfl (lh) (decide_eq_false qb1) ?_
    refine WL.x (X.mv (lt rfl (lt rfl (lt rfl (s0))))) rfl ?_
    refine WL.yes rfl rfl (lt rfl (lh)) (decide_eq_false qb1) ?_
    refine WL.x (X.gtr (lh) lc) rfl ?_
    refine WL.x (X.pickF (lt rfl (lt rfl (lh))) (decide_eq_false qb1) (lh)) rfl ?_
    refine WL.e2 Nx.thn 0 9 (lt rfl (lt rfl (lt rfl (lt rfl (lt rfl (lt rfl (s0))))))) (lh) ?_
    intro σ4 s0 s9
    refine W.cndp s9 (fun qh2 => ?_) (fun qh2 => ?_)
    · refine W.seq ?_
      refine W.region ?_
      refine WL.x (X.asg lc) rfl ?_
      refine WL.x (X.asg lc) rfl ?_
      refine WL.e2 Nx.thn 2 3 (lt rfl (lh)) (lh) ?_
      intro σ5 s2 s3
      refine W.ret2 (Nx.rthn Nx.f2) s2 s3 ?_
      exact ⟨Ch.refl _ _, by rw [if_neg (by omega)]⟩
    · refine W.skip Nx.thn ?_
      refine W.seq ?_
      refine W.region ?_
      refine WL.x (X.mv (s0)) rfl ?_
      first | refine WL.makeN Tryd.underlying48 el4 rfl (lh) (lh) (by omega) (by omega) rfl ?_ | refine WL.make Tryd.underlying48 el4 rfl (lh) (lh) (by omega) (by omega) (by omega) rfl ?_
      intro w1 u3_1; have hu3_1 := u3_1.at_; have cu3_1 := u3_1.ch; have zu3_1 := u3_1.size
      refine WL.x (X.build bd50 (pcons (lh) pnil) rfl (rfl : _ = [_])) rfl ?_
      refine WL.box (lh) rfl ?_
      intro w2 u3_3; have hu3_3 := u3_3.at_; have cu3_3 := u3_3.ch; have zu3_3 := u3_3.size
      refine WL.x (X.asg (lh)) rfl ?_
      refine WL.x (X.asg lc) rfl ?_
      refine WL.e2 Nx.thn 2 3 (lt rfl (lh)) (lh) ?_
      intro σ6 s2 s3
      refine W.ret2 Nx.f2 s2 s3 ?_
      refine ⟨cu3_1.trans0 cu3_3, ?_⟩
      rw [if_pos ⟨by omega, by omega⟩]
      refine ⟨_, _, rfl, ⟨⟨n.toNat, by simp, by rw [hu3_3, List.length_replicate]⟩, ⟨_, cu3_3.at0 hu3_1, fun i hi => ?_⟩, by simp; omega⟩, by omega, Nat.le_refl _⟩
      rw [List.length_replicate] at hi
      simp [Array.getElem?_replicate, List.getD_eq_getElem?_getD, hi]
theorem rhas_ok (p pb : Nat) (ms : List Bool) (i : Int) (w : World) (h : IsRef w p pb ms) :
    Sg.Ret Tryd.prog 28 #[.pointer (some ⟨p, 0, none⟩), .int .i64 i] w fun v w' => v = .bool (decide (0 ≤ i) && ms.getD i.toNat false) ∧ w = w' := by
  obtain ⟨cap, hcap, hd⟩ := h.hd
  obtain ⟨cs, hb, hg⟩ := h.bd
  have hle := h.le
  refine enter1 (n := 17) (l := [.pointer (some ⟨p, 0, none⟩), .int .i64 i]) Tryd.func28 rfl rfl rfl rfl ?_
  refine W.g2 0 1 (v1 := .pointer (some ⟨p, 0, none⟩)) (v2 := .int .i64 i) rfl rfl ?_; intro σ s0 s1
  refine W.seq ?_
  refine W.region ?_
  refine WL.x (X.asg lc) rfl ?_
  refine WL.e2 Nx.thn 0 1 (lt rfl (s0)) (lt rfl (s1)) ?_
  intro σ1 s0 s1
  refine W.seq ?_
  refine W.region ?_
  refine WL.x (X.mv (s0)) rfl ?_
  refine WL.x (X.mv (lt rfl (s1))) rfl ?_
  refine WL.call2 ce36 (lt rfl (lh)) (lh) (there_ok p pb ms i w h) rfl ?_
  rintro _ _ ⟨rfl, rfl⟩
  refine WL.x (X.mv (lh)) rfl ?_
  refine WL.splitp (lh) (fun hin => ?_) (fun hin => ?_)
  · refine WL.yes rfl rfl (lh) (decide_eq_true hin) ?_
    refine WL.x (X.mv (lt rfl (lt rfl (lt rfl (lt rfl (s0)))))) rfl ?_
    refine WL.yes rfl rfl (lt rfl (lh)) (decide_eq_true hin) ?_
    refine WL.x (X.nilck (lh)) rfl ?_
    refine WL.yes rfl rfl (lt rfl (lt rfl (lh))) (decide_eq_true hin) ?_
    refine WL.x (X.fieldAddr fd50_0 (lh)) rfl ?_
    refine WL.yes rfl rfl (lt rfl (lt rfl (lt rfl (lh)))) (decide_eq_true hin) ?_
    refine WL.x (X.load pl48 (lh) (by first | assumption) (by first | rfl | assumption)) rfl ?_
    refine WL.yes rfl rfl (lt rfl (lt rfl (lt rfl (lt rfl (lh))))) (decide_eq_true hin) ?_
    refine WL.x (X.mv (lt rfl (lt rfl (lt rfl (lt rfl (lt rfl (lt rfl (lt rfl (lt rfl (s1)))))))))) rfl ?_
    refine WL.yes rfl rfl (lt rfl (lt rfl (lt rfl (lt rfl (lt rfl (lh)))))) (decide_eq_true hin) ?_
    refine WL.x (X.indexAddr Tryd.underlying48 el4 (lt rfl (lh)) (lh) (by omega) (by omega)) rfl ?_
    refine WL.yes rfl rfl (lt rfl (lt rfl (lt rfl (lt rfl (lt rfl (lt rfl (lh))))))) (decide_eq_true hin) ?_
    refine WL.x (X.load pl4 (lh) hb (by rw [show 0 + i.toNat * 1 = i.toNat by omega]; exact hg _ (by omega))) rfl ?_
    refine WL.x (X.pickT (lt rfl (lt rfl (lt rfl (lt rfl (lt rfl (lt rfl (lt rfl (lh)))))))) (decide_eq_true hin) (lh)) rfl ?_
    refine WL.x (X.asg (lh)) rfl ?_
    refine WL.e1 Nx.thn 4 (lh) ?_
    intro σ2 s4
    refine W.ret1 Nx.f1 s4 ?_
    exact ⟨by rw [decide_eq_true hin.1, Bool.true_and], rfl⟩
  · refine WL.no rfl rfl (lh) (decide_eq_false hin) rfl ?_
    refine WL.no rfl rfl (lt rfl (lh)) (decide_eq_false hin) rfl ?_
    refine WL.no rfl rfl (lt rfl (lt rfl (lh))) (decide_eq_false hin) rfl ?_
    refine WL.no rfl rfl (lt rfl (lt rfl (lt rfl (lh)))) (decide_eq_false hin) rfl ?_
    refine WL.no rfl rfl (lt rfl (lt rfl (lt rfl (lt rfl (lh))))) (decide_eq_false hin) rfl ?_
    refine WL.no rfl rfl (lt rfl (lt rfl (lt rfl (lt rfl (lt rfl (lh)))))) (decide_eq_false hin) rfl ?_
    refine WL.no rfl rfl (lt rfl (lt rfl (lt rfl (lt rfl (lt rfl (lt rfl (lh))))))) (decide_eq_false hin) rfl ?_
    refine WL.x (X.pickF (lt rfl (lt rfl (lt rfl (lt rfl (lt rfl (lt rfl (lt rfl (lh)))))))) (decide_eq_false hin) lc) rfl ?_
    refine WL.x (X.asg (lh)) rfl ?_
    refine WL.e1 Nx.thn 4 (lh) ?_
    intro σ3 s4
    refine W.ret1 Nx.f1 s4 ?_
    refine ⟨congrArg Value.bool ?_, rfl⟩
    by_cases h0 : 0 ≤ i
    · rw [List.getD_eq_getElem?_getD, List.getElem?_eq_none (by omega)]; simp
    · simp [h0]
theorem rnext_ok (p pb : Nat) (ms : List Bool) (i : Int) (w : World) (h : IsRef w p pb ms) :
    Sg.Ret Tryd.prog 26 #[.pointer (some ⟨p, 0, none⟩), .int .i64 i] w fun v w' => IsNext (fun j => ms.getD j false) i v ∧ w = w' := by
  obtain ⟨cap, hcap, hd⟩ := h.hd
  obtain ⟨cs, hb, hg⟩ := h.bd
  have hle := h.le
  refine enter2 (n := 26) (l := [.pointer (some ⟨p, 0, none⟩), .int .i64 i]) Tryd.func26 rfl rfl rfl rfl ?_
  refine W.g2 0 1 (v1 := .pointer (some ⟨p, 0, none⟩)) (v2 := .int .i64 i) rfl rfl ?_; intro σ s0 s1
  refine W.seq ?_
  refine W.region ?_
  refine WL.x (X.asg lc) rfl ?_
  refine WL.x (X.asg lc) rfl ?_
  refine WL.e2 Nx.thn 0 1 (lt rfl (lt rfl (s0))) (lt rfl (lt rfl (s1))) ?_
  intro σ1 s0 s1
  refine W.seq ?_
  refine W.seq ?_
  refine W.region ?_
  refine WL.x (X.mv (s0)) rfl ?_
  refine WL.x (X.nilck (lh)) rfl ?_
  refine WL.x (X.fieldAddr fd50_0 (lh)) rfl ?_
  refine WL.x (X.load pl48 (lh) (by first | assumption) (by first | rfl | assumption)) rfl ?_
  refine WL.x (X.lenSl Tryd.underlying48 (lh)) rfl ?_
  refine WL.x (X.mv lc) rfl ?_
  refine WL.e4 Nx.thn 1 11 12 13 (lt rfl (lt rfl (lt rfl (lt rfl (lt rfl (lt rfl (s1))))))) (lt rfl (lt rfl (lh))) (lt rfl (lh)) (lh) ?_
  intro σ2 s1 s11 s12 s13
  refine W.block ?_
  have qo1 := s1
  have qo2 := s11
  have qo3 := s12
  -- loop 0: kept [1, 11, 12], varied [13]
  refine W.loop (G := Nat) (fun k σ' w' => (σ' 1 = σ2 1 ∧ σ' 11 = σ2 11 ∧ σ' 12 = σ2 12 ∧ True) ∧ w = w' ∧ (σ' 13 = .int .i64 (k : Int) ∧ k ≤ ms.length ∧ ∀ m : Nat, m < k → i ≤ m → ms.getD m false = false)) (fun k => ms.length - k) (0) ⟨⟨rfl, rfl, rfl, trivial⟩, rfl, s13, by omega, fun m h1 => absurd h1 (by omega)⟩ ?_
  rintro k σ3 w1 ⟨⟨f1, f11, f12, _⟩, rfl, s13, hk, hno⟩
  have s1 := f1.trans qo1
  have s11 := f11.trans qo2
  have s12 := f12.trans qo3
  refine W.seq ?_
  refine W.region ?_
  refine WL.x (X.lss (s13) (s12)) rfl ?_
  refine WL.e5 Nx.thn 1 11 12 13 14 (lt rfl (s1)) (lt rfl (s11)) (lt rfl (s12)) (lt rfl (s13)) (lh) ?_
  intro σ4 s1 s11 s12 s13 s14
  refine W.seq ?_
  refine W.cndp s14 (fun hlt => ?_) (fun hlt => ?_)
  · refine W.skip Nx.thn ?_
    refine W.seq ?_
    refine W.block ?_
    refine W.seq ?_
    refine W.region ?_
    refine WL.x (X.mv (s13)) rfl ?_
    refine WL.x (X.indexAddr Tryd.underlying48 el4 (lt rfl (s11)) (lt rfl (s13)) (by omega) (by omega)) rfl ?_
    refine WL.x (X.load pl4 (lh) hb (by rw [show 0 + (k : Int).toNat * 1 = k by omega]; exact hg k (by omega))) rfl ?_
    refine WL.x (X.asg (lt rfl (lt rfl (lh)))) rfl ?_
    refine WL.x (X.asg (lt rfl (lh))) rfl ?_
    refine WL.e6 Nx.thn 1 6 7 11 12 13 (lt rfl (lt rfl (lt rfl (lt rfl (lt rfl (s1)))))) (lt rfl (lh)) (lh) (lt rfl (lt rfl (lt rfl (lt rfl (lt rfl (s11)))))) (lt rfl (lt rfl (lt rfl (lt rfl (lt rfl (s12)))))) (lt rfl (lt rfl (lt rfl (lt rfl (lt rfl (s13)))))) ?_
    intro σ5 s1 s6 s7 s11 s12 s13
    refine W.seq ?_
    refine W.region ?_
    refine WL.x (X.mv (s7)) rfl ?_
    refine WL.x (X.mv (lh)) rfl ?_
    refine WL.split (lh) (fun hx => ?_) (fun hx => ?_)
    · refine WL.yes rfl rfl (lh) (hx) ?_
      refine WL.x (X.mv (lt rfl (lt rfl (s6)))) rfl ?_
      refine WL.yes rfl rfl (lt rfl (lh)) (hx) ?_
      refine WL.x (X.mv (lt rfl (lt rfl (lt rfl (s1))))) rfl ?_
      refine WL.yes rfl rfl (lt rfl (lt rfl (lh))) (hx) ?_
      refine WL.x (X.geq (lt rfl (lh)) (lh)) rfl ?_
      refine WL.x (X.pickT (lt rfl (lt rfl (lt rfl (lh)))) (hx) (lh)) rfl ?_
      refine WL.e6 Nx.thn 1 6 11 12 13 23 (lt rfl (lt rfl (lt rfl (lt rfl (lt rfl (lt rfl (s1))))))) (lt rfl (lt rfl (lt rfl (lt rfl (lt rfl (lt rfl (s6))))))) (lt rfl (lt rfl (lt rfl (lt rfl (lt rfl (lt rfl (s11))))))) (lt rfl (lt rfl (lt rfl (lt rfl (lt rfl (lt rfl (s12))))))) (lt rfl (lt rfl (lt rfl (lt rfl (lt rfl (lt rfl (s13))))))) (lh) ?_
      intro σ6 s1 s6 s11 s12 s13 s23
      refine W.cndp s23 (fun hge => ?_) (fun hge => ?_)
      · refine W.seq ?_
        refine W.region ?_
        refine WL.x (X.mv (s6)) rfl ?_
        refine WL.x (X.asg (lh)) rfl ?_
        refine WL.x (X.asg lc) rfl ?_
        refine WL.e2 Nx.thn 4 5 (lt rfl (lh)) (lh) ?_
        intro σ7 s4 s5
        refine W.ret2 (Nx.rblk (Nx.rthn (Nx.rthn (Nx.rblk (Nx.rthn Nx.f2))))) s4 s5 ?_
        exact ⟨.inl ⟨k, rfl, hx, by omega, hno⟩, rfl⟩
      · refine W.skip (Nx.blk Nx.thn) ?_
        refine W.region ?_
        first | refine WL.x (X.add (s13) lc (by omega) (by omega)) rfl ?_ | refine WL.x (X.addw (s13) lc) rfl ?_
        refine WL.x (X.mv (lh)) rfl ?_
        refine WL.e4 Nx.thn 1 11 12 13 (lt rfl (lt rfl (s1))) (lt rfl (lt rfl (s11))) (lt rfl (lt rfl (s12))) (lh) ?_
        intro σ8 s1 s11 s12 s13
        refine ⟨k + 1, by omega, ⟨s1.trans qo1.symm, s11.trans qo2.symm, s12.trans qo3.symm, trivial⟩, rfl, s13, by omega, fun m h1 h2 => by by_cases e : m = k; (· subst e; first | exact hx | exact absurd h2 hge); (· exact hno m (by omega) h2)⟩
    · refine WL.no rfl rfl (lh) (hx) rfl ?_
      refine WL.no rfl rfl (lt rfl (lh)) (hx) rfl ?_
      refine WL.no rfl rfl (lt rfl (lt rfl (lh))) (hx) rfl ?_
      refine WL.x (X.pickF (lt rfl (lt rfl (lt rfl (lh)))) (hx) lc) rfl ?_
      refine WL.e6 Nx.thn 1 6 11 12 13 23 (lt rfl (lt rfl (lt rfl (lt rfl (lt rfl (lt rfl (s1))))))) (lt rfl (lt rfl (lt rfl (lt rfl (lt rfl (lt rfl (s6))))))) (lt rfl (lt rfl (lt rfl (lt rfl (lt rfl (lt rfl (s11))))))) (lt rfl (lt rfl (lt rfl (lt rfl (lt rfl (lt rfl (s12))))))) (lt rfl (lt rfl (lt rfl (lt rfl (lt rfl (lt rfl (s13))))))) (lh) ?_
      intro σ9 s1 s6 s11 s12 s13 s23
      refine W.cndF s23 ?_
      refine W.skip (Nx.blk Nx.thn) ?_
      refine W.region ?_
      first | refine WL.x (X.add (s13) lc (by omega) (by omega)) rfl ?_ | refine WL.x (X.addw (s13) lc) rfl ?_
      refine WL.x (X.mv (lh)) rfl ?_
      refine WL.e4 Nx.thn 1 11 12 13 (lt rfl (lt rfl (s1))) (lt rfl (lt rfl (s11))) (lt rfl (lt rfl (s12))) (lh) ?_
      intro σ10 s1 s11 s12 s13
      refine ⟨k + 1, by omega, ⟨s1.trans qo1.symm, s11.trans qo2.symm, s12.trans qo3.symm, trivial⟩, rfl, s13, by omega, fun m h1 h2 => by by_cases e : m = k; (· subst e; first | exact hx | exact absurd h2 hge); (· exact hno m (by omega) h2)⟩
  · refine W.exit (Nx.xthn (Nx.xthn (Nx.xblk Nx.thn))) ?_
    refine W.seq ?_
    refine W.region ?_
    refine WL.x (X.asg lc) rfl ?_
    refine WL.x (X.asg lc) rfl ?_
    refine WL.e2 Nx.thn 4 5 (lt rfl (lh)) (lh) ?_
    intro σ11 s4 s5
    refine W.ret2 Nx.f2 s4 s5 ?_
    refine ⟨.inr ⟨rfl, fun m hm => ?_⟩, rfl⟩
    by_cases e : m < ms.length
    · exact hno m (by omega) hm
    · show ms.getD m false = false
      rw [List.getD_eq_getElem?_getD, List.getElem?_eq_none (by omega)]; rfl
theorem rlist_ok (p pb : Nat) (ms : List Bool) (w : World) (h : IsRef w p pb ms) :
    Sg.Ret Tryd.prog 27 #[.pointer (some ⟨p, 0, none⟩)] w fun v w' => w'.ownsRow w.heap.size 3 1 v (elv (fun j => ms.getD j false) ms.length).length (elv (fun j => ms.getD j false) ms.length) ∧ Ch0 w w' := by
  obtain ⟨cap, hcap, hd⟩ := h.hd
  obtain ⟨cs, hb, hg⟩ := h.bd
  have hle := h.le
  refine enter1 (n := 23) (l := [.pointer (some ⟨p, 0, none⟩)]) Tryd.func27 rfl rfl rfl rfl ?_
  refine W.g1 0 (v1 := .pointer (some ⟨p, 0, none⟩)) rfl ?_; intro σ s0
  refine W.seq ?_
  refine W.region ?_
  refine WL.x (X.asg lc) rfl ?_
  refine WL.e1 Nx.thn 0 (lt rfl (s0)) ?_
  intro σ1 s0
  refine W.seq ?_
  refine W.region ?_
  refine WL.x (X.asg lc) rfl ?_
  refine WL.e2 Nx.thn 0 3 (lt rfl (s0)) (lh) ?_
  intro σ2 s0 s3
  refine W.seq ?_
  refine W.seq ?_
  refine W.region ?_
  refine WL.x (X.mv (s0)) rfl ?_
  refine WL.x (X.nilck (lh)) rfl ?_
  refine WL.x (X.fieldAddr fd50_0 (lh)) rfl ?_
  refine WL.x (X.load pl48 (lh) (by first | assumption) (by first | rfl | assumption)) rfl ?_
  refine WL.x (X.lenSl Tryd.underlying48 (lh)) rfl ?_
  refine WL.x (X.mv lc) rfl ?_
  refine WL.e4 Nx.thn 3 9 10 11 (lt rfl (lt rfl (lt rfl (lt rfl (lt rfl (lt rfl (s3))))))) (lt rfl (lt rfl (lh))) (lt rfl (lh)) (lh) ?_
  intro σ3 s3 s9 s10 s11
  refine W.block ?_
  have qo1 := s9
  have qo2 := s10
  -- loop 0: kept [9, 10], varied [3, 11]
  refine W.loop (G := Nat) (fun k σ' w' => (σ' 9 = σ3 9 ∧ σ' 10 = σ3 10 ∧ True) ∧ (∃ lv, σ' 11 = .int .i64 (k : Int) ∧ k ≤ ms.length ∧ σ' 3 = lv ∧ w'.ownsRow w.heap.size 3 1 lv (elv (fun j => ms.getD j false) k).length (elv (fun j => ms.getD j false) k) ∧ Ch0 w w')) (fun k => ms.length - k) (0) ⟨⟨rfl, rfl, trivial⟩, _, s11, by omega, s3, World.ownsRow_nil _ _ _ _, Ch.refl _ _⟩ ?_
  rintro k σ4 w1 ⟨⟨f9, f10, _⟩, lv, s11, hk, s3, hown, hcl⟩
  have s9 := f9.trans qo1
  have s10 := f10.trans qo2
  have hel := elv_len (fun j => ms.getD j false) k
  have hsz := hcl.size
  refine W.seq ?_
  refine W.region ?_
  refine WL.x (X.lss (s11) (s10)) rfl ?_
  refine WL.e5 Nx.thn 3 9 10 11 12 (lt rfl (s3)) (lt rfl (s9)) (lt rfl (s10)) (lt rfl (s11)) (lh) ?_
  intro σ5 s3 s9 s10 s11 s12
  refine W.seq ?_
  refine W.cndp s12 (fun hlt => ?_) (fun hlt => ?_)
  · refine W.skip Nx.thn ?_
    refine W.seq ?_
    refine W.block ?_
    refine W.seq ?_
    refine W.region ?_
    refine WL.x (X.mv (s11)) rfl ?_
    refine WL.x (X.indexAddr Tryd.underlying48 el4 (lt rfl (s9)) (lt rfl (s11)) (by omega) (by omega)) rfl ?_
    refine WL.x (X.load pl4 (lh) (hcl.at0 hb) (by rw [show 0 + (k : Int).toNat * 1 = k by omega]; exact hg k (by omega))) rfl ?_
    refine WL.x (X.asg (lt rfl (lt rfl (lh)))) rfl ?_
    refine WL.x (X.asg (lt rfl (lh))) rfl ?_
    refine WL.e6 Nx.thn 3 4 5 9 10 11 (lt rfl (lt rfl (lt rfl (lt rfl (lt rfl (s3)))))) (lt rfl (lh)) (lh) (lt rfl (lt rfl (lt rfl (lt rfl (lt rfl (s9)))))) (lt rfl (lt rfl (lt rfl (lt rfl (lt rfl (s10)))))) (lt rfl (lt rfl (lt rfl (lt rfl (lt rfl (s11)))))) ?_
    intro σ6 s3 s4 s5 s9 s10 s11
    refine W.seq ?_
    refine W.region ?_
    refine WL.x (X.mv (s5)) rfl ?_
    refine WL.e6 Nx.thn 3 4 9 10 11 16 (lt rfl (s3)) (lt rfl (s4)) (lt rfl (s9)) (lt rfl (s10)) (lt rfl (s11)) (lh) ?_
    intro σ7 s3 s4 s9 s10 s11 s16
    refine W.cnd s16 (fun hx => ?_) (fun hx => ?_)
    · refine W.region ?_
      refine WL.x (X.mv (s3)) rfl ?_
      refine WL.x (X.mv (lt rfl (s4))) rfl ?_
      refine WL.bslice Tryd.underlying22 el3 rfl (pcons (lh) pnil) rfl (rfl : _ = [_]) rfl ?_
      intro w2 u6_2; have hu6_2 := u6_2.at_; have cu6_2 := u6_2.ch; have zu6_2 := u6_2.size
      refine WL.append Tryd.underlying22 el3 rfl (by decide) (lt rfl (lt rfl (lh))) (lh) (own_ch hown cu6_2 (fun _ _ => id)) (by first | assumption | exact cu6_2.at0 (by assumption) | exact cu6_2.at0 (hcl.at0 (by assumption))) rfl (by simp [Value.oneCell']) (by unfold maxLen; omega) (by omega) (by omega) rfl ?_
      intro va6_3 w3 ho6_3 ca6_3
      have hcn := hcl.trans (cu6_2.trans ca6_3 (F := fun _ => False) (H := fun k => w.heap.size ≤ k) (fun _ _ e => e.elim) (fun i hi e => (own_lt hown e).1)) (H := fun _ => False) (fun _ _ e => e) (fun i hi e => absurd hi (by omega))
      refine WL.x (X.asg (lh)) rfl ?_
      refine WL.e4 (Nx.blk Nx.thn) 3 9 10 11 (lh) (lt rfl (lt rfl (lt rfl (lt rfl (lt rfl (s9)))))) (lt rfl (lt rfl (lt rfl (lt rfl (lt rfl (s10)))))) (lt rfl (lt rfl (lt rfl (lt rfl (lt rfl (s11)))))) ?_
      intro σ8 s3 s9 s10 s11
      refine W.region ?_
      first | refine WL.x (X.add (s11) lc (by omega) (by omega)) rfl ?_ | refine WL.x (X.addw (s11) lc) rfl ?_
      refine WL.x (X.mv (lh)) rfl ?_
      refine WL.e4 Nx.thn 3 9 10 11 (lt rfl (lt rfl (s3))) (lt rfl (lt rfl (s9))) (lt rfl (lt rfl (s10))) (lh) ?_
      intro σ9 s3 s9 s10 s11
      refine ⟨k + 1, by omega, ⟨s9.trans qo1.symm, s10.trans qo2.symm, trivial⟩, _, s11, by omega, s3, by rw [elv_succ_yes (p := fun j => ms.getD j false) (Nat.le_refl k) hx (fun m h1 h2 => absurd h1 (by omega)), List.length_append]; exact ho6_3, hcn⟩
    · refine W.skip (Nx.blk Nx.thn) ?_
      refine W.region ?_
      first | refine WL.x (X.add (s11) lc (by omega) (by omega)) rfl ?_ | refine WL.x (X.addw (s11) lc) rfl ?_
      refine WL.x (X.mv (lh)) rfl ?_
      refine WL.e4 Nx.thn 3 9 10 11 (lt rfl (lt rfl (s3))) (lt rfl (lt rfl (s9))) (lt rfl (lt rfl (s10))) (lh) ?_
      intro σ10 s3 s9 s10 s11
      refine ⟨k + 1, by omega, ⟨s9.trans qo1.symm, s10.trans qo2.symm, trivial⟩, _, s11, by omega, s3, by rw [elvNo (p := fun j => ms.getD j false) hx]; exact hown, hcl⟩
  · refine W.exit (Nx.xthn (Nx.xthn (Nx.xblk Nx.thn))) ?_
    refine W.seq ?_
    refine W.region ?_
    refine WL.x (X.mv (s3)) rfl ?_
    refine WL.x (X.asg (lh)) rfl ?_
    refine WL.e1 Nx.thn 2 (lh) ?_
    intro σ11 s2
    refine W.ret1 Nx.f1 s2 ?_
    have hke : ms.length = k := by omega
    rw [hke]
    exact ⟨hown, hcl⟩
end Go.Proofs.YtbnnogbmmbkedaaDoor
