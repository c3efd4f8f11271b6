/-
  A part of the walk of the program.
-/
import Derived.Test.YtaldkbdnefpklaaDoorFacts
import Derived.Test.YtaldkbdnefpklaaDoorWords
import Derived.Test.YtaldkbdnefpklaaDoorReads
set_option linter.unusedVariables false
set_option linter.unusedSimpArgs false
set_option maxRecDepth 100000
namespace Go.Proofs.YtaldkbdnefpklaaDoor
open Go Go.RowKit Sg

def bcell (x : BV) : Value := .int .u64 (x.toNat : Int)
def wcells (ws : List BV) : Array Value := (ws.map bcell).toArray
theorem wcells_size (ws : List BV) : (wcells ws).size = ws.length := by simp [wcells]
theorem wcells_get (ws : List BV) (i : Nat) (h : i < ws.length) : (wcells ws)[i]? = some (bcell (ws.getD i 0)) := by
  simp [wcells, List.getD_eq_getElem?_getD, List.getElem?_eq_getElem h]
theorem wcells_set (ws : List BV) (i : Nat) (x : BV) : (wcells ws).setIfInBounds i (bcell x) = wcells (ws.set i x) := by
  simp [wcells, List.map_set]

/-- At block b stands a set of the program, with the bound n; its words stand in block wb. -/
structure IsSet (w : World) (b wb : Nat) (n : Nat) (ws : List BV) : Prop where
  hd : w.heap[b]? = some (.cells #[.slice (some ⟨wb, 0, none⟩) ws.length ws.length, .int .i64 (n : Int), .bool true] 67 (0, 0))
  wd : w.heap[wb]? = some (.cells (wcells ws) 70 (0, 0))
  len : ws.length = (n + 63) / 64
  le : n ≤ 4096
  clean : ∀ i, n ≤ i → mem ws i = false
theorem IsSet.ch {F : Nat → Prop} {w w' : World} {b wb n : Nat} {ws : List BV} (h : IsSet w b wb n ws) (c : Ch F w w') (h1 : ¬ F b) (h2 : ¬ F wb) : IsSet w' b wb n ws :=
  ⟨c.at h.hd h1, c.at h.wd h2, h.len, h.le, h.clean⟩
theorem IsSet.ch0 {w w' : World} {b wb n : Nat} {ws : List BV} (h : IsSet w b wb n ws) (c : Ch0 w w') : IsSet w' b wb n ws := h.ch c id id
theorem IsSet.dr {w w' : World} {b wb n : Nat} {ws : List BV} (h : IsSet w b wb n ws) (c : Dr w w') : IsSet w' b wb n ws := h.ch0 c.ch0
theorem IsSet.ltb {w : World} {b wb n : Nat} {ws : List BV} (h : IsSet w b wb n ws) : b < w.heap.size := lt_of_blk h.hd
theorem IsSet.ltw {w : World} {b wb n : Nat} {ws : List BV} (h : IsSet w b wb n ws) : wb < w.heap.size := lt_of_blk h.wd
theorem IsSet.ne {w : World} {b wb n : Nat} {ws : List BV} (h : IsSet w b wb n ws) : b ≠ wb := by
  intro e
  have h1 := h.hd
  rw [e, h.wd] at h1
  have h2 := (Obj.cells.inj (Option.some.inj h1)).2.1
  exact absurd h2 (by decide)
theorem IsSet.slot {w : World} {b wb n : Nat} {ws : List BV} (h : IsSet w b wb n ws) {i : Nat} (hi : i < n) : i / 64 < ws.length := by rw [h.len]; omega
theorem wcells_replicate (m : Nat) : Array.replicate m (Value.int .u64 0) = wcells (List.replicate m 0) := by
  unfold wcells bcell
  simp
theorem bit_cell (m : Nat) (h : m < 64) : Value.int .u64 (IntKind.u64.wrap (1 * 2 ^ (min m 64))) = bcell (BitVec.twoPow 64 m) := by unfold bcell; rw [shl_one m h]

theorem none_made (b wb n : Nat) (ws : List BV) (w : World) (h : IsSet w b wb n ws) :
    Sg.Ret Tryd.prog 33 #[.pointer (some ⟨b, 0, none⟩)] w fun v w' => v = .bool false ∧ w = w' := by
  have hd := h.hd
  refine enter1 (n := 12) (l := [.pointer (some ⟨b, 0, none⟩)]) Tryd.func33 rfl rfl rfl rfl ?_
  refine W.g1 0 (v1 := .pointer (some ⟨b, 0, none⟩)) rfl ?_; intro σ s0
  refine W.seq ?_
  refine W.region ?_
  refine WL.x (X.asg lc) rfl ?_
  refine WL.e1 Nx.thn 0 (lt rfl (s0)) ?_
  intro σ1 s0
  refine W.seq ?_
  refine W.region ?_
  refine WL.x (X.mv (s0)) rfl ?_
  refine WL.x (X.eqlN Tryd.underlying30 (lh) lc) rfl ?_
  refine WL.x (X.mv (lh)) rfl ?_
  refine WL.yes rfl rfl (lh) (rfl) ?_
  refine WL.x (X.mv (lt rfl (lt rfl (lt rfl (s0))))) rfl ?_
  refine WL.yes rfl rfl (lt rfl (lh)) (rfl) ?_
  refine WL.x (X.nilck (lh)) rfl ?_
  refine WL.yes rfl rfl (lt rfl (lt rfl (lh))) (rfl) ?_
  refine WL.x (X.fieldAddr fd67_2 (lh)) rfl ?_
  refine WL.yes rfl rfl (lt rfl (lt rfl (lt rfl (lh)))) (rfl) ?_
  refine WL.x (X.load pl4 (lh) (by first | assumption) (by first | rfl | assumption)) rfl ?_
  refine WL.yes rfl rfl (lt rfl (lt rfl (lt rfl (lt rfl (lh))))) (rfl) ?_
  refine WL.x (X.not (lh)) rfl ?_
  refine WL.x (X.pickF (lt rfl (lt rfl (lt rfl (lt rfl (lt rfl (lh)))))) (rfl) (lh)) rfl ?_
  refine WL.x (X.asg (lh)) rfl ?_
  refine WL.e1 Nx.thn 2 (lh) ?_
  intro σ2 s2
  refine W.ret1 Nx.f1 s2 ?_
  exact ⟨rfl, rfl⟩
theorem none_nil (w : World) :
    Sg.Ret Tryd.prog 33 #[.pointer none] w fun v w' => v = .bool true ∧ w = w' := by
  refine enter1 (n := 12) (l := [.pointer none]) Tryd.func33 rfl rfl rfl rfl ?_
  refine W.g1 0 (v1 := .pointer none) rfl ?_; intro σ s0
  refine W.seq ?_
  refine W.region ?_
  refine WL.x (X.asg lc) rfl ?_
  refine WL.e1 Nx.thn 0 (lt rfl (s0)) ?_
  intro σ1 s0
  refine W.seq ?_
  refine W.region ?_
  refine WL.x (X.mv (s0)) rfl ?_
  refine WL.x (X.eqlN Tryd.underlying30 (lh) lc) rfl ?_
  refine WL.x (X.mv (lh)) rfl ?_
  refine WL.no rfl rfl (lh) (rfl) rfl ?_
  refine WL.no rfl rfl (lt rfl (lh)) (rfl) rfl ?_
  refine WL.no rfl rfl (lt rfl (lt rfl (lh))) (rfl) rfl ?_
  refine WL.no rfl rfl (lt rfl (lt rfl (lt rfl (lh)))) (rfl) rfl ?_
  refine WL.no rfl rfl (lt rfl (lt rfl (lt rfl (lt rfl (lh))))) (rfl) rfl ?_
  refine WL.x (X.pickT (lt rfl (lt rfl (lt rfl (lt rfl (lt rfl (lh)))))) (rfl) lc) rfl ?_
  refine WL.x (X.asg (lh)) rfl ?_
  refine WL.e1 Nx.thn 2 (lh) ?_
  intro σ2 s2
  refine W.ret1 Nx.f1 s2 ?_
  exact ⟨rfl, rfl⟩
theorem none_zero (b : Nat) (w : World) (hd : w.heap[b]? = some (.cells #[.slice none 0 0, .int .i64 0, .bool false] 67 (0, 0))) :
    Sg.Ret Tryd.prog 33 #[.pointer (some ⟨b, 0, none⟩)] w fun v w' => v = .bool true ∧ w = w' := by
  refine enter1 (n := 12) (l := [.pointer (some ⟨b, 0, none⟩)]) Tryd.func33 rfl rfl rfl rfl ?_
  refine W.g1 0 (v1 := .pointer (some ⟨b, 0, none⟩)) rfl ?_; intro σ s0
  refine W.seq ?_
  refine W.region ?_
  refine WL.x (X.asg lc) rfl ?_
  refine WL.e1 Nx.thn 0 (lt rfl (s0)) ?_
  intro σ1 s0
  refine W.seq ?_
  refine W.region ?_
  refine WL.x (X.mv (s0)) rfl ?_
  refine WL.x (X.eqlN Tryd.underlying30 (lh) lc) rfl ?_
  refine WL.x (X.mv (lh)) rfl ?_
  refine WL.yes rfl rfl (lh) (rfl) ?_
  refine WL.x (X.mv (lt rfl (lt rfl (lt rfl (s0))))) rfl ?_
  refine WL.yes rfl rfl (lt rfl (lh)) (rfl) ?_
  refine WL.x (X.nilck (lh)) rfl ?_
  refine WL.yes rfl rfl (lt rfl (lt rfl (lh))) (rfl) ?_
  refine WL.x (X.fieldAddr fd67_2 (lh)) rfl ?_
  refine WL.yes rfl rfl (lt rfl (lt rfl (lt rfl (lh)))) (rfl) ?_
  refine WL.x (X.load pl4 (lh) (by first | assumption) (by first | rfl | assumption)) rfl ?_
  refine WL.yes rfl rfl (lt rfl (lt rfl (lt rfl (lt rfl (lh))))) (rfl) ?_
  refine WL.x (X.not (lh)) rfl ?_
  refine WL.x (X.pickF (lt rfl (lt rfl (lt rfl (lt rfl (lt rfl (lh)))))) (rfl) (lh)) rfl ?_
  refine WL.x (X.asg (lh)) rfl ?_
  refine WL.e1 Nx.thn 2 (lh) ?_
  intro σ2 s2
  refine W.ret1 Nx.f1 s2 ?_
  exact ⟨rfl, rfl⟩
theorem new_ok (n : Int) (w : World) :
    Sg.Ret Tryd.prog 30 #[.int .i64 n] w fun v w' => Ch0 w w' ∧ (if 0 ≤ n ∧ n ≤ 4096 then ∃ b wb, v = .tuple #[.pointer (some ⟨b, 0, none⟩), .int .i64 0] ∧ IsSet w' b wb n.toNat (List.replicate ((n.toNat + 63) / 64) 0) ∧ w.heap.size ≤ b ∧ w.heap.size ≤ wb else v = .tuple #[.pointer none, .int .i64 1]) := by
  refine enter2 (n := 24) (l := [.int .i64 n]) Tryd.func30 rfl rfl rfl rfl ?_
  refine W.g1 0 (v1 := .int .i64 n) rfl ?_; intro σ s0
  refine W.seq ?_
  refine W.region ?_
  refine WL.x (X.asg lc) rfl ?_
  refine WL.x (X.asg lc) rfl ?_
  refine WL.e1 Nx.thn 0 (lt rfl (lt rfl (s0))) ?_
  intro σ1 s0
  refine W.seq ?_
  refine W.seq ?_
  refine W.region ?_
  refine WL.x (X.mv (s0)) rfl ?_
  refine WL.x (X.lss (lh) lc) rfl ?_
  refine WL.x (X.mv (lh)) rfl ?_
  refine WL.splitp (lh) (fun qb1 => ?_) (fun qb1 => ?_)
  · refine WL.no rfl rfl (lh) (decide_eq_true qb1) rfl ?_
    refine WL.no rfl rfl (lt rfl (lh)) (decide_eq_true qb1) rfl ?_
    refine WL.x (X.pickT (lt rfl (lt rfl (lh))) (decide_eq_true qb1) lc) rfl ?_
    refine WL.e2 Nx.thn 0 10 (lt rfl (lt rfl (lt rfl (lt rfl (lt rfl (lt rfl (s0))))))) (lh) ?_
    intro σ2 s0 s10
    refine W.cndT s10 ?_
    refine W.seq ?_
    refine W.region ?_
    refine WL.x (X.asg lc) rfl ?_
    refine WL.x (X.asg lc) rfl ?_
    refine WL.e2 Nx.thn 2 3 (lt rfl (lh)) (lh) ?_
    intro σ3 s2 s3
    refine W.ret2 (Nx.rthn Nx.f2) s2 s3 ?_
    exact ⟨Ch.refl _ _, by rw [if_neg (by omega)]⟩
  · refine WL.yes rfl rfl (lh) (decide_eq_false qb1) ?_
    refine WL.x (X.mv (lt rfl (lt rfl (lt rfl (s0))))) rfl ?_
    refine WL.yes rfl rfl (lt rfl (lh)) (decide_eq_false qb1) ?_
    refine WL.x (X.gtr (lh) lc) rfl ?_
    refine WL.x (X.pickF (lt rfl (lt rfl (lh))) (decide_eq_false qb1) (lh)) rfl ?_
    refine WL.e2 Nx.thn 0 10 (lt rfl (lt rfl (lt rfl (lt rfl (lt rfl (lt rfl (s0))))))) (lh) ?_
    intro σ4 s0 s10
    refine W.cndp s10 (fun qh2 => ?_) (fun qh2 => ?_)
    · refine W.seq ?_
      refine W.region ?_
      refine WL.x (X.asg lc) rfl ?_
      refine WL.x (X.asg lc) rfl ?_
      refine WL.e2 Nx.thn 2 3 (lt rfl (lh)) (lh) ?_
      intro σ5 s2 s3
      refine W.ret2 (Nx.rthn Nx.f2) s2 s3 ?_
      exact ⟨Ch.refl _ _, by rw [if_neg (by omega)]⟩
    · refine W.skip Nx.thn ?_
      refine W.seq ?_
      refine W.region ?_
      refine WL.x (X.mv (s0)) rfl ?_
      first | refine WL.x (X.add (lh) lc (by omega) (by omega)) rfl ?_ | refine WL.x (X.addw (lh) lc) rfl ?_
      first | refine WL.x (X.quo (lh) lc (by omega) (by omega) (wrap_i64 (by omega) (by omega))) rfl ?_ | refine WL.x (X.quow (lh) lc (by omega)) rfl ?_
      have hdiv : (n + 63) / 64 ≤ 64 := by omega
      have hnn : 0 ≤ (n + 63) / 64 := by omega
      refine WL.make Tryd.underlying65 el70 rfl (lh) (lh) (by omega) (by omega) (by omega) rfl ?_
      intro w1 um; have hm := um.at_; have c1 := um.ch; have zm := um.size
      refine WL.x (X.asg (lh)) rfl ?_
      refine WL.e2 Nx.thn 0 4 (lt rfl (lt rfl (lt rfl (lt rfl (lt rfl (s0)))))) (lh) ?_
      intro σ6 s0 s4
      refine W.seq ?_
      refine W.region ?_
      refine WL.x (X.mv (s4)) rfl ?_
      refine WL.x (X.mv (lt rfl (s4))) rfl ?_
      refine WL.x (X.lenSl Tryd.underlying65 (lh)) rfl ?_
      refine WL.x (X.mv (lt rfl (lt rfl (lt rfl (s4))))) rfl ?_
      refine WL.x (X.lenSl Tryd.underlying65 (lh)) rfl ?_
      refine WL.x (X.slHM Tryd.underlying65 el70 (lt rfl (lt rfl (lt rfl (lt rfl (lh))))) (lt rfl (lt rfl (lh))) (lh) (by omega) (by omega) (by omega)) rfl ?_
      refine WL.x (X.mv (lt rfl (lt rfl (lt rfl (lt rfl (lt rfl (lt rfl (s0)))))))) rfl ?_
      refine WL.x (X.build bd67 (pcons (lt rfl (lh)) (pcons (lh) (pcons lc pnil))) rfl (rfl : _ = [_, _, _])) rfl ?_
      refine WL.box (lh) rfl ?_
      intro w2 u4_8; have hu4_8 := u4_8.at_; have cu4_8 := u4_8.ch; have zu4_8 := u4_8.size
      refine WL.x (X.asg (lh)) rfl ?_
      refine WL.x (X.asg lc) rfl ?_
      refine WL.e2 Nx.thn 2 3 (lt rfl (lh)) (lh) ?_
      intro σ7 s2 s3
      refine W.ret2 Nx.f2 s2 s3 ?_
      have hn0 : n = (n.toNat : Int) := by omega
      have e : ((n + 63) / 64).toNat = (n.toNat + 63) / 64 := by omega
      refine ⟨c1.trans0 cu4_8, ?_⟩
      rw [if_pos ⟨by omega, by omega⟩]
      refine ⟨_, _, rfl, ⟨?_, ?_, by simp, by omega, fun i _ => mem_replicate _ i⟩, by omega, Nat.le_refl _⟩
      · rw [hu4_8]; simp only [Int.toNat_natCast, e, List.length_replicate, ← hn0]
      · rw [cu4_8.at0 hm, e, wcells_replicate]
theorem at_in (b wb n : Nat) (ws : List BV) (i : Int) (w : World) (h : IsSet w b wb n ws) (h0 : 0 ≤ i) (h1 : i < n) :
    Sg.Ret Tryd.prog 35 #[.pointer (some ⟨b, 0, none⟩), .int .i64 i] w fun v w' => v = .tuple #[.pointer (some ⟨wb, i.toNat / 64, none⟩), bcell (BitVec.twoPow 64 (i.toNat % 64)), .int .i64 0] ∧ Dr w w' := by
  have hd := h.hd; have hlen := h.len; have hle := h.le
  refine enter3 (n := 31) (l := [.pointer (some ⟨b, 0, none⟩), .int .i64 i]) Tryd.func35 rfl rfl rfl rfl ?_
  refine W.g2 0 1 (v1 := .pointer (some ⟨b, 0, none⟩)) (v2 := .int .i64 i) rfl rfl ?_; intro σ s0 s1
  refine W.seq ?_
  refine W.region ?_
  refine WL.x (X.asg lc) rfl ?_
  refine WL.x (X.asg lc) rfl ?_
  refine WL.x (X.asg lc) rfl ?_
  refine WL.e2 Nx.thn 0 1 (lt rfl (lt rfl (lt rfl (s0)))) (lt rfl (lt rfl (lt rfl (s1)))) ?_
  intro σ1 s0 s1
  refine W.seq ?_
  refine W.block ?_
  refine W.seq ?_
  refine W.region ?_
  refine WL.x (X.mv (s0)) rfl ?_
  refine WL.call1 ce33 (lh) (none_made b wb n ws w h) rfl ?_
  rintro _ _ ⟨rfl, rfl⟩
  refine WL.x (X.asg (lh)) rfl ?_
  refine WL.e3 Nx.thn 0 1 7 (lt rfl (lt rfl (lt rfl (s0)))) (lt rfl (lt rfl (lt rfl (s1)))) (lh) ?_
  intro σ2 s0 s1 s7
  refine W.cndBF s7 (rfl) ?_
  refine W.seq ?_
  refine W.region ?_
  refine WL.x (X.mv (s1)) rfl ?_
  refine WL.x (X.lss (lh) lc) rfl ?_
  refine WL.x (X.mv (lh)) rfl ?_
  refine WL.yes rfl rfl (lh) (decide_eq_false (by omega)) ?_
  refine WL.x (X.mv (lt rfl (lt rfl (lt rfl (s1))))) rfl ?_
  refine WL.yes rfl rfl (lt rfl (lh)) (decide_eq_false (by omega)) ?_
  refine WL.x (X.mv (lt rfl (lt rfl (lt rfl (lt rfl (s0)))))) rfl ?_
  refine WL.yes rfl rfl (lt rfl (lt rfl (lh))) (decide_eq_false (by omega)) ?_
  refine WL.x (X.nilck (lh)) rfl ?_
  refine WL.yes rfl rfl (lt rfl (lt rfl (lt rfl (lh)))) (decide_eq_false (by omega)) ?_
  refine WL.x (X.fieldAddr fd67_1 (lh)) rfl ?_
  refine WL.yes rfl rfl (lt rfl (lt rfl (lt rfl (lt rfl (lh))))) (decide_eq_false (by omega)) ?_
  refine WL.x (X.load pl3 (lh) (by first | assumption) (by first | rfl | assumption)) rfl ?_
  refine WL.yes rfl rfl (lt rfl (lt rfl (lt rfl (lt rfl (lt rfl (lh)))))) (decide_eq_false (by omega)) ?_
  refine WL.x (X.geq (lt rfl (lt rfl (lt rfl (lt rfl (lh))))) (lh)) rfl ?_
  refine WL.x (X.pickF (lt rfl (lt rfl (lt rfl (lt rfl (lt rfl (lt rfl (lh))))))) (decide_eq_false (by omega)) (lh)) rfl ?_
  refine WL.x (X.asg (lh)) rfl ?_
  refine WL.e3 Nx.thn 0 1 10 (lt rfl (lt rfl (lt rfl (lt rfl (lt rfl (lt rfl (lt rfl (lt rfl (lt rfl (lt rfl (lt rfl (s0)))))))))))) (lt rfl (lt rfl (lt rfl (lt rfl (lt rfl (lt rfl (lt rfl (lt rfl (lt rfl (lt rfl (lt rfl (s1)))))))))))) (lh) ?_
  intro σ3 s0 s1 s10
  refine W.cndN s10 (by omega) ?_
  refine W.skip (Nx.blk Nx.thn) ?_
  refine W.seq ?_
  refine W.draw mo (by kernel_rfl) Nx.thn ?_
  refine WQ.x (fun _ => X.mv (s0)) rfl ?_
  refine WQ.x (fun _ => X.nilck (lh)) rfl ?_
  refine WQ.x (fun _ => X.fieldAddr fd67_0 (lh)) rfl ?_
  refine WQ.x (fun _ => X.load pl65 (lh) (by first | assumption) (by first | rfl | assumption)) rfl ?_
  refine WQ.x (fun _ => X.mv (lt rfl (lt rfl (lt rfl (lt rfl (s1)))))) rfl ?_
  first | refine WQ.x (fun _ => X.quo (lh) lc (by omega) (by omega) (wrap_i64 (by omega) (by omega))) rfl ?_ | refine WQ.x (fun _ => X.quow (lh) lc (by omega)) rfl ?_
  refine WQ.x (fun _ => X.indexAddr Tryd.underlying65 el70 (lt rfl (lt rfl (lh))) (lh) (by omega) (by omega)) rfl ?_
  refine WQ.x (fun _ => X.mv (lt rfl (lt rfl (lt rfl (lt rfl (lt rfl (lt rfl (lt rfl (s1))))))))) rfl ?_
  first | refine WQ.x (fun _ => X.rem (lh) lc (by omega) (by omega)) rfl ?_ | refine WQ.x (fun _ => X.remw (lh) lc (by omega)) rfl ?_
  refine WQ.x (fun _ => X.shl lc (lh) (by omega)) rfl ?_
  refine WQ.x (fun _ => X.asg (lt rfl (lt rfl (lt rfl (lh))))) rfl ?_
  refine WQ.x (fun _ => X.asg (lt rfl (lh))) rfl ?_
  refine WQ.x (fun _ => X.asg lc) rfl ?_
  refine WQ.e3 4 5 6 (lt rfl (lt rfl (lh))) (lt rfl (lh)) (lh) ?_
  intro σ4 s4 s5 s6
  intro _; refine gdrew ?_; intro w1 hh5 cd5 dr5
  refine W.ret3 Nx.f3 s4 s5 s6 ?_
  have e1 : 0 + (i / 64).toNat * 1 = i.toNat / 64 := by omega
  have e2 : (i % 64).toNat = i.toNat % 64 := by omega
  exact ⟨by rw [e1, e2]; exact congrArg (fun x => Value.tuple #[_, x, _]) (bit_cell _ (by omega)), dr5⟩
theorem at_out (b wb n : Nat) (ws : List BV) (i : Int) (w : World) (h : IsSet w b wb n ws) (h0 : ¬ (0 ≤ i ∧ i < n)) :
    Sg.Ret Tryd.prog 35 #[.pointer (some ⟨b, 0, none⟩), .int .i64 i] w fun v w' => v = .tuple #[.pointer none, .int .u64 0, .int .i64 1] ∧ w = w' := by
  have hd := h.hd; have hlen := h.len; have hle := h.le
  refine enter3 (n := 31) (l := [.pointer (some ⟨b, 0, none⟩), .int .i64 i]) Tryd.func35 rfl rfl rfl rfl ?_
  refine W.g2 0 1 (v1 := .pointer (some ⟨b, 0, none⟩)) (v2 := .int .i64 i) rfl rfl ?_; intro σ s0 s1
  refine W.seq ?_
  refine W.region ?_
  refine WL.x (X.asg lc) rfl ?_
  refine WL.x (X.asg lc) rfl ?_
  refine WL.x (X.asg lc) rfl ?_
  refine WL.e2 Nx.thn 0 1 (lt rfl (lt rfl (lt rfl (s0)))) (lt rfl (lt rfl (lt rfl (s1)))) ?_
  intro σ1 s0 s1
  refine W.seq ?_
  refine W.block ?_
  refine W.seq ?_
  refine W.region ?_
  refine WL.x (X.mv (s0)) rfl ?_
  refine WL.call1 ce33 (lh) (none_made b wb n ws w h) rfl ?_
  rintro _ _ ⟨rfl, rfl⟩
  refine WL.x (X.asg (lh)) rfl ?_
  refine WL.e3 Nx.thn 0 1 7 (lt rfl (lt rfl (lt rfl (s0)))) (lt rfl (lt rfl (lt rfl (s1)))) (lh) ?_
  intro σ2 s0 s1 s7
  refine W.cndBF s7 (rfl) ?_
  refine W.seq ?_
  refine W.region ?_
  refine WL.x (X.mv (s1)) rfl ?_
  refine WL.x (X.lss (lh) lc) rfl ?_
  refine WL.x (X.mv (lh)) rfl ?_
  refine WL.splitp (lh) (fun qb1 => ?_) (fun qb1 => ?_)
  · refine WL.no rfl rfl (lh) (decide_eq_true qb1) rfl ?_
    refine WL.no rfl rfl (lt rfl (lh)) (decide_eq_true qb1) rfl ?_
    refine WL.no rfl rfl (lt rfl (lt rfl (lh))) (decide_eq_true qb1) rfl ?_
    refine WL.no rfl rfl (lt rfl (lt rfl (lt rfl (lh)))) (decide_eq_true qb1) rfl ?_
    refine WL.no rfl rfl (lt rfl (lt rfl (lt rfl (lt rfl (lh))))) (decide_eq_true qb1) rfl ?_
    refine WL.no rfl rfl (lt rfl (lt rfl (lt rfl (lt rfl (lt rfl (lh)))))) (decide_eq_true qb1) rfl ?_
    refine WL.x (X.pickT (lt rfl (lt rfl (lt rfl (lt rfl (lt rfl (lt rfl (lh))))))) (decide_eq_true qb1) lc) rfl ?_
    refine WL.x (X.asg (lh)) rfl ?_
    refine WL.e3 Nx.thn 0 1 10 (lt rfl (lt rfl (lt rfl (lt rfl (lt rfl (lt rfl (lt rfl (lt rfl (lt rfl (lt rfl (lt rfl (s0)))))))))))) (lt rfl (lt rfl (lt rfl (lt rfl (lt rfl (lt rfl (lt rfl (lt rfl (lt rfl (lt rfl (lt rfl (s1)))))))))))) (lh) ?_
    intro σ3 s0 s1 s10
    refine W.cndT s10 ?_
    refine W.seq ?_
    refine W.region ?_
    refine WL.x (X.asg lc) rfl ?_
    refine WL.x (X.asg lc) rfl ?_
    refine WL.x (X.asg lc) rfl ?_
    refine WL.e3 Nx.thn 4 5 6 (lt rfl (lt rfl (lh))) (lt rfl (lh)) (lh) ?_
    intro σ4 s4 s5 s6
    refine W.ret3 (Nx.rblk (Nx.rthn Nx.f3)) s4 s5 s6 ?_
    exact ⟨rfl, rfl⟩
  · refine WL.yes rfl rfl (lh) (decide_eq_false qb1) ?_
    refine WL.x (X.mv (lt rfl (lt rfl (lt rfl (s1))))) rfl ?_
    refine WL.yes rfl rfl (lt rfl (lh)) (decide_eq_false qb1) ?_
    refine WL.x (X.mv (lt rfl (lt rfl (lt rfl (lt rfl (s0)))))) rfl ?_
    refine WL.yes rfl rfl (lt rfl (lt rfl (lh))) (decide_eq_false qb1) ?_
    refine WL.x (X.nilck (lh)) rfl ?_
    refine WL.yes rfl rfl (lt rfl (lt rfl (lt rfl (lh)))) (decide_eq_false qb1) ?_
    refine WL.x (X.fieldAddr fd67_1 (lh)) rfl ?_
    refine WL.yes rfl rfl (lt rfl (lt rfl (lt rfl (lt rfl (lh))))) (decide_eq_false qb1) ?_
    refine WL.x (X.load pl3 (lh) (by first | assumption) (by first | rfl | assumption)) rfl ?_
    refine WL.yes rfl rfl (lt rfl (lt rfl (lt rfl (lt rfl (lt rfl (lh)))))) (decide_eq_false qb1) ?_
    refine WL.x (X.geq (lt rfl (lt rfl (lt rfl (lt rfl (lh))))) (lh)) rfl ?_
    refine WL.x (X.pickF (lt rfl (lt rfl (lt rfl (lt rfl (lt rfl (lt rfl (lh))))))) (decide_eq_false qb1) (lh)) rfl ?_
    refine WL.x (X.asg (lh)) rfl ?_
    refine WL.e3 Nx.thn 0 1 10 (lt rfl (lt rfl (lt rfl (lt rfl (lt rfl (lt rfl (lt rfl (lt rfl (lt rfl (lt rfl (lt rfl (s0)))))))))))) (lt rfl (lt rfl (lt rfl (lt rfl (lt rfl (lt rfl (lt rfl (lt rfl (lt rfl (lt rfl (lt rfl (s1)))))))))))) (lh) ?_
    intro σ5 s0 s1 s10
    refine W.cndY s10 (by omega) ?_
    refine W.seq ?_
    refine W.region ?_
    refine WL.x (X.asg lc) rfl ?_
    refine WL.x (X.asg lc) rfl ?_
    refine WL.x (X.asg lc) rfl ?_
    refine WL.e3 Nx.thn 4 5 6 (lt rfl (lt rfl (lh))) (lt rfl (lh)) (lh) ?_
    intro σ6 s4 s5 s6
    refine W.ret3 (Nx.rblk (Nx.rthn Nx.f3)) s4 s5 s6 ?_
    exact ⟨rfl, rfl⟩
theorem at_nobody (w : World) (s : Value) (hs : ∀ w', Ch0 w w' → Sg.Ret Tryd.prog 33 #[s] w' fun v w'' => v = .bool true ∧ w' = w'') (i : Int) :
    Sg.Ret Tryd.prog 35 #[s, .int .i64 i] w fun v w' => v = .tuple #[.pointer none, .int .u64 0, .int .i64 2] ∧ w = w' := by
  refine enter3 (n := 31) (l := [s, .int .i64 i]) Tryd.func35 rfl rfl rfl rfl ?_
  refine W.g2 0 1 (v1 := s) (v2 := .int .i64 i) rfl rfl ?_; intro σ s0 s1
  refine W.seq ?_
  refine W.region ?_
  refine WL.x (X.asg lc) rfl ?_
  refine WL.x (X.asg lc) rfl ?_
  refine WL.x (X.asg lc) rfl ?_
  refine WL.e2 Nx.thn 0 1 (lt rfl (lt rfl (lt rfl (s0)))) (lt rfl (lt rfl (lt rfl (s1)))) ?_
  intro σ1 s0 s1
  refine W.seq ?_
  refine W.block ?_
  refine W.seq ?_
  refine W.region ?_
  refine WL.x (X.mv (s0)) rfl ?_
  refine WL.call1 ce33 (lh) (hs _ (Ch.refl _ _)) rfl ?_
  rintro _ _ ⟨rfl, rfl⟩
  refine WL.x (X.asg (lh)) rfl ?_
  refine WL.e3 Nx.thn 0 1 7 (lt rfl (lt rfl (lt rfl (s0)))) (lt rfl (lt rfl (lt rfl (s1)))) (lh) ?_
  intro σ2 s0 s1 s7
  refine W.cndBT s7 (rfl) ?_
  refine W.seq ?_
  refine W.region ?_
  refine WL.x (X.asg lc) rfl ?_
  refine WL.x (X.asg lc) rfl ?_
  refine WL.x (X.asg lc) rfl ?_
  refine WL.e3 Nx.thn 4 5 6 (lt rfl (lt rfl (lh))) (lt rfl (lh)) (lh) ?_
  intro σ3 s4 s5 s6
  refine W.ret3 (Nx.rblk (Nx.rthn Nx.f3)) s4 s5 s6 ?_
  exact ⟨rfl, rfl⟩
theorem add_in (b wb n : Nat) (ws : List BV) (i : Int) (w : World) (h : IsSet w b wb n ws) (h0 : 0 ≤ i) (h1 : i < n) :
    Sg.Ret Tryd.prog 32 #[.pointer (some ⟨b, 0, none⟩), .int .i64 i] w fun v w' => v = .int .i64 0 ∧ Ch (fun k => k = wb) w w' ∧ IsSet w' b wb n (addW ws i.toNat) := by
  have hsl := h.slot (i := i.toNat) (by omega)
  refine enter1 (n := 24) (l := [.pointer (some ⟨b, 0, none⟩), .int .i64 i]) Tryd.func32 rfl rfl rfl rfl ?_
  refine W.g2 0 1 (v1 := .pointer (some ⟨b, 0, none⟩)) (v2 := .int .i64 i) rfl rfl ?_; intro σ s0 s1
  refine W.seq ?_
  refine W.region ?_
  refine WL.x (X.asg lc) rfl ?_
  refine WL.e2 Nx.thn 0 1 (lt rfl (s0)) (lt rfl (s1)) ?_
  intro σ1 s0 s1
  refine W.seq ?_
  refine W.region ?_
  refine WL.x (X.mv (s0)) rfl ?_
  refine WL.x (X.mv (lt rfl (s1))) rfl ?_
  refine WL.call2 ce35 (lt rfl (lh)) (lh) (at_in b wb n ws i w h h0 h1) rfl ?_
  rintro _ w1 ⟨rfl, hdr⟩
  have h2 := h.dr hdr
  have hwd := h2.wd
  refine WL.x (X.mv (lh)) rfl ?_
  refine WL.x (X.ex3_0 (lh)) rfl ?_
  refine WL.x (X.ex3_1 (lt rfl (lh))) rfl ?_
  refine WL.x (X.ex3_2 (lt rfl (lt rfl (lh)))) rfl ?_
  refine WL.x (X.asg (lt rfl (lt rfl (lh)))) rfl ?_
  refine WL.x (X.asg (lt rfl (lt rfl (lh)))) rfl ?_
  refine WL.x (X.asg (lt rfl (lt rfl (lh)))) rfl ?_
  refine WL.e3 Nx.thn 5 6 7 (lt rfl (lt rfl (lh))) (lt rfl (lh)) (lh) ?_
  intro σ2 s5 s6 s7
  refine W.seq ?_
  refine W.seq ?_
  refine W.region ?_
  refine WL.x (X.mv (s7)) rfl ?_
  refine WL.x (X.eql (lh) lc) rfl ?_
  refine WL.e4 Nx.thn 5 6 7 16 (lt rfl (lt rfl (s5))) (lt rfl (lt rfl (s6))) (lt rfl (lt rfl (s7))) (lh) ?_
  intro σ3 s5 s6 s7 s16
  refine W.cndY s16 (rfl) ?_
  refine W.region ?_
  refine WL.x (X.mv (s5)) rfl ?_
  refine WL.x (X.nilck (lh)) rfl ?_
  refine WL.x (X.load pl70 (lh) hwd (wcells_get ws _ hsl)) rfl ?_
  refine WL.x (X.mv (lt rfl (lt rfl (lt rfl (s6))))) rfl ?_
  refine WL.x (X.or (lt rfl (lh)) (lh)) rfl ?_
  refine WL.x (X.nilck (lt rfl (lt rfl (lt rfl (lt rfl (lh)))))) rfl ?_
  refine WL.store el70 (lh) (lt rfl (lh)) rfl hwd (by rw [wcells_size]; exact hsl) ?_
  intro w2 us; have hs := us.at_; have cs := us.ch
  refine WL.e1 Nx.thn 7 (lt rfl (lt rfl (lt rfl (lt rfl (lt rfl (lt rfl (s7))))))) ?_
  intro σ4 s7
  refine W.seq ?_
  refine W.region ?_
  refine WL.x (X.mv (s7)) rfl ?_
  refine WL.x (X.asg (lh)) rfl ?_
  refine WL.e1 Nx.thn 4 (lh) ?_
  intro σ5 s4
  refine W.ret1 Nx.f1 s4 ?_
  refine ⟨rfl, hdr.ch.trans cs (fun _ _ => id) (fun _ _ => id), ⟨by rw [addW_length]; exact cs.at h2.hd h.ne, ?_, by simp [h.len], h.le, fun j hj => ?_⟩⟩
  · rw [hs]; simp only [bcell] at *; rw [bitop_or]; exact congrArg (fun c => some (Obj.cells c _ _)) (wcells_set ws _ _)
  · rw [mem_addW _ _ _ hsl, h.clean j hj]; simp; omega
theorem add_out (b wb n : Nat) (ws : List BV) (i : Int) (w : World) (h : IsSet w b wb n ws) (h0 : ¬ (0 ≤ i ∧ i < n)) :
    Sg.Ret Tryd.prog 32 #[.pointer (some ⟨b, 0, none⟩), .int .i64 i] w fun v w' => v = .int .i64 1 ∧ w = w' := by
  refine enter1 (n := 24) (l := [.pointer (some ⟨b, 0, none⟩), .int .i64 i]) Tryd.func32 rfl rfl rfl rfl ?_
  refine W.g2 0 1 (v1 := .pointer (some ⟨b, 0, none⟩)) (v2 := .int .i64 i) rfl rfl ?_; intro σ s0 s1
  refine W.seq ?_
  refine W.region ?_
  refine WL.x (X.asg lc) rfl ?_
  refine WL.e2 Nx.thn 0 1 (lt rfl (s0)) (lt rfl (s1)) ?_
  intro σ1 s0 s1
  refine W.seq ?_
  refine W.region ?_
  refine WL.x (X.mv (s0)) rfl ?_
  refine WL.x (X.mv (lt rfl (s1))) rfl ?_
  refine WL.call2 ce35 (lt rfl (lh)) (lh) (at_out b wb n ws i w h h0) rfl ?_
  rintro _ _ ⟨rfl, rfl⟩
  refine WL.x (X.mv (lh)) rfl ?_
  refine WL.x (X.ex3_0 (lh)) rfl ?_
  refine WL.x (X.ex3_1 (lt rfl (lh))) rfl ?_
  refine WL.x (X.ex3_2 (lt rfl (lt rfl (lh)))) rfl ?_
  refine WL.x (X.asg (lt rfl (lt rfl (lh)))) rfl ?_
  refine WL.x (X.asg (lt rfl (lt rfl (lh)))) rfl ?_
  refine WL.x (X.asg (lt rfl (lt rfl (lh)))) rfl ?_
  refine WL.e3 Nx.thn 5 6 7 (lt rfl (lt rfl (lh))) (lt rfl (lh)) (lh) ?_
  intro σ2 s5 s6 s7
  refine W.seq ?_
  refine W.seq ?_
  refine W.region ?_
  refine WL.x (X.mv (s7)) rfl ?_
  refine WL.x (X.eql (lh) lc) rfl ?_
  refine WL.e4 Nx.thn 5 6 7 16 (lt rfl (lt rfl (s5))) (lt rfl (lt rfl (s6))) (lt rfl (lt rfl (s7))) (lh) ?_
  intro σ3 s5 s6 s7 s16
  refine W.cndN s16 (by decide) ?_
  refine W.skip Nx.thn ?_
  refine W.seq ?_
  refine W.region ?_
  refine WL.x (X.mv (s7)) rfl ?_
  refine WL.x (X.asg (lh)) rfl ?_
  refine WL.e1 Nx.thn 4 (lh) ?_
  intro σ4 s4
  refine W.ret1 Nx.f1 s4 ?_
  exact ⟨rfl, rfl⟩
theorem add_nobody (w : World) (s : Value) (hs : ∀ w', Ch0 w w' → Sg.Ret Tryd.prog 33 #[s] w' fun v w'' => v = .bool true ∧ w' = w'') (i : Int) :
    Sg.Ret Tryd.prog 32 #[s, .int .i64 i] w fun v w' => v = .int .i64 2 ∧ w = w' := by
  refine enter1 (n := 24) (l := [s, .int .i64 i]) Tryd.func32 rfl rfl rfl rfl ?_
  refine W.g2 0 1 (v1 := s) (v2 := .int .i64 i) rfl rfl ?_; intro σ s0 s1
  refine W.seq ?_
  refine W.region ?_
  refine WL.x (X.asg lc) rfl ?_
  refine WL.e2 Nx.thn 0 1 (lt rfl (s0)) (lt rfl (s1)) ?_
  intro σ1 s0 s1
  refine W.seq ?_
  refine W.region ?_
  refine WL.x (X.mv (s0)) rfl ?_
  refine WL.x (X.mv (lt rfl (s1))) rfl ?_
  refine WL.call2 ce35 (lt rfl (lh)) (lh) (at_nobody w s hs i) rfl ?_
  rintro _ _ ⟨rfl, rfl⟩
  refine WL.x (X.mv (lh)) rfl ?_
  refine WL.x (X.ex3_0 (lh)) rfl ?_
  refine WL.x (X.ex3_1 (lt rfl (lh))) rfl ?_
  refine WL.x (X.ex3_2 (lt rfl (lt rfl (lh)))) rfl ?_
  refine WL.x (X.asg (lt rfl (lt rfl (lh)))) rfl ?_
  refine WL.x (X.asg (lt rfl (lt rfl (lh)))) rfl ?_
  refine WL.x (X.asg (lt rfl (lt rfl (lh)))) rfl ?_
  refine WL.e3 Nx.thn 5 6 7 (lt rfl (lt rfl (lh))) (lt rfl (lh)) (lh) ?_
  intro σ2 s5 s6 s7
  refine W.seq ?_
  refine W.seq ?_
  refine W.region ?_
  refine WL.x (X.mv (s7)) rfl ?_
  refine WL.x (X.eql (lh) lc) rfl ?_
  refine WL.e4 Nx.thn 5 6 7 16 (lt rfl (lt rfl (s5))) (lt rfl (lt rfl (s6))) (lt rfl (lt rfl (s7))) (lh) ?_
  intro σ3 s5 s6 s7 s16
  refine W.cndN s16 (by decide) ?_
  refine W.skip Nx.thn ?_
  refine W.seq ?_
  refine W.region ?_
  refine WL.x (X.mv (s7)) rfl ?_
  refine WL.x (X.asg (lh)) rfl ?_
  refine WL.e1 Nx.thn 4 (lh) ?_
  intro σ4 s4
  refine W.ret1 Nx.f1 s4 ?_
  exact ⟨rfl, rfl⟩
theorem has_in (b wb n : Nat) (ws : List BV) (i : Int) (w : World) (h : IsSet w b wb n ws) (h0 : 0 ≤ i) (h1 : i < n) :
    Sg.Ret Tryd.prog 16 #[.pointer (some ⟨b, 0, none⟩), .int .i64 i] w fun v w' => v = .bool (mem ws i.toNat) ∧ Dr w w' := by
  have hsl := h.slot (i := i.toNat) (by omega)
  refine enter1 (n := 25) (l := [.pointer (some ⟨b, 0, none⟩), .int .i64 i]) Tryd.func16 rfl rfl rfl rfl ?_
  refine W.g2 0 1 (v1 := .pointer (some ⟨b, 0, none⟩)) (v2 := .int .i64 i) rfl rfl ?_; intro σ s0 s1
  refine W.seq ?_
  refine W.region ?_
  refine WL.x (X.asg lc) rfl ?_
  refine WL.e2 Nx.thn 0 1 (lt rfl (s0)) (lt rfl (s1)) ?_
  intro σ1 s0 s1
  refine W.seq ?_
  refine W.region ?_
  refine WL.x (X.mv (s0)) rfl ?_
  refine WL.x (X.mv (lt rfl (s1))) rfl ?_
  refine WL.call2 ce35 (lt rfl (lh)) (lh) (at_in b wb n ws i w h h0 h1) rfl ?_
  rintro _ w1 ⟨rfl, hdr⟩
  have h2 := h.dr hdr
  have hwd := h2.wd
  refine WL.x (X.mv (lh)) rfl ?_
  refine WL.x (X.ex3_0 (lh)) rfl ?_
  refine WL.x (X.ex3_1 (lt rfl (lh))) rfl ?_
  refine WL.x (X.ex3_2 (lt rfl (lt rfl (lh)))) rfl ?_
  refine WL.x (X.asg (lt rfl (lt rfl (lh)))) rfl ?_
  refine WL.x (X.asg (lt rfl (lt rfl (lh)))) rfl ?_
  refine WL.x (X.asg (lt rfl (lt rfl (lh)))) rfl ?_
  refine WL.e3 Nx.thn 5 6 7 (lt rfl (lt rfl (lh))) (lt rfl (lh)) (lh) ?_
  intro σ2 s5 s6 s7
  refine W.seq ?_
  refine W.region ?_
  refine WL.x (X.mv (s7)) rfl ?_
  refine WL.x (X.eql (lh) lc) rfl ?_
  refine WL.x (X.mv (lh)) rfl ?_
  refine WL.yes rfl rfl (lh) (decide_eq_true (rfl)) ?_
  refine WL.x (X.mv (lt rfl (lt rfl (lt rfl (s5))))) rfl ?_
  refine WL.yes rfl rfl (lt rfl (lh)) (decide_eq_true (rfl)) ?_
  refine WL.x (X.nilck (lh)) rfl ?_
  refine WL.yes rfl rfl (lt rfl (lt rfl (lh))) (decide_eq_true (rfl)) ?_
  refine WL.x (X.load pl70 (lh) hwd (wcells_get ws _ hsl)) rfl ?_
  refine WL.yes rfl rfl (lt rfl (lt rfl (lt rfl (lh)))) (decide_eq_true (rfl)) ?_
  refine WL.x (X.mv (lt rfl (lt rfl (lt rfl (lt rfl (lt rfl (lt rfl (s6)))))))) rfl ?_
  refine WL.yes rfl rfl (lt rfl (lt rfl (lt rfl (lt rfl (lh))))) (decide_eq_true (rfl)) ?_
  refine WL.x (X.and (lt rfl (lh)) (lh)) rfl ?_
  refine WL.yes rfl rfl (lt rfl (lt rfl (lt rfl (lt rfl (lt rfl (lh)))))) (decide_eq_true (rfl)) ?_
  refine WL.x (X.neq (lh) lc) rfl ?_
  refine WL.x (X.pickT (lt rfl (lt rfl (lt rfl (lt rfl (lt rfl (lt rfl (lh))))))) (decide_eq_true (rfl)) (lh)) rfl ?_
  refine WL.x (X.asg (lh)) rfl ?_
  refine WL.e1 Nx.thn 4 (lh) ?_
  intro σ3 s4
  refine W.ret1 Nx.f1 s4 ?_
  have e := and_two (ws.getD (i.toNat / 64) 0) (i.toNat % 64) (by omega)
  rw [← bitop_and] at e
  refine ⟨congrArg Value.bool ?_, hdr⟩
  rw [Bool.eq_iff_iff, decide_eq_true_iff]; exact e
theorem has_out (b wb n : Nat) (ws : List BV) (i : Int) (w : World) (h : IsSet w b wb n ws) (h0 : ¬ (0 ≤ i ∧ i < n)) :
    Sg.Ret Tryd.prog 16 #[.pointer (some ⟨b, 0, none⟩), .int .i64 i] w fun v w' => v = .bool false ∧ w = w' := by
  refine enter1 (n := 25) (l := [.pointer (some ⟨b, 0, none⟩), .int .i64 i]) Tryd.func16 rfl rfl rfl rfl ?_
  refine W.g2 0 1 (v1 := .pointer (some ⟨b, 0, none⟩)) (v2 := .int .i64 i) rfl rfl ?_; intro σ s0 s1
  refine W.seq ?_
  refine W.region ?_
  refine WL.x (X.asg lc) rfl ?_
  refine WL.e2 Nx.thn 0 1 (lt rfl (s0)) (lt rfl (s1)) ?_
  intro σ1 s0 s1
  refine W.seq ?_
  refine W.region ?_
  refine WL.x (X.mv (s0)) rfl ?_
  refine WL.x (X.mv (lt rfl (s1))) rfl ?_
  refine WL.call2 ce35 (lt rfl (lh)) (lh) (at_out b wb n ws i w h h0) rfl ?_
  rintro _ _ ⟨rfl, rfl⟩
  refine WL.x (X.mv (lh)) rfl ?_
  refine WL.x (X.ex3_0 (lh)) rfl ?_
  refine WL.x (X.ex3_1 (lt rfl (lh))) rfl ?_
  refine WL.x (X.ex3_2 (lt rfl (lt rfl (lh)))) rfl ?_
  refine WL.x (X.asg (lt rfl (lt rfl (lh)))) rfl ?_
  refine WL.x (X.asg (lt rfl (lt rfl (lh)))) rfl ?_
  refine WL.x (X.asg (lt rfl (lt rfl (lh)))) rfl ?_
  refine WL.e3 Nx.thn 5 6 7 (lt rfl (lt rfl (lh))) (lt rfl (lh)) (lh) ?_
  intro σ2 s5 s6 s7
  refine W.seq ?_
  refine W.region ?_
  refine WL.x (X.mv (s7)) rfl ?_
  refine WL.x (X.eql (lh) lc) rfl ?_
  refine WL.x (X.mv (lh)) rfl ?_
  refine WL.no rfl rfl (lh) (decide_eq_false (by decide)) rfl ?_
  refine WL.no rfl rfl (lt rfl (lh)) (decide_eq_false (by decide)) rfl ?_
  refine WL.no rfl rfl (lt rfl (lt rfl (lh))) (decide_eq_false (by decide)) rfl ?_
  refine WL.no rfl rfl (lt rfl (lt rfl (lt rfl (lh)))) (decide_eq_false (by decide)) rfl ?_
  refine WL.no rfl rfl (lt rfl (lt rfl (lt rfl (lt rfl (lh))))) (decide_eq_false (by decide)) rfl ?_
  refine WL.no rfl rfl (lt rfl (lt rfl (lt rfl (lt rfl (lt rfl (lh)))))) (decide_eq_false (by decide)) rfl ?_
  refine WL.x (X.pickF (lt rfl (lt rfl (lt rfl (lt rfl (lt rfl (lt rfl (lh))))))) (decide_eq_false (by decide)) lc) rfl ?_
  refine WL.x (X.asg (lh)) rfl ?_
  refine WL.e1 Nx.thn 4 (lh) ?_
  intro σ3 s4
  refine W.ret1 Nx.f1 s4 ?_
  exact ⟨rfl, rfl⟩
theorem has_nobody (w : World) (s : Value) (hs : ∀ w', Ch0 w w' → Sg.Ret Tryd.prog 33 #[s] w' fun v w'' => v = .bool true ∧ w' = w'') (i : Int) :
    Sg.Ret Tryd.prog 16 #[s, .int .i64 i] w fun v w' => v = .bool false ∧ w = w' := by
  refine enter1 (n := 25) (l := [s, .int .i64 i]) Tryd.func16 rfl rfl rfl rfl ?_
  refine W.g2 0 1 (v1 := s) (v2 := .int .i64 i) rfl rfl ?_; intro σ s0 s1
  refine W.seq ?_
  refine W.region ?_
  refine WL.x (X.asg lc) rfl ?_
  refine WL.e2 Nx.thn 0 1 (lt rfl (s0)) (lt rfl (s1)) ?_
  intro σ1 s0 s1
  refine W.seq ?_
  refine W.region ?_
  refine WL.x (X.mv (s0)) rfl ?_
  refine WL.x (X.mv (lt rfl (s1))) rfl ?_
  refine WL.call2 ce35 (lt rfl (lh)) (lh) (at_nobody w s hs i) rfl ?_
  rintro _ _ ⟨rfl, rfl⟩
  refine WL.x (X.mv (lh)) rfl ?_
  refine WL.x (X.ex3_0 (lh)) rfl ?_
  refine WL.x (X.ex3_1 (lt rfl (lh))) rfl ?_
  refine WL.x (X.ex3_2 (lt rfl (lt rfl (lh)))) rfl ?_
  refine WL.x (X.asg (lt rfl (lt rfl (lh)))) rfl ?_
  refine WL.x (X.asg (lt rfl (lt rfl (lh)))) rfl ?_
  refine WL.x (X.asg (lt rfl (lt rfl (lh)))) rfl ?_
  refine WL.e3 Nx.thn 5 6 7 (lt rfl (lt rfl (lh))) (lt rfl (lh)) (lh) ?_
  intro σ2 s5 s6 s7
  refine W.seq ?_
  refine W.region ?_
  refine WL.x (X.mv (s7)) rfl ?_
  refine WL.x (X.eql (lh) lc) rfl ?_
  refine WL.x (X.mv (lh)) rfl ?_
  refine WL.no rfl rfl (lh) (decide_eq_false (by decide)) rfl ?_
  refine WL.no rfl rfl (lt rfl (lh)) (decide_eq_false (by decide)) rfl ?_
  refine WL.no rfl rfl (lt rfl (lt rfl (lh))) (decide_eq_false (by decide)) rfl ?_
  refine WL.no rfl rfl (lt rfl (lt rfl (lt rfl (lh)))) (decide_eq_false (by decide)) rfl ?_
  refine WL.no rfl rfl (lt rfl (lt rfl (lt rfl (lt rfl (lh))))) (decide_eq_false (by decide)) rfl ?_
  refine WL.no rfl rfl (lt rfl (lt rfl (lt rfl (lt rfl (lt rfl (lh)))))) (decide_eq_false (by decide)) rfl ?_
  refine WL.x (X.pickF (lt rfl (lt rfl (lt rfl (lt rfl (lt rfl (lt rfl (lh))))))) (decide_eq_false (by decide)) lc) rfl ?_
  refine WL.x (X.asg (lh)) rfl ?_
  refine WL.e1 Nx.thn 4 (lh) ?_
  intro σ3 s4
  refine W.ret1 Nx.f1 s4 ?_
  exact ⟨rfl, rfl⟩

/-- Whether a number is in, whatever it is. -/
def hasB (ws : List BV) (i : Int) : Bool := decide (0 ≤ i) && mem ws i.toNat
theorem has_ok (b wb n : Nat) (ws : List BV) (i : Int) (w : World) (h : IsSet w b wb n ws) : Sg.Ret Tryd.prog 16 #[.pointer (some ⟨b, 0, none⟩), .int .i64 i] w fun v w' => v = .bool (hasB ws i) ∧ Dr w w' := by
  by_cases h0 : 0 ≤ i ∧ i < n
  · refine Ret.mono (has_in b wb n ws i w h h0.1 h0.2) fun v w' hh => ⟨hh.1.trans ?_, hh.2⟩
    simp [hasB, h0.1]
  · refine Ret.mono (has_out b wb n ws i w h h0) fun v w' hh => ⟨hh.1.trans ?_, hh.2 ▸ Dr.refl _⟩
    unfold hasB
    by_cases h1 : 0 ≤ i
    · rw [h.clean i.toNat (by omega)]; simp
    · simp [h1]

end Go.Proofs.YtaldkbdnefpklaaDoor
