/-
  A part of the walk of the program.
-/
import Derived.Test.YtaldkbdnefpklaaDoorRB
import Derived.Test.YtaldkbdnefpklaaDoorT
set_option linter.unusedVariables false
set_option linter.unusedSimpArgs false
set_option maxRecDepth 100000
namespace Go.Proofs.YtaldkbdnefpklaaDoor
open Go Go.RowKit Sg

theorem radd1 (b wb n : Nat) (p : Nat → Bool) (w : World) (h : Row1 w n (b, wb) p) (k : Nat) (hk : k < n) : Sg.Ret Tryd.prog 32 #[.pointer (some ⟨b, 0, none⟩), .int .i64 (k : Int)] w fun v w' => v = .int .i64 0 ∧ Row1 w' n (b, wb) (fun y => p y || decide (y = k)) ∧ Ch (fun i => i = wb) w w' := by
  obtain ⟨ws, hs, hm⟩ := h
  refine Ret.mono (add_in b wb n ws (k : Int) w hs (by omega) (by omega)) fun v w' hh => ⟨hh.1, ⟨_, hh.2.2, fun j => ?_⟩, hh.2.1⟩
  rw [show ((k : Nat) : Int).toNat = k by omega, mem_addW _ _ _ (hs.slot (by omega)), hm, Bool.or_comm]
set_option maxHeartbeats 1600000 in
theorem reach_ok (base g n : Nat) (Lb : Nat → Nat → Nat) (w : World) (h : IsG w base g n Lb) (htab : Tab w) (hb0 : 0 < w.heap.size) (o a : Int) :
    Sg.Ret Tryd.prog 12 #[.pointer (some ⟨g, 0, none⟩), .int .i64 o, .int .i64 a] w fun v w' => Ch0 w w' ∧ ∃ sv e, v = .tuple #[sv, .int .i64 e] ∧ ((¬ (0 ≤ a ∧ a < (n : Int)) ∧ sv = .pointer none ∧ e = 60) ∨ ((0 ≤ a ∧ a < (n : Int)) ∧ e = 0 ∧ ∃ b wb, sv = .pointer (some ⟨b, 0, none⟩) ∧ Row1 w' n (b, wb) (fun j => decide (j < n) && decide (dst (EE Lb o) a.toNat j ≠ 0)))) := by
  obtain ⟨bss, vs, hfk, hbl, hd⟩ := h.ex
  have hle := h.le
  have hok := h.ok
  refine enter2 (n := 48) (l := [.pointer (some ⟨g, 0, none⟩), .int .i64 o, .int .i64 a]) Tryd.func12 rfl rfl rfl rfl ?_
  refine W.g3 0 1 2 (v1 := .pointer (some ⟨g, 0, none⟩)) (v2 := .int .i64 o) (v3 := .int .i64 a) rfl rfl rfl ?_; intro σ s0 s1 s2
  refine W.seq ?_
  refine W.region ?_
  refine WL.x (X.asg lc) rfl ?_
  refine WL.x (X.asg lc) rfl ?_
  refine WL.e3 Nx.thn 0 1 2 (lt rfl (lt rfl (s0))) (lt rfl (lt rfl (s1))) (lt rfl (lt rfl (s2))) ?_
  intro σ1 s0 s1 s2
  refine W.seq ?_
  refine W.block ?_
  refine W.seq ?_
  refine W.region ?_
  refine WL.x (X.mv (s0)) rfl ?_
  refine WL.call1 ce29 (lh) (gmade_ok base g n Lb w h) rfl ?_
  rintro _ _ ⟨rfl, rfl⟩
  refine WL.x (X.not (lh)) rfl ?_
  refine WL.x (X.asg (lh)) rfl ?_
  refine WL.e4 Nx.thn 0 1 2 12 (lt rfl (lt rfl (lt rfl (lt rfl (s0))))) (lt rfl (lt rfl (lt rfl (lt rfl (s1))))) (lt rfl (lt rfl (lt rfl (lt rfl (s2))))) (lh) ?_
  intro σ2 s0 s1 s2 s12
  refine W.cndBF s12 (rfl) ?_
  refine W.seq ?_
  refine W.region ?_
  refine WL.x (X.mv (s0)) rfl ?_
  refine WL.x (X.mv (lt rfl (s2))) rfl ?_
  refine WL.bslice Tryd.underlying44 el3 rfl (pcons (lh) pnil) rfl (rfl : _ = [_]) rfl ?_
  intro w1 u3_2; have hu3_2 := u3_2.at_; have cu3_2 := u3_2.ch; have zu3_2 := u3_2.size
  refine WL.call2 ce26 (lt rfl (lt rfl (lh))) (lh) (there_ok (some ⟨g, 0, none⟩) n w1 (fun w0 c0 => gnodes_ok base g n Lb w0 ((h.ch0 cu3_2).ch0 c0)) (some ⟨w.heap.size, 0, none⟩) 1 [a] (q_one (base := 0) hu3_2 (by omega)).sl (by show 1 ≤ 140737488355328; omega)) rfl ?_
  rintro _ w2 ⟨rfl, ct⟩
  have hcl := cu3_2.trans0 ct
  refine WL.x (X.not (lh)) rfl ?_
  refine WL.x (X.asg (lh)) rfl ?_
  refine WL.e4 Nx.thn 0 1 2 16 (lt rfl (lt rfl (lt rfl (lt rfl (lt rfl (lt rfl (s0))))))) (lt rfl (lt rfl (lt rfl (lt rfl (lt rfl (lt rfl (s1))))))) (lt rfl (lt rfl (lt rfl (lt rfl (lt rfl (lt rfl (s2))))))) (lh) ?_
  intro σ3 s0 s1 s2 s16
  refine W.cnd s16 (fun hth => ?_) (fun hth => ?_)
  · have hth : ¬ (0 ≤ a ∧ a < (n : Int)) := by simp at hth; omega
    refine W.seq ?_
    refine W.region ?_
    refine WL.x (X.asg lc) rfl ?_
    refine WL.x (X.asg lc) rfl ?_
    refine WL.e2 Nx.thn 6 7 (lt rfl (lh)) (lh) ?_
    intro σ4 s6 s7
    refine W.ret2 (Nx.rblk (Nx.rthn Nx.f2)) s6 s7 ?_
    exact ⟨hcl, _, _, rfl, .inl ⟨hth, rfl, rfl⟩⟩
  · have hth : 0 ≤ a ∧ a < (n : Int) := by simpa using hth
    refine W.skip (Nx.blk Nx.thn) ?_
    refine W.seq ?_
    refine W.region ?_
    refine WL.x (X.mv (s0)) rfl ?_
    refine WL.call1 ce31 (lh) (gnodes_ok base g n Lb w2 (h.ch0 hcl)) rfl ?_
    rintro _ _ ⟨rfl, rfl⟩
    refine WL.call1 ce30 (lh) (new_ok (n : Int) w2) rfl ?_
    rintro v0 w3 ⟨kN, hv⟩
    rw [if_pos ⟨by omega, by omega⟩] at hv
    obtain ⟨b, wb, rfl, hset, hb1, hb2⟩ := hv
    rw [Int.toNat_natCast] at hset
    have hzN := kN.size
    have hz0 := hcl.size
    have hcl := hcl.trans0 kN
    refine WL.x (X.mv (lh)) rfl ?_
    refine WL.x (X.ex2_0 (lh)) rfl ?_
    refine WL.x (X.ex2_1 (lt rfl (lh))) rfl ?_
    refine WL.x (X.asg (lt rfl (lh))) rfl ?_
    refine WL.x (X.asg (lt rfl (lh))) rfl ?_
    refine WL.e5 Nx.thn 0 1 2 8 9 (lt rfl (lt rfl (lt rfl (lt rfl (lt rfl (lt rfl (lt rfl (lt rfl (s0))))))))) (lt rfl (lt rfl (lt rfl (lt rfl (lt rfl (lt rfl (lt rfl (lt rfl (s1))))))))) (lt rfl (lt rfl (lt rfl (lt rfl (lt rfl (lt rfl (lt rfl (lt rfl (s2))))))))) (lt rfl (lh)) (lh) ?_
    intro σ5 s0 s1 s2 s8 s9
    refine W.seq ?_
    refine W.seq ?_
    refine W.region ?_
    refine WL.x (X.mv (s9)) rfl ?_
    refine WL.x (X.neq (lh) lc) rfl ?_
    refine WL.e6 Nx.thn 0 1 2 8 9 29 (lt rfl (lt rfl (s0))) (lt rfl (lt rfl (s1))) (lt rfl (lt rfl (s2))) (lt rfl (lt rfl (s8))) (lt rfl (lt rfl (s9))) (lh) ?_
    intro σ6 s0 s1 s2 s8 s9 s29
    refine W.cndN s29 (fun h => h rfl) ?_
    refine W.skip Nx.thn ?_
    refine W.seq ?_
    refine W.seq ?_
    refine W.region ?_
    refine WL.x (X.mv (s0)) rfl ?_
    refine WL.x (X.mv (lt rfl (s1))) rfl ?_
    refine WL.x (X.mv (lt rfl (lt rfl (s2)))) rfl ?_
    refine WL.call3 ce27 (lt rfl (lt rfl (lh))) (lt rfl (lh)) (lh) (levels_okI base g n Lb w3 (h.ch0 hcl) (htab.ch0 hcl) (by have := hcl.size; omega) o a hth.1 hth.2) rfl ?_
    rintro _ w4 ⟨b8, rfl, hb8l, hb8, hbn, cl⟩
    have hset := hset.ch cl id id
    have hcl := hcl.trans0 cl
    refine WL.x (X.lenSl Tryd.underlying44 (lh)) rfl ?_
    refine WL.x (X.mv lc) rfl ?_
    refine WL.e4 Nx.thn 8 34 35 36 (lt rfl (lt rfl (lt rfl (lt rfl (lt rfl (lt rfl (s8))))))) (lt rfl (lt rfl (lh))) (lt rfl (lh)) (lh) ?_
    intro σ7 s8 s34 s35 s36
    refine W.block ?_
    have qo1 := s8
    have qo2 := s34
    have qo3 := s35
    -- loop 0: kept [8, 34, 35], varied [36]
    refine W.loop (G := Nat) (fun k σ' w' => (σ' 8 = σ7 8 ∧ σ' 34 = σ7 34 ∧ σ' 35 = σ7 35 ∧ True) ∧ (σ' 36 = .int .i64 (k : Int) ∧ k ≤ n ∧ Row1 w' n (b, wb) (fun j => decide (j < k) && decide (dst (EE Lb o) a.toNat j ≠ 0)) ∧ w'.heap[b8]? = some (.cells (wI n (fun i => (dst (EE Lb o) a.toNat i : Int))) 3 (0, 0)) ∧ Ch0 w w')) (fun k => n - k) (0) ⟨⟨rfl, rfl, rfl, trivial⟩, s36, by omega, ⟨_, hset, fun j => (mem_replicate _ j).trans (by simp)⟩, hb8, hcl⟩ ?_
    rintro k σ8 w5 ⟨⟨f8, f34, f35, _⟩, s36, hk, hrow, hb8, hcl⟩
    have s8 := f8.trans qo1
    have s34 := f34.trans qo2
    have s35 := f35.trans qo3
    refine W.seq ?_
    refine W.region ?_
    refine WL.x (X.lss (s36) (s35)) rfl ?_
    refine WL.e5 Nx.thn 8 34 35 36 37 (lt rfl (s8)) (lt rfl (s34)) (lt rfl (s35)) (lt rfl (s36)) (lh) ?_
    intro σ9 s8 s34 s35 s36 s37
    refine W.seq ?_
    refine W.cndp s37 (fun hlt => ?_) (fun hlt => ?_)
    · refine W.skip Nx.thn ?_
      refine W.seq ?_
      refine W.block ?_
      refine W.seq ?_
      refine W.region ?_
      refine WL.x (X.mv (s36)) rfl ?_
      refine WL.x (X.indexAddr Tryd.underlying44 el3 (lt rfl (s34)) (lt rfl (s36)) (by omega) (by omega)) rfl ?_
      refine WL.x (X.load pl3 (lh) hb8 (v := .int .i64 ((dst (EE Lb o) a.toNat k : Nat) : Int)) (by rw [show 0 + (k : Int).toNat * 1 = k by omega]; exact wI_get (by omega))) rfl ?_
      refine WL.x (X.asg (lt rfl (lt rfl (lh)))) rfl ?_
      refine WL.x (X.asg (lt rfl (lh))) rfl ?_
      refine WL.e6 Nx.thn 8 10 11 34 35 36 (lt rfl (lt rfl (lt rfl (lt rfl (lt rfl (s8)))))) (lt rfl (lh)) (lh) (lt rfl (lt rfl (lt rfl (lt rfl (lt rfl (s34)))))) (lt rfl (lt rfl (lt rfl (lt rfl (lt rfl (s35)))))) (lt rfl (lt rfl (lt rfl (lt rfl (lt rfl (s36)))))) ?_
      intro σ10 s8 s10 s11 s34 s35 s36
      refine W.seq ?_
      refine W.region ?_
      refine WL.x (X.mv (s11)) rfl ?_
      refine WL.x (X.gtr (lh) lc) rfl ?_
      refine WL.e6 Nx.thn 8 10 34 35 36 42 (lt rfl (lt rfl (s8))) (lt rfl (lt rfl (s10))) (lt rfl (lt rfl (s34))) (lt rfl (lt rfl (s35))) (lt rfl (lt rfl (s36))) (lh) ?_
      intro σ11 s8 s10 s34 s35 s36 s42
      refine W.cndp s42 (fun hd0 => ?_) (fun hd0 => ?_)
      · refine W.region ?_
        refine WL.x (X.mv (s8)) rfl ?_
        refine WL.x (X.mv (lt rfl (s10))) rfl ?_
        refine WL.call2 ce32 (lt rfl (lh)) (lh) (radd1 b wb n _ w5 hrow k (by omega)) rfl ?_
        rintro _ w6 ⟨rfl, hrow2, cad⟩
        have hb8 := cad.at hb8 (ty_ne ⟨_, hb8⟩ hrow.ty.2 (by decide))
        have hcl := hcl.trans cad (H := fun _ => False) (fun _ _ e => e) (fun i hi e => by (try dsimp only at e); omega)
        refine WL.e4 (Nx.blk Nx.thn) 8 34 35 36 (lt rfl (lt rfl (lt rfl (s8)))) (lt rfl (lt rfl (lt rfl (s34)))) (lt rfl (lt rfl (lt rfl (s35)))) (lt rfl (lt rfl (lt rfl (s36)))) ?_
        intro σ12 s8 s34 s35 s36
        refine W.region ?_
        first | refine WL.x (X.add (s36) lc (by omega) (by omega)) rfl ?_ | refine WL.x (X.addw (s36) lc) rfl ?_
        refine WL.x (X.mv (lh)) rfl ?_
        refine WL.e4 Nx.thn 8 34 35 36 (lt rfl (lt rfl (s8))) (lt rfl (lt rfl (s34))) (lt rfl (lt rfl (s35))) (lh) ?_
        intro σ13 s8 s34 s35 s36
        refine ⟨k + 1, by first | omega | (dsimp only; omega), ⟨s8.trans qo1.symm, s34.trans qo2.symm, s35.trans qo3.symm, trivial⟩, s36, by omega, by rw [show (fun j => decide (j < (k + 1)) && decide (dst (EE Lb o) a.toNat j ≠ 0)) = fun y => (decide (y < k) && decide (dst (EE Lb o) a.toNat y ≠ 0)) || decide (y = k) from funext fun y => by by_cases e : y = k; (· subst e; have : dst (EE Lb o) a.toNat y ≠ 0 := (by omega); simp [this]); (· rw [decide_eq_false e, Bool.or_false, decide_eq_decide.2 (show y < k + 1 ↔ y < k by omega)])]; exact hrow2, hb8, hcl⟩
      · refine W.skip (Nx.blk Nx.thn) ?_
        refine W.region ?_
        first | refine WL.x (X.add (s36) lc (by omega) (by omega)) rfl ?_ | refine WL.x (X.addw (s36) lc) rfl ?_
        refine WL.x (X.mv (lh)) rfl ?_
        refine WL.e4 Nx.thn 8 34 35 36 (lt rfl (lt rfl (s8))) (lt rfl (lt rfl (s34))) (lt rfl (lt rfl (s35))) (lh) ?_
        intro σ14 s8 s34 s35 s36
        refine ⟨k + 1, by first | omega | (dsimp only; omega), ⟨s8.trans qo1.symm, s34.trans qo2.symm, s35.trans qo3.symm, trivial⟩, s36, by omega, by rw [show (fun j => decide (j < (k + 1)) && decide (dst (EE Lb o) a.toNat j ≠ 0)) = (fun j => decide (j < k) && decide (dst (EE Lb o) a.toNat j ≠ 0)) from funext fun y => by by_cases e : y = k; (· subst e; have : dst (EE Lb o) a.toNat y = 0 := (by omega); simp [this]); (· rw [decide_eq_decide.2 (show y < k + 1 ↔ y < k by omega)])]; exact hrow, hb8, hcl⟩
    · refine W.exit (Nx.xthn (Nx.xthn (Nx.xblk Nx.thn))) ?_
      refine W.seq ?_
      refine W.region ?_
      refine WL.x (X.mv (s8)) rfl ?_
      refine WL.x (X.asg (lh)) rfl ?_
      refine WL.x (X.asg lc) rfl ?_
      refine WL.e2 Nx.thn 6 7 (lt rfl (lh)) (lh) ?_
      intro σ15 s6 s7
      refine W.ret2 Nx.f2 s6 s7 ?_
      have hke : k = n := by omega
      subst hke
      exact ⟨hcl, _, _, rfl, .inr ⟨hth, rfl, b, wb, rfl, hrow⟩⟩
end Go.Proofs.YtaldkbdnefpklaaDoor
