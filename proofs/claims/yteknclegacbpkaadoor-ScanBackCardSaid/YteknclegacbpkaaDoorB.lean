/-
  A part of the walk of the program.
-/
import Derived.Test.YteknclegacbpkaaDoorA
set_option linter.unusedVariables false
set_option linter.unusedSimpArgs false
set_option maxRecDepth 100000
namespace Go.Proofs.YteknclegacbpkaaDoor
open Go Go.RowKit Sg
set_option maxHeartbeats 800000 in
theorem while_ok (x f : Nat) (p : Nat → Bool) (s : ByteArray) (i : Nat) (w : World) (hcal : Sg.Callee Tryd.prog f) (hf : ∀ (c : Nat) w0, c < 256 → Sg.Ret Tryd.prog f #[.int .u8 (c : Int)] w0 fun v w' => v = .bool (p c) ∧ w0 = w') (h : w.heap[x]? = some (.cells #[.string s, .int .i64 ((i : Nat) : Int)] 48 (0, 0))) (hi : i ≤ s.size) (hsz : s.size ≤ 20000) :
    Sg.Ret Tryd.prog 20 #[.pointer (some ⟨x, 0, none⟩), .func (.func f) #[] #[]] w fun v w' => v = .string (s.extract i (i + run p ((sb s).drop i))) ∧ w'.heap[x]? = some (.cells #[.string s, .int .i64 ((i + run p ((sb s).drop i) : Nat) : Int)] 48 (0, 0)) ∧ Ch (fun j => j = x) w w' := by
  refine enter1 (n := 50) (l := [.pointer (some ⟨x, 0, none⟩), .func (.func f) #[] #[]]) Tryd.func20 rfl rfl rfl rfl ?_
  refine W.g2 0 1 (v1 := .pointer (some ⟨x, 0, none⟩)) (v2 := .func (.func f) #[] #[]) rfl rfl ?_; intro σ s0 s1
  refine W.seq ?_
  refine W.region ?_
  refine WL.x (X.asg lc) rfl ?_
  refine WL.e2 Nx.thn 0 1 (lt rfl (s0)) (lt rfl (s1)) ?_
  intro σ1 s0 s1
  refine W.seq ?_
  refine W.region ?_
  refine WL.x (X.mv (s0)) rfl ?_
  refine WL.x (X.nilck (lh)) rfl ?_
  refine WL.x (X.fieldAddr fd48_1 (lh)) rfl ?_
  refine WL.x (X.load pl3 (lh) (by first | assumption) (by first | rfl | assumption)) rfl ?_
  refine WL.x (X.asg (lh)) rfl ?_
  refine WL.e3 Nx.thn 0 1 5 (lt rfl (lt rfl (lt rfl (lt rfl (lt rfl (s0)))))) (lt rfl (lt rfl (lt rfl (lt rfl (lt rfl (s1)))))) (lh) ?_
  intro σ2 s0 s1 s5
  refine W.seq ?_
  refine W.block ?_
  have qo1 := s0
  have qo2 := s1
  have qo3 := s5
  -- loop 0: kept [0, 1, 5], varied []
  refine W.loop (G := Nat) (fun k σ' w' => (σ' 0 = σ2 0 ∧ σ' 1 = σ2 1 ∧ σ' 5 = σ2 5 ∧ True) ∧ (w'.heap[x]? = some (.cells #[.string s, .int .i64 ((i + k : Nat) : Int)] 48 (0, 0)) ∧ i + k ≤ s.size ∧ (∀ j, j < k → p (bat (sb s) (i + j)) = true) ∧ Ch (fun j => j = x) w w')) (fun k => s.size - (i + k)) (0) ⟨⟨rfl, rfl, rfl, trivial⟩, h, by omega, (fun j hj => absurd hj (by omega)), Ch.refl _ _⟩ ?_
  rintro k σ3 w1 ⟨⟨f0, f1, f5, _⟩, hm, hik, hall, hcl⟩
  have s0 := f0.trans qo1
  have s1 := f1.trans qo2
  have s5 := f5.trans qo3
  refine W.seq ?_
  refine W.seq ?_
  refine W.draw mo (by kernel_rfl) Nx.thn ?_
  refine WQ.x (fun _ => X.mv (s0)) rfl ?_
  refine WQ.x (fun _ => X.nilck (lh)) rfl ?_
  refine WQ.x (fun _ => X.fieldAddr fd48_1 (lh)) rfl ?_
  refine WQ.x (fun _ => X.load pl3 (lh) (by first | assumption) (by first | rfl | assumption)) rfl ?_
  refine WQ.x (fun _ => X.mv (lt rfl (lt rfl (lt rfl (lt rfl (s0)))))) rfl ?_
  refine WQ.x (fun _ => X.nilck (lh)) rfl ?_
  refine WQ.x (fun _ => X.fieldAddr fd48_0 (lh)) rfl ?_
  refine WQ.x (fun _ => X.load pl9 (lh) (by first | assumption) (by first | rfl | assumption)) rfl ?_
  refine WQ.x (fun _ => X.lenSt Tryd.underlying9 (lh)) rfl ?_
  refine WQ.x (fun _ => X.lss (lt rfl (lt rfl (lt rfl (lt rfl (lt rfl (lh)))))) (lh)) rfl ?_
  refine WQ.x (fun _ => X.mv (lh)) rfl ?_
  refine WQ.splitp (lh) (fun hlt => ?_) (fun hlt => ?_)
  · refine WQ.yes rfl rfl (lh) (decide_eq_true hlt) ?_
    refine WQ.x (fun _ => X.mv (lt rfl (lt rfl (lt rfl (lt rfl (lt rfl (lt rfl (lt rfl (lt rfl (lt rfl (lt rfl (lt rfl (s1))))))))))))) rfl ?_
    refine WQ.yes rfl rfl (lt rfl (lh)) (decide_eq_true hlt) ?_
    refine WQ.x (fun _ => X.mv (lt rfl (lt rfl (lt rfl (lt rfl (lt rfl (lt rfl (lt rfl (lt rfl (lt rfl (lt rfl (lt rfl (lt rfl (s0)))))))))))))) rfl ?_
    refine WQ.yes rfl rfl (lt rfl (lt rfl (lh))) (decide_eq_true hlt) ?_
    refine WQ.x (fun _ => X.nilck (lh)) rfl ?_
    refine WQ.yes rfl rfl (lt rfl (lt rfl (lt rfl (lh)))) (decide_eq_true hlt) ?_
    refine WQ.x (fun _ => X.fieldAddr fd48_0 (lh)) rfl ?_
    refine WQ.yes rfl rfl (lt rfl (lt rfl (lt rfl (lt rfl (lh))))) (decide_eq_true hlt) ?_
    refine WQ.x (fun _ => X.load pl9 (lh) (by first | assumption) (by first | rfl | assumption)) rfl ?_
    refine WQ.yes rfl rfl (lt rfl (lt rfl (lt rfl (lt rfl (lt rfl (lh)))))) (decide_eq_true hlt) ?_
    refine WQ.x (fun _ => X.mv (lt rfl (lt rfl (lt rfl (lt rfl (lt rfl (lt rfl (lt rfl (lt rfl (lt rfl (lt rfl (lt rfl (lt rfl (lt rfl (lt rfl (lt rfl (lt rfl (s0)))))))))))))))))) rfl ?_
    refine WQ.yes rfl rfl (lt rfl (lt rfl (lt rfl (lt rfl (lt rfl (lt rfl (lh))))))) (decide_eq_true hlt) ?_
    refine WQ.x (fun _ => X.nilck (lh)) rfl ?_
    refine WQ.yes rfl rfl (lt rfl (lt rfl (lt rfl (lt rfl (lt rfl (lt rfl (lt rfl (lh)))))))) (decide_eq_true hlt) ?_
    refine WQ.x (fun _ => X.fieldAddr fd48_1 (lh)) rfl ?_
    refine WQ.yes rfl rfl (lt rfl (lt rfl (lt rfl (lt rfl (lt rfl (lt rfl (lt rfl (lt rfl (lh))))))))) (decide_eq_true hlt) ?_
    refine WQ.x (fun _ => X.load pl3 (lh) (by first | assumption) (by first | rfl | assumption)) rfl ?_
    refine WQ.yes rfl rfl (lt rfl (lt rfl (lt rfl (lt rfl (lt rfl (lt rfl (lt rfl (lt rfl (lt rfl (lh)))))))))) (decide_eq_true hlt) ?_
    first | refine WQ.x (fun _ => X.idxN Tryd.underlying9 (lt rfl (lt rfl (lt rfl (lt rfl (lh))))) (lh) (by omega)) rfl ?_ | refine WQ.x (fun _ => X.idxS Tryd.underlying9 (lt rfl (lt rfl (lt rfl (lt rfl (lh))))) (lh) (by omega) (by omega)) rfl ?_
    refine WQ.yes rfl rfl (lt rfl (lt rfl (lt rfl (lt rfl (lt rfl (lt rfl (lt rfl (lt rfl (lt rfl (lt rfl (lh))))))))))) (decide_eq_true hlt) ?_
    refine WQ.callv1 (caps := []) hcal (lt rfl (lt rfl (lt rfl (lt rfl (lt rfl (lt rfl (lt rfl (lt rfl (lt rfl (lh)))))))))) (lh) (Ret.q fun w0 => hf _ w0 (bat_lt _ _)) rfl ?_
    refine WQ.x (fun _ => X.pickT (lt rfl (lt rfl (lt rfl (lt rfl (lt rfl (lt rfl (lt rfl (lt rfl (lt rfl (lt rfl (lt rfl (lh)))))))))))) (decide_eq_true hlt) (lh)) rfl ?_
    refine WQ.e4 0 1 5 32 (lt rfl (lt rfl (lt rfl (lt rfl (lt rfl (lt rfl (lt rfl (lt rfl (lt rfl (lt rfl (lt rfl (lt rfl (lt rfl (lt rfl (lt rfl (lt rfl (lt rfl (lt rfl (lt rfl (lt rfl (lt rfl (lt rfl (lt rfl (s0)))))))))))))))))))))))) (lt rfl (lt rfl (lt rfl (lt rfl (lt rfl (lt rfl (lt rfl (lt rfl (lt rfl (lt rfl (lt rfl (lt rfl (lt rfl (lt rfl (lt rfl (lt rfl (lt rfl (lt rfl (lt rfl (lt rfl (lt rfl (lt rfl (lt rfl (s1)))))))))))))))))))))))) (lt rfl (lt rfl (lt rfl (lt rfl (lt rfl (lt rfl (lt rfl (lt rfl (lt rfl (lt rfl (lt rfl (lt rfl (lt rfl (lt rfl (lt rfl (lt rfl (lt rfl (lt rfl (lt rfl (lt rfl (lt rfl (lt rfl (lt rfl (s5)))))))))))))))))))))))) (lh) ?_
    intro σ4 s0 s1 s5 s32
    intro _; refine gdrew ?_; intro w2 hh2 cd2 dr2
    refine W.cnd s32 (fun hp => ?_) (fun hp => ?_)
    · refine W.skip Nx.thn ?_
      refine W.block ?_
      refine W.region ?_
      refine WL.x (X.mv (s0)) rfl ?_
      refine WL.x (X.nilck (lh)) rfl ?_
      refine WL.x (X.fieldAddr fd48_1 (lh)) rfl ?_
      refine WL.x (X.load pl3 (lh) (by first | assumption | exact cd2.at0 (by assumption)) (by first | rfl | assumption)) rfl ?_
      first | refine WL.x (X.add (lh) lc (by omega) (by omega)) rfl ?_ | refine WL.x (X.addw (lh) lc) rfl ?_
      refine WL.x (X.nilck (lt rfl (lt rfl (lt rfl (lt rfl (lh)))))) rfl ?_
      refine WL.x (X.fieldAddr fd48_1 (lh)) rfl ?_
      refine WL.store el3 (lh) (lt rfl (lt rfl (lh))) rfl (by first | assumption | exact cd2.at0 (by assumption)) (by first | decide | (simp; done) | (simp; omega)) ?_
      intro w3 u3_7; have hu3_7 := u3_7.at_; have cu3_7 := u3_7.ch; have zu3_7 := u3_7.size
      refine WL.e3 (Nx.blk Nx.thn) 0 1 5 (lt rfl (lt rfl (lt rfl (lt rfl (lt rfl (lt rfl (lt rfl (s0)))))))) (lt rfl (lt rfl (lt rfl (lt rfl (lt rfl (lt rfl (lt rfl (s1)))))))) (lt rfl (lt rfl (lt rfl (lt rfl (lt rfl (lt rfl (lt rfl (s5)))))))) ?_
      intro σ5 s0 s1 s5
      refine ⟨k + 1, by omega, ⟨s0.trans qo1.symm, s1.trans qo2.symm, s5.trans qo3.symm, trivial⟩, (by exact hu3_7), by omega, (fun j hj => by by_cases e : j = k; (· subst e; exact hp); (· exact hall j (by omega))), ((hcl).trans cd2 (H := fun j => j = x) (fun j hj e => by first | exact e | exact False.elim e | ((try dsimp only at e); omega)) (fun j hj e => by first | exact e | exact False.elim e | ((try dsimp only at e); omega))).trans cu3_7 (H := fun j => j = x) (fun j hj e => by first | exact e | exact False.elim e | ((try dsimp only at e); omega)) (fun j hj e => by first | exact e | exact False.elim e | ((try dsimp only at e); omega))⟩
    · refine W.exit (Nx.xthn (Nx.xthn (Nx.xblk Nx.thn))) ?_
      refine W.seq ?_
      refine W.draw mo (by kernel_rfl) Nx.thn ?_
      refine WQ.x (fun _ => X.mv (s0)) rfl ?_
      refine WQ.x (fun _ => X.nilck (lh)) rfl ?_
      refine WQ.x (fun _ => X.fieldAddr fd48_0 (lh)) rfl ?_
      refine WQ.x (fun _ => X.load pl9 (lh) (by first | assumption | exact cd2.at0 (by assumption)) (by first | rfl | assumption)) rfl ?_
      refine WQ.x (fun _ => X.mv (lt rfl (lt rfl (lt rfl (lt rfl (s5)))))) rfl ?_
      refine WQ.x (fun _ => X.mv (lt rfl (lt rfl (lt rfl (lt rfl (lt rfl (s0))))))) rfl ?_
      refine WQ.x (fun _ => X.nilck (lh)) rfl ?_
      refine WQ.x (fun _ => X.fieldAddr fd48_1 (lh)) rfl ?_
      refine WQ.x (fun _ => X.load pl3 (lh) (by first | assumption | exact cd2.at0 (by assumption)) (by first | rfl | assumption)) rfl ?_
      first | refine WQ.x (fun _ => X.subN Tryd.underlying9 (lt rfl (lt rfl (lt rfl (lt rfl (lt rfl (lh)))))) (lt rfl (lt rfl (lt rfl (lt rfl (lh))))) (lh) (by omega) (by omega)) rfl ?_ | refine WQ.x (fun _ => X.subS Tryd.underlying9 (lt rfl (lt rfl (lt rfl (lt rfl (lt rfl (lh)))))) (lt rfl (lt rfl (lt rfl (lt rfl (lh))))) (lh) (by omega) (by omega) (by omega)) rfl ?_
      refine WQ.x (fun _ => X.asg (lh)) rfl ?_
      refine WQ.e1 4 (lh) ?_
      intro σ6 s4
      intro _; refine gdrew ?_; intro w4 hh4 cd4 dr4
      refine W.ret1 Nx.f1 s4 ?_
      have hr : run p ((sb s).drop i) = k := run_is (by rw [List.length_drop, sb_len]; omega) (fun j hj => by rw [bat_drop]; exact hall j hj) (fun _ => by rw [bat_drop]; exact hp)
      rw [hr]
      exact ⟨rfl, cd4.at0 (cd2.at0 hm), ((hcl).trans cd2 (H := fun j => j = x) (fun j hj e => by first | exact e | exact False.elim e | ((try dsimp only at e); omega)) (fun j hj e => by first | exact e | exact False.elim e | ((try dsimp only at e); omega))).trans cd4 (H := fun j => j = x) (fun j hj e => by first | exact e | exact False.elim e | ((try dsimp only at e); omega)) (fun j hj e => by first | exact e | exact False.elim e | ((try dsimp only at e); omega))⟩
  · refine WQ.no rfl rfl (lh) (decide_eq_false hlt) rfl ?_
    refine WQ.no rfl rfl (lt rfl (lh)) (decide_eq_false hlt) rfl ?_
    refine WQ.no rfl rfl (lt rfl (lt rfl (lh))) (decide_eq_false hlt) rfl ?_
    refine WQ.no rfl rfl (lt rfl (lt rfl (lt rfl (lh)))) (decide_eq_false hlt) rfl ?_
    refine WQ.no rfl rfl (lt rfl (lt rfl (lt rfl (lt rfl (lh))))) (decide_eq_false hlt) rfl ?_
    refine WQ.no rfl rfl (lt rfl (lt rfl (lt rfl (lt rfl (lt rfl (lh)))))) (decide_eq_false hlt) rfl ?_
    refine WQ.no rfl rfl (lt rfl (lt rfl (lt rfl (lt rfl (lt rfl (lt rfl (lh))))))) (decide_eq_false hlt) rfl ?_
    refine WQ.no rfl rfl (lt rfl (lt rfl (lt rfl (lt rfl (lt rfl (lt rfl (lt rfl (lh)))))))) (decide_eq_false hlt) rfl ?_
    refine WQ.no rfl rfl (lt rfl (lt rfl (lt rfl (lt rfl (lt rfl (lt rfl (lt rfl (lt rfl (lh))))))))) (decide_eq_false hlt) rfl ?_
    refine WQ.no rfl rfl (lt rfl (lt rfl (lt rfl (lt rfl (lt rfl (lt rfl (lt rfl (lt rfl (lt rfl (lh)))))))))) (decide_eq_false hlt) rfl ?_
    refine WQ.no rfl rfl (lt rfl (lt rfl (lt rfl (lt rfl (lt rfl (lt rfl (lt rfl (lt rfl (lt rfl (lt rfl (lh))))))))))) (decide_eq_false hlt) rfl ?_
    refine WQ.x (fun _ => X.pickF (lt rfl (lt rfl (lt rfl (lt rfl (lt rfl (lt rfl (lt rfl (lt rfl (lt rfl (lt rfl (lt rfl (lh)))))))))))) (decide_eq_false hlt) lc) rfl ?_
    refine WQ.e4 0 1 5 32 (lt rfl (lt rfl (lt rfl (lt rfl (lt rfl (lt rfl (lt rfl (lt rfl (lt rfl (lt rfl (lt rfl (lt rfl (lt rfl (lt rfl (lt rfl (lt rfl (lt rfl (lt rfl (lt rfl (lt rfl (lt rfl (lt rfl (lt rfl (s0)))))))))))))))))))))))) (lt rfl (lt rfl (lt rfl (lt rfl (lt rfl (lt rfl (lt rfl (lt rfl (lt rfl (lt rfl (lt rfl (lt rfl (lt rfl (lt rfl (lt rfl (lt rfl (lt rfl (lt rfl (lt rfl (lt rfl (lt rfl (lt rfl (lt rfl (s1)))))))))))))))))))))))) (lt rfl (lt rfl (lt rfl (lt rfl (lt rfl (lt rfl (lt rfl (lt rfl (lt rfl (lt rfl (lt rfl (lt rfl (lt rfl (lt rfl (lt rfl (lt rfl (lt rfl (lt rfl (lt rfl (lt rfl (lt rfl (lt rfl (lt rfl (s5)))))))))))))))))))))))) (lh) ?_
    intro σ7 s0 s1 s5 s32
    intro _; refine gdrew ?_; intro w5 hh2 cd2 dr2
    refine W.cndF s32 ?_
    refine W.exit (Nx.xthn (Nx.xthn (Nx.xblk Nx.thn))) ?_
    refine W.seq ?_
    refine W.draw mo (by kernel_rfl) Nx.thn ?_
    refine WQ.x (fun _ => X.mv (s0)) rfl ?_
    refine WQ.x (fun _ => X.nilck (lh)) rfl ?_
    refine WQ.x (fun _ => X.fieldAddr fd48_0 (lh)) rfl ?_
    refine WQ.x (fun _ => X.load pl9 (lh) (by first | assumption | exact cd2.at0 (by assumption)) (by first | rfl | assumption)) rfl ?_
    refine WQ.x (fun _ => X.mv (lt rfl (lt rfl (lt rfl (lt rfl (s5)))))) rfl ?_
    refine WQ.x (fun _ => X.mv (lt rfl (lt rfl (lt rfl (lt rfl (lt rfl (s0))))))) rfl ?_
    refine WQ.x (fun _ => X.nilck (lh)) rfl ?_
    refine WQ.x (fun _ => X.fieldAddr fd48_1 (lh)) rfl ?_
    refine WQ.x (fun _ => X.load pl3 (lh) (by first | assumption | exact cd2.at0 (by assumption)) (by first | rfl | assumption)) rfl ?_
    first | refine WQ.x (fun _ => X.subN Tryd.underlying9 (lt rfl (lt rfl (lt rfl (lt rfl (lt rfl (lh)))))) (lt rfl (lt rfl (lt rfl (lt rfl (lh))))) (lh) (by omega) (by omega)) rfl ?_ | refine WQ.x (fun _ => X.subS Tryd.underlying9 (lt rfl (lt rfl (lt rfl (lt rfl (lt rfl (lh)))))) (lt rfl (lt rfl (lt rfl (lt rfl (lh))))) (lh) (by omega) (by omega) (by omega)) rfl ?_
    refine WQ.x (fun _ => X.asg (lh)) rfl ?_
    refine WQ.e1 4 (lh) ?_
    intro σ8 s4
    intro _; refine gdrew ?_; intro w6 hh4 cd4 dr4
    refine W.ret1 Nx.f1 s4 ?_
    have hr : run p ((sb s).drop i) = k := run_is (by rw [List.length_drop, sb_len]; omega) (fun j hj => by rw [bat_drop]; exact hall j hj) (fun h9 => by rw [List.length_drop, sb_len] at h9; omega)
    rw [hr]
    exact ⟨rfl, cd4.at0 (cd2.at0 hm), ((hcl).trans cd2 (H := fun j => j = x) (fun j hj e => by first | exact e | exact False.elim e | ((try dsimp only at e); omega)) (fun j hj e => by first | exact e | exact False.elim e | ((try dsimp only at e); omega))).trans cd4 (H := fun j => j = x) (fun j hj e => by first | exact e | exact False.elim e | ((try dsimp only at e); omega)) (fun j hj e => by first | exact e | exact False.elim e | ((try dsimp only at e); omega))⟩
theorem peek_ok (x : Nat) (s : ByteArray) (i n : Nat) (w : World) (h : w.heap[x]? = some (.cells #[.string s, .int .i64 ((i : Nat) : Int)] 48 (0, 0))) (hi : i ≤ s.size) (hn : n ≤ 1) (hsz : s.size ≤ 20000) :
    Sg.Ret Tryd.prog 22 #[.pointer (some ⟨x, 0, none⟩), .int .i64 (n : Int)] w fun v w' => v = .int .u8 ((bat (sb s) (i + n) : Nat) : Int) ∧ Dr w w' := by
  refine enter1 (n := 28) (l := [.pointer (some ⟨x, 0, none⟩), .int .i64 (n : Int)]) Tryd.func22 rfl rfl rfl rfl ?_
  refine W.g2 0 1 (v1 := .pointer (some ⟨x, 0, none⟩)) (v2 := .int .i64 (n : Int)) rfl rfl ?_; intro σ s0 s1
  refine W.seq ?_
  refine W.region ?_
  refine WL.x (X.asg lc) rfl ?_
  refine WL.e2 Nx.thn 0 1 (lt rfl (s0)) (lt rfl (s1)) ?_
  intro σ1 s0 s1
  refine W.seq ?_
  refine W.seq ?_
  refine W.draw mo (by kernel_rfl) Nx.thn ?_
  refine WQ.x (fun _ => X.mv (s1)) rfl ?_
  refine WQ.x (fun _ => X.mv (lt rfl (s0))) rfl ?_
  refine WQ.x (fun _ => X.nilck (lh)) rfl ?_
  refine WQ.x (fun _ => X.fieldAddr fd48_0 (lh)) rfl ?_
  refine WQ.x (fun _ => X.load pl9 (lh) (by first | assumption) (by first | rfl | assumption)) rfl ?_
  refine WQ.x (fun _ => X.lenSt Tryd.underlying9 (lh)) rfl ?_
  refine WQ.x (fun _ => X.mv (lt rfl (lt rfl (lt rfl (lt rfl (lt rfl (lt rfl (s0)))))))) rfl ?_
  refine WQ.x (fun _ => X.nilck (lh)) rfl ?_
  refine WQ.x (fun _ => X.fieldAddr fd48_1 (lh)) rfl ?_
  refine WQ.x (fun _ => X.load pl3 (lh) (by first | assumption) (by first | rfl | assumption)) rfl ?_
  first | refine WQ.x (fun _ => X.sub (lt rfl (lt rfl (lt rfl (lt rfl (lh))))) (lh) (by omega) (by omega)) rfl ?_ | refine WQ.x (fun _ => X.subw (lt rfl (lt rfl (lt rfl (lt rfl (lh))))) (lh)) rfl ?_
  refine WQ.x (fun _ => X.lss (lt rfl (lt rfl (lt rfl (lt rfl (lt rfl (lt rfl (lt rfl (lt rfl (lt rfl (lt rfl (lh))))))))))) (lh)) rfl ?_
  refine WQ.e3 0 1 16 (lt rfl (lt rfl (lt rfl (lt rfl (lt rfl (lt rfl (lt rfl (lt rfl (lt rfl (lt rfl (lt rfl (lt rfl (s0))))))))))))) (lt rfl (lt rfl (lt rfl (lt rfl (lt rfl (lt rfl (lt rfl (lt rfl (lt rfl (lt rfl (lt rfl (lt rfl (s1))))))))))))) (lh) ?_
  intro σ2 s0 s1 s16
  intro _; refine gdrew ?_; intro w1 hh1 cd1 dr1
  refine W.cndp s16 (fun hlt => ?_) (fun hlt => ?_)
  · refine W.seq ?_
    refine W.draw mo (by kernel_rfl) Nx.thn ?_
    refine WQ.x (fun _ => X.mv (s0)) rfl ?_
    refine WQ.x (fun _ => X.nilck (lh)) rfl ?_
    refine WQ.x (fun _ => X.fieldAddr fd48_0 (lh)) rfl ?_
    refine WQ.x (fun _ => X.load pl9 (lh) (by first | assumption | exact cd1.at0 (by assumption)) (by first | rfl | assumption)) rfl ?_
    refine WQ.x (fun _ => X.mv (lt rfl (lt rfl (lt rfl (lt rfl (s0)))))) rfl ?_
    refine WQ.x (fun _ => X.nilck (lh)) rfl ?_
    refine WQ.x (fun _ => X.fieldAddr fd48_1 (lh)) rfl ?_
    refine WQ.x (fun _ => X.load pl3 (lh) (by first | assumption | exact cd1.at0 (by assumption)) (by first | rfl | assumption)) rfl ?_
    refine WQ.x (fun _ => X.mv (lt rfl (lt rfl (lt rfl (lt rfl (lt rfl (lt rfl (lt rfl (lt rfl (s1)))))))))) rfl ?_
    refine WQ.x (v := .int .i64 ((i + n : Nat) : Int)) (fun _ => by rw [Int.natCast_add]; exact X.add (lt rfl (lh)) (lh) (by omega) (by omega)) rfl ?_
    first | refine WQ.x (fun _ => X.idxN Tryd.underlying9 (lt rfl (lt rfl (lt rfl (lt rfl (lt rfl (lt rfl (lh))))))) (lh) (by omega)) rfl ?_ | refine WQ.x (fun _ => X.idxS Tryd.underlying9 (lt rfl (lt rfl (lt rfl (lt rfl (lt rfl (lt rfl (lh))))))) (lh) (by omega) (by omega)) rfl ?_
    refine WQ.x (fun _ => X.asg (lh)) rfl ?_
    refine WQ.e1 4 (lh) ?_
    intro σ3 s4
    intro _; refine gdrew ?_; intro w2 hh2 cd2 dr2
    refine W.ret1 (Nx.rthn Nx.f1) s4 ?_
    exact ⟨rfl, Dr.trans dr1 dr2⟩
  · refine W.skip Nx.thn ?_
    refine W.seq ?_
    refine W.region ?_
    refine WL.x (X.asg lc) rfl ?_
    refine WL.e1 Nx.thn 4 (lh) ?_
    intro σ4 s4
    refine W.ret1 Nx.f1 s4 ?_
    exact ⟨by rw [bat_out (by rw [sb_len]; omega)]; rfl, dr1⟩
theorem peek0_ok (x : Nat) (s : ByteArray) (i : Nat) (w : World) (h : w.heap[x]? = some (.cells #[.string s, .int .i64 ((i : Nat) : Int)] 48 (0, 0))) (hi : i ≤ s.size) (hsz : s.size ≤ 20000) : Sg.Ret Tryd.prog 22 #[.pointer (some ⟨x, 0, none⟩), .int .i64 0] w fun v w' => v = .int .u8 ((bat (sb s) i : Nat) : Int) ∧ Dr w w' := peek_ok x s i 0 w h hi (by omega) hsz
theorem peek1_ok (x : Nat) (s : ByteArray) (i : Nat) (w : World) (h : w.heap[x]? = some (.cells #[.string s, .int .i64 ((i : Nat) : Int)] 48 (0, 0))) (hi : i ≤ s.size) (hsz : s.size ≤ 20000) : Sg.Ret Tryd.prog 22 #[.pointer (some ⟨x, 0, none⟩), .int .i64 1] w fun v w' => v = .int .u8 ((bat (sb s) (i + 1) : Nat) : Int) ∧ Dr w w' := peek_ok x s i 1 w h hi (by omega) hsz

end Go.Proofs.YteknclegacbpkaaDoor
