/-
  A part of the walk of the program.
-/
import Derived.Test.YtaldkbdnefpklaaDoorA
set_option linter.unusedVariables false
set_option linter.unusedSimpArgs false
set_option maxRecDepth 100000
namespace Go.Proofs.YtaldkbdnefpklaaDoor
open Go Go.RowKit Sg
theorem or_fn (x y : BV) (w : World) :
    Sg.Ret Tryd.prog 49 #[bcell x, bcell y] w fun v w' => v = bcell (x ||| y) ∧ w = w' := by
  have hb : ∀ z : BV, bcell z = .int .u64 (z.toNat : Int) := fun _ => rfl
  rw [hb, hb, hb]
  refine enter1 (n := 8) (l := [bcell x, bcell y]) Tryd.func49 rfl rfl rfl rfl ?_
  refine W.g2 0 1 (v1 := bcell x) (v2 := bcell y) rfl rfl ?_; intro σ s0 s1
  refine W.seq ?_
  refine W.region ?_
  refine WL.x (X.asg lc) rfl ?_
  refine WL.e2 Nx.thn 0 1 (lt rfl (s0)) (lt rfl (s1)) ?_
  intro σ1 s0 s1
  refine W.seq ?_
  refine W.region ?_
  refine WL.x (X.mv (s0)) rfl ?_
  refine WL.x (X.mv (lt rfl (s1))) rfl ?_
  refine WL.x (X.or (lt rfl (lh)) (lh)) rfl ?_
  refine WL.x (X.asg (lh)) rfl ?_
  refine WL.e1 Nx.thn 4 (lh) ?_
  intro σ2 s4
  refine W.ret1 Nx.f1 s4 ?_
  exact ⟨congrArg _ (bitop_or x y), rfl⟩
/-- The words so far: k of them done. -/
def zipTo (g : BV → BV → BV) (ws vs : List BV) (k : Nat) : List BV := (List.zipWith g ws vs).take k ++ ws.drop k
theorem zipTo_len {g : BV → BV → BV} {ws vs : List BV} (h : ws.length = vs.length) (k : Nat) : (zipTo g ws vs k).length = ws.length := by
  unfold zipTo; simp [List.length_zipWith]; omega
theorem zipTo_at {g : BV → BV → BV} {ws vs : List BV} (h : ws.length = vs.length) {k : Nat} (hk : k < ws.length) : (zipTo g ws vs k).getD k 0 = ws.getD k 0 := by
  unfold zipTo
  have hl : ((List.zipWith g ws vs).take k).length = k := by simp [List.length_zipWith]; omega
  rw [List.getD_eq_getElem?_getD, List.getD_eq_getElem?_getD, List.getElem?_append_right (by omega), hl]
  simp
theorem zipTo_next {g : BV → BV → BV} {ws vs : List BV} (h : ws.length = vs.length) {k : Nat} (hk : k < ws.length) : (zipTo g ws vs k).set k (g (ws.getD k 0) (vs.getD k 0)) = zipTo g ws vs (k + 1) := by
  unfold zipTo
  have hl : ((List.zipWith g ws vs).take k).length = k := by simp [List.length_zipWith]; omega
  have hz : k < (List.zipWith g ws vs).length := by simp [List.length_zipWith]; omega
  rw [List.set_append_right _ _ (by omega), hl, Nat.sub_self, List.drop_eq_getElem_cons hk, List.set_cons_zero, List.take_succ_eq_append_getElem hz]
  simp [List.getD_eq_getElem?_getD, List.getElem?_eq_getElem hk, List.getElem?_eq_getElem (show k < vs.length by omega)]
theorem zipTo_all {g : BV → BV → BV} {ws vs : List BV} (h : ws.length = vs.length) : zipTo g ws vs ws.length = List.zipWith g ws vs := by
  unfold zipTo
  rw [List.take_of_length_le (by simp [List.length_zipWith]; omega), List.drop_of_length_le (Nat.le_refl _), List.append_nil]
theorem zipTo_zero {g : BV → BV → BV} {ws vs : List BV} : zipTo g ws vs 0 = ws := by simp [zipTo]
theorem cell_ne {x y : BV} : ((x.toNat : Int) ≠ (y.toNat : Int)) ↔ x ≠ y := by
  constructor
  · intro h e; exact h (by rw [e])
  · intro h e; exact h (BitVec.eq_of_toNat_eq (by omega))
/-- Whether one of the words so far is other than it was. -/
def chg (g : BV → BV → BV) (ws vs : List BV) (k : Nat) : Bool := (List.range k).any fun i => decide (g (ws.getD i 0) (vs.getD i 0) ≠ ws.getD i 0)
theorem chg_succ (g : BV → BV → BV) (ws vs : List BV) (k : Nat) : chg g ws vs (k + 1) = (chg g ws vs k || decide (g (ws.getD k 0) (vs.getD k 0) ≠ ws.getD k 0)) := by
  unfold chg; rw [List.range_succ, List.any_append]; simp
theorem with_ok (b wb n : Nat) (ws : List BV) (b2 wb2 m : Nat) (vs : List BV) (f : Nat) (g : BV → BV → BV) (hcal : Sg.Callee Tryd.prog f) (hf : ∀ x y w, Sg.Ret Tryd.prog f #[bcell x, bcell y] w fun v w' => v = bcell (g x y) ∧ w = w') (w : World) (h : IsSet w b wb n ws) (h2 : IsSet w b2 wb2 m vs) (hnm : n = m) (hne : b2 ≠ wb) (hal : wb ≠ wb2 ∨ (wb = wb2 ∧ ws = vs)) :
    Sg.Ret Tryd.prog 48 #[.pointer (some ⟨b, 0, none⟩), .pointer (some ⟨b2, 0, none⟩), .func (.func f) #[] #[]] w fun v w' => v = .tuple #[.bool (chg g ws vs ws.length), .int .i64 0] ∧ Ch (fun k => k = wb) w w' ∧ w'.heap[wb]? = some (.cells (wcells (List.zipWith g ws vs)) 70 (0, 0)) := by
  have hd := h.hd; have hlen := h.len; have hle := h.le; have hwd := h.wd; have hd2 := h2.hd; have hlen2 := h2.len; have hwd2 := h2.wd; have hbw := h.ne
  have hll : ws.length = vs.length := by omega
  refine enter2 (n := 68) (l := [.pointer (some ⟨b, 0, none⟩), .pointer (some ⟨b2, 0, none⟩), .func (.func f) #[] #[]]) Tryd.func48 rfl rfl rfl rfl ?_
  refine W.g3 0 1 2 (v1 := .pointer (some ⟨b, 0, none⟩)) (v2 := .pointer (some ⟨b2, 0, none⟩)) (v3 := .func (.func f) #[] #[]) rfl rfl rfl ?_; intro σ s0 s1 s2
  refine W.seq ?_
  refine W.region ?_
  refine WL.x (X.asg lc) rfl ?_
  refine WL.x (X.asg lc) rfl ?_
  refine WL.e3 Nx.thn 0 1 2 (lt rfl (lt rfl (s0))) (lt rfl (lt rfl (s1))) (lt rfl (lt rfl (s2))) ?_
  intro σ1 s0 s1 s2
  refine W.seq ?_
  refine W.block ?_
  refine W.seq ?_
  refine W.region ?_
  refine WL.x (X.mv (s0)) rfl ?_
  refine WL.call1 ce33 (lh) (none_made b wb n ws w h) rfl ?_
  rintro _ _ ⟨rfl, rfl⟩
  refine WL.x (X.mv (lh)) rfl ?_
  refine WL.yes rfl rfl (lh) (rfl) ?_
  refine WL.x (X.mv (lt rfl (lt rfl (lt rfl (s1))))) rfl ?_
  refine WL.yes rfl rfl (lt rfl (lh)) (rfl) ?_
  refine WL.call1 ce33 (lh) (none_made b2 wb2 m vs w h2) rfl ?_
  rintro _ _ ⟨rfl, rfl⟩
  refine WL.x (X.pickF (lt rfl (lt rfl (lh))) (rfl) (lh)) rfl ?_
  refine WL.x (X.asg (lh)) rfl ?_
  refine WL.e4 Nx.thn 0 1 2 11 (lt rfl (lt rfl (lt rfl (lt rfl (lt rfl (lt rfl (lt rfl (s0)))))))) (lt rfl (lt rfl (lt rfl (lt rfl (lt rfl (lt rfl (lt rfl (s1)))))))) (lt rfl (lt rfl (lt rfl (lt rfl (lt rfl (lt rfl (lt rfl (s2)))))))) (lh) ?_
  intro σ2 s0 s1 s2 s11
  refine W.cndBF s11 (rfl) ?_
  refine W.seq ?_
  refine W.draw mo (by kernel_rfl) Nx.thn ?_
  refine WQ.x (fun _ => X.mv (s0)) rfl ?_
  refine WQ.x (fun _ => X.nilck (lh)) rfl ?_
  refine WQ.x (fun _ => X.fieldAddr fd67_1 (lh)) rfl ?_
  refine WQ.x (fun _ => X.load pl3 (lh) (by first | assumption) (by first | rfl | assumption)) rfl ?_
  refine WQ.x (fun _ => X.mv (lt rfl (lt rfl (lt rfl (lt rfl (s1)))))) rfl ?_
  refine WQ.x (fun _ => X.nilck (lh)) rfl ?_
  refine WQ.x (fun _ => X.fieldAddr fd67_1 (lh)) rfl ?_
  refine WQ.x (fun _ => X.load pl3 (lh) (by first | assumption) (by first | rfl | assumption)) rfl ?_
  refine WQ.x (fun _ => X.neq (lt rfl (lt rfl (lt rfl (lt rfl (lh))))) (lh)) rfl ?_
  refine WQ.x (fun _ => X.asg (lh)) rfl ?_
  refine WQ.e4 0 1 2 18 (lt rfl (lt rfl (lt rfl (lt rfl (lt rfl (lt rfl (lt rfl (lt rfl (lt rfl (lt rfl (s0))))))))))) (lt rfl (lt rfl (lt rfl (lt rfl (lt rfl (lt rfl (lt rfl (lt rfl (lt rfl (lt rfl (s1))))))))))) (lt rfl (lt rfl (lt rfl (lt rfl (lt rfl (lt rfl (lt rfl (lt rfl (lt rfl (lt rfl (s2))))))))))) (lh) ?_
  intro σ3 s0 s1 s2 s18
  intro _; refine gdrew ?_; intro w1 hh3 cd3 dr3
  refine W.cndN s18 (by omega) ?_
  refine W.skip (Nx.blk Nx.thn) ?_
  refine W.seq ?_
  refine W.region ?_
  refine WL.x (X.asg lc) rfl ?_
  refine WL.e4 Nx.thn 0 1 2 8 (lt rfl (s0)) (lt rfl (s1)) (lt rfl (s2)) (lh) ?_
  intro σ4 s0 s1 s2 s8
  refine W.seq ?_
  refine W.seq ?_
  refine W.region ?_
  refine WL.x (X.mv (s0)) rfl ?_
  refine WL.x (X.nilck (lh)) rfl ?_
  refine WL.x (X.fieldAddr fd67_0 (lh)) rfl ?_
  refine WL.x (X.load pl65 (lh) (by first | assumption | exact cd3.at0 (by assumption)) (by first | rfl | assumption)) rfl ?_
  refine WL.x (X.lenSl Tryd.underlying65 (lh)) rfl ?_
  refine WL.x (X.mv lc) rfl ?_
  refine WL.e7 Nx.thn 0 1 2 8 31 32 33 (lt rfl (lt rfl (lt rfl (lt rfl (lt rfl (lt rfl (s0))))))) (lt rfl (lt rfl (lt rfl (lt rfl (lt rfl (lt rfl (s1))))))) (lt rfl (lt rfl (lt rfl (lt rfl (lt rfl (lt rfl (s2))))))) (lt rfl (lt rfl (lt rfl (lt rfl (lt rfl (lt rfl (s8))))))) (lt rfl (lt rfl (lh))) (lt rfl (lh)) (lh) ?_
  intro σ5 s0 s1 s2 s8 s31 s32 s33
  refine W.block ?_
  have qo2 := s0
  have qo3 := s1
  have qo4 := s2
  have qo5 := s31
  have qo6 := s32
  -- loop 0: kept [0, 1, 2, 31, 32], varied [8, 33]
  refine W.loop (G := Nat) (fun k σ' w' => (σ' 0 = σ5 0 ∧ σ' 1 = σ5 1 ∧ σ' 2 = σ5 2 ∧ σ' 31 = σ5 31 ∧ σ' 32 = σ5 32 ∧ True) ∧ (σ' 33 = .int .i64 (k : Int) ∧ σ' 8 = .bool (chg g ws vs k) ∧ k ≤ ws.length ∧ Ch (fun j => j = wb) w w' ∧ w'.heap[wb]? = some (.cells (wcells (zipTo g ws vs k)) 70 (0, 0)))) (fun k => ws.length - k) (0) ⟨⟨rfl, rfl, rfl, rfl, rfl, trivial⟩, s33, s8, by omega, Ch.weak cd3, by rw [zipTo_zero]; exact cd3.at0 hwd⟩ ?_
  rintro k σ6 w2 ⟨⟨f0, f1, f2, f31, f32, _⟩, s33, s8, hk, hcl, hwk⟩
  have s0 := f0.trans qo2
  have s1 := f1.trans qo3
  have s2 := f2.trans qo4
  have s31 := f31.trans qo5
  have s32 := f32.trans qo6
  have hho : k < ws.length → ∃ cs2, w2.heap[wb2]? = some (.cells cs2 70 (0, 0)) ∧ cs2[k]? = some (bcell (vs.getD k 0)) := fun hkk => by
    rcases hal with hal | ⟨e1, e2⟩
    · exact ⟨_, hcl.at hwd2 (fun e => hal e.symm), wcells_get _ _ (by omega)⟩
    · subst e1; subst e2
      exact ⟨_, hwk, by rw [wcells_get _ _ (by rw [zipTo_len hll]; omega), zipTo_at hll hkk]⟩
  refine W.seq ?_
  refine W.region ?_
  refine WL.x (X.lss (s33) (s32)) rfl ?_
  refine WL.e8 Nx.thn 0 1 2 8 31 32 33 34 (lt rfl (s0)) (lt rfl (s1)) (lt rfl (s2)) (lt rfl (s8)) (lt rfl (s31)) (lt rfl (s32)) (lt rfl (s33)) (lh) ?_
  intro σ7 s0 s1 s2 s8 s31 s32 s33 s34
  refine W.seq ?_
  refine W.cndp s34 (fun hlt => ?_) (fun hlt => ?_)
  · obtain ⟨cs2, ho, hok⟩ := hho (by omega)
    refine W.skip Nx.thn ?_
    refine W.seq ?_
    refine W.block ?_
    refine W.seq ?_
    refine W.region ?_
    refine WL.x (X.mv (s33)) rfl ?_
    refine WL.x (X.indexAddr Tryd.underlying65 el70 (lt rfl (s31)) (lt rfl (s33)) (by omega) (by omega)) rfl ?_
    refine WL.x (X.load pl70 (lh) hwk (v := bcell (ws.getD k 0)) (by rw [show 0 + (k : Int).toNat * 1 = k by omega, wcells_get _ _ (by rw [zipTo_len hll]; omega), zipTo_at hll (by omega)])) rfl ?_
    refine WL.x (X.asg (lt rfl (lt rfl (lh)))) rfl ?_
    refine WL.x (X.asg (lt rfl (lh))) rfl ?_
    refine WL.e9 Nx.thn 0 1 2 8 9 10 31 32 33 (lt rfl (lt rfl (lt rfl (lt rfl (lt rfl (s0)))))) (lt rfl (lt rfl (lt rfl (lt rfl (lt rfl (s1)))))) (lt rfl (lt rfl (lt rfl (lt rfl (lt rfl (s2)))))) (lt rfl (lt rfl (lt rfl (lt rfl (lt rfl (s8)))))) (lt rfl (lh)) (lh) (lt rfl (lt rfl (lt rfl (lt rfl (lt rfl (s31)))))) (lt rfl (lt rfl (lt rfl (lt rfl (lt rfl (s32)))))) (lt rfl (lt rfl (lt rfl (lt rfl (lt rfl (s33)))))) ?_
    intro σ8 s0 s1 s2 s8 s9 s10 s31 s32 s33
    refine W.seq ?_
    refine W.tail 16 mo (by kernel_rfl) ?_
    intro w3 hh9 cd9 dr9
    refine WS.x (X.mv (s0)) rfl ?_
    refine WS.x (X.nilck (lh)) rfl ?_
    refine WS.x (X.fieldAddr fd67_0 (lh)) rfl ?_
    refine WS.x (X.load pl65 (lh) (by first | assumption | exact cd9.at0 (by assumption) | exact cd9.at0 (hcl.at (by assumption) (by intro hne; first | exact hne | ((try dsimp only at hne); omega))) | exact cd9.at0 (hcl.at (cd3.at0 (by assumption)) (by intro hne; first | exact hne | ((try dsimp only at hne); omega)))) (by first | rfl | assumption)) rfl ?_
    refine WS.x (X.mv (lt rfl (lt rfl (lt rfl (lt rfl (s9)))))) rfl ?_
    refine WS.x (X.mv (lt rfl (lt rfl (lt rfl (lt rfl (lt rfl (s2))))))) rfl ?_
    refine WS.x (X.mv (lt rfl (lt rfl (lt rfl (lt rfl (lt rfl (lt rfl (s10)))))))) rfl ?_
    refine WS.x (X.mv (lt rfl (lt rfl (lt rfl (lt rfl (lt rfl (lt rfl (lt rfl (s1))))))))) rfl ?_
    refine WS.x (X.nilck (lh)) rfl ?_
    refine WS.x (X.fieldAddr fd67_0 (lh)) rfl ?_
    refine WS.x (X.load pl65 (lh) (by first | assumption | exact cd9.at0 (by assumption) | exact cd9.at0 (hcl.at (by assumption) (by intro hne; first | exact hne | ((try dsimp only at hne); omega))) | exact cd9.at0 (hcl.at (cd3.at0 (by assumption)) (by intro hne; first | exact hne | ((try dsimp only at hne); omega)))) (by first | rfl | assumption)) rfl ?_
    refine WS.x (X.mv (lt rfl (lt rfl (lt rfl (lt rfl (lt rfl (lt rfl (lt rfl (lt rfl (lt rfl (lt rfl (lt rfl (s9))))))))))))) rfl ?_
    refine WS.x (X.indexAddr Tryd.underlying65 el70 (lt rfl (lh)) (lh) (by omega) (by omega)) rfl ?_
    refine WS.x (X.load pl70 (lh) (cd9.at0 ho) (v := bcell (vs.getD k 0)) (by rw [show 0 + (k : Int).toNat * 1 = k by omega]; exact hok)) rfl ?_
    refine WS.callv2 (caps := []) hcal (lt rfl (lt rfl (lt rfl (lt rfl (lt rfl (lt rfl (lt rfl (lt rfl (lh))))))))) (lt rfl (lt rfl (lt rfl (lt rfl (lt rfl (lt rfl (lt rfl (lh)))))))) (lh) (hf _ _ _) rfl ?_
    refine WS.x (X.indexAddr Tryd.underlying65 el70 (lt rfl (lt rfl (lt rfl (lt rfl (lt rfl (lt rfl (lt rfl (lt rfl (lt rfl (lt rfl (lt rfl (lh)))))))))))) (lt rfl (lt rfl (lt rfl (lt rfl (lt rfl (lt rfl (lt rfl (lt rfl (lt rfl (lt rfl (lh))))))))))) (by omega) (by omega)) rfl ?_
    refine WS.nil ?_
    show WL _ _ _ _ _ _ _
    refine WL.store el70 (lh) (lt rfl (lh)) rfl (cd9.at0 hwk) (by rw [wcells_size, zipTo_len hll]; omega) ?_
    intro w4 us; have hs := us.at_; have cs := us.ch
    have hs : w4.heap[wb]? = some (Obj.cells (wcells (zipTo g ws vs (k + 1))) 70 (0, 0)) := by rw [hs, show 0 + (k : Int).toNat * 1 = k by omega, wcells_set, zipTo_next hll (by omega)]
    refine WL.e9 Nx.thn 0 1 2 8 9 10 31 32 33 (lt rfl (lt rfl (lt rfl (lt rfl (lt rfl (lt rfl (lt rfl (lt rfl (lt rfl (lt rfl (lt rfl (lt rfl (lt rfl (lt rfl (lt rfl (lt rfl (s0))))))))))))))))) (lt rfl (lt rfl (lt rfl (lt rfl (lt rfl (lt rfl (lt rfl (lt rfl (lt rfl (lt rfl (lt rfl (lt rfl (lt rfl (lt rfl (lt rfl (lt rfl (s1))))))))))))))))) (lt rfl (lt rfl (lt rfl (lt rfl (lt rfl (lt rfl (lt rfl (lt rfl (lt rfl (lt rfl (lt rfl (lt rfl (lt rfl (lt rfl (lt rfl (lt rfl (s2))))))))))))))))) (lt rfl (lt rfl (lt rfl (lt rfl (lt rfl (lt rfl (lt rfl (lt rfl (lt rfl (lt rfl (lt rfl (lt rfl (lt rfl (lt rfl (lt rfl (lt rfl (s8))))))))))))))))) (lt rfl (lt rfl (lt rfl (lt rfl (lt rfl (lt rfl (lt rfl (lt rfl (lt rfl (lt rfl (lt rfl (lt rfl (lt rfl (lt rfl (lt rfl (lt rfl (s9))))))))))))))))) (lt rfl (lt rfl (lt rfl (lt rfl (lt rfl (lt rfl (lt rfl (lt rfl (lt rfl (lt rfl (lt rfl (lt rfl (lt rfl (lt rfl (lt rfl (lt rfl (s10))))))))))))))))) (lt rfl (lt rfl (lt rfl (lt rfl (lt rfl (lt rfl (lt rfl (lt rfl (lt rfl (lt rfl (lt rfl (lt rfl (lt rfl (lt rfl (lt rfl (lt rfl (s31))))))))))))))))) (lt rfl (lt rfl (lt rfl (lt rfl (lt rfl (lt rfl (lt rfl (lt rfl (lt rfl (lt rfl (lt rfl (lt rfl (lt rfl (lt rfl (lt rfl (lt rfl (s32))))))))))))))))) (lt rfl (lt rfl (lt rfl (lt rfl (lt rfl (lt rfl (lt rfl (lt rfl (lt rfl (lt rfl (lt rfl (lt rfl (lt rfl (lt rfl (lt rfl (lt rfl (s33))))))))))))))))) ?_
    intro σ9 s0 s1 s2 s8 s9 s10 s31 s32 s33
    refine W.region ?_
    refine WL.x (X.mv (s8)) rfl ?_
    refine WL.x (X.mv (lh)) rfl ?_
    refine WL.split (lh) (fun hch => ?_) (fun hch => ?_)
    · refine WL.no rfl rfl (lh) (hch) rfl ?_
      refine WL.no rfl rfl (lt rfl (lh)) (hch) rfl ?_
      refine WL.no rfl rfl (lt rfl (lt rfl (lh))) (hch) rfl ?_
      refine WL.no rfl rfl (lt rfl (lt rfl (lt rfl (lh)))) (hch) rfl ?_
      refine WL.no rfl rfl (lt rfl (lt rfl (lt rfl (lt rfl (lh))))) (hch) rfl ?_
      refine WL.no rfl rfl (lt rfl (lt rfl (lt rfl (lt rfl (lt rfl (lh)))))) (hch) rfl ?_
      refine WL.no rfl rfl (lt rfl (lt rfl (lt rfl (lt rfl (lt rfl (lt rfl (lh))))))) (hch) rfl ?_
      refine WL.no rfl rfl (lt rfl (lt rfl (lt rfl (lt rfl (lt rfl (lt rfl (lt rfl (lh)))))))) (hch) rfl ?_
      refine WL.no rfl rfl (lt rfl (lt rfl (lt rfl (lt rfl (lt rfl (lt rfl (lt rfl (lt rfl (lh))))))))) (hch) rfl ?_
      refine WL.x (X.pickT (lt rfl (lt rfl (lt rfl (lt rfl (lt rfl (lt rfl (lt rfl (lt rfl (lt rfl (lh)))))))))) (hch) lc) rfl ?_
      refine WL.x (X.asg (lh)) rfl ?_
      refine WL.e7 (Nx.blk Nx.thn) 0 1 2 8 31 32 33 (lt rfl (lt rfl (lt rfl (lt rfl (lt rfl (lt rfl (lt rfl (lt rfl (lt rfl (lt rfl (lt rfl (lt rfl (lt rfl (s0)))))))))))))) (lt rfl (lt rfl (lt rfl (lt rfl (lt rfl (lt rfl (lt rfl (lt rfl (lt rfl (lt rfl (lt rfl (lt rfl (lt rfl (s1)))))))))))))) (lt rfl (lt rfl (lt rfl (lt rfl (lt rfl (lt rfl (lt rfl (lt rfl (lt rfl (lt rfl (lt rfl (lt rfl (lt rfl (s2)))))))))))))) (lh) (lt rfl (lt rfl (lt rfl (lt rfl (lt rfl (lt rfl (lt rfl (lt rfl (lt rfl (lt rfl (lt rfl (lt rfl (lt rfl (s31)))))))))))))) (lt rfl (lt rfl (lt rfl (lt rfl (lt rfl (lt rfl (lt rfl (lt rfl (lt rfl (lt rfl (lt rfl (lt rfl (lt rfl (s32)))))))))))))) (lt rfl (lt rfl (lt rfl (lt rfl (lt rfl (lt rfl (lt rfl (lt rfl (lt rfl (lt rfl (lt rfl (lt rfl (lt rfl (s33)))))))))))))) ?_
      intro σ10 s0 s1 s2 s8 s31 s32 s33
      refine W.region ?_
      first | refine WL.x (X.add (s33) lc (by omega) (by omega)) rfl ?_ | refine WL.x (X.addw (s33) lc) rfl ?_
      refine WL.x (X.mv (lh)) rfl ?_
      refine WL.e7 Nx.thn 0 1 2 8 31 32 33 (lt rfl (lt rfl (s0))) (lt rfl (lt rfl (s1))) (lt rfl (lt rfl (s2))) (lt rfl (lt rfl (s8))) (lt rfl (lt rfl (s31))) (lt rfl (lt rfl (s32))) (lh) ?_
      intro σ11 s0 s1 s2 s8 s31 s32 s33
      refine ⟨k + 1, by first | omega | (dsimp only; omega), ⟨s0.trans qo2.symm, s1.trans qo3.symm, s2.trans qo4.symm, s31.trans qo5.symm, s32.trans qo6.symm, trivial⟩, s33, by rw [chg_succ, hch]; exact s8, by omega, (hcl.trans cd9 (fun _ _ => id) (fun _ _ e => e.elim)).trans cs (fun _ _ => id) (fun _ _ => id), hs⟩
    · refine WL.yes rfl rfl (lh) (hch) ?_
      refine WL.x (X.mv (lt rfl (lt rfl (s0)))) rfl ?_
      refine WL.yes rfl rfl (lt rfl (lh)) (hch) ?_
      refine WL.x (X.nilck (lh)) rfl ?_
      refine WL.yes rfl rfl (lt rfl (lt rfl (lh))) (hch) ?_
      refine WL.x (X.fieldAddr fd67_0 (lh)) rfl ?_
      refine WL.yes rfl rfl (lt rfl (lt rfl (lt rfl (lh)))) (hch) ?_
      refine WL.x (X.load pl65 (lh) (by first | assumption | exact cs.at (by assumption) (by intro hne; first | exact hne | ((try dsimp only at hne); omega)) | exact cs.at (cd9.at0 (by assumption)) (by intro hne; first | exact hne | ((try dsimp only at hne); omega)) | exact cs.at (cd9.at0 (hcl.at (by assumption) (by intro hne; first | exact hne | ((try dsimp only at hne); omega)))) (by intro hne; first | exact hne | ((try dsimp only at hne); omega)) | exact cs.at (cd9.at0 (hcl.at (cd3.at0 (by assumption)) (by intro hne; first | exact hne | ((try dsimp only at hne); omega)))) (by intro hne; first | exact hne | ((try dsimp only at hne); omega))) (by first | rfl | assumption)) rfl ?_
      refine WL.yes rfl rfl (lt rfl (lt rfl (lt rfl (lt rfl (lh))))) (hch) ?_
      refine WL.x (X.mv (lt rfl (lt rfl (lt rfl (lt rfl (lt rfl (lt rfl (s9)))))))) rfl ?_
      refine WL.yes rfl rfl (lt rfl (lt rfl (lt rfl (lt rfl (lt rfl (lh)))))) (hch) ?_
      refine WL.x (X.indexAddr Tryd.underlying65 el70 (lt rfl (lh)) (lh) (by omega) (by omega)) rfl ?_
      refine WL.yes rfl rfl (lt rfl (lt rfl (lt rfl (lt rfl (lt rfl (lt rfl (lh))))))) (hch) ?_
      refine WL.x (X.load pl70 (lh) hs (v := bcell (g (ws.getD k 0) (vs.getD k 0))) (by rw [show 0 + (k : Int).toNat * 1 = k by omega, wcells_get _ _ (by rw [zipTo_len hll]; omega), ← zipTo_next hll (by omega), getD_set (by rw [zipTo_len hll]; omega), if_pos rfl])) rfl ?_
      refine WL.yes rfl rfl (lt rfl (lt rfl (lt rfl (lt rfl (lt rfl (lt rfl (lt rfl (lh)))))))) (hch) ?_
      refine WL.x (X.mv (lt rfl (lt rfl (lt rfl (lt rfl (lt rfl (lt rfl (lt rfl (lt rfl (lt rfl (s10))))))))))) rfl ?_
      refine WL.yes rfl rfl (lt rfl (lt rfl (lt rfl (lt rfl (lt rfl (lt rfl (lt rfl (lt rfl (lh))))))))) (hch) ?_
      refine WL.x (X.neq (lt rfl (lh)) (lh)) rfl ?_
      refine WL.x (X.pickF (lt rfl (lt rfl (lt rfl (lt rfl (lt rfl (lt rfl (lt rfl (lt rfl (lt rfl (lh)))))))))) (hch) (lh)) rfl ?_
      refine WL.x (X.asg (lh)) rfl ?_
      refine WL.e7 (Nx.blk Nx.thn) 0 1 2 8 31 32 33 (lt rfl (lt rfl (lt rfl (lt rfl (lt rfl (lt rfl (lt rfl (lt rfl (lt rfl (lt rfl (lt rfl (lt rfl (lt rfl (s0)))))))))))))) (lt rfl (lt rfl (lt rfl (lt rfl (lt rfl (lt rfl (lt rfl (lt rfl (lt rfl (lt rfl (lt rfl (lt rfl (lt rfl (s1)))))))))))))) (lt rfl (lt rfl (lt rfl (lt rfl (lt rfl (lt rfl (lt rfl (lt rfl (lt rfl (lt rfl (lt rfl (lt rfl (lt rfl (s2)))))))))))))) (lh) (lt rfl (lt rfl (lt rfl (lt rfl (lt rfl (lt rfl (lt rfl (lt rfl (lt rfl (lt rfl (lt rfl (lt rfl (lt rfl (s31)))))))))))))) (lt rfl (lt rfl (lt rfl (lt rfl (lt rfl (lt rfl (lt rfl (lt rfl (lt rfl (lt rfl (lt rfl (lt rfl (lt rfl (s32)))))))))))))) (lt rfl (lt rfl (lt rfl (lt rfl (lt rfl (lt rfl (lt rfl (lt rfl (lt rfl (lt rfl (lt rfl (lt rfl (lt rfl (s33)))))))))))))) ?_
      intro σ12 s0 s1 s2 s8 s31 s32 s33
      refine W.region ?_
      first | refine WL.x (X.add (s33) lc (by omega) (by omega)) rfl ?_ | refine WL.x (X.addw (s33) lc) rfl ?_
      refine WL.x (X.mv (lh)) rfl ?_
      refine WL.e7 Nx.thn 0 1 2 8 31 32 33 (lt rfl (lt rfl (s0))) (lt rfl (lt rfl (s1))) (lt rfl (lt rfl (s2))) (lt rfl (lt rfl (s8))) (lt rfl (lt rfl (s31))) (lt rfl (lt rfl (s32))) (lh) ?_
      intro σ13 s0 s1 s2 s8 s31 s32 s33
      refine ⟨k + 1, by first | omega | (dsimp only; omega), ⟨s0.trans qo2.symm, s1.trans qo3.symm, s2.trans qo4.symm, s31.trans qo5.symm, s32.trans qo6.symm, trivial⟩, s33, by rw [chg_succ, hch, Bool.false_or, ← decide_eq_decide.2 cell_ne]; exact s8, by omega, (hcl.trans cd9 (fun _ _ => id) (fun _ _ e => e.elim)).trans cs (fun _ _ => id) (fun _ _ => id), hs⟩
  · refine W.exit (Nx.xthn (Nx.xthn (Nx.xblk Nx.thn))) ?_
    refine W.seq ?_
    refine W.region ?_
    refine WL.x (X.mv (s8)) rfl ?_
    refine WL.x (X.asg (lh)) rfl ?_
    refine WL.x (X.asg lc) rfl ?_
    refine WL.e2 Nx.thn 6 7 (lt rfl (lh)) (lh) ?_
    intro σ14 s6 s7
    refine W.ret2 Nx.f2 s6 s7 ?_
    have hke : k = ws.length := by omega
    subst hke
    exact ⟨rfl, hcl, by rw [← zipTo_all hll]; exact hwk⟩
theorem with_bounds (b wb n : Nat) (ws : List BV) (b2 wb2 m : Nat) (vs : List BV) (f : Nat) (g : BV → BV → BV) (hcal : Sg.Callee Tryd.prog f) (hf : ∀ x y w, Sg.Ret Tryd.prog f #[bcell x, bcell y] w fun v w' => v = bcell (g x y) ∧ w = w') (w : World) (h : IsSet w b wb n ws) (h2 : IsSet w b2 wb2 m vs) (hnm : n ≠ m) :
    Sg.Ret Tryd.prog 48 #[.pointer (some ⟨b, 0, none⟩), .pointer (some ⟨b2, 0, none⟩), .func (.func f) #[] #[]] w fun v w' => v = .tuple #[.bool false, .int .i64 1] ∧ Dr w w' := by
  have hd := h.hd; have hd2 := h2.hd
  refine enter2 (n := 68) (l := [.pointer (some ⟨b, 0, none⟩), .pointer (some ⟨b2, 0, none⟩), .func (.func f) #[] #[]]) Tryd.func48 rfl rfl rfl rfl ?_
  refine W.g3 0 1 2 (v1 := .pointer (some ⟨b, 0, none⟩)) (v2 := .pointer (some ⟨b2, 0, none⟩)) (v3 := .func (.func f) #[] #[]) rfl rfl rfl ?_; intro σ s0 s1 s2
  refine W.seq ?_
  refine W.region ?_
  refine WL.x (X.asg lc) rfl ?_
  refine WL.x (X.asg lc) rfl ?_
  refine WL.e3 Nx.thn 0 1 2 (lt rfl (lt rfl (s0))) (lt rfl (lt rfl (s1))) (lt rfl (lt rfl (s2))) ?_
  intro σ1 s0 s1 s2
  refine W.seq ?_
  refine W.block ?_
  refine W.seq ?_
  refine W.region ?_
  refine WL.x (X.mv (s0)) rfl ?_
  refine WL.call1 ce33 (lh) (none_made b wb n ws w h) rfl ?_
  rintro _ _ ⟨rfl, rfl⟩
  refine WL.x (X.mv (lh)) rfl ?_
  refine WL.yes rfl rfl (lh) (rfl) ?_
  refine WL.x (X.mv (lt rfl (lt rfl (lt rfl (s1))))) rfl ?_
  refine WL.yes rfl rfl (lt rfl (lh)) (rfl) ?_
  refine WL.call1 ce33 (lh) (none_made b2 wb2 m vs w h2) rfl ?_
  rintro _ _ ⟨rfl, rfl⟩
  refine WL.x (X.pickF (lt rfl (lt rfl (lh))) (rfl) (lh)) rfl ?_
  refine WL.x (X.asg (lh)) rfl ?_
  refine WL.e4 Nx.thn 0 1 2 11 (lt rfl (lt rfl (lt rfl (lt rfl (lt rfl (lt rfl (lt rfl (s0)))))))) (lt rfl (lt rfl (lt rfl (lt rfl (lt rfl (lt rfl (lt rfl (s1)))))))) (lt rfl (lt rfl (lt rfl (lt rfl (lt rfl (lt rfl (lt rfl (s2)))))))) (lh) ?_
  intro σ2 s0 s1 s2 s11
  refine W.cndBF s11 (rfl) ?_
  refine W.seq ?_
  refine W.draw mo (by kernel_rfl) Nx.thn ?_
  refine WQ.x (fun _ => X.mv (s0)) rfl ?_
  refine WQ.x (fun _ => X.nilck (lh)) rfl ?_
  refine WQ.x (fun _ => X.fieldAddr fd67_1 (lh)) rfl ?_
  refine WQ.x (fun _ => X.load pl3 (lh) (by first | assumption) (by first | rfl | assumption)) rfl ?_
  refine WQ.x (fun _ => X.mv (lt rfl (lt rfl (lt rfl (lt rfl (s1)))))) rfl ?_
  refine WQ.x (fun _ => X.nilck (lh)) rfl ?_
  refine WQ.x (fun _ => X.fieldAddr fd67_1 (lh)) rfl ?_
  refine WQ.x (fun _ => X.load pl3 (lh) (by first | assumption) (by first | rfl | assumption)) rfl ?_
  refine WQ.x (fun _ => X.neq (lt rfl (lt rfl (lt rfl (lt rfl (lh))))) (lh)) rfl ?_
  refine WQ.x (fun _ => X.asg (lh)) rfl ?_
  refine WQ.e4 0 1 2 18 (lt rfl (lt rfl (lt rfl (lt rfl (lt rfl (lt rfl (lt rfl (lt rfl (lt rfl (lt rfl (s0))))))))))) (lt rfl (lt rfl (lt rfl (lt rfl (lt rfl (lt rfl (lt rfl (lt rfl (lt rfl (lt rfl (s1))))))))))) (lt rfl (lt rfl (lt rfl (lt rfl (lt rfl (lt rfl (lt rfl (lt rfl (lt rfl (lt rfl (s2))))))))))) (lh) ?_
  intro σ3 s0 s1 s2 s18
  intro _; refine gdrew ?_; intro w1 hh3 cd3 dr3
  refine W.cndY s18 (by omega) ?_
  refine W.seq ?_
  refine W.region ?_
  refine WL.x (X.asg lc) rfl ?_
  refine WL.x (X.asg lc) rfl ?_
  refine WL.e2 Nx.thn 6 7 (lt rfl (lh)) (lh) ?_
  intro σ4 s6 s7
  refine W.ret2 (Nx.rblk (Nx.rthn Nx.f2)) s6 s7 ?_
  exact ⟨rfl, dr3⟩
theorem with_nobody (o : Value) (f : Nat) (w : World) (s : Value) (hs : ∀ w', Ch0 w w' → Sg.Ret Tryd.prog 33 #[s] w' fun v w'' => v = .bool true ∧ w' = w'')  :
    Sg.Ret Tryd.prog 48 #[s, o, .func (.func f) #[] #[]] w fun v w' => v = .tuple #[.bool false, .int .i64 2] ∧ w = w' := by
  refine enter2 (n := 68) (l := [s, o, .func (.func f) #[] #[]]) Tryd.func48 rfl rfl rfl rfl ?_
  refine W.g3 0 1 2 (v1 := s) (v2 := o) (v3 := .func (.func f) #[] #[]) rfl rfl rfl ?_; intro σ s0 s1 s2
  refine W.seq ?_
  refine W.region ?_
  refine WL.x (X.asg lc) rfl ?_
  refine WL.x (X.asg lc) rfl ?_
  refine WL.e3 Nx.thn 0 1 2 (lt rfl (lt rfl (s0))) (lt rfl (lt rfl (s1))) (lt rfl (lt rfl (s2))) ?_
  intro σ1 s0 s1 s2
  refine W.seq ?_
  refine W.block ?_
  refine W.seq ?_
  refine W.region ?_
  refine WL.x (X.mv (s0)) rfl ?_
  refine WL.call1 ce33 (lh) (hs _ (Ch.refl _ _)) rfl ?_
  rintro _ _ ⟨rfl, rfl⟩
  refine WL.x (X.mv (lh)) rfl ?_
  refine WL.no rfl rfl (lh) (rfl) rfl ?_
  refine WL.no rfl rfl (lt rfl (lh)) (rfl) rfl ?_
  refine WL.x (X.pickT (lt rfl (lt rfl (lh))) (rfl) lc) rfl ?_
  refine WL.x (X.asg (lh)) rfl ?_
  refine WL.e4 Nx.thn 0 1 2 11 (lt rfl (lt rfl (lt rfl (lt rfl (lt rfl (lt rfl (lt rfl (s0)))))))) (lt rfl (lt rfl (lt rfl (lt rfl (lt rfl (lt rfl (lt rfl (s1)))))))) (lt rfl (lt rfl (lt rfl (lt rfl (lt rfl (lt rfl (lt rfl (s2)))))))) (lh) ?_
  intro σ2 s0 s1 s2 s11
  refine W.cndT s11 ?_
  refine W.seq ?_
  refine W.region ?_
  refine WL.x (X.asg lc) rfl ?_
  refine WL.x (X.asg lc) rfl ?_
  refine WL.e2 Nx.thn 6 7 (lt rfl (lh)) (lh) ?_
  intro σ3 s6 s7
  refine W.ret2 (Nx.rblk (Nx.rthn Nx.f2)) s6 s7 ?_
  exact ⟨rfl, rfl⟩
theorem with_nobody2 (f : Nat) (b wb n : Nat) (ws : List BV) (w : World) (s : Value) (hs : ∀ w', Ch0 w w' → Sg.Ret Tryd.prog 33 #[s] w' fun v w'' => v = .bool true ∧ w' = w'') (h : IsSet w b wb n ws) :
    Sg.Ret Tryd.prog 48 #[.pointer (some ⟨b, 0, none⟩), s, .func (.func f) #[] #[]] w fun v w' => v = .tuple #[.bool false, .int .i64 2] ∧ w = w' := by
  refine enter2 (n := 68) (l := [.pointer (some ⟨b, 0, none⟩), s, .func (.func f) #[] #[]]) Tryd.func48 rfl rfl rfl rfl ?_
  refine W.g3 0 1 2 (v1 := .pointer (some ⟨b, 0, none⟩)) (v2 := s) (v3 := .func (.func f) #[] #[]) rfl rfl rfl ?_; intro σ s0 s1 s2
  refine W.seq ?_
  refine W.region ?_
  refine WL.x (X.asg lc) rfl ?_
  refine WL.x (X.asg lc) rfl ?_
  refine WL.e3 Nx.thn 0 1 2 (lt rfl (lt rfl (s0))) (lt rfl (lt rfl (s1))) (lt rfl (lt rfl (s2))) ?_
  intro σ1 s0 s1 s2
  refine W.seq ?_
  refine W.block ?_
  refine W.seq ?_
  refine W.region ?_
  refine WL.x (X.mv (s0)) rfl ?_
  refine WL.call1 ce33 (lh) (none_made b wb n ws w h) rfl ?_
  rintro _ _ ⟨rfl, rfl⟩
  refine WL.x (X.mv (lh)) rfl ?_
  refine WL.yes rfl rfl (lh) (rfl) ?_
  refine WL.x (X.mv (lt rfl (lt rfl (lt rfl (s1))))) rfl ?_
  refine WL.yes rfl rfl (lt rfl (lh)) (rfl) ?_
  refine WL.call1 ce33 (lh) (hs _ (Ch.refl _ _)) rfl ?_
  rintro _ _ ⟨rfl, rfl⟩
  refine WL.x (X.pickF (lt rfl (lt rfl (lh))) (rfl) (lh)) rfl ?_
  refine WL.x (X.asg (lh)) rfl ?_
  refine WL.e4 Nx.thn 0 1 2 11 (lt rfl (lt rfl (lt rfl (lt rfl (lt rfl (lt rfl (lt rfl (s0)))))))) (lt rfl (lt rfl (lt rfl (lt rfl (lt rfl (lt rfl (lt rfl (s1)))))))) (lt rfl (lt rfl (lt rfl (lt rfl (lt rfl (lt rfl (lt rfl (s2)))))))) (lh) ?_
  intro σ2 s0 s1 s2 s11
  refine W.cndBT s11 (rfl) ?_
  refine W.seq ?_
  refine W.region ?_
  refine WL.x (X.asg lc) rfl ?_
  refine WL.x (X.asg lc) rfl ?_
  refine WL.e2 Nx.thn 6 7 (lt rfl (lh)) (lh) ?_
  intro σ3 s6 s7
  refine W.ret2 (Nx.rblk (Nx.rthn Nx.f2)) s6 s7 ?_
  exact ⟨rfl, rfl⟩

theorem zipw_get {g : BV → BV → BV} {ws vs : List BV} (h : ws.length = vs.length) (hg : g 0 0 = 0) (i : Nat) : (List.zipWith g ws vs).getD i 0 = g (ws.getD i 0) (vs.getD i 0) := by
  simp only [List.getD_eq_getElem?_getD]
  by_cases hi : i < ws.length
  · rw [List.getElem?_eq_getElem (show i < (List.zipWith g ws vs).length by simp; omega), List.getElem?_eq_getElem hi, List.getElem?_eq_getElem (show i < vs.length by omega)]
    simp
  · rw [List.getElem?_eq_none (by simp; omega), List.getElem?_eq_none (by omega), List.getElem?_eq_none (by omega)]
    exact hg.symm
theorem zip_set {w w' : World} {b wb n b2 wb2 : Nat} {ws vs : List BV} {g : BV → BV → BV} (p : Bool → Bool → Bool) (hg : ∀ x y j, (g x y).getLsbD j = p (x.getLsbD j) (y.getLsbD j)) (hp : p false false = false) (h00 : g 0 0 = 0)
    (h : IsSet w b wb n ws) (h2 : IsSet w b2 wb2 n vs) (c : Ch (fun k => k = wb) w w') (hc : w'.heap[wb]? = some (.cells (wcells (List.zipWith g ws vs)) 70 (0, 0))) :
    IsSet w' b wb n (List.zipWith g ws vs) ∧ ∀ j, mem (List.zipWith g ws vs) j = p (mem ws j) (mem vs j) := by
  have hll : ws.length = vs.length := by rw [h.len, h2.len]
  have hm : ∀ j, mem (List.zipWith g ws vs) j = p (mem ws j) (mem vs j) := fun j => by
    unfold mem; rw [zipw_get hll h00, hg]
  have hlen : (List.zipWith g ws vs).length = ws.length := by simp; omega
  refine ⟨⟨by rw [hlen]; exact c.at h.hd h.ne, hc, by rw [hlen]; exact h.len, h.le, fun i hi => by rw [hm, h.clean i hi, h2.clean i hi, hp]⟩, hm⟩
theorem chg_all {g : BV → BV → BV} {ws vs : List BV} (h : ws.length = vs.length) : chg g ws vs ws.length = decide (List.zipWith g ws vs ≠ ws) := by
  rw [Bool.eq_iff_iff, decide_eq_true_iff]
  unfold chg
  rw [List.any_eq_true]
  constructor
  · rintro ⟨i, hi, hne⟩ e
    have hi := List.mem_range.1 hi
    have := of_decide_eq_true hne
    refine this ?_
    have h1 : (List.zipWith g ws vs)[i]? = ws[i]? := by rw [e]
    rw [List.getElem?_eq_getElem (show i < (List.zipWith g ws vs).length by simp; omega), List.getElem?_eq_getElem hi] at h1
    simp only [List.getElem_zipWith, Option.some.injEq] at h1
    simp only [List.getD_eq_getElem?_getD, List.getElem?_eq_getElem hi, List.getElem?_eq_getElem (show i < vs.length by omega), Option.getD_some]
    exact h1
  · intro e
    refine Classical.byContradiction fun hno => e ?_
    refine List.ext_getElem (by simp; omega) fun i h1 h2 => ?_
    refine Classical.byContradiction fun hne => hno ⟨i, List.mem_range.2 h2, ?_⟩
    refine decide_eq_true ?_
    simp only [List.getElem_zipWith] at hne
    simp only [List.getD_eq_getElem?_getD, List.getElem?_eq_getElem h2, List.getElem?_eq_getElem (show i < vs.length by omega), Option.getD_some]
    exact hne

theorem or_any (b wb n : Nat) (ws : List BV) (b2 wb2 : Nat) (vs : List BV) (w : World) (h : IsSet w b wb n ws) (h2 : IsSet w b2 wb2 n vs) (hne : b2 ≠ wb) (hal : wb ≠ wb2 ∨ (wb = wb2 ∧ ws = vs)) :
    Sg.Ret Tryd.prog 45 #[.pointer (some ⟨b, 0, none⟩), .pointer (some ⟨b2, 0, none⟩)] w fun v w' => ∃ ws', v = .tuple #[.bool (decide (ws' ≠ ws)), .int .i64 0] ∧ IsSet w' b wb n ws' ∧ (∀ j, mem ws' j = (mem ws j || mem vs j)) ∧ Ch (fun k => k = wb) w w' := by
  have hll : ws.length = vs.length := by rw [h.len, h2.len]
  refine enter2 (n := 11) (l := [.pointer (some ⟨b, 0, none⟩), .pointer (some ⟨b2, 0, none⟩)]) Tryd.func45 rfl rfl rfl rfl ?_
  refine W.g2 0 1 (v1 := .pointer (some ⟨b, 0, none⟩)) (v2 := .pointer (some ⟨b2, 0, none⟩)) rfl rfl ?_; intro σ s0 s1
  refine W.seq ?_
  refine W.region ?_
  refine WL.x (X.asg lc) rfl ?_
  refine WL.x (X.asg lc) rfl ?_
  refine WL.e2 Nx.thn 0 1 (lt rfl (lt rfl (s0))) (lt rfl (lt rfl (s1))) ?_
  intro σ1 s0 s1
  refine W.seq ?_
  refine W.region ?_
  refine WL.x (X.mv (s0)) rfl ?_
  refine WL.x (X.mv (lt rfl (s1))) rfl ?_
  refine WL.call3 ce48 (lt rfl (lh)) (lh) lf (with_ok b wb n ws b2 wb2 n vs 49 (fun x y => x ||| y) ce49 (fun x y w => or_fn x y w) w h h2 rfl hne hal) rfl ?_
  rintro _ w1 ⟨rfl, cw, hcw⟩
  rw [chg_all hll]
  refine WL.x (X.ex2_0 (lh)) rfl ?_
  refine WL.x (X.ex2_1 (lt rfl (lh))) rfl ?_
  refine WL.x (X.asg (lt rfl (lh))) rfl ?_
  refine WL.x (X.asg (lt rfl (lh))) rfl ?_
  refine WL.e2 Nx.thn 4 5 (lt rfl (lh)) (lh) ?_
  intro σ2 s4 s5
  refine W.ret2 Nx.f2 s4 s5 ?_
  have hz := zip_set (fun x y => x || y) (fun x y j => BitVec.getLsbD_or) rfl rfl h h2 cw hcw
  exact ⟨_, rfl, hz.1, hz.2, cw⟩
end Go.Proofs.YtaldkbdnefpklaaDoor
