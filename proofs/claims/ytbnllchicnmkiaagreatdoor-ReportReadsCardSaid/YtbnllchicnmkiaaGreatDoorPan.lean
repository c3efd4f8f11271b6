/-
  Functions that may give up by panic.
-/
import Derived.Test.YtbnllchicnmkiaaGreatDoorMem3
namespace Sg
open Go Go.RowKit
section
variable {P : Program} {n : Sz} {Q : Post} {σ : Env} {w : World} {ops rest : List Oper}
/-- The call returns, or gives up with one value. -/
def RetP (P : Program) (f : FuncId) (args : Array Value) (w : World) (R E : Value → World → Prop) : Prop :=
  Calls P f args w fun e w' => (∃ v, e = .returned v ∧ R v w') ∨ (∃ v, e = .panicked [{ v, recovered := false }] ∧ E v w')
theorem RetP.mono {f : FuncId} {args : Array Value} {R R' E E' : Value → World → Prop} (h : RetP P f args w R E) (hr : ∀ v w', R v w' → R' v w') (he : ∀ v w', E v w' → E' v w') : RetP P f args w R' E' :=
  Calls.mono h fun _ _ hh => by
    rcases hh with ⟨v, h1, h2⟩ | ⟨v, h1, h2⟩
    · exact .inl ⟨v, h1, hr _ _ h2⟩
    · exact .inr ⟨v, h1, he _ _ h2⟩
theorem Ret.p {f : FuncId} {args : Array Value} {R E : Value → World → Prop} (h : Ret P f args w R) : RetP P f args w R E := Calls.mono h fun _ _ hh => .inl hh
/-- A walk's end, and the end by panic. -/
def pan (E : Value → World → Prop) (F : Post) : Post
  | .panic c, _, w => ∃ v, c = [{ v, recovered := false }] ∧ E v w
  | e, σ, w => F e σ w
end
section
variable {P : Program} {n : Sz} {Q : Post} {σ : Env} {w : World} {ops : Array Oper} {rest : List Oper}
theorem WL.enterP {o : Oper} {d f : Nat} {args : Array Value} {R E : Value → World → Prop} (hg : o.guard = none) (hd : o.dst = some d) (hn : Nat.blt d n.sz = true)
    (hx : (execOp (ev σ) o).run P w = .ok (.enter f args) w) (hr : RetP P f args w R E) (hp : ∀ v w', E v w' → Q (.panic [{ v, recovered := false }]) σ w') (h : ∀ v w', R v w' → WL P n ops Q rest (up σ d v) w') : WL P n ops Q (o :: rest) σ w := by
  intro a ha
  unfold wpList
  rw [if_pos (by simp [Region.wanted, hg])]
  refine .inl ?_
  unfold Oper.wp
  rw [ha.eval, hx, Oper.upon_enter]
  refine Calls.mono hr ?_
  rintro e w' (⟨v, rfl, hR⟩ | ⟨v, rfl, hE⟩)
  · simp only [hd]
    exact h v w' hR _ (ha.put hn)
  · exact ⟨σ, ha, hp v w' hE⟩
end
section
variable {P : Program} {n : Sz} {w : World} {f : Nat} {fn : Func} {c : Code} {l : List Value} {R E : Value → World → Prop}
theorem enter_finP (F : Post) (hf : P.funcs[f]? = some fn) (hb : fn.body = some c) (hm : (⟨fn.ntmps, []⟩ : Sz) = n) (hl : Nat.ble l.length n.sz = true)
    (hF : ∀ e a σ w, Sees a n σ → F e σ w → bodyPost P fn (fun e w' => ∃ v, e = .returned v ∧ R v w') e a w)
    (h : W P n c (pan E F) (env0 l) w) : RetP P f l.toArray w R E := by
  refine calls_of_wp hf hb ?_
  subst hm
  refine wp_mono (h _ (sees_enter hl)) ?_
  rintro e a' w' ⟨σ', hs, hq⟩
  have key : ∀ e, F e σ' w' → (∀ c, e ≠ .panic c) → bodyPost P fn (fun e w' => (∃ v, e = .returned v ∧ R v w') ∨ (∃ v, e = .panicked [{ v, recovered := false }] ∧ E v w')) e a' w' := fun e hq hne => by
    have := hF e a' σ' w' hs hq
    cases e with
    | normal => exact ⟨this.1, this.2.elim fun v hv => ⟨v, hv.1, .inl hv.2⟩⟩
    | ret => exact ⟨this.1, this.2.elim fun v hv => ⟨v, hv.1, .inl hv.2⟩⟩
    | panic c => exact absurd rfl (hne c)
    | outgrown => obtain ⟨v, hv, _⟩ := this; cases hv
    | exit i => exact this.elim
    | goto i => exact this.elim
  cases e with
  | panic c => obtain ⟨v, rfl, hE⟩ := hq; exact ⟨hs.defers.trans (by first | rfl | rw [← hm]), .inr ⟨v, rfl, hE⟩⟩
  | normal => exact key _ hq (fun _ h => by cases h)
  | ret => exact key _ hq (fun _ h => by cases h)
  | outgrown => exact key _ hq (fun _ h => by cases h)
  | exit i => exact key _ hq (fun _ h => by cases h)
  | goto i => exact key _ hq (fun _ h => by cases h)
end
section
variable {P : Program} {w : World} {σ : Env} {t xt : TypeId} {x : Operand} {b o : Nat}
/-- x[l:] of an array. -/
theorem X.slArrL {e : TypeId} {z : Value} {bytes size len : Nat} {kl : IntKind} {l : Int} {lo : Operand} (hs : P.underlying xt = some (.array len e)) (he : Elem P e size z bytes) (hx : ev σ x = .pointer (some ⟨b, o, none⟩))
    (h1 : ev σ lo = .int kl l) (g0 : 0 ≤ l) (g1 : l < len) : X P σ w (.slice xt x (some lo) none none) t (.slice (some ⟨b, o + l.toNat * size, none⟩) (len - l).toNat (len - l).toNat) := fun _ _ _ _ => by
  obtain ⟨i, hi', rfl, _⟩ := he
  have hb : (Instr.sliceBounds false len len (some (.int kl l)) none none).run P w = .ok (l.toNat, len, len) w := by
    simp [Instr.sliceBounds, run_sliceBound (P := P) w kl l len _ (by omega) (by omega)]
  have e1 : len - l.toNat = (len - l).toNat := by omega
  have e3 : ¬ len = l.toNat := by omega
  have e4 : (⟨b, o, none⟩ : Addr).add (l.toNat * i.size) = ⟨b, o + l.toNat * i.size, none⟩ := by unfold Addr.add; split <;> simp_all
  simp [execOp, hx, h1, Instr.sliceAt, Instr.sureAddr, run_underlying hs, hb, Go.sizeOf, typeInfo, hi', e1, e3, e4]
end
section
variable {P : Program} {w : World} {σ : Env} {t xt : TypeId} {x : Operand} {b o : Nat}
/-- x[:] of an array. -/
theorem X.slArr {e : TypeId} {z : Value} {bytes size len : Nat} (hs : P.underlying xt = some (.array len e)) (he : Elem P e size z bytes) (hx : ev σ x = .pointer (some ⟨b, o, none⟩)) :
    X P σ w (.slice xt x none none none) t (.slice (some ⟨b, o, none⟩) len len) := fun _ _ _ _ => by
  obtain ⟨i, hi', rfl, _⟩ := he
  have hb : (Instr.sliceBounds false len len none none none).run P w = .ok (0, len, len) w := by
    simp [Instr.sliceBounds]
  have e4 : (⟨b, o, none⟩ : Addr).add 0 = ⟨b, o, none⟩ := by unfold Addr.add; split <;> simp_all
  simp [execOp, hx, Instr.sliceAt, Instr.sureAddr, run_underlying hs, hb, Go.sizeOf, typeInfo, hi', e4]
end
/-! ### Calls that may give up -/
section
variable {P : Program} {n : Sz} {Q : Post} {σ : Env} {w : World} {ops : Array Oper} {rest : List Oper} {f d : Nat} {tys : Array TypeId} {t : TypeId} {pos : String} {af : Array Edge} {R E : Value → World → Prop}
theorem WL.callP0 (hc : Callee P f) (hr : RetP P f #[] w R E) (hn : Nat.blt d n.sz = true) (hp : ∀ v w', E v w' → Q (.panic [{ v, recovered := false }]) σ w')
    (h : ∀ v w', R v w' → WL P n ops Q rest (up σ d v) w') : WL P n ops Q (⟨some d, .call ⟨.value (.func f), #[], tys⟩, t, pos, af, none⟩ :: rest) σ w :=
  WL.enterP rfl rfl hn (exec_call (xs := []) hc rfl) hr hp h
theorem WL.callP1 {x1 : Operand} {v1 : Value} (hc : Callee P f) (h1 : ev σ x1 = v1) (hr : RetP P f #[v1] w R E) (hn : Nat.blt d n.sz = true) (hp : ∀ v w', E v w' → Q (.panic [{ v, recovered := false }]) σ w')
    (h : ∀ v w', R v w' → WL P n ops Q rest (up σ d v) w') : WL P n ops Q (⟨some d, .call ⟨.value (.func f), #[x1], tys⟩, t, pos, af, none⟩ :: rest) σ w :=
  WL.enterP rfl rfl hn (exec_call (xs := [x1]) (vs := [v1]) hc (by simp [h1])) hr hp h
theorem WL.callP2 {x1 x2 : Operand} {v1 v2 : Value} (hc : Callee P f) (h1 : ev σ x1 = v1) (h2 : ev σ x2 = v2) (hr : RetP P f #[v1, v2] w R E) (hn : Nat.blt d n.sz = true) (hp : ∀ v w', E v w' → Q (.panic [{ v, recovered := false }]) σ w')
    (h : ∀ v w', R v w' → WL P n ops Q rest (up σ d v) w') : WL P n ops Q (⟨some d, .call ⟨.value (.func f), #[x1, x2], tys⟩, t, pos, af, none⟩ :: rest) σ w :=
  WL.enterP rfl rfl hn (exec_call (xs := [x1, x2]) (vs := [v1, v2]) hc (by simp [h1, h2])) hr hp h
theorem WL.callP3 {x1 x2 x3 : Operand} {v1 v2 v3 : Value} (hc : Callee P f) (h1 : ev σ x1 = v1) (h2 : ev σ x2 = v2) (h3 : ev σ x3 = v3) (hr : RetP P f #[v1, v2, v3] w R E) (hn : Nat.blt d n.sz = true) (hp : ∀ v w', E v w' → Q (.panic [{ v, recovered := false }]) σ w')
    (h : ∀ v w', R v w' → WL P n ops Q rest (up σ d v) w') : WL P n ops Q (⟨some d, .call ⟨.value (.func f), #[x1, x2, x3], tys⟩, t, pos, af, none⟩ :: rest) σ w :=
  WL.enterP rfl rfl hn (exec_call (xs := [x1, x2, x3]) (vs := [v1, v2, v3]) hc (by simp [h1, h2, h3])) hr hp h
/-- Giving up. -/
theorem WL.panic {x : Operand} {ty : TypeId} {u : Value} {g : Option Tmp} (hx : ev σ x = .iface ty u) (h : Q (.panic [{ v := .iface ty u, recovered := false }]) σ w) : WL P n ops Q (⟨g, .panic x, t, pos, af, none⟩ :: rest) σ w := by
  intro a ha
  unfold wpList
  rw [if_pos (by simp [Region.wanted])]
  refine .inl ?_
  unfold Oper.wp
  have he : (execOp (ev σ) ⟨g, .panic x, t, pos, af, none⟩).run P w = .halt (.panic (.iface ty u)) w := by
    simp [execOp, hx, Instr.panic]
  rw [ha.eval, he, Oper.upon_panic]
  exact ⟨σ, ha, h⟩
end
/-! ### Entering -/
section
variable {P : Program} {n : Sz} {w : World} {f : Nat} {fn : Func} {c : Code} {l : List Value} {R E : Value → World → Prop}
theorem enterP0 (hf : P.funcs[f]? = some fn) (hb : fn.body = some c) (hm : (⟨fn.ntmps, []⟩ : Sz) = n) (hl : Nat.ble l.length n.sz = true) (hr : fn.results = #[])
    (h : W P n c (pan E (fin0 R)) (env0 l) w) : RetP P f l.toArray w R E := by
  refine enter_finP _ hf hb hm hl ?_ h
  intro e a σ w hs hq
  cases e <;> first | exact hq.elim | exact ⟨hs.defers.trans (by first | rfl | rw [← hm]), _, results_none hr _ _ _, _, rfl, hq⟩
theorem enterP1 {t : Nat} (hf : P.funcs[f]? = some fn) (hb : fn.body = some c) (hm : (⟨fn.ntmps, []⟩ : Sz) = n) (hl : Nat.ble l.length n.sz = true) (hr : fn.results = #[.tmp t])
    (h : W P n c (pan E (fin1 t R)) (env0 l) w) : RetP P f l.toArray w R E := by
  refine enter_finP _ hf hb hm hl ?_ h
  intro e a σ w hs hq
  cases e <;> first | exact hq.elim | exact ⟨hs.defers.trans (by first | rfl | rw [← hm]), _, results_tmp hr _ _ _, _, rfl, by rw [hs.get]; exact hq⟩
theorem enterP2 {t u : Nat} (hf : P.funcs[f]? = some fn) (hb : fn.body = some c) (hm : (⟨fn.ntmps, []⟩ : Sz) = n) (hl : Nat.ble l.length n.sz = true) (hr : fn.results = #[.tmp t, .tmp u])
    (h : W P n c (pan E (fin2 t u R)) (env0 l) w) : RetP P f l.toArray w R E := by
  refine enter_finP _ hf hb hm hl ?_ h
  intro e a σ w hs hq
  cases e <;> first | exact hq.elim | exact ⟨hs.defers.trans (by first | rfl | rw [← hm]), _, results_tmp2 hr _ _ _, _, rfl, by rw [hs.get, hs.get]; exact hq⟩
theorem enterPG {rs : List ResultVar} (hf : P.funcs[f]? = some fn) (hb : fn.body = some c) (hm : (⟨fn.ntmps, []⟩ : Sz) = n) (hl : Nat.ble l.length n.sz = true) (hr : fn.results = rs.toArray)
    (h : W P n c (pan E (finG P rs R)) (env0 l) w) : RetP P f l.toArray w R E := by
  refine enter_finP _ hf hb hm hl ?_ h
  intro e a σ w hs hq
  have key : (∃ vs, Rs P σ w rs vs ∧ R (oneOf vs) w) → ∃ v, (results fn a.tmps).run P w = .ok v w ∧ ∃ v', Ending.returned v = .returned v' ∧ R v' w := by
    rintro ⟨vs, hv, hR⟩
    refine ⟨oneOf vs, ?_, _, rfl, hR⟩
    have hm := run_results hv
    have hfun : results fn a.tmps = (do let vs ← fn.results.mapM (m := Sem) (resS σ); pure (if h : vs.size = 1 then vs[0] else .tuple vs)) := by
      unfold results
      congr 1
      congr 1
      funext r
      cases r <;> simp only [resS, hs.get]
    rw [hfun, hr, Array.mapM_eq_mapM_toList]
    simp only [Sem.run_bind, Sem.run_map, hm, Result.andThen_ok, Sem.run_pure]
    congr 1
    match vs with
    | [] => rfl
    | [v] => rfl
    | _ :: _ :: _ => rfl
  cases e <;> first | exact hq.elim | exact ⟨hs.defers.trans (by first | rfl | rw [← hm]), key hq⟩
theorem Nx.panN {F : Post} {K : Env → World → Prop} (h : Nx F .normal K) : Nx (pan E F) .normal K := h
theorem Nx.panR {F : Post} {K : Env → World → Prop} (h : Nx F .ret K) : Nx (pan E F) .ret K := h
end
end Sg
