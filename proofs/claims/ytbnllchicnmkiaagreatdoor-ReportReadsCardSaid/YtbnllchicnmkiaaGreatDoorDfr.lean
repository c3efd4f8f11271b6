/-
  Functions that put a call off (defer): over the lib that dlib.py has turned (n: how many temporaries, and what is put off).
-/
import Derived.Test.YtbnllchicnmkiaaGreatDoorPan
import Derived.Defers
import Derived.Recover
namespace Sg
open Go Go.RowKit
section
variable {P : Program} {n : Sz} {σ : Env} {w : World} {F : Exit → Act → World → Prop}
/-- A walk whose end is told of the act itself. -/
def WX (P : Program) (n : Sz) (c : Code) (F : Exit → Act → World → Prop) (σ : Env) (w : World) : Prop := ∀ a, Sees a n σ → c.wp P F a w
def thnX (P : Program) (n : Sz) (c : Code) (F : Exit → Act → World → Prop) : Post
  | .normal, σ, w => WX P n c F σ w
  | e, σ, w => ∀ a, Sees a n σ → F e a w
theorem WX.seq {c1 c2 : Code} (h : W P n c1 (thnX P n c2 F) σ w) : WX P n (.seq c1 c2) F σ w := fun a ha => by
  refine wp_seq (wp_mono (h a ha) ?_)
  rintro e a' w' ⟨σ', hs, hq⟩
  cases e <;> exact hq a' hs
theorem WX.of {c : Code} {Q : Post} (h : W P n c Q σ w) (hQ : ∀ e σ' w' a', Sees a' n σ' → Q e σ' w' → F e a' w') : WX P n c F σ w := fun a ha => by
  refine wp_mono (h a ha) ?_
  rintro e a' w' ⟨σ', hs, hq⟩
  exact hQ e σ' w' a' hs hq
/-- A region, one behind the other, to an end that is told of the act. -/
def WLX (P : Program) (n : Sz) (ops : Array Oper) (F : Exit → Act → World → Prop) (l : List Oper) (σ : Env) (w : World) : Prop := ∀ a, Sees a n σ → wpList P ops F l a w
theorem WX.region {id : Nat} {l : List Oper} (h : WLX P n l.toArray F l σ w) : WX P n (.region id l.toArray false) F σ w := fun a ha => wp_region_lit (h a ha)
theorem WX.seqR {id : Nat} {l : List Oper} {c2 : Code} (h : WLX P n l.toArray (Exit.then (c2.wp P F) F) l σ w) : WX P n (.seq (.region id l.toArray false) c2) F σ w := fun a ha => wp_seq (wp_region_lit (h a ha))
variable {ops : Array Oper} {rest : List Oper} {d : Nat} {op : Op} {t : TypeId} {pos : String} {af : Array Edge} {v : Value}
theorem WLX.x (hx : X P σ w op t v) (hn : Nat.blt d n.sz = true) (h : WLX P n ops F rest (up σ d v) w) : WLX P n ops F (⟨some d, op, t, pos, af, none⟩ :: rest) σ w := by
  intro a ha
  unfold wpList
  rw [if_pos (by simp [Region.wanted])]
  refine .inl ?_
  unfold Oper.wp
  rw [ha.eval, hx, Oper.upon_value]
  exact h _ (ha.put hn)
theorem WLX.defer {o : Oper} {df : Deferred} (hg : o.guard = none) (hd : o.dst = none) (hx : (execOp (ev σ) o).run P w = .ok (.defer df) w) (h : WLX P ⟨n.sz, df :: n.ds⟩ ops F rest σ w) : WLX P n ops F (o :: rest) σ w := by
  intro a ha
  unfold wpList
  rw [if_pos (by simp [Region.wanted, hg])]
  refine .inl ?_
  unfold Oper.wp
  rw [ha.eval, hx, Oper.upon_defer, hd]
  exact h _ ⟨by simp [Act.put, ha.size], fun t => by simp only [Act.put]; exact ha.get t, by simp only [Act.put, ha.defers]⟩
theorem WLX.nil (h : ∀ a, Sees a n σ → F .normal a w) : WLX P n ops F [] σ w := fun a ha => h a ha
end
section
variable {P : Program} {n : Sz} {w : World} {f : Nat} {fn : Func} {c : Code} {l : List Value} {R : Ending → World → Prop}
theorem enterX (hf : P.funcs[f]? = some fn) (hb : fn.body = some c) (hm : (⟨fn.ntmps, []⟩ : Sz) = n) (hl : Nat.ble l.length n.sz = true) (h : WX P n c (bodyPostD P fn R) (env0 l) w) : Calls P f l.toArray w R := by
  refine calls_of_wp_defers hf hb ?_
  subst hm
  exact h _ (sees_enter hl)
end
/-! ### A deferred function that looks for a panic first -/
/-- What recover hands back, and how its caller goes on. -/
def recOf : FrameMode → Value × FrameMode
  | .panicking ({ v, recovered := false, goexit := false } :: older) => (v, .panicking ({ v, recovered := true } :: older))
  | u => (.nilIface, u)
section
variable {P : Program} {w : World} {f d1 d2 : Nat} {fn : Func} {c2 : Code} {l : List Value} {R : Ending → FrameMode → World → Prop} {u : FrameMode}
theorem recoverD_of (c₀ : Frame) (cs : List Frame) (hu : c₀.mode = u) : (match recoverD (c₀ :: cs) with | some (v, cs') => (v, cs') | none => (.nilIface, c₀ :: cs)) = ((recOf u).1, { c₀ with mode := (recOf u).2 } :: cs) := by
  obtain ⟨cfn, ct, ctodo, cd, cm, ck, cr⟩ := c₀
  have hu : cm = u := hu
  subst hu
  cases cm with
  | panicking chain =>
    cases chain with
    | nil => rfl
    | cons en older =>
      obtain ⟨v, r, g⟩ := en
      cases r <;> cases g <;> rfl
  | _ => rfl
theorem enterRec {id : Nat} {t1 t2 : TypeId} {p1 p2 : String} {af1 af2 : Array Edge} {tys : Array TypeId} (hf : P.funcs[f]? = some fn)
    (hb : fn.body = some (.seq (.region id #[⟨some d1, .call ⟨.builtin .recover, #[], tys⟩, t1, p1, af1, none⟩, ⟨some d2, .assign (.tmp d1), t2, p2, af2, none⟩] false) c2))
    (hl : Nat.ble l.length fn.ntmps = true) (h1 : Nat.blt d1 fn.ntmps = true) (h2 : Nat.blt d2 fn.ntmps = true) (hr : fn.results = #[])
    (h : W P ⟨fn.ntmps, []⟩ c2 (fin0 fun v w' => R (.returned v) (recOf u).2 w') (up (up (env0 l) d1 (recOf u).1) d2 (recOf u).1) w) : CallsD P f l.toArray u w R := by
  refine callsD_of_wpS hf hb ?_
  intro c₀ cs hu
  refine wpS_seq (wpS_region ?_)
  have hs0 := sees_enter (l := l) (m := fn.ntmps) hl
  have hrec := recoverD_of c₀ cs hu
  generalize ha : ({ tmps := l.toArray ++ Array.replicate (fn.ntmps - l.toArray.size) undef, defers := [] } : Act) = a at hs0
  have hsz : l.toArray.size = l.length := rfl
  have hs1 := hs0.put (v := (recOf u).1) h1
  have hs2 := hs1.put (v := (recOf u).1) h2
  have goal2 : ∀ (cs' : List Frame), cs' = { c₀ with mode := (recOf u).2 } :: cs → wpOpsS P #[⟨some d1, .call ⟨.builtin .recover, #[], tys⟩, t1, p1, af1, none⟩, ⟨some d2, .assign (.tmp d1), t2, p2, af2, none⟩] (Exit.thenS (c2.wpS P (bodyPostS P fn c₀ cs R)) (bodyPostS P fn c₀ cs R)) [1] (a.put (some d1) (recOf u).1) cs' w := by
    rintro cs' rfl
    have he : (execOp (a.put (some d1) (recOf u).1).eval ⟨some d2, .assign (.tmp d1), t2, p2, af2, none⟩).run P w = .ok (.value (recOf u).1) w := by
      rw [hs1.eval]
      have : ev (up (env0 l) d1 (recOf u).1) (.tmp d1) = (recOf u).1 := by simp [ev, up]
      simp [execOp, this]
    unfold wpOpsS
    simp only [List.getElem?_toArray, List.getElem?_cons_succ, List.getElem?_cons_zero]
    rw [if_pos (by simp [Region.wanted]), he]
    simp only [Oper.upon_value]
    unfold wpOpsS
    show c2.wpS P _ _ _ _
    refine wpS_of_wp (wp_mono (h _ hs2) ?_)
    rintro e a' w' ⟨σ', hs, hq⟩
    cases e <;> first | exact hq.elim | exact ⟨hs.defers.trans (by first | rfl | rw [← hm]), _, rfl, _, results_none hr _ _ _, hq⟩
  show wpOpsS P _ _ (List.range 2) _ _ _
  rw [show List.range 2 = [0, 1] from rfl]
  unfold wpOpsS
  simp only [List.getElem?_toArray, List.getElem?_cons_zero]
  rw [if_pos (by simp [Region.wanted])]
  have he0 : ∀ (e : Operand → Value), (execOp e ⟨some d1, .call ⟨.builtin .recover, #[], tys⟩, t1, p1, af1, none⟩).run P w = .ok .recover w := fun e => by simp [execOp, resolve, invoke, builtin]
  rw [he0]
  simp only
  cases hq : recoverD (c₀ :: cs) with
  | none =>
    rw [hq] at hrec
    simp only [Prod.mk.injEq] at hrec
    show wpOpsS P _ _ [1] (a.put (some d1) .nilIface) (c₀ :: cs) w
    rw [hrec.1]
    exact goal2 _ hrec.2
  | some x =>
    obtain ⟨v, cs'⟩ := x
    rw [hq] at hrec
    simp only [Prod.mk.injEq] at hrec
    show wpOpsS P _ _ [1] (a.put (some d1) v) cs' w
    rw [hrec.1]
    exact goal2 _ hrec.2
end
/-! ### What is put off, and its call at the end -/
section
variable {P : Program} {w : World} {σ : Env} {f : Nat} {caps : List Value}
theorem exec_defer {x : Operand} {tys : Array TypeId} {t : TypeId} {pos : String} {af : Array Edge} (hx : ev σ x = .func (.func f) #[] caps.toArray) :
    (execOp (ev σ) ⟨none, .defer ⟨.value x, #[], tys⟩, t, pos, af, none⟩).run P w = .ok (.defer { target := .fn (.func f) caps.toArray, args := #[] }) w := by
  simp [execOp, resolve, Deferred.ofValue, hx]
theorem leaves_one {fn : Func} {tmps : Array Value} {R : Ending → World → Prop} {u : FrameMode} (hc : Callee P f) (hu : u ≠ .run)
    (h : CallsD P f caps.toArray u w fun
      | .returned _, u', w' => Leaves P fn tmps R [] (settle u') w'
      | .panicked chain, u', w' => Leaves P fn tmps R [] (raised u' chain) w'
      | .outgrown, _, w' => R .outgrown w') : Leaves P fn tmps R [{ target := .fn (.func f) caps.toArray, args := #[] }] u w :=
  ⟨hu, .func f, caps.toArray, f, caps.toArray, rfl, by simp [invoke, run_callFunc hc], h⟩
end
/-! ### A function that puts one call off, and may give up behind it -/
/-- As pan; the end by panic is told of the temporaries, too. -/
def panS (E : Env → Value → World → Prop) (F : Post) : Post
  | .panic c, σ, w => ∃ v, c = [{ v, recovered := false }] ∧ E σ v w
  | e, σ, w => F e σ w
theorem Nx.panSN {E : Env → Value → World → Prop} {F : Post} {K : Env → World → Prop} (h : Nx F .normal K) : Nx (panS E F) .normal K := h
theorem Nx.panSR {E : Env → Value → World → Prop} {F : Post} {K : Env → World → Prop} (h : Nx F .ret K) : Nx (panS E F) .ret K := h
def retOnly (R : Value → World → Prop) : Ending → World → Prop := fun e w => ∃ v, e = .returned v ∧ R v w
section
variable {P : Program} {n : Sz} {σ : Env} {w : World} {fn : Func} {rs : List ResultVar} {R : Value → World → Prop}
theorem run_res {a : Act} {vs : List Value} (hs : Sees a n σ) (hr : fn.results = rs.toArray) (hv : Rs P σ w rs vs) : (results fn a.tmps).run P w = .ok (oneOf vs) w := by
  have hm := run_results hv
  have hfun : results fn a.tmps = (do let vs ← fn.results.mapM (m := Sem) (resS σ); pure (if h : vs.size = 1 then vs[0] else .tuple vs)) := by
    unfold results
    congr 1
    congr 1
    funext r
    cases r <;> simp only [resS, hs.get]
  rw [hfun, hr, Array.mapM_eq_mapM_toList]
  simp only [Sem.run_bind, Sem.run_map, hm, Result.andThen_ok, Sem.run_pure]
  congr 1
  match vs with
  | [] => rfl
  | [v] => rfl
  | _ :: _ :: _ => rfl
theorem WX.seqF {c1 c2 : Code} (hr : fn.results = rs.toArray) (hd : n.ds = []) (h : W P n c1 (thn (fun σ w => WX P n c2 (bodyPostD P fn (retOnly R)) σ w) (finG P rs R)) σ w) : WX P n (.seq c1 c2) (bodyPostD P fn (retOnly R)) σ w := by
  refine WX.seq (W.mono h fun e σ w hq => ?_)
  cases e with
  | normal => exact hq
  | ret =>
    obtain ⟨vs, hv, hR⟩ := hq
    intro a ha
    show Leaves P fn a.tmps (retOnly R) a.defers .returning w
    rw [ha.defers.trans hd]
    exact ⟨_, run_res ha hr hv, _, rfl, hR⟩
  | _ => exact hq.elim
theorem WX.put_off {F : Exit → Act → World → Prop} {c2 : Code} {id d f : Nat} {xs : List Operand} {vs : List Value} {t1 t2 : TypeId} {p1 p2 : String} {af1 af2 : Array Edge} {tys : Array TypeId} (hx : xs.map (ev σ) = vs) (hn : Nat.blt d n.sz = true)
    (h : WX P ⟨n.sz, { target := .fn (.func f) vs.toArray, args := #[] } :: n.ds⟩ c2 F (up σ d (.func (.func f) #[] vs.toArray)) w) :
    WX P n (.seq (.region id #[⟨some d, .makeFunc (.func f) #[] xs.toArray, t1, p1, af1, none⟩, ⟨none, .defer ⟨.value (.tmp d), #[], tys⟩, t2, p2, af2, none⟩] false) c2) F σ w :=
  WX.seqR (l := [⟨some d, .makeFunc (.func f) #[] xs.toArray, t1, p1, af1, none⟩, ⟨none, .defer ⟨.value (.tmp d), #[], tys⟩, t2, p2, af2, none⟩])
    (WLX.x (X.mkfn (first := []) (vf := []) rfl hx) hn (WLX.defer rfl rfl (exec_defer lh) (WLX.nil fun a ha => h a ha)))
theorem WX.rest {E : Env → Value → World → Prop} {caps : List Value} {f k : Nat} {c : Code} (hr : fn.results = rs.toArray) (hc : Callee P f)
    (h : W P ⟨k, [{ target := .fn (.func f) caps.toArray, args := #[] }]⟩ c (panS E (finG P rs R)) σ w)
    (hret : ∀ w', CallsD P f caps.toArray .returning w' fun e u' w'' => ∃ v, e = .returned v ∧ u' = .returning ∧ w'' = w')
    (hpan : ∀ σ' v w', E σ' v w' → CallsD P f caps.toArray (.panicking [{ v, recovered := false }]) w' fun e u' w'' => ∃ v', e = .returned v' ∧ settle u' = .returning ∧ ∃ vs, Rs P σ' w'' rs vs ∧ R (oneOf vs) w'') :
    WX P ⟨k, [{ target := .fn (.func f) caps.toArray, args := #[] }]⟩ c (bodyPostD P fn (retOnly R)) σ w := by
  refine WX.of h ?_
  intro e σ' w' a' hs hq
  have key : (∃ vs, Rs P σ' w' rs vs ∧ R (oneOf vs) w') → Leaves P fn a'.tmps (retOnly R) a'.defers .returning w' := by
    rintro ⟨vs, hv, hR⟩
    rw [hs.defers]
    refine leaves_one hc (by simp) (CallsD.mono (hret w') ?_)
    rintro e u' w'' ⟨v, rfl, rfl, rfl⟩
    exact ⟨_, run_res hs hr hv, _, rfl, hR⟩
  cases e with
  | normal => exact key hq
  | ret => exact key hq
  | panic ch =>
    obtain ⟨v, rfl, hE⟩ := hq
    show Leaves P fn a'.tmps (retOnly R) a'.defers (.panicking [{ v, recovered := false }]) w'
    rw [hs.defers]
    refine leaves_one hc (by simp) (CallsD.mono (hpan σ' v w' hE) ?_)
    rintro e u' w'' ⟨v', rfl, hu, vs, hv, hR⟩
    show Leaves P fn a'.tmps (retOnly R) [] (settle u') w''
    rw [hu]
    exact ⟨_, run_res hs hr hv, _, rfl, hR⟩
  | _ => exact hq.elim
theorem enterXR {f : Nat} {c : Code} {l : List Value} (hf : P.funcs[f]? = some fn) (hb : fn.body = some c) (hm : (⟨fn.ntmps, []⟩ : Sz) = n) (hl : Nat.ble l.length n.sz = true) (h : WX P n c (bodyPostD P fn (retOnly R)) (env0 l) w) : Ret P f l.toArray w R := enterX hf hb hm hl h
theorem WX.g1 {F : Exit → Act → World → Prop} {c : Code} (t : Nat) {v : Value} (h1 : σ t = v) (h : ∀ σ' : Env, σ' t = v → WX P n c F σ' w) : WX P n c F σ w := h σ h1
end
end Sg
