/-
  Functions that put a call off (defer): over the lib that dlib.py has turned (n: how many temporaries, and what is put off). | A part of the walk of the program.
-/
import Derived.Test.YtbnllchicnmkiaaGreatDoorPl10
import Derived.Defers
import Derived.Recover
section
namespace Sg
open Go Go.RowKit
section
variable {P : Program} {n : Sz} {σ : Env} {w : World} {F : Exit → Act → World → Prop}
/-- A walk whose end is told of the act itself. -/
def WX (P : Program) (n : Sz) (c : Code) (F : Exit → Act → World → Prop) (σ : Env) (w : World) : Prop := ∀ a, Sees a n σ → c.wp P F a w
def thnX (P : Program) (n : Sz) (c : Code) (F : Exit → Act → World → Prop) : Post
  | .normal, σ, w => WX P n c F σ w
  | e, σ, w => ∀ a, Sees a n σ → F e a w
theorem WX.seq {c1 c2 : Code} (h : W P n c1 (thnX P n c2 F) σ w) : WX P n (.seq c1 c2) F σ w := fun a ha => by
  refine wp_seq (wp_mono (h a ha) ?_)
  rintro e a' w' ⟨σ', hs, hq⟩
  cases e <;> exact hq a' hs
theorem WX.of {c : Code} {Q : Post} (h : W P n c Q σ w) (hQ : ∀ e σ' w' a', Sees a' n σ' → Q e σ' w' → F e a' w') : WX P n c F σ w := fun a ha => by
  refine wp_mono (h a ha) ?_
  rintro e a' w' ⟨σ', hs, hq⟩
  exact hQ e σ' w' a' hs hq
/-- A region, one behind the other, to an end that is told of the act. -/
def WLX (P : Program) (n : Sz) (ops : Array Oper) (F : Exit → Act → World → Prop) (l : List Oper) (σ : Env) (w : World) : Prop := ∀ a, Sees a n σ → wpList P ops F l a w
theorem WX.region {id : Nat} {l : List Oper} (h : WLX P n l.toArray F l σ w) : WX P n (.region id l.toArray false) F σ w := fun a ha => wp_region_lit (h a ha)
theorem WX.seqR {id : Nat} {l : List Oper} {c2 : Code} (h : WLX P n l.toArray (Exit.then (c2.wp P F) F) l σ w) : WX P n (.seq (.region id l.toArray false) c2) F σ w := fun a ha => wp_seq (wp_region_lit (h a ha))
variable {ops : Array Oper} {rest : List Oper} {d : Nat} {op : Op} {t : TypeId} {pos : String} {af : Array Edge} {v : Value}
theorem WLX.x (hx : X P σ w op t v) (hn : Nat.blt d n.sz = true) (h : WLX P n ops F rest (up σ d v) w) : WLX P n ops F (⟨some d, op, t, pos, af, none⟩ :: rest) σ w := by
  intro a ha
  unfold wpList
  rw [if_pos (by simp [Region.wanted])]
  refine .inl ?_
  unfold Oper.wp
  rw [ha.eval, hx, Oper.upon_value]
  exact h _ (ha.put hn)
theorem WLX.defer {o : Oper} {df : Deferred} (hg : o.guard = none) (hd : o.dst = none) (hx : (execOp (ev σ) o).run P w = .ok (.defer df) w) (h : WLX P ⟨n.sz, df :: n.ds⟩ ops F rest σ w) : WLX P n ops F (o :: rest) σ w := by
  intro a ha
  unfold wpList
  rw [if_pos (by simp [Region.wanted, hg])]
  refine .inl ?_
  unfold Oper.wp
  rw [ha.eval, hx, Oper.upon_defer, hd]
  exact h _ ⟨by simp [Act.put, ha.size], fun t => by simp only [Act.put]; exact ha.get t, by simp only [Act.put, ha.defers]⟩
theorem WLX.nil (h : ∀ a, Sees a n σ → F .normal a w) : WLX P n ops F [] σ w := fun a ha => h a ha
end
section
variable {P : Program} {n : Sz} {w : World} {f : Nat} {fn : Func} {c : Code} {l : List Value} {R : Ending → World → Prop}
theorem enterX (hf : P.funcs[f]? = some fn) (hb : fn.body = some c) (hm : (⟨fn.ntmps, []⟩ : Sz) = n) (hl : Nat.ble l.length n.sz = true) (h : WX P n c (bodyPostD P fn R) (env0 l) w) : Calls P f l.toArray w R := by
  refine calls_of_wp_defers hf hb ?_
  subst hm
  exact h _ (sees_enter hl)
end
/-- What recover hands back, and how its caller goes on. -/
def recOf : FrameMode → Value × FrameMode
  | .panicking ({ v, recovered := false, goexit := false } :: older) => (v, .panicking ({ v, recovered := true } :: older))
  | u => (.nilIface, u)
section
variable {P : Program} {w : World} {f d1 d2 : Nat} {fn : Func} {c2 : Code} {l : List Value} {R : Ending → FrameMode → World → Prop} {u : FrameMode}
theorem recoverD_of (c₀ : Frame) (cs : List Frame) (hu : c₀.mode = u) : (match recoverD (c₀ :: cs) with | some (v, cs') => (v, cs') | none => (.nilIface, c₀ :: cs)) = ((recOf u).1, { c₀ with mode := (recOf u).2 } :: cs) := by
  obtain ⟨cfn, ct, ctodo, cd, cm, ck, cr⟩ := c₀
  have hu : cm = u := hu
  subst hu
  cases cm with
  | panicking chain =>
    cases chain with
    | nil => rfl
    | cons en older =>
      obtain ⟨v, r, g⟩ := en
      cases r <;> cases g <;> rfl
  | _ => rfl
theorem enterRec {id : Nat} {t1 t2 : TypeId} {p1 p2 : String} {af1 af2 : Array Edge} {tys : Array TypeId} (hf : P.funcs[f]? = some fn)
    (hb : fn.body = some (.seq (.region id #[⟨some d1, .call ⟨.builtin .recover, #[], tys⟩, t1, p1, af1, none⟩, ⟨some d2, .assign (.tmp d1), t2, p2, af2, none⟩] false) c2))
    (hl : Nat.ble l.length fn.ntmps = true) (h1 : Nat.blt d1 fn.ntmps = true) (h2 : Nat.blt d2 fn.ntmps = true) (hr : fn.results = #[])
    (h : W P ⟨fn.ntmps, []⟩ c2 (fin0 fun v w' => R (.returned v) (recOf u).2 w') (up (up (env0 l) d1 (recOf u).1) d2 (recOf u).1) w) : CallsD P f l.toArray u w R := by
  refine callsD_of_wpS hf hb ?_
  intro c₀ cs hu
  refine wpS_seq (wpS_region ?_)
  have hs0 := sees_enter (l := l) (m := fn.ntmps) hl
  have hrec := recoverD_of c₀ cs hu
  generalize ha : ({ tmps := l.toArray ++ Array.replicate (fn.ntmps - l.toArray.size) undef, defers := [] } : Act) = a at hs0
  have hsz : l.toArray.size = l.length := rfl
  have hs1 := hs0.put (v := (recOf u).1) h1
  have hs2 := hs1.put (v := (recOf u).1) h2
  have goal2 : ∀ (cs' : List Frame), cs' = { c₀ with mode := (recOf u).2 } :: cs → wpOpsS P #[⟨some d1, .call ⟨.builtin .recover, #[], tys⟩, t1, p1, af1, none⟩, ⟨some d2, .assign (.tmp d1), t2, p2, af2, none⟩] (Exit.thenS (c2.wpS P (bodyPostS P fn c₀ cs R)) (bodyPostS P fn c₀ cs R)) [1] (a.put (some d1) (recOf u).1) cs' w := by
    rintro cs' rfl
    have he : (execOp (a.put (some d1) (recOf u).1).eval ⟨some d2, .assign (.tmp d1), t2, p2, af2, none⟩).run P w = .ok (.value (recOf u).1) w := by
      rw [hs1.eval]
      have : ev (up (env0 l) d1 (recOf u).1) (.tmp d1) = (recOf u).1 := by simp [ev, up]
      simp [execOp, this]
    unfold wpOpsS
    simp only [List.getElem?_toArray, List.getElem?_cons_succ, List.getElem?_cons_zero]
    rw [if_pos (by simp [Region.wanted]), he]
    simp only [Oper.upon_value]
    unfold wpOpsS
    show c2.wpS P _ _ _ _
    refine wpS_of_wp (wp_mono (h _ hs2) ?_)
    rintro e a' w' ⟨σ', hs, hq⟩
    cases e <;> first | exact hq.elim | exact ⟨hs.defers.trans (by rfl), _, rfl, _, results_none hr _ _ _, hq⟩
  show wpOpsS P _ _ (List.range 2) _ _ _
  rw [show List.range 2 = [0, 1] from rfl]
  unfold wpOpsS
  simp only [List.getElem?_toArray, List.getElem?_cons_zero]
  rw [if_pos (by simp [Region.wanted])]
  have he0 : ∀ (e : Operand → Value), (execOp e ⟨some d1, .call ⟨.builtin .recover, #[], tys⟩, t1, p1, af1, none⟩).run P w = .ok .recover w := fun e => by simp [execOp, resolve, invoke, builtin]
  rw [he0]
  simp only
  cases hq : recoverD (c₀ :: cs) with
  | none =>
    rw [hq] at hrec
    simp only [Prod.mk.injEq] at hrec
    show wpOpsS P _ _ [1] (a.put (some d1) .nilIface) (c₀ :: cs) w
    rw [hrec.1]
    exact goal2 _ hrec.2
  | some x =>
    obtain ⟨v, cs'⟩ := x
    rw [hq] at hrec
    simp only [Prod.mk.injEq] at hrec
    show wpOpsS P _ _ [1] (a.put (some d1) v) cs' w
    rw [hrec.1]
    exact goal2 _ hrec.2
end
section
variable {P : Program} {w : World} {σ : Env} {f : Nat} {caps : List Value}
theorem exec_defer {x : Operand} {tys : Array TypeId} {t : TypeId} {pos : String} {af : Array Edge} (hx : ev σ x = .func (.func f) #[] caps.toArray) :
    (execOp (ev σ) ⟨none, .defer ⟨.value x, #[], tys⟩, t, pos, af, none⟩).run P w = .ok (.defer { target := .fn (.func f) caps.toArray, args := #[] }) w := by
  simp [execOp, resolve, Deferred.ofValue, hx]
theorem leaves_one {fn : Func} {tmps : Array Value} {R : Ending → World → Prop} {u : FrameMode} (hc : Callee P f) (hu : u ≠ .run)
    (h : CallsD P f caps.toArray u w fun
      | .returned _, u', w' => Leaves P fn tmps R [] (settle u') w'
      | .panicked chain, u', w' => Leaves P fn tmps R [] (raised u' chain) w'
      | .outgrown, _, w' => R .outgrown w') : Leaves P fn tmps R [{ target := .fn (.func f) caps.toArray, args := #[] }] u w :=
  ⟨hu, .func f, caps.toArray, f, caps.toArray, rfl, by simp [invoke, run_callFunc hc], h⟩
end
/-- As pan; the end by panic is told of the temporaries, too. -/
def panS (E : Env → Value → World → Prop) (F : Post) : Post
  | .panic c, σ, w => ∃ v, c = [{ v, recovered := false }] ∧ E σ v w
  | e, σ, w => F e σ w
theorem Nx.panSR {E : Env → Value → World → Prop} {F : Post} {K : Env → World → Prop} (h : Nx F .ret K) : Nx (panS E F) .ret K := h
def retOnly (R : Value → World → Prop) : Ending → World → Prop := fun e w => ∃ v, e = .returned v ∧ R v w
section
variable {P : Program} {n : Sz} {σ : Env} {w : World} {fn : Func} {rs : List ResultVar} {R : Value → World → Prop}
theorem run_res {a : Act} {vs : List Value} (hs : Sees a n σ) (hr : fn.results = rs.toArray) (hv : Rs P σ w rs vs) : (results fn a.tmps).run P w = .ok (oneOf vs) w := by
  have hm := run_results hv
  have hfun : results fn a.tmps = (do let vs ← fn.results.mapM (m := Sem) (resS σ); pure (if h : vs.size = 1 then vs[0] else .tuple vs)) := by
    unfold results
    congr 1
    congr 1
    funext r
    cases r <;> simp only [resS, hs.get]
  rw [hfun, hr, Array.mapM_eq_mapM_toList]
  simp only [Sem.run_bind, Sem.run_map, hm, Result.andThen_ok, Sem.run_pure]
  congr 1
  match vs with
  | [] => rfl
  | [v] => rfl
  | _ :: _ :: _ => rfl
theorem WX.seqF {c1 c2 : Code} (hr : fn.results = rs.toArray) (hd : n.ds = []) (h : W P n c1 (thn (fun σ w => WX P n c2 (bodyPostD P fn (retOnly R)) σ w) (finG P rs R)) σ w) : WX P n (.seq c1 c2) (bodyPostD P fn (retOnly R)) σ w := by
  refine WX.seq (W.mono h fun e σ w hq => ?_)
  cases e with
  | normal => exact hq
  | ret =>
    obtain ⟨vs, hv, hR⟩ := hq
    intro a ha
    show Leaves P fn a.tmps (retOnly R) a.defers .returning w
    rw [ha.defers.trans hd]
    exact ⟨_, run_res ha hr hv, _, rfl, hR⟩
  | _ => exact hq.elim
theorem WX.put_off {F : Exit → Act → World → Prop} {c2 : Code} {id d f : Nat} {xs : List Operand} {vs : List Value} {t1 t2 : TypeId} {p1 p2 : String} {af1 af2 : Array Edge} {tys : Array TypeId} (hx : xs.map (ev σ) = vs) (hn : Nat.blt d n.sz = true)
    (h : WX P ⟨n.sz, { target := .fn (.func f) vs.toArray, args := #[] } :: n.ds⟩ c2 F (up σ d (.func (.func f) #[] vs.toArray)) w) :
    WX P n (.seq (.region id #[⟨some d, .makeFunc (.func f) #[] xs.toArray, t1, p1, af1, none⟩, ⟨none, .defer ⟨.value (.tmp d), #[], tys⟩, t2, p2, af2, none⟩] false) c2) F σ w :=
  WX.seqR (l := [⟨some d, .makeFunc (.func f) #[] xs.toArray, t1, p1, af1, none⟩, ⟨none, .defer ⟨.value (.tmp d), #[], tys⟩, t2, p2, af2, none⟩])
    (WLX.x (X.mkfn (first := []) (vf := []) rfl hx) hn (WLX.defer rfl rfl (exec_defer lh) (WLX.nil fun a ha => h a ha)))
theorem WX.rest {E : Env → Value → World → Prop} {caps : List Value} {f k : Nat} {c : Code} (hr : fn.results = rs.toArray) (hc : Callee P f)
    (h : W P ⟨k, [{ target := .fn (.func f) caps.toArray, args := #[] }]⟩ c (panS E (finG P rs R)) σ w)
    (hret : ∀ w', CallsD P f caps.toArray .returning w' fun e u' w'' => ∃ v, e = .returned v ∧ u' = .returning ∧ w'' = w')
    (hpan : ∀ σ' v w', E σ' v w' → CallsD P f caps.toArray (.panicking [{ v, recovered := false }]) w' fun e u' w'' => ∃ v', e = .returned v' ∧ settle u' = .returning ∧ ∃ vs, Rs P σ' w'' rs vs ∧ R (oneOf vs) w'') :
    WX P ⟨k, [{ target := .fn (.func f) caps.toArray, args := #[] }]⟩ c (bodyPostD P fn (retOnly R)) σ w := by
  refine WX.of h ?_
  intro e σ' w' a' hs hq
  have key : (∃ vs, Rs P σ' w' rs vs ∧ R (oneOf vs) w') → Leaves P fn a'.tmps (retOnly R) a'.defers .returning w' := by
    rintro ⟨vs, hv, hR⟩
    rw [hs.defers]
    refine leaves_one hc (by simp) (CallsD.mono (hret w') ?_)
    rintro e u' w'' ⟨v, rfl, rfl, rfl⟩
    exact ⟨_, run_res hs hr hv, _, rfl, hR⟩
  cases e with
  | normal => exact key hq
  | ret => exact key hq
  | panic ch =>
    obtain ⟨v, rfl, hE⟩ := hq
    show Leaves P fn a'.tmps (retOnly R) a'.defers (.panicking [{ v, recovered := false }]) w'
    rw [hs.defers]
    refine leaves_one hc (by simp) (CallsD.mono (hpan σ' v w' hE) ?_)
    rintro e u' w'' ⟨v', rfl, hu, vs, hv, hR⟩
    show Leaves P fn a'.tmps (retOnly R) [] (settle u') w''
    rw [hu]
    exact ⟨_, run_res hs hr hv, _, rfl, hR⟩
  | _ => exact hq.elim
theorem enterXR {f : Nat} {c : Code} {l : List Value} (hf : P.funcs[f]? = some fn) (hb : fn.body = some c) (hm : (⟨fn.ntmps, []⟩ : Sz) = n) (hl : Nat.ble l.length n.sz = true) (h : WX P n c (bodyPostD P fn (retOnly R)) (env0 l) w) : Ret P f l.toArray w R := enterX hf hb hm hl h
theorem WX.g1 {F : Exit → Act → World → Prop} {c : Code} (t : Nat) {v : Value} (h1 : σ t = v) (h : ∀ σ' : Env, σ' t = v → WX P n c F σ' w) : WX P n c F σ w := h σ h1
end
end Sg
end

section
set_option linter.unusedVariables false
set_option linter.unusedSimpArgs false
set_option maxRecDepth 100000
namespace Go.Proofs.YtbnllchicnmkiaaGreatDoor
open Go Go.RowKit Sg
theorem el27 : Sg.Elem Tryz.prog 27 1 (.nilIface) 16 := ⟨_, rfl, rfl, rfl, rfl⟩
theorem bd25 : Sg.Bld Tryz.prog 25 [0, 1, 2, 3, 4, 5] [.int .i64 0, .bool false, .slice none 0 0, .int .i64 0, .int .i64 0, .slice none 0 0] := ⟨_, rfl, rfl, .inl ⟨_, rfl, Sg.allIn rfl, Sg.allAt (n := 6) rfl⟩⟩
theorem pl27 : Sg.Plain Tryz.prog 27 := ⟨_, rfl, trivial⟩
theorem ce16 : Sg.Callee Tryz.prog 16 := ⟨_, Tryz.func16, by decide, rfl⟩
theorem ce17 : Sg.Callee Tryz.prog 17 := ⟨_, Tryz.func17, by decide, rfl⟩
theorem bd51 : Sg.Bld Tryz.prog 51 [0] [.slice none 0 0] := ⟨_, rfl, rfl, .inl ⟨_, rfl, Sg.allIn rfl, Sg.allAt (n := 1) rfl⟩⟩
theorem ce18 : Sg.Callee Tryz.prog 18 := ⟨_, Tryz.func18, by decide, rfl⟩
theorem ce19 : Sg.Callee Tryz.prog 19 := ⟨_, Tryz.func19, by decide, rfl⟩

def flt (at_ why : Int) : Value := .iface 48 (.agg #[.int .i64 at_, .int .i64 why])
theorem errV_one (s : ByteArray) : (errV s).oneCell' = true := by unfold errV; split <;> rfl
/-- The cells of a report that is none. -/
def zrep : Array Value := #[.int .i64 0, .bool false, .slice none 0 0, .int .i64 0, .int .i64 0, .slice none 0 0]
/-- What a text's reading comes to. -/
def parseQ (f : Wds) (s : ByteArray) : Except (Int × Int) QRep := match scanA (sb s) with
  | .error p => .error ((p.1 : Int), (p.2 : Int))
  | .ok ts => match repP f (mayR keyE) ts with
    | some x => .ok x
    | none => .error (0, 210)
theorem parseQ_scan {f : Wds} {s : ByteArray} {p : Nat × Nat} (h : scanA (sb s) = .error p) : parseQ f s = .error ((p.1 : Int), (p.2 : Int)) := by unfold parseQ; rw [h]
theorem parseQ_none {f : Wds} {s : ByteArray} {ts : List Tok} (h : scanA (sb s) = .ok ts) (h2 : repP f (mayR keyE) ts = none) : parseQ f s = .error (0, 210) := by unfold parseQ; rw [h]; simp only; rw [h2]
theorem parseQ_some {f : Wds} {s : ByteArray} {ts : List Tok} {x : QRep} (h : scanA (sb s) = .ok ts) (h2 : repP f (mayR keyE) ts = some x) : parseQ f s = .ok x := by unfold parseQ; rw [h]; simp only; rw [h2]
theorem parseQ_alike (s : ByteArray) : parseQ fR s = parseQ fP s := by
  unfold parseQ
  cases scanA (sb s) with
  | error p => rfl
  | ok ts => simp only; rw [rep_words wds_alike]
theorem repP_none {f : Wds} {may : QRep → Bool} {ts : List Tok} (h : prep f (skipP ts) = none) : repP f may ts = none := by unfold repP; rw [h]
theorem repP_left {f : Wds} {may : QRep → Bool} {ts : List Tok} {x : QRep} {r : List Tok} (h : prep f (skipP ts) = some (x, r)) (hr : r ≠ []) : repP f may ts = none := by
  unfold repP; rw [h]
  cases r with
  | nil => exact absurd rfl hr
  | cons t r => rfl
theorem repP_bad {f : Wds} {may : QRep → Bool} {ts : List Tok} {x : QRep} (h : prep f (skipP ts) = some (x, [])) (hm : may x = false) : repP f may ts = none := by unfold repP; rw [h]; simp only; rw [hm]; rfl
theorem repP_ok {f : Wds} {may : QRep → Bool} {ts : List Tok} {x : QRep} (h : prep f (skipP ts) = some (x, [])) (hm : may x = true) : repP f may ts = some x := by unfold repP; rw [h]; simp only; rw [hm]; rfl
/-- What a reading hands back. -/
def ParR (f : Wds) (s : ByteArray) (A : Nat → Prop) (w : World) (rv er : Value) : Prop :=
  (∃ x es, parseQ f s = .ok x ∧ rv = .agg es.toArray ∧ er = .nilIface ∧ RRep A w es x) ∨ (∃ x : Int × Int, parseQ f s = .error x ∧ rv = .agg zrep ∧ er = flt x.1 x.2)
theorem RRep_one {A : Nat → Prop} {w : World} {es : List Value} {x : GRep} (h : RRep A w es x) : es.all (·.oneCell') = true := by
  obtain ⟨v, u, rfl, h1, h2, _⟩ := h
  obtain ⟨a, c, rfl⟩ := h1.len
  obtain ⟨b, d, rfl⟩ := h2.1.len
  rfl

theorem dfr_none (lcb ecb : Nat) (w : World) :
  Go.CallsD Tryz.prog 17 #[.pointer (some ⟨lcb, 0, none⟩), .pointer (some ⟨ecb, 0, none⟩)] .returning w (fun e u' w' => ∃ v, e = .returned v ∧ u' = .returning ∧ w' = w) := by
 refine enterRec (l := [.pointer (some ⟨lcb, 0, none⟩), .pointer (some ⟨ecb, 0, none⟩)]) Tryz.func17 rfl rfl rfl rfl rfl ?_
 refine W.g3 0 1 2 (v1 := .pointer (some ⟨lcb, 0, none⟩)) (v2 := .pointer (some ⟨ecb, 0, none⟩)) (v3 := .nilIface) rfl rfl rfl ?_; intro σ s0 s1 s2
 refine W.seq ?_
 refine W.region ?_
 refine WL.x (X.mv (s2)) rfl ?_
 refine WL.x (v := .bool (!isNil .nilIface)) (X.neqI Tryz.underlying20 (lh) (.inl rfl)) rfl ?_
 refine WL.e3 Nx.thn 0 1 5 (jt2 rfl (s0)) (jt2 rfl (s1)) (lh) ?_
 intro σ1 s0 s1 s5
 refine W.cndBF s5 (rfl) ?_
 refine W.skip Nx.n0 ?_
 exact ⟨_, rfl, rfl, rfl⟩
theorem dfr_fault (lcb ecb : Nat) (z1 : Array Value) (z2 : Value) (w : World) (h1 : w.heap[lcb]? = some (.cells z1 25 (0, 0))) (hz1 : z1.size = 6) (h2 : w.heap[ecb]? = some (.cells #[z2] 27 (0, 0))) (hne : lcb ≠ ecb) :
  Go.CallsD Tryz.prog 17 #[.pointer (some ⟨lcb, 0, none⟩), .pointer (some ⟨ecb, 0, none⟩)] (.panicking [{ v := wrg, recovered := false }]) w (fun e u' w' => ∃ v, e = .returned v ∧ settle u' = .returning ∧ w'.heap[lcb]? = some (.cells zrep 25 (0, 0)) ∧ w'.heap[ecb]? = some (.cells #[flt 0 210] 27 (0, 0)) ∧ Ch (fun j => j = lcb ∨ j = ecb) w w') := by
 refine enterRec (l := [.pointer (some ⟨lcb, 0, none⟩), .pointer (some ⟨ecb, 0, none⟩)]) Tryz.func17 rfl rfl rfl rfl rfl ?_
 refine W.g3 0 1 2 (v1 := .pointer (some ⟨lcb, 0, none⟩)) (v2 := .pointer (some ⟨ecb, 0, none⟩)) (v3 := wrg) rfl rfl rfl ?_; intro σ s0 s1 s2
 refine W.seq ?_
 refine W.region ?_
 refine WL.x (X.mv (s2)) rfl ?_
 refine WL.x (v := .bool (!isNil wrg)) (X.neqI Tryz.underlying20 (lh) (.inr ⟨_, _, rfl⟩)) rfl ?_
 refine WL.e3 Nx.thn 0 1 5 (jt2 rfl (s0)) (jt2 rfl (s1)) (lh) ?_
 intro σ1 s0 s1 s5
 refine W.cndBT s5 (rfl) ?_
 refine W.region ?_
 refine WL.x (X.build bd25 pnil rfl (rfl : _ = [_, _, _, _, _, _])) rfl ?_
 refine WL.x (X.build bd48 (pcons lc pnil) rfl (rfl : _ = [_, _])) rfl ?_
 refine WL.x (X.iface Tryz.underlying48 trivial (lh)) rfl ?_
 refine WL.storeS (vs := [.int .i64 0, .bool false, .slice none 0 0, .int .i64 0, .int .i64 0, .slice none 0 0]) ag25 (jt2 rfl (lt rfl (s0))) (jt2 rfl (lh)) rfl rfl h1 (by rw [hz1]; decide) ?_
 intro w1 us
 have hl3 := us.at_
 rw [blit_all (by rw [hz1]; rfl)] at hl3
 have cs2 := us.ch
 have h23 := cs2.at h2 (fun e => hne e.symm)
 refine WL.store el27 (jt2 rfl (lt rfl (s1))) (lh) rfl h23 (show 0 + 0 < 1 by decide) ?_
 intro w2 us
 have he3 : w2.heap[ecb]? = some (.cells #[flt 0 210] 27 (0, 0)) := us.at_
 have cs3 := us.ch
 have hl4 := cs3.at hl3 (fun e => hne e)
 refine WL.e0 Nx.n0  ?_
 intro σ2 
 exact ⟨_, rfl, rfl, hl4, he3, cs2.trans cs3 (H := fun j => j = lcb ∨ j = ecb) (fun _ _ e => .inl e) (fun _ _ e => .inr e)⟩
set_option maxHeartbeats 3200000 in
theorem parse_ok (s : ByteArray) (w : World) (hER : ER w) :
  Sg.Ret Tryz.prog 7 #[.string s] w fun v w' => (∃ rv er, v = .tuple #[rv, er] ∧ ParR fP s (Mine [3, 67, 85] w.heap.size w') w' rv er) ∧ Ch0 w w' := by
 refine enterXR (n := 36) (l := [.string s]) Tryz.func7 rfl rfl rfl ?_
 refine WX.g1 0 (v := .string s) rfl ?_; intro σ s0
 refine WX.seqF rfl rfl ?_
 refine W.region ?_
 refine WL.alloc el25 rfl ?_
 intro w1 u0_0; have hu0_0 := u0_0.at_; have cu0_0 := u0_0.ch; have zu0_0 := u0_0.size
 refine WL.alloc el27 rfl ?_
 intro w2 u0_1; have hu0_1 := u0_1.at_; have cu0_1 := u0_1.ch; have zu0_1 := u0_1.size
 refine WL.e3 Nx.thn 0 2 3 (jt2 rfl (s0)) (lt rfl (lh)) (lh) ?_
 intro σ1 s0 s2 s3
 refine WX.seqF rfl rfl ?_
 refine W.region ?_
 refine WL.x (X.mv (s0)) rfl ?_
 refine WL.call1 ce16 (lh) (scan_fn s w2 (hER.ch0 (cu0_0.trans0 cu0_1))) rfl ?_
 rintro _ w3 ⟨⟨u, rfl, hu⟩, csc⟩
 refine WL.x (X.mv (lh)) rfl ?_
 refine WL.x (X.ex2_0 (lh)) rfl ?_
 refine WL.x (X.ex2_1 (lt rfl (lh))) rfl ?_
 refine WL.x (X.asg (lt rfl (lh))) rfl ?_
 have hzu0 := cu0_0.size
 have hzu1 := cu0_1.size
 have hzsc := csc.size
 refine WL.store el27 (jt4 rfl (jt2 rfl (s3))) (lt rfl (lh)) (errV_one s) (csc.at0 hu0_1) (show 0 < 1 by decide) ?_
 intro w4 us
 have hec : w4.heap[w1.heap.size]? = some (.cells #[errV s] 27 (0, 0)) := us.at_
 have cs16 := us.ch
 have hlc : w4.heap[w.heap.size]? = some (.cells zrep 25 (0, 0)) := cs16.at (csc.at0 (cu0_1.at0 hu0_0)) (fun e => by (try dsimp only at e); omega)
 have hcl : Ch0 w w4 := ((cu0_0.trans0 cu0_1).trans0 csc).trans cs16 (fun _ _ e => e) (fun q hq e => by (try dsimp only at e); omega)
 have hu := hu.ch cs16 (fun k hk e => by have := (hu.lt hk).1; (try dsimp only at e); omega)
 obtain ⟨bL, hlcE⟩ : ∃ bL, bL = w.heap.size := ⟨_, rfl⟩
 obtain ⟨bE, hecE⟩ : ∃ bE, bE = w1.heap.size := ⟨_, rfl⟩
 rw [← hlcE] at s2 hlc
 rw [← hecE] at s3 hec
 have hI := errV_isI s
 have hle : w.heap.size ≤ bL ∧ w.heap.size ≤ bE ∧ bL ≠ bE := by omega
 refine WL.e3 Nx.thn 2 3 4 (jt4 rfl (jt2 rfl (s2))) (jt4 rfl (jt2 rfl (s3))) (lh) ?_
 intro σ2 s2 s3 s4
 refine WX.seqF rfl rfl ?_
 refine W.seq ?_
 refine W.region ?_
 refine WL.x (X.load pl27 (s3) hec (v := errV s) rfl) rfl ?_
 refine WL.x (v := .bool (!isNil (errV s))) (X.neqI Tryz.underlying27 (lh) hI) rfl ?_
 refine WL.e4 Nx.thn 2 3 4 12 (jt2 rfl (s2)) (jt2 rfl (s3)) (jt2 rfl (s4)) (lh) ?_
 intro σ3 s2 s3 s4 s12
 refine W.cnd s12 (fun hse => ?_) (fun hse => ?_)
 ·
  obtain ⟨p9, hsp⟩ : ∃ p9, scanA (sb s) = .error p9 := by
    cases h9 : scanA (sb s) with
    | ok l => rw [(scL_ok h9).2.2] at hse; cases hse
    | error p9 => exact ⟨p9, rfl⟩
  refine W.seq ?_
  refine W.held (fun w' => Ch (fun j => j = bL ∨ j = bE) w4 w') mo ?_
  intro w5 qhh1 qc2
  have hS : Ch (fun j => j = bL ∨ j = bE) w4 w5 := Ch.weak qc2
  have hzqc2 := qc2.size
  have cdh3 := qc2
  replace hec := cdh3.at0 hec
  replace hlc := cdh3.at0 hlc
  refine WH.take 0 rfl (by kernel_rfl) (by kernel_rfl) (by kernel_rfl) (fun _ _ _ h => h) Gd.none rfl (fun w' hS' => X.build bd25 pnil rfl (rfl : _ = [_, _, _, _, _, _])) hS ?_
  refine WH.two 1 2 rfl rfl (by kernel_rfl) (fun _ _ h => h) ?_ ?_
  ·
   refine WL.x (X.load pl27 (lt rfl (s3)) hec (v := errV s) rfl) rfl ?_
   refine WL.nil Nx.thn ⟨hS, ?_⟩
   refine WH.one 2 rfl (by kernel_rfl) (fun _ _ h => h) ?_
   refine WL.storeS (vs := [.int .i64 0, .bool false, .slice none 0 0, .int .i64 0, .int .i64 0, .slice none 0 0]) ag25 (jt2 rfl (s2)) (lt rfl (lh)) rfl rfl hlc (by decide) ?_
   intro w6 us
   have hl3 := us.at_
   rw [blit_all (by rfl)] at hl3
   have hl3 : w6.heap[bL]? = some (.cells zrep 25 (0, 0)) := hl3
   have chl3 := us.ch
   replace hec := chl3.at hec (fun e => by (try dsimp only at e); omega)
   have hS := hS.trans chl3 (fun _ _ e => e) (fun _ _ e => .inl e)
   refine WL.nil Nx.thn ⟨hS, ?_⟩
   refine WH.one 3 rfl (by kernel_rfl) (fun _ _ h => h) ?_
   refine WL.store el27 (jt2 rfl (s3)) (lh) (errV_one s) hec (show 0 < 1 by decide) ?_
   intro w7 us
   have he3 : w7.heap[bE]? = some (.cells #[errV s] 27 (0, 0)) := us.at_
   have che3 := us.ch
   have hl4 := che3.at hl3 (fun e => by (try dsimp only at e); omega)
   have hS := hS.trans che3 (fun _ _ e => e) (fun _ _ e => .inr e)
   refine WL.nil Nx.thn ⟨hS, ?_⟩
   refine WH.done (by kernel_rfl) ?_
   refine WL.e2 Nx.thn 2 3 (jt2 rfl (s2)) (jt2 rfl (s3)) ?_
   intro σ4 s2 s3
   refine W.retG (Nx.rthn Nx.fG) ⟨[_, _], (.cell s2 (by assumption) (by exact ag25) (.cell1 s3 pl27 (by assumption) (by rfl) .nil)), ?_⟩
   exact ⟨⟨_, _, rfl, .inr ⟨((p9.1 : Int), (p9.2 : Int)), parseQ_scan hsp, rfl, (scL_err hsp).2.2⟩⟩, hcl.trans hS (fun _ _ e => e) (fun j hj e => by rcases e with e | e <;> omega)⟩
  ·
   refine WL.storeS (vs := [.int .i64 0, .bool false, .slice none 0 0, .int .i64 0, .int .i64 0, .slice none 0 0]) ag25 (lt rfl (s2)) (lh) rfl rfl hlc (by decide) ?_
   intro w8 us
   have hl3 := us.at_
   rw [blit_all (by rfl)] at hl3
   have hl3 : w8.heap[bL]? = some (.cells zrep 25 (0, 0)) := hl3
   have chl3 := us.ch
   replace hec := chl3.at hec (fun e => by (try dsimp only at e); omega)
   have hS := hS.trans chl3 (fun _ _ e => e) (fun _ _ e => .inl e)
   refine WL.nil Nx.thn ⟨hS, ?_⟩
   refine WH.one 1 rfl (by kernel_rfl) (fun _ _ h => h) ?_
   refine WL.x (X.load pl27 (lt rfl (s3)) hec (v := errV s) rfl) rfl ?_
   refine WL.nil Nx.thn ⟨hS, ?_⟩
   refine WH.one 3 rfl (by kernel_rfl) (fun _ _ h => h) ?_
   refine WL.store el27 (jt2 rfl (s3)) (lh) (errV_one s) hec (show 0 < 1 by decide) ?_
   intro w9 us
   have he3 : w9.heap[bE]? = some (.cells #[errV s] 27 (0, 0)) := us.at_
   have che3 := us.ch
   have hl4 := che3.at hl3 (fun e => by (try dsimp only at e); omega)
   have hS := hS.trans che3 (fun _ _ e => e) (fun _ _ e => .inr e)
   refine WL.nil Nx.thn ⟨hS, ?_⟩
   refine WH.done (by kernel_rfl) ?_
   refine WL.e2 Nx.thn 2 3 (jt2 rfl (s2)) (jt2 rfl (s3)) ?_
   intro σ5 s2 s3
   refine W.retG (Nx.rthn Nx.fG) ⟨[_, _], (.cell s2 (by assumption) (by exact ag25) (.cell1 s3 pl27 (by assumption) (by rfl) .nil)), ?_⟩
   exact ⟨⟨_, _, rfl, .inr ⟨((p9.1 : Int), (p9.2 : Int)), parseQ_scan hsp, rfl, (scL_err hsp).2.2⟩⟩, hcl.trans hS (fun _ _ e => e) (fun j hj e => by rcases e with e | e <;> omega)⟩
 ·
  obtain ⟨ts0, hsp⟩ : ∃ ts0, scanA (sb s) = .ok ts0 := by
    cases h9 : scanA (sb s) with
    | ok l => exact ⟨l, rfl⟩
    | error p9 => rw [(scL_err h9).2.2] at hse; cases hse
  have hsl : scL s = ts0 := (scL_ok hsp).1
  rw [(scL_ok hsp).2.2] at hec
  rw [hsl] at hu
  obtain ⟨ua, uc, rfl⟩ := hu.len
  refine W.skip Nx.thn ?_
  refine WX.put_off (mcons (s2) (mcons (s3) mnil)) rfl ?_
  have hpl2 := ag25
  have hpl3 := pl27
  refine WX.rest (E := fun σ v w' => σ 2 = .pointer (some ⟨bL, 0, none⟩) ∧ σ 3 = .pointer (some ⟨bE, 0, none⟩) ∧ v = wrg ∧ parseQ fP s = .error (0, 210) ∧ (∃ z, w'.heap[bL]? = some (.cells z 25 (0, 0)) ∧ z.size = 6) ∧ (∃ z, w'.heap[bE]? = some (.cells #[z] 27 (0, 0))) ∧ Ch0 w w') rfl ce17 ?_ (fun w9 => dfr_none bL bE w9) (fun σ9 v9 w9 ⟨h2, h3, hv, hx, ⟨z1, hz1, hzs⟩, ⟨z2, hz2⟩, hc9⟩ => by subst hv; exact CallsD.mono (dfr_fault bL bE z1 z2 w9 hz1 hzs hz2 (by omega)) (fun e u' w'' ⟨v', he, hu, hl, hee, hch⟩ => ⟨v', he, hu, [_, _], .cell h2 hl (by exact hpl2) (.cell1 h3 hpl3 hee rfl .nil), ⟨⟨_, _, rfl, .inr ⟨(0, 210), hx, rfl, rfl⟩⟩, hc9.trans hch (fun _ _ e => e) (fun j hj e => by rcases e with e | e <;> omega)⟩⟩))
  refine W.g3 2 3 4 (lt rfl (s2)) (lt rfl (s3)) (lt rfl (s4)) ?_; intro σ6 s2 s3 s4
  refine W.seq ?_
  refine W.region ?_
  refine WL.x (X.mv (s4)) rfl ?_
  refine WL.x (X.build bd51 (pcons (lh) pnil) rfl (rfl : _ = [_])) rfl ?_
  refine WL.box (lh) rfl ?_
  intro w10 us
  obtain ⟨p, hpE⟩ : ∃ p, p = w4.heap.size := ⟨_, rfl⟩
  rw [← hpE]
  have hp0 : w10.heap[p]? = some (.cells #[.slice ua ts0.length uc] 51 (0, 0)) := by rw [hpE]; exact us.at_
  have cbx := us.ch
  have hlp : bL < p ∧ bE < p := by have := lt_of_blk hlc; have := lt_of_blk hec; omega
  have hps : PS (p + 1) p ts0 w10 := ⟨by omega, lt_of_blk hp0, ⟨_, hp0, (hu.ch0 cbx).rsl ftk_len (fun k hk => ⟨by have := (hu.lt hk).2; omega, ((hu.ch0 cbx).ty hk).elim fun cs h => ⟨cs, _, h⟩⟩)⟩, scanA_R hsp, scanA_count hsp⟩
  replace hcl := hcl.trans0 cbx
  replace hlc := cbx.at0 hlc
  replace hec := cbx.at0 hec
  have hp1 := lt_of_blk hp0
  refine WL.x (X.asg (lh)) rfl ?_
  refine WL.e3 Nx.thn 2 3 5 (jt4 rfl (s2)) (jt4 rfl (s3)) (lh) ?_
  intro σ7 s2 s3 s5
  refine W.seq ?_
  refine W.region ?_
  refine WL.x (X.mv (s5)) rfl ?_
  refine WL.callP1 ce18 (lh) (report_ok (p + 1) p ts0 w10 hps) rfl (by rintro v w' ⟨hn, rfl, cx⟩; exact ⟨_, rfl, (lt rfl (s2)), (lt rfl (s3)), rfl, parseQ_none hsp (repP_none hn), ⟨_, cx.at hlc (fun e => by (try dsimp only at e); omega), rfl⟩, ⟨_, cx.at hec (fun e => by (try dsimp only at e); omega)⟩, hcl.trans cx (H := fun _ => False) (fun _ _ e => e) (fun j hj e => by (try dsimp only at e); omega)⟩) ?_
  rintro _ w11 ⟨x, rr, es, hrp, rfl, hes6, hR, hps, c6⟩
  have zc6 := c6.size
  have zcl := hcl.size
  replace hlc := c6.at hlc (fun e => by (try dsimp only at e); omega)
  replace hec := c6.at hec (fun e => by (try dsimp only at e); omega)
  replace hcl := hcl.trans c6 (H := fun _ => False) (fun _ _ e => e) (fun j hj e => by (try dsimp only at e); omega)
  replace hR := monRep _ (Mine [3, 67, 85] w.heap.size w11) _ _ _ _ _ (Ch.refl (fun _ => False) _) (fun _ _ => id) (fun j hj => hj.mono (fun _ h => h) (by omega)) hR
  refine WL.storeS (vs := es) ag25 (jt2 rfl (s2)) (lh) (RRep_one hR) hes6 hlc (by decide) ?_
  intro w12 us
  have hl3 := us.at_
  rw [blit_all (by rw [hes6]; rfl)] at hl3
  have hl3 : w12.heap[bL]? = some (.cells es.toArray 25 (0, 0)) := hl3
  have chl3 := us.ch
  replace hec := chl3.at hec (fun e => by (try dsimp only at e); omega)
  replace hps := hps.own2 chl3 (fun e => by (try dsimp only at e); omega) (fun j e => by have e : j = bL := e; subst e; exact ⟨_, _, _, hlc, by decide⟩)
  have hmL : ∀ j, Mine [3, 67, 85] w.heap.size w11 j → ¬ j = bL := mine_ne hlc (by decide)
  replace hR := monRep _ _ _ _ _ _ _ chl3 hmL (fun j hj => hj.ch chl3 (hmL j hj)) hR
  replace hcl := hcl.trans chl3 (H := fun _ => False) (fun _ _ e => e) (fun j hj e => by (try dsimp only at e); omega)
  have hlc := hl3
  refine WL.e3 Nx.thn 2 3 5 (jt2 rfl (s2)) (jt2 rfl (s3)) (jt2 rfl (s5)) ?_
  intro σ8 s2 s3 s5
  refine W.seq ?_
  refine W.seq ?_
  refine W.region ?_
  refine WL.x (X.mv (s5)) rfl ?_
  have hq9 := hps
  obtain ⟨-, -, ⟨v9, hp9, hr9⟩, -, -⟩ := hq9
  obtain ⟨a9, c9, rfl⟩ := hr9.len
  refine WL.x (X.nilck (lh)) rfl ?_
  refine WL.x (X.fieldAddr fd51_0 (lh)) rfl ?_
  refine WL.x (X.load pl44 (lh) (by assumption) (by rfl)) rfl ?_
  refine WL.x (X.lenSl Tryz.underlying44 (lh)) rfl ?_
  refine WL.x (X.gtr (lh) lc) rfl ?_
  refine WL.x (X.mv (lh)) rfl ?_
  refine WL.splitp (lh) (fun hz => ?_) (fun hz => ?_)
  ·
   refine WL.no rfl rfl (lh) (decide_eq_true hz) rfl ?_
   refine WL.no rfl rfl (lt rfl (lh)) (decide_eq_true hz) rfl ?_
   refine WL.no rfl rfl (jt2 rfl (lh)) (decide_eq_true hz) rfl ?_
   refine WL.x (X.pickT (jt2 rfl (lt rfl (lh))) (decide_eq_true hz) lc) rfl ?_
   refine WL.e3 Nx.thn 2 3 31 (jt8 rfl (jt2 rfl (lt rfl (s2)))) (jt8 rfl (jt2 rfl (lt rfl (s3)))) (lh) ?_
   intro σ9 s2 s3 s31
   refine W.cndT s31 ?_
   refine W.seq ?_
   refine W.region ?_
   refine WL.x (X.build bd25 pnil rfl (rfl : _ = [_, _, _, _, _, _])) rfl ?_
   refine WL.x (X.build bd48 (pcons lc pnil) rfl (rfl : _ = [_, _])) rfl ?_
   refine WL.x (X.iface Tryz.underlying48 trivial (lh)) rfl ?_
   refine WL.storeS (vs := [.int .i64 0, .bool false, .slice none 0 0, .int .i64 0, .int .i64 0, .slice none 0 0]) ag25 (jt2 rfl (lt rfl (s2))) (jt2 rfl (lh)) rfl rfl (by exact hlc) (by rw [List.size_toArray, hes6]; decide) ?_
   intro w13 us
   have hl3 := us.at_
   rw [blit_all (by (rw [List.size_toArray, hes6]; rfl))] at hl3
   have hl3 : w13.heap[bL]? = some (.cells zrep 25 (0, 0)) := hl3
   have chl3 := us.ch
   have hec9 := chl3.at (by exact hec : w12.heap[bE]? = some (.cells #[.nilIface] 27 (0, 0))) (fun e => by (try dsimp only at e); omega)
   refine WL.store el27 (jt2 rfl (lt rfl (s3))) (lh) rfl hec9 (show 0 < 1 by decide) ?_
   intro w14 us
   have he3 : w14.heap[bE]? = some (.cells #[flt 0 210] 27 (0, 0)) := us.at_
   have che3 := us.ch
   have hl4 := che3.at hl3 (fun e => by (try dsimp only at e); omega)
   refine WL.e2 Nx.thn 2 3 (jt2 rfl (lt rfl (s2))) (jt2 rfl (lt rfl (s3))) ?_
   intro σ10 s2 s3
   refine W.retG (Nx.rthn (Nx.panSR Nx.fG)) ⟨[_, _], (.cell s2 (by assumption) (by exact ag25) (.cell1 s3 pl27 (by assumption) (by rfl) .nil)), ?_⟩
   exact ⟨⟨_, _, rfl, .inr ⟨(0, 210), parseQ_none hsp (repP_left hrp (fun e => by rw [e] at hz; simp at hz)), rfl, rfl⟩⟩, (hcl.trans chl3 (H := fun _ => False) (fun _ _ e => e) (fun j hj e => by (try dsimp only at e); omega)).trans che3 (H := fun _ => False) (fun _ _ e => e) (fun j hj e => by (try dsimp only at e); omega)⟩
  ·
   refine WL.yes rfl rfl (lh) (decide_eq_false hz) ?_
   refine WL.x (X.loadBox (vs := es) ag25 (jt4 rfl (jt2 rfl (lt rfl (s2)))) hlc hes6) rfl ?_
   refine WL.yes rfl rfl (lt rfl (lh)) (decide_eq_false hz) ?_
   refine WL.call1 ce19 (lh) (can_ok _ x es w12 hR) rfl ?_
   rintro _ w15 ⟨rfl, c7⟩
   refine WL.yes rfl rfl (jt2 rfl (lh)) (decide_eq_false hz) ?_
   refine WL.x (X.not (lh)) rfl ?_
   refine WL.x (X.pickF (jt2 rfl (lt rfl (lh))) (decide_eq_false hz) (lh)) rfl ?_
   refine WL.e3 Nx.thn 2 3 31 (jt8 rfl (jt2 rfl (lt rfl (s2)))) (jt8 rfl (jt2 rfl (lt rfl (s3)))) (lh) ?_
   intro σ11 s2 s3 s31
   refine W.cnd s31 (fun hcan => ?_) (fun hcan => ?_)
   ·
    refine W.seq ?_
    refine W.region ?_
    refine WL.x (X.build bd25 pnil rfl (rfl : _ = [_, _, _, _, _, _])) rfl ?_
    refine WL.x (X.build bd48 (pcons lc pnil) rfl (rfl : _ = [_, _])) rfl ?_
    refine WL.x (X.iface Tryz.underlying48 trivial (lh)) rfl ?_
    refine WL.storeS (vs := [.int .i64 0, .bool false, .slice none 0 0, .int .i64 0, .int .i64 0, .slice none 0 0]) ag25 (jt2 rfl (lt rfl (s2))) (jt2 rfl (lh)) rfl rfl (by exact c7.at0 hlc) (by rw [List.size_toArray, hes6]; decide) ?_
    intro w16 us
    have hl3 := us.at_
    rw [blit_all (by (rw [List.size_toArray, hes6]; rfl))] at hl3
    have hl3 : w16.heap[bL]? = some (.cells zrep 25 (0, 0)) := hl3
    have chl3 := us.ch
    have hec9 := chl3.at (by exact c7.at0 hec : w15.heap[bE]? = some (.cells #[.nilIface] 27 (0, 0))) (fun e => by (try dsimp only at e); omega)
    refine WL.store el27 (jt2 rfl (lt rfl (s3))) (lh) rfl hec9 (show 0 < 1 by decide) ?_
    intro w17 us
    have he3 : w17.heap[bE]? = some (.cells #[flt 0 210] 27 (0, 0)) := us.at_
    have che3 := us.ch
    have hl4 := che3.at hl3 (fun e => by (try dsimp only at e); omega)
    refine WL.e2 Nx.thn 2 3 (jt2 rfl (lt rfl (s2))) (jt2 rfl (lt rfl (s3))) ?_
    intro σ12 s2 s3
    refine W.retG (Nx.rthn (Nx.panSR Nx.fG)) ⟨[_, _], (.cell s2 (by assumption) (by exact ag25) (.cell1 s3 pl27 (by assumption) (by rfl) .nil)), ?_⟩
    exact ⟨⟨_, _, rfl, .inr ⟨(0, 210), parseQ_none hsp (repP_bad (by rw [hrp, show rr = [] from List.eq_nil_of_length_eq_zero (by omega)]) (by simpa using hcan)), rfl, rfl⟩⟩, ((hcl.trans0 c7).trans chl3 (H := fun _ => False) (fun _ _ e => e) (fun j hj e => by (try dsimp only at e); omega)).trans che3 (H := fun _ => False) (fun _ _ e => e) (fun j hj e => by (try dsimp only at e); omega)⟩
   ·
    refine W.skip Nx.thn ?_
    refine W.seq ?_
    refine W.region ?_
    refine WL.x (X.loadBox (vs := es) ag25 (s2) (c7.at0 hlc) hes6) rfl ?_
    refine WL.storeS (vs := es) ag25 (lt rfl (s2)) (lh) (RRep_one hR) hes6 (c7.at0 hlc) (by rw [List.size_toArray, hes6]; decide) ?_
    intro w18 us
    have hl3 := us.at_
    rw [blit_all (by (rw [List.size_toArray, hes6]; done))] at hl3
    have hl3 : w18.heap[bL]? = some (.cells es.toArray 25 (0, 0)) := hl3
    have chl3 := us.ch
    have hec9 := chl3.at (c7.at0 hec) (fun e => by (try dsimp only at e); omega)
    have hR7 := monRep _ _ _ _ _ _ _ c7 (fun _ _ e => e) (fun j hj => hj.ch c7 (fun e => e)) hR
    have hmL : ∀ j, Mine [3, 67, 85] w.heap.size w15 j → ¬ j = bL := mine_ne (c7.at0 hlc) (by decide)
    have hR8 := monRep _ _ _ _ _ _ _ chl3 hmL (fun j hj => hj.ch chl3 (hmL j hj)) hR7
    refine WL.store el27 (lt rfl (s3)) (show ev _ (.const (.nilIface)) = _ from rfl) rfl hec9 (show 0 < 1 by decide) ?_
    intro w19 us
    have he3 : w19.heap[bE]? = some (.cells #[.nilIface] 27 (0, 0)) := us.at_
    have che3 := us.ch
    have hl4 := che3.at hl3 (fun e => by (try dsimp only at e); omega)
    have hmE : ∀ j, Mine [3, 67, 85] w.heap.size w18 j → ¬ j = bE := mine_ne hec9 (by decide)
    have hR9 := monRep _ _ _ _ _ _ _ che3 hmE (fun j hj => hj.ch che3 (hmE j hj)) hR8
    refine WL.e2 Nx.thn 2 3 (lt rfl (s2)) (lt rfl (s3)) ?_
    intro σ13 s2 s3
    refine W.retG (Nx.panSR Nx.fG) ⟨[_, _], (.cell s2 (by assumption) (by (rw [List.size_toArray, hes6]; exact ag25)) (.cell1 s3 pl27 (by assumption) (by rfl) .nil)), ?_⟩
    exact ⟨⟨_, _, rfl, .inl ⟨x, es, parseQ_some hsp (repP_ok (by rw [hrp, show rr = [] from List.eq_nil_of_length_eq_zero (by omega)]) (by simpa using hcan)), rfl, rfl, hR9⟩⟩, ((hcl.trans0 c7).trans chl3 (H := fun _ => False) (fun _ _ e => e) (fun j hj e => by (try dsimp only at e); omega)).trans che3 (H := fun _ => False) (fun _ _ e => e) (fun j hj e => by (try dsimp only at e); omega)⟩
end Go.Proofs.YtbnllchicnmkiaaGreatDoor
end
