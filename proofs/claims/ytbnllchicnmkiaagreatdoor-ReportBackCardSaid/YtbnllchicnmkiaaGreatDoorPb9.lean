/-
  Functions that put a call off (defer): over the lib that dlib.py has turned (n: how many temporaries, and what is put off). | A part of the walk of the program. | A part of the walk of the program. | A part of the walk of the program. | A part of the walk of the program.
-/
import Derived.Test.YtbnllchicnmkiaaGreatDoorPb8
import Derived.Defers
import Derived.Recover
section
namespace Sg
open Go Go.RowKit
section
variable {P : Program} {n : Sz} {σ : Env} {w : World} {F : Exit → Act → World → Prop}
/-- A walk whose end is told of the act itself. -/
def WX (P : Program) (n : Sz) (c : Code) (F : Exit → Act → World → Prop) (σ : Env) (w : World) : Prop := ∀ a, Sees a n σ → c.wp P F a w
def thnX (P : Program) (n : Sz) (c : Code) (F : Exit → Act → World → Prop) : Post
  | .normal, σ, w => WX P n c F σ w
  | e, σ, w => ∀ a, Sees a n σ → F e a w
theorem WX.seq {c1 c2 : Code} (h : W P n c1 (thnX P n c2 F) σ w) : WX P n (.seq c1 c2) F σ w := fun a ha => by
  refine wp_seq (wp_mono (h a ha) ?_)
  rintro e a' w' ⟨σ', hs, hq⟩
  cases e <;> exact hq a' hs
theorem WX.of {c : Code} {Q : Post} (h : W P n c Q σ w) (hQ : ∀ e σ' w' a', Sees a' n σ' → Q e σ' w' → F e a' w') : WX P n c F σ w := fun a ha => by
  refine wp_mono (h a ha) ?_
  rintro e a' w' ⟨σ', hs, hq⟩
  exact hQ e σ' w' a' hs hq
/-- A region, one behind the other, to an end that is told of the act. -/
def WLX (P : Program) (n : Sz) (ops : Array Oper) (F : Exit → Act → World → Prop) (l : List Oper) (σ : Env) (w : World) : Prop := ∀ a, Sees a n σ → wpList P ops F l a w
theorem WX.region {id : Nat} {l : List Oper} (h : WLX P n l.toArray F l σ w) : WX P n (.region id l.toArray false) F σ w := fun a ha => wp_region_lit (h a ha)
theorem WX.seqR {id : Nat} {l : List Oper} {c2 : Code} (h : WLX P n l.toArray (Exit.then (c2.wp P F) F) l σ w) : WX P n (.seq (.region id l.toArray false) c2) F σ w := fun a ha => wp_seq (wp_region_lit (h a ha))
variable {ops : Array Oper} {rest : List Oper} {d : Nat} {op : Op} {t : TypeId} {pos : String} {af : Array Edge} {v : Value}
theorem WLX.x (hx : X P σ w op t v) (hn : Nat.blt d n.sz = true) (h : WLX P n ops F rest (up σ d v) w) : WLX P n ops F (⟨some d, op, t, pos, af, none⟩ :: rest) σ w := by
  intro a ha
  unfold wpList
  rw [if_pos (by simp [Region.wanted])]
  refine .inl ?_
  unfold Oper.wp
  rw [ha.eval, hx, Oper.upon_value]
  exact h _ (ha.put hn)
theorem WLX.defer {o : Oper} {df : Deferred} (hg : o.guard = none) (hd : o.dst = none) (hx : (execOp (ev σ) o).run P w = .ok (.defer df) w) (h : WLX P ⟨n.sz, df :: n.ds⟩ ops F rest σ w) : WLX P n ops F (o :: rest) σ w := by
  intro a ha
  unfold wpList
  rw [if_pos (by simp [Region.wanted, hg])]
  refine .inl ?_
  unfold Oper.wp
  rw [ha.eval, hx, Oper.upon_defer, hd]
  exact h _ ⟨by simp [Act.put, ha.size], fun t => by simp only [Act.put]; exact ha.get t, by simp only [Act.put, ha.defers]⟩
theorem WLX.nil (h : ∀ a, Sees a n σ → F .normal a w) : WLX P n ops F [] σ w := fun a ha => h a ha
end
section
variable {P : Program} {n : Sz} {w : World} {f : Nat} {fn : Func} {c : Code} {l : List Value} {R : Ending → World → Prop}
theorem enterX (hf : P.funcs[f]? = some fn) (hb : fn.body = some c) (hm : (⟨fn.ntmps, []⟩ : Sz) = n) (hl : Nat.ble l.length n.sz = true) (h : WX P n c (bodyPostD P fn R) (env0 l) w) : Calls P f l.toArray w R := by
  refine calls_of_wp_defers hf hb ?_
  subst hm
  exact h _ (sees_enter hl)
end
/-- What recover hands back, and how its caller goes on. -/
def recOf : FrameMode → Value × FrameMode
  | .panicking ({ v, recovered := false, goexit := false } :: older) => (v, .panicking ({ v, recovered := true } :: older))
  | u => (.nilIface, u)
section
variable {P : Program} {w : World} {f d1 d2 : Nat} {fn : Func} {c2 : Code} {l : List Value} {R : Ending → FrameMode → World → Prop} {u : FrameMode}
theorem recoverD_of (c₀ : Frame) (cs : List Frame) (hu : c₀.mode = u) : (match recoverD (c₀ :: cs) with | some (v, cs') => (v, cs') | none => (.nilIface, c₀ :: cs)) = ((recOf u).1, { c₀ with mode := (recOf u).2 } :: cs) := by
  obtain ⟨cfn, ct, ctodo, cd, cm, ck, cr⟩ := c₀
  have hu : cm = u := hu
  subst hu
  cases cm with
  | panicking chain =>
    cases chain with
    | nil => rfl
    | cons en older =>
      obtain ⟨v, r, g⟩ := en
      cases r <;> cases g <;> rfl
  | _ => rfl
theorem enterRec {id : Nat} {t1 t2 : TypeId} {p1 p2 : String} {af1 af2 : Array Edge} {tys : Array TypeId} (hf : P.funcs[f]? = some fn)
    (hb : fn.body = some (.seq (.region id #[⟨some d1, .call ⟨.builtin .recover, #[], tys⟩, t1, p1, af1, none⟩, ⟨some d2, .assign (.tmp d1), t2, p2, af2, none⟩] false) c2))
    (hl : Nat.ble l.length fn.ntmps = true) (h1 : Nat.blt d1 fn.ntmps = true) (h2 : Nat.blt d2 fn.ntmps = true) (hr : fn.results = #[])
    (h : W P ⟨fn.ntmps, []⟩ c2 (fin0 fun v w' => R (.returned v) (recOf u).2 w') (up (up (env0 l) d1 (recOf u).1) d2 (recOf u).1) w) : CallsD P f l.toArray u w R := by
  refine callsD_of_wpS hf hb ?_
  intro c₀ cs hu
  refine wpS_seq (wpS_region ?_)
  have hs0 := sees_enter (l := l) (m := fn.ntmps) hl
  have hrec := recoverD_of c₀ cs hu
  generalize ha : ({ tmps := l.toArray ++ Array.replicate (fn.ntmps - l.toArray.size) undef, defers := [] } : Act) = a at hs0
  have hsz : l.toArray.size = l.length := rfl
  have hs1 := hs0.put (v := (recOf u).1) h1
  have hs2 := hs1.put (v := (recOf u).1) h2
  have goal2 : ∀ (cs' : List Frame), cs' = { c₀ with mode := (recOf u).2 } :: cs → wpOpsS P #[⟨some d1, .call ⟨.builtin .recover, #[], tys⟩, t1, p1, af1, none⟩, ⟨some d2, .assign (.tmp d1), t2, p2, af2, none⟩] (Exit.thenS (c2.wpS P (bodyPostS P fn c₀ cs R)) (bodyPostS P fn c₀ cs R)) [1] (a.put (some d1) (recOf u).1) cs' w := by
    rintro cs' rfl
    have he : (execOp (a.put (some d1) (recOf u).1).eval ⟨some d2, .assign (.tmp d1), t2, p2, af2, none⟩).run P w = .ok (.value (recOf u).1) w := by
      rw [hs1.eval]
      have : ev (up (env0 l) d1 (recOf u).1) (.tmp d1) = (recOf u).1 := by simp [ev, up]
      simp [execOp, this]
    unfold wpOpsS
    simp only [List.getElem?_toArray, List.getElem?_cons_succ, List.getElem?_cons_zero]
    rw [if_pos (by simp [Region.wanted]), he]
    simp only [Oper.upon_value]
    unfold wpOpsS
    show c2.wpS P _ _ _ _
    refine wpS_of_wp (wp_mono (h _ hs2) ?_)
    rintro e a' w' ⟨σ', hs, hq⟩
    cases e <;> first | exact hq.elim | exact ⟨hs.defers.trans (by rfl), _, rfl, _, results_none hr _ _ _, hq⟩
  show wpOpsS P _ _ (List.range 2) _ _ _
  rw [show List.range 2 = [0, 1] from rfl]
  unfold wpOpsS
  simp only [List.getElem?_toArray, List.getElem?_cons_zero]
  rw [if_pos (by simp [Region.wanted])]
  have he0 : ∀ (e : Operand → Value), (execOp e ⟨some d1, .call ⟨.builtin .recover, #[], tys⟩, t1, p1, af1, none⟩).run P w = .ok .recover w := fun e => by simp [execOp, resolve, invoke, builtin]
  rw [he0]
  simp only
  cases hq : recoverD (c₀ :: cs) with
  | none =>
    rw [hq] at hrec
    simp only [Prod.mk.injEq] at hrec
    show wpOpsS P _ _ [1] (a.put (some d1) .nilIface) (c₀ :: cs) w
    rw [hrec.1]
    exact goal2 _ hrec.2
  | some x =>
    obtain ⟨v, cs'⟩ := x
    rw [hq] at hrec
    simp only [Prod.mk.injEq] at hrec
    show wpOpsS P _ _ [1] (a.put (some d1) v) cs' w
    rw [hrec.1]
    exact goal2 _ hrec.2
end
section
variable {P : Program} {w : World} {σ : Env} {f : Nat} {caps : List Value}
theorem exec_defer {x : Operand} {tys : Array TypeId} {t : TypeId} {pos : String} {af : Array Edge} (hx : ev σ x = .func (.func f) #[] caps.toArray) :
    (execOp (ev σ) ⟨none, .defer ⟨.value x, #[], tys⟩, t, pos, af, none⟩).run P w = .ok (.defer { target := .fn (.func f) caps.toArray, args := #[] }) w := by
  simp [execOp, resolve, Deferred.ofValue, hx]
theorem leaves_one {fn : Func} {tmps : Array Value} {R : Ending → World → Prop} {u : FrameMode} (hc : Callee P f) (hu : u ≠ .run)
    (h : CallsD P f caps.toArray u w fun
      | .returned _, u', w' => Leaves P fn tmps R [] (settle u') w'
      | .panicked chain, u', w' => Leaves P fn tmps R [] (raised u' chain) w'
      | .outgrown, _, w' => R .outgrown w') : Leaves P fn tmps R [{ target := .fn (.func f) caps.toArray, args := #[] }] u w :=
  ⟨hu, .func f, caps.toArray, f, caps.toArray, rfl, by simp [invoke, run_callFunc hc], h⟩
end
/-- As pan; the end by panic is told of the temporaries, too. -/
def panS (E : Env → Value → World → Prop) (F : Post) : Post
  | .panic c, σ, w => ∃ v, c = [{ v, recovered := false }] ∧ E σ v w
  | e, σ, w => F e σ w
theorem Nx.panSR {E : Env → Value → World → Prop} {F : Post} {K : Env → World → Prop} (h : Nx F .ret K) : Nx (panS E F) .ret K := h
def retOnly (R : Value → World → Prop) : Ending → World → Prop := fun e w => ∃ v, e = .returned v ∧ R v w
section
variable {P : Program} {n : Sz} {σ : Env} {w : World} {fn : Func} {rs : List ResultVar} {R : Value → World → Prop}
theorem run_res {a : Act} {vs : List Value} (hs : Sees a n σ) (hr : fn.results = rs.toArray) (hv : Rs P σ w rs vs) : (results fn a.tmps).run P w = .ok (oneOf vs) w := by
  have hm := run_results hv
  have hfun : results fn a.tmps = (do let vs ← fn.results.mapM (m := Sem) (resS σ); pure (if h : vs.size = 1 then vs[0] else .tuple vs)) := by
    unfold results
    congr 1
    congr 1
    funext r
    cases r <;> simp only [resS, hs.get]
  rw [hfun, hr, Array.mapM_eq_mapM_toList]
  simp only [Sem.run_bind, Sem.run_map, hm, Result.andThen_ok, Sem.run_pure]
  congr 1
  match vs with
  | [] => rfl
  | [v] => rfl
  | _ :: _ :: _ => rfl
theorem WX.seqF {c1 c2 : Code} (hr : fn.results = rs.toArray) (hd : n.ds = []) (h : W P n c1 (thn (fun σ w => WX P n c2 (bodyPostD P fn (retOnly R)) σ w) (finG P rs R)) σ w) : WX P n (.seq c1 c2) (bodyPostD P fn (retOnly R)) σ w := by
  refine WX.seq (W.mono h fun e σ w hq => ?_)
  cases e with
  | normal => exact hq
  | ret =>
    obtain ⟨vs, hv, hR⟩ := hq
    intro a ha
    show Leaves P fn a.tmps (retOnly R) a.defers .returning w
    rw [ha.defers.trans hd]
    exact ⟨_, run_res ha hr hv, _, rfl, hR⟩
  | _ => exact hq.elim
theorem WX.put_off {F : Exit → Act → World → Prop} {c2 : Code} {id d f : Nat} {xs : List Operand} {vs : List Value} {t1 t2 : TypeId} {p1 p2 : String} {af1 af2 : Array Edge} {tys : Array TypeId} (hx : xs.map (ev σ) = vs) (hn : Nat.blt d n.sz = true)
    (h : WX P ⟨n.sz, { target := .fn (.func f) vs.toArray, args := #[] } :: n.ds⟩ c2 F (up σ d (.func (.func f) #[] vs.toArray)) w) :
    WX P n (.seq (.region id #[⟨some d, .makeFunc (.func f) #[] xs.toArray, t1, p1, af1, none⟩, ⟨none, .defer ⟨.value (.tmp d), #[], tys⟩, t2, p2, af2, none⟩] false) c2) F σ w :=
  WX.seqR (l := [⟨some d, .makeFunc (.func f) #[] xs.toArray, t1, p1, af1, none⟩, ⟨none, .defer ⟨.value (.tmp d), #[], tys⟩, t2, p2, af2, none⟩])
    (WLX.x (X.mkfn (first := []) (vf := []) rfl hx) hn (WLX.defer rfl rfl (exec_defer lh) (WLX.nil fun a ha => h a ha)))
theorem WX.rest {E : Env → Value → World → Prop} {caps : List Value} {f k : Nat} {c : Code} (hr : fn.results = rs.toArray) (hc : Callee P f)
    (h : W P ⟨k, [{ target := .fn (.func f) caps.toArray, args := #[] }]⟩ c (panS E (finG P rs R)) σ w)
    (hret : ∀ w', CallsD P f caps.toArray .returning w' fun e u' w'' => ∃ v, e = .returned v ∧ u' = .returning ∧ w'' = w')
    (hpan : ∀ σ' v w', E σ' v w' → CallsD P f caps.toArray (.panicking [{ v, recovered := false }]) w' fun e u' w'' => ∃ v', e = .returned v' ∧ settle u' = .returning ∧ ∃ vs, Rs P σ' w'' rs vs ∧ R (oneOf vs) w'') :
    WX P ⟨k, [{ target := .fn (.func f) caps.toArray, args := #[] }]⟩ c (bodyPostD P fn (retOnly R)) σ w := by
  refine WX.of h ?_
  intro e σ' w' a' hs hq
  have key : (∃ vs, Rs P σ' w' rs vs ∧ R (oneOf vs) w') → Leaves P fn a'.tmps (retOnly R) a'.defers .returning w' := by
    rintro ⟨vs, hv, hR⟩
    rw [hs.defers]
    refine leaves_one hc (by simp) (CallsD.mono (hret w') ?_)
    rintro e u' w'' ⟨v, rfl, rfl, rfl⟩
    exact ⟨_, run_res hs hr hv, _, rfl, hR⟩
  cases e with
  | normal => exact key hq
  | ret => exact key hq
  | panic ch =>
    obtain ⟨v, rfl, hE⟩ := hq
    show Leaves P fn a'.tmps (retOnly R) a'.defers (.panicking [{ v, recovered := false }]) w'
    rw [hs.defers]
    refine leaves_one hc (by simp) (CallsD.mono (hpan σ' v w' hE) ?_)
    rintro e u' w'' ⟨v', rfl, hu, vs, hv, hR⟩
    show Leaves P fn a'.tmps (retOnly R) [] (settle u') w''
    rw [hu]
    exact ⟨_, run_res hs hr hv, _, rfl, hR⟩
  | _ => exact hq.elim
theorem enterXR {f : Nat} {c : Code} {l : List Value} (hf : P.funcs[f]? = some fn) (hb : fn.body = some c) (hm : (⟨fn.ntmps, []⟩ : Sz) = n) (hl : Nat.ble l.length n.sz = true) (h : WX P n c (bodyPostD P fn (retOnly R)) (env0 l) w) : Ret P f l.toArray w R := enterX hf hb hm hl h
theorem WX.g1 {F : Exit → Act → World → Prop} {c : Code} (t : Nat) {v : Value} (h1 : σ t = v) (h : ∀ σ' : Env, σ' t = v → WX P n c F σ' w) : WX P n c F σ w := h σ h1
end
end Sg
end

section
set_option linter.unusedVariables false
set_option linter.unusedSimpArgs false
set_option maxRecDepth 100000
namespace Go.Proofs.YtbnllchicnmkiaaGreatDoor
open Go Go.RowKit Sg
theorem el27 : Sg.Elem Tryz.prog 27 1 (.nilIface) 16 := ⟨_, rfl, rfl, rfl, rfl⟩
theorem bd25 : Sg.Bld Tryz.prog 25 [0, 1, 2, 3, 4, 5] [.int .i64 0, .bool false, .slice none 0 0, .int .i64 0, .int .i64 0, .slice none 0 0] := ⟨_, rfl, rfl, .inl ⟨_, rfl, Sg.allIn rfl, Sg.allAt (n := 6) rfl⟩⟩
theorem pl27 : Sg.Plain Tryz.prog 27 := ⟨_, rfl, trivial⟩
theorem ce16 : Sg.Callee Tryz.prog 16 := ⟨_, Tryz.func16, by decide, rfl⟩
theorem ce17 : Sg.Callee Tryz.prog 17 := ⟨_, Tryz.func17, by decide, rfl⟩
theorem bd51 : Sg.Bld Tryz.prog 51 [0] [.slice none 0 0] := ⟨_, rfl, rfl, .inl ⟨_, rfl, Sg.allIn rfl, Sg.allAt (n := 1) rfl⟩⟩
theorem ce18 : Sg.Callee Tryz.prog 18 := ⟨_, Tryz.func18, by decide, rfl⟩
theorem ce19 : Sg.Callee Tryz.prog 19 := ⟨_, Tryz.func19, by decide, rfl⟩

def flt (at_ why : Int) : Value := .iface 48 (.agg #[.int .i64 at_, .int .i64 why])
theorem errV_one (s : ByteArray) : (errV s).oneCell' = true := by unfold errV; split <;> rfl
/-- The cells of a report that is none. -/
def zrep : Array Value := #[.int .i64 0, .bool false, .slice none 0 0, .int .i64 0, .int .i64 0, .slice none 0 0]
/-- What a text's reading comes to. -/
def parseQ (f : Wds) (s : ByteArray) : Except (Int × Int) QRep := match scanA (sb s) with
  | .error p => .error ((p.1 : Int), (p.2 : Int))
  | .ok ts => match repP f (mayR keyE) ts with
    | some x => .ok x
    | none => .error (0, 210)
theorem parseQ_scan {f : Wds} {s : ByteArray} {p : Nat × Nat} (h : scanA (sb s) = .error p) : parseQ f s = .error ((p.1 : Int), (p.2 : Int)) := by unfold parseQ; rw [h]
theorem parseQ_none {f : Wds} {s : ByteArray} {ts : List Tok} (h : scanA (sb s) = .ok ts) (h2 : repP f (mayR keyE) ts = none) : parseQ f s = .error (0, 210) := by unfold parseQ; rw [h]; simp only; rw [h2]
theorem parseQ_some {f : Wds} {s : ByteArray} {ts : List Tok} {x : QRep} (h : scanA (sb s) = .ok ts) (h2 : repP f (mayR keyE) ts = some x) : parseQ f s = .ok x := by unfold parseQ; rw [h]; simp only; rw [h2]
theorem parseQ_alike (s : ByteArray) : parseQ fR s = parseQ fP s := by
  unfold parseQ
  cases scanA (sb s) with
  | error p => rfl
  | ok ts => simp only; rw [rep_words wds_alike]
theorem repP_none {f : Wds} {may : QRep → Bool} {ts : List Tok} (h : prep f (skipP ts) = none) : repP f may ts = none := by unfold repP; rw [h]
theorem repP_left {f : Wds} {may : QRep → Bool} {ts : List Tok} {x : QRep} {r : List Tok} (h : prep f (skipP ts) = some (x, r)) (hr : r ≠ []) : repP f may ts = none := by
  unfold repP; rw [h]
  cases r with
  | nil => exact absurd rfl hr
  | cons t r => rfl
theorem repP_bad {f : Wds} {may : QRep → Bool} {ts : List Tok} {x : QRep} (h : prep f (skipP ts) = some (x, [])) (hm : may x = false) : repP f may ts = none := by unfold repP; rw [h]; simp only; rw [hm]; rfl
theorem repP_ok {f : Wds} {may : QRep → Bool} {ts : List Tok} {x : QRep} (h : prep f (skipP ts) = some (x, [])) (hm : may x = true) : repP f may ts = some x := by unfold repP; rw [h]; simp only; rw [hm]; rfl
/-- What a reading hands back. -/
def ParR (f : Wds) (s : ByteArray) (A : Nat → Prop) (w : World) (rv er : Value) : Prop :=
  (∃ x es, parseQ f s = .ok x ∧ rv = .agg es.toArray ∧ er = .nilIface ∧ RRep A w es x) ∨ (∃ x : Int × Int, parseQ f s = .error x ∧ rv = .agg zrep ∧ er = flt x.1 x.2)
theorem RRep_one {A : Nat → Prop} {w : World} {es : List Value} {x : GRep} (h : RRep A w es x) : es.all (·.oneCell') = true := by
  obtain ⟨v, u, rfl, h1, h2, _⟩ := h
  obtain ⟨a, c, rfl⟩ := h1.len
  obtain ⟨b, d, rfl⟩ := h2.1.len
  rfl

theorem dfr_none (lcb ecb : Nat) (w : World) :
  Go.CallsD Tryz.prog 17 #[.pointer (some ⟨lcb, 0, none⟩), .pointer (some ⟨ecb, 0, none⟩)] .returning w (fun e u' w' => ∃ v, e = .returned v ∧ u' = .returning ∧ w' = w) := by
 refine enterRec (l := [.pointer (some ⟨lcb, 0, none⟩), .pointer (some ⟨ecb, 0, none⟩)]) Tryz.func17 rfl rfl rfl rfl rfl ?_
 refine W.g3 0 1 2 (v1 := .pointer (some ⟨lcb, 0, none⟩)) (v2 := .pointer (some ⟨ecb, 0, none⟩)) (v3 := .nilIface) rfl rfl rfl ?_; intro σ s0 s1 s2
 refine W.seq ?_
 refine W.region ?_
 refine WL.x (X.mv (s2)) rfl ?_
 refine WL.x (v := .bool (!isNil .nilIface)) (X.neqI Tryz.underlying20 (lh) (.inl rfl)) rfl ?_
 refine WL.e3 Nx.thn 0 1 5 (jt2 rfl (s0)) (jt2 rfl (s1)) (lh) ?_
 intro σ1 s0 s1 s5
 refine W.cndBF s5 (rfl) ?_
 refine W.skip Nx.n0 ?_
 exact ⟨_, rfl, rfl, rfl⟩
theorem dfr_fault (lcb ecb : Nat) (z1 : Array Value) (z2 : Value) (w : World) (h1 : w.heap[lcb]? = some (.cells z1 25 (0, 0))) (hz1 : z1.size = 6) (h2 : w.heap[ecb]? = some (.cells #[z2] 27 (0, 0))) (hne : lcb ≠ ecb) :
  Go.CallsD Tryz.prog 17 #[.pointer (some ⟨lcb, 0, none⟩), .pointer (some ⟨ecb, 0, none⟩)] (.panicking [{ v := wrg, recovered := false }]) w (fun e u' w' => ∃ v, e = .returned v ∧ settle u' = .returning ∧ w'.heap[lcb]? = some (.cells zrep 25 (0, 0)) ∧ w'.heap[ecb]? = some (.cells #[flt 0 210] 27 (0, 0)) ∧ Ch (fun j => j = lcb ∨ j = ecb) w w') := by
 refine enterRec (l := [.pointer (some ⟨lcb, 0, none⟩), .pointer (some ⟨ecb, 0, none⟩)]) Tryz.func17 rfl rfl rfl rfl rfl ?_
 refine W.g3 0 1 2 (v1 := .pointer (some ⟨lcb, 0, none⟩)) (v2 := .pointer (some ⟨ecb, 0, none⟩)) (v3 := wrg) rfl rfl rfl ?_; intro σ s0 s1 s2
 refine W.seq ?_
 refine W.region ?_
 refine WL.x (X.mv (s2)) rfl ?_
 refine WL.x (v := .bool (!isNil wrg)) (X.neqI Tryz.underlying20 (lh) (.inr ⟨_, _, rfl⟩)) rfl ?_
 refine WL.e3 Nx.thn 0 1 5 (jt2 rfl (s0)) (jt2 rfl (s1)) (lh) ?_
 intro σ1 s0 s1 s5
 refine W.cndBT s5 (rfl) ?_
 refine W.region ?_
 refine WL.x (X.build bd25 pnil rfl (rfl : _ = [_, _, _, _, _, _])) rfl ?_
 refine WL.x (X.build bd48 (pcons lc pnil) rfl (rfl : _ = [_, _])) rfl ?_
 refine WL.x (X.iface Tryz.underlying48 trivial (lh)) rfl ?_
 refine WL.storeS (vs := [.int .i64 0, .bool false, .slice none 0 0, .int .i64 0, .int .i64 0, .slice none 0 0]) ag25 (jt2 rfl (lt rfl (s0))) (jt2 rfl (lh)) rfl rfl h1 (by rw [hz1]; decide) ?_
 intro w1 us
 have hl3 := us.at_
 rw [blit_all (by rw [hz1]; rfl)] at hl3
 have cs2 := us.ch
 have h23 := cs2.at h2 (fun e => hne e.symm)
 refine WL.store el27 (jt2 rfl (lt rfl (s1))) (lh) rfl h23 (show 0 + 0 < 1 by decide) ?_
 intro w2 us
 have he3 : w2.heap[ecb]? = some (.cells #[flt 0 210] 27 (0, 0)) := us.at_
 have cs3 := us.ch
 have hl4 := cs3.at hl3 (fun e => hne e)
 refine WL.e0 Nx.n0  ?_
 intro σ2 
 exact ⟨_, rfl, rfl, hl4, he3, cs2.trans cs3 (H := fun j => j = lcb ∨ j = ecb) (fun _ _ e => .inl e) (fun _ _ e => .inr e)⟩
set_option maxHeartbeats 3200000 in
theorem parse_ok (s : ByteArray) (w : World) (hER : ER w) :
  Sg.Ret Tryz.prog 7 #[.string s] w fun v w' => (∃ rv er, v = .tuple #[rv, er] ∧ ParR fP s (Mine [3, 67, 85] w.heap.size w') w' rv er) ∧ Ch0 w w' := by
 refine enterXR (n := 36) (l := [.string s]) Tryz.func7 rfl rfl rfl ?_
 refine WX.g1 0 (v := .string s) rfl ?_; intro σ s0
 refine WX.seqF rfl rfl ?_
 refine W.region ?_
 refine WL.alloc el25 rfl ?_
 intro w1 u0_0; have hu0_0 := u0_0.at_; have cu0_0 := u0_0.ch; have zu0_0 := u0_0.size
 refine WL.alloc el27 rfl ?_
 intro w2 u0_1; have hu0_1 := u0_1.at_; have cu0_1 := u0_1.ch; have zu0_1 := u0_1.size
 refine WL.e3 Nx.thn 0 2 3 (jt2 rfl (s0)) (lt rfl (lh)) (lh) ?_
 intro σ1 s0 s2 s3
 refine WX.seqF rfl rfl ?_
 refine W.region ?_
 refine WL.x (X.mv (s0)) rfl ?_
 refine WL.call1 ce16 (lh) (scan_fn s w2 (hER.ch0 (cu0_0.trans0 cu0_1))) rfl ?_
 rintro _ w3 ⟨⟨u, rfl, hu⟩, csc⟩
 refine WL.x (X.mv (lh)) rfl ?_
 refine WL.x (X.ex2_0 (lh)) rfl ?_
 refine WL.x (X.ex2_1 (lt rfl (lh))) rfl ?_
 refine WL.x (X.asg (lt rfl (lh))) rfl ?_
 have hzu0 := cu0_0.size
 have hzu1 := cu0_1.size
 have hzsc := csc.size
 refine WL.store el27 (jt4 rfl (jt2 rfl (s3))) (lt rfl (lh)) (errV_one s) (csc.at0 hu0_1) (show 0 < 1 by decide) ?_
 intro w4 us
 have hec : w4.heap[w1.heap.size]? = some (.cells #[errV s] 27 (0, 0)) := us.at_
 have cs16 := us.ch
 have hlc : w4.heap[w.heap.size]? = some (.cells zrep 25 (0, 0)) := cs16.at (csc.at0 (cu0_1.at0 hu0_0)) (fun e => by (try dsimp only at e); omega)
 have hcl : Ch0 w w4 := ((cu0_0.trans0 cu0_1).trans0 csc).trans cs16 (fun _ _ e => e) (fun q hq e => by (try dsimp only at e); omega)
 have hu := hu.ch cs16 (fun k hk e => by have := (hu.lt hk).1; (try dsimp only at e); omega)
 obtain ⟨bL, hlcE⟩ : ∃ bL, bL = w.heap.size := ⟨_, rfl⟩
 obtain ⟨bE, hecE⟩ : ∃ bE, bE = w1.heap.size := ⟨_, rfl⟩
 rw [← hlcE] at s2 hlc
 rw [← hecE] at s3 hec
 have hI := errV_isI s
 have hle : w.heap.size ≤ bL ∧ w.heap.size ≤ bE ∧ bL ≠ bE := by omega
 refine WL.e3 Nx.thn 2 3 4 (jt4 rfl (jt2 rfl (s2))) (jt4 rfl (jt2 rfl (s3))) (lh) ?_
 intro σ2 s2 s3 s4
 refine WX.seqF rfl rfl ?_
 refine W.seq ?_
 refine W.region ?_
 refine WL.x (X.load pl27 (s3) hec (v := errV s) rfl) rfl ?_
 refine WL.x (v := .bool (!isNil (errV s))) (X.neqI Tryz.underlying27 (lh) hI) rfl ?_
 refine WL.e4 Nx.thn 2 3 4 12 (jt2 rfl (s2)) (jt2 rfl (s3)) (jt2 rfl (s4)) (lh) ?_
 intro σ3 s2 s3 s4 s12
 refine W.cnd s12 (fun hse => ?_) (fun hse => ?_)
 ·
  obtain ⟨p9, hsp⟩ : ∃ p9, scanA (sb s) = .error p9 := by
    cases h9 : scanA (sb s) with
    | ok l => rw [(scL_ok h9).2.2] at hse; cases hse
    | error p9 => exact ⟨p9, rfl⟩
  refine W.seq ?_
  refine W.held (fun w' => Ch (fun j => j = bL ∨ j = bE) w4 w') mo ?_
  intro w5 qhh1 qc2
  have hS : Ch (fun j => j = bL ∨ j = bE) w4 w5 := Ch.weak qc2
  have hzqc2 := qc2.size
  have cdh3 := qc2
  replace hec := cdh3.at0 hec
  replace hlc := cdh3.at0 hlc
  refine WH.take 0 rfl (by kernel_rfl) (by kernel_rfl) (by kernel_rfl) (fun _ _ _ h => h) Gd.none rfl (fun w' hS' => X.build bd25 pnil rfl (rfl : _ = [_, _, _, _, _, _])) hS ?_
  refine WH.two 1 2 rfl rfl (by kernel_rfl) (fun _ _ h => h) ?_ ?_
  ·
   refine WL.x (X.load pl27 (lt rfl (s3)) hec (v := errV s) rfl) rfl ?_
   refine WL.nil Nx.thn ⟨hS, ?_⟩
   refine WH.one 2 rfl (by kernel_rfl) (fun _ _ h => h) ?_
   refine WL.storeS (vs := [.int .i64 0, .bool false, .slice none 0 0, .int .i64 0, .int .i64 0, .slice none 0 0]) ag25 (jt2 rfl (s2)) (lt rfl (lh)) rfl rfl hlc (by decide) ?_
   intro w6 us
   have hl3 := us.at_
   rw [blit_all (by rfl)] at hl3
   have hl3 : w6.heap[bL]? = some (.cells zrep 25 (0, 0)) := hl3
   have chl3 := us.ch
   replace hec := chl3.at hec (fun e => by (try dsimp only at e); omega)
   have hS := hS.trans chl3 (fun _ _ e => e) (fun _ _ e => .inl e)
   refine WL.nil Nx.thn ⟨hS, ?_⟩
   refine WH.one 3 rfl (by kernel_rfl) (fun _ _ h => h) ?_
   refine WL.store el27 (jt2 rfl (s3)) (lh) (errV_one s) hec (show 0 < 1 by decide) ?_
   intro w7 us
   have he3 : w7.heap[bE]? = some (.cells #[errV s] 27 (0, 0)) := us.at_
   have che3 := us.ch
   have hl4 := che3.at hl3 (fun e => by (try dsimp only at e); omega)
   have hS := hS.trans che3 (fun _ _ e => e) (fun _ _ e => .inr e)
   refine WL.nil Nx.thn ⟨hS, ?_⟩
   refine WH.done (by kernel_rfl) ?_
   refine WL.e2 Nx.thn 2 3 (jt2 rfl (s2)) (jt2 rfl (s3)) ?_
   intro σ4 s2 s3
   refine W.retG (Nx.rthn Nx.fG) ⟨[_, _], (.cell s2 (by assumption) (by exact ag25) (.cell1 s3 pl27 (by assumption) (by rfl) .nil)), ?_⟩
   exact ⟨⟨_, _, rfl, .inr ⟨((p9.1 : Int), (p9.2 : Int)), parseQ_scan hsp, rfl, (scL_err hsp).2.2⟩⟩, hcl.trans hS (fun _ _ e => e) (fun j hj e => by rcases e with e | e <;> omega)⟩
  ·
   refine WL.storeS (vs := [.int .i64 0, .bool false, .slice none 0 0, .int .i64 0, .int .i64 0, .slice none 0 0]) ag25 (lt rfl (s2)) (lh) rfl rfl hlc (by decide) ?_
   intro w8 us
   have hl3 := us.at_
   rw [blit_all (by rfl)] at hl3
   have hl3 : w8.heap[bL]? = some (.cells zrep 25 (0, 0)) := hl3
   have chl3 := us.ch
   replace hec := chl3.at hec (fun e => by (try dsimp only at e); omega)
   have hS := hS.trans chl3 (fun _ _ e => e) (fun _ _ e => .inl e)
   refine WL.nil Nx.thn ⟨hS, ?_⟩
   refine WH.one 1 rfl (by kernel_rfl) (fun _ _ h => h) ?_
   refine WL.x (X.load pl27 (lt rfl (s3)) hec (v := errV s) rfl) rfl ?_
   refine WL.nil Nx.thn ⟨hS, ?_⟩
   refine WH.one 3 rfl (by kernel_rfl) (fun _ _ h => h) ?_
   refine WL.store el27 (jt2 rfl (s3)) (lh) (errV_one s) hec (show 0 < 1 by decide) ?_
   intro w9 us
   have he3 : w9.heap[bE]? = some (.cells #[errV s] 27 (0, 0)) := us.at_
   have che3 := us.ch
   have hl4 := che3.at hl3 (fun e => by (try dsimp only at e); omega)
   have hS := hS.trans che3 (fun _ _ e => e) (fun _ _ e => .inr e)
   refine WL.nil Nx.thn ⟨hS, ?_⟩
   refine WH.done (by kernel_rfl) ?_
   refine WL.e2 Nx.thn 2 3 (jt2 rfl (s2)) (jt2 rfl (s3)) ?_
   intro σ5 s2 s3
   refine W.retG (Nx.rthn Nx.fG) ⟨[_, _], (.cell s2 (by assumption) (by exact ag25) (.cell1 s3 pl27 (by assumption) (by rfl) .nil)), ?_⟩
   exact ⟨⟨_, _, rfl, .inr ⟨((p9.1 : Int), (p9.2 : Int)), parseQ_scan hsp, rfl, (scL_err hsp).2.2⟩⟩, hcl.trans hS (fun _ _ e => e) (fun j hj e => by rcases e with e | e <;> omega)⟩
 ·
  obtain ⟨ts0, hsp⟩ : ∃ ts0, scanA (sb s) = .ok ts0 := by
    cases h9 : scanA (sb s) with
    | ok l => exact ⟨l, rfl⟩
    | error p9 => rw [(scL_err h9).2.2] at hse; cases hse
  have hsl : scL s = ts0 := (scL_ok hsp).1
  rw [(scL_ok hsp).2.2] at hec
  rw [hsl] at hu
  obtain ⟨ua, uc, rfl⟩ := hu.len
  refine W.skip Nx.thn ?_
  refine WX.put_off (mcons (s2) (mcons (s3) mnil)) rfl ?_
  have hpl2 := ag25
  have hpl3 := pl27
  refine WX.rest (E := fun σ v w' => σ 2 = .pointer (some ⟨bL, 0, none⟩) ∧ σ 3 = .pointer (some ⟨bE, 0, none⟩) ∧ v = wrg ∧ parseQ fP s = .error (0, 210) ∧ (∃ z, w'.heap[bL]? = some (.cells z 25 (0, 0)) ∧ z.size = 6) ∧ (∃ z, w'.heap[bE]? = some (.cells #[z] 27 (0, 0))) ∧ Ch0 w w') rfl ce17 ?_ (fun w9 => dfr_none bL bE w9) (fun σ9 v9 w9 ⟨h2, h3, hv, hx, ⟨z1, hz1, hzs⟩, ⟨z2, hz2⟩, hc9⟩ => by subst hv; exact CallsD.mono (dfr_fault bL bE z1 z2 w9 hz1 hzs hz2 (by omega)) (fun e u' w'' ⟨v', he, hu, hl, hee, hch⟩ => ⟨v', he, hu, [_, _], .cell h2 hl (by exact hpl2) (.cell1 h3 hpl3 hee rfl .nil), ⟨⟨_, _, rfl, .inr ⟨(0, 210), hx, rfl, rfl⟩⟩, hc9.trans hch (fun _ _ e => e) (fun j hj e => by rcases e with e | e <;> omega)⟩⟩))
  refine W.g3 2 3 4 (lt rfl (s2)) (lt rfl (s3)) (lt rfl (s4)) ?_; intro σ6 s2 s3 s4
  refine W.seq ?_
  refine W.region ?_
  refine WL.x (X.mv (s4)) rfl ?_
  refine WL.x (X.build bd51 (pcons (lh) pnil) rfl (rfl : _ = [_])) rfl ?_
  refine WL.box (lh) rfl ?_
  intro w10 us
  obtain ⟨p, hpE⟩ : ∃ p, p = w4.heap.size := ⟨_, rfl⟩
  rw [← hpE]
  have hp0 : w10.heap[p]? = some (.cells #[.slice ua ts0.length uc] 51 (0, 0)) := by rw [hpE]; exact us.at_
  have cbx := us.ch
  have hlp : bL < p ∧ bE < p := by have := lt_of_blk hlc; have := lt_of_blk hec; omega
  have hps : PS (p + 1) p ts0 w10 := ⟨by omega, lt_of_blk hp0, ⟨_, hp0, (hu.ch0 cbx).rsl ftk_len (fun k hk => ⟨by have := (hu.lt hk).2; omega, ((hu.ch0 cbx).ty hk).elim fun cs h => ⟨cs, _, h⟩⟩)⟩, scanA_R hsp, scanA_count hsp⟩
  replace hcl := hcl.trans0 cbx
  replace hlc := cbx.at0 hlc
  replace hec := cbx.at0 hec
  have hp1 := lt_of_blk hp0
  refine WL.x (X.asg (lh)) rfl ?_
  refine WL.e3 Nx.thn 2 3 5 (jt4 rfl (s2)) (jt4 rfl (s3)) (lh) ?_
  intro σ7 s2 s3 s5
  refine W.seq ?_
  refine W.region ?_
  refine WL.x (X.mv (s5)) rfl ?_
  refine WL.callP1 ce18 (lh) (report_ok (p + 1) p ts0 w10 hps) rfl (by rintro v w' ⟨hn, rfl, cx⟩; exact ⟨_, rfl, (lt rfl (s2)), (lt rfl (s3)), rfl, parseQ_none hsp (repP_none hn), ⟨_, cx.at hlc (fun e => by (try dsimp only at e); omega), rfl⟩, ⟨_, cx.at hec (fun e => by (try dsimp only at e); omega)⟩, hcl.trans cx (H := fun _ => False) (fun _ _ e => e) (fun j hj e => by (try dsimp only at e); omega)⟩) ?_
  rintro _ w11 ⟨x, rr, es, hrp, rfl, hes6, hR, hps, c6⟩
  have zc6 := c6.size
  have zcl := hcl.size
  replace hlc := c6.at hlc (fun e => by (try dsimp only at e); omega)
  replace hec := c6.at hec (fun e => by (try dsimp only at e); omega)
  replace hcl := hcl.trans c6 (H := fun _ => False) (fun _ _ e => e) (fun j hj e => by (try dsimp only at e); omega)
  replace hR := monRep _ (Mine [3, 67, 85] w.heap.size w11) _ _ _ _ _ (Ch.refl (fun _ => False) _) (fun _ _ => id) (fun j hj => hj.mono (fun _ h => h) (by omega)) hR
  refine WL.storeS (vs := es) ag25 (jt2 rfl (s2)) (lh) (RRep_one hR) hes6 hlc (by decide) ?_
  intro w12 us
  have hl3 := us.at_
  rw [blit_all (by rw [hes6]; rfl)] at hl3
  have hl3 : w12.heap[bL]? = some (.cells es.toArray 25 (0, 0)) := hl3
  have chl3 := us.ch
  replace hec := chl3.at hec (fun e => by (try dsimp only at e); omega)
  replace hps := hps.own2 chl3 (fun e => by (try dsimp only at e); omega) (fun j e => by have e : j = bL := e; subst e; exact ⟨_, _, _, hlc, by decide⟩)
  have hmL : ∀ j, Mine [3, 67, 85] w.heap.size w11 j → ¬ j = bL := mine_ne hlc (by decide)
  replace hR := monRep _ _ _ _ _ _ _ chl3 hmL (fun j hj => hj.ch chl3 (hmL j hj)) hR
  replace hcl := hcl.trans chl3 (H := fun _ => False) (fun _ _ e => e) (fun j hj e => by (try dsimp only at e); omega)
  have hlc := hl3
  refine WL.e3 Nx.thn 2 3 5 (jt2 rfl (s2)) (jt2 rfl (s3)) (jt2 rfl (s5)) ?_
  intro σ8 s2 s3 s5
  refine W.seq ?_
  refine W.seq ?_
  refine W.region ?_
  refine WL.x (X.mv (s5)) rfl ?_
  have hq9 := hps
  obtain ⟨-, -, ⟨v9, hp9, hr9⟩, -, -⟩ := hq9
  obtain ⟨a9, c9, rfl⟩ := hr9.len
  refine WL.x (X.nilck (lh)) rfl ?_
  refine WL.x (X.fieldAddr fd51_0 (lh)) rfl ?_
  refine WL.x (X.load pl44 (lh) (by assumption) (by rfl)) rfl ?_
  refine WL.x (X.lenSl Tryz.underlying44 (lh)) rfl ?_
  refine WL.x (X.gtr (lh) lc) rfl ?_
  refine WL.x (X.mv (lh)) rfl ?_
  refine WL.splitp (lh) (fun hz => ?_) (fun hz => ?_)
  ·
   refine WL.no rfl rfl (lh) (decide_eq_true hz) rfl ?_
   refine WL.no rfl rfl (lt rfl (lh)) (decide_eq_true hz) rfl ?_
   refine WL.no rfl rfl (jt2 rfl (lh)) (decide_eq_true hz) rfl ?_
   refine WL.x (X.pickT (jt2 rfl (lt rfl (lh))) (decide_eq_true hz) lc) rfl ?_
   refine WL.e3 Nx.thn 2 3 31 (jt8 rfl (jt2 rfl (lt rfl (s2)))) (jt8 rfl (jt2 rfl (lt rfl (s3)))) (lh) ?_
   intro σ9 s2 s3 s31
   refine W.cndT s31 ?_
   refine W.seq ?_
   refine W.region ?_
   refine WL.x (X.build bd25 pnil rfl (rfl : _ = [_, _, _, _, _, _])) rfl ?_
   refine WL.x (X.build bd48 (pcons lc pnil) rfl (rfl : _ = [_, _])) rfl ?_
   refine WL.x (X.iface Tryz.underlying48 trivial (lh)) rfl ?_
   refine WL.storeS (vs := [.int .i64 0, .bool false, .slice none 0 0, .int .i64 0, .int .i64 0, .slice none 0 0]) ag25 (jt2 rfl (lt rfl (s2))) (jt2 rfl (lh)) rfl rfl (by exact hlc) (by rw [List.size_toArray, hes6]; decide) ?_
   intro w13 us
   have hl3 := us.at_
   rw [blit_all (by (rw [List.size_toArray, hes6]; rfl))] at hl3
   have hl3 : w13.heap[bL]? = some (.cells zrep 25 (0, 0)) := hl3
   have chl3 := us.ch
   have hec9 := chl3.at (by exact hec : w12.heap[bE]? = some (.cells #[.nilIface] 27 (0, 0))) (fun e => by (try dsimp only at e); omega)
   refine WL.store el27 (jt2 rfl (lt rfl (s3))) (lh) rfl hec9 (show 0 < 1 by decide) ?_
   intro w14 us
   have he3 : w14.heap[bE]? = some (.cells #[flt 0 210] 27 (0, 0)) := us.at_
   have che3 := us.ch
   have hl4 := che3.at hl3 (fun e => by (try dsimp only at e); omega)
   refine WL.e2 Nx.thn 2 3 (jt2 rfl (lt rfl (s2))) (jt2 rfl (lt rfl (s3))) ?_
   intro σ10 s2 s3
   refine W.retG (Nx.rthn (Nx.panSR Nx.fG)) ⟨[_, _], (.cell s2 (by assumption) (by exact ag25) (.cell1 s3 pl27 (by assumption) (by rfl) .nil)), ?_⟩
   exact ⟨⟨_, _, rfl, .inr ⟨(0, 210), parseQ_none hsp (repP_left hrp (fun e => by rw [e] at hz; simp at hz)), rfl, rfl⟩⟩, (hcl.trans chl3 (H := fun _ => False) (fun _ _ e => e) (fun j hj e => by (try dsimp only at e); omega)).trans che3 (H := fun _ => False) (fun _ _ e => e) (fun j hj e => by (try dsimp only at e); omega)⟩
  ·
   refine WL.yes rfl rfl (lh) (decide_eq_false hz) ?_
   refine WL.x (X.loadBox (vs := es) ag25 (jt4 rfl (jt2 rfl (lt rfl (s2)))) hlc hes6) rfl ?_
   refine WL.yes rfl rfl (lt rfl (lh)) (decide_eq_false hz) ?_
   refine WL.call1 ce19 (lh) (can_ok _ x es w12 hR) rfl ?_
   rintro _ w15 ⟨rfl, c7⟩
   refine WL.yes rfl rfl (jt2 rfl (lh)) (decide_eq_false hz) ?_
   refine WL.x (X.not (lh)) rfl ?_
   refine WL.x (X.pickF (jt2 rfl (lt rfl (lh))) (decide_eq_false hz) (lh)) rfl ?_
   refine WL.e3 Nx.thn 2 3 31 (jt8 rfl (jt2 rfl (lt rfl (s2)))) (jt8 rfl (jt2 rfl (lt rfl (s3)))) (lh) ?_
   intro σ11 s2 s3 s31
   refine W.cnd s31 (fun hcan => ?_) (fun hcan => ?_)
   ·
    refine W.seq ?_
    refine W.region ?_
    refine WL.x (X.build bd25 pnil rfl (rfl : _ = [_, _, _, _, _, _])) rfl ?_
    refine WL.x (X.build bd48 (pcons lc pnil) rfl (rfl : _ = [_, _])) rfl ?_
    refine WL.x (X.iface Tryz.underlying48 trivial (lh)) rfl ?_
    refine WL.storeS (vs := [.int .i64 0, .bool false, .slice none 0 0, .int .i64 0, .int .i64 0, .slice none 0 0]) ag25 (jt2 rfl (lt rfl (s2))) (jt2 rfl (lh)) rfl rfl (by exact c7.at0 hlc) (by rw [List.size_toArray, hes6]; decide) ?_
    intro w16 us
    have hl3 := us.at_
    rw [blit_all (by (rw [List.size_toArray, hes6]; rfl))] at hl3
    have hl3 : w16.heap[bL]? = some (.cells zrep 25 (0, 0)) := hl3
    have chl3 := us.ch
    have hec9 := chl3.at (by exact c7.at0 hec : w15.heap[bE]? = some (.cells #[.nilIface] 27 (0, 0))) (fun e => by (try dsimp only at e); omega)
    refine WL.store el27 (jt2 rfl (lt rfl (s3))) (lh) rfl hec9 (show 0 < 1 by decide) ?_
    intro w17 us
    have he3 : w17.heap[bE]? = some (.cells #[flt 0 210] 27 (0, 0)) := us.at_
    have che3 := us.ch
    have hl4 := che3.at hl3 (fun e => by (try dsimp only at e); omega)
    refine WL.e2 Nx.thn 2 3 (jt2 rfl (lt rfl (s2))) (jt2 rfl (lt rfl (s3))) ?_
    intro σ12 s2 s3
    refine W.retG (Nx.rthn (Nx.panSR Nx.fG)) ⟨[_, _], (.cell s2 (by assumption) (by exact ag25) (.cell1 s3 pl27 (by assumption) (by rfl) .nil)), ?_⟩
    exact ⟨⟨_, _, rfl, .inr ⟨(0, 210), parseQ_none hsp (repP_bad (by rw [hrp, show rr = [] from List.eq_nil_of_length_eq_zero (by omega)]) (by simpa using hcan)), rfl, rfl⟩⟩, ((hcl.trans0 c7).trans chl3 (H := fun _ => False) (fun _ _ e => e) (fun j hj e => by (try dsimp only at e); omega)).trans che3 (H := fun _ => False) (fun _ _ e => e) (fun j hj e => by (try dsimp only at e); omega)⟩
   ·
    refine W.skip Nx.thn ?_
    refine W.seq ?_
    refine W.region ?_
    refine WL.x (X.loadBox (vs := es) ag25 (s2) (c7.at0 hlc) hes6) rfl ?_
    refine WL.storeS (vs := es) ag25 (lt rfl (s2)) (lh) (RRep_one hR) hes6 (c7.at0 hlc) (by rw [List.size_toArray, hes6]; decide) ?_
    intro w18 us
    have hl3 := us.at_
    rw [blit_all (by (rw [List.size_toArray, hes6]; done))] at hl3
    have hl3 : w18.heap[bL]? = some (.cells es.toArray 25 (0, 0)) := hl3
    have chl3 := us.ch
    have hec9 := chl3.at (c7.at0 hec) (fun e => by (try dsimp only at e); omega)
    have hR7 := monRep _ _ _ _ _ _ _ c7 (fun _ _ e => e) (fun j hj => hj.ch c7 (fun e => e)) hR
    have hmL : ∀ j, Mine [3, 67, 85] w.heap.size w15 j → ¬ j = bL := mine_ne (c7.at0 hlc) (by decide)
    have hR8 := monRep _ _ _ _ _ _ _ chl3 hmL (fun j hj => hj.ch chl3 (hmL j hj)) hR7
    refine WL.store el27 (lt rfl (s3)) (show ev _ (.const (.nilIface)) = _ from rfl) rfl hec9 (show 0 < 1 by decide) ?_
    intro w19 us
    have he3 : w19.heap[bE]? = some (.cells #[.nilIface] 27 (0, 0)) := us.at_
    have che3 := us.ch
    have hl4 := che3.at hl3 (fun e => by (try dsimp only at e); omega)
    have hmE : ∀ j, Mine [3, 67, 85] w.heap.size w18 j → ¬ j = bE := mine_ne hec9 (by decide)
    have hR9 := monRep _ _ _ _ _ _ _ che3 hmE (fun j hj => hj.ch che3 (hmE j hj)) hR8
    refine WL.e2 Nx.thn 2 3 (lt rfl (s2)) (lt rfl (s3)) ?_
    intro σ13 s2 s3
    refine W.retG (Nx.panSR Nx.fG) ⟨[_, _], (.cell s2 (by assumption) (by (rw [List.size_toArray, hes6]; exact ag25)) (.cell1 s3 pl27 (by assumption) (by rfl) .nil)), ?_⟩
    exact ⟨⟨_, _, rfl, .inl ⟨x, es, parseQ_some hsp (repP_ok (by rw [hrp, show rr = [] from List.eq_nil_of_length_eq_zero (by omega)]) (by simpa using hcan)), rfl, rfl, hR9⟩⟩, ((hcl.trans0 c7).trans chl3 (H := fun _ => False) (fun _ _ e => e) (fun j hj e => by (try dsimp only at e); omega)).trans che3 (H := fun _ => False) (fun _ _ e => e) (fun j hj e => by (try dsimp only at e); omega)⟩
end Go.Proofs.YtbnllchicnmkiaaGreatDoor
end

section
set_option linter.unusedVariables false
set_option linter.unusedSimpArgs false
set_option maxRecDepth 100000
namespace Go.Proofs.YtbnllchicnmkiaaGreatDoor
open Go Go.RowKit Sg
theorem ce29 : Sg.Callee Tryz.prog 29 := ⟨_, Tryz.func29, by decide, rfl⟩

theorem StO.order_yes {β : Type} {a : Int} (ha : a = 1) {x : OT} {tgt : Option (β × List Tok)} {K : List Int → PR β} (h : StO x tgt (pbind (porder a) K)) : StO x tgt (pbind (ptok 3 (mk1 40)) fun _ => pbind (pmany (fun ts => seesB ts 2 no) pnum) fun l => pbind (ptok 3 (mk1 41)) fun _ => K l) := by
  rcases h with h | ⟨ts, rfl, h2⟩
  · exact .inl h
  · exact .inr ⟨ts, rfl, h2.trans (Go.Proofs.YtbnllchicnmkiaaGreatDoor.order_yes ha K ts)⟩
theorem StO.order_no {β : Type} {a : Int} (ha : a ≠ 1) {x : OT} {tgt : Option (β × List Tok)} {K : List Int → PR β} (h : StO x tgt (pbind (porder a) K)) : StO x tgt (K []) := by
  rcases h with h | ⟨ts, rfl, h2⟩
  · exact .inl h
  · exact .inr ⟨ts, rfl, h2.trans (Go.Proofs.YtbnllchicnmkiaaGreatDoor.order_no ha K ts)⟩
end Go.Proofs.YtbnllchicnmkiaaGreatDoor
end

section
set_option linter.unusedVariables false
set_option linter.unusedSimpArgs false
set_option maxRecDepth 100000
namespace Go.Proofs.YtbnllchicnmkiaaGreatDoor
open Go Go.RowKit Sg
theorem ce47 : Sg.Callee Tryz.prog 47 := ⟨_, Tryz.func47, by decide, rfl⟩
theorem ce75 : Sg.Callee Tryz.prog 75 := ⟨_, Tryz.func75, by decide, rfl⟩
theorem ce45 : Sg.Callee Tryz.prog 45 := ⟨_, Tryz.func45, by decide, rfl⟩
theorem ce31 : Sg.Callee Tryz.prog 31 := ⟨_, Tryz.func31, by decide, rfl⟩
theorem ce32 : Sg.Callee Tryz.prog 32 := ⟨_, Tryz.func32, by decide, rfl⟩
theorem eqi_walk (a1 a2 : Option Addr) (c1 c2 : Nat) (l1 l2 : List Int) (w : World) (h1 : Sl w (.slice a1 l1.length c1) (l1.map (Value.int .i64))) (h2 : Sl w (.slice a2 l2.length c2) (l2.map (Value.int .i64))) (hl : l1.length ≤ 140737488355328) :
  Sg.Ret Tryz.prog 31 #[.slice a1 l1.length c1, .slice a2 l2.length c2] w fun v w' => v = .bool (decide (l1 = l2)) ∧ Dr w w' := by
 refine enter1 (n := 26) (l := [.slice a1 l1.length c1, .slice a2 l2.length c2]) Tryz.func31 rfl rfl rfl rfl ?_
 refine W.g2 0 1 (v1 := .slice a1 l1.length c1) (v2 := .slice a2 l2.length c2) rfl rfl ?_; intro σ s0 s1
 refine W.seq ?_
 refine W.region ?_
 refine WL.x (X.asg lc) rfl ?_
 refine WL.e2 Nx.thn 0 1 (lt rfl (s0)) (lt rfl (s1)) ?_
 intro σ1 s0 s1
 refine W.seq ?_
 refine W.seq ?_
 refine W.region ?_
 refine WL.x (X.mv (s0)) rfl ?_
 refine WL.x (X.lenSl Tryz.underlying23 (lh)) rfl ?_
 refine WL.x (X.mv (jt2 rfl (s1))) rfl ?_
 refine WL.x (X.lenSl Tryz.underlying23 (lh)) rfl ?_
 refine WL.x (X.neq (jt2 rfl (lh)) (lh)) rfl ?_
 refine WL.e3 Nx.thn 0 1 10 (jt4 rfl (lt rfl (s0))) (jt4 rfl (lt rfl (s1))) (lh) ?_
 intro σ2 s0 s1 s10
 refine W.cndp s10 (fun hlen => ?_) (fun hlen => ?_)
 ·
  refine W.seq ?_
  refine W.region ?_
  refine WL.x (X.asg lc) rfl ?_
  refine WL.e1 Nx.thn 4 (lh) ?_
  intro σ3 s4
  refine W.ret1 (Nx.rthn Nx.f1) s4 ?_
  exact ⟨by rw [decide_eq_false (fun e => hlen (by rw [e]))], Dr.refl _⟩
 ·
  have hlen : l1.length = l2.length := by omega
  refine W.skip Nx.thn ?_
  refine W.seq ?_
  refine W.seq ?_
  refine W.region ?_
  refine WL.x (X.mv (s0)) rfl ?_
  refine WL.x (X.lenSl Tryz.underlying23 (lh)) rfl ?_
  refine WL.x (X.mv lc) rfl ?_
  refine WL.e4 Nx.thn 0 1 12 13 (jt2 rfl (lt rfl (s0))) (jt2 rfl (lt rfl (s1))) (lt rfl (lh)) (lh) ?_
  intro σ4 s0 s1 s12 s13
  refine W.block ?_
  have qo1 := s0
  have qo2 := s1
  have qo3 := s12
  -- loop 0: kept [0, 1, 12], varied [13]
  refine W.loop (G := Nat) (fun k σ' w' => (σ' 0 = σ4 0 ∧ σ' 1 = σ4 1 ∧ σ' 12 = σ4 12 ∧ True) ∧ (σ' 13 = .int .i64 (k : Int) ∧ k ≤ l1.length ∧ Dr w w' ∧ ∀ i, i < k → l1[i]? = l2[i]?)) (fun k => l1.length - k) (0) ⟨⟨rfl, rfl, rfl, trivial⟩, s13, by omega, Dr.refl _, fun i hi => absurd hi (by omega)⟩ ?_
  rintro k σ5 w1 ⟨⟨f0, f1, f12, _⟩, s13, hk, hdr, heq⟩
  have s0 := f0.trans qo1
  have s1 := f1.trans qo2
  have s12 := f12.trans qo3
  refine W.seq ?_
  refine W.region ?_
  refine WL.x (X.lss (s13) (s12)) rfl ?_
  refine WL.e5 Nx.thn 0 1 12 13 14 (lt rfl (s0)) (lt rfl (s1)) (lt rfl (s12)) (lt rfl (s13)) (lh) ?_
  intro σ6 s0 s1 s12 s13 s14
  refine W.seq ?_
  refine W.cndp s14 (fun hlt => ?_) (fun hlt => ?_)
  ·
   obtain ⟨b1, o1, cs1, T1, fr1, rfl, hm1, hc1⟩ := h1.at (k := k) (by simp; omega)
   obtain ⟨b2, o2, cs2, T2, fr2, rfl, hm2, hc2⟩ := h2.at (k := k) (by simp; omega)
   have hm1 := hdr.ch0.at0 hm1
   have hm2 := hdr.ch0.at0 hm2
   have hg1 : cs1[o1 + (k : Int).toNat * 1]? = some (.int .i64 (l1.getD k 0)) := by rw [show (k : Int).toNat * 1 = k by omega, hc1 k (by simp; omega)]; simp [List.getD_eq_getElem?_getD, List.getElem?_eq_getElem (show k < l1.length by omega)]
   have hg2 : cs2[o2 + (k : Int).toNat * 1]? = some (.int .i64 (l2.getD k 0)) := by rw [show (k : Int).toNat * 1 = k by omega, hc2 k (by simp; omega)]; simp [List.getD_eq_getElem?_getD, List.getElem?_eq_getElem (show k < l2.length by omega)]
   refine W.skip Nx.thn ?_
   refine W.seq ?_
   refine W.block ?_
   refine W.seq ?_
   refine W.region ?_
   refine WL.x (X.mv (s13)) rfl ?_
   refine WL.x (X.asg (lh)) rfl ?_
   refine WL.e5 Nx.thn 0 1 5 12 13 (jt2 rfl (s0)) (jt2 rfl (s1)) (lh) (jt2 rfl (s12)) (jt2 rfl (s13)) ?_
   intro σ7 s0 s1 s5 s12 s13
   refine W.seq ?_
   refine W.draw mo (by kernel_rfl) Nx.thn ?_
   refine WQ.x (fun _ => X.mv (s0)) rfl ?_
   refine WQ.x (fun _ => X.mv (lt rfl (s5))) rfl ?_
   refine WQ.x (fun _ => X.indexAddr Tryz.underlying23 el3 (lt rfl (lh)) (lh) (by omega) (by omega)) rfl ?_
   refine WQ.x (fun m => X.load pl3 (lh) hm1 hg1) rfl ?_
   refine WQ.x (fun _ => X.mv (jt4 rfl (s1))) rfl ?_
   refine WQ.x (fun _ => X.mv (jt4 rfl (lt rfl (s5)))) rfl ?_
   refine WQ.x (fun _ => X.indexAddr Tryz.underlying23 el3 (lt rfl (lh)) (lh) (by omega) (by omega)) rfl ?_
   refine WQ.x (fun m => X.load pl3 (lh) hm2 hg2) rfl ?_
   refine WQ.x (fun _ => X.neq (jt4 rfl (lh)) (lh)) rfl ?_
   refine WQ.e5 0 1 12 13 24 (jt8 rfl (lt rfl (s0))) (jt8 rfl (lt rfl (s1))) (jt8 rfl (lt rfl (s12))) (jt8 rfl (lt rfl (s13))) (lh) ?_
   intro σ8 s0 s1 s12 s13 s24
   intro _; refine gdrew ?_; intro w2 hh6 cd6 dr6
   refine W.cndp s24 (fun hq => ?_) (fun hq => ?_)
   ·
    refine W.seq ?_
    refine W.region ?_
    refine WL.x (X.asg lc) rfl ?_
    refine WL.e1 Nx.thn 4 (lh) ?_
    intro σ9 s4
    refine W.ret1 (Nx.rblk (Nx.rthn (Nx.rthn (Nx.rblk (Nx.rthn Nx.f1))))) s4 ?_
    exact ⟨by rw [decide_eq_false (fun e => hq (by rw [e]))], hdr.trans dr6⟩
   ·
    refine W.skip (Nx.blk Nx.thn) ?_
    refine W.region ?_
    refine WL.x (X.add (s13) lc (by omega) (by omega)) rfl ?_
    refine WL.x (X.mv (lh)) rfl ?_
    refine WL.e4 Nx.thn 0 1 12 13 (jt2 rfl (s0)) (jt2 rfl (s1)) (jt2 rfl (s12)) (lh) ?_
    intro σ10 s0 s1 s12 s13
    have hq : l1.getD k 0 = l2.getD k 0 := Classical.not_not.1 hq
    refine ⟨k + 1, by omega, ⟨s0.trans qo1.symm, s1.trans qo2.symm, s12.trans qo3.symm, trivial⟩, s13, by omega, hdr.trans dr6, fun i hi => by by_cases e : i = k; (· subst e; simp only [List.getD_eq_getElem?_getD, List.getElem?_eq_getElem (show i < l1.length by omega), List.getElem?_eq_getElem (show i < l2.length by omega), Option.getD_some] at hq ⊢; rw [hq]); (· exact heq i (by omega))⟩
  ·
   refine W.exit (Nx.xthn (Nx.xthn (Nx.xblk Nx.thn))) ?_
   refine W.seq ?_
   refine W.region ?_
   refine WL.x (X.asg lc) rfl ?_
   refine WL.e1 Nx.thn 4 (lh) ?_
   intro σ11 s4
   refine W.ret1 Nx.f1 s4 ?_
   exact ⟨by rw [decide_eq_true (List.ext_getElem? fun i => by by_cases h : i < l1.length; (· exact heq i (by omega)); (· rw [List.getElem?_eq_none (by omega), List.getElem?_eq_none (by omega)]))], hdr⟩
theorem eqi_ok (v1 v2 : Value) (l1 l2 : List Int) (w : World) (h1 : Sl w v1 (l1.map (Value.int .i64))) (h2 : Sl w v2 (l2.map (Value.int .i64))) (hl : l1.length ≤ 140737488355328) :
    Sg.Ret Tryz.prog 31 #[v1, v2] w fun v w' => v = .bool (decide (l1 = l2)) ∧ Dr w w' := by
  obtain ⟨a1, c1, e1⟩ := h1.len
  obtain ⟨a2, c2, e2⟩ := h2.len
  simp only [List.length_map] at e1 e2
  subst e1; subst e2
  exact eqi_walk a1 a2 c1 c2 l1 l2 w h1 h2 hl

theorem eqw_walk (A A2 : Nat → Prop) (a1 a2 : Option Addr) (c1 c2 : Nat) (l1 l2 : List GWhy) (w : World) (h1 : RSl 8 RWhy A w (.slice a1 l1.length c1) l1) (h2 : RSl 8 RWhy A2 w (.slice a2 l2.length c2) l2) (hl : l1.length ≤ 140737488355328) :
  Sg.Ret Tryz.prog 47 #[.slice a1 l1.length c1, .slice a2 l2.length c2] w fun v w' => v = .bool (decide (l1 = l2)) ∧ Dr w w' := by
 refine enter1 (n := 26) (l := [.slice a1 l1.length c1, .slice a2 l2.length c2]) Tryz.func47 rfl rfl rfl rfl ?_
 refine W.g2 0 1 (v1 := .slice a1 l1.length c1) (v2 := .slice a2 l2.length c2) rfl rfl ?_; intro σ s0 s1
 refine W.seq ?_
 refine W.region ?_
 refine WL.x (X.asg lc) rfl ?_
 refine WL.e2 Nx.thn 0 1 (lt rfl (s0)) (lt rfl (s1)) ?_
 intro σ1 s0 s1
 refine W.seq ?_
 refine W.seq ?_
 refine W.region ?_
 refine WL.x (X.mv (s0)) rfl ?_
 refine WL.x (X.lenSl Tryz.underlying65 (lh)) rfl ?_
 refine WL.x (X.mv (jt2 rfl (s1))) rfl ?_
 refine WL.x (X.lenSl Tryz.underlying65 (lh)) rfl ?_
 refine WL.x (X.neq (jt2 rfl (lh)) (lh)) rfl ?_
 refine WL.e3 Nx.thn 0 1 10 (jt4 rfl (lt rfl (s0))) (jt4 rfl (lt rfl (s1))) (lh) ?_
 intro σ2 s0 s1 s10
 refine W.cndp s10 (fun hlen => ?_) (fun hlen => ?_)
 ·
  refine W.seq ?_
  refine W.region ?_
  refine WL.x (X.asg lc) rfl ?_
  refine WL.e1 Nx.thn 4 (lh) ?_
  intro σ3 s4
  refine W.ret1 (Nx.rthn Nx.f1) s4 ?_
  exact ⟨by rw [decide_eq_false (fun e => hlen (by rw [e]))], Dr.refl _⟩
 ·
  have hlen : l1.length = l2.length := by omega
  refine W.skip Nx.thn ?_
  refine W.seq ?_
  refine W.seq ?_
  refine W.region ?_
  refine WL.x (X.mv (s0)) rfl ?_
  refine WL.x (X.lenSl Tryz.underlying65 (lh)) rfl ?_
  refine WL.x (X.mv lc) rfl ?_
  refine WL.e4 Nx.thn 0 1 12 13 (jt2 rfl (lt rfl (s0))) (jt2 rfl (lt rfl (s1))) (lt rfl (lh)) (lh) ?_
  intro σ4 s0 s1 s12 s13
  refine W.block ?_
  have qo1 := s0
  have qo2 := s1
  have qo3 := s12
  -- loop 0: kept [0, 1, 12], varied [13]
  refine W.loop (G := Nat) (fun k σ' w' => (σ' 0 = σ4 0 ∧ σ' 1 = σ4 1 ∧ σ' 12 = σ4 12 ∧ True) ∧ (σ' 13 = .int .i64 (k : Int) ∧ k ≤ l1.length ∧ Dr w w' ∧ ∀ i, i < k → l1[i]? = l2[i]?)) (fun k => l1.length - k) (0) ⟨⟨rfl, rfl, rfl, trivial⟩, s13, by omega, Dr.refl _, fun i hi => absurd hi (by omega)⟩ ?_
  rintro k σ5 w1 ⟨⟨f0, f1, f12, _⟩, s13, hk, hdr, heq⟩
  have s0 := f0.trans qo1
  have s1 := f1.trans qo2
  have s12 := f12.trans qo3
  refine W.seq ?_
  refine W.region ?_
  refine WL.x (X.lss (s13) (s12)) rfl ?_
  refine WL.e5 Nx.thn 0 1 12 13 14 (lt rfl (s0)) (lt rfl (s1)) (lt rfl (s12)) (lt rfl (s13)) (lh) ?_
  intro σ6 s0 s1 s12 s13 s14
  refine W.seq ?_
  refine W.cndp s14 (fun hlt => ?_) (fun hlt => ?_)
  ·
   obtain ⟨b1, o1, cs1, T1, fr1, es1, rfl, hml1, hes1, hgl1, hr1⟩ := (h1.ch0 monWhy hdr.ch0).at (k := k) (by omega)
   obtain ⟨b2, o2, cs2, T2, fr2, es2, rfl, hml2, hes2, hgl2, hr2⟩ := (h2.ch0 monWhy hdr.ch0).at (k := k) (by omega)
   obtain ⟨rfl, -⟩ := hr1
   obtain ⟨rfl, -⟩ := hr2
   obtain ⟨fs, hfs, hcm⟩ := cmp_why l1[k] l2[k]
   refine W.skip Nx.thn ?_
   refine W.seq ?_
   refine W.block ?_
   refine W.seq ?_
   refine W.region ?_
   refine WL.x (X.mv (s13)) rfl ?_
   refine WL.x (X.asg (lh)) rfl ?_
   refine WL.e5 Nx.thn 0 1 5 12 13 (jt2 rfl (s0)) (jt2 rfl (s1)) (lh) (jt2 rfl (s12)) (jt2 rfl (s13)) ?_
   intro σ7 s0 s1 s5 s12 s13
   refine W.seq ?_
   refine W.draw mo (by kernel_rfl) Nx.thn ?_
   refine WQ.x (fun _ => X.mv (s0)) rfl ?_
   refine WQ.x (fun _ => X.mv (lt rfl (s5))) rfl ?_
   refine WQ.x (fun _ => X.indexAddr Tryz.underlying65 el85 (lt rfl (lh)) (lh) (by omega) (by omega)) rfl ?_
   refine WQ.x (fun m => X.loadS ag85 (lh) hml1 hes1 hgl1) rfl ?_
   refine WQ.x (fun _ => X.mv (jt4 rfl (s1))) rfl ?_
   refine WQ.x (fun _ => X.mv (jt4 rfl (lt rfl (s5)))) rfl ?_
   refine WQ.x (fun _ => X.indexAddr Tryz.underlying65 el85 (lt rfl (lh)) (lh) (by omega) (by omega)) rfl ?_
   refine WQ.x (fun m => X.loadS ag85 (lh) hml2 hes2 hgl2) rfl ?_
   refine WQ.x (fun m => X.neqAgg hfs hp_why hg_why (jt4 rfl (lh)) (lh) hcm (cmpv_why _ _)) rfl ?_
   refine WQ.e5 0 1 12 13 24 (jt8 rfl (lt rfl (s0))) (jt8 rfl (lt rfl (s1))) (jt8 rfl (lt rfl (s12))) (jt8 rfl (lt rfl (s13))) (lh) ?_
   intro σ8 s0 s1 s12 s13 s24
   intro _; refine gdrew ?_; intro w2 hh6 cd6 dr6
   refine W.cndp s24 (fun hq => ?_) (fun hq => ?_)
   ·
    refine W.seq ?_
    refine W.region ?_
    refine WL.x (X.asg lc) rfl ?_
    refine WL.e1 Nx.thn 4 (lh) ?_
    intro σ9 s4
    refine W.ret1 (Nx.rblk (Nx.rthn (Nx.rthn (Nx.rblk (Nx.rthn Nx.f1))))) s4 ?_
    exact ⟨by rw [decide_eq_false (fun e => by subst e; exact hq rfl)], hdr.trans dr6⟩
   ·
    refine W.skip (Nx.blk Nx.thn) ?_
    refine W.region ?_
    refine WL.x (X.add (s13) lc (by omega) (by omega)) rfl ?_
    refine WL.x (X.mv (lh)) rfl ?_
    refine WL.e4 Nx.thn 0 1 12 13 (jt2 rfl (s0)) (jt2 rfl (s1)) (jt2 rfl (s12)) (lh) ?_
    intro σ10 s0 s1 s12 s13
    have hq1 : l1[k] = l2[k] := Classical.not_not.1 hq
    refine ⟨k + 1, by omega, ⟨s0.trans qo1.symm, s1.trans qo2.symm, s12.trans qo3.symm, trivial⟩, s13, by omega, hdr.trans dr6, fun i hi => by by_cases e : i = k; (· subst e; rw [List.getElem?_eq_getElem (by omega), List.getElem?_eq_getElem (by omega), hq1]); (· exact heq i (by omega))⟩
  ·
   refine W.exit (Nx.xthn (Nx.xthn (Nx.xblk Nx.thn))) ?_
   refine W.seq ?_
   refine W.region ?_
   refine WL.x (X.asg lc) rfl ?_
   refine WL.e1 Nx.thn 4 (lh) ?_
   intro σ11 s4
   refine W.ret1 Nx.f1 s4 ?_
   exact ⟨by rw [decide_eq_true (List.ext_getElem? fun i => by by_cases h : i < l1.length; (· exact heq i (by omega)); (· rw [List.getElem?_eq_none (by omega), List.getElem?_eq_none (by omega)]))], hdr⟩
theorem eqw_ok (A A2 : Nat → Prop) (v1 v2 : Value) (l1 l2 : List GWhy) (w : World) (h1 : RSl 8 RWhy A w v1 l1) (h2 : RSl 8 RWhy A2 w v2 l2) (hl : l1.length ≤ 140737488355328) : Sg.Ret Tryz.prog 47 #[v1, v2] w fun v w' => v = .bool (decide (l1 = l2)) ∧ Dr w w' := by
  obtain ⟨a1, c1, rfl, h1⟩ := h1.at'
  obtain ⟨a2, c2, rfl, h2⟩ := h2.at'
  exact eqw_walk A A2 a1 a2 c1 c2 l1 l2 w h1 h2 hl

theorem aneqP_ok (A A2 : Nat → Prop) (x y : GAn) (es1 es2 : List Value) (w : World) (h1 : RAn A w es1 x) (h2 : RAn A2 w es2 y) :
  Sg.Ret Tryz.prog 75 #[.agg es1.toArray, .agg es2.toArray] w fun v w' => v = .bool (decide (x = y)) ∧ Ch0 w w' := by
 obtain ⟨k1, t1, o1, p1, key1, val1, cy1, re1, lev1⟩ := x
 obtain ⟨k2, t2, o2, p2, key2, val2, cy2, re2, lev2⟩ := y
 obtain ⟨v1, rfl, hs1, hb1⟩ := h1
 obtain ⟨v2, rfl, hs2, hb2⟩ := h2
 dsimp only at hs1 hs2 hb1 hb2
 obtain ⟨a1, c1, rfl, hs1⟩ := hs1.at'
 obtain ⟨a2, c2, rfl, hs2⟩ := hs2.at'
 refine enter1 (n := 66) (l := [.agg #[.int .i64 k1, .int .i64 t1, .int .i64 o1, .int .i64 p1, .string key1, .int .i64 val1, .slice a1 cy1.length c1, .bool re1, .int .i64 lev1], .agg #[.int .i64 k2, .int .i64 t2, .int .i64 o2, .int .i64 p2, .string key2, .int .i64 val2, .slice a2 cy2.length c2, .bool re2, .int .i64 lev2]]) Tryz.func75 rfl rfl rfl rfl ?_
 refine W.g2 0 1 (v1 := .agg #[.int .i64 k1, .int .i64 t1, .int .i64 o1, .int .i64 p1, .string key1, .int .i64 val1, .slice a1 cy1.length c1, .bool re1, .int .i64 lev1]) (v2 := .agg #[.int .i64 k2, .int .i64 t2, .int .i64 o2, .int .i64 p2, .string key2, .int .i64 val2, .slice a2 cy2.length c2, .bool re2, .int .i64 lev2]) rfl rfl ?_; intro σ s0 s1
 refine W.seq ?_
 refine W.region ?_
 refine WL.box (s0) rfl ?_
 intro w1 u0_0; have hu0_0 := u0_0.at_; have cu0_0 := u0_0.ch; have zu0_0 := u0_0.size
 refine WL.box (lt rfl (s1)) rfl ?_
 intro w2 u0_1; have hu0_1 := u0_1.at_; have cu0_1 := u0_1.ch; have zu0_1 := u0_1.size
 refine WL.x (X.asg lc) rfl ?_
 refine WL.e2 Nx.thn 2 3 (jt2 rfl (lh)) (lt rfl (lh)) ?_
 intro σ1 s2 s3
 refine W.seq ?_
 refine W.region ?_
 refine WL.x (X.fieldAddr fd67_0 (s2)) rfl ?_
 refine WL.x (X.load pl3 (lh) (by exact cu0_1.at0 (by assumption)) (by rfl)) rfl ?_
 refine WL.x (X.fieldAddr fd67_0 (jt2 rfl (s3))) rfl ?_
 refine WL.x (X.load pl3 (lh) (by assumption) (by rfl)) rfl ?_
 refine WL.x (X.eql (jt2 rfl (lh)) (lh)) rfl ?_
 refine WL.x (X.mv (lh)) rfl ?_
 refine WL.splitp (lh) (fun q1 => ?_) (fun q1 => ?_)
 ·
  refine WL.yes rfl rfl (lh) (decide_eq_true q1) ?_
  refine WL.x (X.fieldAddr fd67_1 (jt4 rfl (jt2 rfl (s2)))) rfl ?_
  refine WL.yes rfl rfl (lt rfl (lh)) (decide_eq_true q1) ?_
  refine WL.x (X.load pl3 (lh) (by exact cu0_1.at0 (by assumption)) (by rfl)) rfl ?_
  refine WL.yes rfl rfl (jt2 rfl (lh)) (decide_eq_true q1) ?_
  refine WL.x (X.fieldAddr fd67_1 (jt8 rfl (s3))) rfl ?_
  refine WL.yes rfl rfl (jt2 rfl (lt rfl (lh))) (decide_eq_true q1) ?_
  refine WL.x (X.load pl3 (lh) (by assumption) (by rfl)) rfl ?_
  refine WL.yes rfl rfl (jt4 rfl (lh)) (decide_eq_true q1) ?_
  refine WL.x (X.eql (jt2 rfl (lh)) (lh)) rfl ?_
  refine WL.x (X.pickT (jt4 rfl (lt rfl (lh))) (decide_eq_true q1) (lh)) rfl ?_
  refine WL.x (X.mv (lh)) rfl ?_
  refine WL.splitp (lh) (fun q2 => ?_) (fun q2 => ?_)
  ·
   refine WL.yes rfl rfl (lh) (decide_eq_true q2) ?_
   refine WL.x (X.fieldAddr fd67_2 (jt8 rfl (jt4 rfl (lt rfl (s2))))) rfl ?_
   refine WL.yes rfl rfl (lt rfl (lh)) (decide_eq_true q2) ?_
   refine WL.x (X.load pl3 (lh) (by exact cu0_1.at0 (by assumption)) (by rfl)) rfl ?_
   refine WL.yes rfl rfl (jt2 rfl (lh)) (decide_eq_true q2) ?_
   refine WL.x (X.fieldAddr fd67_2 (jt8 rfl (jt4 rfl (jt2 rfl (lt rfl (s3)))))) rfl ?_
   refine WL.yes rfl rfl (jt2 rfl (lt rfl (lh))) (decide_eq_true q2) ?_
   refine WL.x (X.load pl3 (lh) (by assumption) (by rfl)) rfl ?_
   refine WL.yes rfl rfl (jt4 rfl (lh)) (decide_eq_true q2) ?_
   refine WL.x (X.eql (jt2 rfl (lh)) (lh)) rfl ?_
   refine WL.x (X.pickT (jt4 rfl (lt rfl (lh))) (decide_eq_true q2) (lh)) rfl ?_
   refine WL.x (X.mv (lh)) rfl ?_
   refine WL.splitp (lh) (fun q3 => ?_) (fun q3 => ?_)
   ·
    refine WL.yes rfl rfl (lh) (decide_eq_true q3) ?_
    refine WL.x (X.fieldAddr fd67_3 (jt8 rfl (jt8 rfl (jt4 rfl (s2))))) rfl ?_
    refine WL.yes rfl rfl (lt rfl (lh)) (decide_eq_true q3) ?_
    refine WL.x (X.load pl3 (lh) (by exact cu0_1.at0 (by assumption)) (by rfl)) rfl ?_
    refine WL.yes rfl rfl (jt2 rfl (lh)) (decide_eq_true q3) ?_
    refine WL.x (X.fieldAddr fd67_3 (jt8 rfl (jt8 rfl (jt4 rfl (jt2 rfl (s3)))))) rfl ?_
    refine WL.yes rfl rfl (jt2 rfl (lt rfl (lh))) (decide_eq_true q3) ?_
    refine WL.x (X.load pl3 (lh) (by assumption) (by rfl)) rfl ?_
    refine WL.yes rfl rfl (jt4 rfl (lh)) (decide_eq_true q3) ?_
    refine WL.x (X.eql (jt2 rfl (lh)) (lh)) rfl ?_
    refine WL.x (X.pickT (jt4 rfl (lt rfl (lh))) (decide_eq_true q3) (lh)) rfl ?_
    refine WL.x (X.mv (lh)) rfl ?_
    refine WL.splitp (lh) (fun q4 => ?_) (fun q4 => ?_)
    ·
     refine WL.yes rfl rfl (lh) (decide_eq_true q4) ?_
     refine WL.x (X.fieldAddr fd67_4 (jt8 rfl (jt8 rfl (jt8 rfl (jt2 rfl (lt rfl (s2))))))) rfl ?_
     refine WL.yes rfl rfl (lt rfl (lh)) (decide_eq_true q4) ?_
     refine WL.x (X.load pl9 (lh) (by exact cu0_1.at0 (by assumption)) (by rfl)) rfl ?_
     refine WL.yes rfl rfl (jt2 rfl (lh)) (decide_eq_true q4) ?_
     refine WL.x (X.fieldAddr fd67_4 (jt8 rfl (jt8 rfl (jt8 rfl (jt4 rfl (lt rfl (s3))))))) rfl ?_
     refine WL.yes rfl rfl (jt2 rfl (lt rfl (lh))) (decide_eq_true q4) ?_
     refine WL.x (X.load pl9 (lh) (by assumption) (by rfl)) rfl ?_
     refine WL.yes rfl rfl (jt4 rfl (lh)) (decide_eq_true q4) ?_
     refine WL.x (X.eqlS (jt2 rfl (lh)) (lh)) rfl ?_
     refine WL.x (X.pickT (jt4 rfl (lt rfl (lh))) (decide_eq_true q4) (lh)) rfl ?_
     refine WL.x (X.mv (lh)) rfl ?_
     refine WL.splitp (lh) (fun q5 => ?_) (fun q5 => ?_)
     ·
      refine WL.yes rfl rfl (lh) (decide_eq_true q5) ?_
      refine WL.x (X.fieldAddr fd67_5 (jt8 rfl (jt8 rfl (jt8 rfl (jt8 rfl (jt2 rfl (s2))))))) rfl ?_
      refine WL.yes rfl rfl (lt rfl (lh)) (decide_eq_true q5) ?_
      refine WL.x (X.load pl3 (lh) (by exact cu0_1.at0 (by assumption)) (by rfl)) rfl ?_
      refine WL.yes rfl rfl (jt2 rfl (lh)) (decide_eq_true q5) ?_
      refine WL.x (X.fieldAddr fd67_5 (jt8 rfl (jt8 rfl (jt8 rfl (jt8 rfl (jt4 rfl (s3))))))) rfl ?_
      refine WL.yes rfl rfl (jt2 rfl (lt rfl (lh))) (decide_eq_true q5) ?_
      refine WL.x (X.load pl3 (lh) (by assumption) (by rfl)) rfl ?_
      refine WL.yes rfl rfl (jt4 rfl (lh)) (decide_eq_true q5) ?_
      refine WL.x (X.eql (jt2 rfl (lh)) (lh)) rfl ?_
      refine WL.x (X.pickT (jt4 rfl (lt rfl (lh))) (decide_eq_true q5) (lh)) rfl ?_
      refine WL.x (X.mv (lh)) rfl ?_
      refine WL.splitp (lh) (fun q6 => ?_) (fun q6 => ?_)
      ·
       refine WL.yes rfl rfl (lh) (decide_eq_true q6) ?_
       refine WL.x (X.fieldAddr fd67_7 (jt8 rfl (jt8 rfl (jt8 rfl (jt8 rfl (jt8 rfl (lt rfl (s2)))))))) rfl ?_
       refine WL.yes rfl rfl (lt rfl (lh)) (decide_eq_true q6) ?_
       refine WL.x (X.load pl4 (lh) (by exact cu0_1.at0 (by assumption)) (by rfl)) rfl ?_
       refine WL.yes rfl rfl (jt2 rfl (lh)) (decide_eq_true q6) ?_
       refine WL.x (X.fieldAddr fd67_7 (jt8 rfl (jt8 rfl (jt8 rfl (jt8 rfl (jt8 rfl (jt2 rfl (lt rfl (s3))))))))) rfl ?_
       refine WL.yes rfl rfl (jt2 rfl (lt rfl (lh))) (decide_eq_true q6) ?_
       refine WL.x (X.load pl4 (lh) (by assumption) (by rfl)) rfl ?_
       refine WL.yes rfl rfl (jt4 rfl (lh)) (decide_eq_true q6) ?_
       refine WL.x (X.eqlB Tryz.underlying4 (jt2 rfl (lh)) (lh)) rfl ?_
       refine WL.x (X.pickT (jt4 rfl (lt rfl (lh))) (decide_eq_true q6) (lh)) rfl ?_
       refine WL.x (X.mv (lh)) rfl ?_
       refine WL.splitp (lh) (fun q7 => ?_) (fun q7 => ?_)
       ·
        refine WL.yes rfl rfl (lh) (decide_eq_true q7) ?_
        refine WL.x (X.fieldAddr fd67_8 (jt8 rfl (jt8 rfl (jt8 rfl (jt8 rfl (jt8 rfl (jt8 rfl (s2)))))))) rfl ?_
        refine WL.yes rfl rfl (lt rfl (lh)) (decide_eq_true q7) ?_
        refine WL.x (X.load pl3 (lh) (by exact cu0_1.at0 (by assumption)) (by rfl)) rfl ?_
        refine WL.yes rfl rfl (jt2 rfl (lh)) (decide_eq_true q7) ?_
        refine WL.x (X.fieldAddr fd67_8 (jt8 rfl (jt8 rfl (jt8 rfl (jt8 rfl (jt8 rfl (jt8 rfl (jt2 rfl (s3))))))))) rfl ?_
        refine WL.yes rfl rfl (jt2 rfl (lt rfl (lh))) (decide_eq_true q7) ?_
        refine WL.x (X.load pl3 (lh) (by assumption) (by rfl)) rfl ?_
        refine WL.yes rfl rfl (jt4 rfl (lh)) (decide_eq_true q7) ?_
        refine WL.x (X.eql (jt2 rfl (lh)) (lh)) rfl ?_
        refine WL.x (X.pickT (jt4 rfl (lt rfl (lh))) (decide_eq_true q7) (lh)) rfl ?_
        refine WL.x (X.mv (lh)) rfl ?_
        refine WL.splitp (lh) (fun q8 => ?_) (fun q8 => ?_)
        ·
         refine WL.yes rfl rfl (lh) (decide_eq_true q8) ?_
         refine WL.x (X.fieldAddr fd67_6 (jt8 rfl (jt8 rfl (jt8 rfl (jt8 rfl (jt8 rfl (jt8 rfl (jt4 rfl (jt2 rfl (lt rfl (s2))))))))))) rfl ?_
         refine WL.yes rfl rfl (lt rfl (lh)) (decide_eq_true q8) ?_
         refine WL.x (X.load pl65 (lh) (by exact cu0_1.at0 (by assumption)) (by rfl)) rfl ?_
         refine WL.yes rfl rfl (jt2 rfl (lh)) (decide_eq_true q8) ?_
         refine WL.x (X.fieldAddr fd67_6 (jt8 rfl (jt8 rfl (jt8 rfl (jt8 rfl (jt8 rfl (jt8 rfl (jt8 rfl (lt rfl (s3)))))))))) rfl ?_
         refine WL.yes rfl rfl (jt2 rfl (lt rfl (lh))) (decide_eq_true q8) ?_
         refine WL.x (X.load pl65 (lh) (by assumption) (by rfl)) rfl ?_
         refine WL.yes rfl rfl (jt4 rfl (lh)) (decide_eq_true q8) ?_
         refine WL.call2 ce47 (jt2 rfl (lh)) (lh) (eqw_ok A A2 _ _ cy1 cy2 w2 (hs1.ch0 monWhy (cu0_0.trans0 cu0_1)) (hs2.ch0 monWhy (cu0_0.trans0 cu0_1)) (by omega)) rfl ?_
         rintro _ w3 ⟨rfl, hdr⟩
         refine WL.x (X.pickT (jt4 rfl (lt rfl (lh))) (decide_eq_true q8) (lh)) rfl ?_
         refine WL.x (X.asg (lh)) rfl ?_
         refine WL.e1 Nx.thn 4 (lh) ?_
         intro σ2 s4
         refine W.ret1 Nx.f1 s4 ?_
         exact ⟨congrArg Value.bool (by simp [q1, q2, q3, q4, q5, q6, q7, q8]), (cu0_0.trans0 cu0_1).trans0 hdr.ch0⟩
        ·
         refine WL.no rfl rfl (lh) (decide_eq_false q8) rfl ?_
         refine WL.no rfl rfl (lt rfl (lh)) (decide_eq_false q8) rfl ?_
         refine WL.no rfl rfl (jt2 rfl (lh)) (decide_eq_false q8) rfl ?_
         refine WL.no rfl rfl (jt2 rfl (lt rfl (lh))) (decide_eq_false q8) rfl ?_
         refine WL.no rfl rfl (jt4 rfl (lh)) (decide_eq_false q8) rfl ?_
         refine WL.x (X.pickF (jt4 rfl (lt rfl (lh))) (decide_eq_false q8) lc) rfl ?_
         refine WL.x (X.asg (lh)) rfl ?_
         refine WL.e1 Nx.thn 4 (lh) ?_
         intro σ3 s4
         refine W.ret1 Nx.f1 s4 ?_
         exact ⟨by rw [decide_eq_false (fun e => q8 (congrArg (fun z : GAn => z.2.2.2.2.2.2.2.2) e))], cu0_0.trans0 cu0_1⟩
       ·
        refine WL.no rfl rfl (lh) (decide_eq_false q7) rfl ?_
        refine WL.no rfl rfl (lt rfl (lh)) (decide_eq_false q7) rfl ?_
        refine WL.no rfl rfl (jt2 rfl (lh)) (decide_eq_false q7) rfl ?_
        refine WL.no rfl rfl (jt2 rfl (lt rfl (lh))) (decide_eq_false q7) rfl ?_
        refine WL.no rfl rfl (jt4 rfl (lh)) (decide_eq_false q7) rfl ?_
        refine WL.x (X.pickF (jt4 rfl (lt rfl (lh))) (decide_eq_false q7) lc) rfl ?_
        refine WL.x (X.mv (lh)) rfl ?_
        refine WL.no rfl rfl (lh) rfl rfl ?_
        refine WL.no rfl rfl (lt rfl (lh)) rfl rfl ?_
        refine WL.no rfl rfl (jt2 rfl (lh)) rfl rfl ?_
        refine WL.no rfl rfl (jt2 rfl (lt rfl (lh))) rfl rfl ?_
        refine WL.no rfl rfl (jt4 rfl (lh)) rfl rfl ?_
        refine WL.x (X.pickF (jt4 rfl (lt rfl (lh))) rfl lc) rfl ?_
        refine WL.x (X.asg (lh)) rfl ?_
        refine WL.e1 Nx.thn 4 (lh) ?_
        intro σ4 s4
        refine W.ret1 Nx.f1 s4 ?_
        exact ⟨by rw [decide_eq_false (fun e => q7 (congrArg (fun z : GAn => z.2.2.2.2.2.2.2.1) e))], cu0_0.trans0 cu0_1⟩
      ·
       refine WL.no rfl rfl (lh) (decide_eq_false q6) rfl ?_
       refine WL.no rfl rfl (lt rfl (lh)) (decide_eq_false q6) rfl ?_
       refine WL.no rfl rfl (jt2 rfl (lh)) (decide_eq_false q6) rfl ?_
       refine WL.no rfl rfl (jt2 rfl (lt rfl (lh))) (decide_eq_false q6) rfl ?_
       refine WL.no rfl rfl (jt4 rfl (lh)) (decide_eq_false q6) rfl ?_
       refine WL.x (X.pickF (jt4 rfl (lt rfl (lh))) (decide_eq_false q6) lc) rfl ?_
       refine WL.x (X.mv (lh)) rfl ?_
       refine WL.no rfl rfl (lh) rfl rfl ?_
       refine WL.no rfl rfl (lt rfl (lh)) rfl rfl ?_
       refine WL.no rfl rfl (jt2 rfl (lh)) rfl rfl ?_
       refine WL.no rfl rfl (jt2 rfl (lt rfl (lh))) rfl rfl ?_
       refine WL.no rfl rfl (jt4 rfl (lh)) rfl rfl ?_
       refine WL.x (X.pickF (jt4 rfl (lt rfl (lh))) rfl lc) rfl ?_
       refine WL.x (X.mv (lh)) rfl ?_
       refine WL.no rfl rfl (lh) rfl rfl ?_
       refine WL.no rfl rfl (lt rfl (lh)) rfl rfl ?_
       refine WL.no rfl rfl (jt2 rfl (lh)) rfl rfl ?_
       refine WL.no rfl rfl (jt2 rfl (lt rfl (lh))) rfl rfl ?_
       refine WL.no rfl rfl (jt4 rfl (lh)) rfl rfl ?_
       refine WL.x (X.pickF (jt4 rfl (lt rfl (lh))) rfl lc) rfl ?_
       refine WL.x (X.asg (lh)) rfl ?_
       refine WL.e1 Nx.thn 4 (lh) ?_
       intro σ5 s4
       refine W.ret1 Nx.f1 s4 ?_
       exact ⟨by rw [decide_eq_false (fun e => q6 (congrArg (fun z : GAn => z.2.2.2.2.2.1) e))], cu0_0.trans0 cu0_1⟩
     ·
      refine WL.no rfl rfl (lh) (decide_eq_false q5) rfl ?_
      refine WL.no rfl rfl (lt rfl (lh)) (decide_eq_false q5) rfl ?_
      refine WL.no rfl rfl (jt2 rfl (lh)) (decide_eq_false q5) rfl ?_
      refine WL.no rfl rfl (jt2 rfl (lt rfl (lh))) (decide_eq_false q5) rfl ?_
      refine WL.no rfl rfl (jt4 rfl (lh)) (decide_eq_false q5) rfl ?_
      refine WL.x (X.pickF (jt4 rfl (lt rfl (lh))) (decide_eq_false q5) lc) rfl ?_
      refine WL.x (X.mv (lh)) rfl ?_
      refine WL.no rfl rfl (lh) rfl rfl ?_
      refine WL.no rfl rfl (lt rfl (lh)) rfl rfl ?_
      refine WL.no rfl rfl (jt2 rfl (lh)) rfl rfl ?_
      refine WL.no rfl rfl (jt2 rfl (lt rfl (lh))) rfl rfl ?_
      refine WL.no rfl rfl (jt4 rfl (lh)) rfl rfl ?_
      refine WL.x (X.pickF (jt4 rfl (lt rfl (lh))) rfl lc) rfl ?_
      refine WL.x (X.mv (lh)) rfl ?_
      refine WL.no rfl rfl (lh) rfl rfl ?_
      refine WL.no rfl rfl (lt rfl (lh)) rfl rfl ?_
      refine WL.no rfl rfl (jt2 rfl (lh)) rfl rfl ?_
      refine WL.no rfl rfl (jt2 rfl (lt rfl (lh))) rfl rfl ?_
      refine WL.no rfl rfl (jt4 rfl (lh)) rfl rfl ?_
      refine WL.x (X.pickF (jt4 rfl (lt rfl (lh))) rfl lc) rfl ?_
      refine WL.x (X.mv (lh)) rfl ?_
      refine WL.no rfl rfl (lh) rfl rfl ?_
      refine WL.no rfl rfl (lt rfl (lh)) rfl rfl ?_
      refine WL.no rfl rfl (jt2 rfl (lh)) rfl rfl ?_
      refine WL.no rfl rfl (jt2 rfl (lt rfl (lh))) rfl rfl ?_
      refine WL.no rfl rfl (jt4 rfl (lh)) rfl rfl ?_
      refine WL.x (X.pickF (jt4 rfl (lt rfl (lh))) rfl lc) rfl ?_
      refine WL.x (X.asg (lh)) rfl ?_
      refine WL.e1 Nx.thn 4 (lh) ?_
      intro σ6 s4
      refine W.ret1 Nx.f1 s4 ?_
      exact ⟨by rw [decide_eq_false (fun e => q5 (congrArg (fun z : GAn => z.2.2.2.2.1) e))], cu0_0.trans0 cu0_1⟩
    ·
     refine WL.no rfl rfl (lh) (decide_eq_false q4) rfl ?_
     refine WL.no rfl rfl (lt rfl (lh)) (decide_eq_false q4) rfl ?_
     refine WL.no rfl rfl (jt2 rfl (lh)) (decide_eq_false q4) rfl ?_
     refine WL.no rfl rfl (jt2 rfl (lt rfl (lh))) (decide_eq_false q4) rfl ?_
     refine WL.no rfl rfl (jt4 rfl (lh)) (decide_eq_false q4) rfl ?_
     refine WL.x (X.pickF (jt4 rfl (lt rfl (lh))) (decide_eq_false q4) lc) rfl ?_
     refine WL.x (X.mv (lh)) rfl ?_
     refine WL.no rfl rfl (lh) rfl rfl ?_
     refine WL.no rfl rfl (lt rfl (lh)) rfl rfl ?_
     refine WL.no rfl rfl (jt2 rfl (lh)) rfl rfl ?_
     refine WL.no rfl rfl (jt2 rfl (lt rfl (lh))) rfl rfl ?_
     refine WL.no rfl rfl (jt4 rfl (lh)) rfl rfl ?_
     refine WL.x (X.pickF (jt4 rfl (lt rfl (lh))) rfl lc) rfl ?_
     refine WL.x (X.mv (lh)) rfl ?_
     refine WL.no rfl rfl (lh) rfl rfl ?_
     refine WL.no rfl rfl (lt rfl (lh)) rfl rfl ?_
     refine WL.no rfl rfl (jt2 rfl (lh)) rfl rfl ?_
     refine WL.no rfl rfl (jt2 rfl (lt rfl (lh))) rfl rfl ?_
     refine WL.no rfl rfl (jt4 rfl (lh)) rfl rfl ?_
     refine WL.x (X.pickF (jt4 rfl (lt rfl (lh))) rfl lc) rfl ?_
     refine WL.x (X.mv (lh)) rfl ?_
     refine WL.no rfl rfl (lh) rfl rfl ?_
     refine WL.no rfl rfl (lt rfl (lh)) rfl rfl ?_
     refine WL.no rfl rfl (jt2 rfl (lh)) rfl rfl ?_
     refine WL.no rfl rfl (jt2 rfl (lt rfl (lh))) rfl rfl ?_
     refine WL.no rfl rfl (jt4 rfl (lh)) rfl rfl ?_
     refine WL.x (X.pickF (jt4 rfl (lt rfl (lh))) rfl lc) rfl ?_
     refine WL.x (X.mv (lh)) rfl ?_
     refine WL.no rfl rfl (lh) rfl rfl ?_
     refine WL.no rfl rfl (lt rfl (lh)) rfl rfl ?_
     refine WL.no rfl rfl (jt2 rfl (lh)) rfl rfl ?_
     refine WL.no rfl rfl (jt2 rfl (lt rfl (lh))) rfl rfl ?_
     refine WL.no rfl rfl (jt4 rfl (lh)) rfl rfl ?_
     refine WL.x (X.pickF (jt4 rfl (lt rfl (lh))) rfl lc) rfl ?_
     refine WL.x (X.asg (lh)) rfl ?_
     refine WL.e1 Nx.thn 4 (lh) ?_
     intro σ7 s4
     refine W.ret1 Nx.f1 s4 ?_
     exact ⟨by rw [decide_eq_false (fun e => q4 (congrArg (fun z : GAn => z.2.2.2.1) e))], cu0_0.trans0 cu0_1⟩
   ·
    refine WL.no rfl rfl (lh) (decide_eq_false q3) rfl ?_
    refine WL.no rfl rfl (lt rfl (lh)) (decide_eq_false q3) rfl ?_
    refine WL.no rfl rfl (jt2 rfl (lh)) (decide_eq_false q3) rfl ?_
    refine WL.no rfl rfl (jt2 rfl (lt rfl (lh))) (decide_eq_false q3) rfl ?_
    refine WL.no rfl rfl (jt4 rfl (lh)) (decide_eq_false q3) rfl ?_
    refine WL.x (X.pickF (jt4 rfl (lt rfl (lh))) (decide_eq_false q3) lc) rfl ?_
    refine WL.x (X.mv (lh)) rfl ?_
    refine WL.no rfl rfl (lh) rfl rfl ?_
    refine WL.no rfl rfl (lt rfl (lh)) rfl rfl ?_
    refine WL.no rfl rfl (jt2 rfl (lh)) rfl rfl ?_
    refine WL.no rfl rfl (jt2 rfl (lt rfl (lh))) rfl rfl ?_
    refine WL.no rfl rfl (jt4 rfl (lh)) rfl rfl ?_
    refine WL.x (X.pickF (jt4 rfl (lt rfl (lh))) rfl lc) rfl ?_
    refine WL.x (X.mv (lh)) rfl ?_
    refine WL.no rfl rfl (lh) rfl rfl ?_
    refine WL.no rfl rfl (lt rfl (lh)) rfl rfl ?_
    refine WL.no rfl rfl (jt2 rfl (lh)) rfl rfl ?_
    refine WL.no rfl rfl (jt2 rfl (lt rfl (lh))) rfl rfl ?_
    refine WL.no rfl rfl (jt4 rfl (lh)) rfl rfl ?_
    refine WL.x (X.pickF (jt4 rfl (lt rfl (lh))) rfl lc) rfl ?_
    refine WL.x (X.mv (lh)) rfl ?_
    refine WL.no rfl rfl (lh) rfl rfl ?_
    refine WL.no rfl rfl (lt rfl (lh)) rfl rfl ?_
    refine WL.no rfl rfl (jt2 rfl (lh)) rfl rfl ?_
    refine WL.no rfl rfl (jt2 rfl (lt rfl (lh))) rfl rfl ?_
    refine WL.no rfl rfl (jt4 rfl (lh)) rfl rfl ?_
    refine WL.x (X.pickF (jt4 rfl (lt rfl (lh))) rfl lc) rfl ?_
    refine WL.x (X.mv (lh)) rfl ?_
    refine WL.no rfl rfl (lh) rfl rfl ?_
    refine WL.no rfl rfl (lt rfl (lh)) rfl rfl ?_
    refine WL.no rfl rfl (jt2 rfl (lh)) rfl rfl ?_
    refine WL.no rfl rfl (jt2 rfl (lt rfl (lh))) rfl rfl ?_
    refine WL.no rfl rfl (jt4 rfl (lh)) rfl rfl ?_
    refine WL.x (X.pickF (jt4 rfl (lt rfl (lh))) rfl lc) rfl ?_
    refine WL.x (X.mv (lh)) rfl ?_
    refine WL.no rfl rfl (lh) rfl rfl ?_
    refine WL.no rfl rfl (lt rfl (lh)) rfl rfl ?_
    refine WL.no rfl rfl (jt2 rfl (lh)) rfl rfl ?_
    refine WL.no rfl rfl (jt2 rfl (lt rfl (lh))) rfl rfl ?_
    refine WL.no rfl rfl (jt4 rfl (lh)) rfl rfl ?_
    refine WL.x (X.pickF (jt4 rfl (lt rfl (lh))) rfl lc) rfl ?_
    refine WL.x (X.asg (lh)) rfl ?_
    refine WL.e1 Nx.thn 4 (lh) ?_
    intro σ8 s4
    refine W.ret1 Nx.f1 s4 ?_
    exact ⟨by rw [decide_eq_false (fun e => q3 (congrArg (fun z : GAn => z.2.2.1) e))], cu0_0.trans0 cu0_1⟩
  ·
   refine WL.no rfl rfl (lh) (decide_eq_false q2) rfl ?_
   refine WL.no rfl rfl (lt rfl (lh)) (decide_eq_false q2) rfl ?_
   refine WL.no rfl rfl (jt2 rfl (lh)) (decide_eq_false q2) rfl ?_
   refine WL.no rfl rfl (jt2 rfl (lt rfl (lh))) (decide_eq_false q2) rfl ?_
   refine WL.no rfl rfl (jt4 rfl (lh)) (decide_eq_false q2) rfl ?_
   refine WL.x (X.pickF (jt4 rfl (lt rfl (lh))) (decide_eq_false q2) lc) rfl ?_
   refine WL.x (X.mv (lh)) rfl ?_
   refine WL.no rfl rfl (lh) rfl rfl ?_
   refine WL.no rfl rfl (lt rfl (lh)) rfl rfl ?_
   refine WL.no rfl rfl (jt2 rfl (lh)) rfl rfl ?_
   refine WL.no rfl rfl (jt2 rfl (lt rfl (lh))) rfl rfl ?_
   refine WL.no rfl rfl (jt4 rfl (lh)) rfl rfl ?_
   refine WL.x (X.pickF (jt4 rfl (lt rfl (lh))) rfl lc) rfl ?_
   refine WL.x (X.mv (lh)) rfl ?_
   refine WL.no rfl rfl (lh) rfl rfl ?_
   refine WL.no rfl rfl (lt rfl (lh)) rfl rfl ?_
   refine WL.no rfl rfl (jt2 rfl (lh)) rfl rfl ?_
   refine WL.no rfl rfl (jt2 rfl (lt rfl (lh))) rfl rfl ?_
   refine WL.no rfl rfl (jt4 rfl (lh)) rfl rfl ?_
   refine WL.x (X.pickF (jt4 rfl (lt rfl (lh))) rfl lc) rfl ?_
   refine WL.x (X.mv (lh)) rfl ?_
   refine WL.no rfl rfl (lh) rfl rfl ?_
   refine WL.no rfl rfl (lt rfl (lh)) rfl rfl ?_
   refine WL.no rfl rfl (jt2 rfl (lh)) rfl rfl ?_
   refine WL.no rfl rfl (jt2 rfl (lt rfl (lh))) rfl rfl ?_
   refine WL.no rfl rfl (jt4 rfl (lh)) rfl rfl ?_
   refine WL.x (X.pickF (jt4 rfl (lt rfl (lh))) rfl lc) rfl ?_
   refine WL.x (X.mv (lh)) rfl ?_
   refine WL.no rfl rfl (lh) rfl rfl ?_
   refine WL.no rfl rfl (lt rfl (lh)) rfl rfl ?_
   refine WL.no rfl rfl (jt2 rfl (lh)) rfl rfl ?_
   refine WL.no rfl rfl (jt2 rfl (lt rfl (lh))) rfl rfl ?_
   refine WL.no rfl rfl (jt4 rfl (lh)) rfl rfl ?_
   refine WL.x (X.pickF (jt4 rfl (lt rfl (lh))) rfl lc) rfl ?_
   refine WL.x (X.mv (lh)) rfl ?_
   refine WL.no rfl rfl (lh) rfl rfl ?_
   refine WL.no rfl rfl (lt rfl (lh)) rfl rfl ?_
   refine WL.no rfl rfl (jt2 rfl (lh)) rfl rfl ?_
   refine WL.no rfl rfl (jt2 rfl (lt rfl (lh))) rfl rfl ?_
   refine WL.no rfl rfl (jt4 rfl (lh)) rfl rfl ?_
   refine WL.x (X.pickF (jt4 rfl (lt rfl (lh))) rfl lc) rfl ?_
   refine WL.x (X.mv (lh)) rfl ?_
   refine WL.no rfl rfl (lh) rfl rfl ?_
   refine WL.no rfl rfl (lt rfl (lh)) rfl rfl ?_
   refine WL.no rfl rfl (jt2 rfl (lh)) rfl rfl ?_
   refine WL.no rfl rfl (jt2 rfl (lt rfl (lh))) rfl rfl ?_
   refine WL.no rfl rfl (jt4 rfl (lh)) rfl rfl ?_
   refine WL.x (X.pickF (jt4 rfl (lt rfl (lh))) rfl lc) rfl ?_
   refine WL.x (X.asg (lh)) rfl ?_
   refine WL.e1 Nx.thn 4 (lh) ?_
   intro σ9 s4
   refine W.ret1 Nx.f1 s4 ?_
   exact ⟨by rw [decide_eq_false (fun e => q2 (congrArg (fun z : GAn => z.2.1) e))], cu0_0.trans0 cu0_1⟩
 ·
  refine WL.no rfl rfl (lh) (decide_eq_false q1) rfl ?_
  refine WL.no rfl rfl (lt rfl (lh)) (decide_eq_false q1) rfl ?_
  refine WL.no rfl rfl (jt2 rfl (lh)) (decide_eq_false q1) rfl ?_
  refine WL.no rfl rfl (jt2 rfl (lt rfl (lh))) (decide_eq_false q1) rfl ?_
  refine WL.no rfl rfl (jt4 rfl (lh)) (decide_eq_false q1) rfl ?_
  refine WL.x (X.pickF (jt4 rfl (lt rfl (lh))) (decide_eq_false q1) lc) rfl ?_
  refine WL.x (X.mv (lh)) rfl ?_
  refine WL.no rfl rfl (lh) rfl rfl ?_
  refine WL.no rfl rfl (lt rfl (lh)) rfl rfl ?_
  refine WL.no rfl rfl (jt2 rfl (lh)) rfl rfl ?_
  refine WL.no rfl rfl (jt2 rfl (lt rfl (lh))) rfl rfl ?_
  refine WL.no rfl rfl (jt4 rfl (lh)) rfl rfl ?_
  refine WL.x (X.pickF (jt4 rfl (lt rfl (lh))) rfl lc) rfl ?_
  refine WL.x (X.mv (lh)) rfl ?_
  refine WL.no rfl rfl (lh) rfl rfl ?_
  refine WL.no rfl rfl (lt rfl (lh)) rfl rfl ?_
  refine WL.no rfl rfl (jt2 rfl (lh)) rfl rfl ?_
  refine WL.no rfl rfl (jt2 rfl (lt rfl (lh))) rfl rfl ?_
  refine WL.no rfl rfl (jt4 rfl (lh)) rfl rfl ?_
  refine WL.x (X.pickF (jt4 rfl (lt rfl (lh))) rfl lc) rfl ?_
  refine WL.x (X.mv (lh)) rfl ?_
  refine WL.no rfl rfl (lh) rfl rfl ?_
  refine WL.no rfl rfl (lt rfl (lh)) rfl rfl ?_
  refine WL.no rfl rfl (jt2 rfl (lh)) rfl rfl ?_
  refine WL.no rfl rfl (jt2 rfl (lt rfl (lh))) rfl rfl ?_
  refine WL.no rfl rfl (jt4 rfl (lh)) rfl rfl ?_
  refine WL.x (X.pickF (jt4 rfl (lt rfl (lh))) rfl lc) rfl ?_
  refine WL.x (X.mv (lh)) rfl ?_
  refine WL.no rfl rfl (lh) rfl rfl ?_
  refine WL.no rfl rfl (lt rfl (lh)) rfl rfl ?_
  refine WL.no rfl rfl (jt2 rfl (lh)) rfl rfl ?_
  refine WL.no rfl rfl (jt2 rfl (lt rfl (lh))) rfl rfl ?_
  refine WL.no rfl rfl (jt4 rfl (lh)) rfl rfl ?_
  refine WL.x (X.pickF (jt4 rfl (lt rfl (lh))) rfl lc) rfl ?_
  refine WL.x (X.mv (lh)) rfl ?_
  refine WL.no rfl rfl (lh) rfl rfl ?_
  refine WL.no rfl rfl (lt rfl (lh)) rfl rfl ?_
  refine WL.no rfl rfl (jt2 rfl (lh)) rfl rfl ?_
  refine WL.no rfl rfl (jt2 rfl (lt rfl (lh))) rfl rfl ?_
  refine WL.no rfl rfl (jt4 rfl (lh)) rfl rfl ?_
  refine WL.x (X.pickF (jt4 rfl (lt rfl (lh))) rfl lc) rfl ?_
  refine WL.x (X.mv (lh)) rfl ?_
  refine WL.no rfl rfl (lh) rfl rfl ?_
  refine WL.no rfl rfl (lt rfl (lh)) rfl rfl ?_
  refine WL.no rfl rfl (jt2 rfl (lh)) rfl rfl ?_
  refine WL.no rfl rfl (jt2 rfl (lt rfl (lh))) rfl rfl ?_
  refine WL.no rfl rfl (jt4 rfl (lh)) rfl rfl ?_
  refine WL.x (X.pickF (jt4 rfl (lt rfl (lh))) rfl lc) rfl ?_
  refine WL.x (X.mv (lh)) rfl ?_
  refine WL.no rfl rfl (lh) rfl rfl ?_
  refine WL.no rfl rfl (lt rfl (lh)) rfl rfl ?_
  refine WL.no rfl rfl (jt2 rfl (lh)) rfl rfl ?_
  refine WL.no rfl rfl (jt2 rfl (lt rfl (lh))) rfl rfl ?_
  refine WL.no rfl rfl (jt4 rfl (lh)) rfl rfl ?_
  refine WL.x (X.pickF (jt4 rfl (lt rfl (lh))) rfl lc) rfl ?_
  refine WL.x (X.asg (lh)) rfl ?_
  refine WL.e1 Nx.thn 4 (lh) ?_
  intro σ10 s4
  refine W.ret1 Nx.f1 s4 ?_
  exact ⟨by rw [decide_eq_false (fun e => q1 (congrArg (fun z : GAn => z.1) e))], cu0_0.trans0 cu0_1⟩
theorem eqfan_walk (A A2 : Nat → Prop) (a1 a2 : Option Addr) (c1 c2 : Nat) (l1 l2 : List GAn) (f : Nat) (hcal : Sg.Callee Tryz.prog f) (w : World) (h1 : RSl 9 RAn A w (.slice a1 l1.length c1) l1) (h2 : RSl 9 RAn A2 w (.slice a2 l2.length c2) l2) (hf : ∀ x y es1 es2 w', RAn A w' es1 x → RAn A2 w' es2 y → Sg.Ret Tryz.prog f #[.agg es1.toArray, .agg es2.toArray] w' fun v w'' => v = .bool (decide (x = y)) ∧ Ch0 w' w'') (hl : l1.length ≤ 140737488355328) :
  Sg.Ret Tryz.prog 45 #[.slice a1 l1.length c1, .slice a2 l2.length c2, .func (.func f) #[] #[]] w fun v w' => v = .bool (decide (l1 = l2)) ∧ Ch0 w w' := by
 refine enter1 (n := 32) (l := [.slice a1 l1.length c1, .slice a2 l2.length c2, .func (.func f) #[] #[]]) Tryz.func45 rfl rfl rfl rfl ?_
 refine W.g3 0 1 2 (v1 := .slice a1 l1.length c1) (v2 := .slice a2 l2.length c2) (v3 := .func (.func f) #[] #[]) rfl rfl rfl ?_; intro σ s0 s1 s2
 refine W.seq ?_
 refine W.region ?_
 refine WL.x (X.asg lc) rfl ?_
 refine WL.e3 Nx.thn 0 1 2 (lt rfl (s0)) (lt rfl (s1)) (lt rfl (s2)) ?_
 intro σ1 s0 s1 s2
 refine W.seq ?_
 refine W.seq ?_
 refine W.region ?_
 refine WL.x (X.mv (s0)) rfl ?_
 refine WL.x (X.lenSl Tryz.underlying22 (lh)) rfl ?_
 refine WL.x (X.mv (jt2 rfl (s1))) rfl ?_
 refine WL.x (X.lenSl Tryz.underlying22 (lh)) rfl ?_
 refine WL.x (X.neq (jt2 rfl (lh)) (lh)) rfl ?_
 refine WL.e4 Nx.thn 0 1 2 14 (jt4 rfl (lt rfl (s0))) (jt4 rfl (lt rfl (s1))) (jt4 rfl (lt rfl (s2))) (lh) ?_
 intro σ2 s0 s1 s2 s14
 refine W.cndp s14 (fun hlen => ?_) (fun hlen => ?_)
 ·
  refine W.seq ?_
  refine W.region ?_
  refine WL.x (X.asg lc) rfl ?_
  refine WL.e1 Nx.thn 6 (lh) ?_
  intro σ3 s6
  refine W.ret1 (Nx.rthn Nx.f1) s6 ?_
  exact ⟨by rw [decide_eq_false (fun e => hlen (by rw [e]))], Ch.refl _ _⟩
 ·
  have hlen : l1.length = l2.length := by omega
  refine W.skip Nx.thn ?_
  refine W.seq ?_
  refine W.seq ?_
  refine W.region ?_
  refine WL.x (X.mv (s0)) rfl ?_
  refine WL.x (X.lenSl Tryz.underlying22 (lh)) rfl ?_
  refine WL.x (X.mv lc) rfl ?_
  refine WL.e5 Nx.thn 1 2 15 16 17 (jt2 rfl (lt rfl (s1))) (jt2 rfl (lt rfl (s2))) (jt2 rfl (lh)) (lt rfl (lh)) (lh) ?_
  intro σ4 s1 s2 s15 s16 s17
  refine W.block ?_
  have qo1 := s1
  have qo2 := s2
  have qo3 := s15
  have qo4 := s16
  -- loop 0: kept [1, 2, 15, 16], varied [17]
  refine W.loop (G := Nat) (fun k σ' w' => (σ' 1 = σ4 1 ∧ σ' 2 = σ4 2 ∧ σ' 15 = σ4 15 ∧ σ' 16 = σ4 16 ∧ True) ∧ (σ' 17 = .int .i64 (k : Int) ∧ k ≤ l1.length ∧ (∀ i, i < k → l1[i]? = l2[i]?) ∧ Ch0 w w')) (fun k => l1.length - k) (0) ⟨⟨rfl, rfl, rfl, rfl, trivial⟩, s17, by omega, fun i hi => absurd hi (by omega), Ch.refl _ _⟩ ?_
  rintro k σ5 w1 ⟨⟨f1, f2, f15, f16, _⟩, s17, hk, heq, hcl⟩
  have s1 := f1.trans qo1
  have s2 := f2.trans qo2
  have s15 := f15.trans qo3
  have s16 := f16.trans qo4
  refine W.seq ?_
  refine W.region ?_
  refine WL.x (X.lss (s17) (s16)) rfl ?_
  refine WL.e6 Nx.thn 1 2 15 16 17 18 (lt rfl (s1)) (lt rfl (s2)) (lt rfl (s15)) (lt rfl (s16)) (lt rfl (s17)) (lh) ?_
  intro σ6 s1 s2 s15 s16 s17 s18
  refine W.seq ?_
  refine W.cndp s18 (fun hlt => ?_) (fun hlt => ?_)
  ·
   obtain ⟨b1, o1, cs1, T1, fr1, es1, rfl, hml1, hes1, hgl1, hr1⟩ := (h1.ch0 monAn hcl).at (k := k) (by omega)
   obtain ⟨b2, o2, cs2, T2, fr2, es2, rfl, hml2, hes2, hgl2, hr2⟩ := (h2.ch0 monAn hcl).at (k := k) (by omega)
   have hone1 : es1.all (·.oneCell') = true := RAn_one hr1
   have hone2 : es2.all (·.oneCell') = true := RAn_one hr2
   have hbl1 : blit (#[.int .i64 0, .int .i64 0, .int .i64 0, .int .i64 0, .string ⟨#[]⟩, .int .i64 0, .slice none 0 0, .bool false, .int .i64 0] : Array Value) 0 es1 = es1.toArray := blit_all hes1
   have hbl2 : blit (#[.int .i64 0, .int .i64 0, .int .i64 0, .int .i64 0, .string ⟨#[]⟩, .int .i64 0, .slice none 0 0, .bool false, .int .i64 0] : Array Value) 0 es2 = es2.toArray := blit_all hes2
   refine W.skip Nx.thn ?_
   refine W.seq ?_
   refine W.block ?_
   refine W.seq ?_
   refine W.region ?_
   refine WL.x (X.mv (s17)) rfl ?_
   refine WL.x (X.indexAddr Tryz.underlying22 el67 (lt rfl (s15)) (lt rfl (s17)) (by omega) (by omega)) rfl ?_
   refine WL.x (X.loadS ag67 (lh) hml1 hes1 hgl1) rfl ?_
   refine WL.alloc el67 rfl ?_
   intro w2 u5_3; have hu5_3 := u5_3.at_; have cu5_3 := u5_3.ch; have zu5_3 := u5_3.size
   refine WL.x (X.asg (jt2 rfl (lt rfl (lh)))) rfl ?_
   refine WL.storeS ag67 (lt rfl (lh)) (jt2 rfl (lh)) hone1 hes1 hu5_3 (by decide) ?_
   intro w3 us; have hu5_5 := us.at_; have cu5_5 := us.ch; have zu5_5 := us.size
   rw [show (Value.agg #[.int .i64 0, .int .i64 0, .int .i64 0, .int .i64 0, .string ⟨#[]⟩, .int .i64 0, .slice none 0 0, .bool false, .int .i64 0]).cells = (#[.int .i64 0, .int .i64 0, .int .i64 0, .int .i64 0, .string ⟨#[]⟩, .int .i64 0, .slice none 0 0, .bool false, .int .i64 0] : Array Value) from rfl, hbl1] at hu5_5
   refine WL.e7 Nx.thn 1 2 7 8 15 16 17 (jt4 rfl (lt rfl (s1))) (jt4 rfl (lt rfl (s2))) (lh) (lt rfl (lh)) (jt4 rfl (lt rfl (s15))) (jt4 rfl (lt rfl (s16))) (jt4 rfl (lt rfl (s17))) ?_
   intro σ7 s1 s2 s7 s8 s15 s16 s17
   refine W.seq ?_
   refine W.region ?_
   refine WL.x (X.mv (s1)) rfl ?_
   refine WL.x (X.mv (lt rfl (s7))) rfl ?_
   refine WL.x (X.indexAddr Tryz.underlying22 el67 (lt rfl (lh)) (lh) (by omega) (by omega)) rfl ?_
   refine WL.x (X.loadS ag67 (lh) (((cu5_3.trans cu5_5 (F := fun _ => False) (H := fun j => j = w1.heap.size) (fun _ _ e => e.elim) (fun _ _ e => e)).at hml2 (fun e => by have := lt_of_blk hml2; omega))) hes2 hgl2) rfl ?_
   refine WL.alloc el67 rfl ?_
   intro w4 u6_4; have hu6_4 := u6_4.at_; have cu6_4 := u6_4.ch; have zu6_4 := u6_4.size
   refine WL.storeS ag67 (lh) (lt rfl (lh)) hone2 hes2 hu6_4 (by decide) ?_
   intro w5 us; have hu6_5 := us.at_; have cu6_5 := us.ch; have zu6_5 := us.size
   rw [show (Value.agg #[.int .i64 0, .int .i64 0, .int .i64 0, .int .i64 0, .string ⟨#[]⟩, .int .i64 0, .slice none 0 0, .bool false, .int .i64 0]).cells = (#[.int .i64 0, .int .i64 0, .int .i64 0, .int .i64 0, .string ⟨#[]⟩, .int .i64 0, .slice none 0 0, .bool false, .int .i64 0] : Array Value) from rfl, hbl2] at hu6_5
   have hl1 := lt_of_blk hml1; have hl2 := lt_of_blk hml2
   have hc5 : Ch0 w1 w5 := ((cu5_3.trans cu5_5 (H := fun _ => False) (fun _ _ => id) (fun i hi e => by (try dsimp only at e); omega)).trans0 cu6_4).trans cu6_5 (fun _ _ => id) (fun i hi e => by (try dsimp only at e); omega)
   have hb5 := cu6_5.at (cu6_4.at0 hu5_5) (fun e => by (try dsimp only at e); omega)
   refine WL.e7 Nx.thn 1 2 8 9 15 16 17 (jt4 rfl (lt rfl (s1))) (jt4 rfl (lt rfl (s2))) (jt4 rfl (lt rfl (s8))) (lh) (jt4 rfl (lt rfl (s15))) (jt4 rfl (lt rfl (s16))) (jt4 rfl (lt rfl (s17))) ?_
   intro σ8 s1 s2 s8 s9 s15 s16 s17
   refine W.seq ?_
   refine W.region ?_
   refine WL.x (X.mv (s2)) rfl ?_
   refine WL.x (X.loadBox ag67 (lt rfl (s8)) hb5 hes1) rfl ?_
   refine WL.x (X.loadBox ag67 (jt2 rfl (s9)) hu6_5 hes2) rfl ?_
   refine WL.callv2 (caps := []) hcal (jt2 rfl (lh)) (lt rfl (lh)) (lh) (hf l1[k] l2[k] es1 es2 _ (monAn _ _ _ _ _ _ _ hc5 (fun _ _ => id) (fun _ => id) hr1) (monAn _ _ _ _ _ _ _ hc5 (fun _ _ => id) (fun _ => id) hr2)) rfl ?_
   rintro _ w6 ⟨rfl, cc⟩
   refine WL.x (X.not (lh)) rfl ?_
   refine WL.e6 Nx.thn 1 2 15 16 17 30 (jt4 rfl (lt rfl (s1))) (jt4 rfl (lt rfl (s2))) (jt4 rfl (lt rfl (s15))) (jt4 rfl (lt rfl (s16))) (jt4 rfl (lt rfl (s17))) (lh) ?_
   intro σ9 s1 s2 s15 s16 s17 s30
   refine W.cnd s30 (fun hq => ?_) (fun hq => ?_)
   ·
    refine W.seq ?_
    refine W.region ?_
    refine WL.x (X.asg lc) rfl ?_
    refine WL.e1 Nx.thn 6 (lh) ?_
    intro σ10 s6
    refine W.ret1 (Nx.rblk (Nx.rthn (Nx.rthn (Nx.rblk (Nx.rthn Nx.f1))))) s6 ?_
    exact ⟨by rw [decide_eq_false (fun e => by subst e; simp at hq)], (hcl.trans0 hc5).trans0 cc⟩
   ·
    refine W.skip (Nx.blk Nx.thn) ?_
    refine W.region ?_
    refine WL.x (X.add (s17) lc (by omega) (by omega)) rfl ?_
    refine WL.x (X.mv (lh)) rfl ?_
    refine WL.e5 Nx.thn 1 2 15 16 17 (jt2 rfl (s1)) (jt2 rfl (s2)) (jt2 rfl (s15)) (jt2 rfl (s16)) (lh) ?_
    intro σ11 s1 s2 s15 s16 s17
    have hq1 : l1[k] = l2[k] := by simpa using hq
    refine ⟨k + 1, by omega, ⟨s1.trans qo1.symm, s2.trans qo2.symm, s15.trans qo3.symm, s16.trans qo4.symm, trivial⟩, s17, by omega, fun i hi => by by_cases e : i = k; (· subst e; rw [List.getElem?_eq_getElem (by omega), List.getElem?_eq_getElem (by omega), hq1]); (· exact heq i (by omega)), (hcl.trans0 hc5).trans0 cc⟩
  ·
   refine W.exit (Nx.xthn (Nx.xthn (Nx.xblk Nx.thn))) ?_
   refine W.seq ?_
   refine W.region ?_
   refine WL.x (X.asg lc) rfl ?_
   refine WL.e1 Nx.thn 6 (lh) ?_
   intro σ12 s6
   refine W.ret1 Nx.f1 s6 ?_
   exact ⟨by rw [decide_eq_true (List.ext_getElem? fun i => by by_cases h : i < l1.length; (· exact heq i (by omega)); (· rw [List.getElem?_eq_none (by omega), List.getElem?_eq_none (by omega)]))], hcl⟩
theorem sansP_walk (A A2 : Nat → Prop) (a1 a2 : Option Addr) (c1 c2 : Nat) (l1 l2 : List GAn) (w : World) (h1 : RSl 9 RAn A w (.slice a1 l1.length c1) l1) (h2 : RSl 9 RAn A2 w (.slice a2 l2.length c2) l2) (hl : l1.length ≤ 140737488355328) :
  Sg.Ret Tryz.prog 32 #[.slice a1 l1.length c1, .slice a2 l2.length c2] w fun v w' => v = .bool (decide (l1 = l2)) ∧ Ch0 w w' := by
 refine enter1 (n := 8) (l := [.slice a1 l1.length c1, .slice a2 l2.length c2]) Tryz.func32 rfl rfl rfl rfl ?_
 refine W.g2 0 1 (v1 := .slice a1 l1.length c1) (v2 := .slice a2 l2.length c2) rfl rfl ?_; intro σ s0 s1
 refine W.seq ?_
 refine W.region ?_
 refine WL.x (X.asg lc) rfl ?_
 refine WL.e2 Nx.thn 0 1 (lt rfl (s0)) (lt rfl (s1)) ?_
 intro σ1 s0 s1
 refine W.seq ?_
 refine W.region ?_
 refine WL.x (X.mv (s0)) rfl ?_
 refine WL.x (X.mv (lt rfl (s1))) rfl ?_
 refine WL.call3 ce45 (lt rfl (lh)) (lh) lf (eqfan_walk A A2 a1 a2 c1 c2 l1 l2 75 ce75 w h1 h2 (fun x y es1 es2 w' => aneqP_ok A A2 x y es1 es2 w') hl) rfl ?_
 rintro _ w1 ⟨rfl, cc⟩
 refine WL.x (X.asg (lh)) rfl ?_
 refine WL.e1 Nx.thn 4 (lh) ?_
 intro σ2 s4
 refine W.ret1 Nx.f1 s4 ?_
 exact ⟨rfl, cc⟩
theorem samerep_ok (A A2 : Nat → Prop) (x y : GRep) (es1 es2 : List Value) (w : World) (h1 : RRep A w es1 x) (h2 : RRep A2 w es2 y) :
  Sg.Ret Tryz.prog 10 #[.agg es1.toArray, .agg es2.toArray] w fun v w' => v = .bool (decide (x = y)) ∧ Ch0 w w' := by
 obtain ⟨tx1, un1, an1, lev1, ans1, ord1⟩ := x
 obtain ⟨tx2, un2, an2, lev2, ans2, ord2⟩ := y
 obtain ⟨v1, u1, rfl, hs1, hi1, hb1, hd1⟩ := h1
 obtain ⟨v2, u2, rfl, hs2, hi2, hb2, hd2⟩ := h2
 dsimp only at hs1 hs2 hb1 hb2 hi1 hi2 hd1 hd2
 obtain ⟨a1, c1, rfl, hs1⟩ := hs1.at'
 obtain ⟨a2, c2, rfl, hs2⟩ := hs2.at'
 refine enter1 (n := 45) (l := [.agg #[.int .i64 tx1, .bool un1, .slice a1 an1.length c1, .int .i64 lev1, .int .i64 ans1, u1], .agg #[.int .i64 tx2, .bool un2, .slice a2 an2.length c2, .int .i64 lev2, .int .i64 ans2, u2]]) Tryz.func10 rfl rfl rfl rfl ?_
 refine W.g2 0 1 (v1 := .agg #[.int .i64 tx1, .bool un1, .slice a1 an1.length c1, .int .i64 lev1, .int .i64 ans1, u1]) (v2 := .agg #[.int .i64 tx2, .bool un2, .slice a2 an2.length c2, .int .i64 lev2, .int .i64 ans2, u2]) rfl rfl ?_; intro σ s0 s1
 refine W.seq ?_
 refine W.region ?_
 refine WL.box (s0) rfl ?_
 intro w1 u0_0; have hu0_0 := u0_0.at_; have cu0_0 := u0_0.ch; have zu0_0 := u0_0.size
 refine WL.box (lt rfl (s1)) rfl ?_
 intro w2 u0_1; have hu0_1 := u0_1.at_; have cu0_1 := u0_1.ch; have zu0_1 := u0_1.size
 refine WL.x (X.asg lc) rfl ?_
 refine WL.e2 Nx.thn 2 3 (jt2 rfl (lh)) (lt rfl (lh)) ?_
 intro σ1 s2 s3
 refine W.seq ?_
 refine W.region ?_
 refine WL.x (X.fieldAddr fd25_0 (s2)) rfl ?_
 refine WL.x (X.load pl3 (lh) (by exact cu0_1.at0 (by assumption)) (by rfl)) rfl ?_
 refine WL.x (X.fieldAddr fd25_0 (jt2 rfl (s3))) rfl ?_
 refine WL.x (X.load pl3 (lh) (by assumption) (by rfl)) rfl ?_
 refine WL.x (X.eql (jt2 rfl (lh)) (lh)) rfl ?_
 refine WL.x (X.mv (lh)) rfl ?_
 refine WL.splitp (lh) (fun q1 => ?_) (fun q1 => ?_)
 ·
  refine WL.yes rfl rfl (lh) (decide_eq_true q1) ?_
  refine WL.x (X.fieldAddr fd25_1 (jt4 rfl (jt2 rfl (s2)))) rfl ?_
  refine WL.yes rfl rfl (lt rfl (lh)) (decide_eq_true q1) ?_
  refine WL.x (X.load pl4 (lh) (by exact cu0_1.at0 (by assumption)) (by rfl)) rfl ?_
  refine WL.yes rfl rfl (jt2 rfl (lh)) (decide_eq_true q1) ?_
  refine WL.x (X.fieldAddr fd25_1 (jt8 rfl (s3))) rfl ?_
  refine WL.yes rfl rfl (jt2 rfl (lt rfl (lh))) (decide_eq_true q1) ?_
  refine WL.x (X.load pl4 (lh) (by assumption) (by rfl)) rfl ?_
  refine WL.yes rfl rfl (jt4 rfl (lh)) (decide_eq_true q1) ?_
  refine WL.x (X.eqlB Tryz.underlying4 (jt2 rfl (lh)) (lh)) rfl ?_
  refine WL.x (X.pickT (jt4 rfl (lt rfl (lh))) (decide_eq_true q1) (lh)) rfl ?_
  refine WL.x (X.mv (lh)) rfl ?_
  refine WL.splitp (lh) (fun q2 => ?_) (fun q2 => ?_)
  ·
   refine WL.yes rfl rfl (lh) (decide_eq_true q2) ?_
   refine WL.x (X.fieldAddr fd25_3 (jt8 rfl (jt4 rfl (lt rfl (s2))))) rfl ?_
   refine WL.yes rfl rfl (lt rfl (lh)) (decide_eq_true q2) ?_
   refine WL.x (X.load pl3 (lh) (by exact cu0_1.at0 (by assumption)) (by rfl)) rfl ?_
   refine WL.yes rfl rfl (jt2 rfl (lh)) (decide_eq_true q2) ?_
   refine WL.x (X.fieldAddr fd25_3 (jt8 rfl (jt4 rfl (jt2 rfl (lt rfl (s3)))))) rfl ?_
   refine WL.yes rfl rfl (jt2 rfl (lt rfl (lh))) (decide_eq_true q2) ?_
   refine WL.x (X.load pl3 (lh) (by assumption) (by rfl)) rfl ?_
   refine WL.yes rfl rfl (jt4 rfl (lh)) (decide_eq_true q2) ?_
   refine WL.x (X.eql (jt2 rfl (lh)) (lh)) rfl ?_
   refine WL.x (X.pickT (jt4 rfl (lt rfl (lh))) (decide_eq_true q2) (lh)) rfl ?_
   refine WL.x (X.mv (lh)) rfl ?_
   refine WL.splitp (lh) (fun q3 => ?_) (fun q3 => ?_)
   ·
    refine WL.yes rfl rfl (lh) (decide_eq_true q3) ?_
    refine WL.x (X.fieldAddr fd25_4 (jt8 rfl (jt8 rfl (jt4 rfl (s2))))) rfl ?_
    refine WL.yes rfl rfl (lt rfl (lh)) (decide_eq_true q3) ?_
    refine WL.x (X.load pl3 (lh) (by exact cu0_1.at0 (by assumption)) (by rfl)) rfl ?_
    refine WL.yes rfl rfl (jt2 rfl (lh)) (decide_eq_true q3) ?_
    refine WL.x (X.fieldAddr fd25_4 (jt8 rfl (jt8 rfl (jt4 rfl (jt2 rfl (s3)))))) rfl ?_
    refine WL.yes rfl rfl (jt2 rfl (lt rfl (lh))) (decide_eq_true q3) ?_
    refine WL.x (X.load pl3 (lh) (by assumption) (by rfl)) rfl ?_
    refine WL.yes rfl rfl (jt4 rfl (lh)) (decide_eq_true q3) ?_
    refine WL.x (X.eql (jt2 rfl (lh)) (lh)) rfl ?_
    refine WL.x (X.pickT (jt4 rfl (lt rfl (lh))) (decide_eq_true q3) (lh)) rfl ?_
    refine WL.x (X.mv (lh)) rfl ?_
    refine WL.splitp (lh) (fun q4 => ?_) (fun q4 => ?_)
    ·
     refine WL.yes rfl rfl (lh) (decide_eq_true q4) ?_
     refine WL.x (X.fieldAddr fd25_5 (jt8 rfl (jt8 rfl (jt8 rfl (jt2 rfl (lt rfl (s2))))))) rfl ?_
     refine WL.yes rfl rfl (lt rfl (lh)) (decide_eq_true q4) ?_
     refine WL.x (X.load pl23 (lh) (by exact cu0_1.at0 (by assumption)) (by rfl)) rfl ?_
     refine WL.yes rfl rfl (jt2 rfl (lh)) (decide_eq_true q4) ?_
     refine WL.x (X.fieldAddr fd25_5 (jt8 rfl (jt8 rfl (jt8 rfl (jt4 rfl (lt rfl (s3))))))) rfl ?_
     refine WL.yes rfl rfl (jt2 rfl (lt rfl (lh))) (decide_eq_true q4) ?_
     refine WL.x (X.load pl23 (lh) (by assumption) (by rfl)) rfl ?_
     refine WL.yes rfl rfl (jt4 rfl (lh)) (decide_eq_true q4) ?_
     refine WL.call2 ce31 (jt2 rfl (lh)) (lh) (eqi_ok u1 u2 ord1 ord2 w2 (hi1.1.ch0 (cu0_0.trans0 cu0_1)) (hi2.1.ch0 (cu0_0.trans0 cu0_1)) (by omega)) rfl ?_
     rintro _ w3 ⟨rfl, hdr⟩
     have hdc := hdr.ch0
     have hc2 := cu0_0.trans0 cu0_1
     refine WL.x (X.pickT (jt4 rfl (lt rfl (lh))) (decide_eq_true q4) (lh)) rfl ?_
     refine WL.x (X.mv (lh)) rfl ?_
     refine WL.split (lh) (fun q5 => ?_) (fun q5 => ?_)
     ·
      refine WL.yes rfl rfl (lh) (q5) ?_
      refine WL.x (X.fieldAddr fd25_2 (jt8 rfl (jt8 rfl (jt8 rfl (jt8 rfl (jt2 rfl (s2))))))) rfl ?_
      refine WL.yes rfl rfl (lt rfl (lh)) (q5) ?_
      refine WL.x (X.load pl22 (lh) (hdr.ch0.at0 (cu0_1.at0 hu0_0)) (by rfl)) rfl ?_
      refine WL.yes rfl rfl (jt2 rfl (lh)) (q5) ?_
      refine WL.x (X.fieldAddr fd25_2 (jt8 rfl (jt8 rfl (jt8 rfl (jt8 rfl (jt4 rfl (s3))))))) rfl ?_
      refine WL.yes rfl rfl (jt2 rfl (lt rfl (lh))) (q5) ?_
      refine WL.x (X.load pl22 (lh) (hdr.ch0.at0 hu0_1) (by rfl)) rfl ?_
      refine WL.yes rfl rfl (jt4 rfl (lh)) (q5) ?_
      refine WL.call2 ce32 (jt2 rfl (lh)) (lh) (sansP_walk A A2 a1 a2 c1 c2 an1 an2 w3 (hs1.ch0 monAn (hc2.trans0 hdr.ch0)) (hs2.ch0 monAn (hc2.trans0 hdr.ch0)) (by omega)) rfl ?_
      rintro _ w4 ⟨rfl, cc⟩
      refine WL.x (X.pickT (jt4 rfl (lt rfl (lh))) (q5) (lh)) rfl ?_
      refine WL.x (X.asg (lh)) rfl ?_
      refine WL.e1 Nx.thn 4 (lh) ?_
      intro σ2 s4
      refine W.ret1 Nx.f1 s4 ?_
      exact ⟨congrArg Value.bool (by simp [q1, q2, q3, q4, of_decide_eq_true q5]), (hc2.trans0 hdr.ch0).trans0 cc⟩
     ·
      refine WL.no rfl rfl (lh) (q5) rfl ?_
      refine WL.no rfl rfl (lt rfl (lh)) (q5) rfl ?_
      refine WL.no rfl rfl (jt2 rfl (lh)) (q5) rfl ?_
      refine WL.no rfl rfl (jt2 rfl (lt rfl (lh))) (q5) rfl ?_
      refine WL.no rfl rfl (jt4 rfl (lh)) (q5) rfl ?_
      refine WL.x (X.pickF (jt4 rfl (lt rfl (lh))) (q5) lc) rfl ?_
      refine WL.x (X.asg (lh)) rfl ?_
      refine WL.e1 Nx.thn 4 (lh) ?_
      intro σ3 s4
      refine W.ret1 Nx.f1 s4 ?_
      exact ⟨by rw [decide_eq_false (fun e => of_decide_eq_false q5 (congrArg (fun z : GRep => z.2.2.2.2.2) e))], hc2.trans0 hdr.ch0⟩
    ·
     refine WL.no rfl rfl (lh) (decide_eq_false q4) rfl ?_
     refine WL.no rfl rfl (lt rfl (lh)) (decide_eq_false q4) rfl ?_
     refine WL.no rfl rfl (jt2 rfl (lh)) (decide_eq_false q4) rfl ?_
     refine WL.no rfl rfl (jt2 rfl (lt rfl (lh))) (decide_eq_false q4) rfl ?_
     refine WL.no rfl rfl (jt4 rfl (lh)) (decide_eq_false q4) rfl ?_
     refine WL.x (X.pickF (jt4 rfl (lt rfl (lh))) (decide_eq_false q4) lc) rfl ?_
     refine WL.x (X.mv (lh)) rfl ?_
     refine WL.no rfl rfl (lh) rfl rfl ?_
     refine WL.no rfl rfl (lt rfl (lh)) rfl rfl ?_
     refine WL.no rfl rfl (jt2 rfl (lh)) rfl rfl ?_
     refine WL.no rfl rfl (jt2 rfl (lt rfl (lh))) rfl rfl ?_
     refine WL.no rfl rfl (jt4 rfl (lh)) rfl rfl ?_
     refine WL.x (X.pickF (jt4 rfl (lt rfl (lh))) rfl lc) rfl ?_
     refine WL.x (X.asg (lh)) rfl ?_
     refine WL.e1 Nx.thn 4 (lh) ?_
     intro σ4 s4
     refine W.ret1 Nx.f1 s4 ?_
     exact ⟨by rw [decide_eq_false (fun e => q4 (congrArg (fun z : GRep => z.2.2.2.2.1) e))], cu0_0.trans0 cu0_1⟩
   ·
    refine WL.no rfl rfl (lh) (decide_eq_false q3) rfl ?_
    refine WL.no rfl rfl (lt rfl (lh)) (decide_eq_false q3) rfl ?_
    refine WL.no rfl rfl (jt2 rfl (lh)) (decide_eq_false q3) rfl ?_
    refine WL.no rfl rfl (jt2 rfl (lt rfl (lh))) (decide_eq_false q3) rfl ?_
    refine WL.no rfl rfl (jt4 rfl (lh)) (decide_eq_false q3) rfl ?_
    refine WL.x (X.pickF (jt4 rfl (lt rfl (lh))) (decide_eq_false q3) lc) rfl ?_
    refine WL.x (X.mv (lh)) rfl ?_
    refine WL.no rfl rfl (lh) rfl rfl ?_
    refine WL.no rfl rfl (lt rfl (lh)) rfl rfl ?_
    refine WL.no rfl rfl (jt2 rfl (lh)) rfl rfl ?_
    refine WL.no rfl rfl (jt2 rfl (lt rfl (lh))) rfl rfl ?_
    refine WL.no rfl rfl (jt4 rfl (lh)) rfl rfl ?_
    refine WL.x (X.pickF (jt4 rfl (lt rfl (lh))) rfl lc) rfl ?_
    refine WL.x (X.mv (lh)) rfl ?_
    refine WL.no rfl rfl (lh) rfl rfl ?_
    refine WL.no rfl rfl (lt rfl (lh)) rfl rfl ?_
    refine WL.no rfl rfl (jt2 rfl (lh)) rfl rfl ?_
    refine WL.no rfl rfl (jt2 rfl (lt rfl (lh))) rfl rfl ?_
    refine WL.no rfl rfl (jt4 rfl (lh)) rfl rfl ?_
    refine WL.x (X.pickF (jt4 rfl (lt rfl (lh))) rfl lc) rfl ?_
    refine WL.x (X.asg (lh)) rfl ?_
    refine WL.e1 Nx.thn 4 (lh) ?_
    intro σ5 s4
    refine W.ret1 Nx.f1 s4 ?_
    exact ⟨by rw [decide_eq_false (fun e => q3 (congrArg (fun z : GRep => z.2.2.2.1) e))], cu0_0.trans0 cu0_1⟩
  ·
   refine WL.no rfl rfl (lh) (decide_eq_false q2) rfl ?_
   refine WL.no rfl rfl (lt rfl (lh)) (decide_eq_false q2) rfl ?_
   refine WL.no rfl rfl (jt2 rfl (lh)) (decide_eq_false q2) rfl ?_
   refine WL.no rfl rfl (jt2 rfl (lt rfl (lh))) (decide_eq_false q2) rfl ?_
   refine WL.no rfl rfl (jt4 rfl (lh)) (decide_eq_false q2) rfl ?_
   refine WL.x (X.pickF (jt4 rfl (lt rfl (lh))) (decide_eq_false q2) lc) rfl ?_
   refine WL.x (X.mv (lh)) rfl ?_
   refine WL.no rfl rfl (lh) rfl rfl ?_
   refine WL.no rfl rfl (lt rfl (lh)) rfl rfl ?_
   refine WL.no rfl rfl (jt2 rfl (lh)) rfl rfl ?_
   refine WL.no rfl rfl (jt2 rfl (lt rfl (lh))) rfl rfl ?_
   refine WL.no rfl rfl (jt4 rfl (lh)) rfl rfl ?_
   refine WL.x (X.pickF (jt4 rfl (lt rfl (lh))) rfl lc) rfl ?_
   refine WL.x (X.mv (lh)) rfl ?_
   refine WL.no rfl rfl (lh) rfl rfl ?_
   refine WL.no rfl rfl (lt rfl (lh)) rfl rfl ?_
   refine WL.no rfl rfl (jt2 rfl (lh)) rfl rfl ?_
   refine WL.no rfl rfl (jt2 rfl (lt rfl (lh))) rfl rfl ?_
   refine WL.no rfl rfl (jt4 rfl (lh)) rfl rfl ?_
   refine WL.x (X.pickF (jt4 rfl (lt rfl (lh))) rfl lc) rfl ?_
   refine WL.x (X.mv (lh)) rfl ?_
   refine WL.no rfl rfl (lh) rfl rfl ?_
   refine WL.no rfl rfl (lt rfl (lh)) rfl rfl ?_
   refine WL.no rfl rfl (jt2 rfl (lh)) rfl rfl ?_
   refine WL.no rfl rfl (jt2 rfl (lt rfl (lh))) rfl rfl ?_
   refine WL.no rfl rfl (jt4 rfl (lh)) rfl rfl ?_
   refine WL.x (X.pickF (jt4 rfl (lt rfl (lh))) rfl lc) rfl ?_
   refine WL.x (X.asg (lh)) rfl ?_
   refine WL.e1 Nx.thn 4 (lh) ?_
   intro σ6 s4
   refine W.ret1 Nx.f1 s4 ?_
   exact ⟨by rw [decide_eq_false (fun e => q2 (congrArg (fun z : GRep => z.2.1) e))], cu0_0.trans0 cu0_1⟩
 ·
  refine WL.no rfl rfl (lh) (decide_eq_false q1) rfl ?_
  refine WL.no rfl rfl (lt rfl (lh)) (decide_eq_false q1) rfl ?_
  refine WL.no rfl rfl (jt2 rfl (lh)) (decide_eq_false q1) rfl ?_
  refine WL.no rfl rfl (jt2 rfl (lt rfl (lh))) (decide_eq_false q1) rfl ?_
  refine WL.no rfl rfl (jt4 rfl (lh)) (decide_eq_false q1) rfl ?_
  refine WL.x (X.pickF (jt4 rfl (lt rfl (lh))) (decide_eq_false q1) lc) rfl ?_
  refine WL.x (X.mv (lh)) rfl ?_
  refine WL.no rfl rfl (lh) rfl rfl ?_
  refine WL.no rfl rfl (lt rfl (lh)) rfl rfl ?_
  refine WL.no rfl rfl (jt2 rfl (lh)) rfl rfl ?_
  refine WL.no rfl rfl (jt2 rfl (lt rfl (lh))) rfl rfl ?_
  refine WL.no rfl rfl (jt4 rfl (lh)) rfl rfl ?_
  refine WL.x (X.pickF (jt4 rfl (lt rfl (lh))) rfl lc) rfl ?_
  refine WL.x (X.mv (lh)) rfl ?_
  refine WL.no rfl rfl (lh) rfl rfl ?_
  refine WL.no rfl rfl (lt rfl (lh)) rfl rfl ?_
  refine WL.no rfl rfl (jt2 rfl (lh)) rfl rfl ?_
  refine WL.no rfl rfl (jt2 rfl (lt rfl (lh))) rfl rfl ?_
  refine WL.no rfl rfl (jt4 rfl (lh)) rfl rfl ?_
  refine WL.x (X.pickF (jt4 rfl (lt rfl (lh))) rfl lc) rfl ?_
  refine WL.x (X.mv (lh)) rfl ?_
  refine WL.no rfl rfl (lh) rfl rfl ?_
  refine WL.no rfl rfl (lt rfl (lh)) rfl rfl ?_
  refine WL.no rfl rfl (jt2 rfl (lh)) rfl rfl ?_
  refine WL.no rfl rfl (jt2 rfl (lt rfl (lh))) rfl rfl ?_
  refine WL.no rfl rfl (jt4 rfl (lh)) rfl rfl ?_
  refine WL.x (X.pickF (jt4 rfl (lt rfl (lh))) rfl lc) rfl ?_
  refine WL.x (X.mv (lh)) rfl ?_
  refine WL.no rfl rfl (lh) rfl rfl ?_
  refine WL.no rfl rfl (lt rfl (lh)) rfl rfl ?_
  refine WL.no rfl rfl (jt2 rfl (lh)) rfl rfl ?_
  refine WL.no rfl rfl (jt2 rfl (lt rfl (lh))) rfl rfl ?_
  refine WL.no rfl rfl (jt4 rfl (lh)) rfl rfl ?_
  refine WL.x (X.pickF (jt4 rfl (lt rfl (lh))) rfl lc) rfl ?_
  refine WL.x (X.asg (lh)) rfl ?_
  refine WL.e1 Nx.thn 4 (lh) ?_
  intro σ7 s4
  refine W.ret1 Nx.f1 s4 ?_
  exact ⟨by rw [decide_eq_false (fun e => q1 (congrArg (fun z : GRep => z.1) e))], cu0_0.trans0 cu0_1⟩
end Go.Proofs.YtbnllchicnmkiaaGreatDoor
end

section
set_option linter.unusedVariables false
set_option linter.unusedSimpArgs false
set_option maxRecDepth 100000
namespace Go.Proofs.YtbnllchicnmkiaaGreatDoor
open Go Go.RowKit Sg
theorem ce7 : Sg.Callee Tryz.prog 7 := ⟨_, Tryz.func7, by decide, rfl⟩
theorem ce10 : Sg.Callee Tryz.prog 10 := ⟨_, Tryz.func10, by decide, rfl⟩
theorem RRep.ch0 {A : Nat → Prop} {w w' : World} {es : List Value} {x : GRep} (h : RRep A w es x) (c : Ch0 w w') : RRep A w' es x := monRep _ _ _ _ _ _ _ c (fun _ _ => id) (fun _ => id) h
theorem RRep.len6 {A : Nat → Prop} {w : World} {es : List Value} {x : GRep} (h : RRep A w es x) : es.length = 6 := by
  obtain ⟨v, u, rfl, _⟩ := h; rfl
end Go.Proofs.YtbnllchicnmkiaaGreatDoor
end
