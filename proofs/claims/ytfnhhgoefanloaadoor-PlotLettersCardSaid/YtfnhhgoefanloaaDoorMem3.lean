/-
  Structs and arrays as values: storing them, indexing them, handing them back; over any program.
-/
import Derived.Test.YtfnhhgoefanloaaDoorFams
namespace Sg
open Go Go.RowKit

/-- A row of cells with some written over. -/
def blit (cs : Array Value) (o : Nat) (vs : List Value) : Array Value := (cs.toList.take o ++ vs ++ cs.toList.drop (o + vs.length)).toArray

section
variable {P : Program} {n : Sz} {Q : Post} {σ : Env} {w : World} {ops : Array Oper} {rest : List Oper}
variable {d : Nat} {t xt : TypeId} {pos : String} {af : Array Edge} {v : Value} {x y : Operand} {b o : Nat} {cs : Array Value} {T : TypeId} {fr : Nat × Nat}

theorem st_setRow {w : World} {b : Nat} {cs cs' : Array Value} {T : TypeId} (h : w.heap[b]? = some (.cells cs T (0, 0))) : St w (w.setRow b cs') b (.cells cs' T (0, 0)) :=
  ⟨setRow_heap w b cs cs' T _ h, ⟨rfl, rfl, rfl, by simp, fun k _ hn => setRow_other w b k cs' (fun e => hn e)⟩, by simp⟩

theorem WL.storeS {k : Nat} {vs : List Value} (ha : Aggr P xt k) (hx : ev σ x = .pointer (some ⟨b, o, none⟩)) (hy : ev σ y = .agg vs.toArray) (h1 : vs.all (·.oneCell') = true) (hk : vs.length = k) (hm : w.heap[b]? = some (.cells cs T (0, 0)))
    (hc : o + k ≤ cs.size) (h : ∀ w', St w w' b (.cells (blit cs o vs) T (0, 0)) → WL P n ops Q rest σ w') : WL P n ops Q (⟨none, .store xt x y, t, pos, af, none⟩ :: rest) σ w := by
  subst hk
  obtain ⟨_, i, hi, hi1⟩ := ha
  refine WL.skp (w' := w.setRow b (blit cs o vs)) rfl rfl ?_ (h _ (st_setRow hm))
  have hst := run_storeCells_at P b o T vs 0 cs w hm (by simpa using hc) (by simpa using h1)
  simp only [Nat.add_zero] at hst
  simp [execOp, hx, hy, Instr.storeAt, Instr.sureAddr, storeVar, Value.cells, Go.sizeOf, typeInfo, hi, hi1, hst, blit]

theorem X.indexAddrA {e : TypeId} {size bytes len : Nat} {z : Value} {k : IntKind} {p : Int} (hs : P.underlying xt = some (.array len e)) (he : Elem P e size z bytes) (hx : ev σ x = .pointer (some ⟨b, o, none⟩))
    (hy : ev σ y = .int k p) (h0 : 0 ≤ p) (h1 : p < len) : X P σ w (.indexAddr xt x y) t (.pointer (some ⟨b, o + p.toNat * size, none⟩)) := fun _ _ _ _ => by
  obtain ⟨i, hi, rfl, _⟩ := he
  simp [execOp, hx, hy, Instr.indexAt, Instr.sureAddr, asIntOf, run_underlying hs, Go.sizeOf, typeInfo, hi, h0, h1, Addr.add]
/-! ### Parts of a struct or an array that is a value -/
theorem X.indexA {len : Nat} {e : TypeId} {k : IntKind} {p : Int} {z : Value} {bytes : Nat} (hs : P.underlying xt = some (.array len e)) (hp : Plain P e) (he : Elem P e 1 z bytes) (hx : ev σ x = .agg cs) (hy : ev σ y = .int k p) (h0 : 0 ≤ p) (h1 : p < len) (hc : cs[p.toNat]? = some v) :
    X P σ w (.index xt x y) t v := fun _ _ _ _ => by
  obtain ⟨i, hi, hi1, _⟩ := he
  simp [execOp, hx, hy, Instr.index, asIntOf, run_underlying hs, h0, h1, Go.sizeOf, typeInfo, hi, hi1, part, run_isAgg_plain hp, hc]
theorem X.field {s f off : Nat} (hf : ∃ fs fd, P.underlying s = some (.struct fs) ∧ fs[f]? = some fd ∧ fd.offset = off ∧ Plain P fd.type) (hx : ev σ x = .agg cs) (hc : cs[off]? = some v) : X P σ w (.field s x f) t v := fun _ _ _ _ => by
  obtain ⟨fs, fd, h1, h2, rfl, h4⟩ := hf
  simp [execOp, hx, Instr.field, run_underlying h1, h2, asAgg, part, run_isAgg_plain h4, hc]
theorem X.fieldS {s f off k : Nat} (hf : ∃ fs fd, P.underlying s = some (.struct fs) ∧ fs[f]? = some fd ∧ fd.offset = off ∧ Aggr P fd.type k) (hx : ev σ x = .agg cs) (hc : cs.extract off (off + k) = v.cells) (hv : ∃ a, v = .agg a) : X P σ w (.field s x f) t v := fun _ _ _ _ => by
  obtain ⟨fs, fd, h1, h2, rfl, h4⟩ := hf
  obtain ⟨a, rfl⟩ := hv
  have hag := run_isAgg_aggr (w := w) h4
  obtain ⟨_, i, hi, rfl⟩ := h4
  simp only [Value.cells] at hc
  simp [execOp, hx, Instr.field, run_underlying h1, h2, asAgg, part, hag, Go.sizeOf, typeInfo, hi, hc]

/-! ### Results that lie in cells -/
inductive Rs (P : Program) (σ : Env) (w : World) : List ResultVar → List Value → Prop where
  | nil : Rs P σ w [] []
  | tmp {t : Nat} {v : Value} {rs : List ResultVar} {vs : List Value} : σ t = v → Rs P σ w rs vs → Rs P σ w (.tmp t :: rs) (v :: vs)
  | cell {a ty b : Nat} {cs : Array Value} {T : TypeId} {fr : Nat × Nat} {rs : List ResultVar} {vs : List Value} : σ a = .pointer (some ⟨b, 0, none⟩) → w.heap[b]? = some (.cells cs T fr) → Aggr P ty cs.size → Rs P σ w rs vs → Rs P σ w (.cell a ty :: rs) (.agg cs :: vs)
  | cell1 {a ty b : Nat} {cs : Array Value} {T : TypeId} {fr : Nat × Nat} {v : Value} {rs : List ResultVar} {vs : List Value} : σ a = .pointer (some ⟨b, 0, none⟩) → Plain P ty → w.heap[b]? = some (.cells cs T fr) → cs[0]? = some v → Rs P σ w rs vs → Rs P σ w (.cell a ty :: rs) (v :: vs)
def oneOf : List Value → Value
  | [v] => v
  | vs => .tuple vs.toArray
def finG (P : Program) (rs : List ResultVar) (R : Value → World → Prop) : Post
  | .normal, σ, w | .ret, σ, w => ∃ vs, Rs P σ w rs vs ∧ R (oneOf vs) w
  | _, _, _ => False
theorem Nx.fG {rs : List ResultVar} {R : Value → World → Prop} : Nx (finG P rs R) .ret (fun σ w => ∃ vs, Rs P σ w rs vs ∧ R (oneOf vs) w) := fun _ _ h => h

def resS (σ : Env) : ResultVar → Sem Value
  | .tmp t => pure (σ t)
  | .cell p t => do loadVar t (← asAddr (σ p))
theorem run_results {rs : List ResultVar} {vs : List Value} (h : Rs P σ w rs vs) : (rs.mapM (m := Sem) (resS σ)).run P w = .ok vs w := by
  induction h with
  | nil => rfl
  | tmp h1 _ ih => simp only [List.mapM_cons, Sem.run_bind, ih, resS, h1, Sem.run_pure, Result.andThen_ok]
  | cell h1 h3 h2 _ ih =>
    rename_i p ty b cs T fr rs vs _
    have hcells : (loadCells ⟨b, 0, none⟩ cs.size).run P w = .ok cs w := by
      have := run_loadCells_list (P := P) w ⟨b, 0, none⟩ cs.toList (by
        intro j u hu
        have hadd : (⟨b, 0, none⟩ : Addr).add j = ⟨b, j, none⟩ := by unfold Addr.add; split <;> simp_all
        rw [hadd]; exact cell_of h3 (by simpa using hu))
      simpa using this
    have hag := run_isAgg_aggr (w := w) h2
    obtain ⟨_, i, hi, hsz⟩ := h2
    have h0 : (resS σ (.cell p ty)).run P w = .ok (.agg cs) w := by
      simp [resS, h1, asAddr, loadVar, hag, Go.sizeOf, typeInfo, hi, hsz, hcells]
    simp only [List.mapM_cons, Sem.run_bind, h0, Result.andThen_ok, ih, Sem.run_pure]
  | cell1 h1 h2 h3 h4 _ ih =>
    rename_i p ty b cs T fr v rs vs _
    have h0 : (resS σ (.cell p ty)).run P w = .ok v w := by
      simp [resS, h1, asAddr, loadVar, run_isAgg_plain h2, cell_of h3 h4]
    simp only [List.mapM_cons, Sem.run_bind, h0, Result.andThen_ok, ih, Sem.run_pure]

theorem enterG {f : Nat} {fn : Func} {c : Code} {l : List Value} {R : Value → World → Prop} {rs : List ResultVar} (hf : P.funcs[f]? = some fn) (hb : fn.body = some c) (hm : (⟨fn.ntmps, []⟩ : Sz) = n) (hl : Nat.ble l.length n.sz = true) (hr : fn.results = rs.toArray)
    (h : W P n c (finG P rs R) (env0 l) w) : Ret P f l.toArray w R := by
  refine enter_fin _ hf hb hm hl ?_ h
  intro e a σ w hs hq
  have key : (∃ vs, Rs P σ w rs vs ∧ R (oneOf vs) w) → ∃ v, (results fn a.tmps).run P w = .ok v w ∧ ∃ v', Ending.returned v = .returned v' ∧ R v' w := by
    rintro ⟨vs, hv, hR⟩
    refine ⟨oneOf vs, ?_, _, rfl, hR⟩
    have hm := run_results hv
    have hfun : results fn a.tmps = (do let vs ← fn.results.mapM (m := Sem) (resS σ); pure (if h : vs.size = 1 then vs[0] else .tuple vs)) := by
      unfold results
      congr 1
      congr 1
      funext r
      cases r <;> simp only [resS, hs.get]
    rw [hfun, hr, Array.mapM_eq_mapM_toList]
    simp only [Sem.run_bind, Sem.run_map, hm, Result.andThen_ok, Sem.run_pure]
    congr 1
    match vs with
    | [] => rfl
    | [v] => rfl
    | _ :: _ :: _ => rfl
  cases e <;> first | exact hq.elim | exact ⟨hs.defers.trans (by first | rfl | rw [← hm]), key hq⟩
theorem W.retG {K : Env → World → Prop} (hg : Nx Q .ret K) (h : K σ w) : W P n .ret Q σ w := W.ret hg h

/-! ### '==' on arrays of two numbers -/
theorem run_int_equalIn {t : TypeId} {k : IntKind} {a b : Int} (m : Nat) (hs : P.underlying t = some (.int k)) : (Op.equalIn (m + 1) t (.int k a) (.int k b)).run P w = .ok (a == b) w := by
  simp [Op.equalIn, run_underlying hs]
theorem run_arr2_equalIn {t e : TypeId} {a b c d : Int} {i : TypeInfo} (m : Nat) (hs : P.underlying t = some (.array 2 e)) (he : P.underlying e = some (.int .i64)) (hi : P.info? e = some i) (h1 : i.size = 1) :
    (Op.equalIn (m + 2) t (.agg #[.int .i64 a, .int .i64 b]) (.agg #[.int .i64 c, .int .i64 d])).run P w = .ok (decide (a = c) && decide (b = d)) w := by
  have hp : Plain P e := ⟨_, he, trivial⟩
  have e1 : ∀ x y, (Op.equalIn (m + 1) e (.int .i64 x) (.int .i64 y)).run P w = .ok (x == y) w := fun x y => run_int_equalIn m he
  unfold Op.equalIn
  simp only [Sem.run_bind, run_underlying hs, Result.andThen_ok, Go.sizeOf, typeInfo, run_program, hi, h1, Sem.run_pure]
  simp [Std.Legacy.Range.forIn_eq_forIn_range', List.range', part, run_isAgg_plain hp, e1]
  by_cases h1 : a = c <;> by_cases h2 : b = d <;> simp [h1, h2]
theorem X.eqlA2 {e yt : TypeId} {a b c d : Int} {z : Value} {bytes : Nat} (hs : P.underlying xt = some (.array 2 e)) (he : P.underlying e = some (.int .i64)) (hel : Elem P e 1 z bytes) (hg : P.eqGuardType P.depth xt = false)
    (hx : ev σ x = .agg #[.int .i64 a, .int .i64 b]) (hy : ev σ y = .agg #[.int .i64 c, .int .i64 d]) : X P σ w (.binOp .eql xt x y yt) t (.bool (decide (a = c ∧ b = d))) := fun _ _ _ _ => by
  obtain ⟨i, hi, h1, _⟩ := hel
  have hgd := run_eqGuard_agg (P := P) w .eql xt x y #[.int .i64 a, .int .i64 b] #[.int .i64 c, .int .i64 d] hg
  have hb : (binOp .eql xt (.agg #[.int .i64 a, .int .i64 b]) (.agg #[.int .i64 c, .int .i64 d])).run P w = .ok (.bool (decide (a = c ∧ b = d))) w := by
    rw [run_eql_struct (P := P), run_arr2_equalIn 9998 hs he hi h1]
    simp
  simp only [execOp, hx, hy, Sem.run_bind, hgd, Result.andThen_ok, hb, Sem.run_pure]

/-! ### copy -/
theorem WL.copy {e sT ty : TypeId} {z vs : Value} {bytes dCap g : Nat} {l : List Value} (hs : P.underlying xt = some (.slice e)) (he : Elem P e 1 z bytes) (hx : ev σ x = .slice (some ⟨g, o, none⟩) l.length dCap) (hy : ev σ y = vs) (hl : Sl w vs l)
    (h1 : l.all (·.oneCell') = true) (hm : w.heap[g]? = some (.cells cs T (0, 0))) (hc : o + l.length ≤ cs.size) (hn : Nat.blt d n.sz = true)
    (h : ∀ w', St w w' g (.cells (blit cs o l) T (0, 0)) → WL P n ops Q rest (up σ d (.int .i64 l.length)) w') :
    WL P n ops Q (⟨some d, .call ⟨.builtin .copy, #[x, y], #[xt, sT]⟩, ty, pos, af, none⟩ :: rest) σ w := by
  obtain ⟨i, hi, hi1, _⟩ := he
  have hsz : (P.info? e).map (·.size) = some 1 := by rw [hi]; simp [hi1]
  rcases hl with ⟨rfl, a', c, rfl⟩ | ⟨b, o', cap, cs', T', fr, rfl, _, hb, hcs⟩
  · have hr := run_copy_none (P := P) w xt sT ty e (some ⟨g, o, none⟩) a' 0 dCap 0 c hs hsz rfl
    have hst : St w w g (.cells (blit cs o []) T (0, 0)) := ⟨by rw [hm]; simp [blit], Ch.refl _ _, rfl⟩
    refine WL.step (w' := w) rfl rfl hn ?_ (h w hst)
    simp only [execOp, resolve, invoke, builtin, Sem.run_bind, Sem.run_pure, Result.andThen_ok, List.map_toArray, List.map_cons, List.map_nil, hx, hy]
    simp only [List.length_nil] at *
    rw [hr]; rfl
  · have hr := run_copy_row (P := P) w xt sT ty e g o l.length dCap ⟨b, o', none⟩ l.length cap cs T l hs hsz hm (by simp) (by
      intro j v hv
      have hj : j < l.length := (List.getElem?_eq_some_iff.1 hv).1
      have hadd : (⟨b, o', none⟩ : Addr).add j = ⟨b, o' + j, none⟩ := by unfold Addr.add; split <;> simp_all
      rw [hadd]; exact cell_of hb ((hcs j hj).trans hv)) hc (by simpa using h1)
    refine WL.step (w' := w.setRow g (blit cs o l)) rfl rfl hn ?_ (h _ (st_setRow hm))
    simp only [execOp, resolve, invoke, builtin, Sem.run_bind, Sem.run_pure, Result.andThen_ok, List.map_toArray, List.map_cons, List.map_nil, hx, hy, hr]
    rfl
theorem blit_all {cs : Array Value} {l : List Value} (h : l.length = cs.size) : blit cs 0 l = l.toArray := by
  simp [blit]
  omega
end
end Sg
