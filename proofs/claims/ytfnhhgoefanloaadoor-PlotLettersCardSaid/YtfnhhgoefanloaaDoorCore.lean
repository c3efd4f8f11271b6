/-
  A small calculus for walking a translated function: the temporaries as a function from numbers to values, one lemma an operation.
-/
import Derived.WalkKit
import Derived.KernelRfl
import Derived.Deep.Quiet
namespace Sg
open Go

abbrev Env := Nat → Value
def up (σ : Env) (d : Nat) (v : Value) : Env := fun t => bif Nat.beq t d then v else σ t
def ev (σ : Env) : Operand → Value
  | .tmp t => σ t
  | .const v => v
  | .global g => .pointer (some ⟨g, 0, none⟩)
  | .func f => .func (.func f) #[] #[]

/-- How many temporaries there are, and what is put off. -/
structure Sz where
  sz : Nat
  ds : List Deferred
instance (k : Nat) : OfNat Sz k := ⟨⟨k, []⟩⟩
structure Sees (a : Act) (n : Sz) (σ : Env) : Prop where
  size : a.tmps.size = n.sz
  get : ∀ t, a.tmps.getD t undef = σ t
  defers : a.defers = n.ds

theorem Sees.eval {a : Act} {n : Sz} {σ : Env} (h : Sees a n σ) : a.eval = ev σ := by
  funext x
  cases x <;> simp [Act.eval, ev, h.get]

theorem Sees.put {a : Act} {n : Sz} {d : Nat} {σ : Env} {v : Value} (h : Sees a n σ) (hd : Nat.blt d n.sz = true) : Sees (a.put (some d) v) n (up σ d v) := by
  have hd' : d < n.sz := Nat.le_of_ble_eq_true hd
  refine ⟨by simp [Act.put, h.size], fun t => ?_, h.defers⟩
  have hg := h.get t
  simp only [Act.put, up, Array.getD_eq_getD_getElem?, Array.getElem?_setIfInBounds] at *
  by_cases e : d = t
  · subst e
    simp [h.size, hd']
  · have : Nat.beq t d = false := by
      cases hb : Nat.beq t d
      · rfl
      · exact absurd (Nat.eq_of_beq_eq_true hb).symm e
    simp [e, this, hg]

abbrev Post := Exit → Env → World → Prop

def W (P : Program) (n : Sz) (c : Code) (Q : Post) (σ : Env) (w : World) : Prop :=
  ∀ a, Sees a n σ → c.wp P (fun e a' w' => ∃ σ', Sees a' n σ' ∧ Q e σ' w') a w

def thn (K : Env → World → Prop) (Q : Post) : Post
  | .normal, σ, w => K σ w
  | e, σ, w => Q e σ w
def blk (id : Nat) (Q : Post) : Post
  | .exit i, σ, w => if i = id then Q .normal σ w else Q (.exit i) σ w
  | e, σ, w => Q e σ w

/-- Where the walk goes on: Q asks at this exit no more than K. -/
def Nx (Q : Post) (e : Exit) (K : Env → World → Prop) : Prop := ∀ σ w, K σ w → Q e σ w
theorem Nx.thn {K : Env → World → Prop} {Q : Post} : Nx (thn K Q) .normal K := fun _ _ h => h
theorem Nx.blk {id : Nat} {Q : Post} {K : Env → World → Prop} (h : Nx Q .normal K) : Nx (blk id Q) .normal K := h
theorem Nx.xthn {id : Nat} {K' K : Env → World → Prop} {Q : Post} (h : Nx Q (.exit id) K) : Nx (Sg.thn K' Q) (.exit id) K := h
theorem Nx.xblk {id : Nat} {K : Env → World → Prop} {Q : Post} (h : Nx Q .normal K) : Nx (Sg.blk id Q) (.exit id) K := by
  intro σ w hk; simp only [Sg.blk, if_true]; exact h σ w hk
theorem Nx.xblk' {id id' : Nat} {K : Env → World → Prop} {Q : Post} (hne : Nat.beq id' id = false) (h : Nx Q (.exit id') K) : Nx (Sg.blk id Q) (.exit id') K := by
  intro σ w hk
  have : ¬ id' = id := fun e => by subst e; simp at hne
  simp only [Sg.blk, if_neg this]; exact h σ w hk
theorem Nx.rthn {K' K : Env → World → Prop} {Q : Post} (h : Nx Q .ret K) : Nx (Sg.thn K' Q) .ret K := h
theorem Nx.rblk {id : Nat} {K : Env → World → Prop} {Q : Post} (h : Nx Q .ret K) : Nx (Sg.blk id Q) .ret K := h

section rules
variable {P : Program} {n : Sz} {Q : Post} {σ : Env} {w : World}

theorem W.mono {c : Code} {Q' : Post} (h : W P n c Q σ w) (hq : ∀ e σ w, Q e σ w → Q' e σ w) : W P n c Q' σ w :=
  fun a ha => wp_mono (h a ha) fun e _ w' ⟨σ', hs, hQ⟩ => ⟨σ', hs, hq e σ' w' hQ⟩

theorem W.seq {x y : Code} (h : W P n x (thn (W P n y Q) Q) σ w) : W P n (.seq x y) Q σ w := by
  intro a ha
  refine wp_seq (wp_mono (h a ha) ?_)
  rintro e a' w' ⟨σ', hs, hq⟩
  cases e with
  | normal => exact hq a' hs
  | _ => exact ⟨σ', hs, hq⟩

/-- Where ways meet again. -/
theorem W.seqJ {x y : Code} (J : Env → World → Prop) (h : W P n x (thn J Q) σ w) (hy : ∀ σ w, J σ w → W P n y Q σ w) : W P n (.seq x y) Q σ w :=
  W.seq (W.mono h fun e σ w hq => by cases e <;> first | exact hy σ w hq | exact hq)

theorem W.cnd {c : Operand} {x y : Code} {b : Bool} (hc : ev σ c = .bool b) (ht : b = true → W P n x Q σ w) (hf : b = false → W P n y Q σ w) : W P n (.cond c x y) Q σ w := by
  intro a ha
  refine wp_cond_split (t := b) (by rw [ha.eval]; exact hc) (fun h => ht h a ha) (fun h => hf h a ha)
theorem W.cndp {c : Operand} {x y : Code} {p : Prop} [Decidable p] (hc : ev σ c = .bool (decide p)) (ht : p → W P n x Q σ w) (hf : ¬ p → W P n y Q σ w) : W P n (.cond c x y) Q σ w :=
  W.cnd hc (fun h => ht (of_decide_eq_true h)) (fun h => hf (of_decide_eq_false h))
theorem W.cndT {c : Operand} {x y : Code} (hc : ev σ c = .bool true) (ht : W P n x Q σ w) : W P n (.cond c x y) Q σ w := W.cnd hc (fun _ => ht) (fun h => by cases h)
theorem W.cndF {c : Operand} {x y : Code} (hc : ev σ c = .bool false) (hf : W P n y Q σ w) : W P n (.cond c x y) Q σ w := W.cnd hc (fun h => by cases h) (fun _ => hf)

theorem W.block {id : Nat} {c : Code} (h : W P n c (blk id Q) σ w) : W P n (.block id c) Q σ w := by
  intro a ha
  refine wp_block (wp_mono (h a ha) ?_)
  rintro e a' w' ⟨σ', hs, hq⟩
  cases e with
  | exit i =>
    simp only [Exit.inBlock, blk] at *
    split at hq
    · rename_i e; simp only [e, if_true]; exact ⟨σ', hs, hq⟩
    · rename_i e; simp only [e, if_false]; exact ⟨σ', hs, hq⟩
  | _ => exact ⟨σ', hs, hq⟩

theorem W.skip {K : Env → World → Prop} (hg : Nx Q .normal K) (h : K σ w) : W P n .skip Q σ w := fun _ ha => wp_skip ⟨σ, ha, hg _ _ h⟩
theorem W.label {l : Nat} {K : Env → World → Prop} (hg : Nx Q .normal K) (h : K σ w) : W P n (.label l) Q σ w := fun _ ha => wp_label ⟨σ, ha, hg _ _ h⟩
theorem W.exit {id : Nat} {K : Env → World → Prop} (hg : Nx Q (.exit id) K) (h : K σ w) : W P n (.exit id) Q σ w := fun _ ha => wp_exit ⟨σ, ha, hg _ _ h⟩
theorem W.ret {K : Env → World → Prop} (hg : Nx Q .ret K) (h : K σ w) : W P n .ret Q σ w := fun _ ha => wp_ret ⟨σ, ha, hg _ _ h⟩

theorem W.loop {c : Code} {G : Type} (I : G → Env → World → Prop) (μ : G → Nat) (g₀ : G) (h₀ : I g₀ σ w)
    (round : ∀ g σ w, I g σ w → W P n c (thn (fun σ' w' => ∃ g', μ g' < μ g ∧ I g' σ' w') Q) σ w) : W P n (.loop c) Q σ w := by
  intro a ha b k cs
  have key : ∀ m, ∀ g, μ g = m → ∀ σ w a, Sees a n σ → I g σ w →
      ∃ e a' w', (∃ σ', Sees a' n σ' ∧ Q e σ' w') ∧ Arrives P (lone (b.at a (.code c :: .inLoop c :: k)) cs w) b k cs e a' w' := by
    intro m
    induction m using Nat.strongRecOn with
    | _ m ih =>
      intro g hg σ w a ha hI
      obtain ⟨e, a₁, w₁, ⟨σ₁, hs, hq⟩, harr⟩ := round g σ w hI a ha b (.inLoop c :: k) cs
      cases e with
      | normal =>
        obtain ⟨g', hlt, hI'⟩ := hq
        obtain ⟨e₂, a₂, w₂, hq₂, harr₂⟩ := ih (μ g') (hg ▸ hlt) g' rfl σ₁ w₁ a₁ hs hI'
        exact ⟨e₂, a₂, w₂, hq₂, .of_steps (Steps.trans harr (.one step_inLoop)) harr₂⟩
      | exit id => exact ⟨_, a₁, w₁, ⟨σ₁, hs, hq⟩, .pass (x := .inLoop c) rfl (fun _ _ => .inl (by simp)) harr⟩
      | goto l => exact ⟨_, a₁, w₁, ⟨σ₁, hs, hq⟩, .pass (x := .inLoop c) rfl (fun _ _ => .inl (by simp)) harr⟩
      | ret => exact ⟨_, a₁, w₁, ⟨σ₁, hs, hq⟩, .pass (x := .inLoop c) rfl (fun _ _ => .inl (by simp)) harr⟩
      | panic ch => exact ⟨_, a₁, w₁, ⟨σ₁, hs, hq⟩, .pass (x := .inLoop c) rfl (fun _ _ => .inl (by simp)) harr⟩
      | outgrown => exact ⟨_, a₁, w₁, ⟨σ₁, hs, hq⟩, .pass (x := .inLoop c) rfl (fun _ _ => .inl (by simp)) harr⟩
  obtain ⟨e, a', w', hq, harr⟩ := key _ g₀ rfl σ w a ha h₀
  exact ⟨e, a', w', hq, .of_steps (.one step_loop) harr⟩

/-! ### Regions -/
def WL (P : Program) (n : Sz) (ops : Array Oper) (Q : Post) (l : List Oper) (σ : Env) (w : World) : Prop :=
  ∀ a, Sees a n σ → wpList P ops (fun e a' w' => ∃ σ', Sees a' n σ' ∧ Q e σ' w') l a w

theorem W.region {id : Nat} {l : List Oper} (h : WL P n l.toArray Q l σ w) : W P n (.region id l.toArray false) Q σ w :=
  fun a ha => wp_region_lit (h a ha)

variable {ops : Array Oper} {rest : List Oper}
theorem WL.nil {K : Env → World → Prop} (hg : Nx Q .normal K) (h : K σ w) : WL P n ops Q [] σ w := fun _ ha => ⟨σ, ha, hg _ _ h⟩

theorem WL.step {o : Oper} {d : Nat} {v : Value} {w' : World} (hg : o.guard = none) (hd : o.dst = some d) (hn : Nat.blt d n.sz = true)
    (hx : (execOp (ev σ) o).run P w = .ok (.value v) w') (h : WL P n ops Q rest (up σ d v) w') : WL P n ops Q (o :: rest) σ w := by
  intro a ha
  unfold wpList
  rw [if_pos (by simp [Region.wanted, hg])]
  refine .inl ?_
  unfold Oper.wp
  rw [ha.eval, hx, Oper.upon_value, hd]
  exact h _ (ha.put hn)

theorem WL.skp {o : Oper} {w' : World} (hg : o.guard = none) (hd : o.dst = none)
    (hx : (execOp (ev σ) o).run P w = .ok .skip w') (h : WL P n ops Q rest σ w') : WL P n ops Q (o :: rest) σ w := by
  intro a ha
  unfold wpList
  rw [if_pos (by simp [Region.wanted, hg])]
  refine .inl ?_
  unfold Oper.wp
  rw [ha.eval, hx, Oper.upon_skip, hd]
  exact h _ ha

theorem Sees.yielded {a : Act} (ha : Sees a n σ) {j dj : Nat} {b : Bool} (hj : (ops[j]?).bind (·.dst) = some dj) (hn : Nat.blt dj n.sz = true) (hv : ev σ (.tmp dj) = .bool b) :
    yielded ops a.tmps j = some b := by
  have hlt : dj < a.tmps.size := by rw [ha.size]; exact Nat.le_of_ble_eq_true hn
  have hg : a.tmps[dj]? = some (.bool b) := by
    have h := ha.get dj
    rw [Array.getD_eq_getD_getElem?] at h
    have h2 : a.tmps[dj]? = some a.tmps[dj] := Array.getElem?_eq_getElem hlt
    rw [h2] at h ⊢
    simp only [Option.getD_some] at h
    rw [h]; exact congrArg some hv
  unfold Go.yielded
  simp only [hj, Option.bind_some, hg]

/-- A guarded operation that is carried out: as if it bore no guard. -/
theorem WL.yes {dst : Option Nat} {op : Op} {t : TypeId} {pos : String} {af : Array Edge} {j dj : Nat} {want b : Bool}
    (hj : (ops[j]?).bind (·.dst) = some dj) (hn : Nat.blt dj n.sz = true) (hv : ev σ (.tmp dj) = .bool b) (hb : b = want)
    (h : WL P n ops Q (⟨dst, op, t, pos, af, none⟩ :: rest) σ w) : WL P n ops Q (⟨dst, op, t, pos, af, some (j, want)⟩ :: rest) σ w := by
  intro a ha
  have h := h a ha
  unfold wpList at h ⊢
  have hy := ha.yielded hj hn hv
  rw [if_pos (by simp [Region.wanted, hy, hb])]
  rw [if_pos (by simp [Region.wanted])] at h
  exact h
theorem WL.no {d : Nat} {op : Op} {t : TypeId} {pos : String} {af : Array Edge} {j dj : Nat} {want b : Bool}
    (hj : (ops[j]?).bind (·.dst) = some dj) (hn : Nat.blt dj n.sz = true) (hv : ev σ (.tmp dj) = .bool b) (hb : b = !want) (hd : Nat.blt d n.sz = true)
    (h : WL P n ops Q rest (up σ d undef) w) : WL P n ops Q (⟨some d, op, t, pos, af, some (j, want)⟩ :: rest) σ w := by
  intro a ha
  have hy := ha.yielded hj hn hv
  unfold wpList
  rw [if_neg (by simp [Region.wanted, hy, hb])]
  exact h _ (ha.put hd)
theorem WL.no0 {op : Op} {t : TypeId} {pos : String} {af : Array Edge} {j dj : Nat} {want b : Bool}
    (hj : (ops[j]?).bind (·.dst) = some dj) (hn : Nat.blt dj n.sz = true) (hv : ev σ (.tmp dj) = .bool b) (hb : b = !want)
    (h : WL P n ops Q rest σ w) : WL P n ops Q (⟨none, op, t, pos, af, some (j, want)⟩ :: rest) σ w := by
  intro a ha
  have hy := ha.yielded hj hn hv
  unfold wpList
  rw [if_neg (by simp [Region.wanted, hy, hb])]
  exact h _ ha

theorem Sees.yieldedU {a : Act} (ha : Sees a n σ) {j dj : Nat} (hj : (ops[j]?).bind (·.dst) = some dj) (hv : ev σ (.tmp dj) = undef) : Go.yielded ops a.tmps j = none := by
  unfold Go.yielded
  simp only [hj, Option.bind_some]
  have h := ha.get dj
  rw [Array.getD_eq_getD_getElem?] at h
  cases hq : a.tmps[dj]? with
  | none => rfl
  | some v =>
    rw [hq] at h
    simp only [Option.getD_some] at h
    have : v = undef := h.trans hv
    rw [this]; rfl
/-- The guard itself was passed over. -/
theorem WL.nou {d : Nat} {op : Op} {t : TypeId} {pos : String} {af : Array Edge} {j dj : Nat} {want : Bool}
    (hj : (ops[j]?).bind (·.dst) = some dj) (hv : ev σ (.tmp dj) = undef) (hd : Nat.blt d n.sz = true)
    (h : WL P n ops Q rest (up σ d undef) w) : WL P n ops Q (⟨some d, op, t, pos, af, some (j, want)⟩ :: rest) σ w := by
  intro a ha
  have hy := ha.yieldedU hj hv
  unfold wpList
  rw [if_neg (by simp [Region.wanted, hy])]
  exact h _ (ha.put hd)
theorem WL.nou0 {op : Op} {t : TypeId} {pos : String} {af : Array Edge} {j dj : Nat} {want : Bool}
    (hj : (ops[j]?).bind (·.dst) = some dj) (hv : ev σ (.tmp dj) = undef)
    (h : WL P n ops Q rest σ w) : WL P n ops Q (⟨none, op, t, pos, af, some (j, want)⟩ :: rest) σ w := by
  intro a ha
  have hy := ha.yieldedU hj hv
  unfold wpList
  rw [if_neg (by simp [Region.wanted, hy])]
  exact h _ ha

/-! ### Calls -/
/-- The call returns, and R holds of what it hands back and of the world behind it. -/
def Ret (P : Program) (f : FuncId) (args : Array Value) (w : World) (R : Value → World → Prop) : Prop :=
  Calls P f args w fun e w' => ∃ v, e = .returned v ∧ R v w'
theorem Ret.mono {f : FuncId} {args : Array Value} {R R' : Value → World → Prop} (h : Ret P f args w R) (hr : ∀ v w', R v w' → R' v w') : Ret P f args w R' :=
  Calls.mono h fun _ _ ⟨v, he, hR⟩ => ⟨v, he, hr _ _ hR⟩

/-- What there is to know of a function that is called. -/
def Callee (P : Program) (f : FuncId) : Prop := ∃ fn, P.funcs[f]? = some fn ∧ (fn.name == "runtime.NumGoroutine") = false ∧ fn.body.isNone = false

theorem WL.enter {o : Oper} {d f : Nat} {args : Array Value} {R : Value → World → Prop} (hg : o.guard = none) (hd : o.dst = some d) (hn : Nat.blt d n.sz = true)
    (hx : (execOp (ev σ) o).run P w = .ok (.enter f args) w) (hr : Ret P f args w R) (h : ∀ v w', R v w' → WL P n ops Q rest (up σ d v) w') : WL P n ops Q (o :: rest) σ w := by
  intro a ha
  unfold wpList
  rw [if_pos (by simp [Region.wanted, hg])]
  refine .inl ?_
  unfold Oper.wp
  rw [ha.eval, hx, Oper.upon_enter]
  refine Calls.mono hr ?_
  rintro e w' ⟨v, rfl, hR⟩
  simp only [hd]
  exact h v w' hR _ (ha.put hn)

theorem run_callFunc {f : FuncId} {args : Array Value} (hc : Callee P f) : (callFunc f args).run P w = .ok (.enter f args) w := by
  obtain ⟨fn, hf, hn, hb⟩ := hc
  have hn' : ¬ (fn.name == "runtime.NumGoroutine") = true := by rw [hn]; simp
  have hb' : ¬ fn.body.isNone = true := by rw [hb]; simp
  unfold callFunc
  simp only [Sem.run_bind, run_program, Result.andThen_ok, hf]
  rw [if_neg hn', if_neg hb']
  rfl

theorem exec_call {f : FuncId} {xs : List Operand} {vs : List Value} {tys : Array TypeId} {d : Option Tmp} {t : TypeId} {pos : String} {af : Array Edge} {g : Option (Nat × Bool)} (hc : Callee P f)
    (hxs : xs.map (ev σ) = vs) : (execOp (ev σ) ⟨d, .call ⟨.value (.func f), xs.toArray, tys⟩, t, pos, af, g⟩).run P w = .ok (.enter f vs.toArray) w := by
  simp [execOp, resolve, Deferred.ofValue, invoke, ev, run_callFunc hc, hxs]

theorem exec_callv {f : FuncId} {x : Operand} {caps : List Value} {xs : List Operand} {vs : List Value} {tys : Array TypeId} {d : Option Tmp} {t : TypeId} {pos : String} {af : Array Edge} {g : Option (Nat × Bool)} (hc : Callee P f)
    (hx : ev σ x = .func (.func f) #[] caps.toArray) (hxs : xs.map (ev σ) = vs) : (execOp (ev σ) ⟨d, .call ⟨.value x, xs.toArray, tys⟩, t, pos, af, g⟩).run P w = .ok (.enter f (vs ++ caps).toArray) w := by
  simp [execOp, resolve, Deferred.ofValue, invoke, hx, run_callFunc hc, hxs]

section calls
variable {f d : Nat} {tys : Array TypeId} {t : TypeId} {pos : String} {af : Array Edge} {R : Value → World → Prop}
theorem WL.call0 (hc : Callee P f) (hr : Ret P f #[] w R) (hn : Nat.blt d n.sz = true)
    (h : ∀ v w', R v w' → WL P n ops Q rest (up σ d v) w') : WL P n ops Q (⟨some d, .call ⟨.value (.func f), #[], tys⟩, t, pos, af, none⟩ :: rest) σ w :=
  WL.enter rfl rfl hn (exec_call (xs := []) hc rfl) hr h
theorem WL.call1 {x1 : Operand} {v1 : Value} (hc : Callee P f) (h1 : ev σ x1 = v1) (hr : Ret P f #[v1] w R) (hn : Nat.blt d n.sz = true)
    (h : ∀ v w', R v w' → WL P n ops Q rest (up σ d v) w') : WL P n ops Q (⟨some d, .call ⟨.value (.func f), #[x1], tys⟩, t, pos, af, none⟩ :: rest) σ w :=
  WL.enter rfl rfl hn (exec_call (xs := [x1]) (vs := [v1]) hc (by simp [h1])) hr h
theorem WL.call2 {x1 x2 : Operand} {v1 v2 : Value} (hc : Callee P f) (h1 : ev σ x1 = v1) (h2 : ev σ x2 = v2) (hr : Ret P f #[v1, v2] w R) (hn : Nat.blt d n.sz = true)
    (h : ∀ v w', R v w' → WL P n ops Q rest (up σ d v) w') : WL P n ops Q (⟨some d, .call ⟨.value (.func f), #[x1, x2], tys⟩, t, pos, af, none⟩ :: rest) σ w :=
  WL.enter rfl rfl hn (exec_call (xs := [x1, x2]) (vs := [v1, v2]) hc (by simp [h1, h2])) hr h
theorem WL.call3 {x1 x2 x3 : Operand} {v1 v2 v3 : Value} (hc : Callee P f) (h1 : ev σ x1 = v1) (h2 : ev σ x2 = v2) (h3 : ev σ x3 = v3) (hr : Ret P f #[v1, v2, v3] w R) (hn : Nat.blt d n.sz = true)
    (h : ∀ v w', R v w' → WL P n ops Q rest (up σ d v) w') : WL P n ops Q (⟨some d, .call ⟨.value (.func f), #[x1, x2, x3], tys⟩, t, pos, af, none⟩ :: rest) σ w :=
  WL.enter rfl rfl hn (exec_call (xs := [x1, x2, x3]) (vs := [v1, v2, v3]) hc (by simp [h1, h2, h3])) hr h
theorem WL.call4 {x1 x2 x3 x4 : Operand} {v1 v2 v3 v4 : Value} (hc : Callee P f) (h1 : ev σ x1 = v1) (h2 : ev σ x2 = v2) (h3 : ev σ x3 = v3) (h4 : ev σ x4 = v4) (hr : Ret P f #[v1, v2, v3, v4] w R) (hn : Nat.blt d n.sz = true)
    (h : ∀ v w', R v w' → WL P n ops Q rest (up σ d v) w') : WL P n ops Q (⟨some d, .call ⟨.value (.func f), #[x1, x2, x3, x4], tys⟩, t, pos, af, none⟩ :: rest) σ w :=
  WL.enter rfl rfl hn (exec_call (xs := [x1, x2, x3, x4]) (vs := [v1, v2, v3, v4]) hc (by simp [h1, h2, h3, h4])) hr h
theorem WL.call5 {x1 x2 x3 x4 x5 : Operand} {v1 v2 v3 v4 v5 : Value} (hc : Callee P f) (h1 : ev σ x1 = v1) (h2 : ev σ x2 = v2) (h3 : ev σ x3 = v3) (h4 : ev σ x4 = v4) (h5 : ev σ x5 = v5) (hr : Ret P f #[v1, v2, v3, v4, v5] w R) (hn : Nat.blt d n.sz = true)
    (h : ∀ v w', R v w' → WL P n ops Q rest (up σ d v) w') : WL P n ops Q (⟨some d, .call ⟨.value (.func f), #[x1, x2, x3, x4, x5], tys⟩, t, pos, af, none⟩ :: rest) σ w :=
  WL.enter rfl rfl hn (exec_call (xs := [x1, x2, x3, x4, x5]) (vs := [v1, v2, v3, v4, v5]) hc (by simp [h1, h2, h3, h4, h5])) hr h
theorem WL.callv1 {x x1 : Operand} {v1 : Value} {caps : List Value} (hc : Callee P f) (hx : ev σ x = .func (.func f) #[] caps.toArray) (h1 : ev σ x1 = v1) (hr : Ret P f (v1 :: caps).toArray w R) (hn : Nat.blt d n.sz = true)
    (h : ∀ v w', R v w' → WL P n ops Q rest (up σ d v) w') : WL P n ops Q (⟨some d, .call ⟨.value x, #[x1], tys⟩, t, pos, af, none⟩ :: rest) σ w :=
  WL.enter rfl rfl hn (exec_callv (xs := [x1]) (vs := [v1]) hc hx (by simp [h1])) hr h
theorem WL.callv2 {x x1 x2 : Operand} {v1 v2 : Value} {caps : List Value} (hc : Callee P f) (hx : ev σ x = .func (.func f) #[] caps.toArray) (h1 : ev σ x1 = v1) (h2 : ev σ x2 = v2) (hr : Ret P f (v1 :: v2 :: caps).toArray w R) (hn : Nat.blt d n.sz = true)
    (h : ∀ v w', R v w' → WL P n ops Q rest (up σ d v) w') : WL P n ops Q (⟨some d, .call ⟨.value x, #[x1, x2], tys⟩, t, pos, af, none⟩ :: rest) σ w :=
  WL.enter rfl rfl hn (exec_callv (xs := [x1, x2]) (vs := [v1, v2]) hc hx (by simp [h1, h2])) hr h
end calls

/-! ### Entering and leaving -/
def fin0 (R : Value → World → Prop) : Post
  | .normal, _, w | .ret, _, w => R (.tuple #[]) w
  | _, _, _ => False
def fin1 (t : Nat) (R : Value → World → Prop) : Post
  | .normal, σ, w | .ret, σ, w => R (σ t) w
  | _, _, _ => False
def fin2 (t u : Nat) (R : Value → World → Prop) : Post
  | .normal, σ, w | .ret, σ, w => R (.tuple #[σ t, σ u]) w
  | _, _, _ => False
def fin3 (t u r : Nat) (R : Value → World → Prop) : Post
  | .normal, σ, w | .ret, σ, w => R (.tuple #[σ t, σ u, σ r]) w
  | _, _, _ => False
theorem Nx.f0 {R : Value → World → Prop} : Nx (fin0 R) .ret (fun _ w => R (.tuple #[]) w) := fun _ _ h => h
theorem Nx.f1 {t : Nat} {R : Value → World → Prop} : Nx (fin1 t R) .ret (fun σ w => R (σ t) w) := fun _ _ h => h
theorem Nx.f2 {t u : Nat} {R : Value → World → Prop} : Nx (fin2 t u R) .ret (fun σ w => R (.tuple #[σ t, σ u]) w) := fun _ _ h => h
theorem Nx.f3 {t u r : Nat} {R : Value → World → Prop} : Nx (fin3 t u r R) .ret (fun σ w => R (.tuple #[σ t, σ u, σ r]) w) := fun _ _ h => h
theorem Nx.n0 {R : Value → World → Prop} : Nx (fin0 R) .normal (fun _ w => R (.tuple #[]) w) := fun _ _ h => h

def env0 (l : List Value) : Env := fun t => l.getD t undef

theorem sees_enter {l : List Value} {m : Nat} (h : Nat.ble l.length m = true) :
    Sees { tmps := l.toArray ++ Array.replicate (m - l.toArray.size) undef, defers := [] } (⟨m, []⟩ : Sz) (env0 l) := by
  have h' : l.length ≤ m := Nat.le_of_ble_eq_true h
  refine ⟨by simp; omega, fun t => ?_, rfl⟩
  simp only [Array.getD_eq_getD_getElem?, env0, List.getD_eq_getElem?_getD, Array.getElem?_append, List.size_toArray, List.getElem?_toArray]
  by_cases ht : t < l.length
  · rw [if_pos ht]
  · rw [if_neg ht, List.getElem?_eq_none (by omega)]
    simp [Array.getElem?_replicate]
    split <;> rfl

section enter
variable {f : Nat} {fn : Func} {c : Code} {l : List Value} {R : Value → World → Prop}
theorem enter_fin (F : Post) (hf : P.funcs[f]? = some fn) (hb : fn.body = some c) (hm : (⟨fn.ntmps, []⟩ : Sz) = n) (hl : Nat.ble l.length n.sz = true)
    (hF : ∀ e a σ w, Sees a n σ → F e σ w → bodyPost P fn (fun e w' => ∃ v, e = .returned v ∧ R v w') e a w)
    (h : W P n c F (env0 l) w) : Ret P f l.toArray w R := by
  refine calls_of_wp hf hb ?_
  subst hm
  refine wp_mono (h _ (sees_enter hl)) ?_
  rintro e a' w' ⟨σ', hs, hq⟩
  exact hF e a' σ' w' hs hq
theorem enter0 (hf : P.funcs[f]? = some fn) (hb : fn.body = some c) (hm : (⟨fn.ntmps, []⟩ : Sz) = n) (hl : Nat.ble l.length n.sz = true) (hr : fn.results = #[])
    (h : W P n c (fin0 R) (env0 l) w) : Ret P f l.toArray w R := by
  refine enter_fin _ hf hb hm hl ?_ h
  intro e a σ w hs hq
  cases e <;> first | exact hq.elim | exact ⟨hs.defers.trans (by first | rfl | rw [← hm]), _, results_none hr _ _ _, _, rfl, hq⟩
theorem enter1 {t : Nat} (hf : P.funcs[f]? = some fn) (hb : fn.body = some c) (hm : (⟨fn.ntmps, []⟩ : Sz) = n) (hl : Nat.ble l.length n.sz = true) (hr : fn.results = #[.tmp t])
    (h : W P n c (fin1 t R) (env0 l) w) : Ret P f l.toArray w R := by
  refine enter_fin _ hf hb hm hl ?_ h
  intro e a σ w hs hq
  cases e <;> first | exact hq.elim | exact ⟨hs.defers.trans (by first | rfl | rw [← hm]), _, results_tmp hr _ _ _, _, rfl, by rw [hs.get]; exact hq⟩
theorem enter2 {t u : Nat} (hf : P.funcs[f]? = some fn) (hb : fn.body = some c) (hm : (⟨fn.ntmps, []⟩ : Sz) = n) (hl : Nat.ble l.length n.sz = true) (hr : fn.results = #[.tmp t, .tmp u])
    (h : W P n c (fin2 t u R) (env0 l) w) : Ret P f l.toArray w R := by
  refine enter_fin _ hf hb hm hl ?_ h
  intro e a σ w hs hq
  cases e <;> first | exact hq.elim | exact ⟨hs.defers.trans (by first | rfl | rw [← hm]), _, results_tmp2 hr _ _ _, _, rfl, by rw [hs.get, hs.get]; exact hq⟩
theorem enter3 {t u r : Nat} (hf : P.funcs[f]? = some fn) (hb : fn.body = some c) (hm : (⟨fn.ntmps, []⟩ : Sz) = n) (hl : Nat.ble l.length n.sz = true) (hr : fn.results = #[.tmp t, .tmp u, .tmp r])
    (h : W P n c (fin3 t u r R) (env0 l) w) : Ret P f l.toArray w R := by
  refine enter_fin _ hf hb hm hl ?_ h
  intro e a σ w hs hq
  have hres : (results fn a.tmps).run P w = .ok (.tuple #[a.tmps.getD t undef, a.tmps.getD u undef, a.tmps.getD r undef]) w := by simp [results, hr]
  cases e <;> first | exact hq.elim | exact ⟨hs.defers.trans (by first | rfl | rw [← hm]), _, hres, _, rfl, by rw [hs.get, hs.get, hs.get]; exact hq⟩
end enter

/-! ### Regions that draw their order: only reads, and calls that only read -/
def WQ (P : Program) (n : Sz) (ops : Array Oper) (w : World) (K : Env → Prop) (l : List Oper) (σ : Env) : Prop :=
  ∀ a, Sees a n σ → wpQuiet P ops (fun w' => ∃ m, w' = w.drewN m) (fun a' => ∃ σ', Sees a' n σ' ∧ K σ') l a

theorem wpQuiet_mono {C : World → Prop} {Q Q' : Act → Prop} (h : ∀ a, Q a → Q' a) : ∀ (l : List Oper) (a : Act), wpQuiet P ops C Q l a → wpQuiet P ops C Q' l a
  | [], a, hh => h a hh
  | o :: l, a, hh => by
    unfold wpQuiet at hh ⊢
    split
    · rename_i hw; rw [if_pos hw] at hh; exact Oper.quiet_mono (fun a => wpQuiet_mono h l a) hh
    · rename_i hw; rw [if_neg hw] at hh; exact wpQuiet_mono h l _ hh

theorem WQ.nil {K : Env → Prop} (h : K σ) : WQ P n ops w K [] σ := fun _ ha => ⟨σ, ha, h⟩
theorem WQ.step {K : Env → Prop} {o : Oper} {d : Nat} {v : Value} (hg : o.guard = none) (hd : o.dst = some d) (hn : Nat.blt d n.sz = true)
    (hx : ∀ m, (execOp (ev σ) o).run P (w.drewN m) = .ok (.value v) (w.drewN m)) (h : WQ P n ops w K rest (up σ d v)) : WQ P n ops w K (o :: rest) σ := by
  intro a ha
  unfold wpQuiet
  rw [if_pos (by simp [Region.wanted, hg])]
  refine ⟨v, ?_, ?_⟩
  · rintro w' ⟨m, rfl⟩
    unfold Oper.quietAt
    rw [ha.eval, hx m]
    exact ⟨rfl, rfl⟩
  · rw [hd]; exact h _ (ha.put hn)
/-- A call that only reads. -/
theorem WQ.enter {K : Env → Prop} {o : Oper} {d f : Nat} {v : Value} {args : Array Value} (hg : o.guard = none) (hd : o.dst = some d) (hn : Nat.blt d n.sz = true)
    (hx : ∀ w', (execOp (ev σ) o).run P w' = .ok (.enter f args) w')
    (hr : ∀ m, Ret P f args (w.drewN m) fun v' w' => v' = v ∧ ∃ k, w' = (w.drewN m).drewN k) (h : WQ P n ops w K rest (up σ d v)) : WQ P n ops w K (o :: rest) σ := by
  intro a ha
  unfold wpQuiet
  rw [if_pos (by simp [Region.wanted, hg])]
  refine ⟨v, ?_, ?_⟩
  · rintro w' ⟨m, rfl⟩
    unfold Oper.quietAt
    rw [ha.eval, hx _]
    refine ⟨rfl, Calls.mono (hr m) ?_⟩
    rintro e w' ⟨v', rfl, rfl, k, rfl⟩
    exact ⟨rfl, m + k, by rw [World.drewN_drewN]⟩
  · rw [hd]; exact h _ (ha.put hn)
theorem WQ.yes {K : Env → Prop} {dst : Option Nat} {op : Op} {t : TypeId} {pos : String} {af : Array Edge} {j dj : Nat} {want b : Bool}
    (hj : (ops[j]?).bind (·.dst) = some dj) (hn : Nat.blt dj n.sz = true) (hv : ev σ (.tmp dj) = .bool b) (hb : b = want)
    (h : WQ P n ops w K (⟨dst, op, t, pos, af, none⟩ :: rest) σ) : WQ P n ops w K (⟨dst, op, t, pos, af, some (j, want)⟩ :: rest) σ := by
  intro a ha
  have h := h a ha
  unfold wpQuiet at h ⊢
  have hy := ha.yielded hj hn hv
  rw [if_pos (by simp [Region.wanted, hy, hb])]
  rw [if_pos (by simp [Region.wanted])] at h
  exact h
theorem WQ.no {K : Env → Prop} {d : Nat} {op : Op} {t : TypeId} {pos : String} {af : Array Edge} {j dj : Nat} {want b : Bool}
    (hj : (ops[j]?).bind (·.dst) = some dj) (hn : Nat.blt dj n.sz = true) (hv : ev σ (.tmp dj) = .bool b) (hb : b = !want) (hd : Nat.blt d n.sz = true)
    (h : WQ P n ops w K rest (up σ d undef)) : WQ P n ops w K (⟨some d, op, t, pos, af, some (j, want)⟩ :: rest) σ := by
  intro a ha
  have hy := ha.yielded hj hn hv
  unfold wpQuiet
  rw [if_neg (by simp [Region.wanted, hy, hb])]
  exact h _ (ha.put hd)

theorem WQ.nou {K : Env → Prop} {d : Nat} {op : Op} {t : TypeId} {pos : String} {af : Array Edge} {j dj : Nat} {want : Bool}
    (hj : (ops[j]?).bind (·.dst) = some dj) (hv : ev σ (.tmp dj) = undef) (hd : Nat.blt d n.sz = true)
    (h : WQ P n ops w K rest (up σ d undef)) : WQ P n ops w K (⟨some d, op, t, pos, af, some (j, want)⟩ :: rest) σ := by
  intro a ha
  have hy := ha.yieldedU hj hv
  unfold wpQuiet
  rw [if_neg (by simp [Region.wanted, hy])]
  exact h _ (ha.put hd)

theorem W.draw {id : Nat} {l : List Oper} {K : Env → World → Prop} (hm : P.follows .mixedOrders = true) (hB : Region.lexB .any l.toArray = true) (hg : Nx Q .normal K)
    (h : WQ P n l.toArray w (fun σ' => ∀ m, K σ' (w.drewN m)) l σ) : W P n (.region id l.toArray true) Q σ w := by
  intro a ha
  refine wp_region_quiet_lit hm hB (wpQuiet_mono ?_ _ _ (h a ha))
  rintro a' ⟨σ', hs, hK⟩ w' ⟨m, rfl⟩
  exact ⟨σ', hs, hg _ _ (hK m)⟩
end rules
end Sg
