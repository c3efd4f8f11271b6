/-
  A small calculus for walking a translated function: the temporaries as a function from numbers to values, one lemma an operation. | One lemma an operation: what it yields, over any program. | Memory: what an operation makes of the blocks of the heap, over any program. | Structs and slices that are built; append; slices of slices; over any program. | What is kept of the temporaries where a region ends, by their number (printed by a program). | Structs and arrays as values: storing them, indexing them, handing them back; over any program. | Regions that draw their order and hold calls or stores: reads are taken first where nobody in the region turns what they read. | Slices of numbers, read in loops. | What came in, opened; and that it reads behind the call as it did.
-/
import Derived.WalkKit
import Derived.KernelRfl
import Derived.Deep.Quiet
import Derived.WalkLawsBesides
import Derived.WalkSpells
import Derived.Below
import Derived.OwnWalk
import Derived.OrdersHeld
import Derived.StillTail
import Derived.Carry
import Derived.ChangeSlices
import Derived.ProofKit
import Derived.OpenShut
import Derived.Lib.LaidTab
import Derived.Lay
import Derived.MakeChecks
section
namespace Sg
open Go

abbrev Env := Nat → Value
def up (σ : Env) (d : Nat) (v : Value) : Env := fun t => bif Nat.beq t d then v else σ t
def ev (σ : Env) : Operand → Value
  | .tmp t => σ t
  | .const v => v
  | .global g => .pointer (some ⟨g, 0, none⟩)
  | .func f => .func (.func f) #[] #[]

structure Sees (a : Act) (n : Nat) (σ : Env) : Prop where
  size : a.tmps.size = n
  get : ∀ t, a.tmps.getD t undef = σ t
  defers : a.defers = []

theorem Sees.eval {a : Act} {n : Nat} {σ : Env} (h : Sees a n σ) : a.eval = ev σ := by
  funext x
  cases x <;> simp [Act.eval, ev, h.get]

theorem Sees.put {a : Act} {n d : Nat} {σ : Env} {v : Value} (h : Sees a n σ) (hd : Nat.blt d n = true) : Sees (a.put (some d) v) n (up σ d v) := by
  have hd' : d < n := Nat.le_of_ble_eq_true hd
  refine ⟨by simp [Act.put, h.size], fun t => ?_, h.defers⟩
  have hg := h.get t
  simp only [Act.put, up, Array.getD_eq_getD_getElem?, Array.getElem?_setIfInBounds] at *
  by_cases e : d = t
  · subst e
    simp [h.size, hd']
  · have : Nat.beq t d = false := by
      cases hb : Nat.beq t d
      · rfl
      · exact absurd (Nat.eq_of_beq_eq_true hb).symm e
    simp [e, this, hg]

abbrev Post := Exit → Env → World → Prop

def W (P : Program) (n : Nat) (c : Code) (Q : Post) (σ : Env) (w : World) : Prop :=
  ∀ a, Sees a n σ → c.wp P (fun e a' w' => ∃ σ', Sees a' n σ' ∧ Q e σ' w') a w

def thn (K : Env → World → Prop) (Q : Post) : Post
  | .normal, σ, w => K σ w
  | e, σ, w => Q e σ w
def blk (id : Nat) (Q : Post) : Post
  | .exit i, σ, w => if i = id then Q .normal σ w else Q (.exit i) σ w
  | e, σ, w => Q e σ w

/-- Where the walk goes on: Q asks at this exit no more than K. -/
def Nx (Q : Post) (e : Exit) (K : Env → World → Prop) : Prop := ∀ σ w, K σ w → Q e σ w
theorem Nx.thn {K : Env → World → Prop} {Q : Post} : Nx (thn K Q) .normal K := fun _ _ h => h
theorem Nx.blk {id : Nat} {Q : Post} {K : Env → World → Prop} (h : Nx Q .normal K) : Nx (blk id Q) .normal K := h
theorem Nx.xthn {id : Nat} {K' K : Env → World → Prop} {Q : Post} (h : Nx Q (.exit id) K) : Nx (Sg.thn K' Q) (.exit id) K := h
theorem Nx.xblk {id : Nat} {K : Env → World → Prop} {Q : Post} (h : Nx Q .normal K) : Nx (Sg.blk id Q) (.exit id) K := by
  intro σ w hk; simp only [Sg.blk, if_true]; exact h σ w hk
theorem Nx.rthn {K' K : Env → World → Prop} {Q : Post} (h : Nx Q .ret K) : Nx (Sg.thn K' Q) .ret K := h
theorem Nx.rblk {id : Nat} {K : Env → World → Prop} {Q : Post} (h : Nx Q .ret K) : Nx (Sg.blk id Q) .ret K := h

section rules
variable {P : Program} {n : Nat} {Q : Post} {σ : Env} {w : World}

theorem W.mono {c : Code} {Q' : Post} (h : W P n c Q σ w) (hq : ∀ e σ w, Q e σ w → Q' e σ w) : W P n c Q' σ w :=
  fun a ha => wp_mono (h a ha) fun e _ w' ⟨σ', hs, hQ⟩ => ⟨σ', hs, hq e σ' w' hQ⟩

theorem W.seq {x y : Code} (h : W P n x (thn (W P n y Q) Q) σ w) : W P n (.seq x y) Q σ w := by
  intro a ha
  refine wp_seq (wp_mono (h a ha) ?_)
  rintro e a' w' ⟨σ', hs, hq⟩
  cases e with
  | normal => exact hq a' hs
  | _ => exact ⟨σ', hs, hq⟩

/-- Where ways meet again. -/
theorem W.seqJ {x y : Code} (J : Env → World → Prop) (h : W P n x (thn J Q) σ w) (hy : ∀ σ w, J σ w → W P n y Q σ w) : W P n (.seq x y) Q σ w :=
  W.seq (W.mono h fun e σ w hq => by cases e <;> first | exact hy σ w hq | exact hq)

theorem W.cnd {c : Operand} {x y : Code} {b : Bool} (hc : ev σ c = .bool b) (ht : b = true → W P n x Q σ w) (hf : b = false → W P n y Q σ w) : W P n (.cond c x y) Q σ w := by
  intro a ha
  refine wp_cond_split (t := b) (by rw [ha.eval]; exact hc) (fun h => ht h a ha) (fun h => hf h a ha)
theorem W.cndp {c : Operand} {x y : Code} {p : Prop} [Decidable p] (hc : ev σ c = .bool (decide p)) (ht : p → W P n x Q σ w) (hf : ¬ p → W P n y Q σ w) : W P n (.cond c x y) Q σ w :=
  W.cnd hc (fun h => ht (of_decide_eq_true h)) (fun h => hf (of_decide_eq_false h))
theorem W.cndT {c : Operand} {x y : Code} (hc : ev σ c = .bool true) (ht : W P n x Q σ w) : W P n (.cond c x y) Q σ w := W.cnd hc (fun _ => ht) (fun h => by cases h)
theorem W.cndF {c : Operand} {x y : Code} (hc : ev σ c = .bool false) (hf : W P n y Q σ w) : W P n (.cond c x y) Q σ w := W.cnd hc (fun h => by cases h) (fun _ => hf)

theorem W.block {id : Nat} {c : Code} (h : W P n c (blk id Q) σ w) : W P n (.block id c) Q σ w := by
  intro a ha
  refine wp_block (wp_mono (h a ha) ?_)
  rintro e a' w' ⟨σ', hs, hq⟩
  cases e with
  | exit i =>
    simp only [Exit.inBlock, blk] at *
    split at hq
    · rename_i e; simp only [e, if_true]; exact ⟨σ', hs, hq⟩
    · rename_i e; simp only [e, if_false]; exact ⟨σ', hs, hq⟩
  | _ => exact ⟨σ', hs, hq⟩

theorem W.skip {K : Env → World → Prop} (hg : Nx Q .normal K) (h : K σ w) : W P n .skip Q σ w := fun _ ha => wp_skip ⟨σ, ha, hg _ _ h⟩
theorem W.exit {id : Nat} {K : Env → World → Prop} (hg : Nx Q (.exit id) K) (h : K σ w) : W P n (.exit id) Q σ w := fun _ ha => wp_exit ⟨σ, ha, hg _ _ h⟩
theorem W.ret {K : Env → World → Prop} (hg : Nx Q .ret K) (h : K σ w) : W P n .ret Q σ w := fun _ ha => wp_ret ⟨σ, ha, hg _ _ h⟩

theorem W.loop {c : Code} {G : Type} (I : G → Env → World → Prop) (μ : G → Nat) (g₀ : G) (h₀ : I g₀ σ w)
    (round : ∀ g σ w, I g σ w → W P n c (thn (fun σ' w' => ∃ g', μ g' < μ g ∧ I g' σ' w') Q) σ w) : W P n (.loop c) Q σ w := by
  intro a ha b k cs
  have key : ∀ m, ∀ g, μ g = m → ∀ σ w a, Sees a n σ → I g σ w →
      ∃ e a' w', (∃ σ', Sees a' n σ' ∧ Q e σ' w') ∧ Arrives P (lone (b.at a (.code c :: .inLoop c :: k)) cs w) b k cs e a' w' := by
    intro m
    induction m using Nat.strongRecOn with
    | _ m ih =>
      intro g hg σ w a ha hI
      obtain ⟨e, a₁, w₁, ⟨σ₁, hs, hq⟩, harr⟩ := round g σ w hI a ha b (.inLoop c :: k) cs
      cases e with
      | normal =>
        obtain ⟨g', hlt, hI'⟩ := hq
        obtain ⟨e₂, a₂, w₂, hq₂, harr₂⟩ := ih (μ g') (hg ▸ hlt) g' rfl σ₁ w₁ a₁ hs hI'
        exact ⟨e₂, a₂, w₂, hq₂, .of_steps (Steps.trans harr (.one step_inLoop)) harr₂⟩
      | exit id => exact ⟨_, a₁, w₁, ⟨σ₁, hs, hq⟩, .pass (x := .inLoop c) rfl (fun _ _ => .inl (by simp)) harr⟩
      | goto l => exact ⟨_, a₁, w₁, ⟨σ₁, hs, hq⟩, .pass (x := .inLoop c) rfl (fun _ _ => .inl (by simp)) harr⟩
      | ret => exact ⟨_, a₁, w₁, ⟨σ₁, hs, hq⟩, .pass (x := .inLoop c) rfl (fun _ _ => .inl (by simp)) harr⟩
      | panic ch => exact ⟨_, a₁, w₁, ⟨σ₁, hs, hq⟩, .pass (x := .inLoop c) rfl (fun _ _ => .inl (by simp)) harr⟩
      | outgrown => exact ⟨_, a₁, w₁, ⟨σ₁, hs, hq⟩, .pass (x := .inLoop c) rfl (fun _ _ => .inl (by simp)) harr⟩
  obtain ⟨e, a', w', hq, harr⟩ := key _ g₀ rfl σ w a ha h₀
  exact ⟨e, a', w', hq, .of_steps (.one step_loop) harr⟩

def WL (P : Program) (n : Nat) (ops : Array Oper) (Q : Post) (l : List Oper) (σ : Env) (w : World) : Prop :=
  ∀ a, Sees a n σ → wpList P ops (fun e a' w' => ∃ σ', Sees a' n σ' ∧ Q e σ' w') l a w

theorem W.region {id : Nat} {l : List Oper} (h : WL P n l.toArray Q l σ w) : W P n (.region id l.toArray false) Q σ w :=
  fun a ha => wp_region_lit (h a ha)

variable {ops : Array Oper} {rest : List Oper}
theorem WL.nil {K : Env → World → Prop} (hg : Nx Q .normal K) (h : K σ w) : WL P n ops Q [] σ w := fun _ ha => ⟨σ, ha, hg _ _ h⟩

theorem WL.step {o : Oper} {d : Nat} {v : Value} {w' : World} (hg : o.guard = none) (hd : o.dst = some d) (hn : Nat.blt d n = true)
    (hx : (execOp (ev σ) o).run P w = .ok (.value v) w') (h : WL P n ops Q rest (up σ d v) w') : WL P n ops Q (o :: rest) σ w := by
  intro a ha
  unfold wpList
  rw [if_pos (by simp [Region.wanted, hg])]
  refine .inl ?_
  unfold Oper.wp
  rw [ha.eval, hx, Oper.upon_value, hd]
  exact h _ (ha.put hn)

theorem WL.skp {o : Oper} {w' : World} (hg : o.guard = none) (hd : o.dst = none)
    (hx : (execOp (ev σ) o).run P w = .ok .skip w') (h : WL P n ops Q rest σ w') : WL P n ops Q (o :: rest) σ w := by
  intro a ha
  unfold wpList
  rw [if_pos (by simp [Region.wanted, hg])]
  refine .inl ?_
  unfold Oper.wp
  rw [ha.eval, hx, Oper.upon_skip, hd]
  exact h _ ha

theorem Sees.yielded {a : Act} (ha : Sees a n σ) {j dj : Nat} {b : Bool} (hj : (ops[j]?).bind (·.dst) = some dj) (hn : Nat.blt dj n = true) (hv : ev σ (.tmp dj) = .bool b) :
    yielded ops a.tmps j = some b := by
  have hlt : dj < a.tmps.size := by rw [ha.size]; exact Nat.le_of_ble_eq_true hn
  have hg : a.tmps[dj]? = some (.bool b) := by
    have h := ha.get dj
    rw [Array.getD_eq_getD_getElem?] at h
    have h2 : a.tmps[dj]? = some a.tmps[dj] := Array.getElem?_eq_getElem hlt
    rw [h2] at h ⊢
    simp only [Option.getD_some] at h
    rw [h]; exact congrArg some hv
  unfold Go.yielded
  simp only [hj, Option.bind_some, hg]

/-- A guarded operation that is carried out: as if it bore no guard. -/
theorem WL.yes {dst : Option Nat} {op : Op} {t : TypeId} {pos : String} {af : Array Edge} {j dj : Nat} {want b : Bool}
    (hj : (ops[j]?).bind (·.dst) = some dj) (hn : Nat.blt dj n = true) (hv : ev σ (.tmp dj) = .bool b) (hb : b = want)
    (h : WL P n ops Q (⟨dst, op, t, pos, af, none⟩ :: rest) σ w) : WL P n ops Q (⟨dst, op, t, pos, af, some (j, want)⟩ :: rest) σ w := by
  intro a ha
  have h := h a ha
  unfold wpList at h ⊢
  have hy := ha.yielded hj hn hv
  rw [if_pos (by simp [Region.wanted, hy, hb])]
  rw [if_pos (by simp [Region.wanted])] at h
  exact h
theorem WL.no {d : Nat} {op : Op} {t : TypeId} {pos : String} {af : Array Edge} {j dj : Nat} {want b : Bool}
    (hj : (ops[j]?).bind (·.dst) = some dj) (hn : Nat.blt dj n = true) (hv : ev σ (.tmp dj) = .bool b) (hb : b = !want) (hd : Nat.blt d n = true)
    (h : WL P n ops Q rest (up σ d undef) w) : WL P n ops Q (⟨some d, op, t, pos, af, some (j, want)⟩ :: rest) σ w := by
  intro a ha
  have hy := ha.yielded hj hn hv
  unfold wpList
  rw [if_neg (by simp [Region.wanted, hy, hb])]
  exact h _ (ha.put hd)
theorem Sees.yieldedU {a : Act} (ha : Sees a n σ) {j dj : Nat} (hj : (ops[j]?).bind (·.dst) = some dj) (hv : ev σ (.tmp dj) = undef) : Go.yielded ops a.tmps j = none := by
  unfold Go.yielded
  simp only [hj, Option.bind_some]
  have h := ha.get dj
  rw [Array.getD_eq_getD_getElem?] at h
  cases hq : a.tmps[dj]? with
  | none => rfl
  | some v =>
    rw [hq] at h
    simp only [Option.getD_some] at h
    have : v = undef := h.trans hv
    rw [this]; rfl
/-- The guard itself was passed over. -/
theorem WL.nou {d : Nat} {op : Op} {t : TypeId} {pos : String} {af : Array Edge} {j dj : Nat} {want : Bool}
    (hj : (ops[j]?).bind (·.dst) = some dj) (hv : ev σ (.tmp dj) = undef) (hd : Nat.blt d n = true)
    (h : WL P n ops Q rest (up σ d undef) w) : WL P n ops Q (⟨some d, op, t, pos, af, some (j, want)⟩ :: rest) σ w := by
  intro a ha
  have hy := ha.yieldedU hj hv
  unfold wpList
  rw [if_neg (by simp [Region.wanted, hy])]
  exact h _ (ha.put hd)
/-- The call returns, and R holds of what it hands back and of the world behind it. -/
def Ret (P : Program) (f : FuncId) (args : Array Value) (w : World) (R : Value → World → Prop) : Prop :=
  Calls P f args w fun e w' => ∃ v, e = .returned v ∧ R v w'
theorem Ret.mono {f : FuncId} {args : Array Value} {R R' : Value → World → Prop} (h : Ret P f args w R) (hr : ∀ v w', R v w' → R' v w') : Ret P f args w R' :=
  Calls.mono h fun _ _ ⟨v, he, hR⟩ => ⟨v, he, hr _ _ hR⟩

/-- What there is to know of a function that is called. -/
def Callee (P : Program) (f : FuncId) : Prop := ∃ fn, P.funcs[f]? = some fn ∧ (fn.name == "runtime.NumGoroutine") = false ∧ fn.body.isNone = false

theorem WL.enter {o : Oper} {d f : Nat} {args : Array Value} {R : Value → World → Prop} (hg : o.guard = none) (hd : o.dst = some d) (hn : Nat.blt d n = true)
    (hx : (execOp (ev σ) o).run P w = .ok (.enter f args) w) (hr : Ret P f args w R) (h : ∀ v w', R v w' → WL P n ops Q rest (up σ d v) w') : WL P n ops Q (o :: rest) σ w := by
  intro a ha
  unfold wpList
  rw [if_pos (by simp [Region.wanted, hg])]
  refine .inl ?_
  unfold Oper.wp
  rw [ha.eval, hx, Oper.upon_enter]
  refine Calls.mono hr ?_
  rintro e w' ⟨v, rfl, hR⟩
  simp only [hd]
  exact h v w' hR _ (ha.put hn)

theorem run_callFunc {f : FuncId} {args : Array Value} (hc : Callee P f) : (callFunc f args).run P w = .ok (.enter f args) w := by
  obtain ⟨fn, hf, hn, hb⟩ := hc
  have hn' : ¬ (fn.name == "runtime.NumGoroutine") = true := by rw [hn]; simp
  have hb' : ¬ fn.body.isNone = true := by rw [hb]; simp
  unfold callFunc
  simp only [Sem.run_bind, run_program, Result.andThen_ok, hf]
  rw [if_neg hn', if_neg hb']
  rfl

theorem exec_call {f : FuncId} {xs : List Operand} {vs : List Value} {tys : Array TypeId} {d : Option Tmp} {t : TypeId} {pos : String} {af : Array Edge} {g : Option (Nat × Bool)} (hc : Callee P f)
    (hxs : xs.map (ev σ) = vs) : (execOp (ev σ) ⟨d, .call ⟨.value (.func f), xs.toArray, tys⟩, t, pos, af, g⟩).run P w = .ok (.enter f vs.toArray) w := by
  simp [execOp, resolve, Deferred.ofValue, invoke, ev, run_callFunc hc, hxs]

theorem exec_callv {f : FuncId} {x : Operand} {caps : List Value} {xs : List Operand} {vs : List Value} {tys : Array TypeId} {d : Option Tmp} {t : TypeId} {pos : String} {af : Array Edge} {g : Option (Nat × Bool)} (hc : Callee P f)
    (hx : ev σ x = .func (.func f) #[] caps.toArray) (hxs : xs.map (ev σ) = vs) : (execOp (ev σ) ⟨d, .call ⟨.value x, xs.toArray, tys⟩, t, pos, af, g⟩).run P w = .ok (.enter f (vs ++ caps).toArray) w := by
  simp [execOp, resolve, Deferred.ofValue, invoke, hx, run_callFunc hc, hxs]

section calls
variable {f d : Nat} {tys : Array TypeId} {t : TypeId} {pos : String} {af : Array Edge} {R : Value → World → Prop}
theorem WL.call0 (hc : Callee P f) (hr : Ret P f #[] w R) (hn : Nat.blt d n = true)
    (h : ∀ v w', R v w' → WL P n ops Q rest (up σ d v) w') : WL P n ops Q (⟨some d, .call ⟨.value (.func f), #[], tys⟩, t, pos, af, none⟩ :: rest) σ w :=
  WL.enter rfl rfl hn (exec_call (xs := []) hc rfl) hr h
theorem WL.call1 {x1 : Operand} {v1 : Value} (hc : Callee P f) (h1 : ev σ x1 = v1) (hr : Ret P f #[v1] w R) (hn : Nat.blt d n = true)
    (h : ∀ v w', R v w' → WL P n ops Q rest (up σ d v) w') : WL P n ops Q (⟨some d, .call ⟨.value (.func f), #[x1], tys⟩, t, pos, af, none⟩ :: rest) σ w :=
  WL.enter rfl rfl hn (exec_call (xs := [x1]) (vs := [v1]) hc (by simp [h1])) hr h
theorem WL.call2 {x1 x2 : Operand} {v1 v2 : Value} (hc : Callee P f) (h1 : ev σ x1 = v1) (h2 : ev σ x2 = v2) (hr : Ret P f #[v1, v2] w R) (hn : Nat.blt d n = true)
    (h : ∀ v w', R v w' → WL P n ops Q rest (up σ d v) w') : WL P n ops Q (⟨some d, .call ⟨.value (.func f), #[x1, x2], tys⟩, t, pos, af, none⟩ :: rest) σ w :=
  WL.enter rfl rfl hn (exec_call (xs := [x1, x2]) (vs := [v1, v2]) hc (by simp [h1, h2])) hr h
theorem WL.call3 {x1 x2 x3 : Operand} {v1 v2 v3 : Value} (hc : Callee P f) (h1 : ev σ x1 = v1) (h2 : ev σ x2 = v2) (h3 : ev σ x3 = v3) (hr : Ret P f #[v1, v2, v3] w R) (hn : Nat.blt d n = true)
    (h : ∀ v w', R v w' → WL P n ops Q rest (up σ d v) w') : WL P n ops Q (⟨some d, .call ⟨.value (.func f), #[x1, x2, x3], tys⟩, t, pos, af, none⟩ :: rest) σ w :=
  WL.enter rfl rfl hn (exec_call (xs := [x1, x2, x3]) (vs := [v1, v2, v3]) hc (by simp [h1, h2, h3])) hr h
theorem WL.call4 {x1 x2 x3 x4 : Operand} {v1 v2 v3 v4 : Value} (hc : Callee P f) (h1 : ev σ x1 = v1) (h2 : ev σ x2 = v2) (h3 : ev σ x3 = v3) (h4 : ev σ x4 = v4) (hr : Ret P f #[v1, v2, v3, v4] w R) (hn : Nat.blt d n = true)
    (h : ∀ v w', R v w' → WL P n ops Q rest (up σ d v) w') : WL P n ops Q (⟨some d, .call ⟨.value (.func f), #[x1, x2, x3, x4], tys⟩, t, pos, af, none⟩ :: rest) σ w :=
  WL.enter rfl rfl hn (exec_call (xs := [x1, x2, x3, x4]) (vs := [v1, v2, v3, v4]) hc (by simp [h1, h2, h3, h4])) hr h
theorem WL.callv1 {x x1 : Operand} {v1 : Value} {caps : List Value} (hc : Callee P f) (hx : ev σ x = .func (.func f) #[] caps.toArray) (h1 : ev σ x1 = v1) (hr : Ret P f (v1 :: caps).toArray w R) (hn : Nat.blt d n = true)
    (h : ∀ v w', R v w' → WL P n ops Q rest (up σ d v) w') : WL P n ops Q (⟨some d, .call ⟨.value x, #[x1], tys⟩, t, pos, af, none⟩ :: rest) σ w :=
  WL.enter rfl rfl hn (exec_callv (xs := [x1]) (vs := [v1]) hc hx (by simp [h1])) hr h
theorem WL.callv2 {x x1 x2 : Operand} {v1 v2 : Value} {caps : List Value} (hc : Callee P f) (hx : ev σ x = .func (.func f) #[] caps.toArray) (h1 : ev σ x1 = v1) (h2 : ev σ x2 = v2) (hr : Ret P f (v1 :: v2 :: caps).toArray w R) (hn : Nat.blt d n = true)
    (h : ∀ v w', R v w' → WL P n ops Q rest (up σ d v) w') : WL P n ops Q (⟨some d, .call ⟨.value x, #[x1, x2], tys⟩, t, pos, af, none⟩ :: rest) σ w :=
  WL.enter rfl rfl hn (exec_callv (xs := [x1, x2]) (vs := [v1, v2]) hc hx (by simp [h1, h2])) hr h
end calls

def fin0 (R : Value → World → Prop) : Post
  | .normal, _, w | .ret, _, w => R (.tuple #[]) w
  | _, _, _ => False
def fin1 (t : Nat) (R : Value → World → Prop) : Post
  | .normal, σ, w | .ret, σ, w => R (σ t) w
  | _, _, _ => False
def fin2 (t u : Nat) (R : Value → World → Prop) : Post
  | .normal, σ, w | .ret, σ, w => R (.tuple #[σ t, σ u]) w
  | _, _, _ => False
def fin3 (t u r : Nat) (R : Value → World → Prop) : Post
  | .normal, σ, w | .ret, σ, w => R (.tuple #[σ t, σ u, σ r]) w
  | _, _, _ => False
theorem Nx.f0 {R : Value → World → Prop} : Nx (fin0 R) .ret (fun _ w => R (.tuple #[]) w) := fun _ _ h => h
theorem Nx.f1 {t : Nat} {R : Value → World → Prop} : Nx (fin1 t R) .ret (fun σ w => R (σ t) w) := fun _ _ h => h
theorem Nx.f2 {t u : Nat} {R : Value → World → Prop} : Nx (fin2 t u R) .ret (fun σ w => R (.tuple #[σ t, σ u]) w) := fun _ _ h => h
theorem Nx.f3 {t u r : Nat} {R : Value → World → Prop} : Nx (fin3 t u r R) .ret (fun σ w => R (.tuple #[σ t, σ u, σ r]) w) := fun _ _ h => h
theorem Nx.n0 {R : Value → World → Prop} : Nx (fin0 R) .normal (fun _ w => R (.tuple #[]) w) := fun _ _ h => h

def env0 (l : List Value) : Env := fun t => l.getD t undef

theorem sees_enter {l : List Value} {m : Nat} (h : Nat.ble l.length m = true) :
    Sees { tmps := l.toArray ++ Array.replicate (m - l.toArray.size) undef, defers := [] } m (env0 l) := by
  have h' : l.length ≤ m := Nat.le_of_ble_eq_true h
  refine ⟨by simp; omega, fun t => ?_, rfl⟩
  simp only [Array.getD_eq_getD_getElem?, env0, List.getD_eq_getElem?_getD, Array.getElem?_append, List.size_toArray, List.getElem?_toArray]
  by_cases ht : t < l.length
  · rw [if_pos ht]
  · rw [if_neg ht, List.getElem?_eq_none (by omega)]
    simp [Array.getElem?_replicate]
    split <;> rfl

section enter
variable {f : Nat} {fn : Func} {c : Code} {l : List Value} {R : Value → World → Prop}
theorem enter_fin (F : Post) (hf : P.funcs[f]? = some fn) (hb : fn.body = some c) (hm : fn.ntmps = n) (hl : Nat.ble l.length n = true)
    (hF : ∀ e a σ w, Sees a n σ → F e σ w → bodyPost P fn (fun e w' => ∃ v, e = .returned v ∧ R v w') e a w)
    (h : W P n c F (env0 l) w) : Ret P f l.toArray w R := by
  refine calls_of_wp hf hb ?_
  subst hm
  refine wp_mono (h _ (sees_enter hl)) ?_
  rintro e a' w' ⟨σ', hs, hq⟩
  exact hF e a' σ' w' hs hq
theorem enter0 (hf : P.funcs[f]? = some fn) (hb : fn.body = some c) (hm : fn.ntmps = n) (hl : Nat.ble l.length n = true) (hr : fn.results = #[])
    (h : W P n c (fin0 R) (env0 l) w) : Ret P f l.toArray w R := by
  refine enter_fin _ hf hb hm hl ?_ h
  intro e a σ w hs hq
  cases e <;> first | exact hq.elim | exact ⟨hs.defers, _, results_none hr _ _ _, _, rfl, hq⟩
theorem enter1 {t : Nat} (hf : P.funcs[f]? = some fn) (hb : fn.body = some c) (hm : fn.ntmps = n) (hl : Nat.ble l.length n = true) (hr : fn.results = #[.tmp t])
    (h : W P n c (fin1 t R) (env0 l) w) : Ret P f l.toArray w R := by
  refine enter_fin _ hf hb hm hl ?_ h
  intro e a σ w hs hq
  cases e <;> first | exact hq.elim | exact ⟨hs.defers, _, results_tmp hr _ _ _, _, rfl, by rw [hs.get]; exact hq⟩
theorem enter2 {t u : Nat} (hf : P.funcs[f]? = some fn) (hb : fn.body = some c) (hm : fn.ntmps = n) (hl : Nat.ble l.length n = true) (hr : fn.results = #[.tmp t, .tmp u])
    (h : W P n c (fin2 t u R) (env0 l) w) : Ret P f l.toArray w R := by
  refine enter_fin _ hf hb hm hl ?_ h
  intro e a σ w hs hq
  cases e <;> first | exact hq.elim | exact ⟨hs.defers, _, results_tmp2 hr _ _ _, _, rfl, by rw [hs.get, hs.get]; exact hq⟩
theorem enter3 {t u r : Nat} (hf : P.funcs[f]? = some fn) (hb : fn.body = some c) (hm : fn.ntmps = n) (hl : Nat.ble l.length n = true) (hr : fn.results = #[.tmp t, .tmp u, .tmp r])
    (h : W P n c (fin3 t u r R) (env0 l) w) : Ret P f l.toArray w R := by
  refine enter_fin _ hf hb hm hl ?_ h
  intro e a σ w hs hq
  have hres : (results fn a.tmps).run P w = .ok (.tuple #[a.tmps.getD t undef, a.tmps.getD u undef, a.tmps.getD r undef]) w := by simp [results, hr]
  cases e <;> first | exact hq.elim | exact ⟨hs.defers, _, hres, _, rfl, by rw [hs.get, hs.get, hs.get]; exact hq⟩
end enter

def WQ (P : Program) (n : Nat) (ops : Array Oper) (w : World) (K : Env → Prop) (l : List Oper) (σ : Env) : Prop :=
  ∀ a, Sees a n σ → wpQuiet P ops (fun w' => ∃ m, w' = w.drewN m) (fun a' => ∃ σ', Sees a' n σ' ∧ K σ') l a

theorem wpQuiet_mono {C : World → Prop} {Q Q' : Act → Prop} (h : ∀ a, Q a → Q' a) : ∀ (l : List Oper) (a : Act), wpQuiet P ops C Q l a → wpQuiet P ops C Q' l a
  | [], a, hh => h a hh
  | o :: l, a, hh => by
    unfold wpQuiet at hh ⊢
    split
    · rename_i hw; rw [if_pos hw] at hh; exact Oper.quiet_mono (fun a => wpQuiet_mono h l a) hh
    · rename_i hw; rw [if_neg hw] at hh; exact wpQuiet_mono h l _ hh

theorem WQ.nil {K : Env → Prop} (h : K σ) : WQ P n ops w K [] σ := fun _ ha => ⟨σ, ha, h⟩
theorem WQ.step {K : Env → Prop} {o : Oper} {d : Nat} {v : Value} (hg : o.guard = none) (hd : o.dst = some d) (hn : Nat.blt d n = true)
    (hx : ∀ m, (execOp (ev σ) o).run P (w.drewN m) = .ok (.value v) (w.drewN m)) (h : WQ P n ops w K rest (up σ d v)) : WQ P n ops w K (o :: rest) σ := by
  intro a ha
  unfold wpQuiet
  rw [if_pos (by simp [Region.wanted, hg])]
  refine ⟨v, ?_, ?_⟩
  · rintro w' ⟨m, rfl⟩
    unfold Oper.quietAt
    rw [ha.eval, hx m]
    exact ⟨rfl, rfl⟩
  · rw [hd]; exact h _ (ha.put hn)
/-- A call that only reads. -/
theorem WQ.enter {K : Env → Prop} {o : Oper} {d f : Nat} {v : Value} {args : Array Value} (hg : o.guard = none) (hd : o.dst = some d) (hn : Nat.blt d n = true)
    (hx : ∀ w', (execOp (ev σ) o).run P w' = .ok (.enter f args) w')
    (hr : ∀ m, Ret P f args (w.drewN m) fun v' w' => v' = v ∧ ∃ k, w' = (w.drewN m).drewN k) (h : WQ P n ops w K rest (up σ d v)) : WQ P n ops w K (o :: rest) σ := by
  intro a ha
  unfold wpQuiet
  rw [if_pos (by simp [Region.wanted, hg])]
  refine ⟨v, ?_, ?_⟩
  · rintro w' ⟨m, rfl⟩
    unfold Oper.quietAt
    rw [ha.eval, hx _]
    refine ⟨rfl, Calls.mono (hr m) ?_⟩
    rintro e w' ⟨v', rfl, rfl, k, rfl⟩
    exact ⟨rfl, m + k, by rw [World.drewN_drewN]⟩
  · rw [hd]; exact h _ (ha.put hn)
theorem WQ.yes {K : Env → Prop} {dst : Option Nat} {op : Op} {t : TypeId} {pos : String} {af : Array Edge} {j dj : Nat} {want b : Bool}
    (hj : (ops[j]?).bind (·.dst) = some dj) (hn : Nat.blt dj n = true) (hv : ev σ (.tmp dj) = .bool b) (hb : b = want)
    (h : WQ P n ops w K (⟨dst, op, t, pos, af, none⟩ :: rest) σ) : WQ P n ops w K (⟨dst, op, t, pos, af, some (j, want)⟩ :: rest) σ := by
  intro a ha
  have h := h a ha
  unfold wpQuiet at h ⊢
  have hy := ha.yielded hj hn hv
  rw [if_pos (by simp [Region.wanted, hy, hb])]
  rw [if_pos (by simp [Region.wanted])] at h
  exact h
theorem WQ.no {K : Env → Prop} {d : Nat} {op : Op} {t : TypeId} {pos : String} {af : Array Edge} {j dj : Nat} {want b : Bool}
    (hj : (ops[j]?).bind (·.dst) = some dj) (hn : Nat.blt dj n = true) (hv : ev σ (.tmp dj) = .bool b) (hb : b = !want) (hd : Nat.blt d n = true)
    (h : WQ P n ops w K rest (up σ d undef)) : WQ P n ops w K (⟨some d, op, t, pos, af, some (j, want)⟩ :: rest) σ := by
  intro a ha
  have hy := ha.yielded hj hn hv
  unfold wpQuiet
  rw [if_neg (by simp [Region.wanted, hy, hb])]
  exact h _ (ha.put hd)

theorem WQ.nou {K : Env → Prop} {d : Nat} {op : Op} {t : TypeId} {pos : String} {af : Array Edge} {j dj : Nat} {want : Bool}
    (hj : (ops[j]?).bind (·.dst) = some dj) (hv : ev σ (.tmp dj) = undef) (hd : Nat.blt d n = true)
    (h : WQ P n ops w K rest (up σ d undef)) : WQ P n ops w K (⟨some d, op, t, pos, af, some (j, want)⟩ :: rest) σ := by
  intro a ha
  have hy := ha.yieldedU hj hv
  unfold wpQuiet
  rw [if_neg (by simp [Region.wanted, hy])]
  exact h _ (ha.put hd)

theorem W.draw {id : Nat} {l : List Oper} {K : Env → World → Prop} (hm : P.follows .mixedOrders = true) (hB : Region.lexB .any l.toArray = true) (hg : Nx Q .normal K)
    (h : WQ P n l.toArray w (fun σ' => ∀ m, K σ' (w.drewN m)) l σ) : W P n (.region id l.toArray true) Q σ w := by
  intro a ha
  refine wp_region_quiet_lit hm hB (wpQuiet_mono ?_ _ _ (h a ha))
  rintro a' ⟨σ', hs, hK⟩ w' ⟨m, rfl⟩
  exact ⟨σ', hs, hg _ _ (hK m)⟩
end rules
end Sg
end

section
namespace Sg
open Go

section
variable {P : Program} {n : Nat} {Q : Post} {σ : Env} {w : World} {ops : Array Oper} {rest : List Oper}

theorem lh {d : Nat} {v : Value} : ev (up σ d v) (.tmp d) = v := by simp [ev, up]
theorem lt {d t : Nat} {v v' : Value} (hne : Nat.beq t d = false) (h : ev σ (.tmp t) = v) : ev (up σ d v') (.tmp t) = v := by
  simp only [ev, up, hne, cond_false] at *; exact h
theorem jt2 {d e t : Nat} {v v1 v2 : Value} (hne : (Nat.beq t d || Nat.beq t e) = false) (h : ev σ (.tmp t) = v) : ev (up (up σ e v2) d v1) (.tmp t) = v :=
  lt (Bool.or_eq_false_iff.1 hne).1 (lt (Bool.or_eq_false_iff.1 hne).2 h)
theorem jt4 {d1 d2 d3 d4 t : Nat} {v v1 v2 v3 v4 : Value} (hne : ((Nat.beq t d1 || Nat.beq t d2) || (Nat.beq t d3 || Nat.beq t d4)) = false) (h : ev σ (.tmp t) = v) : ev (up (up (up (up σ d4 v4) d3 v3) d2 v2) d1 v1) (.tmp t) = v :=
  jt2 (Bool.or_eq_false_iff.1 hne).1 (jt2 (Bool.or_eq_false_iff.1 hne).2 h)
theorem jt8 {d1 d2 d3 d4 d5 d6 d7 d8 t : Nat} {v v1 v2 v3 v4 v5 v6 v7 v8 : Value} (hne : (((Nat.beq t d1 || Nat.beq t d2) || (Nat.beq t d3 || Nat.beq t d4)) || ((Nat.beq t d5 || Nat.beq t d6) || (Nat.beq t d7 || Nat.beq t d8))) = false) (h : ev σ (.tmp t) = v) : ev (up (up (up (up (up (up (up (up σ d8 v8) d7 v7) d6 v6) d5 v5) d4 v4) d3 v3) d2 v2) d1 v1) (.tmp t) = v :=
  jt4 (Bool.or_eq_false_iff.1 hne).1 (jt4 (Bool.or_eq_false_iff.1 hne).2 h)
theorem lc {v : Value} : ev σ (.const v) = v := rfl
theorem lf {f : Nat} : ev σ (.func f) = .func (.func f) #[] #[] := rfl
theorem lg {g : Nat} : ev σ (.global g) = .pointer (some ⟨g, 0, none⟩) := rfl
theorem gt {d t : Nat} {v v' : Value} (hne : Nat.beq t d = false) (h : σ t = v) : (up σ d v') t = v := lt hne h

theorem mnil : ([] : List Operand).map (ev σ) = [] := rfl
theorem mcons {x : Operand} {v : Value} {l : List Operand} {l' : List Value} (h : ev σ x = v) (h' : l.map (ev σ) = l') : (x :: l).map (ev σ) = v :: l' := by simp [h, h']

/-- The operation leaves the world alone and yields v. -/
def X (P : Program) (σ : Env) (w : World) (op : Op) (t : TypeId) (v : Value) : Prop :=
  ∀ d pos af g, (execOp (ev σ) ⟨d, op, t, pos, af, g⟩).run P w = .ok (.value v) w
variable {d : Nat} {op : Op} {t : TypeId} {pos : String} {af : Array Edge} {v : Value} {w' : World}
theorem WL.x (hx : X P σ w op t v) (hn : Nat.blt d n = true) (h : WL P n ops Q rest (up σ d v) w) : WL P n ops Q (⟨some d, op, t, pos, af, none⟩ :: rest) σ w :=
  WL.step rfl rfl hn (hx _ _ _ _) h
theorem WQ.x {K : Env → Prop} (hx : ∀ m, X P σ (w.drewN m) op t v) (hn : Nat.blt d n = true) (h : WQ P n ops w K rest (up σ d v)) : WQ P n ops w K (⟨some d, op, t, pos, af, none⟩ :: rest) σ :=
  WQ.step rfl rfl hn (fun m => hx m _ _ _ _) h

variable {x y c : Operand} {p q : Int} {xt yt : TypeId} {k : IntKind}
theorem X.mv (h : ev σ x = v) : X P σ w (.move x) t v := fun _ _ _ _ => by simp [execOp, h]
theorem X.asg (h : ev σ x = v) : X P σ w (.assign x) t v := fun _ _ _ _ => by simp [execOp, h]
theorem X.pickT {a b : Operand} {z : Bool} (hc : ev σ c = .bool z) (hz : z = true) (h : ev σ a = v) : X P σ w (.pick c a b) t v := fun _ _ _ _ => by simp [execOp, hc, hz, h, asBool]
theorem X.pickF {a b : Operand} {z : Bool} (hc : ev σ c = .bool z) (hz : z = false) (h : ev σ b = v) : X P σ w (.pick c a b) t v := fun _ _ _ _ => by simp [execOp, hc, hz, h, asBool]
theorem X.nilck {a : Addr} (h : ev σ x = .pointer (some a)) : X P σ w (.nilCheck x) t (.pointer (some a)) := fun _ _ _ _ => by simp [execOp, h]

theorem run_guard {o : BinOp} {z : IntKind} : (eqGuard o xt x y (.int k p) (.int z q)).run P w = .ok () w := by
  unfold eqGuard; cases o <;> rfl

theorem X.int {o : BinOp} {k' : IntKind} {r : Value} (hx : ev σ x = .int k p) (hy : ev σ y = .int k' q) (h : (binOp o xt (.int k p) (.int k' q)).run P w = .ok r w) : X P σ w (.binOp o xt x y yt) t r := fun _ _ _ _ => by
  simp only [execOp, hx, hy, Sem.run_bind, run_guard, Result.andThen_ok, h, Sem.run_pure]

theorem wrap_i64 {z : Int} (h1 : -9223372036854775808 ≤ z) (h2 : z ≤ 9223372036854775807) : IntKind.i64.wrap z = z := by
  simp only [IntKind.wrap, IntKind.bits, IntKind.signed]; simp; omega
theorem wrap_u64 (z : Int) : IntKind.u64.wrap z = z % 18446744073709551616 := by simp [IntKind.wrap, IntKind.bits, IntKind.signed]
theorem wrap_u64_in {z : Int} (h1 : 0 ≤ z) (h2 : z < 18446744073709551616) : IntKind.u64.wrap z = z := by rw [wrap_u64]; omega
theorem X.add (hx : ev σ x = .int .i64 p) (hy : ev σ y = .int .i64 q) (h1 : -9223372036854775808 ≤ p + q) (h2 : p + q ≤ 9223372036854775807) : X P σ w (.binOp .add xt x y yt) t (.int .i64 (p + q)) :=
  X.int hx hy (by simp [binOp, Op.intArith, wrap_i64 h1 h2])
theorem X.sub (hx : ev σ x = .int .i64 p) (hy : ev σ y = .int .i64 q) (h1 : -9223372036854775808 ≤ p - q) (h2 : p - q ≤ 9223372036854775807) : X P σ w (.binOp .sub xt x y yt) t (.int .i64 (p - q)) :=
  X.int hx hy (by simp [binOp, Op.intArith, wrap_i64 h1 h2])
theorem X.mul (hx : ev σ x = .int .i64 p) (hy : ev σ y = .int .i64 q) (h1 : -9223372036854775808 ≤ p * q) (h2 : p * q ≤ 9223372036854775807) : X P σ w (.binOp .mul xt x y yt) t (.int .i64 (p * q)) :=
  X.int hx hy (by simp [binOp, Op.intArith, wrap_i64 h1 h2])
/-- Sums that go round. -/
theorem X.addw (hx : ev σ x = .int k p) (hy : ev σ y = .int k q) : X P σ w (.binOp .add xt x y yt) t (.int k (k.wrap (p + q))) :=
  X.int hx hy (by simp [binOp, Op.intArith])
theorem X.subw (hx : ev σ x = .int k p) (hy : ev σ y = .int k q) : X P σ w (.binOp .sub xt x y yt) t (.int k (k.wrap (p - q))) :=
  X.int hx hy (by simp [binOp, Op.intArith])
theorem X.mulw (hx : ev σ x = .int k p) (hy : ev σ y = .int k q) : X P σ w (.binOp .mul xt x y yt) t (.int k (k.wrap (p * q))) :=
  X.int hx hy (by simp [binOp, Op.intArith])
/-- Division of numbers that are not below nought. -/
theorem X.quo (hx : ev σ x = .int k p) (hy : ev σ y = .int k q) (h0 : 0 ≤ p) (h1 : 0 < q) (hw : k.wrap (p / q) = p / q) : X P σ w (.binOp .quo xt x y yt) t (.int k (p / q)) :=
  X.int hx hy (by simp [binOp, Op.intDiv, show q ≠ 0 by omega, Int.tdiv_eq_ediv_of_nonneg h0, hw])
theorem X.rem (hx : ev σ x = .int k p) (hy : ev σ y = .int k q) (h0 : 0 ≤ p) (h1 : 0 < q) : X P σ w (.binOp .rem xt x y yt) t (.int k (p % q)) :=
  X.int hx hy (by simp [binOp, Op.intDiv, show q ≠ 0 by omega, Int.tmod_eq_emod_of_nonneg h0])
theorem X.quow (hx : ev σ x = .int k p) (hy : ev σ y = .int k q) (h1 : q ≠ 0) : X P σ w (.binOp .quo xt x y yt) t (.int k (k.wrap (p.tdiv q))) :=
  X.int hx hy (by simp [binOp, Op.intDiv, h1])
theorem X.remw (hx : ev σ x = .int k p) (hy : ev σ y = .int k q) (h1 : q ≠ 0) : X P σ w (.binOp .rem xt x y yt) t (.int k (p.tmod q)) :=
  X.int hx hy (by simp [binOp, Op.intDiv, h1])
theorem X.lss (hx : ev σ x = .int k p) (hy : ev σ y = .int k q) : X P σ w (.binOp .lss xt x y yt) t (.bool (decide (p < q))) := X.int hx hy (by simp [binOp, Op.intCmp])
theorem X.leq (hx : ev σ x = .int k p) (hy : ev σ y = .int k q) : X P σ w (.binOp .leq xt x y yt) t (.bool (decide (p ≤ q))) := X.int hx hy (by simp [binOp, Op.intCmp])
theorem X.gtr (hx : ev σ x = .int k p) (hy : ev σ y = .int k q) : X P σ w (.binOp .gtr xt x y yt) t (.bool (decide (q < p))) := X.int hx hy (by simp [binOp, Op.intCmp])
theorem X.geq (hx : ev σ x = .int k p) (hy : ev σ y = .int k q) : X P σ w (.binOp .geq xt x y yt) t (.bool (decide (q ≤ p))) := X.int hx hy (by simp [binOp, Op.intCmp])
theorem beq_decide {a b : Int} : (a == b) = decide (a = b) := by by_cases h : a = b <;> simp [h]
theorem bne_decide {a b : Int} : (a != b) = decide (a ≠ b) := by by_cases h : a = b <;> simp [h]
theorem X.eql (hx : ev σ x = .int k p) (hy : ev σ y = .int k q) : X P σ w (.binOp .eql xt x y yt) t (.bool (decide (p = q))) := X.int hx hy (by simp [binOp, Op.intCmp, beq_decide])
theorem X.neq (hx : ev σ x = .int k p) (hy : ev σ y = .int k q) : X P σ w (.binOp .neq xt x y yt) t (.bool (decide (p ≠ q))) := X.int hx hy (by simp [binOp, Op.intCmp, bne_decide])
/-- What the model reckons bit by bit, at a kind. -/
def bitop (o : BinOp) (k : IntKind) (a b : Int) : Int :=
  match o with
  | .and => k.wrap ((BitVec.ofInt k.bits a &&& BitVec.ofInt k.bits b).toNat)
  | .or => k.wrap ((BitVec.ofInt k.bits a ||| BitVec.ofInt k.bits b).toNat)
  | .xor => k.wrap ((BitVec.ofInt k.bits a ^^^ BitVec.ofInt k.bits b).toNat)
  | _ => k.wrap ((BitVec.ofInt k.bits a &&& ~~~ BitVec.ofInt k.bits b).toNat)
theorem X.and (hx : ev σ x = .int k p) (hy : ev σ y = .int k q) : X P σ w (.binOp .and xt x y yt) t (.int k (bitop .and k p q)) := X.int hx hy (by simp [binOp, Op.intBits, bitop])
theorem X.or (hx : ev σ x = .int k p) (hy : ev σ y = .int k q) : X P σ w (.binOp .or xt x y yt) t (.int k (bitop .or k p q)) := X.int hx hy (by simp [binOp, Op.intBits, bitop])
theorem X.xor (hx : ev σ x = .int k p) (hy : ev σ y = .int k q) : X P σ w (.binOp .xor xt x y yt) t (.int k (bitop .xor k p q)) := X.int hx hy (by simp [binOp, Op.intBits, bitop])
theorem X.shl {k' : IntKind} (hx : ev σ x = .int k p) (hy : ev σ y = .int k' q) (h0 : 0 ≤ q) : X P σ w (.binOp .shl xt x y yt) t (.int k (k.wrap (p * 2 ^ (min q.toNat k.bits)))) :=
  X.int hx hy (by simp [binOp, Op.shift, show ¬ q < 0 by omega])
theorem X.shr {k' : IntKind} (hx : ev σ x = .int k p) (hy : ev σ y = .int k' q) (h0 : 0 ≤ q) : X P σ w (.binOp .shr xt x y yt) t (.int k (p.fdiv (2 ^ (min q.toNat k.bits)))) :=
  X.int hx hy (by simp [binOp, Op.shift, show ¬ q < 0 by omega])
theorem X.not {b : Bool} (hx : ev σ x = .bool b) : X P σ w (.unOp .not xt x) t (.bool (!b)) := fun _ _ _ _ => by simp [execOp, hx, Op.unary]
theorem X.notp {s : Prop} [Decidable s] (hx : ev σ x = .bool (decide s)) : X P σ w (.unOp .not xt x) t (.bool (decide (¬ s))) := fun _ _ _ _ => by simp [execOp, hx, Op.unary]
theorem X.neg (hx : ev σ x = .int .i64 p) (h1 : -9223372036854775808 ≤ -p) (h2 : -p ≤ 9223372036854775807) : X P σ w (.unOp .neg xt x) t (.int .i64 (-p)) := fun _ _ _ _ => by
  simp [execOp, hx, Op.unary, Op.intArith, wrap_i64 h1 h2]
theorem X.negw (hx : ev σ x = .int k p) : X P σ w (.unOp .neg xt x) t (.int k (k.wrap (-p))) := fun _ _ _ _ => by
  simp [execOp, hx, Op.unary, Op.intArith]
theorem X.conv {k' : IntKind} {ds : TypeDesc} (hs : P.underlying xt = some ds) (hd : P.underlying yt = some (.int k')) (hx : ev σ x = .int k p) : X P σ w (.convert xt yt x) t (.int k' (k'.wrap p)) := by
  intro d pos af g
  have hr : (convert xt yt (.int k p)).run P w = .ok (.int k' (k'.wrap p)) w := by
    cases ds <;> simp [convert, run_underlying hs, run_underlying hd, Conv.intToInt]
  simp [execOp, hx, hr]
/-- A conversion that changes nothing but the kind. -/
theorem X.convi {k' : IntKind} {ds : TypeDesc} (hs : P.underlying xt = some ds) (hd : P.underlying yt = some (.int k')) (hx : ev σ x = .int k p) (hw : k'.wrap p = p) : X P σ w (.convert xt yt x) t (.int k' p) := by
  have := X.conv (t := t) (w := w) (xt := xt) hs hd hx; rwa [hw] at this
theorem X.convu {ds : TypeDesc} (hs : P.underlying xt = some ds) (hd : P.underlying yt = some (.int .u64)) (hx : ev σ x = .int k p) : X P σ w (.convert xt yt x) t (.int .u64 (p % 18446744073709551616)) := by
  have := X.conv (t := t) (w := w) (xt := xt) hs hd hx; rwa [wrap_u64] at this
theorem X.ex2_0 {a b : Value} (hx : ev σ x = .tuple #[a, b]) : X P σ w (.extract x 0) t a := fun _ _ _ _ => by simp [execOp, hx, Instr.extract]
theorem X.ex2_1 {a b : Value} (hx : ev σ x = .tuple #[a, b]) : X P σ w (.extract x 1) t b := fun _ _ _ _ => by simp [execOp, hx, Instr.extract]
theorem X.ex3_0 {a b c : Value} (hx : ev σ x = .tuple #[a, b, c]) : X P σ w (.extract x 0) t a := fun _ _ _ _ => by simp [execOp, hx, Instr.extract]
theorem X.ex3_1 {a b c : Value} (hx : ev σ x = .tuple #[a, b, c]) : X P σ w (.extract x 1) t b := fun _ _ _ _ => by simp [execOp, hx, Instr.extract]
theorem X.ex3_2 {a b c : Value} (hx : ev σ x = .tuple #[a, b, c]) : X P σ w (.extract x 2) t c := fun _ _ _ _ => by simp [execOp, hx, Instr.extract]
theorem X.extract {vs : Array Value} {i : Nat} (hx : ev σ x = .tuple vs) (hi : vs[i]? = some v) : X P σ w (.extract x i) t v := fun _ _ _ _ => by simp [execOp, hx, Instr.extract, hi]
theorem run_ptr_equalIn {ds e : TypeId} {a : Option Addr} (m : Nat) (hs : P.underlying ds = some (.pointer e)) : (Op.equalIn (m + 1) ds (.pointer a) (.pointer none)).run P w = .ok a.isNone w := by
  cases a <;> simp [Op.equalIn, run_underlying hs]
theorem run_ptr_equal {ds e : TypeId} {a : Option Addr} (hs : P.underlying ds = some (.pointer e)) : (Op.equal ds (.pointer a) (.pointer none)).run P w = .ok a.isNone w := run_ptr_equalIn 9999 hs
/-- A pointer against nil. -/
theorem X.eqlN {e : TypeId} {a : Option Addr} (hs : P.underlying xt = some (.pointer e)) (hx : ev σ x = .pointer a) (hy : ev σ y = .pointer none) : X P σ w (.binOp .eql xt x y yt) t (.bool a.isNone) := fun _ _ _ _ => by
  have hg : (eqGuard .eql xt x y (.pointer a) (.pointer none)).run P w = .ok () w := by simp [eqGuard]
  have hb : (binOp .eql xt (.pointer a) (.pointer none)).run P w = .ok (.bool a.isNone) w := by
    simp only [binOp, Sem.run_bind, run_ptr_equal hs, Result.andThen_ok, Sem.run_pure]
  simp [execOp, hx, hy, hg, hb]
theorem X.neqN {e : TypeId} {a : Option Addr} (hs : P.underlying xt = some (.pointer e)) (hx : ev σ x = .pointer a) (hy : ev σ y = .pointer none) : X P σ w (.binOp .neq xt x y yt) t (.bool (!a.isNone)) := fun _ _ _ _ => by
  have hg : (eqGuard .neq xt x y (.pointer a) (.pointer none)).run P w = .ok () w := by simp [eqGuard]
  have hb : (binOp .neq xt (.pointer a) (.pointer none)).run P w = .ok (.bool (!a.isNone)) w := by
    simp only [binOp, Sem.run_bind, run_ptr_equal hs, Result.andThen_ok, Sem.run_pure]
  simp [execOp, hx, hy, hg, hb]
theorem toList_beq (a b : ByteArray) : (a.toList == b.toList) = decide (a = b) := by
  rw [ByteArray.toList_eq, ByteArray.toList_eq]
  by_cases h : a = b
  · simp [h]
  · have : ¬ a.data.toList = b.data.toList := fun e => h (ByteArray.ext (Array.ext' e))
    rw [decide_eq_false h]
    simpa using this
theorem X.mkfn {fn : Fn} {first caps : List Operand} {vf vc : List Value} (hf : first.map (ev σ) = vf) (hc : caps.map (ev σ) = vc) : X P σ w (.makeFunc fn first.toArray caps.toArray) t (.func fn vf.toArray vc.toArray) := fun _ _ _ _ => by
  simp [execOp, Instr.makeFunc, hf, hc]
theorem X.min {tys : Array TypeId} (hx : ev σ x = .int k p) (hy : ev σ y = .int k q) : X P σ w (.call ⟨.builtin .min, #[x, y], tys⟩) t (.int k (if q < p then q else p)) := fun _ _ _ _ => by
  simp [execOp, resolve, invoke, builtin, hx, hy, Builtin.min_, Builtin.min2]
theorem X.max {tys : Array TypeId} (hx : ev σ x = .int k p) (hy : ev σ y = .int k q) : X P σ w (.call ⟨.builtin .max, #[x, y], tys⟩) t (.int k (if p < q then q else p)) := fun _ _ _ _ => by
  simp [execOp, resolve, invoke, builtin, hx, hy, Builtin.max_, Builtin.max2]
theorem X.lenSl {st e : TypeId} {a : Option Addr} {l cp : Nat} (hs : P.underlying st = some (.slice e)) (hx : ev σ x = .slice a l cp) : X P σ w (.call ⟨.builtin .len, #[x], #[st]⟩) t (.int .i64 l) := fun _ _ _ _ => by
  simp [execOp, resolve, invoke, builtin, hx, Builtin.len_, run_underlying hs, goInt]
end
end Sg
end

section
namespace Sg
open Go Go.RowKit

/-- Of the blocks that there were only those of F may have changed. -/
structure Ch (F : Nat → Prop) (w w' : World) : Prop where
  os : w'.os = w.os
  tape : w'.tape = w.tape
  output : w'.output = w.output
  size : w.heap.size ≤ w'.heap.size
  blk : ∀ k, k < w.heap.size → ¬ F k → w'.heap[k]? = w.heap[k]?
abbrev Ch0 (w w' : World) : Prop := Ch (fun _ => False) w w'

theorem lt_of_blk {w : World} {k : Nat} {o : Obj} (h : w.heap[k]? = some o) : k < w.heap.size := (Array.getElem?_eq_some_iff.1 h).1
theorem Ch.refl (F : Nat → Prop) (w : World) : Ch F w w := ⟨rfl, rfl, rfl, Nat.le_refl _, fun _ _ _ => rfl⟩
theorem Ch.at {F : Nat → Prop} {w w' : World} (c : Ch F w w') {k : Nat} {o : Obj} (h : w.heap[k]? = some o) (hn : ¬ F k) : w'.heap[k]? = some o := (c.blk k (lt_of_blk h) hn).trans h
theorem Ch.at0 {w w' : World} (c : Ch0 w w') {k : Nat} {o : Obj} (h : w.heap[k]? = some o) : w'.heap[k]? = some o := c.at h id
theorem Ch.trans {F G H : Nat → Prop} {a b c : World} (h : Ch F a b) (k : Ch G b c) (hF : ∀ i, i < a.heap.size → F i → H i) (hG : ∀ i, i < a.heap.size → G i → H i) : Ch H a c :=
  ⟨k.os.trans h.os, k.tape.trans h.tape, k.output.trans h.output, Nat.le_trans h.size k.size,
   fun i hi hn => (k.blk i (Nat.lt_of_lt_of_le hi h.size) (fun g => hn (hG i hi g))).trans (h.blk i hi (fun g => hn (hF i hi g)))⟩
theorem Ch.trans0 {a b c : World} (h : Ch0 a b) (k : Ch0 b c) : Ch0 a c := h.trans k (fun _ _ => id) (fun _ _ => id)
theorem Ch.mono {F G : Nat → Prop} {w w' : World} (h : Ch F w w') (hF : ∀ i, i < w.heap.size → F i → G i) : Ch G w w' := ⟨h.os, h.tape, h.output, h.size, fun k hk hn => h.blk k hk (fun g => hn (hF k hk g))⟩
theorem Ch.weak {F : Nat → Prop} {w w' : World} (h : Ch0 w w') : Ch F w w' := h.mono (fun _ _ => False.elim)
theorem Ch.below {w w' : World} (h : Ch0 w w') : Below w.heap.size w w' := ⟨h.os, h.tape, h.output, h.size, fun k hk => h.blk k hk id⟩
theorem Ch.drew (w : World) (m : Nat) : Ch0 w (w.drewN m) := ⟨rfl, rfl, rfl, Nat.le_refl _, fun _ _ _ => rfl⟩

/-- Block b holds o now; nothing else has changed. -/
structure St (w w' : World) (b : Nat) (o : Obj) : Prop where
  at_ : w'.heap[b]? = some o
  ch : Ch (fun k => k = b) w w'
  size : w'.heap.size = w.heap.size
/-- One block more. -/
structure Nw (w w' : World) (o : Obj) : Prop where
  at_ : w'.heap[w.heap.size]? = some o
  ch : Ch0 w w'
  size : w'.heap.size = w.heap.size + 1

theorem nw_alloc (w : World) (o : Obj) : Nw w (w.alloc o) o :=
  ⟨heap_alloc_new w o, ⟨rfl, rfl, rfl, by simp, fun k hk _ => Below.heap_alloc w o k hk⟩, by simp⟩
theorem st_setCell {w : World} {b i : Nat} {cs : Array Value} {T : TypeId} {fr : Nat × Nat} (h : w.heap[b]? = some (.cells cs T fr)) (v : Value) :
    St w (w.setCell ⟨b, i, none⟩ v) b (.cells (cs.setIfInBounds i v) T fr) :=
  ⟨by simp [World.setCell, Array.getElem?_modify, h], ⟨rfl, rfl, rfl, by simp, fun k _ hn => Below.heap_setCell w _ v k (by simpa using hn)⟩, by simp⟩

theorem cell_of {w : World} {b i : Nat} {cs : Array Value} {T : TypeId} {fr : Nat × Nat} {v : Value} (h : w.heap[b]? = some (.cells cs T fr)) (hc : cs[i]? = some v) : w.cell? ⟨b, i, none⟩ = some v := by
  simp [World.cell?, h, hc]
theorem frozen_of {w : World} {b i : Nat} {cs : Array Value} {T : TypeId} (h : w.heap[b]? = some (.cells cs T (0, 0))) : w.frozen? ⟨b, i, none⟩ = false := by
  simp [World.frozen?, h]

def Elem (P : Program) (e : TypeId) (size : Nat) (z : Value) (bytes : Nat) : Prop := ∃ i, P.info? e = some i ∧ i.size = size ∧ i.zero = some z ∧ i.bytes = bytes
def Plain (P : Program) (t : TypeId) : Prop := ∃ d, P.underlying t = some d ∧ (match d with | .struct _ | .array _ _ => False | _ => True)
def Aggr (P : Program) (t : TypeId) (k : Nat) : Prop := (∃ d, P.underlying t = some d ∧ (match d with | .struct _ | .array _ _ => True | _ => False)) ∧ ∃ i, P.info? t = some i ∧ i.size = k
def Fld (P : Program) (s f off : Nat) : Prop := ∃ fs fd i, P.underlying s = some (.struct fs) ∧ fs[f]? = some fd ∧ fd.offset = off ∧ P.info? fd.type = some i ∧ i.size ≠ 0

section
variable {P : Program} {n : Nat} {Q : Post} {σ : Env} {w : World} {ops : Array Oper} {rest : List Oper}
variable {d : Nat} {t xt : TypeId} {pos : String} {af : Array Edge} {v : Value} {x y : Operand} {b o : Nat} {cs : Array Value} {T : TypeId} {fr : Nat × Nat}

theorem run_isAgg_plain (h : Plain P t) : (isAgg t).run P w = .ok false w := by
  obtain ⟨d, hd, hp⟩ := h
  cases d <;> simp_all [isAgg, run_underlying hd]
theorem run_isAgg_aggr {k : Nat} (h : Aggr P t k) : (isAgg t).run P w = .ok true w := by
  obtain ⟨⟨d, hd, hp⟩, _⟩ := h
  cases d <;> simp_all [isAgg, run_underlying hd]

theorem run_fieldAt {s f off : Nat} (hf : Fld P s f off) : (Instr.fieldAt s (.pointer (some ⟨b, o, none⟩)) f).run P w = .ok (.pointer (some ⟨b, o + off, none⟩)) w := by
  obtain ⟨fs, fd, i, h1, h2, rfl, h4, h5⟩ := hf
  simp [Instr.fieldAt, run_underlying h1, h2, Instr.sureAddr, fieldPlace, Go.sizeOf, typeInfo, h4, h5, Addr.add]
  try (split <;> simp_all)
theorem X.fieldAddr {s f off : Nat} (hf : Fld P s f off) (hx : ev σ x = .pointer (some ⟨b, o, none⟩)) : X P σ w (.fieldAddr s x f) t (.pointer (some ⟨b, o + off, none⟩)) := fun _ _ _ _ => by
  simp [execOp, hx, run_fieldAt hf]
theorem X.indexAddr {e : TypeId} {size bytes len cap : Nat} {z : Value} {k : IntKind} {p : Int} (hs : P.underlying xt = some (.slice e)) (he : Elem P e size z bytes) (hx : ev σ x = .slice (some ⟨b, o, none⟩) len cap)
    (hy : ev σ y = .int k p) (h0 : 0 ≤ p) (h1 : p < len) : X P σ w (.indexAddr xt x y) t (.pointer (some ⟨b, o + p.toNat * size, none⟩)) := fun _ _ _ _ => by
  obtain ⟨i, hi, rfl, _⟩ := he
  simp [execOp, hx, hy, Instr.indexAt, asIntOf, run_underlying hs, Go.sizeOf, typeInfo, hi, h0, h1, Addr.add]
theorem X.load (ht : Plain P xt) (hx : ev σ x = .pointer (some ⟨b, o, none⟩)) (hm : w.heap[b]? = some (.cells cs T fr)) (hc : cs[o]? = some v) : X P σ w (.load xt x) t v := fun _ _ _ _ => by
  simp [execOp, hx, Instr.loadAt, Instr.sureAddr, loadVar, run_isAgg_plain ht, cell_of hm hc]
theorem X.loadS {k : Nat} {vs : List Value} (ht : Aggr P xt k) (hx : ev σ x = .pointer (some ⟨b, o, none⟩)) (hm : w.heap[b]? = some (.cells cs T fr)) (hl : vs.length = k) (hc : ∀ j, j < k → cs[o + j]? = vs[j]?) :
    X P σ w (.load xt x) t (.agg vs.toArray) := fun _ _ _ _ => by
  have hcells : (loadCells ⟨b, o, none⟩ k).run P w = .ok vs.toArray w := by
    subst hl
    refine run_loadCells_list (P := P) w ⟨b, o, none⟩ vs ?_
    intro j u hu
    have hj : j < vs.length := (List.getElem?_eq_some_iff.1 hu).1
    have hadd : (⟨b, o, none⟩ : Addr).add j = ⟨b, o + j, none⟩ := by unfold Addr.add; split <;> simp_all
    rw [hadd]
    exact cell_of hm ((hc j hj).trans hu)
  have hag := run_isAgg_aggr (w := w) ht
  obtain ⟨_, i, hi, rfl⟩ := ht
  simp [execOp, hx, Instr.loadAt, Instr.sureAddr, loadVar, hag, Go.sizeOf, typeInfo, hi, hcells]

theorem WL.store {bytes : Nat} {z : Value} (he : Elem P xt 1 z bytes) (hx : ev σ x = .pointer (some ⟨b, o, none⟩)) (hy : ev σ y = v) (h1 : v.oneCell' = true) (hm : w.heap[b]? = some (.cells cs T (0, 0)))
    (hc : o < cs.size) (h : ∀ w', St w w' b (.cells (cs.setIfInBounds o v) T (0, 0)) → WL P n ops Q rest σ w') : WL P n ops Q (⟨none, .store xt x y, t, pos, af, none⟩ :: rest) σ w := by
  obtain ⟨i, hi, hi1, _⟩ := he
  have hcell : w.cell? ⟨b, o, none⟩ = some cs[o] := cell_of hm (Array.getElem?_eq_getElem hc)
  refine WL.skp (w' := w.setCell ⟨b, o, none⟩ v) rfl rfl ?_ (h _ (st_setCell hm v))
  have hcells : v.cells = #[v] := by cases v <;> first | rfl | (simp [Value.oneCell'] at h1)
  have hadd : (⟨b, o, none⟩ : Addr).add 0 = ⟨b, o, none⟩ := rfl
  have hst := run_store P w ⟨b, o, none⟩ v .plain h1
  simp [execOp, hx, hy, Instr.storeAt, Instr.sureAddr, storeVar, hcells, Go.sizeOf, typeInfo, hi, hi1, storeCells, hadd, hst, hcell, frozen_of hm]

theorem WL.box (hx : ev σ x = .agg cs) (hn : Nat.blt d n = true)
    (h : ∀ w', Nw w w' (.cells cs xt) → WL P n ops Q rest (up σ d (.pointer (some ⟨w.heap.size, 0, none⟩))) w') : WL P n ops Q (⟨some d, .box xt x, t, pos, af, none⟩ :: rest) σ w := by
  refine WL.step (w' := w.alloc (.cells cs xt)) rfl rfl hn ?_ (h _ (nw_alloc w _))
  simp [execOp, hx, Instr.box, newVar, newRow, Value.cells]
theorem WL.box1 (hx : ev σ x = v) (h1 : v.oneCell' = true) (hn : Nat.blt d n = true)
    (h : ∀ w', Nw w w' (.cells #[v] xt) → WL P n ops Q rest (up σ d (.pointer (some ⟨w.heap.size, 0, none⟩))) w') : WL P n ops Q (⟨some d, .box xt x, t, pos, af, none⟩ :: rest) σ w := by
  refine WL.step (w' := w.alloc (.cells #[v] xt)) rfl rfl hn ?_ (h _ (nw_alloc w _))
  have hcells : v.cells = #[v] := by cases v <;> first | rfl | (simp [Value.oneCell'] at h1)
  simp [execOp, hx, Instr.box, newVar, newRow, hcells]
theorem WL.alloc {size bytes : Nat} {z : Value} (he : Elem P xt size z bytes) (hn : Nat.blt d n = true)
    (h : ∀ w', Nw w w' (.cells z.cells xt) → WL P n ops Q rest (up σ d (.pointer (some ⟨w.heap.size, 0, none⟩))) w') : WL P n ops Q (⟨some d, .alloc xt, t, pos, af, none⟩ :: rest) σ w := by
  obtain ⟨i, hi, _, hz, _⟩ := he
  refine WL.step (w' := w.alloc (.cells z.cells xt)) rfl rfl hn ?_ (h _ (nw_alloc w _))
  simp [execOp, Instr.alloc, zeroValue, typeInfo, hi, hz, newVar, newRow]
theorem WL.make {e : TypeId} {z : Value} {bytes : Nat} {p : Int} (hs : P.underlying xt = some (.slice e)) (he : Elem P e 1 z bytes) (h1 : z.oneCell' = true) (hx : ev σ x = .int .i64 p) (hy : ev σ y = .int .i64 p)
    (h0 : 0 ≤ p) (hb : p * bytes ≤ 140737488355328) (hp : p ≤ 140737488355328) (hn : Nat.blt d n = true)
    (h : ∀ w', Nw w w' (.cells (Array.replicate p.toNat z) e) → WL P n ops Q rest (up σ d (.slice (some ⟨w.heap.size, 0, none⟩) p.toNat p.toNat)) w') :
    WL P n ops Q (⟨some d, .makeSlice xt x y, t, pos, af, none⟩ :: rest) σ w := by
  obtain ⟨i, hi, hi1, hz, rfl⟩ := he
  refine WL.step (w' := w.alloc (.cells (Array.replicate p.toNat z) e)) rfl rfl hn ?_ (h _ (nw_alloc w _))
  have hcells : z.cells = #[z] := by cases z <;> first | rfl | (simp [Value.oneCell'] at h1)
  have hw : IntKind.i64.wrap p = p := wrap_i64 (by omega) (by omega)
  have hb' : (i.bytes : Int) * p ≤ 281474976710656 := by rw [Int.mul_comm]; omega
  have hrow : (Array.range p.toNat).map (fun _ => z) = Array.replicate p.toNat z := by
    apply Array.ext
    · simp
    · intro i h1 h2; simp
  simp [execOp, hx, hy, Instr.makeSlice, run_underlying hs, asInt, asIntOf, typeInfo, hi, hw, show ¬ p < 0 by omega, show ¬ (281474976710656 < (i.bytes : Int) * p) by omega, Go.sizeOf, hi1, zeroValue, hz, newRow, hcells, Nat.mod_one]
  by_cases hp0 : p ≤ 0
  · have : p = 0 := by omega
    subst this
    have hr0 : (Array.range 0).map (fun _ => (default : Value)) = #[] := by apply Array.ext <;> simp
    simp
    rw [hr0]
  · simp [hp0, hrow]
theorem WL.makeN {e : TypeId} {z : Value} {bytes m : Nat} (hs : P.underlying xt = some (.slice e)) (he : Elem P e 1 z bytes) (h1 : z.oneCell' = true) (hx : ev σ x = .int .i64 (m : Int)) (hy : ev σ y = .int .i64 (m : Int))
    (hb : m * bytes ≤ 140737488355328) (hp : m ≤ 140737488355328) (hn : Nat.blt d n = true)
    (h : ∀ w', Nw w w' (.cells (Array.replicate m z) e) → WL P n ops Q rest (up σ d (.slice (some ⟨w.heap.size, 0, none⟩) m m)) w') :
    WL P n ops Q (⟨some d, .makeSlice xt x y, t, pos, af, none⟩ :: rest) σ w :=
  WL.make hs he h1 hx hy (by omega) (by have : ((m * bytes : Nat) : Int) ≤ 140737488355328 := by omega
                                        rwa [Int.natCast_mul] at this) (by omega) hn (by simpa using h)
end
end Sg
end

section
namespace Sg
open Go Go.RowKit

theorem pnil {σ : Env} : ([] : List (Nat × Operand)).map (fun p => (p.1, ev σ p.2)) = [] := rfl
theorem pcons {σ : Env} {i : Nat} {x : Operand} {v : Value} {l : List (Nat × Operand)} {l' : List (Nat × Value)} (h : ev σ x = v) (h' : l.map (fun p => (p.1, ev σ p.2)) = l') :
    ((i, x) :: l).map (fun p => (p.1, ev σ p.2)) = (i, v) :: l' := by simp [h, h']

/-- What the parts leave, where each part is one cell and pl tells its place. -/
def putAll (pl : List Nat) (z : List Value) : List (Nat × Value) → List Value
  | [] => z
  | (i, v) :: r => putAll pl (z.set (pl.getD i 0) v) r
def okParts (pl : List Nat) (m : Nat) : List (Nat × Value) → Bool
  | [] => true
  | (i, v) :: r => v.oneCell' && Nat.blt i pl.length && Nat.blt (pl.getD i 0) m && okParts pl m r
theorem cells_of_one {v : Value} (h : v.oneCell' = true) : v.cells = #[v] := by cases v <;> first | rfl | (simp [Value.oneCell'] at h)

theorem fill_parts {place : Nat → Option (Nat × Nat)} {pl : List Nat} (hp : ∀ i, i < pl.length → place i = some (pl.getD i 0, 1)) : ∀ (ps : List (Nat × Value)) (z : List Value),
    okParts pl z.length ps = true → Instr.fill place z.toArray ps = some (putAll pl z ps).toArray
  | [], _, _ => rfl
  | (i, v) :: r, z, h => by
    simp only [okParts, Bool.and_eq_true] at h
    obtain ⟨⟨⟨h1, h2⟩, h3⟩, h4⟩ := h
    have h2' : i < pl.length := Nat.le_of_ble_eq_true h2
    have h3' : pl.getD i 0 < z.length := Nat.le_of_ble_eq_true h3
    have ih := fill_parts hp r (z.set (pl.getD i 0) v) (by simpa using h4)
    have hc := cells_of_one h1
    unfold Instr.fill
    rw [hp i h2']
    simp only [hc]
    have e : ((#[v].zipIdx.foldl (fun cs (x : Value × Nat) => cs.setIfInBounds (pl.getD i 0 + x.2) x.1) z.toArray)) = (z.set (pl.getD i 0) v).toArray := by
      simp [Array.zipIdx]
    simp only [List.size_toArray, List.length_cons, List.length_nil]
    rw [if_neg (by simp only [List.getD_eq_getElem?_getD] at h3' ⊢; simp; omega)]
    rw [show (putAll pl z ((i, v) :: r)) = putAll pl (z.set (pl.getD i 0) v) r from rfl, ← ih]
    congr 1

/-- A struct type, or an array's, all of whose parts are one cell each: their places, and the zero value. -/
def Bld (P : Program) (t : TypeId) (pl : List Nat) (z : List Value) : Prop :=
  ∃ i, P.info? t = some i ∧ i.zero = some (.agg z.toArray) ∧
    ((∃ fs, P.underlying t = some (.struct fs) ∧ (∀ f ∈ fs.toList, (P.info? f.type).isSome = true) ∧ ∀ j, j < pl.length → (fs.toList[j]?).map (fun f => (f.offset, (P.info? f.type).map (·.size))) = some (pl.getD j 0, some 1)) ∨
     (∃ len e ei, P.underlying t = some (.array len e) ∧ P.info? e = some ei ∧ ei.size = 1 ∧ ∀ j, j < pl.length → pl.getD j 0 = j))

theorem allIn {P : Program} {fs : List Field} (h : fs.all (fun f => (P.info? f.type).isSome) = true) : ∀ f ∈ fs, (P.info? f.type).isSome = true := by simpa using h
theorem allAt {P : Program} {fs : List Field} {pl : List Nat} {n : Nat} (h : ((fs.take n).map (fun f => (f.offset, (P.info? f.type).map (·.size))), pl.length) = (pl.map (fun o => (o, some 1)), n)) :
    ∀ j, j < pl.length → (fs[j]?).map (fun f => (f.offset, (P.info? f.type).map (·.size))) = some (pl.getD j 0, some 1) := by
  intro j hj
  obtain ⟨h1, h2⟩ := Prod.mk.inj h
  have := congrArg (fun l => l[j]?) h1
  simp only [List.getElem?_map, List.getElem?_take] at this
  rw [if_pos (by omega)] at this
  rw [this, List.getElem?_eq_getElem hj]
  simp [List.getD_eq_getElem?_getD, List.getElem?_eq_getElem hj]
section
variable {P : Program} {n : Nat} {Q : Post} {σ : Env} {w : World} {ops : Array Oper} {rest : List Oper}
variable {d : Nat} {t xt : TypeId} {pos : String} {af : Array Edge} {v : Value} {x y : Operand} {b o : Nat} {cs : Array Value} {T : TypeId} {fr : Nat × Nat}

theorem run_mapFields (fs : List Field) (h : ∀ f ∈ fs, (P.info? f.type).isSome = true) :
    (fs.mapM (m := Sem) fun f => do pure (f.offset, ← Go.sizeOf f.type)).run P w = .ok (fs.map fun f => (f.offset, ((P.info? f.type).map (·.size)).getD 0)) w := by
  induction fs with
  | nil => rfl
  | cons f fs ih =>
    have hf := h f (List.mem_cons_self ..)
    obtain ⟨i, hi⟩ := Option.isSome_iff_exists.1 hf
    have ih := ih (fun g hg => h g (List.mem_cons_of_mem _ hg))
    simp only [List.mapM_cons, Sem.run_bind, Go.sizeOf, typeInfo, run_program, Result.andThen_ok, hi, Sem.run_pure, List.map_cons, Option.map_some, Option.getD_some]
    simp only [Go.sizeOf, typeInfo] at ih
    rw [ih]
    rfl

theorem run_build {pl : List Nat} {z : List Value} {ps : List (Nat × Value)} (hb : Bld P t pl z) (hok : okParts pl z.length ps = true) :
    (Instr.build t ps.toArray).run P w = .ok (.agg (putAll pl z ps).toArray) w := by
  obtain ⟨i, hi, hz, h⟩ := hb
  rcases h with ⟨fs, hu, hall, hpl⟩ | ⟨len, e, ei, hu, hei, he1, hpl⟩
  · have hm : (fs.mapM (m := Sem) fun f => do pure (f.offset, ← Go.sizeOf f.type)).run P w = .ok (fs.toList.map fun f => (f.offset, ((P.info? f.type).map (·.size)).getD 0)).toArray w := by
      rw [Array.mapM_eq_mapM_toList]
      simp only [Sem.run_map, run_mapFields fs.toList hall, Result.andThen_ok]
    have hf := fill_parts (place := fun j => (fs.toList.map fun f => (f.offset, ((P.info? f.type).map (·.size)).getD 0)).toArray[j]?) (pl := pl) (fun j hj => by
      have := hpl j hj
      cases hq : fs.toList[j]? with
      | none => simp [hq] at this
      | some f =>
        simp only [hq, Option.map_some, Option.some.injEq, Prod.mk.injEq] at this
        simp [hq, this.1, this.2]) ps z hok
    unfold Instr.build
    simp only [Sem.run_bind, zeroValue, typeInfo, run_program, Result.andThen_ok, hi, Sem.run_pure, hz, run_underlying hu, hm]
    simp only [Value.cells]
    rw [hf]
    rfl
  · have hf := fill_parts (place := fun j => some (j * ei.size, ei.size)) (pl := pl) (fun j hj => by rw [hpl j hj, he1, Nat.mul_one]) ps z hok
    unfold Instr.build
    simp only [Sem.run_bind, zeroValue, typeInfo, run_program, Result.andThen_ok, hi, Sem.run_pure, hz, run_underlying hu, Go.sizeOf, hei]
    simp only [Value.cells]
    rw [hf]
    rfl

theorem X.build {parts : List (Nat × Operand)} {ps : List (Nat × Value)} {pl : List Nat} {z rs : List Value} (hb : Bld P xt pl z) (hps : parts.map (fun p => (p.1, ev σ p.2)) = ps) (hok : okParts pl z.length ps = true)
    (hc : putAll pl z ps = rs) : X P σ w (.build xt parts.toArray) t (.agg rs.toArray) := fun _ _ _ _ => by
  subst hc
  have := run_build (w := w) hb hok
  simp only [execOp]
  have e : (parts.toArray.map fun x => (x.1, ev σ x.2)) = ps.toArray := by rw [← hps]; simp
  simp [e, this]

theorem run_bslice {e : TypeId} {len bytes : Nat} {z : Value} {ps : List (Nat × Value)} (hs : P.underlying t = some (.slice e)) (he : Elem P e 1 z bytes) (h1 : z.oneCell' = true) (hlen : len ≤ 16777216) (hpos : 0 < len)
    (hok : okParts (List.range len) len ps = true) :
    (Instr.buildSlice t len ps.toArray).run P w = .ok (.slice (some ⟨w.heap.size, 0, none⟩) len len) (w.alloc (.cells (putAll (List.range len) (List.replicate len z) ps).toArray e)) := by
  obtain ⟨i, hi, hi1, hz, _⟩ := he
  have hc := cells_of_one h1
  have hr : (Array.range len).map (fun _ => z) = (List.replicate len z).toArray := by
    apply Array.ext
    · simp
    · intro i h1 h2; simp
  have hf := fill_parts (place := fun j => some (j * 1, 1)) (pl := List.range len) (fun j hj => by
    simp at hj; simp [List.getD_eq_getElem?_getD, List.getElem?_range hj]) ps (List.replicate len z) (by simpa using hok)
  unfold Instr.buildSlice
  simp only [Sem.run_bind, run_underlying hs, Result.andThen_ok, Go.sizeOf, typeInfo, run_program, hi, Sem.run_pure, hi1, zeroValue]
  rw [if_neg (by omega), if_neg (by omega)]
  simp only [Sem.run_bind, Sem.run_pure, Result.andThen_ok, hc, run_program, hi, hz, Nat.mul_one]
  simp only [List.size_toArray, List.length_cons, List.length_nil]
  have hr' : (Array.range len).map (fun x => (#[z] : Array Value)[x % (0 + 1)]!) = (List.replicate len z).toArray := by
    rw [← hr]; congr 1; funext x; simp [Nat.mod_one]
  rw [hr']
  simp only [Nat.mul_one] at hf
  rw [hf]
  simp [newRow]

theorem WL.bslice {e : TypeId} {len bytes : Nat} {z : Value} {parts : List (Nat × Operand)} {ps : List (Nat × Value)} {rs : List Value} (hs : P.underlying xt = some (.slice e)) (he : Elem P e 1 z bytes) (h1 : z.oneCell' = true)
    (hps : parts.map (fun p => (p.1, ev σ p.2)) = ps) (hok : (Nat.ble len 16777216 && Nat.blt 0 len && okParts (List.range len) len ps) = true) (hc : putAll (List.range len) (List.replicate len z) ps = rs) (hn : Nat.blt d n = true)
    (h : ∀ w', Nw w w' (.cells rs.toArray e) → WL P n ops Q rest (up σ d (.slice (some ⟨w.heap.size, 0, none⟩) len len)) w') :
    WL P n ops Q (⟨some d, .buildSlice xt len parts.toArray, t, pos, af, none⟩ :: rest) σ w := by
  subst hc
  simp only [Bool.and_eq_true] at hok
  have := run_bslice (w := w) hs he h1 (Nat.le_of_ble_eq_true hok.1.1) (Nat.le_of_ble_eq_true hok.1.2) hok.2
  have e' : (parts.toArray.map fun x => (x.1, ev σ x.2)) = ps.toArray := by rw [← hps]; simp
  refine WL.step (w' := w.alloc (.cells (putAll (List.range len) (List.replicate len z) ps).toArray e)) rfl rfl hn ?_ (h _ (nw_alloc w _))
  simp [execOp, e', this]

/-- x[:h]: the address stays. -/
theorem X.slH {e : TypeId} {z : Value} {bytes size len cap : Nat} {a : Option Addr} {kh : IntKind} {h : Int} {hi : Operand} (hs : P.underlying xt = some (.slice e)) (he : Elem P e size z bytes) (hx : ev σ x = .slice a len cap)
    (h2 : ev σ hi = .int kh h) (g1 : 0 ≤ h) (g2 : h ≤ cap) : X P σ w (.slice xt x none (some hi) none) t (.slice a h.toNat cap) := fun _ _ _ _ => by
  obtain ⟨i, hi', rfl, _⟩ := he
  have hb : (Instr.sliceBounds true len cap none (some (.int kh h)) none).run P w = .ok (0, h.toNat, cap) w := by
    simp [Instr.sliceBounds, run_sliceBound (P := P) w kh h cap _ (by omega) g2]
  have ha : ∀ q : Addr, q.add 0 = q := fun q => rfl
  simp [execOp, hx, h2, Instr.sliceAt, Instr.slice, run_underlying hs, hb, Go.sizeOf, typeInfo, hi', ha]
theorem X.slHM {e : TypeId} {z : Value} {bytes size len cap : Nat} {a : Option Addr} {kh km : IntKind} {h m : Int} {hi mx : Operand} (hs : P.underlying xt = some (.slice e)) (he : Elem P e size z bytes) (hx : ev σ x = .slice a len cap)
    (h2 : ev σ hi = .int kh h) (h3 : ev σ mx = .int km m) (g1 : 0 ≤ h) (g2 : h ≤ m) (g3 : m ≤ cap) : X P σ w (.slice xt x none (some hi) (some mx)) t (.slice a h.toNat m.toNat) := fun _ _ _ _ => by
  obtain ⟨i, hi', rfl, _⟩ := he
  have hb : (Instr.sliceBounds true len cap none (some (.int kh h)) (some (.int km m))).run P w = .ok (0, h.toNat, m.toNat) w := by
    simp [Instr.sliceBounds, run_sliceBound (P := P) w km m cap _ (by omega) g3, run_sliceBound (P := P) w kh h m.toNat _ (by omega) (by omega)]
  have ha : ∀ q : Addr, q.add 0 = q := fun q => rfl
  simp [execOp, hx, h2, h3, Instr.sliceAt, Instr.slice, run_underlying hs, hb, Go.sizeOf, typeInfo, hi', ha]

/-- The slice v reads as l in the world w. -/
def Sl (w : World) (v : Value) (l : List Value) : Prop :=
  (l = [] ∧ ∃ a c, v = .slice a 0 c) ∨ ∃ b o cap cs T fr, v = .slice (some ⟨b, o, none⟩) l.length cap ∧ l.length ≤ cap ∧ w.heap[b]? = some (.cells cs T fr) ∧ ∀ j, j < l.length → cs[o + j]? = l[j]?
def slBlk : Value → Nat → Prop
  | .slice (some a) _ _, k => k = a.block
  | _, _ => False
theorem Sl.ch {F : Nat → Prop} {w w' : World} {l : List Value} (h : Sl w v l) (c : Ch F w w') (hn : ∀ k, slBlk v k → ¬ F k) : Sl w' v l := by
  rcases h with h | ⟨b, o, cap, cs, T, fr, rfl, h1, h2, h3⟩
  · exact .inl h
  · exact .inr ⟨b, o, cap, cs, T, fr, rfl, h1, c.at h2 (hn b rfl), h3⟩
theorem Sl.ch0 {w w' : World} {l : List Value} (h : Sl w v l) (c : Ch0 w w') : Sl w' v l := h.ch c (fun _ _ => id)
theorem Sl.len {w : World} {l : List Value} (h : Sl w v l) : ∃ a cap, v = .slice a l.length cap := by
  rcases h with ⟨rfl, a, c, rfl⟩ | ⟨b, o, cap, cs, T, fr, rfl, _⟩
  · exact ⟨a, c, rfl⟩
  · exact ⟨_, cap, rfl⟩
theorem Sl.at {w : World} {a : Option Addr} {m c : Nat} {l : List Value} (h : Sl w (.slice a m c) l) {k : Nat} (hk : k < l.length) :
    ∃ b o cs T fr, a = some ⟨b, o, none⟩ ∧ w.heap[b]? = some (.cells cs T fr) ∧ ∀ j, j < l.length → cs[o + j]? = l[j]? := by
  rcases h with ⟨rfl, _⟩ | ⟨b, o, cap, cs, T, fr, hv, _, h2, h3⟩
  · simp at hk
  · simp only [Value.slice.injEq] at hv
    exact ⟨b, o, cs, T, fr, hv.1, h2, h3⟩
theorem Sl.own {w : World} {base m : Nat} {e : TypeId} {xs : List Value} (h : w.ownsRow base e 1 v m xs) : Sl w v xs := by
  obtain ⟨hl, h⟩ := h
  rcases h with ⟨rfl, rfl⟩ | ⟨g, cap, cur, rfl, _, hg, hc, _, hs, ht⟩
  · exact .inl ⟨List.eq_nil_of_length_eq_zero (by simpa using hl), _, 0, rfl⟩
  · have hm : xs.length = m := by omega
    subst hm
    refine .inr ⟨g, 0, cap, cur, e, (0, 0), rfl, hc, hg, fun j hj => ?_⟩
    rw [← ht, List.getElem?_take, if_pos (by omega)]
    simp

theorem own_lt {w : World} {base m size : Nat} {e : TypeId} {xs : List Value} (h : w.ownsRow base e size v m xs) {k : Nat} (hk : slBlk v k) : base ≤ k ∧ k < w.heap.size := by
  rcases h.2 with ⟨rfl, _⟩ | ⟨g, cap, cur, rfl, hb, hgg, rest⟩
  · exact hk.elim
  · have : k = g := hk
    subst this
    exact ⟨hb, lt_of_blk hgg⟩
theorem own_ch {F : Nat → Prop} {w w' : World} {base m size : Nat} {e : TypeId} {xs : List Value} (h : w.ownsRow base e size v m xs) (c : Ch F w w') (hn : ∀ k, slBlk v k → ¬ F k) : w'.ownsRow base e size v m xs := by
  refine ⟨h.1, ?_⟩
  rcases h.2 with hn' | ⟨g, cap, cur, rfl, hb, hgg, rest⟩
  · exact .inl hn'
  · exact .inr ⟨g, cap, cur, rfl, hb, c.at hgg (hn g rfl), rest⟩

/-- append(s, x..) where s is a row of the call's own and the new cells stand in a block. -/
theorem WL.append {s : Operand} {ty : TypeId} {e : TypeId} {size bytes base m k c : Nat} {z vs : Value} {xs : List Value} {news : Array Value} (hs : P.underlying xt = some (.slice e)) (he : Elem P e size z bytes) (hz : z.cells.size = size) (h0 : 0 < size)
    (h1 : ev σ s = vs) (h2 : ev σ x = .slice (some ⟨b, 0, none⟩) k c) (hown : w.ownsRow base e size vs m xs) (hm : w.heap[b]? = some (.cells news T fr)) (hl : news.size = k * size) (hone : ∀ u ∈ news.toList, u.oneCell' = true)
    (g1 : m + k ≤ maxLen) (g2 : (m + k) * bytes ≤ 140737488355328) (g3 : base ≤ w.heap.size) (hn : Nat.blt d n = true)
    (h : ∀ v' w', w'.ownsRow base e size v' (m + k) (xs ++ news.toList) → Ch (slBlk vs) w w' → WL P n ops Q rest (up σ d v') w') :
    WL P n ops Q (⟨some d, .call ⟨.builtin .append, #[s, x], #[xt, xt]⟩, ty, pos, af, none⟩ :: rest) σ w := by
  obtain ⟨i, hi, hi1, hzz, hby⟩ := he
  have hnews : ∀ j u, news.toList[j]? = some u → w.cell? ((⟨b, 0, none⟩ : Addr).add j) = some u := by
    intro j u hu
    have hadd : (⟨b, 0, none⟩ : Addr).add j = ⟨b, j, none⟩ := by unfold Addr.add; split <;> simp_all
    rw [hadd]; exact cell_of hm (by simpa using hu)
  obtain ⟨v', w', hr, h3, h4, h5⟩ := run_append_own (P := P) w base xt ty e i z size bytes hs hi hzz hi1 hby hz h0 vs m xs hown ⟨b, 0, none⟩ k c news.toList (by simpa using hl) hnews hone g1 g2 g3
  have hblk : ∀ k, some k ≠ vs.ownBlock ↔ ¬ slBlk vs k := by
    intro k
    rcases hown.2 with ⟨rfl, _⟩ | ⟨g, cap, cur, rfl, _⟩
    · simp [Value.ownBlock, slBlk]
    · simp [Value.ownBlock, slBlk]
  have hch : Ch (slBlk vs) w w' := ⟨h4.os, h4.tape, h4.output, h4.size, fun k hk hn => h4.block k hk ((hblk k).2 hn)⟩
  refine WL.step (w' := w') rfl rfl hn ?_ (h v' w' h3 hch)
  simp [execOp, resolve, invoke, builtin, h1, h2, hr]
end
end Sg
end

section
namespace Sg
open Go
section
variable {P : Program} {n : Nat} {Q : Post} {σ : Env} {w : World} {ops : Array Oper}
theorem WL.split {l : List Oper} {x : Operand} {b : Bool} (hv : ev σ x = .bool b) (ht : b = true → WL P n ops Q l σ w) (hf : b = false → WL P n ops Q l σ w) : WL P n ops Q l σ w := by
  cases b
  · exact hf rfl
  · exact ht rfl
theorem WL.splitp {l : List Oper} {x : Operand} {p : Prop} [Decidable p] (_hv : ev σ x = .bool (decide p)) (ht : p → WL P n ops Q l σ w) (hf : ¬ p → WL P n ops Q l σ w) : WL P n ops Q l σ w := by
  by_cases h : p
  · exact ht h
  · exact hf h
theorem WQ.split {l : List Oper} {K : Env → Prop} {x : Operand} {b : Bool} (hv : ev σ x = .bool b) (ht : b = true → WQ P n ops w K l σ) (hf : b = false → WQ P n ops w K l σ) : WQ P n ops w K l σ := by
  cases b
  · exact hf rfl
  · exact ht rfl
theorem WQ.splitp {l : List Oper} {K : Env → Prop} {x : Operand} {p : Prop} [Decidable p] (_hv : ev σ x = .bool (decide p)) (ht : p → WQ P n ops w K l σ) (hf : ¬ p → WQ P n ops w K l σ) : WQ P n ops w K l σ := by
  by_cases h : p
  · exact ht h
  · exact hf h
theorem W.cndY {c : Operand} {x y : Code} {p : Prop} [Decidable p] (hc : ev σ c = .bool (decide p)) (h : p) (ht : W P n x Q σ w) : W P n (.cond c x y) Q σ w := W.cnd hc (fun _ => ht) (fun hf => absurd h (of_decide_eq_false hf))
theorem W.cndN {c : Operand} {x y : Code} {p : Prop} [Decidable p] (hc : ev σ c = .bool (decide p)) (h : ¬ p) (hf : W P n y Q σ w) : W P n (.cond c x y) Q σ w := W.cnd hc (fun ht => absurd (of_decide_eq_true ht) h) (fun _ => hf)
theorem W.cndBF {c : Operand} {x y : Code} {b : Bool} (hc : ev σ c = .bool b) (h : b = false) (hf : W P n y Q σ w) : W P n (.cond c x y) Q σ w := by subst h; exact W.cndF hc hf
theorem W.ret0 {R : Value → World → Prop} (hg : Nx Q .ret (fun _ w => R (.tuple #[]) w)) (h : R (.tuple #[]) w) : W P n .ret Q σ w := W.ret hg h
theorem W.ret1 {R : Value → World → Prop} {t : Nat} {v : Value} (hg : Nx Q .ret (fun σ w => R (σ t) w)) (h1 : σ t = v) (h : R v w) : W P n .ret Q σ w := W.ret hg (by rw [h1]; exact h)
theorem W.ret2 {R : Value → World → Prop} {t u : Nat} {v1 v2 : Value} (hg : Nx Q .ret (fun σ w => R (.tuple #[σ t, σ u]) w)) (h1 : σ t = v1) (h2 : σ u = v2) (h : R (.tuple #[v1, v2]) w) : W P n .ret Q σ w :=
  W.ret hg (by rw [h1, h2]; exact h)
theorem W.ret3 {R : Value → World → Prop} {t u s : Nat} {v1 v2 v3 : Value} (hg : Nx Q .ret (fun σ w => R (.tuple #[σ t, σ u, σ s]) w)) (h1 : σ t = v1) (h2 : σ u = v2) (h3 : σ s = v3) (h : R (.tuple #[v1, v2, v3]) w) : W P n .ret Q σ w :=
  W.ret hg (by rw [h1, h2, h3]; exact h)
theorem gdrew {K : World → Prop} {m : Nat} (h : ∀ w', w'.heap = w.heap → Ch0 w w' → (∃ m, w' = w.drewN m) → K w') : K (w.drewN m) := h _ rfl (Ch.drew w m) ⟨m, rfl⟩
section qcalls
variable {K : Env → Prop} {rest : List Oper} {f d : Nat} {tys : Array TypeId} {t : TypeId} {pos : String} {af : Array Edge} {v : Value}
theorem WQ.call0 (hc : Callee P f) (hr : ∀ m, Ret P f #[] (w.drewN m) fun v' w' => v' = v ∧ ∃ k, w' = (w.drewN m).drewN k) (hn : Nat.blt d n = true)
    (h : WQ P n ops w K rest (up σ d v)) : WQ P n ops w K (⟨some d, .call ⟨.value (.func f), #[], tys⟩, t, pos, af, none⟩ :: rest) σ :=
  WQ.enter rfl rfl hn (fun _ => exec_call (xs := []) hc rfl) hr h
theorem WQ.call1 {x1 : Operand} {v1 : Value} (hc : Callee P f) (h1 : ev σ x1 = v1) (hr : ∀ m, Ret P f #[v1] (w.drewN m) fun v' w' => v' = v ∧ ∃ k, w' = (w.drewN m).drewN k) (hn : Nat.blt d n = true)
    (h : WQ P n ops w K rest (up σ d v)) : WQ P n ops w K (⟨some d, .call ⟨.value (.func f), #[x1], tys⟩, t, pos, af, none⟩ :: rest) σ :=
  WQ.enter rfl rfl hn (fun _ => exec_call (xs := [x1]) (vs := [v1]) hc (by simp [h1])) hr h
theorem WQ.call2 {x1 x2 : Operand} {v1 v2 : Value} (hc : Callee P f) (h1 : ev σ x1 = v1) (h2 : ev σ x2 = v2) (hr : ∀ m, Ret P f #[v1, v2] (w.drewN m) fun v' w' => v' = v ∧ ∃ k, w' = (w.drewN m).drewN k) (hn : Nat.blt d n = true)
    (h : WQ P n ops w K rest (up σ d v)) : WQ P n ops w K (⟨some d, .call ⟨.value (.func f), #[x1, x2], tys⟩, t, pos, af, none⟩ :: rest) σ :=
  WQ.enter rfl rfl hn (fun _ => exec_call (xs := [x1, x2]) (vs := [v1, v2]) hc (by simp [h1, h2])) hr h
theorem WQ.call3 {x1 x2 x3 : Operand} {v1 v2 v3 : Value} (hc : Callee P f) (h1 : ev σ x1 = v1) (h2 : ev σ x2 = v2) (h3 : ev σ x3 = v3) (hr : ∀ m, Ret P f #[v1, v2, v3] (w.drewN m) fun v' w' => v' = v ∧ ∃ k, w' = (w.drewN m).drewN k) (hn : Nat.blt d n = true)
    (h : WQ P n ops w K rest (up σ d v)) : WQ P n ops w K (⟨some d, .call ⟨.value (.func f), #[x1, x2, x3], tys⟩, t, pos, af, none⟩ :: rest) σ :=
  WQ.enter rfl rfl hn (fun _ => exec_call (xs := [x1, x2, x3]) (vs := [v1, v2, v3]) hc (by simp [h1, h2, h3])) hr h
end qcalls

theorem WL.e0 {K : Env → World → Prop} (hg : Nx Q .normal K)  (h : ∀ σ' : Env, K σ' w) : WL P n ops Q [] σ w := WL.nil hg (h σ)
theorem WQ.e0 {K : Env → Prop}  (h : ∀ σ' : Env, K σ') : WQ P n ops w K [] σ := WQ.nil (h σ)
theorem W.g0 {c : Code}  (h : ∀ σ' : Env, W P n c Q σ' w) : W P n c Q σ w := h σ
theorem WL.e1 {K : Env → World → Prop} (hg : Nx Q .normal K) (t1 : Nat) {v1 : Value} (h1 : ev σ (.tmp t1) = v1) (h : ∀ σ' : Env, σ' t1 = v1 → K σ' w) : WL P n ops Q [] σ w := WL.nil hg (h σ h1)
theorem WQ.e1 {K : Env → Prop} (t1 : Nat) {v1 : Value} (h1 : ev σ (.tmp t1) = v1) (h : ∀ σ' : Env, σ' t1 = v1 → K σ') : WQ P n ops w K [] σ := WQ.nil (h σ h1)
theorem W.g1 {c : Code} (t1 : Nat) {v1 : Value} (h1 : σ t1 = v1) (h : ∀ σ' : Env, σ' t1 = v1 → W P n c Q σ' w) : W P n c Q σ w := h σ h1
theorem WL.e2 {K : Env → World → Prop} (hg : Nx Q .normal K) (t1 t2 : Nat) {v1 v2 : Value} (h1 : ev σ (.tmp t1) = v1) (h2 : ev σ (.tmp t2) = v2) (h : ∀ σ' : Env, σ' t1 = v1 → σ' t2 = v2 → K σ' w) : WL P n ops Q [] σ w := WL.nil hg (h σ h1 h2)
theorem WQ.e2 {K : Env → Prop} (t1 t2 : Nat) {v1 v2 : Value} (h1 : ev σ (.tmp t1) = v1) (h2 : ev σ (.tmp t2) = v2) (h : ∀ σ' : Env, σ' t1 = v1 → σ' t2 = v2 → K σ') : WQ P n ops w K [] σ := WQ.nil (h σ h1 h2)
theorem W.g2 {c : Code} (t1 t2 : Nat) {v1 v2 : Value} (h1 : σ t1 = v1) (h2 : σ t2 = v2) (h : ∀ σ' : Env, σ' t1 = v1 → σ' t2 = v2 → W P n c Q σ' w) : W P n c Q σ w := h σ h1 h2
theorem WL.e3 {K : Env → World → Prop} (hg : Nx Q .normal K) (t1 t2 t3 : Nat) {v1 v2 v3 : Value} (h1 : ev σ (.tmp t1) = v1) (h2 : ev σ (.tmp t2) = v2) (h3 : ev σ (.tmp t3) = v3) (h : ∀ σ' : Env, σ' t1 = v1 → σ' t2 = v2 → σ' t3 = v3 → K σ' w) : WL P n ops Q [] σ w := WL.nil hg (h σ h1 h2 h3)
theorem WQ.e3 {K : Env → Prop} (t1 t2 t3 : Nat) {v1 v2 v3 : Value} (h1 : ev σ (.tmp t1) = v1) (h2 : ev σ (.tmp t2) = v2) (h3 : ev σ (.tmp t3) = v3) (h : ∀ σ' : Env, σ' t1 = v1 → σ' t2 = v2 → σ' t3 = v3 → K σ') : WQ P n ops w K [] σ := WQ.nil (h σ h1 h2 h3)
theorem W.g3 {c : Code} (t1 t2 t3 : Nat) {v1 v2 v3 : Value} (h1 : σ t1 = v1) (h2 : σ t2 = v2) (h3 : σ t3 = v3) (h : ∀ σ' : Env, σ' t1 = v1 → σ' t2 = v2 → σ' t3 = v3 → W P n c Q σ' w) : W P n c Q σ w := h σ h1 h2 h3
theorem WL.e4 {K : Env → World → Prop} (hg : Nx Q .normal K) (t1 t2 t3 t4 : Nat) {v1 v2 v3 v4 : Value} (h1 : ev σ (.tmp t1) = v1) (h2 : ev σ (.tmp t2) = v2) (h3 : ev σ (.tmp t3) = v3) (h4 : ev σ (.tmp t4) = v4) (h : ∀ σ' : Env, σ' t1 = v1 → σ' t2 = v2 → σ' t3 = v3 → σ' t4 = v4 → K σ' w) : WL P n ops Q [] σ w := WL.nil hg (h σ h1 h2 h3 h4)
theorem WQ.e4 {K : Env → Prop} (t1 t2 t3 t4 : Nat) {v1 v2 v3 v4 : Value} (h1 : ev σ (.tmp t1) = v1) (h2 : ev σ (.tmp t2) = v2) (h3 : ev σ (.tmp t3) = v3) (h4 : ev σ (.tmp t4) = v4) (h : ∀ σ' : Env, σ' t1 = v1 → σ' t2 = v2 → σ' t3 = v3 → σ' t4 = v4 → K σ') : WQ P n ops w K [] σ := WQ.nil (h σ h1 h2 h3 h4)
theorem W.g4 {c : Code} (t1 t2 t3 t4 : Nat) {v1 v2 v3 v4 : Value} (h1 : σ t1 = v1) (h2 : σ t2 = v2) (h3 : σ t3 = v3) (h4 : σ t4 = v4) (h : ∀ σ' : Env, σ' t1 = v1 → σ' t2 = v2 → σ' t3 = v3 → σ' t4 = v4 → W P n c Q σ' w) : W P n c Q σ w := h σ h1 h2 h3 h4
theorem WL.e5 {K : Env → World → Prop} (hg : Nx Q .normal K) (t1 t2 t3 t4 t5 : Nat) {v1 v2 v3 v4 v5 : Value} (h1 : ev σ (.tmp t1) = v1) (h2 : ev σ (.tmp t2) = v2) (h3 : ev σ (.tmp t3) = v3) (h4 : ev σ (.tmp t4) = v4) (h5 : ev σ (.tmp t5) = v5) (h : ∀ σ' : Env, σ' t1 = v1 → σ' t2 = v2 → σ' t3 = v3 → σ' t4 = v4 → σ' t5 = v5 → K σ' w) : WL P n ops Q [] σ w := WL.nil hg (h σ h1 h2 h3 h4 h5)
theorem WQ.e5 {K : Env → Prop} (t1 t2 t3 t4 t5 : Nat) {v1 v2 v3 v4 v5 : Value} (h1 : ev σ (.tmp t1) = v1) (h2 : ev σ (.tmp t2) = v2) (h3 : ev σ (.tmp t3) = v3) (h4 : ev σ (.tmp t4) = v4) (h5 : ev σ (.tmp t5) = v5) (h : ∀ σ' : Env, σ' t1 = v1 → σ' t2 = v2 → σ' t3 = v3 → σ' t4 = v4 → σ' t5 = v5 → K σ') : WQ P n ops w K [] σ := WQ.nil (h σ h1 h2 h3 h4 h5)
theorem W.g5 {c : Code} (t1 t2 t3 t4 t5 : Nat) {v1 v2 v3 v4 v5 : Value} (h1 : σ t1 = v1) (h2 : σ t2 = v2) (h3 : σ t3 = v3) (h4 : σ t4 = v4) (h5 : σ t5 = v5) (h : ∀ σ' : Env, σ' t1 = v1 → σ' t2 = v2 → σ' t3 = v3 → σ' t4 = v4 → σ' t5 = v5 → W P n c Q σ' w) : W P n c Q σ w := h σ h1 h2 h3 h4 h5
theorem WL.e6 {K : Env → World → Prop} (hg : Nx Q .normal K) (t1 t2 t3 t4 t5 t6 : Nat) {v1 v2 v3 v4 v5 v6 : Value} (h1 : ev σ (.tmp t1) = v1) (h2 : ev σ (.tmp t2) = v2) (h3 : ev σ (.tmp t3) = v3) (h4 : ev σ (.tmp t4) = v4) (h5 : ev σ (.tmp t5) = v5) (h6 : ev σ (.tmp t6) = v6) (h : ∀ σ' : Env, σ' t1 = v1 → σ' t2 = v2 → σ' t3 = v3 → σ' t4 = v4 → σ' t5 = v5 → σ' t6 = v6 → K σ' w) : WL P n ops Q [] σ w := WL.nil hg (h σ h1 h2 h3 h4 h5 h6)
theorem WQ.e6 {K : Env → Prop} (t1 t2 t3 t4 t5 t6 : Nat) {v1 v2 v3 v4 v5 v6 : Value} (h1 : ev σ (.tmp t1) = v1) (h2 : ev σ (.tmp t2) = v2) (h3 : ev σ (.tmp t3) = v3) (h4 : ev σ (.tmp t4) = v4) (h5 : ev σ (.tmp t5) = v5) (h6 : ev σ (.tmp t6) = v6) (h : ∀ σ' : Env, σ' t1 = v1 → σ' t2 = v2 → σ' t3 = v3 → σ' t4 = v4 → σ' t5 = v5 → σ' t6 = v6 → K σ') : WQ P n ops w K [] σ := WQ.nil (h σ h1 h2 h3 h4 h5 h6)
theorem W.g6 {c : Code} (t1 t2 t3 t4 t5 t6 : Nat) {v1 v2 v3 v4 v5 v6 : Value} (h1 : σ t1 = v1) (h2 : σ t2 = v2) (h3 : σ t3 = v3) (h4 : σ t4 = v4) (h5 : σ t5 = v5) (h6 : σ t6 = v6) (h : ∀ σ' : Env, σ' t1 = v1 → σ' t2 = v2 → σ' t3 = v3 → σ' t4 = v4 → σ' t5 = v5 → σ' t6 = v6 → W P n c Q σ' w) : W P n c Q σ w := h σ h1 h2 h3 h4 h5 h6
theorem WL.e7 {K : Env → World → Prop} (hg : Nx Q .normal K) (t1 t2 t3 t4 t5 t6 t7 : Nat) {v1 v2 v3 v4 v5 v6 v7 : Value} (h1 : ev σ (.tmp t1) = v1) (h2 : ev σ (.tmp t2) = v2) (h3 : ev σ (.tmp t3) = v3) (h4 : ev σ (.tmp t4) = v4) (h5 : ev σ (.tmp t5) = v5) (h6 : ev σ (.tmp t6) = v6) (h7 : ev σ (.tmp t7) = v7) (h : ∀ σ' : Env, σ' t1 = v1 → σ' t2 = v2 → σ' t3 = v3 → σ' t4 = v4 → σ' t5 = v5 → σ' t6 = v6 → σ' t7 = v7 → K σ' w) : WL P n ops Q [] σ w := WL.nil hg (h σ h1 h2 h3 h4 h5 h6 h7)
theorem WQ.e7 {K : Env → Prop} (t1 t2 t3 t4 t5 t6 t7 : Nat) {v1 v2 v3 v4 v5 v6 v7 : Value} (h1 : ev σ (.tmp t1) = v1) (h2 : ev σ (.tmp t2) = v2) (h3 : ev σ (.tmp t3) = v3) (h4 : ev σ (.tmp t4) = v4) (h5 : ev σ (.tmp t5) = v5) (h6 : ev σ (.tmp t6) = v6) (h7 : ev σ (.tmp t7) = v7) (h : ∀ σ' : Env, σ' t1 = v1 → σ' t2 = v2 → σ' t3 = v3 → σ' t4 = v4 → σ' t5 = v5 → σ' t6 = v6 → σ' t7 = v7 → K σ') : WQ P n ops w K [] σ := WQ.nil (h σ h1 h2 h3 h4 h5 h6 h7)
theorem W.g7 {c : Code} (t1 t2 t3 t4 t5 t6 t7 : Nat) {v1 v2 v3 v4 v5 v6 v7 : Value} (h1 : σ t1 = v1) (h2 : σ t2 = v2) (h3 : σ t3 = v3) (h4 : σ t4 = v4) (h5 : σ t5 = v5) (h6 : σ t6 = v6) (h7 : σ t7 = v7) (h : ∀ σ' : Env, σ' t1 = v1 → σ' t2 = v2 → σ' t3 = v3 → σ' t4 = v4 → σ' t5 = v5 → σ' t6 = v6 → σ' t7 = v7 → W P n c Q σ' w) : W P n c Q σ w := h σ h1 h2 h3 h4 h5 h6 h7
theorem WL.e8 {K : Env → World → Prop} (hg : Nx Q .normal K) (t1 t2 t3 t4 t5 t6 t7 t8 : Nat) {v1 v2 v3 v4 v5 v6 v7 v8 : Value} (h1 : ev σ (.tmp t1) = v1) (h2 : ev σ (.tmp t2) = v2) (h3 : ev σ (.tmp t3) = v3) (h4 : ev σ (.tmp t4) = v4) (h5 : ev σ (.tmp t5) = v5) (h6 : ev σ (.tmp t6) = v6) (h7 : ev σ (.tmp t7) = v7) (h8 : ev σ (.tmp t8) = v8) (h : ∀ σ' : Env, σ' t1 = v1 → σ' t2 = v2 → σ' t3 = v3 → σ' t4 = v4 → σ' t5 = v5 → σ' t6 = v6 → σ' t7 = v7 → σ' t8 = v8 → K σ' w) : WL P n ops Q [] σ w := WL.nil hg (h σ h1 h2 h3 h4 h5 h6 h7 h8)
theorem WQ.e8 {K : Env → Prop} (t1 t2 t3 t4 t5 t6 t7 t8 : Nat) {v1 v2 v3 v4 v5 v6 v7 v8 : Value} (h1 : ev σ (.tmp t1) = v1) (h2 : ev σ (.tmp t2) = v2) (h3 : ev σ (.tmp t3) = v3) (h4 : ev σ (.tmp t4) = v4) (h5 : ev σ (.tmp t5) = v5) (h6 : ev σ (.tmp t6) = v6) (h7 : ev σ (.tmp t7) = v7) (h8 : ev σ (.tmp t8) = v8) (h : ∀ σ' : Env, σ' t1 = v1 → σ' t2 = v2 → σ' t3 = v3 → σ' t4 = v4 → σ' t5 = v5 → σ' t6 = v6 → σ' t7 = v7 → σ' t8 = v8 → K σ') : WQ P n ops w K [] σ := WQ.nil (h σ h1 h2 h3 h4 h5 h6 h7 h8)
theorem WL.e9 {K : Env → World → Prop} (hg : Nx Q .normal K) (t1 t2 t3 t4 t5 t6 t7 t8 t9 : Nat) {v1 v2 v3 v4 v5 v6 v7 v8 v9 : Value} (h1 : ev σ (.tmp t1) = v1) (h2 : ev σ (.tmp t2) = v2) (h3 : ev σ (.tmp t3) = v3) (h4 : ev σ (.tmp t4) = v4) (h5 : ev σ (.tmp t5) = v5) (h6 : ev σ (.tmp t6) = v6) (h7 : ev σ (.tmp t7) = v7) (h8 : ev σ (.tmp t8) = v8) (h9 : ev σ (.tmp t9) = v9) (h : ∀ σ' : Env, σ' t1 = v1 → σ' t2 = v2 → σ' t3 = v3 → σ' t4 = v4 → σ' t5 = v5 → σ' t6 = v6 → σ' t7 = v7 → σ' t8 = v8 → σ' t9 = v9 → K σ' w) : WL P n ops Q [] σ w := WL.nil hg (h σ h1 h2 h3 h4 h5 h6 h7 h8 h9)
theorem WQ.e9 {K : Env → Prop} (t1 t2 t3 t4 t5 t6 t7 t8 t9 : Nat) {v1 v2 v3 v4 v5 v6 v7 v8 v9 : Value} (h1 : ev σ (.tmp t1) = v1) (h2 : ev σ (.tmp t2) = v2) (h3 : ev σ (.tmp t3) = v3) (h4 : ev σ (.tmp t4) = v4) (h5 : ev σ (.tmp t5) = v5) (h6 : ev σ (.tmp t6) = v6) (h7 : ev σ (.tmp t7) = v7) (h8 : ev σ (.tmp t8) = v8) (h9 : ev σ (.tmp t9) = v9) (h : ∀ σ' : Env, σ' t1 = v1 → σ' t2 = v2 → σ' t3 = v3 → σ' t4 = v4 → σ' t5 = v5 → σ' t6 = v6 → σ' t7 = v7 → σ' t8 = v8 → σ' t9 = v9 → K σ') : WQ P n ops w K [] σ := WQ.nil (h σ h1 h2 h3 h4 h5 h6 h7 h8 h9)
theorem WL.e10 {K : Env → World → Prop} (hg : Nx Q .normal K) (t1 t2 t3 t4 t5 t6 t7 t8 t9 t10 : Nat) {v1 v2 v3 v4 v5 v6 v7 v8 v9 v10 : Value} (h1 : ev σ (.tmp t1) = v1) (h2 : ev σ (.tmp t2) = v2) (h3 : ev σ (.tmp t3) = v3) (h4 : ev σ (.tmp t4) = v4) (h5 : ev σ (.tmp t5) = v5) (h6 : ev σ (.tmp t6) = v6) (h7 : ev σ (.tmp t7) = v7) (h8 : ev σ (.tmp t8) = v8) (h9 : ev σ (.tmp t9) = v9) (h10 : ev σ (.tmp t10) = v10) (h : ∀ σ' : Env, σ' t1 = v1 → σ' t2 = v2 → σ' t3 = v3 → σ' t4 = v4 → σ' t5 = v5 → σ' t6 = v6 → σ' t7 = v7 → σ' t8 = v8 → σ' t9 = v9 → σ' t10 = v10 → K σ' w) : WL P n ops Q [] σ w := WL.nil hg (h σ h1 h2 h3 h4 h5 h6 h7 h8 h9 h10)
theorem WQ.e10 {K : Env → Prop} (t1 t2 t3 t4 t5 t6 t7 t8 t9 t10 : Nat) {v1 v2 v3 v4 v5 v6 v7 v8 v9 v10 : Value} (h1 : ev σ (.tmp t1) = v1) (h2 : ev σ (.tmp t2) = v2) (h3 : ev σ (.tmp t3) = v3) (h4 : ev σ (.tmp t4) = v4) (h5 : ev σ (.tmp t5) = v5) (h6 : ev σ (.tmp t6) = v6) (h7 : ev σ (.tmp t7) = v7) (h8 : ev σ (.tmp t8) = v8) (h9 : ev σ (.tmp t9) = v9) (h10 : ev σ (.tmp t10) = v10) (h : ∀ σ' : Env, σ' t1 = v1 → σ' t2 = v2 → σ' t3 = v3 → σ' t4 = v4 → σ' t5 = v5 → σ' t6 = v6 → σ' t7 = v7 → σ' t8 = v8 → σ' t9 = v9 → σ' t10 = v10 → K σ') : WQ P n ops w K [] σ := WQ.nil (h σ h1 h2 h3 h4 h5 h6 h7 h8 h9 h10)
theorem WL.e11 {K : Env → World → Prop} (hg : Nx Q .normal K) (t1 t2 t3 t4 t5 t6 t7 t8 t9 t10 t11 : Nat) {v1 v2 v3 v4 v5 v6 v7 v8 v9 v10 v11 : Value} (h1 : ev σ (.tmp t1) = v1) (h2 : ev σ (.tmp t2) = v2) (h3 : ev σ (.tmp t3) = v3) (h4 : ev σ (.tmp t4) = v4) (h5 : ev σ (.tmp t5) = v5) (h6 : ev σ (.tmp t6) = v6) (h7 : ev σ (.tmp t7) = v7) (h8 : ev σ (.tmp t8) = v8) (h9 : ev σ (.tmp t9) = v9) (h10 : ev σ (.tmp t10) = v10) (h11 : ev σ (.tmp t11) = v11) (h : ∀ σ' : Env, σ' t1 = v1 → σ' t2 = v2 → σ' t3 = v3 → σ' t4 = v4 → σ' t5 = v5 → σ' t6 = v6 → σ' t7 = v7 → σ' t8 = v8 → σ' t9 = v9 → σ' t10 = v10 → σ' t11 = v11 → K σ' w) : WL P n ops Q [] σ w := WL.nil hg (h σ h1 h2 h3 h4 h5 h6 h7 h8 h9 h10 h11)
theorem WQ.e11 {K : Env → Prop} (t1 t2 t3 t4 t5 t6 t7 t8 t9 t10 t11 : Nat) {v1 v2 v3 v4 v5 v6 v7 v8 v9 v10 v11 : Value} (h1 : ev σ (.tmp t1) = v1) (h2 : ev σ (.tmp t2) = v2) (h3 : ev σ (.tmp t3) = v3) (h4 : ev σ (.tmp t4) = v4) (h5 : ev σ (.tmp t5) = v5) (h6 : ev σ (.tmp t6) = v6) (h7 : ev σ (.tmp t7) = v7) (h8 : ev σ (.tmp t8) = v8) (h9 : ev σ (.tmp t9) = v9) (h10 : ev σ (.tmp t10) = v10) (h11 : ev σ (.tmp t11) = v11) (h : ∀ σ' : Env, σ' t1 = v1 → σ' t2 = v2 → σ' t3 = v3 → σ' t4 = v4 → σ' t5 = v5 → σ' t6 = v6 → σ' t7 = v7 → σ' t8 = v8 → σ' t9 = v9 → σ' t10 = v10 → σ' t11 = v11 → K σ') : WQ P n ops w K [] σ := WQ.nil (h σ h1 h2 h3 h4 h5 h6 h7 h8 h9 h10 h11)
end
end Sg
end

section
namespace Sg
open Go Go.RowKit

/-- A row of cells with some written over. -/
def blit (cs : Array Value) (o : Nat) (vs : List Value) : Array Value := (cs.toList.take o ++ vs ++ cs.toList.drop (o + vs.length)).toArray

section
variable {P : Program} {n : Nat} {Q : Post} {σ : Env} {w : World} {ops : Array Oper} {rest : List Oper}
variable {d : Nat} {t xt : TypeId} {pos : String} {af : Array Edge} {v : Value} {x y : Operand} {b o : Nat} {cs : Array Value} {T : TypeId} {fr : Nat × Nat}

theorem st_setRow {w : World} {b : Nat} {cs cs' : Array Value} {T : TypeId} (h : w.heap[b]? = some (.cells cs T (0, 0))) : St w (w.setRow b cs') b (.cells cs' T (0, 0)) :=
  ⟨setRow_heap w b cs cs' T _ h, ⟨rfl, rfl, rfl, by simp, fun k _ hn => setRow_other w b k cs' (fun e => hn e)⟩, by simp⟩

theorem WL.storeS {k : Nat} {vs : List Value} (ha : Aggr P xt k) (hx : ev σ x = .pointer (some ⟨b, o, none⟩)) (hy : ev σ y = .agg vs.toArray) (h1 : vs.all (·.oneCell') = true) (hk : vs.length = k) (hm : w.heap[b]? = some (.cells cs T (0, 0)))
    (hc : o + k ≤ cs.size) (h : ∀ w', St w w' b (.cells (blit cs o vs) T (0, 0)) → WL P n ops Q rest σ w') : WL P n ops Q (⟨none, .store xt x y, t, pos, af, none⟩ :: rest) σ w := by
  subst hk
  obtain ⟨_, i, hi, hi1⟩ := ha
  refine WL.skp (w' := w.setRow b (blit cs o vs)) rfl rfl ?_ (h _ (st_setRow hm))
  have hst := run_storeCells_at P b o T vs 0 cs w hm (by simpa using hc) (by simpa using h1)
  simp only [Nat.add_zero] at hst
  simp [execOp, hx, hy, Instr.storeAt, Instr.sureAddr, storeVar, Value.cells, Go.sizeOf, typeInfo, hi, hi1, hst, blit]

theorem X.indexAddrA {e : TypeId} {size bytes len : Nat} {z : Value} {k : IntKind} {p : Int} (hs : P.underlying xt = some (.array len e)) (he : Elem P e size z bytes) (hx : ev σ x = .pointer (some ⟨b, o, none⟩))
    (hy : ev σ y = .int k p) (h0 : 0 ≤ p) (h1 : p < len) : X P σ w (.indexAddr xt x y) t (.pointer (some ⟨b, o + p.toNat * size, none⟩)) := fun _ _ _ _ => by
  obtain ⟨i, hi, rfl, _⟩ := he
  simp [execOp, hx, hy, Instr.indexAt, Instr.sureAddr, asIntOf, run_underlying hs, Go.sizeOf, typeInfo, hi, h0, h1, Addr.add]
inductive Rs (P : Program) (σ : Env) (w : World) : List ResultVar → List Value → Prop where
  | nil : Rs P σ w [] []
  | tmp {t : Nat} {v : Value} {rs : List ResultVar} {vs : List Value} : σ t = v → Rs P σ w rs vs → Rs P σ w (.tmp t :: rs) (v :: vs)
  | cell {a ty b : Nat} {cs : Array Value} {T : TypeId} {fr : Nat × Nat} {rs : List ResultVar} {vs : List Value} : σ a = .pointer (some ⟨b, 0, none⟩) → w.heap[b]? = some (.cells cs T fr) → Aggr P ty cs.size → Rs P σ w rs vs → Rs P σ w (.cell a ty :: rs) (.agg cs :: vs)
  | cell1 {a ty b : Nat} {cs : Array Value} {T : TypeId} {fr : Nat × Nat} {v : Value} {rs : List ResultVar} {vs : List Value} : σ a = .pointer (some ⟨b, 0, none⟩) → Plain P ty → w.heap[b]? = some (.cells cs T fr) → cs[0]? = some v → Rs P σ w rs vs → Rs P σ w (.cell a ty :: rs) (v :: vs)
def oneOf : List Value → Value
  | [v] => v
  | vs => .tuple vs.toArray
def finG (P : Program) (rs : List ResultVar) (R : Value → World → Prop) : Post
  | .normal, σ, w | .ret, σ, w => ∃ vs, Rs P σ w rs vs ∧ R (oneOf vs) w
  | _, _, _ => False
theorem Nx.fG {rs : List ResultVar} {R : Value → World → Prop} : Nx (finG P rs R) .ret (fun σ w => ∃ vs, Rs P σ w rs vs ∧ R (oneOf vs) w) := fun _ _ h => h

def resS (σ : Env) : ResultVar → Sem Value
  | .tmp t => pure (σ t)
  | .cell p t => do loadVar t (← asAddr (σ p))
theorem run_results {rs : List ResultVar} {vs : List Value} (h : Rs P σ w rs vs) : (rs.mapM (m := Sem) (resS σ)).run P w = .ok vs w := by
  induction h with
  | nil => rfl
  | tmp h1 _ ih => simp only [List.mapM_cons, Sem.run_bind, ih, resS, h1, Sem.run_pure, Result.andThen_ok]
  | cell h1 h3 h2 _ ih =>
    rename_i p ty b cs T fr rs vs _
    have hcells : (loadCells ⟨b, 0, none⟩ cs.size).run P w = .ok cs w := by
      have := run_loadCells_list (P := P) w ⟨b, 0, none⟩ cs.toList (by
        intro j u hu
        have hadd : (⟨b, 0, none⟩ : Addr).add j = ⟨b, j, none⟩ := by unfold Addr.add; split <;> simp_all
        rw [hadd]; exact cell_of h3 (by simpa using hu))
      simpa using this
    have hag := run_isAgg_aggr (w := w) h2
    obtain ⟨_, i, hi, hsz⟩ := h2
    have h0 : (resS σ (.cell p ty)).run P w = .ok (.agg cs) w := by
      simp [resS, h1, asAddr, loadVar, hag, Go.sizeOf, typeInfo, hi, hsz, hcells]
    simp only [List.mapM_cons, Sem.run_bind, h0, Result.andThen_ok, ih, Sem.run_pure]
  | cell1 h1 h2 h3 h4 _ ih =>
    rename_i p ty b cs T fr v rs vs _
    have h0 : (resS σ (.cell p ty)).run P w = .ok v w := by
      simp [resS, h1, asAddr, loadVar, run_isAgg_plain h2, cell_of h3 h4]
    simp only [List.mapM_cons, Sem.run_bind, h0, Result.andThen_ok, ih, Sem.run_pure]

theorem enterG {f : Nat} {fn : Func} {c : Code} {l : List Value} {R : Value → World → Prop} {rs : List ResultVar} (hf : P.funcs[f]? = some fn) (hb : fn.body = some c) (hm : fn.ntmps = n) (hl : Nat.ble l.length n = true) (hr : fn.results = rs.toArray)
    (h : W P n c (finG P rs R) (env0 l) w) : Ret P f l.toArray w R := by
  refine enter_fin _ hf hb hm hl ?_ h
  intro e a σ w hs hq
  have key : (∃ vs, Rs P σ w rs vs ∧ R (oneOf vs) w) → ∃ v, (results fn a.tmps).run P w = .ok v w ∧ ∃ v', Ending.returned v = .returned v' ∧ R v' w := by
    rintro ⟨vs, hv, hR⟩
    refine ⟨oneOf vs, ?_, _, rfl, hR⟩
    have hm := run_results hv
    have hfun : results fn a.tmps = (do let vs ← fn.results.mapM (m := Sem) (resS σ); pure (if h : vs.size = 1 then vs[0] else .tuple vs)) := by
      unfold results
      congr 1
      congr 1
      funext r
      cases r <;> simp only [resS, hs.get]
    rw [hfun, hr, Array.mapM_eq_mapM_toList]
    simp only [Sem.run_bind, Sem.run_map, hm, Result.andThen_ok, Sem.run_pure]
    congr 1
    match vs with
    | [] => rfl
    | [v] => rfl
    | _ :: _ :: _ => rfl
  cases e <;> first | exact hq.elim | exact ⟨hs.defers, key hq⟩
theorem W.retG {K : Env → World → Prop} (hg : Nx Q .ret K) (h : K σ w) : W P n .ret Q σ w := W.ret hg h

end
end Sg
end

section
namespace Sg
open Go Go.RowKit

/-- Some draws, and nothing else. -/
def Dr (w w' : World) : Prop := ∃ m, w' = w.drewN m
theorem Dr.refl (w : World) : Dr w w := ⟨0, rfl⟩
theorem Dr.trans {a b c : World} (h : Dr a b) (k : Dr b c) : Dr a c := by
  obtain ⟨m, rfl⟩ := h; obtain ⟨m', rfl⟩ := k; exact ⟨m + m', by rw [World.drewN_drewN]⟩
theorem Dr.ch0 {w w' : World} (h : Dr w w') : Ch0 w w' := by obtain ⟨m, rfl⟩ := h; exact Ch.drew w m
theorem Dr.ch {F : Nat → Prop} {w w' : World} (h : Dr w w') : Ch F w w' := Ch.weak h.ch0
section
variable {P : Program} {n : Nat} {Q : Post} {σ : Env} {w : World} {ops : Array Oper} {S : World → Prop}

def WH (P : Program) (n : Nat) (ops : Array Oper) (S : World → Prop) (Q : Post) (fuel : Nat) (listed : Array Bool) (σ : Env) (w : World) : Prop :=
  ∀ a, Sees a n σ → wpAnyH P .any ops (fun e a' w' => ∃ σ', Sees a' n σ' ∧ Q e σ' w') S fuel listed a w

theorem W.held {id : Nat} {l : List Oper} (S : World → Prop) (hm : P.follows .mixedOrders = true) (h : ∀ w1, w1.heap = w.heap → Ch0 w w1 → WH P n l.toArray S Q l.length (Array.replicate l.length false) σ w1) : W P n (.region id l.toArray true) Q σ w := by
  intro a ha
  refine wp_region_held (S := S) hm ?_
  have := h { w with drawn := w.drawn + 1 } rfl (Ch.drew w 1) a ha
  simpa using this

/-- The operation's guard lets it by (true), or does not. -/
def Gd (n : Nat) (ops : Array Oper) (σ : Env) (g : Option (Nat × Bool)) (r : Bool) : Prop :=
  ∀ a, Sees a n σ → ∀ dst op t pos af, Region.wanted (⟨dst, op, t, pos, af, g⟩ : Oper) (yielded ops a.tmps) = r
theorem Gd.none : Gd n ops σ none true := fun _ _ _ _ _ _ _ => rfl
theorem Gd.yes {j dj : Nat} {want b : Bool} (hj : (ops[j]?).bind (·.dst) = some dj) (hn : Nat.blt dj n = true) (hv : ev σ (.tmp dj) = .bool b) (hb : b = want) : Gd n ops σ (some (j, want)) true := by
  intro a ha _ _ _ _ _
  have hy := ha.yielded hj hn hv
  simp [Region.wanted, hy, hb]
theorem Gd.no {j dj : Nat} {want b : Bool} (hj : (ops[j]?).bind (·.dst) = some dj) (hn : Nat.blt dj n = true) (hv : ev σ (.tmp dj) = .bool b) (hb : b = !want) : Gd n ops σ (some (j, want)) false := by
  intro a ha _ _ _ _ _
  have hy := ha.yielded hj hn hv
  simp [Region.wanted, hy, hb]
theorem Gd.nou {j dj : Nat} {want : Bool} (hj : (ops[j]?).bind (·.dst) = some dj) (hv : ev σ (.tmp dj) = undef) : Gd n ops σ (some (j, want)) false := by
  intro a ha _ _ _ _ _
  have hy := ha.yieldedU hj hv
  simp [Region.wanted, hy]

variable {d : Nat} {op : Op} {t : TypeId} {pos : String} {af : Array Edge} {g : Option (Nat × Bool)} {v : Value} {fuel i : Nat} {listed : Array Bool}
theorem WH.take (i : Nat) (hi : ops[i]? = some ⟨some d, op, t, pos, af, g⟩) (hs : Region.noSelect ops = true) (hf : Region.free .any ops listed i = true) (hr : (Region.ready .any ops listed).contains i = true)
    (hnp : ∀ c σ w, Q (.panic c) σ w → False) (hg : Gd n ops σ g true) (hn : Nat.blt d n = true) (hx : ∀ w', S w' → X P σ w' op t v) (hS : S w)
    (h : WH P n ops S Q fuel (listed.setIfInBounds i true) (up σ d v) w) : WH P n ops S Q (fuel + 1) listed σ w := by
  intro a ha
  refine wpAnyH_take (v := v) hi hs hf hr (fun c a w ⟨σ', _, hq⟩ => (hnp c σ' w hq).elim) (.inl ⟨hg a ha _ _ _ _ _, fun w' hw' => ?_⟩) hS (h _ (ha.put hn))
  rw [ha.eval]; exact hx w' hw' _ _ _ _
theorem WH.pass (i : Nat) (hi : ops[i]? = some ⟨some d, op, t, pos, af, g⟩) (hs : Region.noSelect ops = true) (hf : Region.free .any ops listed i = true) (hr : (Region.ready .any ops listed).contains i = true)
    (hnp : ∀ c σ w, Q (.panic c) σ w → False) (hg : Gd n ops σ g false) (hn : Nat.blt d n = true) (hS : S w)
    (h : WH P n ops S Q fuel (listed.setIfInBounds i true) (up σ d undef) w) : WH P n ops S Q (fuel + 1) listed σ w := by
  intro a ha
  exact wpAnyH_take (v := undef) hi hs hf hr (fun c a w ⟨σ', _, hq⟩ => (hnp c σ' w hq).elim) (.inr ⟨hg a ha _ _ _ _ _, rfl⟩) hS (h _ (ha.put hn))

theorem wpOp_of_wpList {Q' : Exit → Act → World → Prop} {K : Act → World → Prop} {o : Oper} {a : Act} {w : World} (hi : ops[i]? = some o)
    (h : wpList P ops (fun e a w => match e with | .normal => K a w | e => Q' e a w) [o] a w) (hout : ∀ a w, Q' .outgrown a w → False) : wpOp P ops Q' i K a w := by
  unfold wpOp
  simp only [hi]
  unfold wpList at h
  have hupon : ∀ {r : Result Next}, o.upon P a (wpList P ops (fun e a w => match e with | .normal => K a w | e => Q' e a w) []) (fun e a w => match e with | .normal => K a w | e => Q' e a w) r → o.upon P a K Q' r := by
    intro r hr
    cases r with
    | ok m w' =>
      cases m <;> simp only [Oper.upon] at hr ⊢ <;> exact hr
    | halt x w' => cases x <;> simp only [Oper.upon] at hr ⊢ <;> exact hr
  split
  · rename_i hw
    rw [if_pos hw] at h
    rcases h with h | ⟨ha, a₀, w₀, hl⟩
    · exact .inl (hupon h)
    · exact (hout a₀ w₀ hl).elim
  · rename_i hw
    rw [if_neg hw] at h
    exact h

theorem upon_mono {o : Oper} {a : Act} {K K' : Act → World → Prop} {Q' Q'' : Exit → Act → World → Prop} (hK : ∀ a w, K a w → K' a w) (hQ : ∀ e a w, Q' e a w → Q'' e a w) {r : Result Next} (hr : o.upon P a K Q' r) : o.upon P a K' Q'' r := by
  have hl : LetsOut Q' → LetsOut Q'' := fun ⟨a, w, h⟩ => ⟨a, w, hQ _ _ _ h⟩
  cases r with
  | ok m w' =>
    cases m <;> simp only [Oper.upon] at hr ⊢ <;> first | exact hK _ _ hr | exact Calls.mono hr (fun e w'' he => by cases e <;> first | exact hK _ _ he | exact hQ _ _ _ he | exact hl he) | exact Rows.mono hr (fun _ _ he => hK _ _ he)
  | halt x w' => cases x <;> simp only [Oper.upon] at hr ⊢ <;> exact hQ _ _ _ hr
theorem wpList_mono {Q' Q'' : Exit → Act → World → Prop} (hQ : ∀ e a w, Q' e a w → Q'' e a w) : ∀ (l : List Oper) (a : Act) (w : World), wpList P ops Q' l a w → wpList P ops Q'' l a w
  | [], a, w, h => hQ _ _ _ h
  | o :: l, a, w, h => by
    unfold wpList at h ⊢
    split
    · rename_i hw
      rw [if_pos hw] at h
      rcases h with h | ⟨ha, a₀, w₀, hl⟩
      · exact .inl (upon_mono (fun a w => wpList_mono hQ l a w) hQ h)
      · exact .inr ⟨ha, a₀, w₀, hQ _ _ _ hl⟩
    · rename_i hw
      rw [if_neg hw] at h
      exact wpList_mono hQ l _ _ h

/-- It is this one's turn, and nobody else's. -/
theorem WH.one (i : Nat) {o : Oper} (hi : ops[i]? = some o) (hr : Region.ready .any ops listed = [i]) (hno : ∀ σ w, Q .outgrown σ w → False)
    (h : WL P n ops (thn (fun σ' w' => S w' ∧ WH P n ops S Q fuel (listed.setIfInBounds i true) σ' w') Q) [o] σ w) : WH P n ops S Q (fuel + 1) listed σ w := by
  intro a ha
  refine wpAnyH_all hr (by simp) ?_
  intro j hj
  obtain rfl : j = i := by simpa using hj
  refine wpOp_of_wpList hi ?_ (fun a w ⟨σ', _, hq⟩ => hno σ' w hq)
  have := h a ha
  refine wpList_mono ?_ _ _ _ this
  rintro e a' w' ⟨σ', hs, hq⟩
  cases e with
  | normal => exact ⟨hq.1, hq.2 a' hs⟩
  | _ => exact ⟨σ', hs, hq⟩
theorem WH.two (i j : Nat) {o o' : Oper} (hi : ops[i]? = some o) (hj : ops[j]? = some o') (hr : Region.ready .any ops listed = [i, j]) (hno : ∀ σ w, Q .outgrown σ w → False)
    (h : WL P n ops (thn (fun σ' w' => S w' ∧ WH P n ops S Q fuel (listed.setIfInBounds i true) σ' w') Q) [o] σ w)
    (h' : WL P n ops (thn (fun σ' w' => S w' ∧ WH P n ops S Q fuel (listed.setIfInBounds j true) σ' w') Q) [o'] σ w) : WH P n ops S Q (fuel + 1) listed σ w := by
  intro a ha
  refine wpAnyH_all hr (by simp) ?_
  intro m hm
  have hm' : m = i ∨ m = j := by simpa using hm
  rcases hm' with rfl | rfl
  · refine wpOp_of_wpList hi ?_ (fun a w ⟨σ', _, hq⟩ => hno σ' w hq)
    refine wpList_mono ?_ _ _ _ (h a ha)
    rintro e a' w' ⟨σ', hs, hq⟩
    cases e with
    | normal => exact ⟨hq.1, hq.2 a' hs⟩
    | _ => exact ⟨σ', hs, hq⟩
  · refine wpOp_of_wpList hj ?_ (fun a w ⟨σ', _, hq⟩ => hno σ' w hq)
    refine wpList_mono ?_ _ _ _ (h' a ha)
    rintro e a' w' ⟨σ', hs, hq⟩
    cases e with
    | normal => exact ⟨hq.1, hq.2 a' hs⟩
    | _ => exact ⟨σ', hs, hq⟩
theorem WH.done (hr : Region.ready .any ops listed = []) (h : WL P n ops Q [] σ w) : WH P n ops S Q fuel listed σ w :=
  fun a ha => wpAnyH_done hr (h a ha) fuel
theorem WH.split {x : Operand} {b : Bool} (hv : ev σ x = .bool b) (ht : b = true → WH P n ops S Q fuel listed σ w) (hf : b = false → WH P n ops S Q fuel listed σ w) : WH P n ops S Q fuel listed σ w := by
  cases b
  · exact hf rfl
  · exact ht rfl
theorem WH.splitp {x : Operand} {p : Prop} [Decidable p] (_hv : ev σ x = .bool (decide p)) (ht : p → WH P n ops S Q fuel listed σ w) (hf : ¬ p → WH P n ops S Q fuel listed σ w) : WH P n ops S Q fuel listed σ w := by
  by_cases h : p
  · exact ht h
  · exact hf h

def WS (P : Program) (n : Nat) (ops : Array Oper) (w : World) (K : Env → Prop) (l : List Oper) (σ : Env) : Prop :=
  ∀ a, Sees a n σ → wpStill P ops w (fun a' => ∃ σ', Sees a' n σ' ∧ K σ') l a
theorem wpStill_mono {Q' Q'' : Act → Prop} (h : ∀ a, Q' a → Q'' a) : ∀ (l : List Oper) (a : Act), wpStill P ops w Q' l a → wpStill P ops w Q'' l a
  | [], a, hh => h a hh
  | o :: l, a, hh => by
    unfold wpStill at hh ⊢
    split
    · rename_i hw; rw [if_pos hw] at hh; exact Oper.still_mono (fun a => wpStill_mono h l a) hh
    · rename_i hw; rw [if_neg hw] at hh; exact wpStill_mono h l _ hh
theorem W.tail {id : Nat} {l : List Oper} (m : Nat) (hm : P.follows .mixedOrders = true) (hB : Region.lexTailB .any l.toArray m = true)
    (h : ∀ w1, w1.heap = w.heap → Ch0 w w1 → Dr w w1 → WS P n l.toArray w1 (fun σ' => WL P n l.toArray Q (l.drop m) σ' w1) (l.take m) σ) : W P n (.region id l.toArray true) Q σ w := by
  intro a ha
  refine wp_region_still_tail m hm hB ?_
  have := h { w with drawn := w.drawn + 1 } rfl (Ch.drew w 1) ⟨1, rfl⟩ a ha
  refine wpStill_mono ?_ _ _ this
  rintro a' ⟨σ', hs, hK⟩
  exact hK a' hs
theorem WS.nil {K : Env → Prop} (h : K σ) : WS P n ops w K [] σ := fun _ ha => ⟨σ, ha, h⟩
theorem WS.x {K : Env → Prop} {rest : List Oper} (hx : X P σ w op t v) (hn : Nat.blt d n = true) (h : WS P n ops w K rest (up σ d v)) : WS P n ops w K (⟨some d, op, t, pos, af, none⟩ :: rest) σ := by
  intro a ha
  unfold wpStill
  rw [if_pos (by simp [Region.wanted])]
  unfold Oper.still
  rw [ha.eval, hx, Oper.stillUpon_value]
  exact h _ (ha.put hn)
theorem WS.enter {K : Env → Prop} {o : Oper} {f : Nat} {args : Array Value} {rest : List Oper} (hg : o.guard = none) (hd : o.dst = some d) (hn : Nat.blt d n = true)
    (hx : (execOp (ev σ) o).run P w = .ok (.enter f args) w) (hr : Ret P f args w fun v' w' => v' = v ∧ w = w') (h : WS P n ops w K rest (up σ d v)) : WS P n ops w K (o :: rest) σ := by
  intro a ha
  unfold wpStill
  rw [if_pos (by simp [Region.wanted, hg])]
  unfold Oper.still
  rw [ha.eval, hx]
  refine ⟨rfl, v, Calls.mono hr ?_, ?_⟩
  · rintro e w' ⟨v', rfl, rfl, rfl⟩; exact ⟨rfl, rfl⟩
  · rw [hd]; exact h _ (ha.put hn)
theorem WS.yes {K : Env → Prop} {dst : Option Nat} {rest : List Oper} {j dj : Nat} {want b : Bool}
    (hj : (ops[j]?).bind (·.dst) = some dj) (hn : Nat.blt dj n = true) (hv : ev σ (.tmp dj) = .bool b) (hb : b = want)
    (h : WS P n ops w K (⟨dst, op, t, pos, af, none⟩ :: rest) σ) : WS P n ops w K (⟨dst, op, t, pos, af, some (j, want)⟩ :: rest) σ := by
  intro a ha
  have h := h a ha
  unfold wpStill at h ⊢
  have hy := ha.yielded hj hn hv
  rw [if_pos (by simp [Region.wanted, hy, hb])]
  rw [if_pos (by simp [Region.wanted])] at h
  exact h
theorem WS.no {K : Env → Prop} {rest : List Oper} {j dj : Nat} {want b : Bool}
    (hj : (ops[j]?).bind (·.dst) = some dj) (hn : Nat.blt dj n = true) (hv : ev σ (.tmp dj) = .bool b) (hb : b = !want) (hd : Nat.blt d n = true)
    (h : WS P n ops w K rest (up σ d undef)) : WS P n ops w K (⟨some d, op, t, pos, af, some (j, want)⟩ :: rest) σ := by
  intro a ha
  have hy := ha.yielded hj hn hv
  unfold wpStill
  rw [if_neg (by simp [Region.wanted, hy, hb])]
  exact h _ (ha.put hd)
theorem WS.callv2 {K : Env → Prop} {rest : List Oper} {f : Nat} {tys : Array TypeId} {x x1 x2 : Operand} {v1 v2 : Value} {caps : List Value} (hc : Callee P f) (hx : ev σ x = .func (.func f) #[] caps.toArray) (h1 : ev σ x1 = v1) (h2 : ev σ x2 = v2)
    (hr : Ret P f (v1 :: v2 :: caps).toArray w fun v' w' => v' = v ∧ w = w') (hn : Nat.blt d n = true)
    (h : WS P n ops w K rest (up σ d v)) : WS P n ops w K (⟨some d, .call ⟨.value x, #[x1, x2], tys⟩, t, pos, af, none⟩ :: rest) σ :=
  WS.enter rfl rfl hn (exec_callv (xs := [x1, x2]) (vs := [v1, v2]) hc hx (by simp [h1, h2])) hr h
theorem WS.call1 {K : Env → Prop} {rest : List Oper} {f : Nat} {tys : Array TypeId} {x1 : Operand} {v1 : Value} (hc : Callee P f) (h1 : ev σ x1 = v1)
    (hr : Ret P f #[v1] w fun v' w' => v' = v ∧ w = w') (hn : Nat.blt d n = true)
    (h : WS P n ops w K rest (up σ d v)) : WS P n ops w K (⟨some d, .call ⟨.value (.func f), #[x1], tys⟩, t, pos, af, none⟩ :: rest) σ :=
  WS.enter rfl rfl hn (exec_call (xs := [x1]) (vs := [v1]) hc (by simp [h1])) hr h
theorem WS.call2 {K : Env → Prop} {rest : List Oper} {f : Nat} {tys : Array TypeId} {x1 x2 : Operand} {v1 v2 : Value} (hc : Callee P f) (h1 : ev σ x1 = v1) (h2 : ev σ x2 = v2)
    (hr : Ret P f #[v1, v2] w fun v' w' => v' = v ∧ w = w') (hn : Nat.blt d n = true)
    (h : WS P n ops w K rest (up σ d v)) : WS P n ops w K (⟨some d, .call ⟨.value (.func f), #[x1, x2], tys⟩, t, pos, af, none⟩ :: rest) σ :=
  WS.enter rfl rfl hn (exec_call (xs := [x1, x2]) (vs := [v1, v2]) hc (by simp [h1, h2])) hr h
end
end Sg
end

section
namespace Sg
open Go Go.RowKit

end Sg
end

section
namespace Sg
open Go Go.RowKit Go.ChangeShapes Go.WideShapes

/-- All that came in reads behind the call as it did, where nothing that there was has turned. -/
theorem trodAll_carry {H : Type} {enc : TypeId × Value → H} {P : Program} (hl : laidOutB P = true) {W W' : World} (hb : Below W.heap.size W W') : ∀ {ts : List TypeId} {vs : List Value} {ds : List (DataW H)} {ps : List MemPlace},
    (ts.all fun t => P.readableRec t && decide (t < P.types.size)) = true → DataW.TrodAll enc P W 0 (fun _ => true) true ts vs ds ps → (∀ x ∈ ps, x.block < W.heap.size) →
    DataW.TrodAll enc P W' 0 (fun b => decide (b < W.heap.size)) true ts vs ds ps
  | [], [], [], _, _, h, _ => h
  | [], [], _ :: _, _, _, h, _ => h.elim
  | [], _ :: _, _, _, _, h, _ => by cases ‹List (DataW H)› <;> exact h.elim
  | _ :: _, [], _, _, _, h, _ => by cases ‹List (DataW H)› <;> exact h.elim
  | _ :: _, _ :: _, [], _, _, h, _ => h.elim
  | t :: ts, v :: vs, d :: ds, ps, hr, h, hlt => by
    obtain ⟨p, q, h1, h2, rfl⟩ := h
    simp only [List.all_cons, Bool.and_eq_true, decide_eq_true_eq] at hr
    exact ⟨p, q, Below.trod hl hr.1.1 hr.1.2 h1 hb (fun x hx => hlt x (List.mem_append.2 (.inl hx))), trodAll_carry hl hb hr.2 h2 (fun x hx => hlt x (List.mem_append.2 (.inr hx))), rfl⟩

/-- A variable that is listed as a table of numbers: its block. -/
theorem tab_block {P : Program} {W : World} {name : String} {k : IntKind} {zs : List Int} {g : Nat} (h : Lib.TabIs P W name k zs) (hg : P.globalNamed name = some g) :
    ∃ T fr, W.heap[g]? = some (.cells (zs.map fun z => Value.int k z).toArray T fr) := by
  unfold Lib.TabIs World.var? at h
  rw [hg] at h
  simp only [Option.bind_some] at h
  split at h
  · rename_i c T fr hc
    rw [Option.some.inj h] at hc
    exact ⟨T, fr, hc⟩
  · cases h
end Sg
end
