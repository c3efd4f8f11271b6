/-
  Complex numbers of small whole parts; maps that they are the keys of.
-/
import Derived.Test.YtfnhhgoefanloaaDoorSpiral
import Derived.Test.YtfnhhgoefanloaaDoorMem
import Derived.MapKept
import Derived.Carry
namespace Sg
open Go Go.RowKit
abbrev cv (p : Pl) : Value := .complex .f64 (fb p.1) (fb p.2)
/-- Within so much of nought. -/
def Near (k : Nat) (p : Pl) : Prop := (-(k : Int) ≤ p.1 ∧ p.1 ≤ k) ∧ (-(k : Int) ≤ p.2 ∧ p.2 ≤ k)
section
variable {P : Program} {n : Sz} {Q : Post} {σ : Env} {w : World} {ops : Array Oper} {rest : List Oper}
variable {d : Nat} {t xt yt : TypeId} {pos : String} {af : Array Edge} {x y : Operand} {fk : FloatKind} {a b c e r s : Nat}
theorem X.real {tys : Array TypeId} (h : ev σ x = .complex fk a b) : X P σ w (.call ⟨.builtin .real, #[x], tys⟩) t (.float fk a) := fun _ _ _ _ => by
  have hr : (Builtin.real_ tys t #[.complex fk a b]).run P w = .ok (.float fk a) w := rfl
  simp [execOp, resolve, invoke, builtin, h, hr]
theorem X.imag {tys : Array TypeId} (h : ev σ x = .complex fk a b) : X P σ w (.call ⟨.builtin .imag, #[x], tys⟩) t (.float fk b) := fun _ _ _ _ => by
  have hr : (Builtin.imag_ tys t #[.complex fk a b]).run P w = .ok (.float fk b) w := rfl
  simp [execOp, resolve, invoke, builtin, h, hr]
theorem X.complex {tys : Array TypeId} (h1 : ev σ x = .float fk a) (h2 : ev σ y = .float fk b) : X P σ w (.call ⟨.builtin .complex, #[x, y], tys⟩) t (.complex fk a b) := fun _ _ _ _ => by
  have hr : (Builtin.complex_ tys t #[.float fk a, .float fk b]).run P w = .ok (.complex fk a b) w := by
    show (if fk = fk then pure (Value.complex fk a b) else _ : Sem Value).run P w = _
    rw [if_pos rfl]; rfl
  simp [execOp, resolve, invoke, builtin, h1, h2, hr]
theorem X.f2i {ds : TypeDesc} {z : Int} (hs : P.underlying xt = some ds) (hd : P.underlying yt = some (.int .i64)) (h : ev σ x = .float .f64 a) (hz : (FloatKind.f64.decode a).toInt .zero = some z) (h1 : -9223372036854775808 ≤ z) (h2 : z ≤ 9223372036854775807) :
    X P σ w (.convert xt yt x) t (.int .i64 z) := fun _ _ _ _ => by
  have hf : floatToIntVal .f64 a .i64 = some z := by
    unfold floatToIntVal
    rw [hz]
    have e1 : IntKind.i64.min = -9223372036854775808 := by decide
    have e2 : IntKind.i64.max = 9223372036854775807 := by decide
    simp only [e1, e2]
    rw [if_pos ⟨h1, h2⟩]
  have := run_convert_float_int (P := P) w xt yt .f64 .i64 a z (by rw [hs]; rfl) hd hf
  simp [execOp, h, this]
theorem X.i2f {ds : TypeDesc} {k : IntKind} {z : Int} (hs : P.underlying xt = some ds) (hd : P.underlying yt = some (.float .f64)) (h : ev σ x = .int k z) : X P σ w (.convert xt yt x) t (.float .f64 (fb z)) := fun _ _ _ _ => by
  have hr : (convert xt yt (.int k z)).run P w = .ok (.float .f64 (fb z)) w := by
    cases ds <;> simp [convert, run_underlying hs, run_underlying hd, Conv.intToFloat, fb]
  simp [execOp, h, hr]
theorem run_cguard {o : BinOp} {k k' : FloatKind} : (eqGuard o xt x y (.complex k a b) (.complex k' c e)).run P w = .ok () w := by
  unfold eqGuard; cases o <;> rfl
theorem run_fguard {o : BinOp} {k k' : FloatKind} : (eqGuard o xt x y (.float k a) (.float k' c)).run P w = .ok () w := by
  unfold eqGuard; cases o <;> rfl
theorem X.cadd (h1 : ev σ x = .complex .f64 a b) (h2 : ev σ y = .complex .f64 c e) (h : cSumBits .add .f64 a b c e = some (r, s)) : X P σ w (.binOp .add xt x y yt) t (.complex .f64 r s) := fun _ _ _ _ => by
  simp only [execOp, h1, h2, Sem.run_bind, run_cguard, Result.andThen_ok, run_complex_sum w .add (.inl rfl) xt .f64 a b c e r s h, Sem.run_pure]
theorem X.csub (h1 : ev σ x = .complex .f64 a b) (h2 : ev σ y = .complex .f64 c e) (h : cSumBits .sub .f64 a b c e = some (r, s)) : X P σ w (.binOp .sub xt x y yt) t (.complex .f64 r s) := fun _ _ _ _ => by
  simp only [execOp, h1, h2, Sem.run_bind, run_cguard, Result.andThen_ok, run_complex_sum w .sub (.inr rfl) xt .f64 a b c e r s h, Sem.run_pure]
theorem X.cmul (h1 : ev σ x = .complex .f64 a b) (h2 : ev σ y = .complex .f64 c e) (h : cMulBits a b c e = some (r, s)) : X P σ w (.binOp .mul xt x y yt) t (.complex .f64 r s) := fun _ _ _ _ => by
  simp only [execOp, h1, h2, Sem.run_bind, run_cguard, Result.andThen_ok, run_complex_mul w xt a b c e r s h, Sem.run_pure]
theorem run_fcmp_eq : (Op.Complex.cmp .eql .f64 a c).run P w = .ok (Op.floatEq .f64 a c) w := by
  simp [Op.Complex.cmp, Op.floatCmp, Op.floatEq, asBool]
theorem X.ceql {p q : Prop} [Decidable p] [Decidable q] (h1 : ev σ x = .complex .f64 a b) (h2 : ev σ y = .complex .f64 c e) (h : Op.floatEq .f64 a c = decide p) (k : Op.floatEq .f64 b e = decide q) : X P σ w (.binOp .eql xt x y yt) t (.bool (decide (p ∧ q))) := fun _ _ _ _ => by
  have hb : (binOp .eql xt (.complex .f64 a b) (.complex .f64 c e)).run P w = .ok (.bool (decide (p ∧ q))) w := by
    simp [binOp, Op.complexOp, run_fcmp_eq, h, k]
  simp only [execOp, h1, h2, Sem.run_bind, run_cguard, Result.andThen_ok, hb, Sem.run_pure]
theorem X.cneq {p q : Prop} [Decidable p] [Decidable q] (h1 : ev σ x = .complex .f64 a b) (h2 : ev σ y = .complex .f64 c e) (h : Op.floatEq .f64 a c = decide p) (k : Op.floatEq .f64 b e = decide q) : X P σ w (.binOp .neq xt x y yt) t (.bool (decide (¬ (p ∧ q)))) := fun _ _ _ _ => by
  have hb : (binOp .neq xt (.complex .f64 a b) (.complex .f64 c e)).run P w = .ok (.bool (decide (¬ (p ∧ q)))) w := by
    simp [binOp, Op.complexOp, run_fcmp_eq, h, k]
  simp only [execOp, h1, h2, Sem.run_bind, run_cguard, Result.andThen_ok, hb, Sem.run_pure]
variable {u v : Int}
theorem feq (h1 : -10 ≤ u) (h2 : u ≤ 10) (h3 : -10 ≤ v) (h4 : v ≤ 10) : Op.floatEq .f64 (fb u) (fb v) = decide (u = v) := by
  unfold Op.floatEq
  rw [fb_order h1 h2 h3 h4, Bool.eq_iff_iff]
  simp [compare, compareOfLessAndEq]
  constructor
  · intro h; split at h <;> first | cases h | (split at h <;> first | assumption | cases h)
  · intro h; subst h; simp
theorem feq1 (h1 : -10 ≤ u) (h2 : u ≤ 10) : Op.floatEq .f64 (fb u) 4607182418800017408 = decide (u = 1) := by rw [← fb_1]; exact feq h1 h2 (by omega) (by omega)
theorem feqm (h1 : -10 ≤ u) (h2 : u ≤ 10) : Op.floatEq .f64 (fb u) 13830554455654793216 = decide (u = -1) := by rw [← fb_m1]; exact feq h1 h2 (by omega) (by omega)
theorem feq0 (h1 : -10 ≤ u) (h2 : u ≤ 10) : Op.floatEq .f64 (fb u) 0 = decide (u = 0) := by have := feq (v := 0) h1 h2 (by omega) (by omega); rwa [fb_0] at this
theorem csub_cv {p q : Pl} (hp : -6 ≤ p.1 ∧ p.1 ≤ 6 ∧ -6 ≤ p.2 ∧ p.2 ≤ 6) (hq : -6 ≤ q.1 ∧ q.1 ≤ 6 ∧ -6 ≤ q.2 ∧ q.2 ≤ 6) : cSumBits .sub .f64 (fb p.1) (fb p.2) (fb q.1) (fb q.2) = some (fb (p.1 - q.1), fb (p.2 - q.2)) := by
  unfold cSumBits
  rw [fb_sub (by omega) (by omega) (by omega) (by omega), fb_sub (by omega) (by omega) (by omega) (by omega)]; rfl
theorem X.fleq (h1 : ev σ x = .float .f64 (fb u)) (h2 : ev σ y = .float .f64 (fb v)) (k1 : -10 ≤ u) (k2 : u ≤ 10) (k3 : -10 ≤ v) (k4 : v ≤ 10) : X P σ w (.binOp .leq xt x y yt) t (.bool (decide (u ≤ v))) := fun _ _ _ _ => by
  have hb : (binOp .leq xt (.float .f64 (fb u)) (.float .f64 (fb v))).run P w = .ok (.bool (decide (u ≤ v))) w := by
    simp only [binOp, ne_eq, not_true_eq_false, if_false, Op.floatCmp, fb_order k1 k2 k3 k4, Sem.run_pure]
    congr 2
    rw [Bool.eq_iff_iff]
    simp only [compare, compareOfLessAndEq]
    split
    · simp; omega
    · split <;> simp <;> omega
  simp only [execOp, h1, h2, Sem.run_bind, run_fguard, Result.andThen_ok, hb, Sem.run_pure]
theorem X.fgeq (h1 : ev σ x = .float .f64 (fb u)) (h2 : ev σ y = .float .f64 (fb v)) (k1 : -10 ≤ u) (k2 : u ≤ 10) (k3 : -10 ≤ v) (k4 : v ≤ 10) : X P σ w (.binOp .geq xt x y yt) t (.bool (decide (v ≤ u))) := fun _ _ _ _ => by
  have hb : (binOp .geq xt (.float .f64 (fb u)) (.float .f64 (fb v))).run P w = .ok (.bool (decide (v ≤ u))) w := by
    simp only [binOp, ne_eq, not_true_eq_false, if_false, Op.floatCmp, fb_order k1 k2 k3 k4, Sem.run_pure]
    congr 2
    rw [Bool.eq_iff_iff]
    simp only [compare, compareOfLessAndEq]
    split
    · simp; omega
    · split <;> simp <;> omega
  simp only [execOp, h1, h2, Sem.run_bind, run_fguard, Result.andThen_ok, hb, Sem.run_pure]
theorem X.fneqSelf (h1 : ev σ x = .float .f64 (fb u)) (h2 : ev σ y = .float .f64 (fb u)) (k1 : -10 ≤ u) (k2 : u ≤ 10) : X P σ w (.binOp .neq xt x y yt) t (.bool false) := fun _ _ _ _ => by
  have hb : (binOp .neq xt (.float .f64 (fb u)) (.float .f64 (fb u))).run P w = .ok (.bool false) w := by
    simp only [binOp, ne_eq, not_true_eq_false, if_false, Op.floatCmp, fb_order k1 k2 k1 k2, Sem.run_pure]
    simp [compare, compareOfLessAndEq]
  simp only [execOp, h1, h2, Sem.run_bind, run_fguard, Result.andThen_ok, hb, Sem.run_pure]
theorem far_all : ((rng 10).all fun x => FloatKind.f64.format.order (fb x) 13860109328209412096 == some .gt && FloatKind.f64.format.order (fb x) 4636737291354636288 == some .lt && !(FloatKind.f64.decode (fb x)).neg || (FloatKind.f64.format.order (fb x) 13860109328209412096 == some .gt && FloatKind.f64.format.order (fb x) 4636737291354636288 == some .lt)) = true := by decide +kernel
theorem far_at (k1 : -10 ≤ u) (k2 : u ≤ 10) : FloatKind.f64.format.order (fb u) 13860109328209412096 = some .gt ∧ FloatKind.f64.format.order (fb u) 4636737291354636288 = some .lt := by
  have := List.all_eq_true.1 far_all u (mem_rng k1 k2)
  simp only [Bool.or_eq_true, Bool.and_eq_true, beq_iff_eq] at this
  rcases this with h | h
  · exact h.1
  · exact h
theorem X.fargeq (h1 : ev σ x = .float .f64 (fb u)) (h2 : ev σ y = .float .f64 13860109328209412096) (k1 : -10 ≤ u) (k2 : u ≤ 10) : X P σ w (.binOp .geq xt x y yt) t (.bool true) := fun _ _ _ _ => by
  have hb : (binOp .geq xt (.float .f64 (fb u)) (.float .f64 13860109328209412096)).run P w = .ok (.bool true) w := by
    simp only [binOp, ne_eq, not_true_eq_false, if_false, Op.floatCmp, (far_at k1 k2).1, Sem.run_pure]; rfl
  simp only [execOp, h1, h2, Sem.run_bind, run_fguard, Result.andThen_ok, hb, Sem.run_pure]
theorem X.farleq (h1 : ev σ x = .float .f64 (fb u)) (h2 : ev σ y = .float .f64 4636737291354636288) (k1 : -10 ≤ u) (k2 : u ≤ 10) : X P σ w (.binOp .leq xt x y yt) t (.bool true) := fun _ _ _ _ => by
  have hb : (binOp .leq xt (.float .f64 (fb u)) (.float .f64 4636737291354636288)).run P w = .ok (.bool true) w := by
    simp only [binOp, ne_eq, not_true_eq_false, if_false, Op.floatCmp, (far_at k1 k2).2, Sem.run_pure]; rfl
  simp only [execOp, h1, h2, Sem.run_bind, run_fguard, Result.andThen_ok, hb, Sem.run_pure]
theorem X.fmin {tys : Array TypeId} (h1 : ev σ x = .float .f64 (fb u)) (h2 : ev σ y = .float .f64 (fb v)) (k1 : -10 ≤ u) (k2 : u ≤ 10) (k3 : -10 ≤ v) (k4 : v ≤ 10) : X P σ w (.call ⟨.builtin .min, #[x, y], tys⟩) t (.float .f64 (fb (Min.min u v))) := fun _ _ _ _ => by
  have hm : (Builtin.min2 (.float .f64 (fb u)) (.float .f64 (fb v))).run P w = .ok (.float .f64 (fb (Min.min u v))) w := by
    simp only [Builtin.min2, fb_order k1 k2 k3 k4]
    by_cases h : u < v
    · have e : compare u v = .lt := by simp [compare, compareOfLessAndEq, h]
      simp only [e, show Min.min u v = u by omega]; rfl
    · by_cases h' : u = v
      · subst h'
        have e : compare u u = .eq := by simp [compare, compareOfLessAndEq]
        simp only [e, show Min.min u u = u by omega, ite_self]; rfl
      · have e : compare u v = .gt := by simp [compare, compareOfLessAndEq, h, h']
        simp only [e, show Min.min u v = v by omega]; rfl
  simp [execOp, resolve, invoke, builtin, h1, h2, Builtin.min_, hm]
theorem X.fmax {tys : Array TypeId} (h1 : ev σ x = .float .f64 (fb u)) (h2 : ev σ y = .float .f64 (fb v)) (k1 : -10 ≤ u) (k2 : u ≤ 10) (k3 : -10 ≤ v) (k4 : v ≤ 10) : X P σ w (.call ⟨.builtin .max, #[x, y], tys⟩) t (.float .f64 (fb (Max.max u v))) := fun _ _ _ _ => by
  have hm : (Builtin.max2 (.float .f64 (fb u)) (.float .f64 (fb v))).run P w = .ok (.float .f64 (fb (Max.max u v))) w := by
    simp only [Builtin.max2, fb_order k1 k2 k3 k4]
    by_cases h : u < v
    · have e : compare u v = .lt := by simp [compare, compareOfLessAndEq, h]
      simp only [e, show Max.max u v = v by omega]; rfl
    · by_cases h' : u = v
      · subst h'
        have e : compare u u = .eq := by simp [compare, compareOfLessAndEq]
        simp only [e, show Max.max u u = u by omega, ite_self]; rfl
      · have e : compare u v = .gt := by simp [compare, compareOfLessAndEq, h, h']
        simp only [e, show Max.max u v = u by omega]; rfl
  simp [execOp, resolve, invoke, builtin, h1, h2, Builtin.max_, hm]
/-! ### Maps -/
/-- Block b is a map whose keys are these places, each once. -/
def MC (w : World) (b : Nat) (l : List Pl) : Prop := ∃ es clock, w.heap[b]? = some (.map es clock) ∧ es.toList.map (·.key) = l.map cv
theorem MC.ch {F : Nat → Prop} {w w' : World} {b : Nat} {l : List Pl} (h : MC w b l) (c : Ch F w w') (hb : ¬ F b) : MC w' b l := by
  obtain ⟨es, clock, h1, h2⟩ := h
  exact ⟨es, clock, c.at h1 hb, h2⟩
theorem MC.lt {w : World} {b : Nat} {l : List Pl} (h : MC w b l) : b < w.heap.size := by
  obtain ⟨es, clock, h1, _⟩ := h; exact lt_of_blk h1
theorem WL.mkMapC (hn : Nat.blt d n.sz = true) (h : ∀ w', MC w' w.heap.size [] → Ch0 w w' → w'.heap.size = w.heap.size + 1 → WL P n ops Q rest (up σ d (.map (some w.heap.size))) w') :
    WL P n ops Q (⟨some d, .makeMap xt none, t, pos, af, none⟩ :: rest) σ w := by
  have hnw := nw_alloc w (.map #[] 0)
  refine WL.step (w' := w.alloc (.map #[] 0)) rfl rfl hn ?_ (h _ ⟨#[], 0, hnw.at_, rfl⟩ hnw.ch hnw.size)
  simp [execOp, run_makeMap]
theorem run_ceqIn {k : TypeId} {a b c e : Nat} (m : Nat) (hk : P.underlying k = some (.complex .f64)) (w : World) : (Op.equalIn (m + 1) k (.complex .f64 a b) (.complex .f64 c e)).run P w = .ok (Op.floatEq .f64 a c && Op.floatEq .f64 b e) w := by
  simp [Op.equalIn, run_underlying hk]
theorem run_ceq {k : TypeId} {p q : Pl} (hk : P.underlying k = some (.complex .f64)) (hp : Near 10 p) (hq : Near 10 q) (hne : p ≠ q) (w : World) : (Op.equal k (cv p) (cv q)).run P w = .ok false w := by
  have e1 : Op.floatEq .f64 (fb p.1) (fb q.1) = decide (p.1 = q.1) := feq hp.1.1 hp.1.2 hq.1.1 hq.1.2
  have e2 : Op.floatEq .f64 (fb p.2) (fb q.2) = decide (p.2 = q.2) := feq hp.2.1 hp.2.2 hq.2.1 hq.2.2
  have : (decide (p.1 = q.1) && decide (p.2 = q.2)) = false := by
    rw [← Bool.not_eq_true]
    intro h
    simp only [Bool.and_eq_true, decide_eq_true_eq] at h
    exact hne (Prod.ext h.1 h.2)
  rw [← this, ← e1, ← e2]
  exact run_ceqIn 9999 hk w
theorem run_findC {k : TypeId} {p : Pl} (hk : P.underlying k = some (.complex .f64)) (hp : Near 10 p) (w : World) : ∀ {es : List MapEntry} {l : List Pl} {i : Nat}, es.map (·.key) = l.map cv → (∀ q ∈ l, Near 10 q ∧ p ≠ q) → (Instr.findAsking k (cv p) es i).run P w = .ok none w
  | [], _, _, _, _ => rfl
  | e :: es, [], _, h, _ => by simp at h
  | e :: es, q :: l, i, h, hl => by
    simp only [List.map_cons, List.cons.injEq] at h
    have hq := hl q (List.mem_cons_self ..)
    have h1 := run_ceq hk hp hq.1 hq.2 w
    rw [← h.1] at h1
    unfold Instr.findAsking
    simp only [Sem.run_bind, h1, Result.andThen_ok]
    exact run_findC hk hp w h.2 (fun r hr => hl r (List.mem_cons_of_mem _ hr))
theorem WL.mapSetC {m z : Operand} {k e : TypeId} {b : Nat} {p : Pl} {l : List Pl} {v : Value} (ht : P.underlying xt = some (.map k e)) (hk : P.underlying k = some (.complex .f64)) (h1 : ev σ m = .map (some b)) (h2 : ev σ x = cv p) (h3 : ev σ z = v)
    (hp : Near 10 p) (hl : ∀ q ∈ l, Near 10 q ∧ p ≠ q) (h : MC w b l) (hk2 : ∀ w', MC w' b (l ++ [p]) → Ch (fun i => i = b) w w' → WL P n ops Q rest σ w') :
    WL P n ops Q (⟨none, .mapUpdate xt m x z, t, pos, af, none⟩ :: rest) σ w := by
  obtain ⟨es, clock, hb, hes⟩ := h
  have hck : (Instr.checkKey false 10000 k (cv p)).run P w = .ok () w := by
    show (Instr.checkKey false (9999 + 1) k (cv p)).run P w = _
    unfold Instr.checkKey
    simp [run_underlying hk]
  have hfk : (Instr.findKey k (cv p) es.toList).run P w = .ok none w := by
    unfold Instr.findKey
    simp only [Sem.run_bind, run_underlying hk, Result.andThen_ok]
    cases hee : es.toList with
    | nil => rfl
    | cons e0 er =>
      have hee2 := hes
      rw [hee] at hee2
      cases l with
      | nil => simp at hee2
      | cons q l =>
        have hkey : e0.key = cv q := by simp only [List.map_cons, List.cons.injEq] at hee2; exact hee2.1
        have : Instr.findNow (.complex .f64) (cv p) (e0 :: er) 0 = none := by
          unfold Instr.findNow
          rw [hkey]; rfl
        rw [this]
        exact run_findC hk hp w hee2 hl
  have hrun : (Instr.mapUpdate xt (.map (some b)) (cv p) v).run P w = .ok () { w with heap := w.heap.setIfInBounds b (.map (es.push { key := cv p, val := v, born := clock }) (clock + 1)) } := by
    have hg : (getObj b).run P w = .ok (.map es clock) w := by simp [getObj, Sem.run, hb]
    have hs : ∀ o, (setObj b o).run P w = .ok () { w with heap := w.heap.setIfInBounds b o } := fun o => by simp [setObj, Sem.run, hb]
    unfold Instr.mapUpdate
    simp only [Sem.run_bind, run_underlying ht, Result.andThen_ok, hg, hck, hfk, hs]
  have hlt := lt_of_blk hb
  refine WL.skp (w' := { w with heap := w.heap.setIfInBounds b (.map (es.push { key := cv p, val := v, born := clock }) (clock + 1)) }) rfl rfl ?_ (hk2 { w with heap := w.heap.setIfInBounds b (.map (es.push { key := cv p, val := v, born := clock }) (clock + 1)) } ⟨es.push { key := cv p, val := v, born := clock }, clock + 1, by simp [hlt], by simp [hes]⟩ ⟨rfl, rfl, rfl, by simp, fun i hi hn => by
    simp only [Array.getElem?_setIfInBounds]; rw [if_neg (fun e => hn e.symm)]⟩)
  simp [execOp, h1, h2, h3, hrun]
theorem X.lenC {k e : TypeId} {b : Nat} {l : List Pl} (ht : P.underlying xt = some (.map k e)) (hx : ev σ x = .map (some b)) (h : MC w b l) : X P σ w (.call ⟨.builtin .len, #[x], #[xt]⟩) t (.int .i64 l.length) := fun _ _ _ _ => by
  obtain ⟨es, clock, hb, hes⟩ := h
  have hsz : es.size = l.length := by
    have := congrArg List.length hes
    simpa using this
  have hg : (getObj b).run P w = .ok (.map es clock) w := by simp [getObj, Sem.run, hb]
  simp [execOp, resolve, invoke, builtin, hx, Builtin.len_, run_underlying ht, goInt, hg, hsz]
end
end Sg
