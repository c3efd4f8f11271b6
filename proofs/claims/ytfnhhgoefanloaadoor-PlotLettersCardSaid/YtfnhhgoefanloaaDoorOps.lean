/-
  One lemma an operation: what it yields, over any program.
-/
import Derived.Test.YtfnhhgoefanloaaDoorCore
import Derived.WalkLawsBesides
import Derived.WalkSpells
namespace Sg
open Go

section
variable {P : Program} {n : Sz} {Q : Post} {σ : Env} {w : World} {ops : Array Oper} {rest : List Oper}

/-! ### Looking a temporary up -/
theorem lh {d : Nat} {v : Value} : ev (up σ d v) (.tmp d) = v := by simp [ev, up]
theorem lt {d t : Nat} {v v' : Value} (hne : Nat.beq t d = false) (h : ev σ (.tmp t) = v) : ev (up σ d v') (.tmp t) = v := by
  simp only [ev, up, hne, cond_false] at *; exact h
theorem jt2 {d e t : Nat} {v v1 v2 : Value} (hne : (Nat.beq t d || Nat.beq t e) = false) (h : ev σ (.tmp t) = v) : ev (up (up σ e v2) d v1) (.tmp t) = v :=
  lt (Bool.or_eq_false_iff.1 hne).1 (lt (Bool.or_eq_false_iff.1 hne).2 h)
theorem jt4 {d1 d2 d3 d4 t : Nat} {v v1 v2 v3 v4 : Value} (hne : ((Nat.beq t d1 || Nat.beq t d2) || (Nat.beq t d3 || Nat.beq t d4)) = false) (h : ev σ (.tmp t) = v) : ev (up (up (up (up σ d4 v4) d3 v3) d2 v2) d1 v1) (.tmp t) = v :=
  jt2 (Bool.or_eq_false_iff.1 hne).1 (jt2 (Bool.or_eq_false_iff.1 hne).2 h)
theorem jt8 {d1 d2 d3 d4 d5 d6 d7 d8 t : Nat} {v v1 v2 v3 v4 v5 v6 v7 v8 : Value} (hne : (((Nat.beq t d1 || Nat.beq t d2) || (Nat.beq t d3 || Nat.beq t d4)) || ((Nat.beq t d5 || Nat.beq t d6) || (Nat.beq t d7 || Nat.beq t d8))) = false) (h : ev σ (.tmp t) = v) : ev (up (up (up (up (up (up (up (up σ d8 v8) d7 v7) d6 v6) d5 v5) d4 v4) d3 v3) d2 v2) d1 v1) (.tmp t) = v :=
  jt4 (Bool.or_eq_false_iff.1 hne).1 (jt4 (Bool.or_eq_false_iff.1 hne).2 h)
theorem lc {v : Value} : ev σ (.const v) = v := rfl
theorem lf {f : Nat} : ev σ (.func f) = .func (.func f) #[] #[] := rfl
theorem lg {g : Nat} : ev σ (.global g) = .pointer (some ⟨g, 0, none⟩) := rfl
theorem gh {d : Nat} {v : Value} : (up σ d v) d = v := lh
theorem gt {d t : Nat} {v v' : Value} (hne : Nat.beq t d = false) (h : σ t = v) : (up σ d v') t = v := lt hne h

theorem mnil : ([] : List Operand).map (ev σ) = [] := rfl
theorem mcons {x : Operand} {v : Value} {l : List Operand} {l' : List Value} (h : ev σ x = v) (h' : l.map (ev σ) = l') : (x :: l).map (ev σ) = v :: l' := by simp [h, h']

/-- The operation leaves the world alone and yields v. -/
def X (P : Program) (σ : Env) (w : World) (op : Op) (t : TypeId) (v : Value) : Prop :=
  ∀ d pos af g, (execOp (ev σ) ⟨d, op, t, pos, af, g⟩).run P w = .ok (.value v) w
/-- The operation yields v and leaves w'. -/
def XW (P : Program) (σ : Env) (w : World) (op : Op) (t : TypeId) (v : Value) (w' : World) : Prop :=
  ∀ d pos af g, (execOp (ev σ) ⟨d, op, t, pos, af, g⟩).run P w = .ok (.value v) w'
/-- The operation yields nothing and leaves w'. -/
def XU (P : Program) (σ : Env) (w : World) (op : Op) (t : TypeId) (w' : World) : Prop :=
  ∀ d pos af g, (execOp (ev σ) ⟨d, op, t, pos, af, g⟩).run P w = .ok .skip w'

variable {d : Nat} {op : Op} {t : TypeId} {pos : String} {af : Array Edge} {v : Value} {w' : World}
theorem WL.x (hx : X P σ w op t v) (hn : Nat.blt d n.sz = true) (h : WL P n ops Q rest (up σ d v) w) : WL P n ops Q (⟨some d, op, t, pos, af, none⟩ :: rest) σ w :=
  WL.step rfl rfl hn (hx _ _ _ _) h
theorem WL.xw (hx : XW P σ w op t v w') (hn : Nat.blt d n.sz = true) (h : WL P n ops Q rest (up σ d v) w') : WL P n ops Q (⟨some d, op, t, pos, af, none⟩ :: rest) σ w :=
  WL.step rfl rfl hn (hx _ _ _ _) h
theorem WL.xu (hx : XU P σ w op t w') (h : WL P n ops Q rest σ w') : WL P n ops Q (⟨none, op, t, pos, af, none⟩ :: rest) σ w :=
  WL.skp rfl rfl (hx _ _ _ _) h
theorem WQ.x {K : Env → Prop} (hx : ∀ m, X P σ (w.drewN m) op t v) (hn : Nat.blt d n.sz = true) (h : WQ P n ops w K rest (up σ d v)) : WQ P n ops w K (⟨some d, op, t, pos, af, none⟩ :: rest) σ :=
  WQ.step rfl rfl hn (fun m => hx m _ _ _ _) h

/-! ### Plain ones -/
variable {x y c : Operand} {p q : Int} {xt yt : TypeId} {k : IntKind}
theorem X.mv (h : ev σ x = v) : X P σ w (.move x) t v := fun _ _ _ _ => by simp [execOp, h]
theorem X.asg (h : ev σ x = v) : X P σ w (.assign x) t v := fun _ _ _ _ => by simp [execOp, h]
theorem X.pickT {a b : Operand} {z : Bool} (hc : ev σ c = .bool z) (hz : z = true) (h : ev σ a = v) : X P σ w (.pick c a b) t v := fun _ _ _ _ => by simp [execOp, hc, hz, h, asBool]
theorem X.pickF {a b : Operand} {z : Bool} (hc : ev σ c = .bool z) (hz : z = false) (h : ev σ b = v) : X P σ w (.pick c a b) t v := fun _ _ _ _ => by simp [execOp, hc, hz, h, asBool]
theorem X.nilck {a : Addr} (h : ev σ x = .pointer (some a)) : X P σ w (.nilCheck x) t (.pointer (some a)) := fun _ _ _ _ => by simp [execOp, h]

theorem run_guard {o : BinOp} {z : IntKind} : (eqGuard o xt x y (.int k p) (.int z q)).run P w = .ok () w := by
  unfold eqGuard; cases o <;> rfl

theorem X.int {o : BinOp} {k' : IntKind} {r : Value} (hx : ev σ x = .int k p) (hy : ev σ y = .int k' q) (h : (binOp o xt (.int k p) (.int k' q)).run P w = .ok r w) : X P σ w (.binOp o xt x y yt) t r := fun _ _ _ _ => by
  simp only [execOp, hx, hy, Sem.run_bind, run_guard, Result.andThen_ok, h, Sem.run_pure]

theorem wrap_i64 {z : Int} (h1 : -9223372036854775808 ≤ z) (h2 : z ≤ 9223372036854775807) : IntKind.i64.wrap z = z := by
  simp only [IntKind.wrap, IntKind.bits, IntKind.signed]; simp; omega
theorem wrap_u64 (z : Int) : IntKind.u64.wrap z = z % 18446744073709551616 := by simp [IntKind.wrap, IntKind.bits, IntKind.signed]
theorem wrap_u64_in {z : Int} (h1 : 0 ≤ z) (h2 : z < 18446744073709551616) : IntKind.u64.wrap z = z := by rw [wrap_u64]; omega
theorem wrap_u8_in {z : Int} (h1 : 0 ≤ z) (h2 : z < 256) : IntKind.u8.wrap z = z := by simp [IntKind.wrap, IntKind.bits, IntKind.signed]; omega

theorem X.add (hx : ev σ x = .int .i64 p) (hy : ev σ y = .int .i64 q) (h1 : -9223372036854775808 ≤ p + q) (h2 : p + q ≤ 9223372036854775807) : X P σ w (.binOp .add xt x y yt) t (.int .i64 (p + q)) :=
  X.int hx hy (by simp [binOp, Op.intArith, wrap_i64 h1 h2])
theorem X.sub (hx : ev σ x = .int .i64 p) (hy : ev σ y = .int .i64 q) (h1 : -9223372036854775808 ≤ p - q) (h2 : p - q ≤ 9223372036854775807) : X P σ w (.binOp .sub xt x y yt) t (.int .i64 (p - q)) :=
  X.int hx hy (by simp [binOp, Op.intArith, wrap_i64 h1 h2])
theorem X.mul (hx : ev σ x = .int .i64 p) (hy : ev σ y = .int .i64 q) (h1 : -9223372036854775808 ≤ p * q) (h2 : p * q ≤ 9223372036854775807) : X P σ w (.binOp .mul xt x y yt) t (.int .i64 (p * q)) :=
  X.int hx hy (by simp [binOp, Op.intArith, wrap_i64 h1 h2])
/-- Sums that go round. -/
theorem X.addw (hx : ev σ x = .int k p) (hy : ev σ y = .int k q) : X P σ w (.binOp .add xt x y yt) t (.int k (k.wrap (p + q))) :=
  X.int hx hy (by simp [binOp, Op.intArith])
theorem X.subw (hx : ev σ x = .int k p) (hy : ev σ y = .int k q) : X P σ w (.binOp .sub xt x y yt) t (.int k (k.wrap (p - q))) :=
  X.int hx hy (by simp [binOp, Op.intArith])
theorem X.mulw (hx : ev σ x = .int k p) (hy : ev σ y = .int k q) : X P σ w (.binOp .mul xt x y yt) t (.int k (k.wrap (p * q))) :=
  X.int hx hy (by simp [binOp, Op.intArith])
/-- Division of numbers that are not below nought. -/
theorem X.quo (hx : ev σ x = .int k p) (hy : ev σ y = .int k q) (h0 : 0 ≤ p) (h1 : 0 < q) (hw : k.wrap (p / q) = p / q) : X P σ w (.binOp .quo xt x y yt) t (.int k (p / q)) :=
  X.int hx hy (by simp [binOp, Op.intDiv, show q ≠ 0 by omega, Int.tdiv_eq_ediv_of_nonneg h0, hw])
theorem X.rem (hx : ev σ x = .int k p) (hy : ev σ y = .int k q) (h0 : 0 ≤ p) (h1 : 0 < q) : X P σ w (.binOp .rem xt x y yt) t (.int k (p % q)) :=
  X.int hx hy (by simp [binOp, Op.intDiv, show q ≠ 0 by omega, Int.tmod_eq_emod_of_nonneg h0])
theorem X.quow (hx : ev σ x = .int k p) (hy : ev σ y = .int k q) (h1 : q ≠ 0) : X P σ w (.binOp .quo xt x y yt) t (.int k (k.wrap (p.tdiv q))) :=
  X.int hx hy (by simp [binOp, Op.intDiv, h1])
theorem X.remw (hx : ev σ x = .int k p) (hy : ev σ y = .int k q) (h1 : q ≠ 0) : X P σ w (.binOp .rem xt x y yt) t (.int k (p.tmod q)) :=
  X.int hx hy (by simp [binOp, Op.intDiv, h1])
theorem X.lss (hx : ev σ x = .int k p) (hy : ev σ y = .int k q) : X P σ w (.binOp .lss xt x y yt) t (.bool (decide (p < q))) := X.int hx hy (by simp [binOp, Op.intCmp])
theorem X.leq (hx : ev σ x = .int k p) (hy : ev σ y = .int k q) : X P σ w (.binOp .leq xt x y yt) t (.bool (decide (p ≤ q))) := X.int hx hy (by simp [binOp, Op.intCmp])
theorem X.gtr (hx : ev σ x = .int k p) (hy : ev σ y = .int k q) : X P σ w (.binOp .gtr xt x y yt) t (.bool (decide (q < p))) := X.int hx hy (by simp [binOp, Op.intCmp])
theorem X.geq (hx : ev σ x = .int k p) (hy : ev σ y = .int k q) : X P σ w (.binOp .geq xt x y yt) t (.bool (decide (q ≤ p))) := X.int hx hy (by simp [binOp, Op.intCmp])
theorem beq_decide {a b : Int} : (a == b) = decide (a = b) := by by_cases h : a = b <;> simp [h]
theorem bne_decide {a b : Int} : (a != b) = decide (a ≠ b) := by by_cases h : a = b <;> simp [h]
theorem X.eql (hx : ev σ x = .int k p) (hy : ev σ y = .int k q) : X P σ w (.binOp .eql xt x y yt) t (.bool (decide (p = q))) := X.int hx hy (by simp [binOp, Op.intCmp, beq_decide])
theorem X.neq (hx : ev σ x = .int k p) (hy : ev σ y = .int k q) : X P σ w (.binOp .neq xt x y yt) t (.bool (decide (p ≠ q))) := X.int hx hy (by simp [binOp, Op.intCmp, bne_decide])
/-- What the model reckons bit by bit, at a kind. -/
def bitop (o : BinOp) (k : IntKind) (a b : Int) : Int :=
  match o with
  | .and => k.wrap ((BitVec.ofInt k.bits a &&& BitVec.ofInt k.bits b).toNat)
  | .or => k.wrap ((BitVec.ofInt k.bits a ||| BitVec.ofInt k.bits b).toNat)
  | .xor => k.wrap ((BitVec.ofInt k.bits a ^^^ BitVec.ofInt k.bits b).toNat)
  | _ => k.wrap ((BitVec.ofInt k.bits a &&& ~~~ BitVec.ofInt k.bits b).toNat)
theorem X.and (hx : ev σ x = .int k p) (hy : ev σ y = .int k q) : X P σ w (.binOp .and xt x y yt) t (.int k (bitop .and k p q)) := X.int hx hy (by simp [binOp, Op.intBits, bitop])
theorem X.or (hx : ev σ x = .int k p) (hy : ev σ y = .int k q) : X P σ w (.binOp .or xt x y yt) t (.int k (bitop .or k p q)) := X.int hx hy (by simp [binOp, Op.intBits, bitop])
theorem X.xor (hx : ev σ x = .int k p) (hy : ev σ y = .int k q) : X P σ w (.binOp .xor xt x y yt) t (.int k (bitop .xor k p q)) := X.int hx hy (by simp [binOp, Op.intBits, bitop])
theorem X.andNot (hx : ev σ x = .int k p) (hy : ev σ y = .int k q) : X P σ w (.binOp .andNot xt x y yt) t (.int k (bitop .andNot k p q)) := X.int hx hy (by simp [binOp, Op.intBits, bitop])
theorem X.shl {k' : IntKind} (hx : ev σ x = .int k p) (hy : ev σ y = .int k' q) (h0 : 0 ≤ q) : X P σ w (.binOp .shl xt x y yt) t (.int k (k.wrap (p * 2 ^ (min q.toNat k.bits)))) :=
  X.int hx hy (by simp [binOp, Op.shift, show ¬ q < 0 by omega])
theorem X.shr {k' : IntKind} (hx : ev σ x = .int k p) (hy : ev σ y = .int k' q) (h0 : 0 ≤ q) : X P σ w (.binOp .shr xt x y yt) t (.int k (p.fdiv (2 ^ (min q.toNat k.bits)))) :=
  X.int hx hy (by simp [binOp, Op.shift, show ¬ q < 0 by omega])
theorem X.not {b : Bool} (hx : ev σ x = .bool b) : X P σ w (.unOp .not xt x) t (.bool (!b)) := fun _ _ _ _ => by simp [execOp, hx, Op.unary]
theorem X.notp {s : Prop} [Decidable s] (hx : ev σ x = .bool (decide s)) : X P σ w (.unOp .not xt x) t (.bool (decide (¬ s))) := fun _ _ _ _ => by simp [execOp, hx, Op.unary]
theorem X.neg (hx : ev σ x = .int .i64 p) (h1 : -9223372036854775808 ≤ -p) (h2 : -p ≤ 9223372036854775807) : X P σ w (.unOp .neg xt x) t (.int .i64 (-p)) := fun _ _ _ _ => by
  simp [execOp, hx, Op.unary, Op.intArith, wrap_i64 h1 h2]
theorem X.negw (hx : ev σ x = .int k p) : X P σ w (.unOp .neg xt x) t (.int k (k.wrap (-p))) := fun _ _ _ _ => by
  simp [execOp, hx, Op.unary, Op.intArith]
theorem X.conv {k' : IntKind} {ds : TypeDesc} (hs : P.underlying xt = some ds) (hd : P.underlying yt = some (.int k')) (hx : ev σ x = .int k p) : X P σ w (.convert xt yt x) t (.int k' (k'.wrap p)) := by
  intro d pos af g
  have hr : (convert xt yt (.int k p)).run P w = .ok (.int k' (k'.wrap p)) w := by
    cases ds <;> simp [convert, run_underlying hs, run_underlying hd, Conv.intToInt]
  simp [execOp, hx, hr]
/-- A conversion that changes nothing but the kind. -/
theorem X.convi {k' : IntKind} {ds : TypeDesc} (hs : P.underlying xt = some ds) (hd : P.underlying yt = some (.int k')) (hx : ev σ x = .int k p) (hw : k'.wrap p = p) : X P σ w (.convert xt yt x) t (.int k' p) := by
  have := X.conv (t := t) (w := w) (xt := xt) hs hd hx; rwa [hw] at this
theorem X.convu {ds : TypeDesc} (hs : P.underlying xt = some ds) (hd : P.underlying yt = some (.int .u64)) (hx : ev σ x = .int k p) : X P σ w (.convert xt yt x) t (.int .u64 (p % 18446744073709551616)) := by
  have := X.conv (t := t) (w := w) (xt := xt) hs hd hx; rwa [wrap_u64] at this
theorem X.ex1_0 {a : Value} (hx : ev σ x = .tuple #[a]) : X P σ w (.extract x 0) t a := fun _ _ _ _ => by simp [execOp, hx, Instr.extract]
theorem X.ex2_0 {a b : Value} (hx : ev σ x = .tuple #[a, b]) : X P σ w (.extract x 0) t a := fun _ _ _ _ => by simp [execOp, hx, Instr.extract]
theorem X.ex2_1 {a b : Value} (hx : ev σ x = .tuple #[a, b]) : X P σ w (.extract x 1) t b := fun _ _ _ _ => by simp [execOp, hx, Instr.extract]
theorem X.ex3_0 {a b c : Value} (hx : ev σ x = .tuple #[a, b, c]) : X P σ w (.extract x 0) t a := fun _ _ _ _ => by simp [execOp, hx, Instr.extract]
theorem X.ex3_1 {a b c : Value} (hx : ev σ x = .tuple #[a, b, c]) : X P σ w (.extract x 1) t b := fun _ _ _ _ => by simp [execOp, hx, Instr.extract]
theorem X.ex3_2 {a b c : Value} (hx : ev σ x = .tuple #[a, b, c]) : X P σ w (.extract x 2) t c := fun _ _ _ _ => by simp [execOp, hx, Instr.extract]
theorem X.extract {vs : Array Value} {i : Nat} (hx : ev σ x = .tuple vs) (hi : vs[i]? = some v) : X P σ w (.extract x i) t v := fun _ _ _ _ => by simp [execOp, hx, Instr.extract, hi]
theorem run_bool_equalIn {ds : TypeId} {a b : Bool} (m : Nat) (hs : P.underlying ds = some .bool) : (Op.equalIn (m + 1) ds (.bool a) (.bool b)).run P w = .ok (a == b) w := by
  simp [Op.equalIn, run_underlying hs]
theorem run_bool_equal {ds : TypeId} {a b : Bool} (hs : P.underlying ds = some .bool) : (Op.equal ds (.bool a) (.bool b)).run P w = .ok (a == b) w := run_bool_equalIn 9999 hs
theorem run_ptr_equalIn {ds e : TypeId} {a : Option Addr} (m : Nat) (hs : P.underlying ds = some (.pointer e)) : (Op.equalIn (m + 1) ds (.pointer a) (.pointer none)).run P w = .ok a.isNone w := by
  cases a <;> simp [Op.equalIn, run_underlying hs]
theorem run_ptr_equal {ds e : TypeId} {a : Option Addr} (hs : P.underlying ds = some (.pointer e)) : (Op.equal ds (.pointer a) (.pointer none)).run P w = .ok a.isNone w := run_ptr_equalIn 9999 hs
theorem X.eqlB {a b : Bool} (hs : P.underlying xt = some .bool) (hx : ev σ x = .bool a) (hy : ev σ y = .bool b) : X P σ w (.binOp .eql xt x y yt) t (.bool (decide (a = b))) := fun _ _ _ _ => by
  have hg : (eqGuard .eql xt x y (.bool a) (.bool b)).run P w = .ok () w := by simp [eqGuard]
  have : (a == b) = decide (a = b) := by cases a <;> cases b <;> rfl
  simp [execOp, hx, hy, hg, binOp, run_bool_equal hs, this]
theorem X.neqB {a b : Bool} (hs : P.underlying xt = some .bool) (hx : ev σ x = .bool a) (hy : ev σ y = .bool b) : X P σ w (.binOp .neq xt x y yt) t (.bool (decide (a ≠ b))) := fun _ _ _ _ => by
  have hg : (eqGuard .neq xt x y (.bool a) (.bool b)).run P w = .ok () w := by simp [eqGuard]
  have : (!(a == b)) = decide (a ≠ b) := by cases a <;> cases b <;> rfl
  simp [execOp, hx, hy, hg, binOp, run_bool_equal hs, this]
/-- A pointer against nil. -/
theorem X.eqlN {e : TypeId} {a : Option Addr} (hs : P.underlying xt = some (.pointer e)) (hx : ev σ x = .pointer a) (hy : ev σ y = .pointer none) : X P σ w (.binOp .eql xt x y yt) t (.bool a.isNone) := fun _ _ _ _ => by
  have hg : (eqGuard .eql xt x y (.pointer a) (.pointer none)).run P w = .ok () w := by simp [eqGuard]
  have hb : (binOp .eql xt (.pointer a) (.pointer none)).run P w = .ok (.bool a.isNone) w := by
    simp only [binOp, Sem.run_bind, run_ptr_equal hs, Result.andThen_ok, Sem.run_pure]
  simp [execOp, hx, hy, hg, hb]
theorem X.neqN {e : TypeId} {a : Option Addr} (hs : P.underlying xt = some (.pointer e)) (hx : ev σ x = .pointer a) (hy : ev σ y = .pointer none) : X P σ w (.binOp .neq xt x y yt) t (.bool (!a.isNone)) := fun _ _ _ _ => by
  have hg : (eqGuard .neq xt x y (.pointer a) (.pointer none)).run P w = .ok () w := by simp [eqGuard]
  have hb : (binOp .neq xt (.pointer a) (.pointer none)).run P w = .ok (.bool (!a.isNone)) w := by
    simp only [binOp, Sem.run_bind, run_ptr_equal hs, Result.andThen_ok, Sem.run_pure]
  simp [execOp, hx, hy, hg, hb]
theorem toList_beq (a b : ByteArray) : (a.toList == b.toList) = decide (a = b) := by
  rw [ByteArray.toList_eq, ByteArray.toList_eq]
  by_cases h : a = b
  · simp [h]
  · have : ¬ a.data.toList = b.data.toList := fun e => h (ByteArray.ext (Array.ext' e))
    rw [decide_eq_false h]
    simpa using this
theorem X.eqlS {a b : ByteArray} (hx : ev σ x = .string a) (hy : ev σ y = .string b) : X P σ w (.binOp .eql xt x y yt) t (.bool (decide (a = b))) := fun _ _ _ _ => by
  have hg : (eqGuard .eql xt x y (.string a) (.string b)).run P w = .ok () w := by simp [eqGuard]
  simp only [execOp, hx, hy, Sem.run_bind, hg, binOp, Op.stringOp, toList_beq, Sem.run_pure, Result.andThen_ok]
theorem X.neqS {a b : ByteArray} (hx : ev σ x = .string a) (hy : ev σ y = .string b) : X P σ w (.binOp .neq xt x y yt) t (.bool (decide (a ≠ b))) := fun _ _ _ _ => by
  have hg : (eqGuard .neq xt x y (.string a) (.string b)).run P w = .ok () w := by simp [eqGuard]
  have : (!(decide (a = b))) = decide (a ≠ b) := by simp
  simp only [execOp, hx, hy, Sem.run_bind, hg, binOp, Op.stringOp, toList_beq, this, Sem.run_pure, Result.andThen_ok]
theorem X.mkfn {fn : Fn} {first caps : List Operand} {vf vc : List Value} (hf : first.map (ev σ) = vf) (hc : caps.map (ev σ) = vc) : X P σ w (.makeFunc fn first.toArray caps.toArray) t (.func fn vf.toArray vc.toArray) := fun _ _ _ _ => by
  simp [execOp, Instr.makeFunc, hf, hc]
theorem X.min {tys : Array TypeId} (hx : ev σ x = .int k p) (hy : ev σ y = .int k q) : X P σ w (.call ⟨.builtin .min, #[x, y], tys⟩) t (.int k (if q < p then q else p)) := fun _ _ _ _ => by
  simp [execOp, resolve, invoke, builtin, hx, hy, Builtin.min_, Builtin.min2]
theorem X.max {tys : Array TypeId} (hx : ev σ x = .int k p) (hy : ev σ y = .int k q) : X P σ w (.call ⟨.builtin .max, #[x, y], tys⟩) t (.int k (if p < q then q else p)) := fun _ _ _ _ => by
  simp [execOp, resolve, invoke, builtin, hx, hy, Builtin.max_, Builtin.max2]
theorem X.lenSl {st e : TypeId} {a : Option Addr} {l cp : Nat} (hs : P.underlying st = some (.slice e)) (hx : ev σ x = .slice a l cp) : X P σ w (.call ⟨.builtin .len, #[x], #[st]⟩) t (.int .i64 l) := fun _ _ _ _ => by
  simp [execOp, resolve, invoke, builtin, hx, Builtin.len_, run_underlying hs, goInt]
theorem X.lenSt {st : TypeId} {s : ByteArray} (hs : P.underlying st = some .string) (hx : ev σ x = .string s) : X P σ w (.call ⟨.builtin .len, #[x], #[st]⟩) t (.int .i64 s.size) := fun _ _ _ _ => by
  simp [execOp, resolve, invoke, builtin, hx, Builtin.len_, run_underlying hs, goInt]
end
end Sg
