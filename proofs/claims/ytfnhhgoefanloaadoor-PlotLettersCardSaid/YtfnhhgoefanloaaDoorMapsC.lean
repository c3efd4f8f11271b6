/-
  Maps from places to letters; floats counted up and down.
-/
import Derived.Test.YtfnhhgoefanloaaDoorCpx
import Derived.Test.YtfnhhgoefanloaaDoorLetters
set_option linter.unusedVariables false
set_option linter.unusedSimpArgs false
namespace Sg
open Go Go.RowKit
theorem mul_all : ((List.range 4).all fun r => (Sg.rng 5).all fun x => (Sg.rng 5).all fun y => match mulT r (x, y) with | some (u, v) => backT u == some (rot r (x, y)).1 && backT v == some (rot r (x, y)).2 | none => false) = true := by decide +kernel
theorem mul_at {r : Nat} {p : Pl} (hr : r < 4) (h : -5 ≤ p.1 ∧ p.1 ≤ 5 ∧ -5 ≤ p.2 ∧ p.2 ≤ 5) : ∃ u v, cMulBits (fb p.1) (fb p.2) (byb r).1 (byb r).2 = some (u, v) ∧ (FloatKind.f64.decode u).toInt .zero = some (rot r p).1 ∧ (FloatKind.f64.decode v).toInt .zero = some (rot r p).2 := by
  have h1 := List.all_eq_true.1 (List.all_eq_true.1 (List.all_eq_true.1 mul_all r (List.mem_range.2 hr)) p.1 (Sg.mem_rng h.1 h.2.1)) p.2 (Sg.mem_rng h.2.2.1 h.2.2.2)
  cases hm : mulT r (p.1, p.2) with
  | none => rw [hm] at h1; cases h1
  | some uv =>
    rw [hm] at h1
    obtain ⟨u, v⟩ := uv
    simp only [Bool.and_eq_true, beq_iff_eq] at h1
    exact ⟨u, v, hm, h1.1, h1.2⟩
theorem add_all : ((Sg.rng 6).all fun x => floatBits .add .f64 (fb x) 4607182418800017408 == some (fb (x + 1)) && floatBits .sub .f64 (fb x) 4607182418800017408 == some (fb (x - 1))) = true := by decide +kernel
theorem fb_next {x : Int} (h1 : -6 ≤ x) (h2 : x ≤ 6) : floatBits .add .f64 (fb x) 4607182418800017408 = some (fb (x + 1)) ∧ floatBits .sub .f64 (fb x) 4607182418800017408 = some (fb (x - 1)) := by
  have := List.all_eq_true.1 add_all x (Sg.mem_rng h1 h2)
  simpa using this
theorem and3 (q : Int) : bitop .and .i64 q 3 = (((q % 4).toNat : Nat) : Int) := by
  have h1 : (BitVec.ofInt 64 q &&& BitVec.ofInt 64 3).toNat = (q % 4).toNat := by
    rw [BitVec.toNat_and, show (BitVec.ofInt 64 3).toNat = 2 ^ 2 - 1 from rfl, Nat.and_two_pow_sub_one_eq_mod, BitVec.toNat_ofInt]
    omega
  show IntKind.i64.wrap ((BitVec.ofInt 64 q &&& BitVec.ofInt 64 3).toNat) = _
  rw [h1]
  exact wrap_i64 (by omega) (by omega)
section
variable {P : Program} {n : Sz} {Q : Post} {σ : Env} {w : World} {ops : Array Oper} {rest : List Oper}
variable {d : Nat} {t xt yt : TypeId} {pos : String} {af : Array Edge} {x y : Operand} {a b c e r s : Nat}
theorem X.farith {o : BinOp} (ho : o = .add ∨ o = .sub) (h1 : ev σ x = .float .f64 a) (h2 : ev σ y = .float .f64 b) (h : floatBits o .f64 a b = some r) : X P σ w (.binOp o xt x y yt) t (.float .f64 r) := fun _ _ _ _ => by
  have hb : (binOp o xt (.float .f64 a) (.float .f64 b)).run P w = .ok (.float .f64 r) w := by
    rcases ho with rfl | rfl <;> simp [binOp, run_floatArith w h]
  simp only [execOp, h1, h2, Sem.run_bind, run_fguard, Result.andThen_ok, hb, Sem.run_pure]
/-- Block b is a map of these letters, each place once. -/
def MG (w : World) (b : Nat) (l : List (Pl × UInt8)) : Prop := ∃ es clock, w.heap[b]? = some (.map es clock) ∧ es.toList.map (fun e => (e.key, e.val)) = l.map fun x => (cv x.1, Value.int .u8 (x.2.toNat : Int))
theorem MG.ch {F : Nat → Prop} {w w' : World} {b : Nat} {l : List (Pl × UInt8)} (h : MG w b l) (c : Ch F w w') (hb : ¬ F b) : MG w' b l := by
  obtain ⟨es, clock, h1, h2⟩ := h
  exact ⟨es, clock, c.at h1 hb, h2⟩
theorem MG.lt {w : World} {b : Nat} {l : List (Pl × UInt8)} (h : MG w b l) : b < w.heap.size := by
  obtain ⟨es, clock, h1, _⟩ := h; exact lt_of_blk h1
theorem WL.mkMapG (hn : Nat.blt d n.sz = true) (h : ∀ w', MG w' w.heap.size [] → Ch0 w w' → w'.heap.size = w.heap.size + 1 → WL P n ops Q rest (up σ d (.map (some w.heap.size))) w') :
    WL P n ops Q (⟨some d, .makeMap xt none, t, pos, af, none⟩ :: rest) σ w := by
  have hnw := nw_alloc w (.map #[] 0)
  refine WL.step (w' := w.alloc (.map #[] 0)) rfl rfl hn ?_ (h _ ⟨#[], 0, hnw.at_, rfl⟩ hnw.ch hnw.size)
  simp [execOp, run_makeMap]
theorem run_ceqB {k : TypeId} {p q : Pl} (hk : P.underlying k = some (.complex .f64)) (hp : Near 10 p) (hq : Near 10 q) (w : World) : (Op.equal k (cv p) (cv q)).run P w = .ok (decide (p = q)) w := by
  have e1 : Op.floatEq .f64 (fb p.1) (fb q.1) = decide (p.1 = q.1) := feq hp.1.1 hp.1.2 hq.1.1 hq.1.2
  have e2 : Op.floatEq .f64 (fb p.2) (fb q.2) = decide (p.2 = q.2) := feq hp.2.1 hp.2.2 hq.2.1 hq.2.2
  have : (decide (p.1 = q.1) && decide (p.2 = q.2)) = decide (p = q) := by
    rw [Bool.eq_iff_iff]
    simp [Prod.ext_iff]
  rw [← this, ← e1, ← e2]
  exact run_ceqIn 9999 hk w
/-- The letter at a place, if there is one. -/
def atG : List (Pl × UInt8) → Pl → Option UInt8
  | [], _ => none
  | x :: l, p => if p = x.1 then some x.2 else atG l p
theorem run_findG {k : TypeId} {p : Pl} (hk : P.underlying k = some (.complex .f64)) (hp : Near 10 p) (w : World) : ∀ {es : List MapEntry} {l : List (Pl × UInt8)} {i : Nat}, es.map (fun e => (e.key, e.val)) = l.map (fun x => (cv x.1, Value.int .u8 (x.2.toNat : Int))) → (∀ q ∈ l, Near 10 q.1) →
    ∃ r, (Instr.findAsking k (cv p) es i).run P w = .ok r w ∧ r.map Prod.snd = (atG l p).map fun c => Value.int .u8 (c.toNat : Int)
  | [], [], _, _, _ => ⟨none, rfl, rfl⟩
  | [], _ :: _, _, h, _ => by simp at h
  | e :: es, [], _, h, _ => by simp at h
  | e :: es, q :: l, i, h, hl => by
    simp only [List.map_cons, List.cons.injEq, Prod.mk.injEq] at h
    have hq := hl q (List.mem_cons_self ..)
    have h1 := run_ceqB hk hp hq w
    rw [← h.1.1] at h1
    unfold Instr.findAsking
    by_cases hpq : p = q.1
    · refine ⟨some (i, e.val), ?_, ?_⟩
      · rw [decide_eq_true hpq] at h1
        simp only [Sem.run_bind, h1, Result.andThen_ok, if_true, Sem.run_pure]
      · unfold atG; rw [if_pos hpq]; simp [h.1.2]
    · obtain ⟨r, h2, h3⟩ := run_findG (i := i + 1) hk hp w h.2 (fun r hr => hl r (List.mem_cons_of_mem _ hr))
      refine ⟨r, ?_, ?_⟩
      · rw [decide_eq_false hpq] at h1
        simp only [Sem.run_bind, h1, Result.andThen_ok]
        exact h2
      · unfold atG; rw [if_neg hpq]; exact h3
theorem run_checkC {k : TypeId} {p : Pl} {em : Bool} (hk : P.underlying k = some (.complex .f64)) (w : World) : (Instr.checkKey em 10000 k (cv p)).run P w = .ok () w := by
  show (Instr.checkKey em (9999 + 1) k (cv p)).run P w = _
  unfold Instr.checkKey
  simp [run_underlying hk]
theorem run_keyG {k : TypeId} {p : Pl} (hk : P.underlying k = some (.complex .f64)) (hp : Near 10 p) (w : World) {es : List MapEntry} {l : List (Pl × UInt8)} (h : es.map (fun e => (e.key, e.val)) = l.map (fun x => (cv x.1, Value.int .u8 (x.2.toNat : Int)))) (hl : ∀ q ∈ l, Near 10 q.1) :
    ∃ r, (Instr.findKey k (cv p) es).run P w = .ok r w ∧ r.map Prod.snd = (atG l p).map fun c => Value.int .u8 (c.toNat : Int) := by
  unfold Instr.findKey
  cases es with
  | nil =>
    cases l with
    | nil => exact ⟨none, by simp [Sem.run_bind, run_underlying hk, Instr.findNow], rfl⟩
    | cons q l => simp at h
  | cons e0 er =>
    cases l with
    | nil => simp at h
    | cons q l =>
      have hkey : e0.key = cv q.1 := by simp only [List.map_cons, List.cons.injEq, Prod.mk.injEq] at h; exact h.1.1
      have hnow : Instr.findNow (.complex .f64) (cv p) (e0 :: er) 0 = none := by unfold Instr.findNow; rw [hkey]; rfl
      obtain ⟨r, h1, h2⟩ := run_findG (i := 0) hk hp w h hl
      exact ⟨r, by simp [Sem.run_bind, run_underlying hk, hnow, h1], h2⟩
theorem X.lookG {m : Operand} {k e' : TypeId} {bytes : Nat} {p : Pl} {l : List (Pl × UInt8)} (ht : P.underlying xt = some (.map k e')) (hk : P.underlying k = some (.complex .f64)) (hel : Elem P e' 1 (.int .u8 0) bytes) (h1 : ev σ m = .map (some b)) (h2 : ev σ x = cv p)
    (hp : Near 10 p) (hl : ∀ q ∈ l, Near 10 q.1) (h : MG w b l) : X P σ w (.lookup xt m x true) t (.tuple #[.int .u8 (((atG l p).map UInt8.toNat).getD 0 : Nat), .bool (atG l p).isSome]) := fun _ _ _ _ => by
  obtain ⟨es, clock, hb, hes⟩ := h
  obtain ⟨i, hi, _, hzv, _⟩ := hel
  have hzero : (zeroValue e').run P w = .ok (.int .u8 0) w := by simp [zeroValue, typeInfo, hi, hzv]
  have hg : (getObj b).run P w = .ok (.map es clock) w := by simp [getObj, Sem.run, hb]
  obtain ⟨r, hr, hv⟩ := run_keyG hk hp w hes hl
  have hrun : (Instr.lookup xt (.map (some b)) (cv p) true).run P w = .ok (.tuple #[.int .u8 (((atG l p).map UInt8.toNat).getD 0 : Nat), .bool (atG l p).isSome]) w := by
    unfold Instr.lookup
    simp only [Sem.run_bind, run_underlying ht, Result.andThen_ok, hg, run_checkC hk, hr, Sem.run_pure]
    cases r with
    | none =>
      have : atG l p = none := by cases hq : atG l p with
        | none => rfl
        | some c => rw [hq] at hv; cases hv
      rw [this]
      simp [hzero, Sem.run_bind]
    | some iv =>
      cases hq : atG l p with
      | none => rw [hq] at hv; cases hv
      | some c =>
        rw [hq] at hv
        simp only [Option.map_some, Option.some.injEq] at hv
        obtain ⟨i, v⟩ := iv
        dsimp only at hv
        subst hv
        simp [Sem.run_bind]
  simp [execOp, h1, h2, hrun]
theorem atG_mem {l : List (Pl × UInt8)} {p : Pl} {c : UInt8} : atG l p = some c → (p, c) ∈ l := by
  induction l with
  | nil => intro h; cases h
  | cons x l ih =>
    intro h
    unfold atG at h
    split at h
    · rename_i hp; injection h with h; subst h; subst hp; exact List.mem_cons_self
    · exact List.mem_cons_of_mem _ (ih h)
theorem atG_none {l : List (Pl × UInt8)} {p : Pl} (h : atG l p = none) : p ∉ l.map Prod.fst := by
  induction l with
  | nil => simp
  | cons x l ih =>
    unfold atG at h
    split at h
    · cases h
    · rename_i hp
      rw [List.map_cons, List.mem_cons, not_or]
      exact ⟨hp, ih h⟩
theorem WL.mapSetG {m z : Operand} {k e : TypeId} {b : Nat} {p : Pl} {l : List (Pl × UInt8)} {c : UInt8} (ht : P.underlying xt = some (.map k e)) (hk : P.underlying k = some (.complex .f64)) (h1 : ev σ m = .map (some b)) (h2 : ev σ x = cv p) (h3 : ev σ z = .int .u8 (c.toNat : Int))
    (hp : Near 10 p) (hl : ∀ q ∈ l, Near 10 q.1) (hno : p ∉ l.map Prod.fst) (h : MG w b l) (hk2 : ∀ w', MG w' b (l ++ [(p, c)]) → Ch (fun i => i = b) w w' → WL P n ops Q rest σ w') :
    WL P n ops Q (⟨none, .mapUpdate xt m x z, t, pos, af, none⟩ :: rest) σ w := by
  obtain ⟨es, clock, hb, hes⟩ := h
  have hn0 : atG l p = none := by
    cases hq : atG l p with
    | none => rfl
    | some c => exact absurd (List.mem_map.2 ⟨_, atG_mem hq, rfl⟩) hno
  obtain ⟨r, hfk, hv⟩ := run_keyG hk hp w hes hl
  have hr : r = none := by
    cases r with
    | none => rfl
    | some iv => rw [hn0] at hv; cases hv
  subst hr
  have hrun : (Instr.mapUpdate xt (.map (some b)) (cv p) (.int .u8 (c.toNat : Int))).run P w = .ok () { w with heap := w.heap.setIfInBounds b (.map (es.push { key := cv p, val := .int .u8 (c.toNat : Int), born := clock }) (clock + 1)) } := by
    have hg : (getObj b).run P w = .ok (.map es clock) w := by simp [getObj, Sem.run, hb]
    have hs : ∀ o, (setObj b o).run P w = .ok () { w with heap := w.heap.setIfInBounds b o } := fun o => by simp [setObj, Sem.run, hb]
    unfold Instr.mapUpdate
    simp only [Sem.run_bind, run_underlying ht, Result.andThen_ok, hg, run_checkC hk, hfk, hs]
  have hlt := lt_of_blk hb
  refine WL.skp (w' := { w with heap := w.heap.setIfInBounds b (.map (es.push { key := cv p, val := .int .u8 (c.toNat : Int), born := clock }) (clock + 1)) }) rfl rfl ?_ (hk2 _ ⟨es.push { key := cv p, val := .int .u8 (c.toNat : Int), born := clock }, clock + 1, ?_, ?_⟩ ?_)
  · simp [execOp, h1, h2, h3, hrun]
  · simp [hlt]
  · simp [hes]
  · exact ⟨rfl, rfl, rfl, by simp, fun i hi hn => by simp only [Array.getElem?_setIfInBounds]; rw [if_neg (fun e => hn e.symm)]⟩
end
end Sg
