/-
  == and != of structs of plain fields; append of a slice of structs that came in.
-/
import Derived.Test.YtbnllchicnmkiaaDoorReads
import Derived.Laws.StructEq
namespace Sg
open Go Go.RowKit

/-- Two values of a plain type, and whether they are equal. -/
def Cmp (P : Program) (t : TypeId) (a b : Value) (r : Bool) : Prop :=
  (∃ k p q, P.underlying t = some (.int k) ∧ a = .int k p ∧ b = .int k q ∧ r = decide (p = q)) ∨
  (∃ p q, P.underlying t = some .bool ∧ a = .bool p ∧ b = .bool q ∧ r = decide (p = q)) ∨
  (∃ p q, P.underlying t = some .string ∧ a = .string p ∧ b = .string q ∧ r = decide (p = q))
def CmpAll (P : Program) (xs ys : Array Value) : List Field → List Bool → Prop
  | [], [] => True
  | f :: fs, r :: rs => f.name ≠ "_" ∧ (∃ a b, xs[f.offset]? = some a ∧ ys[f.offset]? = some b ∧ Cmp P f.type a b r) ∧ CmpAll P xs ys fs rs
  | _, _ => False

section
variable {P : Program} {w : World} {t : TypeId} {a b : Value} {r : Bool}
theorem run_cmp (m : Nat) (h : Cmp P t a b r) : (Op.equalIn (m + 1) t a b).run P w = .ok r w := by
  rcases h with ⟨k, p, q, hu, rfl, rfl, rfl⟩ | ⟨p, q, hu, rfl, rfl, rfl⟩ | ⟨p, q, hu, rfl, rfl, rfl⟩
  · simp [Op.equalIn, run_underlying hu, beq_decide]
  · have : (p == q) = decide (p = q) := by cases p <;> cases q <;> rfl
    simp [Op.equalIn, run_underlying hu, this]
  · rw [run_equalIn_string w m t p q hu, toList_beq]
theorem run_cmp_part {o : Nat} {xs : Array Value} (h : Cmp P t a b r) {v : Value} (hx : xs[o]? = some v) : (part t xs o).run P w = .ok v w := by
  rcases h with ⟨k, p, q, hu, _⟩ | ⟨p, q, hu, _⟩ | ⟨p, q, hu, _⟩ <;> simp [part, isAgg, run_underlying hu, hx]
theorem run_eqFields (m : Nat) {xs ys : Array Value} : ∀ {fs : List Field} {rs : List Bool}, CmpAll P xs ys fs rs → (Op.eqFields (m + 1) xs ys fs).run P w = .ok (rs.all id) w
  | [], [], _ => by simp [Op.eqFields]
  | [], _ :: _, h => h.elim
  | _ :: _, [], h => h.elim
  | f :: fs, r :: rs, ⟨hn, ⟨a, b, ha, hb, hc⟩, h⟩ => by
    have ih := run_eqFields m h
    simp only [Op.eqFields]
    rw [if_pos hn]
    simp only [Sem.run_bind, run_cmp_part hc ha, run_cmp_part hc hb, Result.andThen_ok, run_cmp m hc]
    cases r
    · simp
    · simpa using ih
theorem fieldsOf_eq {fs : Array Field} (h : P.underlying t = some (.struct fs)) : P.fieldsOf t = fs := by
  unfold Program.fieldsOf
  rw [h]
theorem run_agg_eq (m : Nat) {fs : Array Field} {xs ys : Array Value} {rs : List Bool} (hu : P.underlying t = some (.struct fs)) (hp : P.stoodInHeld t = false) (h : CmpAll P xs ys fs.toList rs) :
    (Op.equalIn (m + 2) t (.agg xs) (.agg ys)).run P w = .ok (rs.all id) w := by
  rw [run_equalIn_agg w (m + 1) t xs ys (by rw [fieldsOf_eq hu]; exact hu) hp, fieldsOf_eq hu]
  exact run_eqFields m h
end
section
variable {P : Program} {n : Sz} {Q : Post} {σ : Env} {w : World} {d : Nat} {t xt yt : TypeId} {x y : Operand}
theorem X.neqAgg {fs : Array Field} {xs ys : Array Value} {rs : List Bool} {z : Bool} (hu : P.underlying xt = some (.struct fs)) (hp : P.stoodInHeld xt = false) (hg : P.eqGuardType P.depth xt = false) (hx : ev σ x = .agg xs) (hy : ev σ y = .agg ys)
    (h : CmpAll P xs ys fs.toList rs) (hz : (!(rs.all id)) = z) : X P σ w (.binOp .neq xt x y yt) t (.bool z) := fun _ _ _ _ => by
  have hgd := run_eqGuard_agg (P := P) w .neq xt x y xs ys hg
  have hb : (binOp .neq xt (.agg xs) (.agg ys)).run P w = .ok (.bool z) w := by
    rw [run_neq_struct (P := P), run_agg_eq 9998 hu hp h]
    simp [← hz]
  simp only [execOp, hx, hy, Sem.run_bind, hgd, Result.andThen_ok, hb, Sem.run_pure]
theorem X.eqlAgg {fs : Array Field} {xs ys : Array Value} {rs : List Bool} {z : Bool} (hu : P.underlying xt = some (.struct fs)) (hp : P.stoodInHeld xt = false) (hg : P.eqGuardType P.depth xt = false) (hx : ev σ x = .agg xs) (hy : ev σ y = .agg ys)
    (h : CmpAll P xs ys fs.toList rs) (hz : rs.all id = z) : X P σ w (.binOp .eql xt x y yt) t (.bool z) := fun _ _ _ _ => by
  have hgd := run_eqGuard_agg (P := P) w .eql xt x y xs ys hg
  have hb : (binOp .eql xt (.agg xs) (.agg ys)).run P w = .ok (.bool z) w := by
    rw [run_eql_struct (P := P), run_agg_eq 9998 hu hp h]
    simp [← hz]
  simp only [execOp, hx, hy, Sem.run_bind, hgd, Result.andThen_ok, hb, Sem.run_pure]
end

theorem flat_len {size : Nat} : ∀ {ess : List (List Value)}, (∀ es ∈ ess, es.length = size) → ess.flatten.length = ess.length * size
  | [], _ => by simp
  | e :: r, h => by
    rw [List.flatten_cons, List.length_append, flat_len (fun es hes => h es (List.mem_cons_of_mem _ hes)), h e (List.mem_cons_self ..), List.length_cons, Nat.succ_mul]; omega
theorem add_none' {b o k : Nat} : (⟨b, o, none⟩ : Addr).add k = ⟨b, o + k, none⟩ := by unfold Addr.add; split <;> simp_all
/-- All the cells of a slice of structs, side by side. -/
theorem RSl.flat {α : Type} {size : Nat} {R : Rd α} {A : Nat → Prop} {w : World} {a : Addr} {c : Nat} {l : List α} (hs : 0 < size) (h : RSl size R A w (.slice (some a) l.length c) l) :
    ∃ ess : List (List Value), ess.length = l.length ∧ (∀ es ∈ ess, es.length = size) ∧ (∀ j u, ess.flatten[j]? = some u → w.cell? (a.add j) = some u) ∧ ∀ j (hj : j < l.length), R A w (ess.getD j []) l[j] := by
  rcases h with ⟨rfl, _⟩ | ⟨b, o, cap, cs, T, fr, hv, _, h2, _, h3⟩
  · exact ⟨[], rfl, (fun _ h => by cases h), (fun j u h => by simp at h), fun j hj => absurd hj (by simp)⟩
  · simp only [Value.slice.injEq, Option.some.injEq] at hv
    obtain ⟨rfl, _⟩ := hv
    let f : Fin l.length → List Value := fun j => (h3 j.1 j.2).choose
    have hf : ∀ j : Fin l.length, (f j).length = size ∧ (∀ i, i < size → cs[o + j.1 * size + i]? = (f j)[i]?) ∧ R A w (f j) l[j.1] := fun j => (h3 j.1 j.2).choose_spec
    have hlen : ∀ es ∈ List.ofFn f, es.length = size := fun es hes => by
      obtain ⟨j, rfl⟩ := (List.mem_ofFn).1 hes
      exact (hf j).1
    have hget : ∀ j (hj : j < l.length), (List.ofFn f).getD j [] = f ⟨j, hj⟩ := fun j hj => by
      rw [List.getD_eq_getElem?_getD, List.getElem?_ofFn, dif_pos hj]; rfl
    refine ⟨List.ofFn f, by simp, hlen, fun j u hu => ?_, fun j hj => by rw [hget j hj]; exact (hf ⟨j, hj⟩).2.2⟩
    have hlt : j < (List.ofFn f).flatten.length := (List.getElem?_eq_some_iff.1 hu).1
    have hfl : (List.ofFn f).flatten.length = l.length * size := by rw [flat_len hlen]; simp
    rw [hfl] at hlt
    have hq : j / size < l.length := (Nat.div_lt_iff_lt_mul hs).2 hlt
    have hr : j % size < size := Nat.mod_lt _ hs
    have e : j = j / size * size + j % size := by rw [Nat.mul_comm]; exact (Nat.div_add_mod j size).symm
    rw [e, flatten_at hlen (by simpa using hq) hr, hget _ hq] at hu
    rw [add_none']
    have := (hf ⟨j / size, hq⟩).2.1 (j % size) hr
    unfold World.cell?
    simp only [h2]
    rw [show o + j = o + j / size * size + j % size by omega, this, hu]
    rfl
end Sg
