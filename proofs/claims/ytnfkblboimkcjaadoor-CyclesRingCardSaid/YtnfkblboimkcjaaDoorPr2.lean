/-
  Slices whose elements are structs, read as lists; slices that are built of structs; append of what came in. | == and != of structs of plain fields; append of a slice of structs that came in. | Slices of structs (or arrays) of plain fields: an element is told by its cells. | What there is to know of the types and functions of the translation, one a line. | Plain facts on numbers of 64 bits: how many bits are set, by masks and sums. | Plain facts on sets of small numbers as lists of words of 64 bits. | A part of the walk of the program.
-/
import Derived.Test.YtnfkblboimkcjaaDoorPr1
import Derived.Great.FillDense
import Derived.Laws.StructEq
import Derived.Test.YtnfkblboimkcjaaDoorProg
import Derived.Lib.TrailingZeros
section
namespace Sg
open Go Go.RowKit

/-- How some cells read as something, by way of blocks that are let. -/
abbrev Rd (α : Type) := (Nat → Prop) → World → List Value → α → Prop
def Mon {α : Type} (R : Rd α) : Prop := ∀ (A A' F : Nat → Prop) (w w' : World) (es : List Value) (x : α), Ch F w w' → (∀ k, A k → ¬ F k) → (∀ k, A k → A' k) → R A w es x → R A' w' es x
/-- The slice v reads as l, its elements of `size` cells. -/
def RSl {α : Type} (size : Nat) (R : Rd α) (A : Nat → Prop) (w : World) (v : Value) (l : List α) : Prop :=
  (l = [] ∧ ∃ a c, v = .slice a 0 c) ∨ ∃ b o cap cs T fr, v = .slice (some ⟨b, o, none⟩) l.length cap ∧ l.length ≤ cap ∧ w.heap[b]? = some (.cells cs T fr) ∧ A b ∧
    ∀ j (hj : j < l.length), ∃ es : List Value, es.length = size ∧ (∀ i, i < size → cs[o + j * size + i]? = es[i]?) ∧ R A w es l[j]
/-- The slice reads as a list of plain values, by way of a block that is let. -/
def SlA (A : Nat → Prop) (w : World) (v : Value) (l : List Value) : Prop := Sl w v l ∧ ∀ k, slBlk v k → A k
abbrev all : Nat → Prop := fun _ => True

section
variable {α : Type} {size : Nat} {R : Rd α} {A A' F : Nat → Prop} {w w' : World} {v : Value} {l : List α}
theorem RSl.ch (hR : Mon R) (h : RSl size R A w v l) (c : Ch F w w') (hF : ∀ k, A k → ¬ F k) (hA : ∀ k, A k → A' k) : RSl size R A' w' v l := by
  rcases h with h | ⟨b, o, cap, cs, T, fr, rfl, h1, h2, hb, h3⟩
  · exact .inl h
  · refine .inr ⟨b, o, cap, cs, T, fr, rfl, h1, c.at h2 (hF b hb), hA b hb, fun j hj => ?_⟩
    obtain ⟨es, e1, e2, e3⟩ := h3 j hj
    exact ⟨es, e1, e2, hR _ _ _ _ _ _ _ c hF hA e3⟩
theorem RSl.ch0 (hR : Mon R) (h : RSl size R A w v l) (c : Ch0 w w') : RSl size R A w' v l := h.ch hR c (fun _ _ => id) (fun _ => id)
theorem RSl.len (h : RSl size R A w v l) : ∃ a cap, v = .slice a l.length cap := by
  rcases h with ⟨rfl, a, c, rfl⟩ | ⟨b, o, cap, cs, T, fr, rfl, _⟩
  · exact ⟨a, c, rfl⟩
  · exact ⟨_, cap, rfl⟩
theorem RSl.at {a : Option Addr} {m c : Nat} (h : RSl size R A w (.slice a m c) l) {k : Nat} (hk : k < l.length) :
    ∃ b o cs T fr, ∃ es : List Value, a = some ⟨b, o, none⟩ ∧ w.heap[b]? = some (.cells cs T fr) ∧ es.length = size ∧ (∀ i, i < size → cs[o + (k : Int).toNat * size + i]? = es[i]?) ∧ R A w es l[k] := by
  rcases h with ⟨rfl, _⟩ | ⟨b, o, cap, cs, T, fr, hv, _, h2, hb, h3⟩
  · simp at hk
  · simp only [Value.slice.injEq] at hv
    obtain ⟨es, e1, e2, e3⟩ := h3 k hk
    exact ⟨b, o, cs, T, fr, es, hv.1, h2, e1, e2, e3⟩
theorem SlA.ch {l : List Value} (h : SlA A w v l) (c : Ch F w w') (hF : ∀ k, A k → ¬ F k) (hA : ∀ k, A k → A' k) : SlA A' w' v l :=
  ⟨h.1.ch c (fun k hk => hF k (h.2 k hk)), fun k hk => hA k (h.2 k hk)⟩
theorem SlA.ch0 {l : List Value} (h : SlA A w v l) (c : Ch0 w w') : SlA A w' v l := h.ch c (fun _ _ => id) (fun _ => id)

/-- As `ownsRow`, the elements read. -/
def ORow (size : Nat) (R : Rd α) (A : Nat → Prop) (w : World) (base : Nat) (e : TypeId) (v : Value) (l : List α) : Prop :=
  ∃ ess : List (List Value), ess.length = l.length ∧ (∀ es ∈ ess, es.length = size) ∧ w.ownsRow base e size v l.length ess.flatten ∧ ∀ j (hj : j < l.length), R A w (ess.getD j []) l[j]
theorem ORow.nil {base : Nat} {e : TypeId} : ORow size R A w base e (.slice none 0 0) ([] : List α) :=
  ⟨[], rfl, (fun _ h => by cases h), World.ownsRow_nil _ _ _ _, fun j hj => absurd hj (by simp)⟩
theorem flatten_at {ess : List (List Value)} (h : ∀ es ∈ ess, es.length = size) : ∀ {j i : Nat}, j < ess.length → i < size → ess.flatten[j * size + i]? = (ess.getD j [])[i]? := by
  induction ess with
  | nil => intro j i hj; simp at hj
  | cons e r ih =>
    intro j i hj hi
    have he := h e (List.mem_cons_self ..)
    rw [List.flatten_cons]
    cases j with
    | zero => rw [Nat.zero_mul, Nat.zero_add, List.getElem?_append_left (by omega)]; rfl
    | succ j =>
      have e1 : (j + 1) * size + i = e.length + (j * size + i) := by rw [he, Nat.succ_mul]; omega
      rw [e1, List.getElem?_append_right (by omega), Nat.add_sub_cancel_left, ih (fun es hes => h es (List.mem_cons_of_mem _ hes)) (by simpa using hj) hi]
      simp [List.getD_eq_getElem?_getD]
theorem ORow.rsl {base : Nat} {e : TypeId} (h : ORow size R A w base e v l) (hA : ∀ k, slBlk v k → A k) : RSl size R A w v l := by
  obtain ⟨ess, h1, h2, ⟨hl, h3⟩, h4⟩ := h
  rcases h3 with ⟨rfl, h0⟩ | ⟨g, cap, cur, rfl, _, hg, hc, _, hs, ht⟩
  · exact .inl ⟨List.eq_nil_of_length_eq_zero h0, _, _, rfl⟩
  · refine .inr ⟨g, 0, cap, cur, e, (0, 0), rfl, hc, hg, hA g rfl, fun j hj => ⟨ess.getD j [], ?_, fun i hi => ?_, h4 j hj⟩⟩
    · have hj' : j < ess.length := by omega
      rw [List.getD_eq_getElem?_getD, List.getElem?_eq_getElem hj']
      exact h2 _ (List.getElem_mem hj')
    · rw [← flatten_at h2 (by omega) hi, ← ht, List.getElem?_take, if_pos ?_]
      · simp
      · have : (j + 1) * size ≤ l.length * size := Nat.mul_le_mul_right _ hj
        rw [Nat.succ_mul] at this
        omega
end

section
variable {P : Program} {n : Nat} {Q : Post} {σ : Env} {w : World} {ops : Array Oper} {rest : List Oper}
variable {d : Nat} {t xt yt : TypeId} {pos : String} {af : Array Edge} {v : Value} {x y : Operand} {b o : Nat} {cs : Array Value} {T : TypeId} {fr : Nat × Nat}

/-- A whole struct out of a variable of its own. -/
theorem X.loadBox {k : Nat} {vs : List Value} (ht : Aggr P xt k) (hx : ev σ x = .pointer (some ⟨b, 0, none⟩)) (hm : w.heap[b]? = some (.cells vs.toArray T fr)) (hl : vs.length = k) : X P σ w (.load xt x) t (.agg vs.toArray) :=
  X.loadS ht hx hm hl (fun j hj => by simp)
/-- A slice against nil. -/
theorem run_sl_equalIn {ds e : TypeId} {a : Option Addr} {m c : Nat} (q : Nat) (hs : P.underlying ds = some (.slice e)) : (Op.equalIn (q + 1) ds (.slice a m c) (.slice none 0 0)).run P w = .ok a.isNone w := by
  cases a <;> simp [Op.equalIn, run_underlying hs]
theorem run_sl_equal {ds e : TypeId} {a : Option Addr} {m c : Nat} (hs : P.underlying ds = some (.slice e)) : (Op.equal ds (.slice a m c) (.slice none 0 0)).run P w = .ok a.isNone w := run_sl_equalIn 9999 hs
theorem X.eqlSl {e : TypeId} {a : Option Addr} {m c : Nat} (hs : P.underlying xt = some (.slice e)) (hx : ev σ x = .slice a m c) (hy : ev σ y = .slice none 0 0) : X P σ w (.binOp .eql xt x y yt) t (.bool a.isNone) := fun _ _ _ _ => by
  have hg : (eqGuard .eql xt x y (.slice a m c) (.slice none 0 0)).run P w = .ok () w := by simp [eqGuard]
  have hb : (binOp .eql xt (.slice a m c) (.slice none 0 0)).run P w = .ok (.bool a.isNone) w := by
    simp only [binOp, Sem.run_bind, run_sl_equal hs, Result.andThen_ok, Sem.run_pure]
  simp [execOp, hx, hy, hg, hb]

/-- A slice that is built of parts, all of them given, each of `size` cells. -/
theorem run_bsliceR {e : TypeId} {size bytes : Nat} {z : Value} {vs : List Value} (hs : P.underlying t = some (.slice e)) (he : Elem P e size z bytes) (h0 : 0 < size) (hv : ∀ u ∈ vs, u.cells.size = size) (hb : vs.length * size ≤ 16777216) :
    (Instr.buildSlice t vs.length ((vs.zipIdx 0).map fun u => (u.2, u.1)).toArray).run P w = .ok (.slice (some ⟨w.heap.size, 0, none⟩) vs.length vs.length) (w.alloc (.cells (vs.flatMap fun u => u.cells.toList).toArray e)) := by
  obtain ⟨i, hi, hi1, hz, _⟩ := he
  unfold Instr.buildSlice
  have hf : ∀ cells : Array Value, cells.size = vs.length * size → Instr.fill (fun i => some (i * size, size)) cells ((vs.zipIdx 0).map fun u => (u.2, u.1)) = some (vs.flatMap fun u => u.cells.toList).toArray :=
    fun cells hc => Great.fill_whole h0 vs cells hv hc.symm
  simp only [Sem.run_bind, run_underlying hs, Result.andThen_ok, Go.sizeOf, typeInfo, run_program, hi, Sem.run_pure, hi1, zeroValue]
  rw [if_neg (by omega)]
  by_cases hn : vs.length * size = 0
  · rw [if_pos hn]
    simp only [pure_bind]
    rw [hf _ (by simp)]
    simp [newRow]
  · rw [if_neg hn]
    simp only [Sem.run_bind, Sem.run_pure, Result.andThen_ok, run_program, hi, hz, pure_bind]
    rw [hf _ (by simp)]
    simp [newRow]
theorem WL.bsliceR {e : TypeId} {size bytes len : Nat} {z : Value} {parts : List (Nat × Operand)} {vs : List Value} (hs : P.underlying xt = some (.slice e)) (he : Elem P e size z bytes) (h0 : 0 < size)
    (hps : parts.map (fun p => (p.1, ev σ p.2)) = (vs.zipIdx 0).map fun u => (u.2, u.1)) (hlen : vs.length = len) (hv : ∀ u ∈ vs, u.cells.size = size) (hb : vs.length * size ≤ 16777216) (hn : Nat.blt d n = true)
    (h : ∀ w', Nw w w' (.cells (vs.flatMap fun u => u.cells.toList).toArray e) → WL P n ops Q rest (up σ d (.slice (some ⟨w.heap.size, 0, none⟩) len len)) w') :
    WL P n ops Q (⟨some d, .buildSlice xt len parts.toArray, t, pos, af, none⟩ :: rest) σ w := by
  subst hlen
  have := run_bsliceR (w := w) hs he h0 hv hb
  have e' : (parts.toArray.map fun x => (x.1, ev σ x.2)) = ((vs.zipIdx 0).map fun u => (u.2, u.1)).toArray := by rw [← hps]; simp
  refine WL.step (w' := w.alloc (.cells (vs.flatMap fun u => u.cells.toList).toArray e)) rfl rfl hn ?_ (h _ (nw_alloc w _))
  simp [execOp, e', this]
theorem owns_empty {b : Nat} {e : TypeId} {size base : Nat} (h : w.heap[b]? = some (.cells #[] e (0, 0))) (hb : base ≤ b) : w.ownsRow base e size (.slice (some ⟨b, 0, none⟩) 0 0) 0 [] :=
  ⟨by simp, .inr ⟨b, 0, #[], rfl, hb, h, Nat.le_refl _, Nat.zero_le _, by simp, by simp⟩⟩

/-- append of a slice, wherever it lies. -/
theorem WL.appendA {s : Operand} {ty : TypeId} {e : TypeId} {size bytes base m k c : Nat} {z vs : Value} {xs news : List Value} {a : Addr} (hs : P.underlying xt = some (.slice e)) (he : Elem P e size z bytes) (hz : z.cells.size = size) (h0 : 0 < size)
    (h1 : ev σ s = vs) (h2 : ev σ x = .slice (some a) k c) (hown : w.ownsRow base e size vs m xs) (hnews : ∀ j u, news[j]? = some u → w.cell? (a.add j) = some u) (hl : news.length = k * size) (hone : ∀ u ∈ news, u.oneCell' = true)
    (g1 : m + k ≤ maxLen) (g2 : (m + k) * bytes ≤ 140737488355328) (g3 : base ≤ w.heap.size) (hn : Nat.blt d n = true)
    (h : ∀ v' w', w'.ownsRow base e size v' (m + k) (xs ++ news) → Ch (slBlk vs) w w' → (v' = .slice none 0 0 ↔ vs = .slice none 0 0 ∧ k = 0) → WL P n ops Q rest (up σ d v') w') :
    WL P n ops Q (⟨some d, .call ⟨.builtin .append, #[s, x], #[xt, xt]⟩, ty, pos, af, none⟩ :: rest) σ w := by
  obtain ⟨i, hi, hi1, hzz, hby⟩ := he
  obtain ⟨v', w', hr, h3, h4, h5⟩ := run_append_own (P := P) w base xt ty e i z size bytes hs hi hzz hi1 hby hz h0 vs m xs hown a k c news hl hnews hone g1 g2 g3
  have hblk : ∀ k, some k ≠ vs.ownBlock ↔ ¬ slBlk vs k := by
    intro k
    rcases hown.2 with ⟨rfl, _⟩ | ⟨g, cap, cur, rfl, _⟩
    · simp [Value.ownBlock, slBlk]
    · simp [Value.ownBlock, slBlk]
  have hch : Ch (slBlk vs) w w' := ⟨h4.os, h4.tape, h4.output, h4.size, fun k hk hn => h4.block k hk ((hblk k).2 hn)⟩
  refine WL.step (w' := w') rfl rfl hn ?_ (h v' w' h3 hch h5)
  simp [execOp, resolve, invoke, builtin, h1, h2, hr]
theorem Sl.news {a : Addr} {c : Nat} {l : List Value} (h : Sl w (.slice (some a) l.length c) l) : ∀ j u, l[j]? = some u → w.cell? (a.add j) = some u := by
  rcases h with ⟨rfl, _⟩ | ⟨b, o, cap, cs, T, fr, hv, _, h2, h3⟩
  · intro j u hu; simp at hu
  · simp only [Value.slice.injEq, Option.some.injEq] at hv
    obtain ⟨rfl, _⟩ := hv
    intro j u hu
    have hj : j < l.length := (List.getElem?_eq_some_iff.1 hu).1
    have hadd : (⟨b, o, none⟩ : Addr).add j = ⟨b, o + j, none⟩ := by unfold Addr.add; split <;> simp_all
    rw [hadd]
    exact cell_of h2 ((h3 j hj).trans hu)
end

def Mine (ts : List TypeId) (base : Nat) (w : World) : Nat → Prop := fun j => base ≤ j ∧ ∃ cs T, T ∈ ts ∧ w.heap[j]? = some (.cells cs T (0, 0))
theorem Mine.ch {ts : List TypeId} {base : Nat} {F : Nat → Prop} {w w' : World} {j : Nat} (h : Mine ts base w j) (c : Ch F w w') (hn : ¬ F j) : Mine ts base w' j := by
  obtain ⟨h1, cs, T, hT, h2⟩ := h
  exact ⟨h1, cs, T, hT, c.at h2 hn⟩
theorem own_mine {w : World} {base b0 m size : Nat} {e : TypeId} {v : Value} {xs : List Value} {ts : List TypeId} (h : w.ownsRow base e size v m xs) (he : e ∈ ts) (hb : b0 ≤ base) : ∀ k, slBlk v k → Mine ts b0 w k := by
  rintro k hk
  rcases h.2 with ⟨rfl, _⟩ | ⟨g, cap, cur, rfl, hb', hg, _⟩
  · exact hk.elim
  · have : k = g := hk
    subst this
    exact ⟨by omega, cur, e, he, hg⟩
theorem ORow.push {α : Type} {size : Nat} {R : Rd α} {A A' : Nat → Prop} {w w' : World} {base : Nat} {e : TypeId} {lv lv' : Value} {l : List α} {x : α} {es : List Value} {ess : List (List Value)} (hR : Mon R)
    (h1 : ess.length = l.length) (h2 : ∀ es ∈ ess, es.length = size) (h4 : ∀ j (hj : j < l.length), R A w (ess.getD j []) l[j]) (hes : es.length = size) (hx : R A' w' es x) (c : Ch (slBlk lv) w w') (hF : ∀ k, A k → ¬ slBlk lv k) (hA : ∀ k, A k → A' k)
    (hown : w'.ownsRow base e size lv' (l.length + 1) (ess.flatten ++ es)) : ORow size R A' w' base e lv' (l ++ [x]) := by
  refine ⟨ess ++ [es], by simp [h1], fun y hy => ?_, by simpa using hown, fun j hj => ?_⟩
  · rcases List.mem_append.1 hy with hy | hy
    · exact h2 y hy
    · rw [List.mem_singleton.1 hy]; exact hes
  · by_cases e : j < l.length
    · rw [List.getElem_append_left e, List.getD_eq_getElem?_getD, List.getElem?_append_left (by omega), ← List.getD_eq_getElem?_getD]
      exact hR _ _ _ _ _ _ _ c hF hA (h4 j e)
    · have ej : j = l.length := by simp at hj; omega
      subst ej
      rw [List.getD_eq_getElem?_getD, List.getElem?_append_right (by omega), h1, Nat.sub_self, List.getElem_append_right (Nat.le_refl _)]
      simpa using hx
theorem Mine.mono {ts ts' : List TypeId} {base base' : Nat} {w : World} {j : Nat} (h : Mine ts base w j) (ht : ∀ t ∈ ts, t ∈ ts') (hb : base' ≤ base) : Mine ts' base' w j := by
  obtain ⟨h1, cs, T, hT, h2⟩ := h
  exact ⟨by omega, cs, T, ht T hT, h2⟩
theorem ORow.lt {α : Type} {size : Nat} {R : Rd α} {A : Nat → Prop} {w : World} {base : Nat} {e : TypeId} {v : Value} {l : List α} (h : ORow size R A w base e v l) : ∀ k, slBlk v k → base ≤ k ∧ k < w.heap.size := by
  obtain ⟨ess, _, _, h3, _⟩ := h
  exact fun k hk => own_lt h3 hk
end Sg
end

section
namespace Sg
open Go Go.RowKit

/-- Two values of a plain type, and whether they are equal. -/
def Cmp (P : Program) (t : TypeId) (a b : Value) (r : Bool) : Prop :=
  (∃ k p q, P.underlying t = some (.int k) ∧ a = .int k p ∧ b = .int k q ∧ r = decide (p = q)) ∨
  (∃ p q, P.underlying t = some .bool ∧ a = .bool p ∧ b = .bool q ∧ r = decide (p = q)) ∨
  (∃ p q, P.underlying t = some .string ∧ a = .string p ∧ b = .string q ∧ r = decide (p = q))
def CmpAll (P : Program) (xs ys : Array Value) : List Field → List Bool → Prop
  | [], [] => True
  | f :: fs, r :: rs => f.name ≠ "_" ∧ (∃ a b, xs[f.offset]? = some a ∧ ys[f.offset]? = some b ∧ Cmp P f.type a b r) ∧ CmpAll P xs ys fs rs
  | _, _ => False

section
variable {P : Program} {w : World} {t : TypeId} {a b : Value} {r : Bool}
theorem run_cmp (m : Nat) (h : Cmp P t a b r) : (Op.equalIn (m + 1) t a b).run P w = .ok r w := by
  rcases h with ⟨k, p, q, hu, rfl, rfl, rfl⟩ | ⟨p, q, hu, rfl, rfl, rfl⟩ | ⟨p, q, hu, rfl, rfl, rfl⟩
  · simp [Op.equalIn, run_underlying hu, beq_decide]
  · have : (p == q) = decide (p = q) := by cases p <;> cases q <;> rfl
    simp [Op.equalIn, run_underlying hu, this]
  · rw [run_equalIn_string w m t p q hu, toList_beq]
theorem run_cmp_part {o : Nat} {xs : Array Value} (h : Cmp P t a b r) {v : Value} (hx : xs[o]? = some v) : (part t xs o).run P w = .ok v w := by
  rcases h with ⟨k, p, q, hu, _⟩ | ⟨p, q, hu, _⟩ | ⟨p, q, hu, _⟩ <;> simp [part, isAgg, run_underlying hu, hx]
theorem run_eqFields (m : Nat) {xs ys : Array Value} : ∀ {fs : List Field} {rs : List Bool}, CmpAll P xs ys fs rs → (Op.eqFields (m + 1) xs ys fs).run P w = .ok (rs.all id) w
  | [], [], _ => by simp [Op.eqFields]
  | [], _ :: _, h => h.elim
  | _ :: _, [], h => h.elim
  | f :: fs, r :: rs, ⟨hn, ⟨a, b, ha, hb, hc⟩, h⟩ => by
    have ih := run_eqFields m h
    simp only [Op.eqFields]
    rw [if_pos hn]
    simp only [Sem.run_bind, run_cmp_part hc ha, run_cmp_part hc hb, Result.andThen_ok, run_cmp m hc]
    cases r
    · simp
    · simpa using ih
theorem fieldsOf_eq {fs : Array Field} (h : P.underlying t = some (.struct fs)) : P.fieldsOf t = fs := by
  unfold Program.fieldsOf
  rw [h]
theorem run_agg_eq (m : Nat) {fs : Array Field} {xs ys : Array Value} {rs : List Bool} (hu : P.underlying t = some (.struct fs)) (hp : P.stoodInHeld t = false) (h : CmpAll P xs ys fs.toList rs) :
    (Op.equalIn (m + 2) t (.agg xs) (.agg ys)).run P w = .ok (rs.all id) w := by
  rw [run_equalIn_agg w (m + 1) t xs ys (by rw [fieldsOf_eq hu]; exact hu) hp, fieldsOf_eq hu]
  exact run_eqFields m h
end
section
variable {P : Program} {n : Nat} {Q : Post} {σ : Env} {w : World} {d : Nat} {t xt yt : TypeId} {x y : Operand}
theorem X.neqAgg {fs : Array Field} {xs ys : Array Value} {rs : List Bool} {z : Bool} (hu : P.underlying xt = some (.struct fs)) (hp : P.stoodInHeld xt = false) (hg : P.eqGuardType P.depth xt = false) (hx : ev σ x = .agg xs) (hy : ev σ y = .agg ys)
    (h : CmpAll P xs ys fs.toList rs) (hz : (!(rs.all id)) = z) : X P σ w (.binOp .neq xt x y yt) t (.bool z) := fun _ _ _ _ => by
  have hgd := run_eqGuard_agg (P := P) w .neq xt x y xs ys hg
  have hb : (binOp .neq xt (.agg xs) (.agg ys)).run P w = .ok (.bool z) w := by
    rw [run_neq_struct (P := P), run_agg_eq 9998 hu hp h]
    simp [← hz]
  simp only [execOp, hx, hy, Sem.run_bind, hgd, Result.andThen_ok, hb, Sem.run_pure]
end

theorem add_none' {b o k : Nat} : (⟨b, o, none⟩ : Addr).add k = ⟨b, o + k, none⟩ := by unfold Addr.add; split <;> simp_all
end Sg
end

section
namespace Sg
open Go Go.RowKit

def Rc {α : Type} (f : α → List Value) : Rd α := fun _ _ es x => es = f x
theorem monRc {α : Type} (f : α → List Value) : Mon (Rc f) := fun _ _ _ _ _ _ _ _ _ _ h => h
/-- A row of the call's own that reads as l. -/
def OwnF {α : Type} (size : Nat) (f : α → List Value) (w : World) (base : Nat) (e : TypeId) (v : Value) (l : List α) : Prop := w.ownsRow base e size v l.length (l.flatMap f)
section
variable {α : Type} {size : Nat} {f : α → List Value} {A : Nat → Prop} {F : Nat → Prop} {w w' : World} {v : Value} {l : List α} {base : Nat} {e : TypeId}
theorem fm_len (hf : ∀ x, (f x).length = size) : ∀ l : List α, (l.flatMap f).length = l.length * size
  | [] => by simp
  | x :: r => by rw [List.flatMap_cons, List.length_append, fm_len hf r, hf, List.length_cons, Nat.succ_mul]; omega
theorem fm_at (hf : ∀ x, (f x).length = size) : ∀ {l : List α} {j i : Nat} (hj : j < l.length), i < size → (l.flatMap f)[j * size + i]? = (f l[j])[i]?
  | [], j, i, hj, _ => absurd hj (by simp)
  | x :: r, 0, i, _, hi => by
    rw [List.flatMap_cons, Nat.zero_mul, Nat.zero_add, List.getElem?_append_left (by rw [hf]; exact hi)]; rfl
  | x :: r, j + 1, i, hj, hi => by
    have e1 : (j + 1) * size + i = (f x).length + (j * size + i) := by rw [hf, Nat.succ_mul]; omega
    rw [List.flatMap_cons, e1, List.getElem?_append_right (by omega), Nat.add_sub_cancel_left, fm_at hf (by simpa using hj) hi]
    rfl
theorem OwnF.nil : OwnF size f w base e (.slice none 0 0) ([] : List α) := World.ownsRow_nil _ _ _ _
theorem OwnF.len (h : OwnF size f w base e v l) : ∃ a c, v = .slice a l.length c := by
  rcases h.2 with ⟨rfl, h0⟩ | ⟨g, cap, cur, rfl, _⟩
  · exact ⟨none, 0, by rw [h0]⟩
  · exact ⟨_, _, rfl⟩
theorem OwnF.lt (h : OwnF size f w base e v l) {k : Nat} (hk : slBlk v k) : base ≤ k ∧ k < w.heap.size := own_lt h hk
theorem OwnF.ty (h : OwnF size f w base e v l) {k : Nat} (hk : slBlk v k) : ∃ cs, w.heap[k]? = some (.cells cs e (0, 0)) := by
  rcases h.2 with ⟨rfl, _⟩ | ⟨g, cap, cur, rfl, _, hg, _⟩
  · exact hk.elim
  · have : k = g := hk
    subst this
    exact ⟨_, hg⟩
theorem OwnF.ch (h : OwnF size f w base e v l) (c : Ch F w w') (hF : ∀ k, slBlk v k → ¬ F k) : OwnF size f w' base e v l := own_ch h c hF
theorem OwnF.ch0 (h : OwnF size f w base e v l) (c : Ch0 w w') : OwnF size f w' base e v l := own_ch h c (fun _ _ => id)
theorem OwnF.lower {b2 : Nat} (h : OwnF size f w base e v l) (hb : b2 ≤ base) : OwnF size f w b2 e v l := by
  refine ⟨h.1, ?_⟩
  rcases h.2 with h | ⟨g, cap, cur, rfl, h1, rest⟩
  · exact .inl h
  · exact .inr ⟨g, cap, cur, rfl, by omega, rest⟩
theorem OwnF.form (hf : ∀ x, (f x).length = size) (h : OwnF size f w base e v l) (h0 : l ≠ []) : ∃ g cap cur, v = .slice (some ⟨g, 0, none⟩) l.length cap ∧ base ≤ g ∧ w.heap[g]? = some (.cells cur e (0, 0)) ∧ l.length ≤ cap ∧ cap ≤ maxLen ∧ cur.size = cap * size ∧
    ∀ j (hj : j < l.length) i, i < size → cur[j * size + i]? = (f l[j])[i]? := by
  rcases h.2 with ⟨_, h1⟩ | ⟨g, cap, cur, rfl, hb, hg, hc, hm, hs, ht⟩
  · exact absurd (List.eq_nil_of_length_eq_zero h1) h0
  · refine ⟨g, cap, cur, rfl, hb, hg, hc, hm, hs, fun j hj i hi => ?_⟩
    rw [← fm_at hf hj hi, ← ht, List.getElem?_take, if_pos]
    · simp
    · have : (j + 1) * size ≤ l.length * size := Nat.mul_le_mul_right _ hj
      rw [Nat.succ_mul] at this
      omega
theorem OwnF.rsl (hf : ∀ x, (f x).length = size) (h : OwnF size f w base e v l) (hA : ∀ k, slBlk v k → A k) : RSl size (Rc f) A w v l := by
  rcases h.2 with ⟨rfl, h0⟩ | ⟨g, cap, cur, rfl, _, hg, hc, _, hs, ht⟩
  · exact .inl ⟨List.eq_nil_of_length_eq_zero h0, _, _, rfl⟩
  · refine .inr ⟨g, 0, cap, cur, e, (0, 0), rfl, hc, hg, hA g rfl, fun j hj => ⟨f l[j], hf _, fun i hi => ?_, rfl⟩⟩
    rw [← fm_at hf hj hi, ← ht, List.getElem?_take, if_pos]
    · simp
    · have : (j + 1) * size ≤ l.length * size := Nat.mul_le_mul_right _ hj
      rw [Nat.succ_mul] at this
      omega
theorem OwnF.put (hf : ∀ x, (f x).length = size) {a : Option Addr} {c i : Nat} (h : OwnF size f w base e (.slice a l.length c) l) (hi : i < l.length) : ∃ g cur, a = some ⟨g, 0, none⟩ ∧ w.heap[g]? = some (.cells cur e (0, 0)) ∧ i * size + size ≤ cur.size ∧
    (∀ r, r < size → cur[i * size + r]? = (f l[i])[r]?) ∧ ∀ w' x, St w w' g (.cells (blit cur (i * size) (f x)) e (0, 0)) → OwnF size f w' base e (.slice a l.length c) (l.set i x) := by
  rcases h.2 with ⟨hv, h0⟩ | ⟨g, cap, cur, hv, hb, hg, hc, hm, hs, ht⟩
  · omega
  · simp only [Value.slice.injEq, true_and] at hv
    obtain ⟨rfl, rfl⟩ := hv
    have hic : i * size + size ≤ cur.size := by
      have h1 : (i + 1) * size ≤ c * size := Nat.mul_le_mul_right _ (by omega)
      rw [Nat.succ_mul] at h1
      omega
    have hcell : ∀ q r (hq : q < l.length), r < size → cur[q * size + r]? = (f l[q])[r]? := fun q r hq hr => by
      have h1 : (q + 1) * size ≤ l.length * size := Nat.mul_le_mul_right _ hq
      rw [Nat.succ_mul] at h1
      rw [← fm_at hf hq hr, ← ht, List.getElem?_take, if_pos (by omega)]
      simp
    refine ⟨g, cur, rfl, hg, hic, fun r hr => hcell i r hi hr, fun w' x st => ⟨by rw [fm_len hf], .inr ⟨g, c, _, by simp, hb, st.at_, by simpa using hc, hm, ?_, ?_⟩⟩⟩
    · unfold blit
      simp only [List.size_toArray, List.length_append, List.length_take, List.length_drop, Array.length_toList, hf]
      omega
    · rw [List.length_set]
      refine List.ext_getElem? fun j => ?_
      have hls : (l.set i x).length = l.length := List.length_set
      by_cases hj : j < l.length * size
      · have hsz : 0 < size := Nat.pos_of_ne_zero fun e => by rw [e] at hj; omega
        have hq : j / size < l.length := (Nat.div_lt_iff_lt_mul hsz).2 hj
        have hr : j % size < size := Nat.mod_lt _ hsz
        have ej : j = j / size * size + j % size := by rw [Nat.mul_comm]; exact (Nat.div_add_mod j size).symm
        generalize j / size = q at *
        generalize j % size = r at *
        subst ej
        rw [List.getElem?_take, if_pos hj, fm_at hf (by rw [hls]; exact hq) hr, List.getElem_set]
        unfold blit
        simp only []
        have ho : (cur.toList.take (i * size)).length = i * size := by rw [List.length_take, Array.length_toList]; omega
        rcases Nat.lt_trichotomy q i with h | h | h
        · have h1 : (q + 1) * size ≤ i * size := Nat.mul_le_mul_right _ h
          rw [Nat.succ_mul] at h1
          rw [if_neg (by omega), List.getElem?_append_left (by rw [List.length_append, ho]; omega), List.getElem?_append_left (by rw [ho]; omega), List.getElem?_take, if_pos (by omega), ← hcell q r hq hr]
          simp
        · subst h
          rw [if_pos rfl, List.getElem?_append_left (by rw [List.length_append, ho, hf]; omega), List.getElem?_append_right (by rw [ho]; omega), ho, Nat.add_sub_cancel_left]
        · have h1 : (i + 1) * size ≤ q * size := Nat.mul_le_mul_right _ h
          rw [Nat.succ_mul] at h1
          rw [if_neg (by omega), List.getElem?_append_right (by rw [List.length_append, ho, hf]; omega), List.length_append, ho, hf, List.getElem?_drop, show i * size + size + (q * size + r - (i * size + size)) = q * size + r by omega, ← hcell q r hq hr]
          simp
      · rw [List.getElem?_eq_none (by rw [List.length_take]; omega), List.getElem?_eq_none (by rw [fm_len hf, hls]; omega)]
theorem RSl.get {a : Option Addr} {m c : Nat} (h : RSl size (Rc f) A w (.slice a m c) l) {k : Nat} (hk : k < l.length) :
    ∃ b o cs T fr, a = some ⟨b, o, none⟩ ∧ w.heap[b]? = some (.cells cs T fr) ∧ (f l[k]).length = size ∧ A b ∧ ∀ i, i < size → cs[o + (k : Int).toNat * size + i]? = (f l[k])[i]? := by
  rcases h with ⟨rfl, _⟩ | ⟨b, o, cap, cs, T, fr, hv, _, h2, hb, h3⟩
  · simp at hk
  · simp only [Value.slice.injEq] at hv
    obtain ⟨es, e1, e2, e3⟩ := h3 k hk
    have e3 : es = f l[k] := e3
    subst e3
    exact ⟨b, o, cs, T, fr, hv.1, h2, e1, hb, e2⟩
theorem RSl.cap {α : Type} {size : Nat} {R : Rd α} {A : Nat → Prop} {w : World} {a : Option Addr} {c : Nat} {l : List α} (h : RSl size R A w (.slice a l.length c) l) : l.length ≤ c := by
  rcases h with ⟨rfl, _⟩ | ⟨b, o, cap, cs, T, fr, hv, hc, _⟩
  · exact Nat.zero_le _
  · simp only [Value.slice.injEq] at hv
    omega
theorem RSl.take {R : Rd α} {a : Option Addr} {c k : Nat} (h : RSl size R A w (.slice a l.length c) l) (hk : k ≤ l.length) : RSl size R A w (.slice a k c) (l.take k) := by
  rcases h with ⟨rfl, _⟩ | ⟨b, o, cap, cs, T, fr, hv, hc, h2, hb, h3⟩
  · have : k = 0 := by simpa using hk
    subst this
    exact .inl ⟨rfl, _, _, rfl⟩
  · simp only [Value.slice.injEq] at hv
    obtain ⟨rfl, _, rfl⟩ := hv
    have hl : (l.take k).length = k := by rw [List.length_take]; omega
    refine .inr ⟨b, o, c, cs, T, fr, by rw [hl], by rw [hl]; omega, h2, hb, fun j hj => ?_⟩
    obtain ⟨es, e1, e2, e3⟩ := h3 j (by rw [hl] at hj; omega)
    exact ⟨es, e1, e2, by rw [List.getElem_take]; exact e3⟩
theorem RSl.cells (hs : 0 < size) (hf : ∀ x, (f x).length = size) {a : Addr} {c : Nat} (h : RSl size (Rc f) A w (.slice (some a) l.length c) l) : ∀ j u, (l.flatMap f)[j]? = some u → w.cell? (a.add j) = some u := by
  intro j u hu
  have hlt : j < (l.flatMap f).length := (List.getElem?_eq_some_iff.1 hu).1
  rw [fm_len hf] at hlt
  have hq : j / size < l.length := (Nat.div_lt_iff_lt_mul hs).2 hlt
  have hr : j % size < size := Nat.mod_lt _ hs
  have e : j = j / size * size + j % size := by rw [Nat.mul_comm]; exact (Nat.div_add_mod j size).symm
  obtain ⟨b, o, cs, T, fr, ha, h2, _, _, h3⟩ := h.get hq
  simp only [Option.some.injEq] at ha
  subst ha
  rw [e, fm_at hf hq hr] at hu
  rw [add_none']
  have := h3 (j % size) hr
  rw [Int.toNat_natCast] at this
  unfold World.cell?
  simp only [h2]
  rw [show o + j = o + j / size * size + j % size by rw [Nat.add_assoc, ← e], this, hu]
  rfl
end

section
variable {P : Program} {n : Nat} {Q : Post} {σ : Env} {w : World} {ops : Array Oper} {rest : List Oper}
variable {d : Nat} {t xt yt : TypeId} {pos : String} {af : Array Edge} {v : Value} {x y : Operand} {b o : Nat} {cs : Array Value} {T : TypeId} {fr : Nat × Nat}
theorem run_append_nilslice {base m size c : Nat} {ty e : TypeId} {i : TypeInfo} {vs : Value} {xs : List Value} (hs : P.underlying xt = some (.slice e)) (hi : P.info? e = some i) (hsz : i.size = size) (hown : w.ownsRow base e size vs m xs) :
    (Builtin.append_ #[xt, xt] ty #[vs, .slice none 0 c]).run P w = .ok vs w := by
  subst hsz
  rcases hown.2 with ⟨rfl, rfl⟩ | ⟨g, cap, cur, rfl, _, _, hnc, _⟩
  · simp [Builtin.append_, run_underlying hs, Go.sizeOf, typeInfo, hi, Builtin.lenOf, Builtin.firstCells]
  · simp [Builtin.append_, run_underlying hs, Go.sizeOf, typeInfo, hi, Builtin.lenOf, Builtin.firstCells, hnc, storeCells]
/-- append(s, x..) of two such rows. -/
theorem WL.appendF {α : Type} {f : α → List Value} {A : Nat → Prop} {l l' : List α} {s : Operand} {ty : TypeId} {e : TypeId} {size bytes base : Nat} {z vs vx : Value} (hs : P.underlying xt = some (.slice e)) (he : Elem P e size z bytes) (hz : z.cells.size = size) (h0 : 0 < size)
    (hf : ∀ x, (f x).length = size) (hone : ∀ x, ∀ u ∈ f x, u.oneCell' = true) (h1 : ev σ s = vs) (h2 : ev σ x = vx) (hown : OwnF size f w base e vs l) (hx : RSl size (Rc f) A w vx l')
    (g1 : l.length + l'.length ≤ maxLen) (g2 : (l.length + l'.length) * bytes ≤ 140737488355328) (g3 : base ≤ w.heap.size) (hn : Nat.blt d n = true)
    (h : ∀ v' w', OwnF size f w' base e v' (l ++ l') → Ch (slBlk vs) w w' → WL P n ops Q rest (up σ d v') w') :
    WL P n ops Q (⟨some d, .call ⟨.builtin .append, #[s, x], #[xt, xt]⟩, ty, pos, af, none⟩ :: rest) σ w := by
  obtain ⟨a, c, rfl⟩ := hx.len
  cases a with
  | none =>
    have hl : l' = [] := by
      rcases hx with ⟨h, _⟩ | ⟨b, o, cap, cs, T, fr, hv, _⟩
      · exact h
      · cases hv
    subst hl
    obtain ⟨i, hi, hi1, _⟩ := he
    have hr := run_append_nilslice (P := P) (w := w) (ty := ty) (c := c) hs hi hi1 hown
    refine WL.step (w' := w) rfl rfl hn ?_ (h vs w (by rw [List.append_nil]; exact hown) (Ch.refl _ _))
    simp [execOp, resolve, invoke, builtin, h1, h2]
    exact hr ▸ rfl
  | some a =>
    refine WL.appendA hs he hz h0 h1 h2 hown (RSl.cells h0 hf hx) (fm_len hf _) (fun u hu => ?_) g1 g2 g3 hn fun v' w' ho hc _ => h v' w' ?_ hc
    · obtain ⟨y, _, hy⟩ := List.mem_flatMap.1 hu
      exact hone y u hy
    · unfold OwnF
      rw [List.length_append, List.flatMap_append]
      exact ho
theorem rsl_one {α : Type} {f : α → List Value} {A : Nat → Prop} {size g : Nat} {x : α} (hf : ∀ x, (f x).length = size) (h : w.heap[g]? = some (.cells cs T fr)) (hc : cs = (f x).toArray) (hA : A g) : RSl size (Rc f) A w (.slice (some ⟨g, 0, none⟩) 1 1) [x] := by
  subst hc
  refine .inr ⟨g, 0, 1, _, _, _, rfl, Nat.le_refl _, h, hA, fun j hj => ?_⟩
  have : j = 0 := by simpa using hj
  subst this
  exact ⟨f x, hf x, fun i hi => by simp, rfl⟩
theorem own_one {α : Type} {f : α → List Value} {size g base : Nat} {x : α} (hf : ∀ x, (f x).length = size) (h : w.heap[g]? = some (.cells cs T (0, 0))) (hc : cs = (f x).toArray) (hb : base ≤ g) : OwnF size f w base T (.slice (some ⟨g, 0, none⟩) 1 1) [x] := by
  subst hc
  exact ⟨by simp [hf], .inr ⟨g, 1, _, rfl, hb, h, Nat.le_refl _, by unfold maxLen; omega, by simp [hf], by simp [hf, List.take_of_length_le]⟩⟩
end

def putAll2 (pl : List (Option Nat)) (z : List Value) : List (Nat × Value) → List Value
  | [] => z
  | (i, v) :: r => putAll2 pl (z.set ((pl.getD i none).getD 0) v) r
def okParts2 (pl : List (Option Nat)) (m : Nat) : List (Nat × Value) → Bool
  | [] => true
  | (i, v) :: r => v.oneCell' && (pl.getD i none).isSome && Nat.blt ((pl.getD i none).getD 0) m && okParts2 pl m r
theorem fill_parts2 {place : Nat → Option (Nat × Nat)} {pl : List (Option Nat)} (hp : ∀ i, (pl.getD i none).isSome = true → place i = some ((pl.getD i none).getD 0, 1)) : ∀ (ps : List (Nat × Value)) (z : List Value),
    okParts2 pl z.length ps = true → Instr.fill place z.toArray ps = some (putAll2 pl z ps).toArray
  | [], _, _ => rfl
  | (i, v) :: r, z, h => by
    simp only [okParts2, Bool.and_eq_true] at h
    obtain ⟨⟨⟨h1, h2⟩, h3⟩, h4⟩ := h
    have h3' : (pl.getD i none).getD 0 < z.length := Nat.le_of_ble_eq_true h3
    have ih := fill_parts2 hp r (z.set ((pl.getD i none).getD 0) v) (by simpa using h4)
    have hc := cells_of_one h1
    show Instr.fill place z.toArray ((i, v) :: r) = some (putAll2 pl (z.set ((pl.getD i none).getD 0) v) r).toArray
    unfold Instr.fill
    rw [hp i h2]
    generalize (pl.getD i none).getD 0 = o at *
    simp only [hc]
    have e : ((#[v].zipIdx.foldl (fun cs (x : Value × Nat) => cs.setIfInBounds (o + x.2) x.1) z.toArray)) = (z.set o v).toArray := by
      simp [Array.zipIdx]
    simp only [List.size_toArray, List.length_cons, List.length_nil]
    rw [if_neg (by simp; omega)]
    rw [e]
    exact ih
def Bld2 (P : Program) (t : TypeId) (pl : List (Option Nat)) (z : List Value) : Prop :=
  ∃ i fs, P.info? t = some i ∧ i.zero = some (.agg z.toArray) ∧ P.underlying t = some (.struct fs) ∧ (∀ f ∈ fs.toList, (P.info? f.type).isSome = true) ∧
    ∀ j, (pl.getD j none).isSome = true → (fs.toList[j]?).map (fun f => (f.offset, (P.info? f.type).map (·.size))) = some ((pl.getD j none).getD 0, some 1)
theorem allAt3 {P : Program} {fs : List Field} {pl : List (Option Nat)} (h : (List.range pl.length).all (fun j => !(pl.getD j none).isSome || decide ((fs[j]?).map (fun f => (f.offset, (P.info? f.type).map (·.size))) = some ((pl.getD j none).getD 0, some 1))) = true) :
    ∀ j, (pl.getD j none).isSome = true → (fs[j]?).map (fun f => (f.offset, (P.info? f.type).map (·.size))) = some ((pl.getD j none).getD 0, some 1) := by
  intro j hj
  have hl : j < pl.length := by
    rcases Nat.lt_or_ge j pl.length with h | h
    · exact h
    · rw [List.getD_eq_getElem?_getD, List.getElem?_eq_none h] at hj; cases hj
  have := List.all_eq_true.1 h j (List.mem_range.2 hl)
  rw [hj] at this
  simpa using this
section
variable {P : Program} {σ : Env} {w : World} {t xt : TypeId}
theorem run_build2 {pl : List (Option Nat)} {z : List Value} {ps : List (Nat × Value)} (hb : Bld2 P t pl z) (hok : okParts2 pl z.length ps = true) :
    (Instr.build t ps.toArray).run P w = .ok (.agg (putAll2 pl z ps).toArray) w := by
  obtain ⟨i, fs, hi, hz, hu, hall, hpl⟩ := hb
  have hm : (fs.mapM (m := Sem) fun f => do pure (f.offset, ← Go.sizeOf f.type)).run P w = .ok (fs.toList.map fun f => (f.offset, ((P.info? f.type).map (·.size)).getD 0)).toArray w := by
    rw [Array.mapM_eq_mapM_toList]
    simp only [Sem.run_map, run_mapFields fs.toList hall, Result.andThen_ok]
  have hf := fill_parts2 (place := fun j => (fs.toList.map fun f => (f.offset, ((P.info? f.type).map (·.size)).getD 0)).toArray[j]?) (pl := pl) (fun j hj => by
    have := hpl j hj
    cases hq : fs.toList[j]? with
    | none => rw [hq] at this; simp at this
    | some f =>
      rw [hq] at this
      simp only [Option.map_some, Option.some.injEq, Prod.mk.injEq] at this
      simp [hq, this.1, this.2]) ps z hok
  unfold Instr.build
  simp only [Sem.run_bind, zeroValue, typeInfo, run_program, Result.andThen_ok, hi, Sem.run_pure, hz, run_underlying hu, hm]
  simp only [Value.cells]
  rw [hf]
  rfl
theorem X.build2 {parts : List (Nat × Operand)} {ps : List (Nat × Value)} {pl : List (Option Nat)} {z rs : List Value} (hb : Bld2 P xt pl z) (hps : parts.map (fun p => (p.1, ev σ p.2)) = ps) (hok : okParts2 pl z.length ps = true)
    (hc : putAll2 pl z ps = rs) : X P σ w (.build xt parts.toArray) t (.agg rs.toArray) := fun _ _ _ _ => by
  subst hc
  have := run_build2 (w := w) hb hok
  simp only [execOp]
  have e : (parts.toArray.map fun x => (x.1, ev σ x.2)) = ps.toArray := by rw [← hps]; simp
  simp [e, this]
end
end Sg
end

section
set_option linter.unusedVariables false
set_option linter.unusedSimpArgs false
set_option maxRecDepth 100000
namespace Go.Proofs.YtnfkblboimkcjaaDoor
open Go Go.RowKit Sg
theorem ce7 : Sg.Callee Tryd.prog 7 := ⟨_, Tryd.func7, by decide, rfl⟩
theorem ce12 : Sg.Callee Tryd.prog 12 := ⟨_, Tryd.func12, by decide, rfl⟩
theorem ce13 : Sg.Callee Tryd.prog 13 := ⟨_, Tryd.func13, by decide, rfl⟩
theorem ce14 : Sg.Callee Tryd.prog 14 := ⟨_, Tryd.func14, by decide, rfl⟩
theorem ce16 : Sg.Callee Tryd.prog 16 := ⟨_, Tryd.func16, by decide, rfl⟩
theorem ce17 : Sg.Callee Tryd.prog 17 := ⟨_, Tryd.func17, by decide, rfl⟩
theorem ce18 : Sg.Callee Tryd.prog 18 := ⟨_, Tryd.func18, by decide, rfl⟩
theorem ce19 : Sg.Callee Tryd.prog 19 := ⟨_, Tryd.func19, by decide, rfl⟩
theorem ce20 : Sg.Callee Tryd.prog 20 := ⟨_, Tryd.func20, by decide, rfl⟩
theorem ce21 : Sg.Callee Tryd.prog 21 := ⟨_, Tryd.func21, by decide, rfl⟩
theorem ce22 : Sg.Callee Tryd.prog 22 := ⟨_, Tryd.func22, by decide, rfl⟩
theorem ce23 : Sg.Callee Tryd.prog 23 := ⟨_, Tryd.func23, by decide, rfl⟩
theorem ce34 : Sg.Callee Tryd.prog 34 := ⟨_, Tryd.func34, by decide, rfl⟩
theorem ce35 : Sg.Callee Tryd.prog 35 := ⟨_, Tryd.func35, by decide, rfl⟩
theorem ce36 : Sg.Callee Tryd.prog 36 := ⟨_, Tryd.func36, by decide, rfl⟩
theorem ce37 : Sg.Callee Tryd.prog 37 := ⟨_, Tryd.func37, by decide, rfl⟩
theorem ce38 : Sg.Callee Tryd.prog 38 := ⟨_, Tryd.func38, by decide, rfl⟩
theorem ce39 : Sg.Callee Tryd.prog 39 := ⟨_, Tryd.func39, by decide, rfl⟩
theorem ce40 : Sg.Callee Tryd.prog 40 := ⟨_, Tryd.func40, by decide, rfl⟩
theorem ce41 : Sg.Callee Tryd.prog 41 := ⟨_, Tryd.func41, by decide, rfl⟩
theorem ce42 : Sg.Callee Tryd.prog 42 := ⟨_, Tryd.func42, by decide, rfl⟩
theorem ce43 : Sg.Callee Tryd.prog 43 := ⟨_, Tryd.func43, by decide, rfl⟩
theorem ce44 : Sg.Callee Tryd.prog 44 := ⟨_, Tryd.func44, by decide, rfl⟩
theorem ce45 : Sg.Callee Tryd.prog 45 := ⟨_, Tryd.func45, by decide, rfl⟩
theorem ce46 : Sg.Callee Tryd.prog 46 := ⟨_, Tryd.func46, by decide, rfl⟩
theorem ce47 : Sg.Callee Tryd.prog 47 := ⟨_, Tryd.func47, by decide, rfl⟩
theorem ce48 : Sg.Callee Tryd.prog 48 := ⟨_, Tryd.func48, by decide, rfl⟩
theorem ce49 : Sg.Callee Tryd.prog 49 := ⟨_, Tryd.func49, by decide, rfl⟩
theorem ce50 : Sg.Callee Tryd.prog 50 := ⟨_, Tryd.func50, by decide, rfl⟩
theorem ce56 : Sg.Callee Tryd.prog 56 := ⟨_, Tryd.func56, by decide, rfl⟩
theorem ce57 : Sg.Callee Tryd.prog 57 := ⟨_, Tryd.func57, by decide, rfl⟩
theorem ce58 : Sg.Callee Tryd.prog 58 := ⟨_, Tryd.func58, by decide, rfl⟩
theorem ce59 : Sg.Callee Tryd.prog 59 := ⟨_, Tryd.func59, by decide, rfl⟩
theorem ce60 : Sg.Callee Tryd.prog 60 := ⟨_, Tryd.func60, by decide, rfl⟩
theorem ce61 : Sg.Callee Tryd.prog 61 := ⟨_, Tryd.func61, by decide, rfl⟩
theorem ce62 : Sg.Callee Tryd.prog 62 := ⟨_, Tryd.func62, by decide, rfl⟩
theorem ce63 : Sg.Callee Tryd.prog 63 := ⟨_, Tryd.func63, by decide, rfl⟩
theorem ce64 : Sg.Callee Tryd.prog 64 := ⟨_, Tryd.func64, by decide, rfl⟩
theorem ce65 : Sg.Callee Tryd.prog 65 := ⟨_, Tryd.func65, by decide, rfl⟩
theorem ce70 : Sg.Callee Tryd.prog 70 := ⟨_, Tryd.func70, by decide, rfl⟩
theorem ce71 : Sg.Callee Tryd.prog 71 := ⟨_, Tryd.func71, by decide, rfl⟩
theorem ce72 : Sg.Callee Tryd.prog 72 := ⟨_, Tryd.func72, by decide, rfl⟩
theorem ce73 : Sg.Callee Tryd.prog 73 := ⟨_, Tryd.func73, by decide, rfl⟩
theorem ce74 : Sg.Callee Tryd.prog 74 := ⟨_, Tryd.func74, by decide, rfl⟩
theorem ce75 : Sg.Callee Tryd.prog 75 := ⟨_, Tryd.func75, by decide, rfl⟩
theorem fd123_2 : Sg.Fld Tryd.prog 123 2 2 := ⟨_, _, _, rfl, rfl, rfl, rfl, by decide⟩
theorem pl4 : Sg.Plain Tryd.prog 4 := ⟨_, rfl, trivial⟩
theorem el97 : Sg.Elem Tryd.prog 97 1 (.int .u64 0) 8 := ⟨_, rfl, rfl, rfl, rfl⟩
theorem bd123 : Sg.Bld Tryd.prog 123 [0, 1, 2] [.slice none 0 0, .int .i64 0, .bool false] := ⟨_, rfl, rfl, .inl ⟨_, rfl, Sg.allIn rfl, Sg.allAt (n := 3) rfl⟩⟩
theorem fd123_1 : Sg.Fld Tryd.prog 123 1 1 := ⟨_, _, _, rfl, rfl, rfl, rfl, by decide⟩
theorem pl3 : Sg.Plain Tryd.prog 3 := ⟨_, rfl, trivial⟩
theorem mo : Tryd.prog.follows .mixedOrders = true := by kernel_rfl
theorem fd123_0 : Sg.Fld Tryd.prog 123 0 0 := ⟨_, _, _, rfl, rfl, rfl, rfl, by decide⟩
theorem pl121 : Sg.Plain Tryd.prog 121 := ⟨_, rfl, trivial⟩
theorem pl97 : Sg.Plain Tryd.prog 97 := ⟨_, rfl, trivial⟩
theorem el5 : Sg.Elem Tryd.prog 5 1 (.int .u8 0) 1 := ⟨_, rfl, rfl, rfl, rfl⟩
theorem pl5 : Sg.Plain Tryd.prog 5 := ⟨_, rfl, trivial⟩
theorem ce87 : Sg.Callee Tryd.prog 87 := ⟨_, Tryd.func87, by decide, rfl⟩
theorem el3 : Sg.Elem Tryd.prog 3 1 (.int .i64 0) 8 := ⟨_, rfl, rfl, rfl, rfl⟩
theorem fd77_0 : Sg.Fld Tryd.prog 77 0 0 := ⟨_, _, _, rfl, rfl, rfl, rfl, by decide⟩
theorem fd77_2 : Sg.Fld Tryd.prog 77 2 5 := ⟨_, _, _, rfl, rfl, rfl, rfl, by decide⟩
theorem pl73 : Sg.Plain Tryd.prog 73 := ⟨_, rfl, trivial⟩
theorem pl75 : Sg.Plain Tryd.prog 75 := ⟨_, rfl, trivial⟩
theorem fd77_1 : Sg.Fld Tryd.prog 77 1 1 := ⟨_, _, _, rfl, rfl, rfl, rfl, by decide⟩
theorem el73 : Sg.Elem Tryd.prog 73 1 (.slice none 0 0) 24 := ⟨_, rfl, rfl, rfl, rfl⟩
theorem el75 : Sg.Elem Tryd.prog 75 1 (.pointer none) 8 := ⟨_, rfl, rfl, rfl, rfl⟩
theorem bdw77 : Sg.Bld2 Tryd.prog 77 [some 0, none, some 5] [.int .i64 0, .slice none 0 0, .slice none 0 0, .slice none 0 0, .slice none 0 0, .bool false] := ⟨_, _, rfl, rfl, rfl, Sg.allIn rfl, Sg.allAt3 (by kernel_rfl)⟩
theorem bd55 : Sg.Bld Tryd.prog 55 [0, 1, 2] [.int .i64 0, .int .i64 0, .int .i64 0] := ⟨_, rfl, rfl, .inl ⟨_, rfl, Sg.allIn rfl, Sg.allAt (n := 3) rfl⟩⟩
theorem el55 : Sg.Elem Tryd.prog 55 3 (.agg #[.int .i64 0, .int .i64 0, .int .i64 0]) 24 := ⟨_, rfl, rfl, rfl, rfl⟩
theorem ag55 : Sg.Aggr Tryd.prog 55 3 := ⟨⟨_, rfl, trivial⟩, _, rfl, rfl⟩
theorem fd55_0 : Sg.Fld Tryd.prog 55 0 0 := ⟨_, _, _, rfl, rfl, rfl, rfl, by decide⟩
theorem fd55_1 : Sg.Fld Tryd.prog 55 1 1 := ⟨_, _, _, rfl, rfl, rfl, rfl, by decide⟩
theorem fd55_2 : Sg.Fld Tryd.prog 55 2 2 := ⟨_, _, _, rfl, rfl, rfl, rfl, by decide⟩
theorem el40 : Sg.Elem Tryd.prog 40 1 (.slice none 0 0) 24 := ⟨_, rfl, rfl, rfl, rfl⟩
theorem pl40 : Sg.Plain Tryd.prog 40 := ⟨_, rfl, trivial⟩
theorem pl47 : Sg.Plain Tryd.prog 47 := ⟨_, rfl, trivial⟩
theorem ag84 : Sg.Aggr Tryd.prog 84 2 := ⟨⟨_, rfl, trivial⟩, _, rfl, rfl⟩
theorem bd84 : Sg.Bld Tryd.prog 84 [0, 1] [.int .i64 0, .int .i64 0] := ⟨_, rfl, rfl, .inl ⟨_, rfl, Sg.allIn rfl, Sg.allAt (n := 2) rfl⟩⟩
theorem el84 : Sg.Elem Tryd.prog 84 2 (.agg #[.int .i64 0, .int .i64 0]) 16 := ⟨_, rfl, rfl, rfl, rfl⟩
theorem fd84_0 : Sg.Fld Tryd.prog 84 0 0 := ⟨_, _, _, rfl, rfl, rfl, rfl, by decide⟩
theorem fd120_1 : Sg.Fld Tryd.prog 120 1 1 := ⟨_, _, _, rfl, rfl, rfl, rfl, by decide⟩
theorem pl116 : Sg.Plain Tryd.prog 116 := ⟨_, rfl, trivial⟩
theorem ag120 : Sg.Aggr Tryd.prog 120 2 := ⟨⟨_, rfl, trivial⟩, _, rfl, rfl⟩
theorem ce89 : Sg.Callee Tryd.prog 89 := ⟨_, Tryd.func89, by decide, rfl⟩
theorem fd120_0 : Sg.Fld Tryd.prog 120 0 0 := ⟨_, _, _, rfl, rfl, rfl, rfl, by decide⟩
theorem pl87 : Sg.Plain Tryd.prog 87 := ⟨_, rfl, trivial⟩
theorem ce88 : Sg.Callee Tryd.prog 88 := ⟨_, Tryd.func88, by decide, rfl⟩
theorem ce86 : Sg.Callee Tryd.prog 86 := ⟨_, Tryd.func86, by decide, rfl⟩
theorem ce85 : Sg.Callee Tryd.prog 85 := ⟨_, Tryd.func85, by decide, rfl⟩
theorem pl22 : Sg.Plain Tryd.prog 22 := ⟨_, rfl, trivial⟩
theorem el27 : Sg.Elem Tryd.prog 27 8 (.agg #[.int .i64 0, .int .i64 0, .int .i64 0, .string ⟨#[]⟩, .int .i64 0, .int .i64 0, .bool false, .bool false]) 64 := ⟨_, rfl, rfl, rfl, rfl⟩
theorem fd27_7 : Sg.Fld Tryd.prog 27 7 7 := ⟨_, _, _, rfl, rfl, rfl, rfl, by decide⟩
theorem ag27 : Sg.Aggr Tryd.prog 27 8 := ⟨⟨_, rfl, trivial⟩, _, rfl, rfl⟩
theorem el22 : Sg.Elem Tryd.prog 22 1 (.slice none 0 0) 24 := ⟨_, rfl, rfl, rfl, rfl⟩
theorem fd27_0 : Sg.Fld Tryd.prog 27 0 0 := ⟨_, _, _, rfl, rfl, rfl, rfl, by decide⟩
theorem fd27_1 : Sg.Fld Tryd.prog 27 1 1 := ⟨_, _, _, rfl, rfl, rfl, rfl, by decide⟩
theorem fd27_2 : Sg.Fld Tryd.prog 27 2 2 := ⟨_, _, _, rfl, rfl, rfl, rfl, by decide⟩
theorem bd27 : Sg.Bld Tryd.prog 27 [0, 1, 2, 3, 4, 5, 6, 7] [.int .i64 0, .int .i64 0, .int .i64 0, .string ⟨#[]⟩, .int .i64 0, .int .i64 0, .bool false, .bool false] := ⟨_, rfl, rfl, .inl ⟨_, rfl, Sg.allIn rfl, Sg.allAt (n := 8) rfl⟩⟩
theorem ag67 : Sg.Aggr Tryd.prog 67 12 := ⟨⟨_, rfl, trivial⟩, _, rfl, rfl⟩
theorem el67 : Sg.Elem Tryd.prog 67 12 (.agg #[.int .i64 0, .int .i64 0, .int .i64 0, .int .i64 0, .int .i64 0, .int .i64 0, .int .i64 0, .int .i64 0, .int .i64 0, .int .i64 0, .int .i64 0, .int .i64 0]) 96 := ⟨_, rfl, rfl, rfl, rfl⟩
theorem bd43 : Sg.Bld Tryd.prog 43 [0, 1, 2] [.int .i64 0, .int .i64 0, .int .i64 0] := ⟨_, rfl, rfl, .inl ⟨_, rfl, Sg.allIn rfl, Sg.allAt (n := 3) rfl⟩⟩
theorem ag43 : Sg.Aggr Tryd.prog 43 3 := ⟨⟨_, rfl, trivial⟩, _, rfl, rfl⟩
theorem el43 : Sg.Elem Tryd.prog 43 3 (.agg #[.int .i64 0, .int .i64 0, .int .i64 0]) 24 := ⟨_, rfl, rfl, rfl, rfl⟩
theorem fd43_1 : Sg.Fld Tryd.prog 43 1 1 := ⟨_, _, _, rfl, rfl, rfl, rfl, by decide⟩
theorem el4 : Sg.Elem Tryd.prog 4 1 (.bool false) 1 := ⟨_, rfl, rfl, rfl, rfl⟩
theorem fd43_0 : Sg.Fld Tryd.prog 43 0 0 := ⟨_, _, _, rfl, rfl, rfl, rfl, by decide⟩
theorem fd43_2 : Sg.Fld Tryd.prog 43 2 2 := ⟨_, _, _, rfl, rfl, rfl, rfl, by decide⟩
end Go.Proofs.YtnfkblboimkcjaaDoor
end

section
namespace Sg

def popW : Nat → Nat → Nat
  | 0, _ => 0
  | k + 1, x => x % 2 + popW k (x / 2)
/-- How many of the 64 lowest bits are set. -/
def pop (x : Nat) : Nat := popW 64 x

theorem popW_add (k m x : Nat) : popW (k + m) x = popW k x + popW m (x / 2 ^ k) := by
  induction k generalizing x with
  | zero => simp [popW]
  | succ k ih =>
    rw [show k + 1 + m = (k + m) + 1 by omega]
    simp only [popW]
    rw [ih, Nat.div_div_eq_div_mul, Nat.pow_succ']
    omega
theorem popW_mod (k x : Nat) : popW k (x % 2 ^ k) = popW k x := by
  induction k generalizing x with
  | zero => rfl
  | succ k ih =>
    simp only [popW]
    rw [← ih (x / 2), ← ih (x % 2 ^ (k + 1) / 2)]
    have h1 : x % 2 ^ (k + 1) % 2 = x % 2 := Nat.mod_mod_of_dvd _ (by rw [Nat.pow_succ]; exact Nat.dvd_mul_left 2 _)
    have h2 : x % 2 ^ (k + 1) / 2 % 2 ^ k = x / 2 % 2 ^ k := by
      rw [Nat.pow_succ, Nat.mul_comm, Nat.mod_mul_right_div_self]
      simp
    rw [h1, h2]
theorem popW_le (k x : Nat) : popW k x ≤ k := by
  induction k generalizing x with
  | zero => simp [popW]
  | succ k ih => simp only [popW]; have := ih (x / 2); omega

/-- A mask of k bytes c. -/
def maskB (c : Nat) : Nat → Nat
  | 0 => 0
  | k + 1 => c + 256 * maskB c k

theorem and_byte (a m A M : Nat) (ha : a < 256) (hm : m < 256) : (a + 256 * A) &&& (m + 256 * M) = (a &&& m) + 256 * (A &&& M) := by
  have h1 : a &&& m < 256 := Nat.lt_of_le_of_lt Nat.and_le_left ha
  apply Nat.eq_of_testBit_eq
  intro i
  have e : ∀ (a A : Nat), a < 256 → (a + 256 * A).testBit i = if i < 8 then a.testBit i else A.testBit (i - 8) := by
    intro a A ha
    rw [show 256 = 2 ^ 8 by rfl, Nat.add_comm, Nat.testBit_two_pow_mul_add A (by simpa using ha)]
  rw [Nat.testBit_and, e a A ha, e m M hm, e _ _ h1]
  split <;> simp [Nat.testBit_and]

def st1 (k x : Nat) : Nat := ((x / 2) &&& maskB 85 k) + (x &&& maskB 85 k)
def st2 (k x : Nat) : Nat := ((x / 4) &&& maskB 51 k) + (x &&& maskB 51 k)
def st3 (k x : Nat) : Nat := (x / 16 + x) &&& maskB 15 k

theorem d1 : ∀ b : Fin 256, ∀ y : Fin 2, (b.val / 2 + 128 * y.val) &&& 85 = (b.val / 2) &&& 85 := by decide +kernel
theorem d2 : ∀ b : Fin 256, ∀ y : Fin 4, (b.val / 4 + 64 * y.val) &&& 51 = (b.val / 4) &&& 51 := by decide +kernel
theorem st1_byte (k b y : Nat) (hb : b < 256) : st1 (k + 1) (b + 256 * y) = st1 1 b + 256 * st1 k y := by
  unfold st1
  have e1 : (b + 256 * y) / 2 = (b / 2 + 128 * (y % 2)) + 256 * (y / 2) := by omega
  have h := d1 ⟨b, hb⟩ ⟨y % 2, by omega⟩
  simp only [maskB, Nat.mul_zero, Nat.add_zero] at *
  rw [e1, and_byte _ 85 _ _ (by omega) (by omega), and_byte b 85 y _ hb (by omega), h]
  omega
theorem st2_byte (k b y : Nat) (hb : b < 256) : st2 (k + 1) (b + 256 * y) = st2 1 b + 256 * st2 k y := by
  unfold st2
  have e1 : (b + 256 * y) / 4 = (b / 4 + 64 * (y % 4)) + 256 * (y / 4) := by omega
  have h := d2 ⟨b, hb⟩ ⟨y % 4, by omega⟩
  simp only [maskB, Nat.mul_zero, Nat.add_zero] at *
  rw [e1, and_byte _ 51 _ _ (by omega) (by omega), and_byte b 51 y _ hb (by omega), h]
  omega
theorem d3 : ∀ b : Fin 256, ∀ y : Fin 5, (b.val % 16 ≤ 4 ∧ b.val / 16 ≤ 4) → (b.val / 16 + 16 * y.val + b.val) &&& 15 = (b.val / 16 + b.val) &&& 15 := by decide +kernel
theorem st3_byte (k b y : Nat) (hb : b < 256) (h1 : b % 16 ≤ 4) (h2 : b / 16 ≤ 4) (hy : y % 16 ≤ 4) : st3 (k + 1) (b + 256 * y) = st3 1 b + 256 * st3 k y := by
  unfold st3
  have e1 : (b + 256 * y) / 16 + (b + 256 * y) = (b / 16 + 16 * (y % 16) + b) + 256 * (y / 16 + y) := by omega
  have h := d3 ⟨b, hb⟩ ⟨y % 16, by omega⟩ ⟨h1, h2⟩
  simp only [maskB, Nat.mul_zero, Nat.add_zero] at *
  rw [e1, and_byte _ 15 _ _ (by omega) (by omega), h]
theorem d4 : ∀ b : Fin 256, st1 1 b.val < 256 ∧ st2 1 (st1 1 b.val) < 256 ∧ st2 1 (st1 1 b.val) % 16 ≤ 4 ∧ st2 1 (st1 1 b.val) / 16 ≤ 4 ∧ st3 1 (st2 1 (st1 1 b.val)) = popW 8 b.val := by decide +kernel

/-- The bytes' counts, one a byte. -/
def cnts : Nat → Nat → Nat
  | 0, _ => 0
  | k + 1, x => popW 8 (x % 256) + 256 * cnts k (x / 256)
theorem low_nibble (k x : Nat) : st2 k (st1 k x) % 16 ≤ 4 := by
  cases k with
  | zero => simp [st2, st1, maskB]
  | succ k =>
    have hx : x = x % 256 + 256 * (x / 256) := by omega
    have h := d4 ⟨x % 256, by omega⟩
    rw [hx, st1_byte _ _ _ (by omega), st2_byte _ _ _ h.1]
    have := h.2.2.1
    simp only at this
    omega
theorem stages (k x : Nat) : st3 k (st2 k (st1 k x)) = cnts k x := by
  induction k generalizing x with
  | zero => simp [st3, maskB, cnts]
  | succ k ih =>
    have hx : x = x % 256 + 256 * (x / 256) := by omega
    have h := d4 ⟨x % 256, by omega⟩
    conv => lhs; rw [hx]
    rw [st1_byte _ _ _ (by omega), st2_byte _ _ _ h.1, st3_byte _ _ _ h.2.1 h.2.2.1 h.2.2.2.1 (low_nibble k (x / 256)), ih, h.2.2.2.2]
    rfl

theorem sum8 (p0 p1 p2 p3 p4 p5 p6 p7 x y z u : Nat) (h0 : p0 ≤ 8) (h1 : p1 ≤ 8) (h2 : p2 ≤ 8) (h3 : p3 ≤ 8) (h4 : p4 ≤ 8) (h5 : p5 ≤ 8) (h6 : p6 ≤ 8) (h7 : p7 ≤ 8)
    (hx : x = p0 + 256 * (p1 + 256 * (p2 + 256 * (p3 + 256 * (p4 + 256 * (p5 + 256 * (p6 + 256 * p7)))))))
    (hy : y = x + x / 256) (hz : z = y + y / 65536) (hu : u = z + z / 4294967296) : u % 128 = p0 + p1 + p2 + p3 + p4 + p5 + p6 + p7 := by
  have e1 : x / 256 = p1 + 256 * (p2 + 256 * (p3 + 256 * (p4 + 256 * (p5 + 256 * (p6 + 256 * p7))))) := by omega
  have e2 : y = (p0 + p1) + 256 * ((p1 + p2) + 256 * ((p2 + p3) + 256 * ((p3 + p4) + 256 * ((p4 + p5) + 256 * ((p5 + p6) + 256 * ((p6 + p7) + 256 * p7)))))) := by omega
  have e3 : y / 65536 = (p2 + p3) + 256 * ((p3 + p4) + 256 * ((p4 + p5) + 256 * ((p5 + p6) + 256 * ((p6 + p7) + 256 * p7)))) := by omega
  clear hx e1
  have e4 : z = (p0 + p1 + p2 + p3) + 256 * ((p1 + p2 + p3 + p4) + 256 * ((p2 + p3 + p4 + p5) + 256 * ((p3 + p4 + p5 + p6) + 256 * ((p4 + p5 + p6 + p7) + 256 * ((p5 + p6 + p7) + 256 * ((p6 + p7) + 256 * p7)))))) := by omega
  clear hy e2 hz e3
  have e5 : z / 4294967296 = (p4 + p5 + p6 + p7) + 256 * ((p5 + p6 + p7) + 256 * ((p6 + p7) + 256 * p7)) := by omega
  omega
/-- What the sums make of it: no sum goes round. -/
theorem pop_sums (x a b c e f : Nat) (_hx : x < 18446744073709551616) (ha : a = st1 8 x) (hb : b = st2 8 a) (hc : c = st3 8 b) (he : e = c + c / 256) (hf : f = e + e / 65536) :
    (f + f / 4294967296) % 128 = pop x ∧ a < 18446744073709551616 ∧ b / 16 + b < 18446744073709551616 ∧ c ≤ 651069095498377736 ∧ e < 18446744073709551616 ∧ f + f / 4294967296 < 9223372036854775808 := by
  subst ha; subst hb
  rw [stages] at hc
  simp only [cnts, Nat.mul_zero, Nat.add_zero, Nat.div_div_eq_div_mul] at hc
  have g : ∀ y, popW 8 y ≤ 8 := popW_le 8
  have hpop : pop x = popW 8 (x % 256) + popW 8 (x / 256 % 256) + popW 8 (x / 65536 % 256) + popW 8 (x / 16777216 % 256) + popW 8 (x / 4294967296 % 256) + popW 8 (x / 1099511627776 % 256) + popW 8 (x / 281474976710656 % 256) + popW 8 (x / 72057594037927936 % 256) := by
    have m : ∀ y, popW 8 (y % 256) = popW 8 y := fun y => popW_mod 8 y
    rw [m, m, m, m, m, m, m, m]
    unfold pop
    rw [show 64 = 8 + 56 by rfl, popW_add, show 56 = 8 + 48 by rfl, popW_add, show 48 = 8 + 40 by rfl, popW_add, show 40 = 8 + 32 by rfl, popW_add, show 32 = 8 + 24 by rfl, popW_add, show 24 = 8 + 16 by rfl, popW_add, show 16 = 8 + 8 by rfl, popW_add]
    simp only [Nat.div_div_eq_div_mul, Nat.reducePow, Nat.reduceMul]
    omega
  have hs := sum8 _ _ _ _ _ _ _ _ c e f _ (g (x % 256)) (g (x / 256 % 256)) (g (x / 65536 % 256)) (g (x / 16777216 % 256)) (g (x / 4294967296 % 256)) (g (x / 1099511627776 % 256)) (g (x / 281474976710656 % 256)) (g (x / 72057594037927936 % 256)) hc he hf rfl
  have hm1 : maskB 85 8 = 6148914691236517205 := by decide
  have hm2 : maskB 51 8 = 3689348814741910323 := by decide
  have b1 : st1 8 x ≤ 12297829382473034410 := by
    unfold st1; rw [hm1]
    have h1 : (x / 2) &&& 6148914691236517205 ≤ 6148914691236517205 := Nat.and_le_right
    have h2 : x &&& 6148914691236517205 ≤ 6148914691236517205 := Nat.and_le_right
    omega
  have b2 : st2 8 (st1 8 x) ≤ 7378697629483820646 := by
    unfold st2; rw [hm2]
    have h1 : (st1 8 x / 4) &&& 3689348814741910323 ≤ 3689348814741910323 := Nat.and_le_right
    have h2 : st1 8 x &&& 3689348814741910323 ≤ 3689348814741910323 := Nat.and_le_right
    omega
  have g0 := g (x % 256); have g1 := g (x / 256 % 256); have g2 := g (x / 65536 % 256); have g3 := g (x / 16777216 % 256)
  have g4 := g (x / 4294967296 % 256); have g5 := g (x / 1099511627776 % 256); have g6 := g (x / 281474976710656 % 256); have g7 := g (x / 72057594037927936 % 256)
  generalize popW 8 (x % 256) = p0 at *
  generalize popW 8 (x / 256 % 256) = p1 at *
  generalize popW 8 (x / 65536 % 256) = p2 at *
  generalize popW 8 (x / 16777216 % 256) = p3 at *
  generalize popW 8 (x / 4294967296 % 256) = p4 at *
  generalize popW 8 (x / 1099511627776 % 256) = p5 at *
  generalize popW 8 (x / 281474976710656 % 256) = p6 at *
  generalize popW 8 (x / 72057594037927936 % 256) = p7 at *
  have hc' : c ≤ 578721382704613384 + 72347712793764352 := by omega
  refine ⟨by rw [hs, hpop], by omega, by omega, by omega, by omega, by omega⟩
end Sg
end

section
namespace Sg
open Go

abbrev BV := BitVec 64
def mem (ws : List BV) (i : Nat) : Bool := (ws.getD (i / 64) 0).getLsbD (i % 64)
def addW (ws : List BV) (i : Nat) : List BV := ws.set (i / 64) (ws.getD (i / 64) 0 ||| BitVec.twoPow 64 (i % 64))
def dropW (ws : List BV) (i : Nat) : List BV := ws.set (i / 64) (ws.getD (i / 64) 0 &&& ~~~ BitVec.twoPow 64 (i % 64))
@[simp] theorem addW_length (ws : List BV) (i : Nat) : (addW ws i).length = ws.length := by simp [addW]
@[simp] theorem dropW_length (ws : List BV) (i : Nat) : (dropW ws i).length = ws.length := by simp [dropW]

theorem getD_set {ws : List BV} {i j : Nat} {x : BV} (hi : i < ws.length) : (ws.set i x).getD j 0 = if i = j then x else ws.getD j 0 := by
  simp only [List.getD_eq_getElem?_getD, List.getElem?_set]
  by_cases h : i = j
  · subst h; simp [hi]
  · simp [h]
theorem mem_addW (ws : List BV) (i j : Nat) (h : i / 64 < ws.length) : mem (addW ws i) j = (decide (j = i) || mem ws j) := by
  unfold mem addW
  rw [getD_set h]
  by_cases e : i / 64 = j / 64
  · rw [if_pos e, ← e, BitVec.getLsbD_or, BitVec.getLsbD_twoPow]
    have : (i % 64 = j % 64) ↔ j = i := by omega
    have hlt : i % 64 < 64 := by omega
    simp only [this, hlt, decide_true, Bool.true_and]
    rw [Bool.or_comm]
  · rw [if_neg e]
    have : ¬ j = i := fun h => e (by rw [h])
    simp [this]
theorem mem_out {ws : List BV} {i : Nat} (h : ws.length ≤ i / 64) : mem ws i = false := by
  unfold mem
  have : ws.getD (i / 64) 0 = 0 := by rw [List.getD_eq_getElem?_getD, List.getElem?_eq_none h]; rfl
  rw [this]; simp
theorem mem_replicate (m i : Nat) : mem (List.replicate m 0) i = false := by
  unfold mem
  have : (List.replicate m (0 : BV)).getD (i / 64) 0 = 0 := by
    rw [List.getD_eq_getElem?_getD, List.getElem?_replicate]; split <;> rfl
  rw [this]; simp
theorem ofInt_toNat (x : BV) : BitVec.ofInt 64 (x.toNat : Int) = x := by simp
theorem wrap_toNat (x : BV) : IntKind.u64.wrap (x.toNat : Int) = (x.toNat : Int) := wrap_u64_in (by omega) (by have := x.isLt; omega)
theorem bitop_or (x y : BV) : bitop .or .u64 (x.toNat : Int) (y.toNat : Int) = ((x ||| y).toNat : Int) := by
  show IntKind.u64.wrap ((BitVec.ofInt 64 (x.toNat : Int) ||| BitVec.ofInt 64 (y.toNat : Int)).toNat : Int) = _
  rw [ofInt_toNat, ofInt_toNat, wrap_toNat]
theorem bitop_and (x y : BV) : bitop .and .u64 (x.toNat : Int) (y.toNat : Int) = ((x &&& y).toNat : Int) := by
  show IntKind.u64.wrap ((BitVec.ofInt 64 (x.toNat : Int) &&& BitVec.ofInt 64 (y.toNat : Int)).toNat : Int) = _
  rw [ofInt_toNat, ofInt_toNat, wrap_toNat]
theorem shl_one (m : Nat) (h : m < 64) : IntKind.u64.wrap (1 * 2 ^ (min m 64)) = ((BitVec.twoPow 64 m).toNat : Int) := by
  have hp : (2 : Nat) ^ m < 2 ^ 64 := Nat.pow_lt_pow_right (by omega) h
  rw [Nat.min_eq_left (by omega), BitVec.toNat_twoPow, Nat.mod_eq_of_lt hp, Int.one_mul]
  rw [wrap_u64_in]
  · simp
  · exact Int.le_of_lt (Int.pow_pos (by omega))
  · have : ((2 ^ m : Nat) : Int) < ((2 ^ 64 : Nat) : Int) := by exact_mod_cast hp
    simpa using this
theorem and_two (x : BV) (m : Nat) (h : m < 64) : ((x &&& BitVec.twoPow 64 m).toNat : Int) ≠ 0 ↔ x.getLsbD m = true := by
  constructor
  · intro h1
    by_cases hb : x.getLsbD m = true
    · exact hb
    · exfalso; apply h1
      have : x &&& BitVec.twoPow 64 m = 0 := by
        apply BitVec.eq_of_getLsbD_eq
        intro i hi
        rw [BitVec.getLsbD_and, BitVec.getLsbD_twoPow]
        by_cases e : m = i
        · subst e; simp at hb; simp [hb]
        · simp [e]
      rw [this]; rfl
  · intro hb h1
    have h2 : x &&& BitVec.twoPow 64 m = 0 := BitVec.eq_of_toNat_eq (by simpa using h1)
    have h3 := congrArg (fun b => b.getLsbD m) h2
    simp only [BitVec.getLsbD_and, BitVec.getLsbD_twoPow, hb, h, decide_true, Bool.and_true] at h3
    simp at h3

theorem filter_range_le {p : Nat → Bool} {n m : Nat} (h : n ≤ m) (hp : ∀ i, n ≤ i → p i = false) : (List.range m).filter p = (List.range n).filter p := by
  obtain ⟨k, rfl⟩ := Nat.exists_eq_add_of_le h
  rw [List.range_add, List.filter_append]
  have : ((List.range k).map (n + ·)).filter p = [] := by
    rw [List.filter_eq_nil_iff]
    intro a ha
    obtain ⟨b, _, rfl⟩ := List.mem_map.1 ha
    rw [hp _ (by omega)]; simp
  rw [this, List.append_nil]
theorem filter_range_lt {p : Nat → Bool} {i j : Nat} (h : i ≤ j) (hp : ∀ m, m < j → i ≤ m → p m = false) : (List.range j).filter p = (List.range i).filter p := by
  obtain ⟨k, rfl⟩ := Nat.exists_eq_add_of_le h
  rw [List.range_add, List.filter_append]
  have : ((List.range k).map (i + ·)).filter p = [] := by
    rw [List.filter_eq_nil_iff]
    intro a ha
    obtain ⟨b, hb, rfl⟩ := List.mem_map.1 ha
    have := List.mem_range.1 hb
    rw [hp _ (by omega) (by omega)]; simp
  rw [this, List.append_nil]
theorem lowest (x : BV) (h : x ≠ 0) : ∃ k, k < 64 ∧ x.getLsbD k = true ∧ (∀ i, i < k → x.getLsbD i = false) ∧ x.toNat &&& (2 ^ 64 - x.toNat) = 2 ^ k := by
  have h0 : x.toNat ≠ 0 := fun e => h (BitVec.eq_of_toNat_eq (by simpa using e))
  obtain ⟨h1, h2⟩ := Lib.lowest_bit 64 x.toNat h0 x.isLt
  refine ⟨Lib.ctz 64 x.toNat, h2, ?_, ?_, h1⟩
  · have := congrArg (fun y => y.testBit (Lib.ctz 64 x.toNat)) h1
    simp only [Nat.testBit_and, Nat.testBit_two_pow_self, Bool.and_eq_true] at this
    exact this.1
  · intro i hi
    generalize Lib.ctz 64 x.toNat = k at *
    by_cases hb : x.getLsbD i = true
    · exfalso
      -- the least set bit's place
      have key : ∀ m, m < 64 → x.toNat.testBit m = true → (∀ j, j < m → x.toNat.testBit j = false) → (x.toNat &&& (2 ^ 64 - x.toNat)).testBit m = true := by
        intro m hm hbm hlow
        rw [Nat.testBit_and, hbm, Bool.true_and]
        have hdvd : x.toNat % 2 ^ m = 0 := by
          apply Nat.eq_of_testBit_eq
          intro j
          rw [Nat.testBit_mod_two_pow, Nat.zero_testBit]
          by_cases hj : j < m
          · simp [hj, hlow j hj]
          · simp [hj]
        have hodd : x.toNat / 2 ^ m % 2 = 1 := by
          rw [Nat.testBit_eq_decide_div_mod_eq] at hbm
          simpa using hbm
        rw [Nat.testBit_eq_decide_div_mod_eq]
        have hlt := x.isLt
        obtain ⟨q, hq⟩ : ∃ q, x.toNat = 2 ^ m * q := ⟨x.toNat / 2 ^ m, by have := Nat.div_add_mod x.toNat (2 ^ m); omega⟩
        have hpos : 0 < 2 ^ m := Nat.pow_pos (by omega)
        have hq' : x.toNat / 2 ^ m = q := by rw [hq]; exact Nat.mul_div_cancel_left q hpos
        have h64 : (2 : Nat) ^ 64 = 2 ^ m * 2 ^ (64 - m) := by rw [← Nat.pow_add]; congr 1; omega
        have hsub : 2 ^ 64 - x.toNat = 2 ^ m * (2 ^ (64 - m) - q) := by rw [h64, hq, Nat.mul_sub]
        rw [hsub, Nat.mul_div_cancel_left _ hpos]
        rw [hq'] at hodd
        have hqlt : q < 2 ^ (64 - m) := by
          rw [h64, hq] at hlt
          exact Nat.lt_of_mul_lt_mul_left hlt
        have heven : 2 ^ (64 - m) % 2 = 0 := by
          obtain ⟨r, hr⟩ : ∃ r, 64 - m = r + 1 := ⟨63 - m, by omega⟩
          rw [hr, Nat.pow_succ]; omega
        have : (2 ^ (64 - m) - q) % 2 = 1 := by omega
        simp [this]
      -- take the least set bit
      have hex : ∃ m, m ≤ i ∧ x.toNat.testBit m = true ∧ ∀ j, j < m → x.toNat.testBit j = false := by
        have : ∀ i, x.toNat.testBit i = true → ∃ m, m ≤ i ∧ x.toNat.testBit m = true ∧ ∀ j, j < m → x.toNat.testBit j = false := by
          intro i
          induction i using Nat.strongRecOn with
          | _ i ih =>
            intro hb
            by_cases hall : ∀ j, j < i → x.toNat.testBit j = false
            · exact ⟨i, Nat.le_refl _, hb, hall⟩
            · obtain ⟨j, hj⟩ := Classical.not_forall.1 hall
              obtain ⟨hj1, hj2⟩ := Classical.not_imp.1 hj
              obtain ⟨m, hm, h1, h2⟩ := ih j hj1 (by simpa using hj2)
              exact ⟨m, by omega, h1, h2⟩
        exact this i hb
      obtain ⟨m, hm, hbm, hlow⟩ := hex
      have h3 := key m (by omega) hbm hlow
      rw [h1, Nat.testBit_two_pow] at h3
      simp at h3
      omega
    · simpa using hb

abbrev uSh (a k : Int) : Int := a.fdiv (2 ^ (min k.toNat IntKind.u64.bits))
abbrev uAnd (a c : Int) : Int := bitop .and .u64 a c
abbrev uAdd (a c : Int) : Int := IntKind.u64.wrap (a + c)
theorem uSh_nat (a k : Nat) (hk : k ≤ 64) : uSh (a : Int) (k : Int) = ((a / 2 ^ k : Nat) : Int) := by
  unfold uSh
  have : min ((k : Int).toNat) IntKind.u64.bits = k := by simp [IntKind.bits]; omega
  rw [this, Int.fdiv_eq_ediv_of_nonneg _ (by exact Int.le_of_lt (Int.pow_pos (by omega)))]
  simp
theorem uAnd_nat (a c : Nat) (ha : a < 18446744073709551616) (hc : c < 18446744073709551616) : uAnd (a : Int) (c : Int) = ((a &&& c : Nat) : Int) := by
  have h1 : ((BitVec.ofNat 64 a).toNat : Int) = a := by rw [BitVec.toNat_ofNat, Nat.mod_eq_of_lt ha]
  have h2 : ((BitVec.ofNat 64 c).toNat : Int) = c := by rw [BitVec.toNat_ofNat, Nat.mod_eq_of_lt hc]
  have := bitop_and (BitVec.ofNat 64 a) (BitVec.ofNat 64 c)
  rw [h1, h2] at this
  unfold uAnd
  rw [this, BitVec.toNat_and, BitVec.toNat_ofNat, BitVec.toNat_ofNat, Nat.mod_eq_of_lt ha, Nat.mod_eq_of_lt hc]
theorem uAdd_nat (a c : Nat) (h : a + c < 18446744073709551616) : uAdd (a : Int) (c : Int) = ((a + c : Nat) : Int) := by
  unfold uAdd; rw [wrap_u64_in (by omega) (by omega)]; simp
theorem and127 (a : Nat) (h : a < 9223372036854775808) : bitop .and .i64 (a : Int) 127 = ((a % 128 : Nat) : Int) := by
  show IntKind.i64.wrap ((BitVec.ofInt 64 (a : Int) &&& BitVec.ofInt 64 127).toNat : Int) = _
  have h1 : BitVec.ofInt 64 (a : Int) = BitVec.ofNat 64 a := by simp
  have h2 : BitVec.ofInt 64 127 = BitVec.ofNat 64 127 := by rfl
  rw [h1, h2, BitVec.toNat_and, BitVec.toNat_ofNat, BitVec.toNat_ofNat, Nat.mod_eq_of_lt (by omega), show 127 % 2 ^ 64 = 2 ^ 7 - 1 by rfl, Nat.and_two_pow_sub_one_eq_mod]
  rw [wrap_i64 (by omega) (by omega)]
theorem ones_pure (x : Nat) (hx : x < 18446744073709551616) (x1 x2 x3 x4 x5 x6 : Int)
    (h1 : x1 = uAdd (uAnd (uSh x 1) 6148914691236517205) (uAnd x 6148914691236517205))
    (h2 : x2 = uAdd (uAnd (uSh x1 2) 3689348814741910323) (uAnd x1 3689348814741910323))
    (h3 : x3 = uAnd (uAdd (uSh x2 4) x2) 1085102592571150095)
    (h4 : x4 = uAdd x3 (uSh x3 8)) (h5 : x5 = uAdd x4 (uSh x4 16)) (h6 : x6 = uAdd x5 (uSh x5 32)) :
    bitop .and .i64 (IntKind.i64.wrap x6) 127 = (pop x : Int) := by
  obtain ⟨r, ba, bb, bc, be, bf⟩ := pop_sums x _ _ _ _ _ hx rfl rfl rfl rfl rfl
  generalize ha : st1 8 x = a at *
  generalize hb : st2 8 a = b at *
  generalize hc : st3 8 b = c at *
  have m1 : maskB 85 8 = 6148914691236517205 := by decide
  have m2 : maskB 51 8 = 3689348814741910323 := by decide
  have m3 : maskB 15 8 = 1085102592571150095 := by decide
  have bb' : b < 18446744073709551616 := by omega
  have e1 : x1 = (a : Int) := by
    rw [h1, show (1 : Int) = ((1 : Nat) : Int) by rfl, show (6148914691236517205 : Int) = ((6148914691236517205 : Nat) : Int) by rfl, uSh_nat _ _ (by omega), uAnd_nat _ _ (by omega) (by omega), uAnd_nat _ _ hx (by omega)]
    have hs : (x / 2 ^ 1 &&& 6148914691236517205) + (x &&& 6148914691236517205) = a := by rw [← ha, st1, m1]
    rw [uAdd_nat _ _ (by omega), hs]
  have e2 : x2 = (b : Int) := by
    rw [h2, e1, show (2 : Int) = ((2 : Nat) : Int) by rfl, show (3689348814741910323 : Int) = ((3689348814741910323 : Nat) : Int) by rfl, uSh_nat _ _ (by omega), uAnd_nat _ _ (by omega) (by omega), uAnd_nat _ _ ba (by omega)]
    have hs : (a / 2 ^ 2 &&& 3689348814741910323) + (a &&& 3689348814741910323) = b := by rw [← hb, st2, m2]
    rw [uAdd_nat _ _ (by omega), hs]
  have e3 : x3 = (c : Int) := by
    rw [h3, e2, show (4 : Int) = ((4 : Nat) : Int) by rfl, show (1085102592571150095 : Int) = ((1085102592571150095 : Nat) : Int) by rfl, uSh_nat _ _ (by omega), uAdd_nat _ _ (by omega), uAnd_nat _ _ (by omega) (by omega)]
    rw [← hc, st3, m3]
  have e4 : x4 = ((c + c / 256 : Nat) : Int) := by
    rw [h4, e3, show (8 : Int) = ((8 : Nat) : Int) by rfl, uSh_nat _ _ (by omega), uAdd_nat _ _ (by omega)]
  generalize c + c / 256 = e at *
  have e5 : x5 = ((e + e / 65536 : Nat) : Int) := by
    rw [h5, e4, show (16 : Int) = ((16 : Nat) : Int) by rfl, uSh_nat _ _ (by omega), uAdd_nat _ _ (by omega)]
  generalize e + e / 65536 = f at *
  have e6 : x6 = ((f + f / 4294967296 : Nat) : Int) := by
    rw [h6, e5, show (32 : Int) = ((32 : Nat) : Int) by rfl, uSh_nat _ _ (by omega), uAdd_nat _ _ (by omega)]
  have b7 : f + f / 4294967296 < 9223372036854775808 := bf
  rw [e6, wrap_i64 (by omega) (by omega), and127 _ b7, r]

def tzTab : Array Value := (Lib.deBruijn64tab.map fun (n : Nat) => Value.int .u8 (n : Int)).toArray
def tzAt (k : Nat) : Nat := 2 ^ k * 285870213051353865 % 18446744073709551616 / 288230376151711744
theorem tz_pure (x k : Nat) (h0 : x ≠ 0) (hx : x < 18446744073709551616) (hk : x &&& (2 ^ 64 - x) = 2 ^ k) :
    uSh (IntKind.u64.wrap (uAnd (x : Int) (IntKind.u64.wrap (-(x : Int))) * 285870213051353865)) 58 = (tzAt k : Int) := by
  have e1 : IntKind.u64.wrap (-(x : Int)) = ((2 ^ 64 - x : Nat) : Int) := by rw [wrap_u64]; omega
  rw [e1, uAnd_nat _ _ hx (by omega), hk, wrap_u64]
  have e2 : ((2 ^ k : Nat) : Int) * 285870213051353865 % 18446744073709551616 = ((2 ^ k * 285870213051353865 % 18446744073709551616 : Nat) : Int) := by
    rw [show (285870213051353865 : Int) = ((285870213051353865 : Nat) : Int) by rfl, show (18446744073709551616 : Int) = ((18446744073709551616 : Nat) : Int) by rfl, ← Int.natCast_mul, ← Int.natCast_emod]
  rw [e2, show (58 : Int) = ((58 : Nat) : Int) by rfl, uSh_nat _ _ (by omega)]
  rfl
theorem getD_some {l : List Nat} {i v : Nat} (h : l.getD i 0 = v) (hi : i < l.length) : l[i]? = some v := by
  rw [List.getD_eq_getElem?_getD, List.getElem?_eq_getElem hi] at h
  rw [List.getElem?_eq_getElem hi]
  exact congrArg some h
theorem map_get {l : List Nat} {i v : Nat} (h : l[i]? = some v) : (l.map fun (n : Nat) => Value.int .u8 (n : Int)).toArray[i]? = some (.int .u8 (v : Int)) := by
  simp [h]
theorem tab_length : Lib.deBruijn64tab.length = 64 := by decide
theorem tz_tab (k : Nat) (hk : k < 64) : tzAt k < 64 ∧ tzTab[tzAt k]? = some (.int .u8 (k : Int)) := by
  obtain ⟨h1, h2⟩ := Lib.deBruijn64_at k hk
  have h1' : tzAt k < 64 := h1
  have h2' : Lib.deBruijn64tab.getD (tzAt k) 0 = k := h2
  refine ⟨h1', ?_⟩
  generalize tzAt k = m at *
  exact map_get (getD_some h2' (by rw [tab_length]; exact h1'))
/-- The table of math/bits stands where the program's first variable stands. -/
def Tab (w : World) : Prop := ∃ T fr, w.heap[0]? = some (.cells tzTab T fr)
theorem Tab.ch {F : Nat → Prop} {w w' : World} (h : Tab w) (c : Ch F w w') (hn : ¬ F 0) : Tab w' := by
  obtain ⟨T, fr, h⟩ := h; exact ⟨T, fr, c.at h hn⟩
theorem Tab.ch0 {w w' : World} (h : Tab w) (c : Ch0 w w') : Tab w' := h.ch c id

theorem shl_ones (m : Nat) (h : m < 64) : IntKind.u64.wrap (18446744073709551615 * 2 ^ (min m 64)) = ((BitVec.allOnes 64 <<< m).toNat : Int) := by
  rw [Nat.min_eq_left (by omega), wrap_u64, BitVec.toNat_shiftLeft, BitVec.toNat_allOnes, Nat.shiftLeft_eq]
  have e : (18446744073709551615 : Int) * 2 ^ m = (((2 ^ 64 - 1) * 2 ^ m : Nat) : Int) := by simp
  rw [e, show (18446744073709551616 : Int) = ((2 ^ 64 : Nat) : Int) by rfl, ← Int.natCast_emod]
theorem ones_bit (m j : Nat) (hj : j < 64) : (BitVec.allOnes 64 <<< m).getLsbD j = decide (m ≤ j) := by
  rw [BitVec.getLsbD_shiftLeft, BitVec.getLsbD_allOnes]
  by_cases h : m ≤ j
  · have h1 : ¬ j < m := by omega
    have h2 : j - m < 64 := by omega
    simp [hj, h1, h2, h]
  · have h1 : j < m := by omega
    simp [h1, h]
end Sg
end

section
set_option linter.unusedVariables false
set_option linter.unusedSimpArgs false
set_option maxRecDepth 100000
namespace Go.Proofs.YtnfkblboimkcjaaDoor
open Go Go.RowKit Sg

def bcell (x : BV) : Value := .int .u64 (x.toNat : Int)
def wcells (ws : List BV) : Array Value := (ws.map bcell).toArray
theorem wcells_size (ws : List BV) : (wcells ws).size = ws.length := by simp [wcells]
theorem wcells_get (ws : List BV) (i : Nat) (h : i < ws.length) : (wcells ws)[i]? = some (bcell (ws.getD i 0)) := by
  simp [wcells, List.getD_eq_getElem?_getD, List.getElem?_eq_getElem h]
theorem wcells_set (ws : List BV) (i : Nat) (x : BV) : (wcells ws).setIfInBounds i (bcell x) = wcells (ws.set i x) := by
  simp [wcells, List.map_set]

/-- At block b stands a set of the program, with the bound n; its words stand in block wb. -/
structure IsSet (w : World) (b wb : Nat) (n : Nat) (ws : List BV) : Prop where
  hd : w.heap[b]? = some (.cells #[.slice (some ⟨wb, 0, none⟩) ws.length ws.length, .int .i64 (n : Int), .bool true] 123 (0, 0))
  wd : w.heap[wb]? = some (.cells (wcells ws) 97 (0, 0))
  len : ws.length = (n + 63) / 64
  le : n ≤ 4096
  clean : ∀ i, n ≤ i → mem ws i = false
theorem IsSet.ch {F : Nat → Prop} {w w' : World} {b wb n : Nat} {ws : List BV} (h : IsSet w b wb n ws) (c : Ch F w w') (h1 : ¬ F b) (h2 : ¬ F wb) : IsSet w' b wb n ws :=
  ⟨c.at h.hd h1, c.at h.wd h2, h.len, h.le, h.clean⟩
theorem IsSet.ch0 {w w' : World} {b wb n : Nat} {ws : List BV} (h : IsSet w b wb n ws) (c : Ch0 w w') : IsSet w' b wb n ws := h.ch c id id
theorem IsSet.dr {w w' : World} {b wb n : Nat} {ws : List BV} (h : IsSet w b wb n ws) (c : Dr w w') : IsSet w' b wb n ws := h.ch0 c.ch0
theorem IsSet.ltb {w : World} {b wb n : Nat} {ws : List BV} (h : IsSet w b wb n ws) : b < w.heap.size := lt_of_blk h.hd
theorem IsSet.ltw {w : World} {b wb n : Nat} {ws : List BV} (h : IsSet w b wb n ws) : wb < w.heap.size := lt_of_blk h.wd
theorem IsSet.ne {w : World} {b wb n : Nat} {ws : List BV} (h : IsSet w b wb n ws) : b ≠ wb := by
  intro e
  have h1 := h.hd
  rw [e, h.wd] at h1
  have h2 := (Obj.cells.inj (Option.some.inj h1)).2.1
  exact absurd h2 (by decide)
theorem IsSet.slot {w : World} {b wb n : Nat} {ws : List BV} (h : IsSet w b wb n ws) {i : Nat} (hi : i < n) : i / 64 < ws.length := by rw [h.len]; omega
theorem wcells_replicate (m : Nat) : Array.replicate m (Value.int .u64 0) = wcells (List.replicate m 0) := by
  unfold wcells bcell
  simp
theorem bit_cell (m : Nat) (h : m < 64) : Value.int .u64 (IntKind.u64.wrap (1 * 2 ^ (min m 64))) = bcell (BitVec.twoPow 64 m) := by unfold bcell; rw [shl_one m h]

theorem none_made (b wb n : Nat) (ws : List BV) (w : World) (h : IsSet w b wb n ws) :
  Sg.Ret Tryd.prog 70 #[.pointer (some ⟨b, 0, none⟩)] w fun v w' => v = .bool false ∧ w = w' := by
 have hd := h.hd
 refine enter1 (n := 12) (l := [.pointer (some ⟨b, 0, none⟩)]) Tryd.func70 rfl rfl rfl rfl ?_
 refine W.g1 0 (v1 := .pointer (some ⟨b, 0, none⟩)) rfl ?_; intro σ s0
 refine W.seq ?_
 refine W.region ?_
 refine WL.x (X.asg lc) rfl ?_
 refine WL.e1 Nx.thn 0 (lt rfl (s0)) ?_
 intro σ1 s0
 refine W.seq ?_
 refine W.region ?_
 refine WL.x (X.mv (s0)) rfl ?_
 refine WL.x (X.eqlN Tryd.underlying75 (lh) lc) rfl ?_
 refine WL.x (X.mv (lh)) rfl ?_
 refine WL.yes rfl rfl (lh) (rfl) ?_
 refine WL.x (X.mv (jt2 rfl (lt rfl (s0)))) rfl ?_
 refine WL.yes rfl rfl (lt rfl (lh)) (rfl) ?_
 refine WL.x (X.nilck (lh)) rfl ?_
 refine WL.yes rfl rfl (jt2 rfl (lh)) (rfl) ?_
 refine WL.x (X.fieldAddr fd123_2 (lh)) rfl ?_
 refine WL.yes rfl rfl (jt2 rfl (lt rfl (lh))) (rfl) ?_
 refine WL.x (X.load pl4 (lh) (by assumption) (by rfl)) rfl ?_
 refine WL.yes rfl rfl (jt4 rfl (lh)) (rfl) ?_
 refine WL.x (X.not (lh)) rfl ?_
 refine WL.x (X.pickF (jt4 rfl (lt rfl (lh))) (rfl) (lh)) rfl ?_
 refine WL.x (X.asg (lh)) rfl ?_
 refine WL.e1 Nx.thn 2 (lh) ?_
 intro σ2 s2
 refine W.ret1 Nx.f1 s2 ?_
 exact ⟨rfl, rfl⟩
theorem new_ok (n : Int) (w : World) :
  Sg.Ret Tryd.prog 57 #[.int .i64 n] w fun v w' => Ch0 w w' ∧ (if 0 ≤ n ∧ n ≤ 4096 then ∃ b wb, v = .tuple #[.pointer (some ⟨b, 0, none⟩), .int .i64 0] ∧ IsSet w' b wb n.toNat (List.replicate ((n.toNat + 63) / 64) 0) ∧ w.heap.size ≤ b ∧ w.heap.size ≤ wb else v = .tuple #[.pointer none, .int .i64 1]) := by
 refine enter2 (n := 24) (l := [.int .i64 n]) Tryd.func57 rfl rfl rfl rfl ?_
 refine W.g1 0 (v1 := .int .i64 n) rfl ?_; intro σ s0
 refine W.seq ?_
 refine W.region ?_
 refine WL.x (X.asg lc) rfl ?_
 refine WL.x (X.asg lc) rfl ?_
 refine WL.e1 Nx.thn 0 (jt2 rfl (s0)) ?_
 intro σ1 s0
 refine W.seq ?_
 refine W.seq ?_
 refine W.region ?_
 refine WL.x (X.mv (s0)) rfl ?_
 refine WL.x (X.lss (lh) lc) rfl ?_
 refine WL.x (X.mv (lh)) rfl ?_
 refine WL.splitp (lh) (fun qb1 => ?_) (fun qb1 => ?_)
 ·
  refine WL.no rfl rfl (lh) (decide_eq_true qb1) rfl ?_
  refine WL.no rfl rfl (lt rfl (lh)) (decide_eq_true qb1) rfl ?_
  refine WL.x (X.pickT (jt2 rfl (lh)) (decide_eq_true qb1) lc) rfl ?_
  refine WL.e2 Nx.thn 0 10 (jt4 rfl (jt2 rfl (s0))) (lh) ?_
  intro σ2 s0 s10
  refine W.cndT s10 ?_
  refine W.seq ?_
  refine W.region ?_
  refine WL.x (X.asg lc) rfl ?_
  refine WL.x (X.asg lc) rfl ?_
  refine WL.e2 Nx.thn 2 3 (lt rfl (lh)) (lh) ?_
  intro σ3 s2 s3
  refine W.ret2 (Nx.rthn Nx.f2) s2 s3 ?_
  exact ⟨Ch.refl _ _, by rw [if_neg (by omega)]⟩
 ·
  refine WL.yes rfl rfl (lh) (decide_eq_false qb1) ?_
  refine WL.x (X.mv (jt2 rfl (lt rfl (s0)))) rfl ?_
  refine WL.yes rfl rfl (lt rfl (lh)) (decide_eq_false qb1) ?_
  refine WL.x (X.gtr (lh) lc) rfl ?_
  refine WL.x (X.pickF (jt2 rfl (lh)) (decide_eq_false qb1) (lh)) rfl ?_
  refine WL.e2 Nx.thn 0 10 (jt4 rfl (jt2 rfl (s0))) (lh) ?_
  intro σ4 s0 s10
  refine W.cndp s10 (fun qh2 => ?_) (fun qh2 => ?_)
  ·
   refine W.seq ?_
   refine W.region ?_
   refine WL.x (X.asg lc) rfl ?_
   refine WL.x (X.asg lc) rfl ?_
   refine WL.e2 Nx.thn 2 3 (lt rfl (lh)) (lh) ?_
   intro σ5 s2 s3
   refine W.ret2 (Nx.rthn Nx.f2) s2 s3 ?_
   exact ⟨Ch.refl _ _, by rw [if_neg (by omega)]⟩
  ·
   refine W.skip Nx.thn ?_
   refine W.seq ?_
   refine W.region ?_
   refine WL.x (X.mv (s0)) rfl ?_
   refine WL.x (X.add (lh) lc (by omega) (by omega)) rfl ?_
   refine WL.x (X.quo (lh) lc (by omega) (by omega) (wrap_i64 (by omega) (by omega))) rfl ?_
   have hdiv : (n + 63) / 64 ≤ 64 := by omega
   have hnn : 0 ≤ (n + 63) / 64 := by omega
   refine WL.make Tryd.underlying121 el97 rfl (lh) (lh) (by omega) (by omega) (by omega) rfl ?_
   intro w1 um; have hm := um.at_; have c1 := um.ch; have zm := um.size
   refine WL.x (X.asg (lh)) rfl ?_
   refine WL.e2 Nx.thn 0 4 (jt4 rfl (lt rfl (s0))) (lh) ?_
   intro σ6 s0 s4
   refine W.seq ?_
   refine W.region ?_
   refine WL.x (X.mv (s4)) rfl ?_
   refine WL.x (X.mv (lt rfl (s4))) rfl ?_
   refine WL.x (X.lenSl Tryd.underlying121 (lh)) rfl ?_
   refine WL.x (X.mv (jt2 rfl (lt rfl (s4)))) rfl ?_
   refine WL.x (X.lenSl Tryd.underlying121 (lh)) rfl ?_
   refine WL.x (X.slHM Tryd.underlying121 el97 (jt4 rfl (lh)) (jt2 rfl (lh)) (lh) (by omega) (by omega) (by omega)) rfl ?_
   refine WL.x (X.mv (jt4 rfl (jt2 rfl (s0)))) rfl ?_
   refine WL.x (X.build bd123 (pcons (lt rfl (lh)) (pcons (lh) (pcons lc pnil))) rfl (rfl : _ = [_, _, _])) rfl ?_
   refine WL.box (lh) rfl ?_
   intro w2 u4_8; have hu4_8 := u4_8.at_; have cu4_8 := u4_8.ch; have zu4_8 := u4_8.size
   refine WL.x (X.asg (lh)) rfl ?_
   refine WL.x (X.asg lc) rfl ?_
   refine WL.e2 Nx.thn 2 3 (lt rfl (lh)) (lh) ?_
   intro σ7 s2 s3
   refine W.ret2 Nx.f2 s2 s3 ?_
   have hn0 : n = (n.toNat : Int) := by omega
   have e : ((n + 63) / 64).toNat = (n.toNat + 63) / 64 := by omega
   refine ⟨c1.trans0 cu4_8, ?_⟩
   rw [if_pos ⟨by omega, by omega⟩]
   refine ⟨_, _, rfl, ⟨?_, ?_, by simp, by omega, fun i _ => mem_replicate _ i⟩, by omega, Nat.le_refl _⟩
   · rw [hu4_8]; simp only [Int.toNat_natCast, e, List.length_replicate, ← hn0]
   · rw [cu4_8.at0 hm, e, wcells_replicate]
theorem at_in (b wb n : Nat) (ws : List BV) (i : Int) (w : World) (h : IsSet w b wb n ws) (h0 : 0 ≤ i) (h1 : i < n) :
  Sg.Ret Tryd.prog 60 #[.pointer (some ⟨b, 0, none⟩), .int .i64 i] w fun v w' => v = .tuple #[.pointer (some ⟨wb, i.toNat / 64, none⟩), bcell (BitVec.twoPow 64 (i.toNat % 64)), .int .i64 0] ∧ Dr w w' := by
 have hd := h.hd; have hlen := h.len; have hle := h.le
 refine enter3 (n := 31) (l := [.pointer (some ⟨b, 0, none⟩), .int .i64 i]) Tryd.func60 rfl rfl rfl rfl ?_
 refine W.g2 0 1 (v1 := .pointer (some ⟨b, 0, none⟩)) (v2 := .int .i64 i) rfl rfl ?_; intro σ s0 s1
 refine W.seq ?_
 refine W.region ?_
 refine WL.x (X.asg lc) rfl ?_
 refine WL.x (X.asg lc) rfl ?_
 refine WL.x (X.asg lc) rfl ?_
 refine WL.e2 Nx.thn 0 1 (jt2 rfl (lt rfl (s0))) (jt2 rfl (lt rfl (s1))) ?_
 intro σ1 s0 s1
 refine W.seq ?_
 refine W.block ?_
 refine W.seq ?_
 refine W.region ?_
 refine WL.x (X.mv (s0)) rfl ?_
 refine WL.call1 ce70 (lh) (none_made b wb n ws w h) rfl ?_
 rintro _ _ ⟨rfl, rfl⟩
 refine WL.x (X.asg (lh)) rfl ?_
 refine WL.e3 Nx.thn 0 1 7 (jt2 rfl (lt rfl (s0))) (jt2 rfl (lt rfl (s1))) (lh) ?_
 intro σ2 s0 s1 s7
 refine W.cndBF s7 (rfl) ?_
 refine W.seq ?_
 refine W.region ?_
 refine WL.x (X.mv (s1)) rfl ?_
 refine WL.x (X.lss (lh) lc) rfl ?_
 refine WL.x (X.mv (lh)) rfl ?_
 refine WL.yes rfl rfl (lh) (decide_eq_false (by omega)) ?_
 refine WL.x (X.mv (jt2 rfl (lt rfl (s1)))) rfl ?_
 refine WL.yes rfl rfl (lt rfl (lh)) (decide_eq_false (by omega)) ?_
 refine WL.x (X.mv (jt4 rfl (s0))) rfl ?_
 refine WL.yes rfl rfl (jt2 rfl (lh)) (decide_eq_false (by omega)) ?_
 refine WL.x (X.nilck (lh)) rfl ?_
 refine WL.yes rfl rfl (jt2 rfl (lt rfl (lh))) (decide_eq_false (by omega)) ?_
 refine WL.x (X.fieldAddr fd123_1 (lh)) rfl ?_
 refine WL.yes rfl rfl (jt4 rfl (lh)) (decide_eq_false (by omega)) ?_
 refine WL.x (X.load pl3 (lh) (by assumption) (by rfl)) rfl ?_
 refine WL.yes rfl rfl (jt4 rfl (lt rfl (lh))) (decide_eq_false (by omega)) ?_
 refine WL.x (X.geq (jt4 rfl (lh)) (lh)) rfl ?_
 refine WL.x (X.pickF (jt4 rfl (jt2 rfl (lh))) (decide_eq_false (by omega)) (lh)) rfl ?_
 refine WL.x (X.asg (lh)) rfl ?_
 refine WL.e3 Nx.thn 0 1 10 (jt8 rfl (jt2 rfl (lt rfl (s0)))) (jt8 rfl (jt2 rfl (lt rfl (s1)))) (lh) ?_
 intro σ3 s0 s1 s10
 refine W.cndN s10 (by omega) ?_
 refine W.skip (Nx.blk Nx.thn) ?_
 refine W.seq ?_
 refine W.draw mo (by kernel_rfl) Nx.thn ?_
 refine WQ.x (fun _ => X.mv (s0)) rfl ?_
 refine WQ.x (fun _ => X.nilck (lh)) rfl ?_
 refine WQ.x (fun _ => X.fieldAddr fd123_0 (lh)) rfl ?_
 refine WQ.x (fun _ => X.load pl121 (lh) (by assumption) (by rfl)) rfl ?_
 refine WQ.x (fun _ => X.mv (jt4 rfl (s1))) rfl ?_
 refine WQ.x (fun _ => X.quo (lh) lc (by omega) (by omega) (wrap_i64 (by omega) (by omega))) rfl ?_
 refine WQ.x (fun _ => X.indexAddr Tryd.underlying121 el97 (jt2 rfl (lh)) (lh) (by omega) (by omega)) rfl ?_
 refine WQ.x (fun _ => X.mv (jt4 rfl (jt2 rfl (lt rfl (s1))))) rfl ?_
 refine WQ.x (fun _ => X.rem (lh) lc (by omega) (by omega)) rfl ?_
 refine WQ.x (fun _ => X.shl lc (lh) (by omega)) rfl ?_
 refine WQ.x (fun _ => X.asg (jt2 rfl (lt rfl (lh)))) rfl ?_
 refine WQ.x (fun _ => X.asg (lt rfl (lh))) rfl ?_
 refine WQ.x (fun _ => X.asg lc) rfl ?_
 refine WQ.e3 4 5 6 (jt2 rfl (lh)) (lt rfl (lh)) (lh) ?_
 intro σ4 s4 s5 s6
 intro _; refine gdrew ?_; intro w1 hh5 cd5 dr5
 refine W.ret3 Nx.f3 s4 s5 s6 ?_
 have e1 : 0 + (i / 64).toNat * 1 = i.toNat / 64 := by omega
 have e2 : (i % 64).toNat = i.toNat % 64 := by omega
 exact ⟨by rw [e1, e2]; exact congrArg (fun x => Value.tuple #[_, x, _]) (bit_cell _ (by omega)), dr5⟩
theorem at_out (b wb n : Nat) (ws : List BV) (i : Int) (w : World) (h : IsSet w b wb n ws) (h0 : ¬ (0 ≤ i ∧ i < n)) :
  Sg.Ret Tryd.prog 60 #[.pointer (some ⟨b, 0, none⟩), .int .i64 i] w fun v w' => v = .tuple #[.pointer none, .int .u64 0, .int .i64 1] ∧ w = w' := by
 have hd := h.hd; have hlen := h.len; have hle := h.le
 refine enter3 (n := 31) (l := [.pointer (some ⟨b, 0, none⟩), .int .i64 i]) Tryd.func60 rfl rfl rfl rfl ?_
 refine W.g2 0 1 (v1 := .pointer (some ⟨b, 0, none⟩)) (v2 := .int .i64 i) rfl rfl ?_; intro σ s0 s1
 refine W.seq ?_
 refine W.region ?_
 refine WL.x (X.asg lc) rfl ?_
 refine WL.x (X.asg lc) rfl ?_
 refine WL.x (X.asg lc) rfl ?_
 refine WL.e2 Nx.thn 0 1 (jt2 rfl (lt rfl (s0))) (jt2 rfl (lt rfl (s1))) ?_
 intro σ1 s0 s1
 refine W.seq ?_
 refine W.block ?_
 refine W.seq ?_
 refine W.region ?_
 refine WL.x (X.mv (s0)) rfl ?_
 refine WL.call1 ce70 (lh) (none_made b wb n ws w h) rfl ?_
 rintro _ _ ⟨rfl, rfl⟩
 refine WL.x (X.asg (lh)) rfl ?_
 refine WL.e3 Nx.thn 0 1 7 (jt2 rfl (lt rfl (s0))) (jt2 rfl (lt rfl (s1))) (lh) ?_
 intro σ2 s0 s1 s7
 refine W.cndBF s7 (rfl) ?_
 refine W.seq ?_
 refine W.region ?_
 refine WL.x (X.mv (s1)) rfl ?_
 refine WL.x (X.lss (lh) lc) rfl ?_
 refine WL.x (X.mv (lh)) rfl ?_
 refine WL.splitp (lh) (fun qb1 => ?_) (fun qb1 => ?_)
 ·
  refine WL.no rfl rfl (lh) (decide_eq_true qb1) rfl ?_
  refine WL.no rfl rfl (lt rfl (lh)) (decide_eq_true qb1) rfl ?_
  refine WL.no rfl rfl (jt2 rfl (lh)) (decide_eq_true qb1) rfl ?_
  refine WL.no rfl rfl (jt2 rfl (lt rfl (lh))) (decide_eq_true qb1) rfl ?_
  refine WL.no rfl rfl (jt4 rfl (lh)) (decide_eq_true qb1) rfl ?_
  refine WL.no rfl rfl (jt4 rfl (lt rfl (lh))) (decide_eq_true qb1) rfl ?_
  refine WL.x (X.pickT (jt4 rfl (jt2 rfl (lh))) (decide_eq_true qb1) lc) rfl ?_
  refine WL.x (X.asg (lh)) rfl ?_
  refine WL.e3 Nx.thn 0 1 10 (jt8 rfl (jt2 rfl (lt rfl (s0)))) (jt8 rfl (jt2 rfl (lt rfl (s1)))) (lh) ?_
  intro σ3 s0 s1 s10
  refine W.cndT s10 ?_
  refine W.seq ?_
  refine W.region ?_
  refine WL.x (X.asg lc) rfl ?_
  refine WL.x (X.asg lc) rfl ?_
  refine WL.x (X.asg lc) rfl ?_
  refine WL.e3 Nx.thn 4 5 6 (jt2 rfl (lh)) (lt rfl (lh)) (lh) ?_
  intro σ4 s4 s5 s6
  refine W.ret3 (Nx.rblk (Nx.rthn Nx.f3)) s4 s5 s6 ?_
  exact ⟨rfl, rfl⟩
 ·
  refine WL.yes rfl rfl (lh) (decide_eq_false qb1) ?_
  refine WL.x (X.mv (jt2 rfl (lt rfl (s1)))) rfl ?_
  refine WL.yes rfl rfl (lt rfl (lh)) (decide_eq_false qb1) ?_
  refine WL.x (X.mv (jt4 rfl (s0))) rfl ?_
  refine WL.yes rfl rfl (jt2 rfl (lh)) (decide_eq_false qb1) ?_
  refine WL.x (X.nilck (lh)) rfl ?_
  refine WL.yes rfl rfl (jt2 rfl (lt rfl (lh))) (decide_eq_false qb1) ?_
  refine WL.x (X.fieldAddr fd123_1 (lh)) rfl ?_
  refine WL.yes rfl rfl (jt4 rfl (lh)) (decide_eq_false qb1) ?_
  refine WL.x (X.load pl3 (lh) (by assumption) (by rfl)) rfl ?_
  refine WL.yes rfl rfl (jt4 rfl (lt rfl (lh))) (decide_eq_false qb1) ?_
  refine WL.x (X.geq (jt4 rfl (lh)) (lh)) rfl ?_
  refine WL.x (X.pickF (jt4 rfl (jt2 rfl (lh))) (decide_eq_false qb1) (lh)) rfl ?_
  refine WL.x (X.asg (lh)) rfl ?_
  refine WL.e3 Nx.thn 0 1 10 (jt8 rfl (jt2 rfl (lt rfl (s0)))) (jt8 rfl (jt2 rfl (lt rfl (s1)))) (lh) ?_
  intro σ5 s0 s1 s10
  refine W.cndY s10 (by omega) ?_
  refine W.seq ?_
  refine W.region ?_
  refine WL.x (X.asg lc) rfl ?_
  refine WL.x (X.asg lc) rfl ?_
  refine WL.x (X.asg lc) rfl ?_
  refine WL.e3 Nx.thn 4 5 6 (jt2 rfl (lh)) (lt rfl (lh)) (lh) ?_
  intro σ6 s4 s5 s6
  refine W.ret3 (Nx.rblk (Nx.rthn Nx.f3)) s4 s5 s6 ?_
  exact ⟨rfl, rfl⟩
theorem add_in (b wb n : Nat) (ws : List BV) (i : Int) (w : World) (h : IsSet w b wb n ws) (h0 : 0 ≤ i) (h1 : i < n) :
  Sg.Ret Tryd.prog 58 #[.pointer (some ⟨b, 0, none⟩), .int .i64 i] w fun v w' => v = .int .i64 0 ∧ Ch (fun k => k = wb) w w' ∧ IsSet w' b wb n (addW ws i.toNat) := by
 have hsl := h.slot (i := i.toNat) (by omega)
 refine enter1 (n := 24) (l := [.pointer (some ⟨b, 0, none⟩), .int .i64 i]) Tryd.func58 rfl rfl rfl rfl ?_
 refine W.g2 0 1 (v1 := .pointer (some ⟨b, 0, none⟩)) (v2 := .int .i64 i) rfl rfl ?_; intro σ s0 s1
 refine W.seq ?_
 refine W.region ?_
 refine WL.x (X.asg lc) rfl ?_
 refine WL.e2 Nx.thn 0 1 (lt rfl (s0)) (lt rfl (s1)) ?_
 intro σ1 s0 s1
 refine W.seq ?_
 refine W.region ?_
 refine WL.x (X.mv (s0)) rfl ?_
 refine WL.x (X.mv (lt rfl (s1))) rfl ?_
 refine WL.call2 ce60 (lt rfl (lh)) (lh) (at_in b wb n ws i w h h0 h1) rfl ?_
 rintro _ w1 ⟨rfl, hdr⟩
 have h2 := h.dr hdr
 have hwd := h2.wd
 refine WL.x (X.mv (lh)) rfl ?_
 refine WL.x (X.ex3_0 (lh)) rfl ?_
 refine WL.x (X.ex3_1 (lt rfl (lh))) rfl ?_
 refine WL.x (X.ex3_2 (jt2 rfl (lh))) rfl ?_
 refine WL.x (X.asg (jt2 rfl (lh))) rfl ?_
 refine WL.x (X.asg (jt2 rfl (lh))) rfl ?_
 refine WL.x (X.asg (jt2 rfl (lh))) rfl ?_
 refine WL.e3 Nx.thn 5 6 7 (jt2 rfl (lh)) (lt rfl (lh)) (lh) ?_
 intro σ2 s5 s6 s7
 refine W.seq ?_
 refine W.seq ?_
 refine W.region ?_
 refine WL.x (X.mv (s7)) rfl ?_
 refine WL.x (X.eql (lh) lc) rfl ?_
 refine WL.e4 Nx.thn 5 6 7 16 (jt2 rfl (s5)) (jt2 rfl (s6)) (jt2 rfl (s7)) (lh) ?_
 intro σ3 s5 s6 s7 s16
 refine W.cndY s16 (rfl) ?_
 refine W.region ?_
 refine WL.x (X.mv (s5)) rfl ?_
 refine WL.x (X.nilck (lh)) rfl ?_
 refine WL.x (X.load pl97 (lh) hwd (wcells_get ws _ hsl)) rfl ?_
 refine WL.x (X.mv (jt2 rfl (lt rfl (s6)))) rfl ?_
 refine WL.x (X.or (lt rfl (lh)) (lh)) rfl ?_
 refine WL.x (X.nilck (jt4 rfl (lh))) rfl ?_
 refine WL.store el97 (lh) (lt rfl (lh)) rfl hwd (by rw [wcells_size]; exact hsl) ?_
 intro w2 us; have hs := us.at_; have cs := us.ch
 refine WL.e1 Nx.thn 7 (jt4 rfl (jt2 rfl (s7))) ?_
 intro σ4 s7
 refine W.seq ?_
 refine W.region ?_
 refine WL.x (X.mv (s7)) rfl ?_
 refine WL.x (X.asg (lh)) rfl ?_
 refine WL.e1 Nx.thn 4 (lh) ?_
 intro σ5 s4
 refine W.ret1 Nx.f1 s4 ?_
 refine ⟨rfl, hdr.ch.trans cs (fun _ _ => id) (fun _ _ => id), ⟨by rw [addW_length]; exact cs.at h2.hd h.ne, ?_, by simp [h.len], h.le, fun j hj => ?_⟩⟩
 · rw [hs]; simp only [bcell] at *; rw [bitop_or]; exact congrArg (fun c => some (Obj.cells c _ _)) (wcells_set ws _ _)
 · rw [mem_addW _ _ _ hsl, h.clean j hj]; simp; omega
theorem has_in (b wb n : Nat) (ws : List BV) (i : Int) (w : World) (h : IsSet w b wb n ws) (h0 : 0 ≤ i) (h1 : i < n) :
  Sg.Ret Tryd.prog 41 #[.pointer (some ⟨b, 0, none⟩), .int .i64 i] w fun v w' => v = .bool (mem ws i.toNat) ∧ Dr w w' := by
 have hsl := h.slot (i := i.toNat) (by omega)
 refine enter1 (n := 25) (l := [.pointer (some ⟨b, 0, none⟩), .int .i64 i]) Tryd.func41 rfl rfl rfl rfl ?_
 refine W.g2 0 1 (v1 := .pointer (some ⟨b, 0, none⟩)) (v2 := .int .i64 i) rfl rfl ?_; intro σ s0 s1
 refine W.seq ?_
 refine W.region ?_
 refine WL.x (X.asg lc) rfl ?_
 refine WL.e2 Nx.thn 0 1 (lt rfl (s0)) (lt rfl (s1)) ?_
 intro σ1 s0 s1
 refine W.seq ?_
 refine W.region ?_
 refine WL.x (X.mv (s0)) rfl ?_
 refine WL.x (X.mv (lt rfl (s1))) rfl ?_
 refine WL.call2 ce60 (lt rfl (lh)) (lh) (at_in b wb n ws i w h h0 h1) rfl ?_
 rintro _ w1 ⟨rfl, hdr⟩
 have h2 := h.dr hdr
 have hwd := h2.wd
 refine WL.x (X.mv (lh)) rfl ?_
 refine WL.x (X.ex3_0 (lh)) rfl ?_
 refine WL.x (X.ex3_1 (lt rfl (lh))) rfl ?_
 refine WL.x (X.ex3_2 (jt2 rfl (lh))) rfl ?_
 refine WL.x (X.asg (jt2 rfl (lh))) rfl ?_
 refine WL.x (X.asg (jt2 rfl (lh))) rfl ?_
 refine WL.x (X.asg (jt2 rfl (lh))) rfl ?_
 refine WL.e3 Nx.thn 5 6 7 (jt2 rfl (lh)) (lt rfl (lh)) (lh) ?_
 intro σ2 s5 s6 s7
 refine W.seq ?_
 refine W.region ?_
 refine WL.x (X.mv (s7)) rfl ?_
 refine WL.x (X.eql (lh) lc) rfl ?_
 refine WL.x (X.mv (lh)) rfl ?_
 refine WL.yes rfl rfl (lh) (decide_eq_true (rfl)) ?_
 refine WL.x (X.mv (jt2 rfl (lt rfl (s5)))) rfl ?_
 refine WL.yes rfl rfl (lt rfl (lh)) (decide_eq_true (rfl)) ?_
 refine WL.x (X.nilck (lh)) rfl ?_
 refine WL.yes rfl rfl (jt2 rfl (lh)) (decide_eq_true (rfl)) ?_
 refine WL.x (X.load pl97 (lh) hwd (wcells_get ws _ hsl)) rfl ?_
 refine WL.yes rfl rfl (jt2 rfl (lt rfl (lh))) (decide_eq_true (rfl)) ?_
 refine WL.x (X.mv (jt4 rfl (jt2 rfl (s6)))) rfl ?_
 refine WL.yes rfl rfl (jt4 rfl (lh)) (decide_eq_true (rfl)) ?_
 refine WL.x (X.and (lt rfl (lh)) (lh)) rfl ?_
 refine WL.yes rfl rfl (jt4 rfl (lt rfl (lh))) (decide_eq_true (rfl)) ?_
 refine WL.x (X.neq (lh) lc) rfl ?_
 refine WL.x (X.pickT (jt4 rfl (jt2 rfl (lh))) (decide_eq_true (rfl)) (lh)) rfl ?_
 refine WL.x (X.asg (lh)) rfl ?_
 refine WL.e1 Nx.thn 4 (lh) ?_
 intro σ3 s4
 refine W.ret1 Nx.f1 s4 ?_
 have e := and_two (ws.getD (i.toNat / 64) 0) (i.toNat % 64) (by omega)
 rw [← bitop_and] at e
 refine ⟨congrArg Value.bool ?_, hdr⟩
 rw [Bool.eq_iff_iff, decide_eq_true_iff]; exact e
theorem has_out (b wb n : Nat) (ws : List BV) (i : Int) (w : World) (h : IsSet w b wb n ws) (h0 : ¬ (0 ≤ i ∧ i < n)) :
  Sg.Ret Tryd.prog 41 #[.pointer (some ⟨b, 0, none⟩), .int .i64 i] w fun v w' => v = .bool false ∧ w = w' := by
 refine enter1 (n := 25) (l := [.pointer (some ⟨b, 0, none⟩), .int .i64 i]) Tryd.func41 rfl rfl rfl rfl ?_
 refine W.g2 0 1 (v1 := .pointer (some ⟨b, 0, none⟩)) (v2 := .int .i64 i) rfl rfl ?_; intro σ s0 s1
 refine W.seq ?_
 refine W.region ?_
 refine WL.x (X.asg lc) rfl ?_
 refine WL.e2 Nx.thn 0 1 (lt rfl (s0)) (lt rfl (s1)) ?_
 intro σ1 s0 s1
 refine W.seq ?_
 refine W.region ?_
 refine WL.x (X.mv (s0)) rfl ?_
 refine WL.x (X.mv (lt rfl (s1))) rfl ?_
 refine WL.call2 ce60 (lt rfl (lh)) (lh) (at_out b wb n ws i w h h0) rfl ?_
 rintro _ _ ⟨rfl, rfl⟩
 refine WL.x (X.mv (lh)) rfl ?_
 refine WL.x (X.ex3_0 (lh)) rfl ?_
 refine WL.x (X.ex3_1 (lt rfl (lh))) rfl ?_
 refine WL.x (X.ex3_2 (jt2 rfl (lh))) rfl ?_
 refine WL.x (X.asg (jt2 rfl (lh))) rfl ?_
 refine WL.x (X.asg (jt2 rfl (lh))) rfl ?_
 refine WL.x (X.asg (jt2 rfl (lh))) rfl ?_
 refine WL.e3 Nx.thn 5 6 7 (jt2 rfl (lh)) (lt rfl (lh)) (lh) ?_
 intro σ2 s5 s6 s7
 refine W.seq ?_
 refine W.region ?_
 refine WL.x (X.mv (s7)) rfl ?_
 refine WL.x (X.eql (lh) lc) rfl ?_
 refine WL.x (X.mv (lh)) rfl ?_
 refine WL.no rfl rfl (lh) (decide_eq_false (by decide)) rfl ?_
 refine WL.no rfl rfl (lt rfl (lh)) (decide_eq_false (by decide)) rfl ?_
 refine WL.no rfl rfl (jt2 rfl (lh)) (decide_eq_false (by decide)) rfl ?_
 refine WL.no rfl rfl (jt2 rfl (lt rfl (lh))) (decide_eq_false (by decide)) rfl ?_
 refine WL.no rfl rfl (jt4 rfl (lh)) (decide_eq_false (by decide)) rfl ?_
 refine WL.no rfl rfl (jt4 rfl (lt rfl (lh))) (decide_eq_false (by decide)) rfl ?_
 refine WL.x (X.pickF (jt4 rfl (jt2 rfl (lh))) (decide_eq_false (by decide)) lc) rfl ?_
 refine WL.x (X.asg (lh)) rfl ?_
 refine WL.e1 Nx.thn 4 (lh) ?_
 intro σ3 s4
 refine W.ret1 Nx.f1 s4 ?_
 exact ⟨rfl, rfl⟩
/-- Whether a number is in, whatever it is. -/
def hasB (ws : List BV) (i : Int) : Bool := decide (0 ≤ i) && mem ws i.toNat
theorem has_ok (b wb n : Nat) (ws : List BV) (i : Int) (w : World) (h : IsSet w b wb n ws) : Sg.Ret Tryd.prog 41 #[.pointer (some ⟨b, 0, none⟩), .int .i64 i] w fun v w' => v = .bool (hasB ws i) ∧ Dr w w' := by
  by_cases h0 : 0 ≤ i ∧ i < n
  · refine Ret.mono (has_in b wb n ws i w h h0.1 h0.2) fun v w' hh => ⟨hh.1.trans ?_, hh.2⟩
    simp [hasB, h0.1]
  · refine Ret.mono (has_out b wb n ws i w h h0) fun v w' hh => ⟨hh.1.trans ?_, hh.2 ▸ Dr.refl _⟩
    unfold hasB
    by_cases h1 : 0 ≤ i
    · rw [h.clean i.toNat (by omega)]; simp
    · simp [h1]

end Go.Proofs.YtnfkblboimkcjaaDoor
end
