/-
  Slices whose elements are structs, read as lists; slices that are built of structs; append of what came in.
-/
import Derived.Test.YtbnllchicnmkiaaDoorLists
import Derived.Great.FillDense
namespace Sg
open Go Go.RowKit

/-- How some cells read as something, by way of blocks that are let. -/
abbrev Rd (α : Type) := (Nat → Prop) → World → List Value → α → Prop
def Mon {α : Type} (R : Rd α) : Prop := ∀ (A A' F : Nat → Prop) (w w' : World) (es : List Value) (x : α), Ch F w w' → (∀ k, A k → ¬ F k) → (∀ k, A k → A' k) → R A w es x → R A' w' es x
/-- The slice v reads as l, its elements of `size` cells. -/
def RSl {α : Type} (size : Nat) (R : Rd α) (A : Nat → Prop) (w : World) (v : Value) (l : List α) : Prop :=
  (l = [] ∧ ∃ a c, v = .slice a 0 c) ∨ ∃ b o cap cs T fr, v = .slice (some ⟨b, o, none⟩) l.length cap ∧ l.length ≤ cap ∧ w.heap[b]? = some (.cells cs T fr) ∧ A b ∧
    ∀ j (hj : j < l.length), ∃ es : List Value, es.length = size ∧ (∀ i, i < size → cs[o + j * size + i]? = es[i]?) ∧ R A w es l[j]
/-- The slice reads as a list of plain values, by way of a block that is let. -/
def SlA (A : Nat → Prop) (w : World) (v : Value) (l : List Value) : Prop := Sl w v l ∧ ∀ k, slBlk v k → A k
abbrev all : Nat → Prop := fun _ => True

section
variable {α : Type} {size : Nat} {R : Rd α} {A A' F : Nat → Prop} {w w' : World} {v : Value} {l : List α}
theorem RSl.ch (hR : Mon R) (h : RSl size R A w v l) (c : Ch F w w') (hF : ∀ k, A k → ¬ F k) (hA : ∀ k, A k → A' k) : RSl size R A' w' v l := by
  rcases h with h | ⟨b, o, cap, cs, T, fr, rfl, h1, h2, hb, h3⟩
  · exact .inl h
  · refine .inr ⟨b, o, cap, cs, T, fr, rfl, h1, c.at h2 (hF b hb), hA b hb, fun j hj => ?_⟩
    obtain ⟨es, e1, e2, e3⟩ := h3 j hj
    exact ⟨es, e1, e2, hR _ _ _ _ _ _ _ c hF hA e3⟩
theorem RSl.ch0 (hR : Mon R) (h : RSl size R A w v l) (c : Ch0 w w') : RSl size R A w' v l := h.ch hR c (fun _ _ => id) (fun _ => id)
theorem RSl.len (h : RSl size R A w v l) : ∃ a cap, v = .slice a l.length cap := by
  rcases h with ⟨rfl, a, c, rfl⟩ | ⟨b, o, cap, cs, T, fr, rfl, _⟩
  · exact ⟨a, c, rfl⟩
  · exact ⟨_, cap, rfl⟩
theorem RSl.at {a : Option Addr} {m c : Nat} (h : RSl size R A w (.slice a m c) l) {k : Nat} (hk : k < l.length) :
    ∃ b o cs T fr, ∃ es : List Value, a = some ⟨b, o, none⟩ ∧ w.heap[b]? = some (.cells cs T fr) ∧ es.length = size ∧ (∀ i, i < size → cs[o + (k : Int).toNat * size + i]? = es[i]?) ∧ R A w es l[k] := by
  rcases h with ⟨rfl, _⟩ | ⟨b, o, cap, cs, T, fr, hv, _, h2, hb, h3⟩
  · simp at hk
  · simp only [Value.slice.injEq] at hv
    obtain ⟨es, e1, e2, e3⟩ := h3 k hk
    exact ⟨b, o, cs, T, fr, es, hv.1, h2, e1, e2, e3⟩
theorem SlA.ch {l : List Value} (h : SlA A w v l) (c : Ch F w w') (hF : ∀ k, A k → ¬ F k) (hA : ∀ k, A k → A' k) : SlA A' w' v l :=
  ⟨h.1.ch c (fun k hk => hF k (h.2 k hk)), fun k hk => hA k (h.2 k hk)⟩
theorem SlA.ch0 {l : List Value} (h : SlA A w v l) (c : Ch0 w w') : SlA A w' v l := h.ch c (fun _ _ => id) (fun _ => id)

/-! ### A slice of structs that the function has made -/
/-- As `ownsRow`, the elements read. -/
def ORow (size : Nat) (R : Rd α) (A : Nat → Prop) (w : World) (base : Nat) (e : TypeId) (v : Value) (l : List α) : Prop :=
  ∃ ess : List (List Value), ess.length = l.length ∧ (∀ es ∈ ess, es.length = size) ∧ w.ownsRow base e size v l.length ess.flatten ∧ ∀ j (hj : j < l.length), R A w (ess.getD j []) l[j]
theorem ORow.nil {base : Nat} {e : TypeId} : ORow size R A w base e (.slice none 0 0) ([] : List α) :=
  ⟨[], rfl, (fun _ h => by cases h), World.ownsRow_nil _ _ _ _, fun j hj => absurd hj (by simp)⟩
theorem flatten_at {ess : List (List Value)} (h : ∀ es ∈ ess, es.length = size) : ∀ {j i : Nat}, j < ess.length → i < size → ess.flatten[j * size + i]? = (ess.getD j [])[i]? := by
  induction ess with
  | nil => intro j i hj; simp at hj
  | cons e r ih =>
    intro j i hj hi
    have he := h e (List.mem_cons_self ..)
    rw [List.flatten_cons]
    cases j with
    | zero => rw [Nat.zero_mul, Nat.zero_add, List.getElem?_append_left (by omega)]; rfl
    | succ j =>
      have e1 : (j + 1) * size + i = e.length + (j * size + i) := by rw [he, Nat.succ_mul]; omega
      rw [e1, List.getElem?_append_right (by omega), Nat.add_sub_cancel_left, ih (fun es hes => h es (List.mem_cons_of_mem _ hes)) (by simpa using hj) hi]
      simp [List.getD_eq_getElem?_getD]
theorem ORow.rsl {base : Nat} {e : TypeId} (h : ORow size R A w base e v l) (hA : ∀ k, slBlk v k → A k) : RSl size R A w v l := by
  obtain ⟨ess, h1, h2, ⟨hl, h3⟩, h4⟩ := h
  rcases h3 with ⟨rfl, h0⟩ | ⟨g, cap, cur, rfl, _, hg, hc, _, hs, ht⟩
  · exact .inl ⟨List.eq_nil_of_length_eq_zero h0, _, _, rfl⟩
  · refine .inr ⟨g, 0, cap, cur, e, (0, 0), rfl, hc, hg, hA g rfl, fun j hj => ⟨ess.getD j [], ?_, fun i hi => ?_, h4 j hj⟩⟩
    · have hj' : j < ess.length := by omega
      rw [List.getD_eq_getElem?_getD, List.getElem?_eq_getElem hj']
      exact h2 _ (List.getElem_mem hj')
    · rw [← flatten_at h2 (by omega) hi, ← ht, List.getElem?_take, if_pos ?_]
      · simp
      · have : (j + 1) * size ≤ l.length * size := Nat.mul_le_mul_right _ hj
        rw [Nat.succ_mul] at this
        omega
end

section
variable {P : Program} {n : Sz} {Q : Post} {σ : Env} {w : World} {ops : Array Oper} {rest : List Oper}
variable {d : Nat} {t xt yt : TypeId} {pos : String} {af : Array Edge} {v : Value} {x y : Operand} {b o : Nat} {cs : Array Value} {T : TypeId} {fr : Nat × Nat}

/-- A whole struct out of a variable of its own. -/
theorem X.loadBox {k : Nat} {vs : List Value} (ht : Aggr P xt k) (hx : ev σ x = .pointer (some ⟨b, 0, none⟩)) (hm : w.heap[b]? = some (.cells vs.toArray T fr)) (hl : vs.length = k) : X P σ w (.load xt x) t (.agg vs.toArray) :=
  X.loadS ht hx hm hl (fun j hj => by simp)
/-- A slice against nil. -/
theorem run_sl_equalIn {ds e : TypeId} {a : Option Addr} {m c : Nat} (q : Nat) (hs : P.underlying ds = some (.slice e)) : (Op.equalIn (q + 1) ds (.slice a m c) (.slice none 0 0)).run P w = .ok a.isNone w := by
  cases a <;> simp [Op.equalIn, run_underlying hs]
theorem run_sl_equal {ds e : TypeId} {a : Option Addr} {m c : Nat} (hs : P.underlying ds = some (.slice e)) : (Op.equal ds (.slice a m c) (.slice none 0 0)).run P w = .ok a.isNone w := run_sl_equalIn 9999 hs
theorem X.eqlSl {e : TypeId} {a : Option Addr} {m c : Nat} (hs : P.underlying xt = some (.slice e)) (hx : ev σ x = .slice a m c) (hy : ev σ y = .slice none 0 0) : X P σ w (.binOp .eql xt x y yt) t (.bool a.isNone) := fun _ _ _ _ => by
  have hg : (eqGuard .eql xt x y (.slice a m c) (.slice none 0 0)).run P w = .ok () w := by simp [eqGuard]
  have hb : (binOp .eql xt (.slice a m c) (.slice none 0 0)).run P w = .ok (.bool a.isNone) w := by
    simp only [binOp, Sem.run_bind, run_sl_equal hs, Result.andThen_ok, Sem.run_pure]
  simp [execOp, hx, hy, hg, hb]

/-- A slice that is built of parts, all of them given, each of `size` cells. -/
theorem run_bsliceR {e : TypeId} {size bytes : Nat} {z : Value} {vs : List Value} (hs : P.underlying t = some (.slice e)) (he : Elem P e size z bytes) (h0 : 0 < size) (hv : ∀ u ∈ vs, u.cells.size = size) (hb : vs.length * size ≤ 16777216) :
    (Instr.buildSlice t vs.length ((vs.zipIdx 0).map fun u => (u.2, u.1)).toArray).run P w = .ok (.slice (some ⟨w.heap.size, 0, none⟩) vs.length vs.length) (w.alloc (.cells (vs.flatMap fun u => u.cells.toList).toArray e)) := by
  obtain ⟨i, hi, hi1, hz, _⟩ := he
  unfold Instr.buildSlice
  have hf : ∀ cells : Array Value, cells.size = vs.length * size → Instr.fill (fun i => some (i * size, size)) cells ((vs.zipIdx 0).map fun u => (u.2, u.1)) = some (vs.flatMap fun u => u.cells.toList).toArray :=
    fun cells hc => Great.fill_whole h0 vs cells hv hc.symm
  simp only [Sem.run_bind, run_underlying hs, Result.andThen_ok, Go.sizeOf, typeInfo, run_program, hi, Sem.run_pure, hi1, zeroValue]
  rw [if_neg (by omega)]
  by_cases hn : vs.length * size = 0
  · rw [if_pos hn]
    simp only [pure_bind]
    rw [hf _ (by simp)]
    simp [newRow]
  · rw [if_neg hn]
    simp only [Sem.run_bind, Sem.run_pure, Result.andThen_ok, run_program, hi, hz, pure_bind]
    rw [hf _ (by simp)]
    simp [newRow]
theorem WL.bsliceR {e : TypeId} {size bytes len : Nat} {z : Value} {parts : List (Nat × Operand)} {vs : List Value} (hs : P.underlying xt = some (.slice e)) (he : Elem P e size z bytes) (h0 : 0 < size)
    (hps : parts.map (fun p => (p.1, ev σ p.2)) = (vs.zipIdx 0).map fun u => (u.2, u.1)) (hlen : vs.length = len) (hv : ∀ u ∈ vs, u.cells.size = size) (hb : vs.length * size ≤ 16777216) (hn : Nat.blt d n.sz = true)
    (h : ∀ w', Nw w w' (.cells (vs.flatMap fun u => u.cells.toList).toArray e) → WL P n ops Q rest (up σ d (.slice (some ⟨w.heap.size, 0, none⟩) len len)) w') :
    WL P n ops Q (⟨some d, .buildSlice xt len parts.toArray, t, pos, af, none⟩ :: rest) σ w := by
  subst hlen
  have := run_bsliceR (w := w) hs he h0 hv hb
  have e' : (parts.toArray.map fun x => (x.1, ev σ x.2)) = ((vs.zipIdx 0).map fun u => (u.2, u.1)).toArray := by rw [← hps]; simp
  refine WL.step (w' := w.alloc (.cells (vs.flatMap fun u => u.cells.toList).toArray e)) rfl rfl hn ?_ (h _ (nw_alloc w _))
  simp [execOp, e', this]
theorem owns_empty {b : Nat} {e : TypeId} {size base : Nat} (h : w.heap[b]? = some (.cells #[] e (0, 0))) (hb : base ≤ b) : w.ownsRow base e size (.slice (some ⟨b, 0, none⟩) 0 0) 0 [] :=
  ⟨by simp, .inr ⟨b, 0, #[], rfl, hb, h, Nat.le_refl _, Nat.zero_le _, by simp, by simp⟩⟩

/-- append of a slice, wherever it lies. -/
theorem WL.appendA {s : Operand} {ty : TypeId} {e : TypeId} {size bytes base m k c : Nat} {z vs : Value} {xs news : List Value} {a : Addr} (hs : P.underlying xt = some (.slice e)) (he : Elem P e size z bytes) (hz : z.cells.size = size) (h0 : 0 < size)
    (h1 : ev σ s = vs) (h2 : ev σ x = .slice (some a) k c) (hown : w.ownsRow base e size vs m xs) (hnews : ∀ j u, news[j]? = some u → w.cell? (a.add j) = some u) (hl : news.length = k * size) (hone : ∀ u ∈ news, u.oneCell' = true)
    (g1 : m + k ≤ maxLen) (g2 : (m + k) * bytes ≤ 140737488355328) (g3 : base ≤ w.heap.size) (hn : Nat.blt d n.sz = true)
    (h : ∀ v' w', w'.ownsRow base e size v' (m + k) (xs ++ news) → Ch (slBlk vs) w w' → (v' = .slice none 0 0 ↔ vs = .slice none 0 0 ∧ k = 0) → WL P n ops Q rest (up σ d v') w') :
    WL P n ops Q (⟨some d, .call ⟨.builtin .append, #[s, x], #[xt, xt]⟩, ty, pos, af, none⟩ :: rest) σ w := by
  obtain ⟨i, hi, hi1, hzz, hby⟩ := he
  obtain ⟨v', w', hr, h3, h4, h5⟩ := run_append_own (P := P) w base xt ty e i z size bytes hs hi hzz hi1 hby hz h0 vs m xs hown a k c news hl hnews hone g1 g2 g3
  have hblk : ∀ k, some k ≠ vs.ownBlock ↔ ¬ slBlk vs k := by
    intro k
    rcases hown.2 with ⟨rfl, _⟩ | ⟨g, cap, cur, rfl, _⟩
    · simp [Value.ownBlock, slBlk]
    · simp [Value.ownBlock, slBlk]
  have hch : Ch (slBlk vs) w w' := ⟨h4.os, h4.tape, h4.output, h4.size, fun k hk hn => h4.block k hk ((hblk k).2 hn)⟩
  refine WL.step (w' := w') rfl rfl hn ?_ (h v' w' h3 hch h5)
  simp [execOp, resolve, invoke, builtin, h1, h2, hr]
theorem Sl.news {a : Addr} {c : Nat} {l : List Value} (h : Sl w (.slice (some a) l.length c) l) : ∀ j u, l[j]? = some u → w.cell? (a.add j) = some u := by
  rcases h with ⟨rfl, _⟩ | ⟨b, o, cap, cs, T, fr, hv, _, h2, h3⟩
  · intro j u hu; simp at hu
  · simp only [Value.slice.injEq, Option.some.injEq] at hv
    obtain ⟨rfl, _⟩ := hv
    intro j u hu
    have hj : j < l.length := (List.getElem?_eq_some_iff.1 hu).1
    have hadd : (⟨b, o, none⟩ : Addr).add j = ⟨b, o + j, none⟩ := by unfold Addr.add; split <;> simp_all
    rw [hadd]
    exact cell_of h2 ((h3 j hj).trans hu)
end

theorem ones_of {l : List Value} (h : l.all (·.oneCell') = true) : ∀ u ∈ l, u.oneCell' = true := fun u hu => List.all_eq_true.1 h u hu

/-! ### What a function has made, among it what its slices' elements lead to -/
def Mine (ts : List TypeId) (base : Nat) (w : World) : Nat → Prop := fun j => base ≤ j ∧ ∃ cs T, T ∈ ts ∧ w.heap[j]? = some (.cells cs T (0, 0))
theorem Mine.ch {ts : List TypeId} {base : Nat} {F : Nat → Prop} {w w' : World} {j : Nat} (h : Mine ts base w j) (c : Ch F w w') (hn : ¬ F j) : Mine ts base w' j := by
  obtain ⟨h1, cs, T, hT, h2⟩ := h
  exact ⟨h1, cs, T, hT, c.at h2 hn⟩
theorem own_mine {w : World} {base b0 m size : Nat} {e : TypeId} {v : Value} {xs : List Value} {ts : List TypeId} (h : w.ownsRow base e size v m xs) (he : e ∈ ts) (hb : b0 ≤ base) : ∀ k, slBlk v k → Mine ts b0 w k := by
  rintro k hk
  rcases h.2 with ⟨rfl, _⟩ | ⟨g, cap, cur, rfl, hb', hg, _⟩
  · exact hk.elim
  · have : k = g := hk
    subst this
    exact ⟨by omega, cur, e, he, hg⟩
theorem own_not {w : World} {base b0 m size : Nat} {e : TypeId} {v : Value} {xs : List Value} {ts : List TypeId} (h : w.ownsRow base e size v m xs) (he : e ∉ ts) : ∀ k, Mine ts b0 w k → ¬ slBlk v k := by
  rintro k ⟨_, cs, T, hT, h2⟩ hk
  rcases h.2 with ⟨rfl, _⟩ | ⟨g, cap, cur, rfl, hb', hg, _⟩
  · exact hk.elim
  · have : k = g := hk
    subst this
    rw [hg] at h2
    have := (Obj.cells.inj (Option.some.inj h2)).2.1
    exact he (this ▸ hT)
theorem ORow.push {α : Type} {size : Nat} {R : Rd α} {A A' : Nat → Prop} {w w' : World} {base : Nat} {e : TypeId} {lv lv' : Value} {l : List α} {x : α} {es : List Value} {ess : List (List Value)} (hR : Mon R)
    (h1 : ess.length = l.length) (h2 : ∀ es ∈ ess, es.length = size) (h4 : ∀ j (hj : j < l.length), R A w (ess.getD j []) l[j]) (hes : es.length = size) (hx : R A' w' es x) (c : Ch (slBlk lv) w w') (hF : ∀ k, A k → ¬ slBlk lv k) (hA : ∀ k, A k → A' k)
    (hown : w'.ownsRow base e size lv' (l.length + 1) (ess.flatten ++ es)) : ORow size R A' w' base e lv' (l ++ [x]) := by
  refine ⟨ess ++ [es], by simp [h1], fun y hy => ?_, by simpa using hown, fun j hj => ?_⟩
  · rcases List.mem_append.1 hy with hy | hy
    · exact h2 y hy
    · rw [List.mem_singleton.1 hy]; exact hes
  · by_cases e : j < l.length
    · rw [List.getElem_append_left e, List.getD_eq_getElem?_getD, List.getElem?_append_left (by omega), ← List.getD_eq_getElem?_getD]
      exact hR _ _ _ _ _ _ _ c hF hA (h4 j e)
    · have ej : j = l.length := by simp at hj; omega
      subst ej
      rw [List.getD_eq_getElem?_getD, List.getElem?_append_right (by omega), h1, Nat.sub_self, List.getElem_append_right (Nat.le_refl _)]
      simpa using hx
theorem RSl.at' {α : Type} {size : Nat} {R : Rd α} {A : Nat → Prop} {w : World} {v : Value} {l : List α} (h : RSl size R A w v l) : ∃ a c, v = .slice a l.length c ∧ RSl size R A w (.slice a l.length c) l := by
  obtain ⟨a, c, rfl⟩ := h.len
  exact ⟨a, c, rfl, h⟩
theorem Mine.mono {ts ts' : List TypeId} {base base' : Nat} {w : World} {j : Nat} (h : Mine ts base w j) (ht : ∀ t ∈ ts, t ∈ ts') (hb : base' ≤ base) : Mine ts' base' w j := by
  obtain ⟨h1, cs, T, hT, h2⟩ := h
  exact ⟨by omega, cs, T, ht T hT, h2⟩
theorem ORow.mine {α : Type} {size : Nat} {R : Rd α} {A : Nat → Prop} {w : World} {base b0 : Nat} {e : TypeId} {v : Value} {l : List α} {ts : List TypeId} (h : ORow size R A w base e v l) (he : e ∈ ts) (hb : b0 ≤ base) : ∀ k, slBlk v k → Mine ts b0 w k := by
  obtain ⟨ess, _, _, h3, _⟩ := h
  exact own_mine h3 he hb
theorem ORow.rsl' {α : Type} {size : Nat} {R : Rd α} {A A' : Nat → Prop} {w : World} {base : Nat} {e : TypeId} {v : Value} {l : List α} (hR : Mon R) (h : ORow size R A w base e v l) (hA : ∀ k, A k → A' k) (hv : ∀ k, slBlk v k → A' k) : RSl size R A' w v l := by
  obtain ⟨ess, h1, h2, h3, h4⟩ := h
  exact ORow.rsl ⟨ess, h1, h2, h3, fun j hj => hR _ _ _ _ _ _ _ (Ch.refl (fun _ => False) w) (fun _ _ => id) hA (h4 j hj)⟩ hv
theorem ORow.lt {α : Type} {size : Nat} {R : Rd α} {A : Nat → Prop} {w : World} {base : Nat} {e : TypeId} {v : Value} {l : List α} (h : ORow size R A w base e v l) : ∀ k, slBlk v k → base ≤ k ∧ k < w.heap.size := by
  obtain ⟨ess, _, _, h3, _⟩ := h
  exact fun k hk => own_lt h3 hk
end Sg
