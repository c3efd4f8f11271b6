/-
  Slices whose elements are structs, read as lists; slices that are built of structs; append of what came in. | == and != of structs of plain fields; append of a slice of structs that came in. | A text's tokens, as a plain function of its bytes. | Strings by their bytes; values behind interfaces; scopes. | The reading of a history's tokens, as plain functions: what is read and what is left, or where it fails and why. | The reading of a history's tokens: what holds of what it hands back; its steps. | Two lists of tokens that differ in places alone, and in how many ends of lines stand together: they read as the same history, or fail for the same reason. | The reading of a report's tokens, as plain functions put together of small ones; tokens that differ in places and in how many ends of lines stand together read alike. | A report read by two ways of taking words: where the one gives up at a word and the other goes on with what may not be, the whole is the same. Conditions: the words answer alike but there. | A number's digits, as the library reads them and as the scan does. | Numerals: what is printed is scanned as it, and what is scanned is printed so. | A history's text, as a plain function. | A text's tokens, moved; where they stand; what they are without their places. | Tokens as a text, and that text's tokens. | A history's tokens: they print as its text, and read as it.
-/
import Derived.Test.YtbnllchicnmkiaaGreatDoorPl1
import Derived.Great.FillDense
import Derived.Laws.StructEq
import Derived.Scope
import Derived.Laws.BytesString
import Derived.Lib.AtoiAll
import Derived.Lib.ItoaNum
import Derived.Lib.ItoaLen
import Derived.Lib.ItoaMem
section
namespace Sg
open Go Go.RowKit

/-- How some cells read as something, by way of blocks that are let. -/
abbrev Rd (α : Type) := (Nat → Prop) → World → List Value → α → Prop
def Mon {α : Type} (R : Rd α) : Prop := ∀ (A A' F : Nat → Prop) (w w' : World) (es : List Value) (x : α), Ch F w w' → (∀ k, A k → ¬ F k) → (∀ k, A k → A' k) → R A w es x → R A' w' es x
/-- The slice v reads as l, its elements of `size` cells. -/
def RSl {α : Type} (size : Nat) (R : Rd α) (A : Nat → Prop) (w : World) (v : Value) (l : List α) : Prop :=
  (l = [] ∧ ∃ a c, v = .slice a 0 c) ∨ ∃ b o cap cs T fr, v = .slice (some ⟨b, o, none⟩) l.length cap ∧ l.length ≤ cap ∧ w.heap[b]? = some (.cells cs T fr) ∧ A b ∧
    ∀ j (hj : j < l.length), ∃ es : List Value, es.length = size ∧ (∀ i, i < size → cs[o + j * size + i]? = es[i]?) ∧ R A w es l[j]
/-- The slice reads as a list of plain values, by way of a block that is let. -/
def SlA (A : Nat → Prop) (w : World) (v : Value) (l : List Value) : Prop := Sl w v l ∧ ∀ k, slBlk v k → A k
abbrev all : Nat → Prop := fun _ => True

section
variable {α : Type} {size : Nat} {R : Rd α} {A A' F : Nat → Prop} {w w' : World} {v : Value} {l : List α}
theorem RSl.ch (hR : Mon R) (h : RSl size R A w v l) (c : Ch F w w') (hF : ∀ k, A k → ¬ F k) (hA : ∀ k, A k → A' k) : RSl size R A' w' v l := by
  rcases h with h | ⟨b, o, cap, cs, T, fr, rfl, h1, h2, hb, h3⟩
  · exact .inl h
  · refine .inr ⟨b, o, cap, cs, T, fr, rfl, h1, c.at h2 (hF b hb), hA b hb, fun j hj => ?_⟩
    obtain ⟨es, e1, e2, e3⟩ := h3 j hj
    exact ⟨es, e1, e2, hR _ _ _ _ _ _ _ c hF hA e3⟩
theorem RSl.ch0 (hR : Mon R) (h : RSl size R A w v l) (c : Ch0 w w') : RSl size R A w' v l := h.ch hR c (fun _ _ => id) (fun _ => id)
theorem RSl.len (h : RSl size R A w v l) : ∃ a cap, v = .slice a l.length cap := by
  rcases h with ⟨rfl, a, c, rfl⟩ | ⟨b, o, cap, cs, T, fr, rfl, _⟩
  · exact ⟨a, c, rfl⟩
  · exact ⟨_, cap, rfl⟩
theorem RSl.at {a : Option Addr} {m c : Nat} (h : RSl size R A w (.slice a m c) l) {k : Nat} (hk : k < l.length) :
    ∃ b o cs T fr, ∃ es : List Value, a = some ⟨b, o, none⟩ ∧ w.heap[b]? = some (.cells cs T fr) ∧ es.length = size ∧ (∀ i, i < size → cs[o + (k : Int).toNat * size + i]? = es[i]?) ∧ R A w es l[k] := by
  rcases h with ⟨rfl, _⟩ | ⟨b, o, cap, cs, T, fr, hv, _, h2, hb, h3⟩
  · simp at hk
  · simp only [Value.slice.injEq] at hv
    obtain ⟨es, e1, e2, e3⟩ := h3 k hk
    exact ⟨b, o, cs, T, fr, es, hv.1, h2, e1, e2, e3⟩
theorem SlA.ch {l : List Value} (h : SlA A w v l) (c : Ch F w w') (hF : ∀ k, A k → ¬ F k) (hA : ∀ k, A k → A' k) : SlA A' w' v l :=
  ⟨h.1.ch c (fun k hk => hF k (h.2 k hk)), fun k hk => hA k (h.2 k hk)⟩
theorem SlA.ch0 {l : List Value} (h : SlA A w v l) (c : Ch0 w w') : SlA A w' v l := h.ch c (fun _ _ => id) (fun _ => id)

/-- As `ownsRow`, the elements read. -/
def ORow (size : Nat) (R : Rd α) (A : Nat → Prop) (w : World) (base : Nat) (e : TypeId) (v : Value) (l : List α) : Prop :=
  ∃ ess : List (List Value), ess.length = l.length ∧ (∀ es ∈ ess, es.length = size) ∧ w.ownsRow base e size v l.length ess.flatten ∧ ∀ j (hj : j < l.length), R A w (ess.getD j []) l[j]
theorem ORow.nil {base : Nat} {e : TypeId} : ORow size R A w base e (.slice none 0 0) ([] : List α) :=
  ⟨[], rfl, (fun _ h => by cases h), World.ownsRow_nil _ _ _ _, fun j hj => absurd hj (by simp)⟩
theorem flatten_at {ess : List (List Value)} (h : ∀ es ∈ ess, es.length = size) : ∀ {j i : Nat}, j < ess.length → i < size → ess.flatten[j * size + i]? = (ess.getD j [])[i]? := by
  induction ess with
  | nil => intro j i hj; simp at hj
  | cons e r ih =>
    intro j i hj hi
    have he := h e (List.mem_cons_self ..)
    rw [List.flatten_cons]
    cases j with
    | zero => rw [Nat.zero_mul, Nat.zero_add, List.getElem?_append_left (by omega)]; rfl
    | succ j =>
      have e1 : (j + 1) * size + i = e.length + (j * size + i) := by rw [he, Nat.succ_mul]; omega
      rw [e1, List.getElem?_append_right (by omega), Nat.add_sub_cancel_left, ih (fun es hes => h es (List.mem_cons_of_mem _ hes)) (by simpa using hj) hi]
      simp [List.getD_eq_getElem?_getD]
theorem ORow.rsl {base : Nat} {e : TypeId} (h : ORow size R A w base e v l) (hA : ∀ k, slBlk v k → A k) : RSl size R A w v l := by
  obtain ⟨ess, h1, h2, ⟨hl, h3⟩, h4⟩ := h
  rcases h3 with ⟨rfl, h0⟩ | ⟨g, cap, cur, rfl, _, hg, hc, _, hs, ht⟩
  · exact .inl ⟨List.eq_nil_of_length_eq_zero h0, _, _, rfl⟩
  · refine .inr ⟨g, 0, cap, cur, e, (0, 0), rfl, hc, hg, hA g rfl, fun j hj => ⟨ess.getD j [], ?_, fun i hi => ?_, h4 j hj⟩⟩
    · have hj' : j < ess.length := by omega
      rw [List.getD_eq_getElem?_getD, List.getElem?_eq_getElem hj']
      exact h2 _ (List.getElem_mem hj')
    · rw [← flatten_at h2 (by omega) hi, ← ht, List.getElem?_take, if_pos ?_]
      · simp
      · have : (j + 1) * size ≤ l.length * size := Nat.mul_le_mul_right _ hj
        rw [Nat.succ_mul] at this
        omega
end

section
variable {P : Program} {n : Sz} {Q : Post} {σ : Env} {w : World} {ops : Array Oper} {rest : List Oper}
variable {d : Nat} {t xt yt : TypeId} {pos : String} {af : Array Edge} {v : Value} {x y : Operand} {b o : Nat} {cs : Array Value} {T : TypeId} {fr : Nat × Nat}

/-- A whole struct out of a variable of its own. -/
theorem X.loadBox {k : Nat} {vs : List Value} (ht : Aggr P xt k) (hx : ev σ x = .pointer (some ⟨b, 0, none⟩)) (hm : w.heap[b]? = some (.cells vs.toArray T fr)) (hl : vs.length = k) : X P σ w (.load xt x) t (.agg vs.toArray) :=
  X.loadS ht hx hm hl (fun j hj => by simp)
/-- A slice that is built of parts, all of them given, each of `size` cells. -/
theorem run_bsliceR {e : TypeId} {size bytes : Nat} {z : Value} {vs : List Value} (hs : P.underlying t = some (.slice e)) (he : Elem P e size z bytes) (h0 : 0 < size) (hv : ∀ u ∈ vs, u.cells.size = size) (hb : vs.length * size ≤ 16777216) :
    (Instr.buildSlice t vs.length ((vs.zipIdx 0).map fun u => (u.2, u.1)).toArray).run P w = .ok (.slice (some ⟨w.heap.size, 0, none⟩) vs.length vs.length) (w.alloc (.cells (vs.flatMap fun u => u.cells.toList).toArray e)) := by
  obtain ⟨i, hi, hi1, hz, _⟩ := he
  unfold Instr.buildSlice
  have hf : ∀ cells : Array Value, cells.size = vs.length * size → Instr.fill (fun i => some (i * size, size)) cells ((vs.zipIdx 0).map fun u => (u.2, u.1)) = some (vs.flatMap fun u => u.cells.toList).toArray :=
    fun cells hc => Great.fill_whole h0 vs cells hv hc.symm
  simp only [Sem.run_bind, run_underlying hs, Result.andThen_ok, Go.sizeOf, typeInfo, run_program, hi, Sem.run_pure, hi1, zeroValue]
  rw [if_neg (by omega)]
  by_cases hn : vs.length * size = 0
  · rw [if_pos hn]
    simp only [pure_bind]
    rw [hf _ (by simp)]
    simp [newRow]
  · rw [if_neg hn]
    simp only [Sem.run_bind, Sem.run_pure, Result.andThen_ok, run_program, hi, hz, pure_bind]
    rw [hf _ (by simp)]
    simp [newRow]
theorem WL.bsliceR {e : TypeId} {size bytes len : Nat} {z : Value} {parts : List (Nat × Operand)} {vs : List Value} (hs : P.underlying xt = some (.slice e)) (he : Elem P e size z bytes) (h0 : 0 < size)
    (hps : parts.map (fun p => (p.1, ev σ p.2)) = (vs.zipIdx 0).map fun u => (u.2, u.1)) (hlen : vs.length = len) (hv : ∀ u ∈ vs, u.cells.size = size) (hb : vs.length * size ≤ 16777216) (hn : Nat.blt d n.sz = true)
    (h : ∀ w', Nw w w' (.cells (vs.flatMap fun u => u.cells.toList).toArray e) → WL P n ops Q rest (up σ d (.slice (some ⟨w.heap.size, 0, none⟩) len len)) w') :
    WL P n ops Q (⟨some d, .buildSlice xt len parts.toArray, t, pos, af, none⟩ :: rest) σ w := by
  subst hlen
  have := run_bsliceR (w := w) hs he h0 hv hb
  have e' : (parts.toArray.map fun x => (x.1, ev σ x.2)) = ((vs.zipIdx 0).map fun u => (u.2, u.1)).toArray := by rw [← hps]; simp
  refine WL.step (w' := w.alloc (.cells (vs.flatMap fun u => u.cells.toList).toArray e)) rfl rfl hn ?_ (h _ (nw_alloc w _))
  simp [execOp, e', this]
/-- append of a slice, wherever it lies. -/
theorem WL.appendA {s : Operand} {ty : TypeId} {e : TypeId} {size bytes base m k c : Nat} {z vs : Value} {xs news : List Value} {a : Addr} (hs : P.underlying xt = some (.slice e)) (he : Elem P e size z bytes) (hz : z.cells.size = size) (h0 : 0 < size)
    (h1 : ev σ s = vs) (h2 : ev σ x = .slice (some a) k c) (hown : w.ownsRow base e size vs m xs) (hnews : ∀ j u, news[j]? = some u → w.cell? (a.add j) = some u) (hl : news.length = k * size) (hone : ∀ u ∈ news, u.oneCell' = true)
    (g1 : m + k ≤ maxLen) (g2 : (m + k) * bytes ≤ 140737488355328) (g3 : base ≤ w.heap.size) (hn : Nat.blt d n.sz = true)
    (h : ∀ v' w', w'.ownsRow base e size v' (m + k) (xs ++ news) → Ch (slBlk vs) w w' → (v' = .slice none 0 0 ↔ vs = .slice none 0 0 ∧ k = 0) → WL P n ops Q rest (up σ d v') w') :
    WL P n ops Q (⟨some d, .call ⟨.builtin .append, #[s, x], #[xt, xt]⟩, ty, pos, af, none⟩ :: rest) σ w := by
  obtain ⟨i, hi, hi1, hzz, hby⟩ := he
  obtain ⟨v', w', hr, h3, h4, h5⟩ := run_append_own (P := P) w base xt ty e i z size bytes hs hi hzz hi1 hby hz h0 vs m xs hown a k c news hl hnews hone g1 g2 g3
  have hblk : ∀ k, some k ≠ vs.ownBlock ↔ ¬ slBlk vs k := by
    intro k
    rcases hown.2 with ⟨rfl, _⟩ | ⟨g, cap, cur, rfl, _⟩
    · simp [Value.ownBlock, slBlk]
    · simp [Value.ownBlock, slBlk]
  have hch : Ch (slBlk vs) w w' := ⟨h4.os, h4.tape, h4.output, h4.size, fun k hk hn => h4.block k hk ((hblk k).2 hn)⟩
  refine WL.step (w' := w') rfl rfl hn ?_ (h v' w' h3 hch h5)
  simp [execOp, resolve, invoke, builtin, h1, h2, hr]
theorem Sl.news {a : Addr} {c : Nat} {l : List Value} (h : Sl w (.slice (some a) l.length c) l) : ∀ j u, l[j]? = some u → w.cell? (a.add j) = some u := by
  rcases h with ⟨rfl, _⟩ | ⟨b, o, cap, cs, T, fr, hv, _, h2, h3⟩
  · intro j u hu; simp at hu
  · simp only [Value.slice.injEq, Option.some.injEq] at hv
    obtain ⟨rfl, _⟩ := hv
    intro j u hu
    have hj : j < l.length := (List.getElem?_eq_some_iff.1 hu).1
    have hadd : (⟨b, o, none⟩ : Addr).add j = ⟨b, o + j, none⟩ := by unfold Addr.add; split <;> simp_all
    rw [hadd]
    exact cell_of h2 ((h3 j hj).trans hu)
end

theorem ones_of {l : List Value} (h : l.all (·.oneCell') = true) : ∀ u ∈ l, u.oneCell' = true := fun u hu => List.all_eq_true.1 h u hu

def Mine (ts : List TypeId) (base : Nat) (w : World) : Nat → Prop := fun j => base ≤ j ∧ ∃ cs T, T ∈ ts ∧ w.heap[j]? = some (.cells cs T (0, 0))
theorem Mine.ch {ts : List TypeId} {base : Nat} {F : Nat → Prop} {w w' : World} {j : Nat} (h : Mine ts base w j) (c : Ch F w w') (hn : ¬ F j) : Mine ts base w' j := by
  obtain ⟨h1, cs, T, hT, h2⟩ := h
  exact ⟨h1, cs, T, hT, c.at h2 hn⟩
theorem own_mine {w : World} {base b0 m size : Nat} {e : TypeId} {v : Value} {xs : List Value} {ts : List TypeId} (h : w.ownsRow base e size v m xs) (he : e ∈ ts) (hb : b0 ≤ base) : ∀ k, slBlk v k → Mine ts b0 w k := by
  rintro k hk
  rcases h.2 with ⟨rfl, _⟩ | ⟨g, cap, cur, rfl, hb', hg, _⟩
  · exact hk.elim
  · have : k = g := hk
    subst this
    exact ⟨by omega, cur, e, he, hg⟩
theorem own_not {w : World} {base b0 m size : Nat} {e : TypeId} {v : Value} {xs : List Value} {ts : List TypeId} (h : w.ownsRow base e size v m xs) (he : e ∉ ts) : ∀ k, Mine ts b0 w k → ¬ slBlk v k := by
  rintro k ⟨_, cs, T, hT, h2⟩ hk
  rcases h.2 with ⟨rfl, _⟩ | ⟨g, cap, cur, rfl, hb', hg, _⟩
  · exact hk.elim
  · have : k = g := hk
    subst this
    rw [hg] at h2
    have := (Obj.cells.inj (Option.some.inj h2)).2.1
    exact he (this ▸ hT)
theorem ORow.push {α : Type} {size : Nat} {R : Rd α} {A A' : Nat → Prop} {w w' : World} {base : Nat} {e : TypeId} {lv lv' : Value} {l : List α} {x : α} {es : List Value} {ess : List (List Value)} (hR : Mon R)
    (h1 : ess.length = l.length) (h2 : ∀ es ∈ ess, es.length = size) (h4 : ∀ j (hj : j < l.length), R A w (ess.getD j []) l[j]) (hes : es.length = size) (hx : R A' w' es x) (c : Ch (slBlk lv) w w') (hF : ∀ k, A k → ¬ slBlk lv k) (hA : ∀ k, A k → A' k)
    (hown : w'.ownsRow base e size lv' (l.length + 1) (ess.flatten ++ es)) : ORow size R A' w' base e lv' (l ++ [x]) := by
  refine ⟨ess ++ [es], by simp [h1], fun y hy => ?_, by simpa using hown, fun j hj => ?_⟩
  · rcases List.mem_append.1 hy with hy | hy
    · exact h2 y hy
    · rw [List.mem_singleton.1 hy]; exact hes
  · by_cases e : j < l.length
    · rw [List.getElem_append_left e, List.getD_eq_getElem?_getD, List.getElem?_append_left (by omega), ← List.getD_eq_getElem?_getD]
      exact hR _ _ _ _ _ _ _ c hF hA (h4 j e)
    · have ej : j = l.length := by simp at hj; omega
      subst ej
      rw [List.getD_eq_getElem?_getD, List.getElem?_append_right (by omega), h1, Nat.sub_self, List.getElem_append_right (Nat.le_refl _)]
      simpa using hx
theorem RSl.at' {α : Type} {size : Nat} {R : Rd α} {A : Nat → Prop} {w : World} {v : Value} {l : List α} (h : RSl size R A w v l) : ∃ a c, v = .slice a l.length c ∧ RSl size R A w (.slice a l.length c) l := by
  obtain ⟨a, c, rfl⟩ := h.len
  exact ⟨a, c, rfl, h⟩
theorem Mine.mono {ts ts' : List TypeId} {base base' : Nat} {w : World} {j : Nat} (h : Mine ts base w j) (ht : ∀ t ∈ ts, t ∈ ts') (hb : base' ≤ base) : Mine ts' base' w j := by
  obtain ⟨h1, cs, T, hT, h2⟩ := h
  exact ⟨by omega, cs, T, ht T hT, h2⟩
theorem ORow.mine {α : Type} {size : Nat} {R : Rd α} {A : Nat → Prop} {w : World} {base b0 : Nat} {e : TypeId} {v : Value} {l : List α} {ts : List TypeId} (h : ORow size R A w base e v l) (he : e ∈ ts) (hb : b0 ≤ base) : ∀ k, slBlk v k → Mine ts b0 w k := by
  obtain ⟨ess, _, _, h3, _⟩ := h
  exact own_mine h3 he hb
theorem ORow.rsl' {α : Type} {size : Nat} {R : Rd α} {A A' : Nat → Prop} {w : World} {base : Nat} {e : TypeId} {v : Value} {l : List α} (hR : Mon R) (h : ORow size R A w base e v l) (hA : ∀ k, A k → A' k) (hv : ∀ k, slBlk v k → A' k) : RSl size R A' w v l := by
  obtain ⟨ess, h1, h2, h3, h4⟩ := h
  exact ORow.rsl ⟨ess, h1, h2, h3, fun j hj => hR _ _ _ _ _ _ _ (Ch.refl (fun _ => False) w) (fun _ _ => id) hA (h4 j hj)⟩ hv
theorem ORow.lt {α : Type} {size : Nat} {R : Rd α} {A : Nat → Prop} {w : World} {base : Nat} {e : TypeId} {v : Value} {l : List α} (h : ORow size R A w base e v l) : ∀ k, slBlk v k → base ≤ k ∧ k < w.heap.size := by
  obtain ⟨ess, _, _, h3, _⟩ := h
  exact fun k hk => own_lt h3 hk
end Sg
end

section
namespace Sg
open Go Go.RowKit

/-- Two values of a plain type, and whether they are equal. -/
def Cmp (P : Program) (t : TypeId) (a b : Value) (r : Bool) : Prop :=
  (∃ k p q, P.underlying t = some (.int k) ∧ a = .int k p ∧ b = .int k q ∧ r = decide (p = q)) ∨
  (∃ p q, P.underlying t = some .bool ∧ a = .bool p ∧ b = .bool q ∧ r = decide (p = q)) ∨
  (∃ p q, P.underlying t = some .string ∧ a = .string p ∧ b = .string q ∧ r = decide (p = q))
def CmpAll (P : Program) (xs ys : Array Value) : List Field → List Bool → Prop
  | [], [] => True
  | f :: fs, r :: rs => f.name ≠ "_" ∧ (∃ a b, xs[f.offset]? = some a ∧ ys[f.offset]? = some b ∧ Cmp P f.type a b r) ∧ CmpAll P xs ys fs rs
  | _, _ => False

section
variable {P : Program} {w : World} {t : TypeId} {a b : Value} {r : Bool}
theorem run_cmp (m : Nat) (h : Cmp P t a b r) : (Op.equalIn (m + 1) t a b).run P w = .ok r w := by
  rcases h with ⟨k, p, q, hu, rfl, rfl, rfl⟩ | ⟨p, q, hu, rfl, rfl, rfl⟩ | ⟨p, q, hu, rfl, rfl, rfl⟩
  · simp [Op.equalIn, run_underlying hu, beq_decide]
  · have : (p == q) = decide (p = q) := by cases p <;> cases q <;> rfl
    simp [Op.equalIn, run_underlying hu, this]
  · rw [run_equalIn_string w m t p q hu, toList_beq]
theorem run_cmp_part {o : Nat} {xs : Array Value} (h : Cmp P t a b r) {v : Value} (hx : xs[o]? = some v) : (part t xs o).run P w = .ok v w := by
  rcases h with ⟨k, p, q, hu, _⟩ | ⟨p, q, hu, _⟩ | ⟨p, q, hu, _⟩ <;> simp [part, isAgg, run_underlying hu, hx]
theorem run_eqFields (m : Nat) {xs ys : Array Value} : ∀ {fs : List Field} {rs : List Bool}, CmpAll P xs ys fs rs → (Op.eqFields (m + 1) xs ys fs).run P w = .ok (rs.all id) w
  | [], [], _ => by simp [Op.eqFields]
  | [], _ :: _, h => h.elim
  | _ :: _, [], h => h.elim
  | f :: fs, r :: rs, ⟨hn, ⟨a, b, ha, hb, hc⟩, h⟩ => by
    have ih := run_eqFields m h
    simp only [Op.eqFields]
    rw [if_pos hn]
    simp only [Sem.run_bind, run_cmp_part hc ha, run_cmp_part hc hb, Result.andThen_ok, run_cmp m hc]
    cases r
    · simp
    · simpa using ih
theorem fieldsOf_eq {fs : Array Field} (h : P.underlying t = some (.struct fs)) : P.fieldsOf t = fs := by
  unfold Program.fieldsOf
  rw [h]
theorem run_agg_eq (m : Nat) {fs : Array Field} {xs ys : Array Value} {rs : List Bool} (hu : P.underlying t = some (.struct fs)) (hp : P.stoodInHeld t = false) (h : CmpAll P xs ys fs.toList rs) :
    (Op.equalIn (m + 2) t (.agg xs) (.agg ys)).run P w = .ok (rs.all id) w := by
  rw [run_equalIn_agg w (m + 1) t xs ys (by rw [fieldsOf_eq hu]; exact hu) hp, fieldsOf_eq hu]
  exact run_eqFields m h
end
section
variable {P : Program} {n : Sz} {Q : Post} {σ : Env} {w : World} {d : Nat} {t xt yt : TypeId} {x y : Operand}
theorem X.neqAgg {fs : Array Field} {xs ys : Array Value} {rs : List Bool} {z : Bool} (hu : P.underlying xt = some (.struct fs)) (hp : P.stoodInHeld xt = false) (hg : P.eqGuardType P.depth xt = false) (hx : ev σ x = .agg xs) (hy : ev σ y = .agg ys)
    (h : CmpAll P xs ys fs.toList rs) (hz : (!(rs.all id)) = z) : X P σ w (.binOp .neq xt x y yt) t (.bool z) := fun _ _ _ _ => by
  have hgd := run_eqGuard_agg (P := P) w .neq xt x y xs ys hg
  have hb : (binOp .neq xt (.agg xs) (.agg ys)).run P w = .ok (.bool z) w := by
    rw [run_neq_struct (P := P), run_agg_eq 9998 hu hp h]
    simp [← hz]
  simp only [execOp, hx, hy, Sem.run_bind, hgd, Result.andThen_ok, hb, Sem.run_pure]
end

theorem add_none' {b o k : Nat} : (⟨b, o, none⟩ : Addr).add k = ⟨b, o + k, none⟩ := by unfold Addr.add; split <;> simp_all
end Sg
end

section
namespace Sg
open Go
abbrev Bs := List UInt8
def digN (c : Nat) : Bool := decide (48 ≤ c ∧ c ≤ 57)
def lowN (c : Nat) : Bool := decide (97 ≤ c ∧ c ≤ 122)
def innN (c : Nat) : Bool := digN c || lowN c
def nn (p : Nat → Bool) (c : UInt8) : Bool := p c.toNat
def bat (l : Bs) (i : Nat) : Nat := (l.getD i 0).toNat
theorem bat_lt (l : Bs) (i : Nat) : bat l i < 256 := (l.getD i 0).toNat_lt
theorem bat_drop (l : Bs) (i j : Nat) : bat (l.drop i) j = bat l (i + j) := by unfold bat; simp [List.getD_eq_getElem?_getD]
theorem bat_out {l : Bs} {i : Nat} (h : l.length ≤ i) : bat l i = 0 := by unfold bat; rw [List.getD_eq_getElem?_getD, List.getElem?_eq_none h]; rfl
theorem bat_get {l : Bs} {i : Nat} (h : i < l.length) : bat l i = l[i].toNat := by unfold bat; rw [List.getD_eq_getElem?_getD, List.getElem?_eq_getElem h]; rfl
theorem bat_cons {c : UInt8} {r : Bs} {i : Nat} : bat (c :: r) (i + 1) = bat r i := by unfold bat; simp
theorem bat_zero {c : UInt8} {r : Bs} : bat (c :: r) 0 = c.toNat := rfl
/-- How many stand in front that are of a kind. -/
def run (p : Nat → Bool) (l : Bs) : Nat := (l.takeWhile (nn p)).length
theorem run_le (p : Nat → Bool) (l : Bs) : run p l ≤ l.length := List.takeWhile_sublist (nn p) |>.length_le
theorem run_cons (p : Nat → Bool) (c : UInt8) (r : Bs) : run p (c :: r) = if p c.toNat then run p r + 1 else 0 := by
  unfold run nn
  rw [List.takeWhile_cons]
  by_cases h : p c.toNat = true <;> simp [h]
theorem run_nil (p : Nat → Bool) : run p [] = 0 := rfl
theorem run_is {p : Nat → Bool} : ∀ {l : Bs} {k : Nat}, k ≤ l.length → (∀ j, j < k → p (bat l j) = true) → (k < l.length → p (bat l k) = false) → run p l = k
  | [], k, h, _, _ => by have : k = 0 := by simpa using h
                         subst this; rfl
  | c :: r, 0, _, _, h3 => by rw [run_cons, if_neg]; have := h3 (by simp); rw [bat_zero] at this; rw [this]; simp
  | c :: r, k + 1, h1, h2, h3 => by
    rw [run_cons, if_pos (by have := h2 0 (by omega); rwa [bat_zero] at this)]
    rw [run_is (l := r) (k := k) (by simpa using h1) (fun j hj => by have := h2 (j + 1) (by omega); rwa [bat_cons] at this) (fun hk => by have := h3 (by simpa using hk); rwa [bat_cons] at this)]
theorem run_all {p : Nat → Bool} {l : Bs} {j : Nat} (h : j < run p l) : p (bat l j) = true := by
  induction l generalizing j with
  | nil => simp [run_nil] at h
  | cons c r ih =>
    rw [run_cons] at h
    by_cases e : p c.toNat = true
    · rw [if_pos e] at h
      cases j with
      | zero => rw [bat_zero]; exact e
      | succ j => rw [bat_cons]; exact ih (by omega)
    · rw [if_neg e] at h; omega
theorem run_ge {p : Nat → Bool} {l : Bs} {k : Nat} (h1 : k ≤ l.length) (h2 : ∀ j, j < k → p (bat l j) = true) : k ≤ run p l := by
  induction l generalizing k with
  | nil => have : k = 0 := by simpa using h1
           omega
  | cons c r ih =>
    cases k with
    | zero => exact Nat.zero_le _
    | succ k =>
      rw [run_cons, if_pos (by have := h2 0 (by omega); rwa [bat_zero] at this)]
      have := ih (k := k) (by simpa using h1) (fun j hj => by have := h2 (j + 1) (by omega); rwa [bat_cons] at this)
      omega
theorem run_end {p : Nat → Bool} {l : Bs} (h : run p l < l.length) : p (bat l (run p l)) = false := by
  induction l with
  | nil => simp at h
  | cons c r ih =>
    rw [run_cons] at h ⊢
    by_cases e : p c.toNat = true
    · rw [if_pos e] at h ⊢
      rw [bat_cons]; exact ih (by simpa using h)
    · rw [if_neg e, bat_zero]; simpa using e
def dec (l : Bs) : Nat := l.foldl (fun n c => n * 10 + (c.toNat - 48)) 0
theorem dec_snoc (l : Bs) (c : UInt8) : dec (l ++ [c]) = dec l * 10 + (c.toNat - 48) := by unfold dec; rw [List.foldl_append]; rfl
/-- A number at the head: how many bytes, what it is; or how far on the fault is, and its number. -/
def numL (l : Bs) : Except (Nat × Nat) (Nat × Int) :=
  let s := if bat l 0 = 45 then 1 else 0
  if bat l s = 48 then
    if s = 1 then .error (0, 10) else if innN (bat l 1) then .error (1, 10) else .ok (1, 0)
  else
    let k := s + run digN (l.drop s)
    let v := dec ((l.drop s).take (run digN (l.drop s)))
    if 9223372036854775808 ≤ v ∧ (s = 0 ∨ 9223372036854775808 < v) then .error (0, 11)
    else if lowN (bat l k) then .error (k, 10)
    else .ok (k, if s = 1 then -(v : Int) else v)
abbrev Tok := Int × Int × ByteArray × Int
def bs (l : Bs) : ByteArray := ⟨l.toArray⟩
def markN (c : Nat) : Bool := decide (c = 40 ∨ c = 41 ∨ c = 91 ∨ c = 93)
/-- The token at the head (no blank), at place i: it, and how long it is. -/
def tokL (i : Nat) (l : Bs) : Except (Nat × Nat) (Tok × Nat) :=
  let c := bat l 0
  if c = 10 then .ok ((4, i, bs (l.take 1), 0), 1)
  else if lowN c then .ok ((1, i, bs (l.take (run innN l)), 0), run innN l)
  else if digN c || (decide (c = 45) && digN (bat l 1)) then
    match numL l with
    | .ok (k, v) => .ok ((2, i, bs (l.take k), v), k)
    | .error (k, e) => .error (i + k, e)
  else if markN c then .ok ((3, i, bs (l.take 1), 0), 1)
  else .error (i, 10)
/-- What came in front, and what comes behind. -/
def aft (acc : List Tok) : Except (Nat × Nat) (List Tok) → Except (Nat × Nat) (List Tok)
  | .ok l => .ok (acc ++ l)
  | .error e => .error e
theorem aft_nil (x : Except (Nat × Nat) (List Tok)) : aft [] x = x := by cases x <;> rfl
theorem aft_aft (a b : List Tok) (x : Except (Nat × Nat) (List Tok)) : aft a (aft b x) = aft (a ++ b) x := by cases x <;> simp [aft]
def scanF : Nat → Nat → Bs → Except (Nat × Nat) (List Tok)
  | 0, _, _ => .ok []
  | f + 1, i, l =>
    if l = [] then .ok []
    else if bat l 0 = 32 then scanF f (i + 1) (l.drop 1)
    else match tokL i l with
      | .error e => .error e
      | .ok (t, k) => aft [t] (scanF f (i + k) (l.drop k))
/-- All of a text that is not too long. -/
def scanA (l : Bs) : Except (Nat × Nat) (List Tok) := if 20000 < l.length then .error (0, 4) else scanF l.length 0 l
theorem numL_len {l : Bs} {k : Nat} {v : Int} (h : numL l = .ok (k, v)) (hl : digN (bat l 0) = true ∨ (bat l 0 = 45 ∧ digN (bat l 1) = true)) : 1 ≤ k ∧ k ≤ l.length := by
  have key : ∀ s, (s = 0 ∨ s = 1) → digN (bat l s) = true → s < l.length ∧ 1 ≤ run digN (l.drop s) := fun s hs hd => by
    have h1 : s < l.length := by
      refine Nat.lt_of_not_le fun h => ?_
      rw [bat_out h] at hd; cases hd
    refine ⟨h1, ?_⟩
    refine Nat.pos_of_ne_zero fun h0 => ?_
    have := run_end (p := digN) (l := l.drop s) (by rw [h0, List.length_drop]; omega)
    rw [h0, bat_drop, Nat.add_zero, hd] at this
    cases this
  unfold numL at h
  by_cases e : bat l 0 = 45
  · have hd : digN (bat l 1) = true := by
      rcases hl with h | h
      · rw [e] at h; cases h
      · exact h.2
    obtain ⟨k1, k2⟩ := key 1 (.inr rfl) hd
    have k3 := run_le digN (l.drop 1)
    rw [List.length_drop] at k3
    simp only [e, if_true] at h
    split at h
    · cases h
    · split at h
      · cases h
      · split at h
        · cases h
        · simp only [Except.ok.injEq, Prod.mk.injEq] at h
          omega
  · have hd : digN (bat l 0) = true := by
      rcases hl with h | h
      · exact h
      · exact absurd h.1 e
    obtain ⟨k1, k2⟩ := key 0 (.inl rfl) hd
    have k3 := run_le digN (l.drop 0)
    rw [List.length_drop] at k3
    simp only [if_neg e] at h
    split at h
    · simp only [show ¬ (0 : Nat) = 1 by omega, if_false] at h
      split at h
      · cases h
      · simp only [Except.ok.injEq, Prod.mk.injEq] at h
        omega
    · split at h
      · cases h
      · split at h
        · cases h
        · simp only [Except.ok.injEq, Prod.mk.injEq] at h
          omega
theorem tokL_len {i : Nat} {l : Bs} {t : Tok} {k : Nat} (hl : l ≠ []) (h : tokL i l = .ok (t, k)) : 1 ≤ k ∧ k ≤ l.length := by
  have h0 : 1 ≤ l.length := by cases l <;> simp at *
  unfold tokL at h
  dsimp only at h
  split at h
  · simp only [Except.ok.injEq, Prod.mk.injEq] at h; omega
  · split at h
    · rename_i hlow
      simp only [Except.ok.injEq, Prod.mk.injEq] at h
      rw [← h.2]
      refine ⟨?_, run_le _ _⟩
      cases l with
      | nil => exact absurd rfl hl
      | cons c r => rw [run_cons, if_pos (by unfold innN; rw [bat_zero] at hlow; rw [hlow, Bool.or_true])]; omega
    · split at h
      · rename_i hnum
        have hn : digN (bat l 0) = true ∨ (bat l 0 = 45 ∧ digN (bat l 1) = true) := by simpa using hnum
        cases hx : numL l with
        | error e => rw [hx] at h; cases h
        | ok p =>
          obtain ⟨k', v⟩ := p
          rw [hx] at h
          simp only [Except.ok.injEq, Prod.mk.injEq] at h
          rw [← h.2]
          exact numL_len hx hn
      · split at h
        · simp only [Except.ok.injEq, Prod.mk.injEq] at h; omega
        · cases h
/-- Enough fuel is enough. -/
theorem scanF_fuel : ∀ {f g i : Nat} {l : Bs}, l.length ≤ f → l.length ≤ g → scanF f i l = scanF g i l
  | 0, 0, _, _, _, _ => rfl
  | 0, g + 1, i, l, h, _ => by
    have : l = [] := List.eq_nil_of_length_eq_zero (by omega)
    subst this
    show _ = if _ then _ else _
    rw [if_pos rfl]; rfl
  | f + 1, 0, i, l, _, h => by
    have : l = [] := List.eq_nil_of_length_eq_zero (by omega)
    subst this
    show (if _ then _ else _) = _
    rw [if_pos rfl]; rfl
  | f + 1, g + 1, i, l, h1, h2 => by
    show (if _ then _ else _) = if _ then _ else _
    by_cases e : l = []
    · rw [if_pos e, if_pos e]
    · have h0 : 1 ≤ l.length := by cases l <;> simp at *
      rw [if_neg e, if_neg e]
      by_cases e2 : bat l 0 = 32
      · rw [if_pos e2, if_pos e2]
        exact scanF_fuel (by rw [List.length_drop]; omega) (by rw [List.length_drop]; omega)
      · rw [if_neg e2, if_neg e2]
        cases hx : tokL i l with
        | error e => rfl
        | ok p =>
          obtain ⟨t, k⟩ := p
          have := tokL_len e hx
          show aft [t] _ = aft [t] _
          rw [scanF_fuel (f := f) (g := g) (by rw [List.length_drop]; omega) (by rw [List.length_drop]; omega)]
/-- From a place on. -/
def scanX (i : Nat) (l : Bs) : Except (Nat × Nat) (List Tok) := scanF l.length i l
theorem scanX_nil (i : Nat) : scanX i [] = .ok [] := rfl
theorem scanX_blank {i : Nat} {l : Bs} (h0 : l ≠ []) (h : bat l 0 = 32) : scanX i l = scanX (i + 1) (l.drop 1) := by
  obtain ⟨n, hn⟩ : ∃ n, l.length = n + 1 := ⟨l.length - 1, by cases l <;> simp at *⟩
  unfold scanX
  rw [hn]
  show (if _ then _ else _) = _
  rw [if_neg h0, if_pos h]
  exact scanF_fuel (by rw [List.length_drop]; omega) (Nat.le_refl _)
theorem scanX_err {i : Nat} {l : Bs} {e : Nat × Nat} (h0 : l ≠ []) (h : bat l 0 ≠ 32) (ht : tokL i l = .error e) : scanX i l = .error e := by
  obtain ⟨n, hn⟩ : ∃ n, l.length = n + 1 := ⟨l.length - 1, by cases l <;> simp at *⟩
  unfold scanX
  rw [hn]
  show (if _ then _ else _) = _
  rw [if_neg h0, if_neg h, ht]
theorem scanX_tok {i : Nat} {l : Bs} {t : Tok} {k : Nat} (h0 : l ≠ []) (h : bat l 0 ≠ 32) (ht : tokL i l = .ok (t, k)) : scanX i l = aft [t] (scanX (i + k) (l.drop k)) := by
  have hk := tokL_len h0 ht
  obtain ⟨n, hn⟩ : ∃ n, l.length = n + 1 := ⟨l.length - 1, by cases l <;> simp at *⟩
  unfold scanX
  rw [hn]
  show (if _ then _ else _) = _
  rw [if_neg h0, if_neg h, ht]
  show aft [t] _ = aft [t] _
  rw [scanF_fuel (g := (l.drop k).length) (by rw [List.length_drop]; omega) (Nat.le_refl _)]
theorem scanX_blanks {i : Nat} : ∀ {k : Nat} {l : Bs}, k ≤ l.length → (∀ j, j < k → bat l j = 32) → scanX i l = scanX (i + k) (l.drop k)
  | 0, l, _, _ => by simp
  | k + 1, l, h1, h2 => by
    have e1 := scanX_blanks (i := i) (k := k) (l := l) (by omega) (fun j hj => h2 j (by omega))
    rw [e1, scanX_blank (by intro h; have := congrArg List.length h; rw [List.length_drop] at this; simp at this; omega) (by rw [bat_drop, Nat.add_zero]; exact h2 k (by omega)), List.drop_drop, Nat.add_assoc]
end Sg
end

section
namespace Sg
open Go Go.RowKit
def ngo (Q : Post) : Post
  | .goto _, _, _ => False
  | e, σ, w => Q e σ w
theorem Nx.ngR {Q : Post} {K : Env → World → Prop} (h : Nx Q .ret K) : Nx (ngo Q) .ret K := h
abbrev sb (s : ByteArray) : Bs := s.data.toList
theorem sb_len (s : ByteArray) : (sb s).length = s.size := show s.data.toList.length = s.data.size from Array.length_toList
theorem sb_bs (l : Bs) : sb (bs l) = l := rfl
theorem bs_sb (s : ByteArray) : bs (sb s) = s := ByteArray.ext (show s.data.toList.toArray = s.data from Array.toArray_toList)
theorem bs_inj {a b : Bs} (h : bs a = bs b) : a = b := by have := congrArg sb h; rwa [sb_bs, sb_bs] at this
theorem size_bs (l : Bs) : (bs l).size = l.length := by rw [← sb_len, sb_bs]
theorem sub_bs (s : ByteArray) (i j : Nat) : s.extract i j = bs (((sb s).drop i).take (j - i)) := by
  refine ByteArray.ext ?_
  apply Array.ext'
  simp only [ByteArray.data_extract, bs]
  rw [Array.toList_extract, List.extract_eq_take_drop]
theorem sub_at {s : ByteArray} {i k : Nat} : s.extract i (i + k) = bs (((sb s).drop i).take k) := by rw [sub_bs]; congr 2; omega
theorem app_bs (a b : ByteArray) : a ++ b = bs (sb a ++ sb b) := by
  refine ByteArray.ext ?_
  apply Array.ext'
  simp [bs, sb]
section
variable {P : Program} {n : Sz} {Q : Post} {σ : Env} {w : World} {ops : Array Oper} {rest : List Oper}
variable {d : Nat} {t xt yt : TypeId} {pos : String} {af : Array Edge} {x y : Operand} {s s' : ByteArray} {k : IntKind} {p : Int} {i j : Nat}
theorem W.scope {c : Code} (h : W P n c (ngo Q) σ w) : W P n (.scope c) Q σ w := by
  intro a ha
  refine wp_scope_straight (wp_mono (h a ha) ?_)
  rintro e a' w' ⟨σ', hs, hq⟩
  cases e <;> first | exact hq.elim | exact ⟨σ', hs, hq⟩
theorem X.idxS (hs : P.underlying xt = some .string) (hx : ev σ x = .string s) (hy : ev σ y = .int k p) (h0 : 0 ≤ p) (h1 : p < s.size) : X P σ w (.index xt x y) t (.int .u8 ((bat (sb s) p.toNat : Nat) : Int)) := fun _ _ _ _ => by
  have hl : p.toNat < s.size := by omega
  have e1 : s[p.toNat]? = some s[p.toNat] := by simp [hl]
  have e2 : s[p.toNat].toNat = bat (sb s) p.toNat := by
    rw [bat_get (by rw [sb_len]; exact hl)]; rfl
  have hr : (Instr.index xt (.string s) (.int k p)).run P w = .ok (.int .u8 ((bat (sb s) p.toNat : Nat) : Int)) w := by
    simp [Instr.index, asIntOf, run_underlying hs, h0, e1, e2]
  simp [execOp, hx, hy, hr]
theorem X.idxN (hs : P.underlying xt = some .string) (hx : ev σ x = .string s) (hy : ev σ y = .int k (i : Int)) (h1 : i < s.size) : X P σ w (.index xt x y) t (.int .u8 ((bat (sb s) i : Nat) : Int)) := by
  have := X.idxS (w := w) (t := t) hs hx hy (by omega) (by omega)
  rwa [Int.toNat_natCast] at this
theorem run_subBounds {kl kh : IntKind} {lo hi : Int} {m : Nat} (g0 : 0 ≤ lo) (g1 : lo ≤ hi) (g2 : hi ≤ m) : (Instr.sliceBounds false m m (some (.int kl lo)) (some (.int kh hi)) none).run P w = .ok (lo.toNat, hi.toNat, m) w := by
  have e1 := run_sliceBound (P := P) w kh hi m .sliceAlen (by omega) g2
  have e2 := run_sliceBound (P := P) w kl lo hi.toNat .sliceB (by omega) (by omega)
  simp [Instr.sliceBounds, e1, e2]
theorem X.subS {kl kh : IntKind} {lo hi : Operand} {a b : Int} (hs : P.underlying xt = some .string) (hx : ev σ x = .string s) (h1 : ev σ lo = .int kl a) (h2 : ev σ hi = .int kh b) (g0 : 0 ≤ a) (g1 : a ≤ b) (g2 : b ≤ s.size) :
    X P σ w (.slice xt x (some lo) (some hi) none) t (.string (s.extract a.toNat b.toNat)) := fun _ _ _ _ => by
  have hb := run_subBounds (P := P) (w := w) (kl := kl) (kh := kh) g0 g1 g2
  simp [execOp, hx, h1, h2, Instr.sliceAt, Instr.slice, run_underlying hs, hb]
theorem X.subN {kl kh : IntKind} {lo hi : Operand} (hs : P.underlying xt = some .string) (hx : ev σ x = .string s) (h1 : ev σ lo = .int kl (i : Int)) (h2 : ev σ hi = .int kh (j : Int)) (g1 : i ≤ j) (g2 : j ≤ s.size) :
    X P σ w (.slice xt x (some lo) (some hi) none) t (.string (s.extract i j)) := by
  have := X.subS (w := w) (t := t) hs hx h1 h2 (by omega) (by omega) (by omega)
  rwa [Int.toNat_natCast, Int.toNat_natCast] at this
theorem X.addS (hx : ev σ x = .string s) (hy : ev σ y = .string s') (h : s.size + s'.size ≤ 9223372036854775807) : X P σ w (.binOp .add xt x y yt) t (.string (s ++ s')) := fun _ _ _ _ => by
  have hg : (eqGuard .add xt x y (.string s) (.string s')).run P w = .ok () w := by simp [eqGuard]
  have hm : IntKind.i64.max = 9223372036854775807 := by decide
  have hb : (binOp .add xt (.string s) (.string s')).run P w = .ok (.string (s ++ s')) w := by
    simp only [binOp, Op.stringOp, hm]
    rw [if_neg (by omega)]; rfl
  simp only [execOp, hx, hy, Sem.run_bind, hg, hb, Sem.run_pure, Result.andThen_ok]
theorem X.iface {ds : TypeDesc} {v : Value} (hu : P.underlying xt = some ds) (hn : (match ds with | .interface _ => False | _ => True)) (hx : ev σ x = v) : X P σ w (.makeInterface xt x) t (.iface xt v) := fun _ _ _ _ => by
  have hr : (Instr.makeInterface xt v).run P w = .ok (.iface xt v) w := by
    cases ds <;> first | exact hn.elim | simp [Instr.makeInterface, run_underlying hu]
  simp [execOp, hx, hr]
theorem X.b2s1 {e : TypeId} {b cap : Nat} {c : Int} {T : TypeId} {fr : Nat × Nat} (hs : P.underlying xt = some (.slice e)) (he : P.underlying e = some (.int .u8)) (hd : P.underlying yt = some .string) (hx : ev σ x = .slice (some ⟨b, 0, none⟩) 1 cap) (hm : w.heap[b]? = some (.cells #[.int .u8 c] T fr)) :
    X P σ w (.convert xt yt x) t (.string (bs [UInt8.ofNat c.toNat])) := fun _ _ _ _ => by
  have hl : (loadCells ⟨b, 0, none⟩ 1).run P w = .ok (([c].map (Value.int .u8)).toArray) w := by
    refine run_loadCells_list (P := P) w ⟨b, 0, none⟩ [.int .u8 c] ?_
    intro j u hu
    match j with
    | 0 => simp at hu; subst hu; exact cell_of hm rfl
    | j + 1 => simp at hu
  have h2 := run_bytesToString (P := P) w ⟨b, 0, none⟩ 1 cap [c] hl
  have h3 := run_convert_bytes_string (P := P) w xt yt e (some ⟨b, 0, none⟩) 1 cap hs he hd
  have h4 : (convert xt yt (.slice (some ⟨b, 0, none⟩) 1 cap)).run P w = .ok (.string (bs [UInt8.ofNat c.toNat])) w := by rw [h3, h2]; rfl
  simp [execOp, hx, h4]
/-- Division of what is not above nought, by ten. -/
theorem X.neg_rem {m : Nat} (hx : ev σ x = .int .i64 (-(m : Int))) (hy : ev σ y = .int .i64 10) : X P σ w (.binOp .rem xt x y yt) t (.int .i64 (-((m % 10 : Nat) : Int))) := by
  have h := X.remw (P := P) (w := w) (t := t) (xt := xt) (yt := yt) hx hy (by decide)
  rwa [show (-(m : Int)).tmod 10 = -((m % 10 : Nat) : Int) by rw [Int.neg_tmod, Int.tmod_eq_emod_of_nonneg (by omega)]; omega] at h
theorem X.neg_quo {m : Nat} (hx : ev σ x = .int .i64 (-(m : Int))) (hy : ev σ y = .int .i64 10) (hm : m ≤ 9223372036854775808) : X P σ w (.binOp .quo xt x y yt) t (.int .i64 (-((m / 10 : Nat) : Int))) := by
  have h := X.quow (P := P) (w := w) (t := t) (xt := xt) (yt := yt) hx hy (by decide)
  rwa [show (-(m : Int)).tdiv 10 = -((m / 10 : Nat) : Int) by rw [Int.neg_tdiv, Int.tdiv_eq_ediv_of_nonneg (by omega)]; omega, wrap_i64 (by omega) (by omega)] at h
theorem X.tassert {ds : TypeDesc} {at_ : TypeId} {v : Value} (hu : P.underlying at_ = some ds) (hn : (match ds with | .interface _ => False | _ => True)) (hx : ev σ x = .iface at_ v) : X P σ w (.typeAssert x xt at_ true) t (.tuple #[v, .bool true]) := fun _ _ _ _ => by
  have hr : (Instr.typeAssert (.iface at_ v) xt at_ true).run P w = .ok (.tuple #[v, .bool true]) w := by
    cases ds <;> first | exact hn.elim | simp [Instr.typeAssert, run_underlying hu]
  simp [execOp, hx, hr]
def isNil : Value → Bool
  | .nilIface => true
  | _ => false
/-- A value of an interface's type. -/
def IsI (v : Value) : Prop := v = .nilIface ∨ ∃ ty u, v = .iface ty u
theorem run_iface_equal {ms : Array (String × TypeId)} {v : Value} (m : Nat) (hu : P.underlying xt = some (.interface ms)) (h : IsI v) : (Op.equalIn (m + 1) xt v .nilIface).run P w = .ok (isNil v) w := by
  rcases h with rfl | ⟨ty, u, rfl⟩ <;> simp [Op.equalIn, run_underlying hu, isNil]
theorem X.neqI {ms : Array (String × TypeId)} {v : Value} (hu : P.underlying xt = some (.interface ms)) (hx : ev σ x = v) (h : IsI v) : X P σ w (.binOp .neq xt x (.const .nilIface) yt) t (.bool (!isNil v)) := fun _ _ _ _ => by
  have hg : (eqGuard .neq xt x (.const .nilIface) v .nilIface).run P w = .ok () w := by rcases h with rfl | ⟨ty, u, rfl⟩ <;> simp [eqGuard]
  have he : (Op.equal xt v .nilIface).run P w = .ok (isNil v) w := run_iface_equal 9999 hu h
  have hb : (binOp .neq xt v .nilIface).run P w = .ok (.bool (!isNil v)) w := by rcases h with rfl | ⟨ty, u, rfl⟩ <;> simp [binOp, he]
  have hc : ev σ (.const .nilIface) = .nilIface := rfl
  simp only [execOp, hx, hc, Sem.run_bind, hg, hb, Sem.run_pure, Result.andThen_ok]
theorem X.eqlI {ms : Array (String × TypeId)} {v : Value} (hu : P.underlying xt = some (.interface ms)) (hx : ev σ x = v) (h : IsI v) : X P σ w (.binOp .eql xt x (.const .nilIface) yt) t (.bool (isNil v)) := fun _ _ _ _ => by
  have hg : (eqGuard .eql xt x (.const .nilIface) v .nilIface).run P w = .ok () w := by rcases h with rfl | ⟨ty, u, rfl⟩ <;> simp [eqGuard]
  have he : (Op.equal xt v .nilIface).run P w = .ok (isNil v) w := run_iface_equal 9999 hu h
  have hb : (binOp .eql xt v .nilIface).run P w = .ok (.bool (isNil v)) w := by rcases h with rfl | ⟨ty, u, rfl⟩ <;> simp [binOp, he]
  have hc : ev σ (.const .nilIface) = .nilIface := rfl
  simp only [execOp, hx, hc, Sem.run_bind, hg, hb, Sem.run_pure, Result.andThen_ok]
theorem WQ.callv1 {K : Env → Prop} {f : Nat} {tys : Array TypeId} {x1 : Operand} {v v1 : Value} {caps : List Value} (hc : Callee P f) (hx : ev σ x = .func (.func f) #[] caps.toArray) (h1 : ev σ x1 = v1) (hr : ∀ m, Ret P f (v1 :: caps).toArray (w.drewN m) fun v' w' => v' = v ∧ ∃ k, w' = (w.drewN m).drewN k) (hn : Nat.blt d n.sz = true)
    (h : WQ P n ops w K rest (up σ d v)) : WQ P n ops w K (⟨some d, .call ⟨.value x, #[x1], tys⟩, t, pos, af, none⟩ :: rest) σ :=
  WQ.enter rfl rfl hn (fun _ => exec_callv (xs := [x1]) (vs := [v1]) hc hx (by simp [h1])) hr h
/-- A call that leaves the world alone, among operations that draw. -/
theorem Ret.q {f : FuncId} {args : Array Value} {v : Value} (h : ∀ w, Ret P f args w fun v' w' => v' = v ∧ w = w') : ∀ m, Ret P f args (w.drewN m) fun v' w' => v' = v ∧ ∃ k, w' = (w.drewN m).drewN k := fun _ => Ret.quiet (h _)
end
end Sg
end

section
namespace Sg
open Go
def seesB (ts : List Tok) (kind : Int) (text : ByteArray) : Bool := match ts with
  | [] => false
  | t :: _ => decide (t.1 = kind) && (decide (text = ⟨#[]⟩) || decide (t.2.2.1 = text))
def atP (e : Int) : List Tok → Int
  | [] => e
  | t :: _ => t.2.1
/-- Which of the words stands next: its place, or none. -/
def wordI (ts : List Tok) (ws : List ByteArray) : Option Nat := ws.findIdx? (fun a => seesB ts 1 a)
theorem wordI_some {ts : List Tok} {ws : List ByteArray} {j : Nat} (hj : j < ws.length) (h : seesB ts 1 ws[j] = true) (h2 : ∀ i (hi : i < ws.length), i < j → seesB ts 1 ws[i] = false) : wordI ts ws = some j := by
  unfold wordI
  rw [List.findIdx?_eq_some_iff_getElem]
  exact ⟨hj, h, fun i hi => by rw [h2 i (by omega) hi]; simp⟩
theorem wordI_none {ts : List Tok} {ws : List ByteArray} (h2 : ∀ i (hi : i < ws.length), seesB ts 1 ws[i] = false) : wordI ts ws = none := by
  unfold wordI
  rw [List.findIdx?_eq_none_iff]
  intro x hx
  obtain ⟨i, hi, rfl⟩ := List.mem_iff_getElem.1 hx
  exact h2 i hi
abbrev Er := Int × Int
def hdN : List Tok → Int
  | [] => 0
  | t :: _ => t.2.2.2
def hdX : List Tok → ByteArray
  | [] => ⟨#[]⟩
  | t :: _ => t.2.2.1
/-- A token that must stand there. -/
def takeP (e : Int) (ts : List Tok) (kind : Int) (text : ByteArray) : Except Er (List Tok) := if seesB ts kind text then .ok ts.tail else .error (atP e ts, 20)
def no : ByteArray := ⟨#[]⟩
def mk1 (c : UInt8) : ByteArray := ⟨#[c]⟩
/-- Empty lines play no part. -/
def skipP : List Tok → List Tok
  | [] => []
  | t :: r => if seesB (t :: r) 4 no then skipP r else t :: r
theorem skipP_len : ∀ (ts : List Tok), (skipP ts).length ≤ ts.length
  | [] => Nat.le_refl _
  | t :: r => by
    unfold skipP
    split
    · have := skipP_len r; rw [List.length_cons]; omega
    · exact Nat.le_refl _
end Sg
end

section
namespace Sg
open Go
theorem sees_cons_ {ts : List Tok} {k : Int} {x : ByteArray} (h : seesB ts k x = true) : ∃ t r, ts = t :: r := by
  cases ts with
  | nil => cases h
  | cons t r => exact ⟨t, r, rfl⟩
theorem sees_len {ts : List Tok} {k : Int} {x : ByteArray} (h : seesB ts k x = true) : ts.tail.length + 1 = ts.length := by
  obtain ⟨t, r, rfl⟩ := sees_cons_ h
  rfl
/-- The numbers of the tokens are of a kind. -/
def TokG (R : Int → Prop) (ts : List Tok) : Prop := ∀ t ∈ ts, R t.2.2.2
theorem TokG.hd {R : Int → Prop} {ts : List Tok} {k : Int} {x : ByteArray} (h : TokG R ts) (hs : seesB ts k x = true) : R (hdN ts) := by
  obtain ⟨t, r, rfl⟩ := sees_cons_ hs
  exact h t (List.mem_cons_self ..)
theorem skipP_line {ts : List Tok} (h : seesB ts 4 no = true) : skipP ts = skipP ts.tail := by
  obtain ⟨t, r, rfl⟩ := sees_cons_ h
  conv => lhs; unfold skipP
  rw [if_pos h]; rfl
theorem skipP_stop {ts : List Tok} (h : seesB ts 4 no = false) : skipP ts = ts := by
  cases ts with
  | nil => rfl
  | cons t r => unfold skipP; rw [if_neg (by rw [h]; simp)]
end Sg
end

section
namespace Sg
open Go
/-- us is ts with more ends of lines where there is one (or, with true, in front). -/
inductive Ext : Bool → List Tok → List Tok → Prop where
  | nil {b : Bool} : Ext b [] []
  | tok {b : Bool} {u t : Tok} {us ts : List Tok} : u.1 = t.1 → u.2.2 = t.2.2 → t.1 ≠ 4 → Ext false us ts → Ext b (u :: us) (t :: ts)
  | line {b : Bool} {u t : Tok} {us ts : List Tok} : u.1 = 4 → t.1 = 4 → Ext true us ts → Ext b (u :: us) (t :: ts)
  | more {u : Tok} {us ts : List Tok} : u.1 = 4 → Ext true us ts → Ext true (u :: us) ts
theorem Ext.up {b : Bool} {us ts : List Tok} (h : Ext false us ts) : Ext b us ts := by
  cases h with
  | nil => exact .nil
  | tok h1 h2 h3 h4 => exact .tok h1 h2 h3 h4
  | line h1 h2 h3 => exact .line h1 h2 h3
theorem ext_sees {us ts : List Tok} {k : Int} {x : ByteArray} (h : Ext false us ts) (hk : k ≠ 4 ∨ x = no) : seesB us k x = seesB ts k x := by
  cases h with
  | nil => rfl
  | tok h1 h2 h3 h4 => unfold seesB; simp only; rw [h1, h2]
  | line h1 h2 h3 =>
    unfold seesB; simp only
    rw [h1, h2]
    rcases hk with hk | rfl
    · rw [decide_eq_false (fun e => hk e.symm)]; rfl
    · show (_ && (decide ((⟨#[]⟩ : ByteArray) = ⟨#[]⟩) || _)) = (_ && (decide ((⟨#[]⟩ : ByteArray) = ⟨#[]⟩) || _))
      rw [decide_eq_true rfl]; rfl
theorem sees_kind {ts : List Tok} {k : Int} {x : ByteArray} {t : Tok} {r : List Tok} (h : seesB ts k x = true) (ht : ts = t :: r) : t.1 = k := by
  subst ht
  unfold seesB at h
  rw [Bool.and_eq_true] at h
  exact of_decide_eq_true h.1
/-- What stands in front of both, where a token is seen that ends no line. -/
theorem ext_cons {us ts : List Tok} {k : Int} {x : ByteArray} (h : Ext false us ts) (hk : k ≠ 4) (hs : seesB ts k x = true) : ∃ u t us' ts', us = u :: us' ∧ ts = t :: ts' ∧ u.2.2 = t.2.2 ∧ Ext false us' ts' := by
  cases h with
  | nil => cases hs
  | tok h1 h2 h3 h4 => exact ⟨_, _, _, _, rfl, rfl, h2, h4⟩
  | line h1 h2 h3 => exact absurd ((sees_kind hs rfl).symm.trans h2) hk
theorem ext_tail {us ts : List Tok} {k : Int} {x : ByteArray} (h : Ext false us ts) (hk : k ≠ 4) (hs : seesB ts k x = true) : Ext false us.tail ts.tail ∧ hdN us = hdN ts ∧ hdX us = hdX ts := by
  obtain ⟨u, t, us', ts', rfl, rfl, h1, h2⟩ := ext_cons h hk hs
  exact ⟨h2, by show u.2.2.2 = t.2.2.2; rw [h1], by show u.2.2.1 = t.2.2.1; rw [h1]⟩
theorem ext_nil {us ts : List Tok} (h : Ext false us ts) : us = [] ↔ ts = [] := by
  cases h with
  | nil => exact Iff.rfl
  | tok => constructor <;> intro h <;> cases h
  | line => constructor <;> intro h <;> cases h
theorem line_sees {t : Tok} {r : List Tok} (h : t.1 = 4) : seesB (t :: r) 4 no = true := by
  unfold seesB; simp only
  rw [h]
  show (_ && (decide ((⟨#[]⟩ : ByteArray) = ⟨#[]⟩) || _)) = true
  rw [decide_eq_true rfl]; rfl
theorem ext_skip {b : Bool} {us ts : List Tok} (h : Ext b us ts) : Ext false (skipP us) (skipP ts) := by
  induction h with
  | nil => exact .nil
  | @tok b u t us ts h1 h2 h3 h4 ih =>
    have e1 : seesB (u :: us) 4 no = false := by unfold seesB; simp only; rw [decide_eq_false (by rw [h1]; exact h3)]; rfl
    have e2 : seesB (t :: ts) 4 no = false := by unfold seesB; simp only; rw [decide_eq_false h3]; rfl
    rw [skipP_stop e1, skipP_stop e2]
    exact .tok h1 h2 h3 h4
  | line h1 h2 h3 ih => rw [skipP_line (line_sees h1), skipP_line (line_sees h2)]; exact ih
  | more h1 h2 ih => rw [skipP_line (line_sees h1)]; exact ih
end Sg
end

section
set_option linter.unusedVariables false
set_option linter.unusedSimpArgs false
namespace Sg
open Go
/-- A reading: what is read, and what is left; or none. -/
abbrev PR (α : Type) := List Tok → Option (α × List Tok)
section
variable {α β : Type}
def pret (a : α) : PR α := fun ts => some (a, ts)
def pbind (p : PR α) (f : α → PR β) : PR β := fun ts => match p ts with
  | some (a, r) => f a r
  | none => none
def ptok (k : Int) (x : ByteArray) : PR ByteArray := fun ts => if seesB ts k x = true then some (hdX ts, ts.tail) else none
def pnum : PR Int := fun ts => if seesB ts 2 no = true then some (hdN ts, ts.tail) else none
/-- Ends of lines, one at least, unless nothing stands behind. -/
def pends : PR Unit := fun ts => if ts = [] then some ((), []) else if seesB ts 4 no = true then some ((), skipP ts) else none
def pgiven (o : Option β) : PR β := fun ts => match o with
  | some b => some (b, ts)
  | none => none
/-- A word, and what it stands for. -/
def pword (f : ByteArray → Option β) : PR β := pbind (ptok 1 no) fun s => pgiven (f s)
def pif (c : List Tok → Bool) (p q : PR α) : PR α := fun ts => if c ts = true then p ts else q ts
def pkey : PR ByteArray := pbind (ptok 3 (mk1 40)) fun _ => pbind (pif (fun ts => seesB ts 1 no) (ptok 1 no) (pret no)) fun s => pbind (ptok 3 (mk1 41)) fun _ => pret s
def manyF (c : List Tok → Bool) (p : PR α) : Nat → PR (List α)
  | 0, ts => some ([], ts)
  | n + 1, ts => if c ts = true then (match p ts with
      | some (a, r) => (match manyF c p n r with
        | some (l, r') => some (a :: l, r')
        | none => none)
      | none => none) else some ([], ts)
/-- As long as c says so. -/
def pmany (c : List Tok → Bool) (p : PR α) : PR (List α) := fun ts => manyF c p ts.length ts
def RO : Option (α × List Tok) → Option (α × List Tok) → Prop
  | some (a, r), some (a', r') => a = a' ∧ Ext false r r'
  | none, none => True
  | _, _ => False
def PG (p : PR α) : Prop := ∀ us ts, Ext false us ts → RO (p us) (p ts)
/-- What is left is shorter, or no longer. -/
def PC (p : PR α) : Prop := ∀ ts a r, p ts = some (a, r) → r.length < ts.length
def PL (p : PR α) : Prop := ∀ ts a r, p ts = some (a, r) → r.length ≤ ts.length
theorem PC.le {p : PR α} (h : PC p) : PL p := fun ts a r k => Nat.le_of_lt (h ts a r k)
theorem pg_ret (a : α) : PG (pret a) := fun _ _ h => ⟨rfl, h⟩
theorem pl_ret (a : α) : PL (pret a) := fun ts b r h => by
  have h : some (a, ts) = some (b, r) := h
  injection h with h; injection h with _ h; rw [h]; exact Nat.le_refl _
theorem pg_bind {p : PR α} {f : α → PR β} (hp : PG p) (hf : ∀ a, PG (f a)) : PG (pbind p f) := fun us ts h => by
  have h1 := hp us ts h
  unfold pbind
  cases hq : p ts with
  | none =>
    cases hq' : p us with
    | none => exact trivial
    | some y => rw [hq, hq'] at h1; exact h1.elim
  | some x =>
    obtain ⟨a, r⟩ := x
    cases hq' : p us with
    | none => rw [hq, hq'] at h1; exact h1.elim
    | some y =>
      obtain ⟨a', r'⟩ := y
      rw [hq, hq'] at h1
      obtain ⟨h2, h3⟩ := h1
      have h2 : a' = a := h2
      subst h2
      exact hf a' r' r h3
theorem bind_some {p : PR α} {f : α → PR β} {ts : List Tok} {b : β} {r : List Tok} (h : pbind p f ts = some (b, r)) : ∃ a r', p ts = some (a, r') ∧ f a r' = some (b, r) := by
  unfold pbind at h
  cases hq : p ts with
  | none => rw [hq] at h; cases h
  | some x => obtain ⟨a, r'⟩ := x; rw [hq] at h; exact ⟨a, r', rfl, h⟩
theorem bind_eq {p : PR α} {f : α → PR β} {ts r : List Tok} {a : α} (h : p ts = some (a, r)) : pbind p f ts = f a r := by unfold pbind; rw [h]
theorem bind_none {p : PR α} {f : α → PR β} {ts : List Tok} (h : p ts = none) : pbind p f ts = none := by unfold pbind; rw [h]
theorem pc_bind {p : PR α} {f : α → PR β} (hp : PC p) (hf : ∀ a, PL (f a)) : PC (pbind p f) := fun ts b r h => by
  obtain ⟨a, r', h1, h2⟩ := bind_some h
  exact Nat.lt_of_le_of_lt (hf a _ _ _ h2) (hp _ _ _ h1)
theorem pl_bind {p : PR α} {f : α → PR β} (hp : PL p) (hf : ∀ a, PL (f a)) : PL (pbind p f) := fun ts b r h => by
  obtain ⟨a, r', h1, h2⟩ := bind_some h
  exact Nat.le_trans (hf a _ _ _ h2) (hp _ _ _ h1)
theorem pg_tok {k : Int} {x : ByteArray} (hk : k ≠ 4) : PG (ptok k x) := fun us ts h => by
  have hs := ext_sees (k := k) (x := x) h (.inl hk)
  unfold ptok
  rw [hs]
  cases hq : seesB ts k x with
  | false => exact trivial
  | true =>
    obtain ⟨h1, _, h3⟩ := ext_tail h hk hq
    exact ⟨h3, h1⟩
theorem pc_tok {k : Int} {x : ByteArray} : PC (ptok k x) := fun ts a r h => by
  unfold ptok at h
  split at h
  · rename_i hs
    injection h with h; injection h with _ h; subst h
    have := sees_len hs; omega
  · cases h
theorem pg_num : PG pnum := fun us ts h => by
  have hs := ext_sees (k := 2) (x := no) h (.inl (by decide))
  unfold pnum
  rw [hs]
  cases hq : seesB ts 2 no with
  | false => exact trivial
  | true =>
    obtain ⟨h1, h2, _⟩ := ext_tail h (by decide) hq
    exact ⟨h2, h1⟩
theorem pc_num : PC pnum := fun ts a r h => by
  unfold pnum at h
  split at h
  · rename_i hs
    injection h with h; injection h with _ h; subst h
    have := sees_len hs; omega
  · cases h
theorem pg_ends : PG pends := fun us ts h => by
  have hn := ext_nil h
  have hs := ext_sees (k := 4) (x := no) h (.inr rfl)
  unfold pends
  by_cases h0 : ts = []
  · rw [if_pos h0, if_pos (hn.2 h0)]; exact ⟨rfl, .nil⟩
  · rw [if_neg h0, if_neg (fun e => h0 (hn.1 e)), hs]
    cases hq : seesB ts 4 no with
    | false => exact trivial
    | true => exact ⟨rfl, ext_skip h⟩
theorem pl_ends : PL pends := fun ts a r h => by
  unfold pends at h
  split at h
  · injection h with h; injection h with _ h; subst h; exact Nat.zero_le _
  · split at h
    · injection h with h; injection h with _ h; subst h; exact skipP_len ts
    · cases h
theorem pg_given (o : Option β) : PG (pgiven o) := fun us ts h => by
  cases o with
  | none => exact trivial
  | some b => exact ⟨rfl, h⟩
theorem pl_given (o : Option β) : PL (pgiven o) := fun ts a r h => by
  cases o with
  | none => cases h
  | some b =>
    have h : some (b, ts) = some (a, r) := h
    injection h with h; injection h with _ h; rw [h]; exact Nat.le_refl _
theorem pg_word (f : ByteArray → Option β) : PG (pword f) := pg_bind (pg_tok (by decide)) fun _ => pg_given _
theorem pc_word (f : ByteArray → Option β) : PC (pword f) := pc_bind pc_tok fun _ => pl_given _
def CG (c : List Tok → Bool) : Prop := ∀ us ts, Ext false us ts → c us = c ts
theorem cg_sees {k : Int} {x : ByteArray} (hk : k ≠ 4) : CG (fun ts => seesB ts k x) := fun _ _ h => ext_sees h (.inl hk)
theorem pg_if {c : List Tok → Bool} {p q : PR α} (hc : CG c) (hp : PG p) (hq : PG q) : PG (pif c p q) := fun us ts h => by
  unfold pif
  rw [hc us ts h]
  cases c ts with
  | true => exact hp us ts h
  | false => exact hq us ts h
theorem pl_if {c : List Tok → Bool} {p q : PR α} (hp : PL p) (hq : PL q) : PL (pif c p q) := fun ts a r h => by
  unfold pif at h
  split at h
  · exact hp ts a r h
  · exact hq ts a r h
theorem pg_key : PG pkey := pg_bind (pg_tok (by decide)) fun _ => pg_bind (pg_if (cg_sees (by decide)) (pg_tok (by decide)) (pg_ret _)) fun _ => pg_bind (pg_tok (by decide)) fun _ => pg_ret _
theorem pc_key : PC pkey := pc_bind pc_tok fun _ => pl_bind (pl_if pc_tok.le (pl_ret _)) fun _ => pl_bind pc_tok.le fun _ => pl_ret _
theorem rel_many {c : List Tok → Bool} {p : PR α} (hc : CG c) (hp : PG p) (hs : PC p) (h0 : c [] = false) : ∀ {m n n' : Nat} {us ts : List Tok}, ts.length ≤ m → us.length ≤ n → ts.length ≤ n' → Ext false us ts → RO (manyF c p n us) (manyF c p n' ts)
  | m, n, n', us, ts, hm, hn, hn', h => by
    have hcc := hc us ts h
    cases hq : c ts with
    | false =>
      have e1 : manyF c p n' ts = some ([], ts) := by cases n' <;> simp [manyF, hq]
      have e2 : manyF c p n us = some ([], us) := by cases n <;> simp [manyF, hcc, hq]
      rw [e1, e2]; exact ⟨rfl, h⟩
    | true =>
      have ht : 1 ≤ ts.length := by
        cases ts with
        | nil => rw [h0] at hq; cases hq
        | cons t r => simp
      have hu : 1 ≤ us.length := by
        cases us with
        | nil => rw [h0] at hcc; rw [← hcc] at hq; cases hq
        | cons t r => simp
      obtain ⟨g, rfl⟩ : ∃ g, n = g + 1 := ⟨n - 1, by omega⟩
      obtain ⟨g', rfl⟩ : ∃ g', n' = g' + 1 := ⟨n' - 1, by omega⟩
      unfold manyF
      rw [if_pos hq, if_pos (hcc.trans hq)]
      have h1 := hp us ts h
      cases hx : p ts with
      | none =>
        cases hx' : p us with
        | none => exact trivial
        | some y => rw [hx, hx'] at h1; exact h1.elim
      | some x =>
        obtain ⟨a, r⟩ := x
        cases hx' : p us with
        | none => rw [hx, hx'] at h1; exact h1.elim
        | some y =>
          obtain ⟨a', r'⟩ := y
          rw [hx, hx'] at h1
          obtain ⟨h2, h3⟩ := h1
          have h2 : a' = a := h2
          subst h2
          have l1 := hs _ _ _ hx
          have l2 := hs _ _ _ hx'
          have ih : RO (manyF c p g r') (manyF c p g' r) := by
            cases m with
            | zero => omega
            | succ m => exact rel_many hc hp hs h0 (m := m) (by omega) (by omega) (by omega) h3
          simp only
          cases hy : manyF c p g' r with
          | none =>
            cases hy' : manyF c p g r' with
            | none => exact trivial
            | some z => rw [hy, hy'] at ih; exact ih.elim
          | some z =>
            obtain ⟨l, s⟩ := z
            cases hy' : manyF c p g r' with
            | none => rw [hy, hy'] at ih; exact ih.elim
            | some z' =>
              obtain ⟨l', s'⟩ := z'
              rw [hy, hy'] at ih
              obtain ⟨h4, h5⟩ := ih
              have h4 : l' = l := h4
              subst h4
              exact ⟨rfl, h5⟩
theorem pg_many {c : List Tok → Bool} {p : PR α} (hc : CG c) (hp : PG p) (hs : PC p) (h0 : c [] = false) : PG (pmany c p) := fun us ts h => rel_many hc hp hs h0 (Nat.le_refl _) (Nat.le_refl _) (Nat.le_refl _) h
theorem many_le {c : List Tok → Bool} {p : PR α} (hp : PL p) : ∀ {n : Nat} {ts : List Tok} {l : List α} {r : List Tok}, manyF c p n ts = some (l, r) → r.length ≤ ts.length
  | 0, ts, l, r, h => by
    have h : some (([] : List α), ts) = some (l, r) := h
    injection h with h; injection h with _ h; rw [h]; exact Nat.le_refl _
  | n + 1, ts, l, r, h => by
    unfold manyF at h
    split at h
    · cases hq : p ts with
      | none => rw [hq] at h; cases h
      | some x =>
        obtain ⟨a, r'⟩ := x
        rw [hq] at h
        simp only at h
        cases hy : manyF c p n r' with
        | none => rw [hy] at h; cases h
        | some z =>
          obtain ⟨l', s⟩ := z
          rw [hy] at h
          injection h with h; injection h with _ h; subst h
          exact Nat.le_trans (many_le hp hy) (hp _ _ _ hq)
    · injection h with h; injection h with _ h; rw [h]; exact Nat.le_refl _
theorem pl_many {c : List Tok → Bool} {p : PR α} (hp : PL p) : PL (pmany c p) := fun _ _ _ h => many_le hp h
/-- Enough is enough. -/
theorem many_fuel {c : List Tok → Bool} {p : PR α} (hs : PC p) (h0 : c [] = false) : ∀ {m n n' : Nat} {ts : List Tok}, ts.length ≤ m → ts.length ≤ n → ts.length ≤ n' → manyF c p n ts = manyF c p n' ts
  | m, n, n', ts, hm, hn, hn' => by
    cases hq : c ts with
    | false =>
      have e : ∀ k, manyF c p k ts = some ([], ts) := fun k => by cases k <;> simp [manyF, hq]
      rw [e, e]
    | true =>
      have ht : 1 ≤ ts.length := by
        cases ts with
        | nil => rw [h0] at hq; cases hq
        | cons t r => simp
      obtain ⟨g, rfl⟩ : ∃ g, n = g + 1 := ⟨n - 1, by omega⟩
      obtain ⟨g', rfl⟩ : ∃ g', n' = g' + 1 := ⟨n' - 1, by omega⟩
      unfold manyF
      rw [if_pos hq, if_pos hq]
      cases hx : p ts with
      | none => rfl
      | some x =>
        obtain ⟨a, r⟩ := x
        have l1 := hs _ _ _ hx
        simp only
        cases m with
        | zero => omega
        | succ m => rw [many_fuel hs h0 (m := m) (n := g) (n' := g') (by omega) (by omega) (by omega)]
theorem many_stop {c : List Tok → Bool} {p : PR α} {ts : List Tok} (h : c ts = false) : pmany c p ts = some ([], ts) := by
  unfold pmany
  cases ts.length <;> simp [manyF, h]
theorem many_go {c : List Tok → Bool} {p : PR α} (hs : PC p) (h0 : c [] = false) {ts r : List Tok} {a : α} (h : c ts = true) (hp : p ts = some (a, r)) : pmany c p ts = (match pmany c p r with | some (l, r') => some (a :: l, r') | none => none) := by
  have l1 := hs _ _ _ hp
  unfold pmany
  obtain ⟨g, hg⟩ : ∃ g, ts.length = g + 1 := ⟨ts.length - 1, by omega⟩
  rw [hg]
  conv => lhs; unfold manyF
  rw [if_pos h, hp]
  simp only
  rw [many_fuel hs h0 (Nat.le_refl r.length) (n := g) (n' := r.length) (by omega) (Nat.le_refl _)]
theorem many_bad {c : List Tok → Bool} {p : PR α} {ts : List Tok} (h0 : c [] = false) (h : c ts = true) (hp : p ts = none) : pmany c p ts = none := by
  have ht : 1 ≤ ts.length := by
    cases ts with
    | nil => rw [h0] at h; cases h
    | cons t r => simp
  unfold pmany
  obtain ⟨g, hg⟩ : ∃ g, ts.length = g + 1 := ⟨ts.length - 1, by omega⟩
  rw [hg]
  unfold manyF
  rw [if_pos h, hp]
end
abbrev QWhy := Int × Int × Int × ByteArray × Int × Int × Bool × Bool
abbrev QAn := Int × Int × Int × Int × ByteArray × Int × List QWhy × Bool × Int
abbrev QRep := Int × Bool × List QAn × Int × Int × List Int
/-- What the words stand for: kinds, labels, levels, answers. -/
structure Wds where
  kind : ByteArray → Option Int
  label : ByteArray → Option Int
  level : ByteArray → Option Int
  answer : ByteArray → Option Int
def two (a b : ByteArray) (s : ByteArray) : Option Bool := if s = a then some true else if s = b then some false else none
def wNil : ByteArray := ⟨#[110, 105, 108]⟩
def wValue : ByteArray := ⟨#[118, 97, 108, 117, 101]⟩
def wCond : ByteArray := ⟨#[99, 111, 110, 100]⟩
def wSure : ByteArray := ⟨#[115, 117, 114, 101]⟩
def wReal : ByteArray := ⟨#[114, 101, 97, 108]⟩
def wPlain : ByteArray := ⟨#[112, 108, 97, 105, 110]⟩
def wYes : ByteArray := ⟨#[121, 101, 115]⟩
def wNo : ByteArray := ⟨#[110, 111]⟩
def wTxns : ByteArray := ⟨#[116, 120, 110, 115]⟩
def wUnique : ByteArray := ⟨#[117, 110, 105, 113, 117, 101]⟩
def wAnomaly : ByteArray := ⟨#[97, 110, 111, 109, 97, 108, 121]⟩
def wLevel : ByteArray := ⟨#[108, 101, 118, 101, 108]⟩
def wAnswer : ByteArray := ⟨#[97, 110, 115, 119, 101, 114]⟩
def pwhy (f : Wds) : PR QWhy := pbind (ptok 3 (mk1 91)) fun _ => pbind pnum fun a => pbind (pword f.label) fun l => pbind pnum fun b => pbind pkey fun k => pbind pnum fun x => pbind pnum fun y => pbind (pword (two wNil wValue)) fun n => pbind (pword (two wCond wSure)) fun c => pbind (ptok 3 (mk1 93)) fun _ => pret (a, b, l, k, x, y, n, c)
def panm (f : Wds) : PR QAn := pbind (ptok 1 wAnomaly) fun _ => pbind (pword f.kind) fun kd => pbind pnum fun t => pbind pnum fun o => pbind pnum fun ot => pbind pkey fun k => pbind pnum fun v => pbind (pword (two wReal wPlain)) fun re => pbind (pword f.level) fun lv => pbind (pmany (fun ts => seesB ts 3 (mk1 91)) (pwhy f)) fun cyc => pbind pends fun _ => pret (kd, t, o, ot, k, v, cyc, re, lv)
def porder (a : Int) : PR (List Int) := if a = 1 then pbind (ptok 3 (mk1 40)) fun _ => pbind (pmany (fun ts => seesB ts 2 no) pnum) fun l => pbind (ptok 3 (mk1 41)) fun _ => pret l else pret []
def prep (f : Wds) : PR QRep := pbind (ptok 1 wTxns) fun _ => pbind pnum fun n => pbind pends fun _ => pbind (ptok 1 wUnique) fun _ => pbind (pword (two wYes wNo)) fun u => pbind pends fun _ => pbind (pmany (fun ts => seesB ts 1 wAnomaly) (panm f)) fun l => pbind (ptok 1 wLevel) fun _ => pbind (pword f.level) fun lv => pbind pends fun _ => pbind (ptok 1 wAnswer) fun _ => pbind (pword f.answer) fun a => pbind (porder a) fun o => pbind pends fun _ => pret (n, u, l, lv, a, o)
theorem pg_why (f : Wds) : PG (pwhy f) := pg_bind (pg_tok (by decide)) fun _ => pg_bind pg_num fun _ => pg_bind (pg_word _) fun _ => pg_bind pg_num fun _ => pg_bind pg_key fun _ => pg_bind pg_num fun _ => pg_bind pg_num fun _ => pg_bind (pg_word _) fun _ => pg_bind (pg_word _) fun _ => pg_bind (pg_tok (by decide)) fun _ => pg_ret _
theorem pc_why (f : Wds) : PC (pwhy f) := pc_bind pc_tok fun _ => pl_bind pc_num.le fun _ => pl_bind (pc_word _).le fun _ => pl_bind pc_num.le fun _ => pl_bind pc_key.le fun _ => pl_bind pc_num.le fun _ => pl_bind pc_num.le fun _ => pl_bind (pc_word _).le fun _ => pl_bind (pc_word _).le fun _ => pl_bind pc_tok.le fun _ => pl_ret _
theorem pg_an (f : Wds) : PG (panm f) := pg_bind (pg_tok (by decide)) fun _ => pg_bind (pg_word _) fun _ => pg_bind pg_num fun _ => pg_bind pg_num fun _ => pg_bind pg_num fun _ => pg_bind pg_key fun _ => pg_bind pg_num fun _ => pg_bind (pg_word _) fun _ => pg_bind (pg_word _) fun _ => pg_bind (pg_many (cg_sees (by decide)) (pg_why f) (pc_why f) rfl) fun _ => pg_bind pg_ends fun _ => pg_ret _
theorem pc_an (f : Wds) : PC (panm f) := pc_bind pc_tok fun _ => pl_bind (pc_word _).le fun _ => pl_bind pc_num.le fun _ => pl_bind pc_num.le fun _ => pl_bind pc_num.le fun _ => pl_bind pc_key.le fun _ => pl_bind pc_num.le fun _ => pl_bind (pc_word _).le fun _ => pl_bind (pc_word _).le fun _ => pl_bind (pl_many (pc_why f).le) fun _ => pl_bind pl_ends fun _ => pl_ret _
theorem pg_order (a : Int) : PG (porder a) := by
  unfold porder
  split
  · exact pg_bind (pg_tok (by decide)) fun _ => pg_bind (pg_many (cg_sees (by decide)) pg_num pc_num rfl) fun _ => pg_bind (pg_tok (by decide)) fun _ => pg_ret _
  · exact pg_ret _
theorem pg_rep (f : Wds) : PG (prep f) := pg_bind (pg_tok (by decide)) fun _ => pg_bind pg_num fun _ => pg_bind pg_ends fun _ => pg_bind (pg_tok (by decide)) fun _ => pg_bind (pg_word _) fun _ => pg_bind pg_ends fun _ => pg_bind (pg_many (cg_sees (by decide)) (pg_an f) (pc_an f) rfl) fun _ => pg_bind (pg_tok (by decide)) fun _ => pg_bind (pg_word _) fun _ => pg_bind pg_ends fun _ => pg_bind (pg_tok (by decide)) fun _ => pg_bind (pg_word _) fun _ => pg_bind (pg_order _) fun _ => pg_bind pg_ends fun _ => pg_ret _
/-- The whole: empty lines ahead; nothing may be left, and the report must be one that may be. -/
def repP (f : Wds) (may : QRep → Bool) (ts : List Tok) : Option QRep := match prep f (skipP ts) with
  | some (r, []) => if may r = true then some r else none
  | _ => none
theorem rep_alike {f : Wds} {may : QRep → Bool} {us ts : List Tok} (h : Ext true us ts) : repP f may us = repP f may ts := by
  have hr := pg_rep f _ _ (ext_skip h)
  unfold repP
  cases hx : prep f (skipP ts) with
  | none =>
    cases hx' : prep f (skipP us) with
    | none => rfl
    | some y => rw [hx, hx'] at hr; exact hr.elim
  | some x =>
    obtain ⟨a, r⟩ := x
    cases hx' : prep f (skipP us) with
    | none => rw [hx, hx'] at hr; exact hr.elim
    | some y =>
      obtain ⟨a', r'⟩ := y
      rw [hx, hx'] at hr
      obtain ⟨h1, h2⟩ := hr
      have h1 : a' = a := h1
      subst h1
      cases r with
      | nil => rw [(ext_nil h2).2 rfl]
      | cons t r =>
        cases r' with
        | nil => cases (ext_nil h2).1 rfl
        | cons u us => rfl
end Sg
end

section
set_option linter.unusedVariables false
set_option linter.unusedSimpArgs false
namespace Sg
open Go
section
variable {α β : Type}
/-- What is read is such. -/
def PO (P : α → Prop) (p : PR α) : Prop := ∀ ts a r, p ts = some (a, r) → P a
theorem po_bind {P : β → Prop} {p : PR α} {f : α → PR β} (h : ∀ a, PO P (f a)) : PO P (pbind p f) := fun ts b r k => by
  obtain ⟨a, r', _, h2⟩ := bind_some k
  exact h a _ _ _ h2
theorem po_ret {P : α → Prop} {a : α} (h : P a) : PO P (pret a) := fun ts b r k => by
  have k : some (a, ts) = some (b, r) := k
  injection k with k; injection k with k _; rw [← k]; exact h
/-- The second reads as the first; where the first gives up, what the second reads is bad. -/
def WE (bad : α → Prop) (p q : PR α) : Prop := ∀ ts, (∀ x, p ts = some x → q ts = some x) ∧ (p ts = none → ∀ a r, q ts = some (a, r) → bad a)
theorem we_refl {bad : α → Prop} (p : PR α) : WE bad p p := fun ts => ⟨fun _ h => h, fun h a r k => by rw [h] at k; cases k⟩
theorem we_bind {b1 : α → Prop} {b2 : β → Prop} {p q : PR α} {f g : α → PR β} (h : WE b1 p q) (hf : ∀ a, WE b2 (f a) (g a)) (hb : ∀ a, b1 a → PO b2 (g a)) : WE b2 (pbind p f) (pbind q g) := fun ts => by
  obtain ⟨h1, h2⟩ := h ts
  cases hp : p ts with
  | some x =>
    obtain ⟨a, r⟩ := x
    rw [bind_eq hp, bind_eq (h1 _ hp)]
    exact hf a r
  | none =>
    refine ⟨fun x k => (by rw [bind_none hp] at k; cases k), fun _ c r k => ?_⟩
    obtain ⟨a, r', h3, h4⟩ := bind_some k
    exact hb a (h2 hp a r' h3) _ _ _ h4
theorem we_same {b2 : β → Prop} {p : PR α} {f g : α → PR β} (hf : ∀ a, WE b2 (f a) (g a)) : WE b2 (pbind p f) (pbind p g) :=
  we_bind (b1 := fun _ => False) (we_refl p) hf (fun _ h => h.elim)
theorem we_manyF {b1 : α → Prop} {c : List Tok → Bool} {p q : PR α} (h : WE b1 p q) : ∀ n, WE (fun l => ∃ a ∈ l, b1 a) (manyF c p n) (manyF c q n)
  | 0 => fun ts => by
    unfold manyF
    exact ⟨fun _ k => k, fun k => by cases k⟩
  | n + 1 => fun ts => by
    unfold manyF
    by_cases hc : c ts = true
    · rw [if_pos hc, if_pos hc]
      obtain ⟨h1, h2⟩ := h ts
      cases hp : p ts with
      | some x =>
        obtain ⟨a, r⟩ := x
        rw [h1 _ hp]
        obtain ⟨h3, h4⟩ := we_manyF (c := c) h n r
        simp only
        cases hy : manyF c p n r with
        | some z =>
          rw [h3 _ hy]
          exact ⟨fun _ k => k, fun k => by cases k⟩
        | none =>
          refine ⟨fun x k => (by cases k), fun _ l r' k => ?_⟩
          cases hz : manyF c q n r with
          | none => rw [hz] at k; cases k
          | some w =>
            obtain ⟨l', s⟩ := w
            rw [hz] at k
            injection k with k; injection k with k _; subst k
            obtain ⟨x, hx, hb⟩ := h4 hy l' s hz
            exact ⟨x, List.mem_cons_of_mem _ hx, hb⟩
      | none =>
        refine ⟨fun x k => (by cases k), fun _ l r' k => ?_⟩
        cases hq : q ts with
        | none => rw [hq] at k; cases k
        | some y =>
          obtain ⟨a, r⟩ := y
          rw [hq] at k
          simp only at k
          cases hz : manyF c q n r with
          | none => rw [hz] at k; cases k
          | some w =>
            obtain ⟨l', s⟩ := w
            rw [hz] at k
            injection k with k; injection k with k _; subst k
            exact ⟨a, List.mem_cons_self, h2 hp a r hq⟩
    · rw [if_neg hc, if_neg hc]
      exact ⟨fun _ k => k, fun k => by cases k⟩
theorem we_many {b1 : α → Prop} {c : List Tok → Bool} {p q : PR α} (h : WE b1 p q) : WE (fun l => ∃ a ∈ l, b1 a) (pmany c p) (pmany c q) := fun ts => we_manyF h ts.length ts
theorem we_word {bad : β → Prop} {f g : ByteArray → Option β} (h : ∀ s, (∃ x, f s = some x ∧ g s = some x) ∨ (f s = none ∧ ∀ y, g s = some y → bad y)) : WE bad (pword f) (pword g) := by
  refine we_bind (b1 := fun _ => False) (we_refl _) (fun s ts => ?_) (fun _ h => h.elim)
  unfold pgiven
  rcases h s with ⟨x, h1, h2⟩ | ⟨h1, h2⟩
  · rw [h1, h2]; exact ⟨fun _ k => k, fun k => by cases k⟩
  · rw [h1]
    refine ⟨fun x k => (by cases k), fun _ a r k => ?_⟩
    cases hg : g s with
    | none => rw [hg] at k; cases k
    | some y =>
      rw [hg] at k
      injection k with k; injection k with k _
      exact h2 a (by rw [hg, k])
end
def lab (n : Int) : Bool := decide (n = 1 ∨ n = 2 ∨ n = 4 ∨ n = 8)
def mayW (K : ByteArray → Bool) (w : QWhy) : Bool := lab w.2.2.1 && K w.2.2.2.1
def mayA (K : ByteArray → Bool) (a : QAn) : Bool := decide (1 ≤ a.1 ∧ a.1 ≤ 11) && (K a.2.2.2.2.1 && (decide (0 ≤ a.2.2.2.2.2.2.2.2 ∧ a.2.2.2.2.2.2.2.2 ≤ 5) && (decide (a.2.2.2.2.2.2.1.length ≤ 300) && a.2.2.2.2.2.2.1.all (mayW K))))
def mayR (K : ByteArray → Bool) (r : QRep) : Bool := decide (0 ≤ r.1 ∧ r.1 ≤ 300) && (decide (r.2.2.1.length ≤ 1000) && (decide (0 ≤ r.2.2.2.1 ∧ r.2.2.2.1 ≤ 5) && (decide (0 ≤ r.2.2.2.2.1 ∧ r.2.2.2.2.1 ≤ 3) && (decide (r.2.2.2.2.2.length ≤ 300) && (decide (r.2.2.2.2.1 = 1 ∨ r.2.2.2.2.2 = []) && r.2.2.1.all (mayA K))))))
theorem mayR_of {K : ByteArray → Bool} {r : QRep} (h : mayR K r = true) : (0 ≤ r.1 ∧ r.1 ≤ 300) ∧ r.2.2.1.length ≤ 1000 ∧ (0 ≤ r.2.2.2.1 ∧ r.2.2.2.1 ≤ 5) ∧ (0 ≤ r.2.2.2.2.1 ∧ r.2.2.2.2.1 ≤ 3) ∧ r.2.2.2.2.2.length ≤ 300 ∧ (r.2.2.2.2.1 = 1 ∨ r.2.2.2.2.2 = []) ∧ ∀ a ∈ r.2.2.1, mayA K a = true := by
  unfold mayR at h
  simp only [Bool.and_eq_true, decide_eq_true_eq, List.all_eq_true] at h
  obtain ⟨h1, h2, h3, h4, h5, h6, h7⟩ := h
  exact ⟨h1, h2, h3, h4, h5, h6, h7⟩
theorem mayA_of {K : ByteArray → Bool} {a : QAn} (h : mayA K a = true) : (1 ≤ a.1 ∧ a.1 ≤ 11) ∧ K a.2.2.2.2.1 = true ∧ (0 ≤ a.2.2.2.2.2.2.2.2 ∧ a.2.2.2.2.2.2.2.2 ≤ 5) ∧ a.2.2.2.2.2.2.1.length ≤ 300 ∧ ∀ w ∈ a.2.2.2.2.2.2.1, mayW K w = true := by
  unfold mayA at h
  simp only [Bool.and_eq_true, decide_eq_true_eq, List.all_eq_true] at h
  obtain ⟨h1, h2, h3, h4, h5⟩ := h
  exact ⟨h1, h2, h3, h4, h5⟩
theorem mayW_of {K : ByteArray → Bool} {w : QWhy} (h : mayW K w = true) : (w.2.2.1 = 1 ∨ w.2.2.1 = 2 ∨ w.2.2.1 = 4 ∨ w.2.2.1 = 8) ∧ K w.2.2.2.1 = true := by
  unfold mayW lab at h
  simp only [Bool.and_eq_true, decide_eq_true_eq] at h
  exact h
theorem no_of {b : Bool} (h : b = true → False) : b = false := by
  cases b with
  | false => rfl
  | true => exact (h rfl).elim
/-- The one gives up at an unknown word, the other reads on with what may not be. -/
structure WdsR (f g : Wds) : Prop where
  kind : ∀ s, (∃ x, f.kind s = some x ∧ g.kind s = some x) ∨ (f.kind s = none ∧ ∀ y, g.kind s = some y → (y < 1 ∨ 11 < y))
  label : ∀ s, (∃ x, f.label s = some x ∧ g.label s = some x) ∨ (f.label s = none ∧ ∀ y, g.label s = some y → lab y = false)
  level : g.level = f.level
  answer : ∀ s, (∃ x, f.answer s = some x ∧ g.answer s = some x) ∨ (f.answer s = none ∧ ∀ y, g.answer s = some y → (y < 0 ∨ 3 < y))
theorem we_why {f g : Wds} (h : WdsR f g) (K : ByteArray → Bool) : WE (fun w => mayW K w = false) (pwhy f) (pwhy g) := by
  unfold pwhy
  refine we_same fun _ => we_same fun a => we_bind (we_word h.label) (fun l => we_refl _) (fun l hl => ?_)
  refine po_bind fun b => po_bind fun k => po_bind fun x => po_bind fun y => po_bind fun n => po_bind fun c => po_bind fun _ => po_ret ?_
  show (lab l && _) = false
  rw [hl]; rfl
theorem we_an {f g : Wds} (h : WdsR f g) (K : ByteArray → Bool) : WE (fun a => mayA K a = false) (panm f) (panm g) := by
  unfold panm
  rw [h.level]
  refine we_same fun _ => we_bind (we_word h.kind) (fun kd => ?_) (fun kd hk => ?_)
  · refine we_same fun t => we_same fun o => we_same fun ot => we_same fun k => we_same fun v => we_same fun re => we_same fun lv => we_bind (we_many (we_why h K)) (fun cyc => we_refl _) (fun cyc hc => ?_)
    refine po_bind fun _ => po_ret (no_of fun hm => ?_)
    obtain ⟨w, hw, hb⟩ := hc
    have := (mayA_of hm).2.2.2.2 w hw
    rw [hb] at this; cases this
  · refine po_bind fun t => po_bind fun o => po_bind fun ot => po_bind fun k => po_bind fun v => po_bind fun re => po_bind fun lv => po_bind fun cyc => po_bind fun _ => po_ret (no_of fun hm => ?_)
    have h1 : 1 ≤ kd ∧ kd ≤ 11 := (mayA_of hm).1
    omega
theorem we_rep {f g : Wds} (h : WdsR f g) (K : ByteArray → Bool) : WE (fun r => mayR K r = false) (prep f) (prep g) := by
  unfold prep
  rw [h.level]
  refine we_same fun _ => we_same fun n => we_same fun _ => we_same fun _ => we_same fun u => we_same fun _ => we_bind (we_many (we_an h K)) (fun l => ?_) (fun l hl => ?_)
  · refine we_same fun _ => we_same fun lv => we_same fun _ => we_same fun _ => we_bind (we_word h.answer) (fun a => we_refl _) (fun a ha => ?_)
    refine po_bind fun o => po_bind fun _ => po_ret (no_of fun hm => ?_)
    have h1 : 0 ≤ a ∧ a ≤ 3 := (mayR_of hm).2.2.2.1
    omega
  · refine po_bind fun _ => po_bind fun lv => po_bind fun _ => po_bind fun _ => po_bind fun a => po_bind fun o => po_bind fun _ => po_ret (no_of fun hm => ?_)
    obtain ⟨x, hx, hb⟩ := hl
    have := (mayR_of hm).2.2.2.2.2.2 x hx
    rw [hb] at this; cases this
/-- Both ways of taking words read the same report. -/
theorem rep_words {f g : Wds} (h : WdsR f g) (K : ByteArray → Bool) (ts : List Tok) : repP f (mayR K) ts = repP g (mayR K) ts := by
  obtain ⟨h1, h2⟩ := we_rep h K (skipP ts)
  unfold repP
  cases hp : prep f (skipP ts) with
  | some x => rw [h1 _ hp]
  | none =>
    cases hq : prep g (skipP ts) with
    | none => rfl
    | some y =>
      obtain ⟨a, r⟩ := y
      have := h2 hp a r hq
      cases r with
      | nil => simp only; rw [this]; rfl
      | cons t r => rfl
end Sg
end

section
namespace Sg
open Go
def decF (acc : Nat) (l : Bs) : Nat := l.foldl (fun n c => n * 10 + (c.toNat - 48)) acc
theorem decF_le : ∀ (l : Bs) (acc : Nat), acc ≤ decF acc l
  | [], acc => Nat.le_refl _
  | c :: r, acc => by
    have := decF_le r (acc * 10 + (c.toNat - 48))
    show acc ≤ decF (acc * 10 + (c.toNat - 48)) r
    omega
theorem pu_digits : ∀ (l : Bs) (acc : Nat), (∀ c ∈ l, digN c.toNat = true) → acc < 18446744073709551616 → Lib.parseUint10 acc l = if decF acc l < 18446744073709551616 then .ok (decF acc l) else .range
  | [], acc, _, h => by unfold Lib.parseUint10 decF; rw [List.foldl_nil, if_pos h]
  | c :: r, acc, hd, h => by
    have hc := hd c (List.mem_cons_self ..)
    unfold digN at hc
    have hc := of_decide_eq_true hc
    have hle := decF_le r (acc * 10 + (c.toNat - 48))
    have e : decF acc (c :: r) = decF (acc * 10 + (c.toNat - 48)) r := rfl
    unfold Lib.parseUint10
    rw [if_pos hc, e]
    by_cases h1 : 1844674407370955162 ≤ acc
    · rw [if_pos h1, if_neg (by omega)]
    · rw [if_neg h1]
      by_cases h2 : 18446744073709551616 ≤ acc * 10 + (c.toNat - 48)
      · rw [if_pos h2, if_neg (by omega)]
      · rw [if_neg h2]
        exact pu_digits r _ (fun d hd' => hd d (List.mem_cons_of_mem _ hd')) (by omega)
theorem run_mem {p : Nat → Bool} {l : Bs} : ∀ c ∈ l.take (run p l), p c.toNat = true := fun c hc => by
  obtain ⟨j, hj, rfl⟩ := List.mem_iff_getElem.1 hc
  have hr := run_le p l
  rw [List.length_take] at hj
  rw [List.getElem_take, ← bat_get (by omega)]
  exact run_all (by omega)
/-- What a number's text reads as, and what the scan makes of it. -/
def NK (l : Bs) (k : Nat) : Prop :=
  (∃ z : Int, Lib.atoiAll (l.take k) = .ok z ∧ numL l = if lowN (bat l k) then .error (k, 10) else .ok (k, z)) ∨ (Lib.atoiAll (l.take k) = .range ∧ numL l = .error (0, 11))
theorem atoi_cons (c : UInt8) (r : Bs) : Lib.atoiAll (c :: r) = match Lib.parseMag (if c.toNat = 43 ∨ c.toNat = 45 then r else c :: r) with
  | .syntax => .syntax
  | .range => .range
  | .ok u => if ¬ c.toNat = 45 ∧ 9223372036854775808 ≤ u then .range else if c.toNat = 45 ∧ 9223372036854775808 < u then .range else .ok (if c.toNat = 45 then -(u : Int) else u) := rfl
theorem numL_at {l : Bs} {s : Nat} (hs : (if bat l 0 = 45 then 1 else 0) = s) : numL l = if bat l s = 48 then (if s = 1 then .error (0, 10) else if innN (bat l 1) then .error (1, 10) else .ok (1, 0))
    else if 9223372036854775808 ≤ dec ((l.drop s).take (run digN (l.drop s))) ∧ (s = 0 ∨ 9223372036854775808 < dec ((l.drop s).take (run digN (l.drop s)))) then .error (0, 11)
    else if lowN (bat l (s + run digN (l.drop s))) then .error (s + run digN (l.drop s), 10) else .ok (s + run digN (l.drop s), if s = 1 then -(dec ((l.drop s).take (run digN (l.drop s))) : Int) else dec ((l.drop s).take (run digN (l.drop s)))) := by
  subst hs; rfl
theorem nk_zero {l : Bs} (h : bat l 0 = 48) (hi : innN (bat l 1) = false) : NK l 1 := by
  cases l with
  | nil => cases h
  | cons c r =>
    rw [bat_zero] at h
    refine .inl ⟨0, ?_, ?_⟩
    · show Lib.atoiAll [c] = _
      rw [atoi_cons, if_neg (by omega)]
      have : Lib.parseMag [c] = .ok 0 := by
        unfold Lib.parseMag
        rw [if_neg (by simp)]
        unfold Lib.parseUint10
        rw [if_pos (by omega), if_neg (by omega), if_neg (by omega), h]; rfl
      rw [this]
      simp only [h]
      rfl
    · rw [numL_at (s := 0) (by rw [bat_zero, if_neg (by omega)]), bat_zero, if_pos h, if_neg (by omega), hi, if_neg (by simp)]
      have : lowN (bat (c :: r) 1) = false := by unfold innN at hi; exact (Bool.or_eq_false_iff.1 hi).2
      rw [this]; rfl
theorem nk_run {l : Bs} {sg : Nat} (h : (sg = 1 ∧ bat l 0 = 45) ∨ (sg = 0 ∧ bat l 0 ≠ 45)) (hd : digN (bat l sg) = true) (h48 : bat l sg ≠ 48) : NK l (sg + run digN (l.drop sg)) := by
  have hs : (if bat l 0 = 45 then 1 else 0) = sg := by
    rcases h with ⟨rfl, h⟩ | ⟨rfl, h⟩
    · rw [if_pos h]
    · rw [if_neg h]
  have hlen : sg < l.length := by
    refine Nat.lt_of_not_le fun h => ?_
    rw [bat_out h] at hd; cases hd
  obtain ⟨m, hm⟩ : ∃ m, m = run digN (l.drop sg) := ⟨_, rfl⟩
  obtain ⟨ds, hds⟩ : ∃ ds, ds = (l.drop sg).take m := ⟨_, rfl⟩
  have hall : ∀ c ∈ ds, digN c.toNat = true := by rw [hds, hm]; exact run_mem
  have hm1 : 1 ≤ m := by
    refine Nat.pos_of_ne_zero fun h0 => ?_
    have := run_end (p := digN) (l := l.drop sg) (by rw [← hm, h0, List.length_drop]; omega)
    rw [← hm, h0, bat_drop, Nat.add_zero, hd] at this
    cases this
  have hml := run_le digN (l.drop sg)
  rw [← hm, List.length_drop] at hml
  have hne : ds ≠ [] := by
    intro e
    have := congrArg List.length e
    rw [hds, List.length_take, List.length_drop] at this
    simp at this; omega
  have hdec : dec ds = decF 0 ds := rfl
  have hmag : Lib.parseMag ds = if dec ds < 18446744073709551616 then .ok (dec ds) else .range := by
    unfold Lib.parseMag
    rw [if_neg hne, hdec]
    exact pu_digits ds 0 hall (by omega)
  have hnum : numL l = if 9223372036854775808 ≤ dec ds ∧ (sg = 0 ∨ 9223372036854775808 < dec ds) then .error (0, 11) else if lowN (bat l (sg + m)) then .error (sg + m, 10) else .ok (sg + m, if sg = 1 then -(dec ds : Int) else dec ds) := by
    rw [numL_at hs, if_neg h48, ← hm, ← hds]
  have hat : Lib.atoiAll (l.take (sg + m)) = if 9223372036854775808 ≤ dec ds ∧ (sg = 0 ∨ 9223372036854775808 < dec ds) then .range else .ok (if sg = 1 then -(dec ds : Int) else dec ds) := by
    have htk : l.take (sg + m) = l.take sg ++ ds := by rw [hds, List.take_add]
    rw [htk]
    rcases h with ⟨rfl, h⟩ | ⟨rfl, h⟩
    · cases l with
      | nil => cases h
      | cons c r =>
        rw [bat_zero] at h
        show Lib.atoiAll (c :: ds) = _
        rw [atoi_cons, if_pos (.inr h), hmag]
        simp only [h]
        by_cases h1 : dec ds < 18446744073709551616
        · rw [if_pos h1]
          by_cases h2 : 9223372036854775808 < dec ds
          · simp only [not_true_eq_false, false_and, if_false, true_and, h2, if_true]
            rw [if_pos ⟨by omega, .inr trivial⟩]
          · simp only [not_true_eq_false, false_and, if_false, true_and, h2, if_true]
            rw [if_neg (fun hh => by rcases hh.2 with h9 | h9; (· cases h9); (· exact h9.elim))]
        · rw [if_neg h1, if_pos ⟨by omega, .inr (by omega)⟩]
    · have hb : ∃ c r, ds = c :: r := by
        cases hq : ds with
        | nil => exact absurd hq hne
        | cons c r => exact ⟨c, r, rfl⟩
      obtain ⟨c, r, hcr⟩ := hb
      have hcd : digN c.toNat = true := hall c (by rw [hcr]; exact List.mem_cons_self ..)
      unfold digN at hcd
      have hcd := of_decide_eq_true hcd
      rw [List.take_zero, List.nil_append]
      obtain ⟨q, hq⟩ : ∃ q, q = dec ds := ⟨_, rfl⟩
      rw [← hq] at hmag ⊢
      rw [hcr] at hmag ⊢
      rw [atoi_cons, if_neg (by omega), hmag]
      by_cases h1 : q < 18446744073709551616
      · rw [if_pos h1]
        by_cases h2 : 9223372036854775808 ≤ q
        · simp only [show ¬ c.toNat = 45 by omega, not_false_eq_true, true_and, h2, if_true]
          rw [if_pos (.inl trivial)]
        · simp only [show ¬ c.toNat = 45 by omega, not_false_eq_true, true_and, h2, if_false, false_and]
          simp
      · rw [if_neg h1, if_pos ⟨by omega, .inl rfl⟩]
  rw [← hm]
  unfold NK
  rw [hnum, hat]
  by_cases hc : 9223372036854775808 ≤ dec ds ∧ (sg = 0 ∨ 9223372036854775808 < dec ds)
  · rw [if_pos hc, if_pos hc]; exact .inr ⟨rfl, rfl⟩
  · rw [if_neg hc, if_neg hc]; exact .inl ⟨_, rfl, rfl⟩
theorem nk_syntax {l : Bs} {k : Nat} (h : NK l k) : Lib.atoiAll (l.take k) ≠ .syntax := by
  rcases h with ⟨z, h, _⟩ | ⟨h, _⟩ <;> rw [h] <;> simp
end Sg
end

section
namespace Sg
open Go
theorem dd_small {u : Nat} (h : u < 10) : Lib.decDigits u = [UInt8.ofNat (48 + u)] := by rw [Lib.decDigits, dif_pos h]
theorem dd_big {u : Nat} (h : ¬ u < 10) : Lib.decDigits u = Lib.decDigits (u / 10) ++ [UInt8.ofNat (48 + u % 10)] := by rw [Lib.decDigits, dif_neg h]
theorem ofNat_toNat {k : Nat} (h : k < 256) : (UInt8.ofNat k).toNat = k := by simp [UInt8.toNat_ofNat']; omega
theorem dd_ne (u : Nat) : Lib.decDigits u ≠ [] := by
  by_cases h : u < 10
  · rw [dd_small h]; simp
  · rw [dd_big h]; simp
theorem dd_dig : ∀ (u : Nat), ∀ c ∈ Lib.decDigits u, digN c.toNat = true := by
  intro u
  induction u using Nat.strongRecOn with
  | _ u ih =>
    by_cases h : u < 10
    · rw [dd_small h]
      intro c hc
      rw [List.mem_singleton.1 hc, ofNat_toNat (by omega)]
      exact decide_eq_true (by omega)
    · rw [dd_big h]
      intro c hc
      rcases List.mem_append.1 hc with hc | hc
      · exact ih (u / 10) (by omega) c hc
      · rw [List.mem_singleton.1 hc, ofNat_toNat (by omega)]
        exact decide_eq_true (by omega)
theorem dd_dec : ∀ (u : Nat), dec (Lib.decDigits u) = u := by
  intro u
  induction u using Nat.strongRecOn with
  | _ u ih =>
    by_cases h : u < 10
    · rw [dd_small h]
      show dec ([] ++ [UInt8.ofNat (48 + u)]) = u
      rw [dec_snoc, ofNat_toNat (by omega)]
      show 0 * 10 + (48 + u - 48) = u
      omega
    · rw [dd_big h, dec_snoc, ih (u / 10) (by omega), ofNat_toNat (by omega)]
      omega
theorem dd_head : ∀ (u : Nat), u ≠ 0 → bat (Lib.decDigits u) 0 ≠ 48 := by
  intro u
  induction u using Nat.strongRecOn with
  | _ u ih =>
    intro h0
    by_cases h : u < 10
    · rw [dd_small h, bat_zero, ofNat_toNat (by omega)]; omega
    · rw [dd_big h]
      have hne := dd_ne (u / 10)
      cases hq : Lib.decDigits (u / 10) with
      | nil => exact absurd hq hne
      | cons c r =>
        have := ih (u / 10) (by omega) (by omega)
        rw [hq, bat_zero] at this
        exact this
theorem dd_zero : Lib.decDigits 0 = [48] := by rw [dd_small (by omega)]; rfl
theorem bat_app {a b : Bs} {i : Nat} (h : i < a.length) : bat (a ++ b) i = bat a i := by
  unfold bat; rw [List.getD_eq_getElem?_getD, List.getElem?_append_left h, ← List.getD_eq_getElem?_getD]
theorem bat_app2 {a b : Bs} {i : Nat} (h : a.length ≤ i) : bat (a ++ b) i = bat b (i - a.length) := by
  unfold bat; rw [List.getD_eq_getElem?_getD, List.getElem?_append_right h, ← List.getD_eq_getElem?_getD]
theorem run_app {p : Nat → Bool} {a b : Bs} (h : ∀ c ∈ a, p c.toNat = true) (hb : p (bat b 0) = false ∨ b = []) : run p (a ++ b) = a.length := by
  refine run_is (by simp) (fun j hj => ?_) (fun hl => ?_)
  · rw [bat_app hj, bat_get hj]; exact h _ (List.getElem_mem hj)
  · rw [bat_app2 (Nat.le_refl _), Nat.sub_self]
    rcases hb with hb | hb
    · exact hb
    · subst hb; simp at hl
/-- Behind a token: nothing that would go on with it. -/
def Clear (r : Bs) : Prop := innN (bat r 0) = false
theorem Clear.nil : Clear [] := rfl
theorem Clear.of {c : UInt8} {r : Bs} (h : innN c.toNat = false) : Clear (c :: r) := h
theorem Clear.dig {r : Bs} (h : Clear r) : digN (bat r 0) = false := (Bool.or_eq_false_iff.1 h).1
theorem Clear.low {r : Bs} (h : Clear r) : lowN (bat r 0) = false := (Bool.or_eq_false_iff.1 h).2
/-- Digits, the first no nought, behind a sign or none. -/
theorem numL_digits {ds r : Bs} {neg : Bool} (hne : ds ≠ []) (hd : ∀ c ∈ ds, digN c.toNat = true) (h0 : bat ds 0 ≠ 48) (hr : Clear r) (hlim : dec ds < 9223372036854775808 ∨ (neg = true ∧ dec ds = 9223372036854775808)) :
    numL ((if neg then [45] else []) ++ ds ++ r) = .ok ((if neg then 1 else 0) + ds.length, if neg then -(dec ds : Int) else dec ds) := by
  have hl : 0 < ds.length := by cases ds <;> simp at *
  have hd0 : digN (bat ds 0) = true := by rw [bat_get hl]; exact hd _ (List.getElem_mem hl)
  have hd1 := hd0
  unfold digN at hd1
  have hd1 := of_decide_eq_true hd1
  have hrun : run digN (ds ++ r) = ds.length := run_app hd (.inl hr.dig)
  cases neg with
  | true =>
    simp only [if_true, List.cons_append, List.nil_append]
    have hs : (if bat ((45 : UInt8) :: (ds ++ r)) 0 = 45 then 1 else 0) = 1 := rfl
    rw [numL_at hs, bat_cons, bat_app hl, if_neg h0]
    have e1 : ((45 : UInt8) :: (ds ++ r)).drop 1 = ds ++ r := rfl
    rw [e1, hrun, List.take_left, if_neg (by rcases hlim with h | h; (· omega); (· rw [h.2]; omega))]
    rw [show 1 + ds.length = ds.length + 1 by omega, bat_cons, bat_app2 (Nat.le_refl _), Nat.sub_self, hr.low]
    rfl
  | false =>
    simp only [Bool.false_eq_true, if_false, List.nil_append]
    have hs : (if bat (ds ++ r) 0 = 45 then 1 else 0) = 0 := by rw [bat_app hl, if_neg (by omega)]
    rw [numL_at hs, bat_app hl, if_neg h0]
    rw [List.drop_zero, hrun, List.take_left, if_neg (by rcases hlim with h | h; (· omega); (· cases h.1)), Nat.zero_add, bat_app2 (Nat.le_refl _), Nat.sub_self, hr.low]
    rfl
theorem numL_itoa {n : Int} (h1 : -9223372036854775808 ≤ n) (h2 : n ≤ 9223372036854775807) {r : Bs} (hr : Clear r) : numL (Lib.itoa n ++ r) = .ok ((Lib.itoa n).length, n) := by
  unfold Lib.itoa
  by_cases hn : n < 0
  · rw [if_pos hn]
    have := numL_digits (neg := true) (dd_ne n.natAbs) (dd_dig _) (dd_head _ (by omega)) hr (by rw [dd_dec]; by_cases e : n.natAbs < 9223372036854775808; (· exact .inl e); (· exact .inr ⟨rfl, by omega⟩))
    simp only [if_true, List.cons_append, List.nil_append] at this
    rw [List.cons_append, this, dd_dec, List.length_cons, show 1 + (Lib.decDigits n.natAbs).length = (Lib.decDigits n.natAbs).length + 1 by omega]
    congr 2; omega
  · rw [if_neg hn]
    by_cases h0 : n = 0
    · subst h0
      show numL (Lib.decDigits 0 ++ r) = .ok ((Lib.decDigits 0).length, 0)
      rw [dd_zero]
      show numL ((48 : UInt8) :: r) = _
      have hb : bat ((48 : UInt8) :: r) 1 = bat r 0 := bat_cons
      rw [numL_at (s := 0) rfl, if_pos (show bat ((48 : UInt8) :: r) 0 = 48 from rfl), if_neg (by omega), hb, show innN (bat r 0) = false from hr]
      rfl
    · have := numL_digits (neg := false) (dd_ne n.toNat) (dd_dig _) (dd_head _ (by omega)) hr (by rw [dd_dec]; exact .inl (by omega))
      simp only [Bool.false_eq_true, if_false, List.nil_append, Nat.zero_add] at this
      rw [this, dd_dec]
      congr 2; omega
end Sg
end

section
namespace Sg
open Go
def valT (z : Int) : Bs := 32 :: Lib.itoa z
theorem fmT_len {α : Type} {f : α → Bs} {B : Nat} : ∀ {l : List α}, (∀ x ∈ l, (f x).length ≤ B) → (l.flatMap f).length ≤ l.length * B
  | [], _ => by simp
  | a :: r, h => by
    have h1 := h a (List.mem_cons_self ..)
    have h2 := fmT_len (l := r) fun x hx => h x (List.mem_cons_of_mem _ hx)
    rw [List.flatMap_cons, List.length_append, List.length_cons, Nat.succ_mul]
    omega
theorem fm_take {α : Type} {f : α → Bs} {l : List α} {k : Nat} (h : k < l.length) : (l.take (k + 1)).flatMap f = (l.take k).flatMap f ++ f l[k] := by
  rw [List.take_succ_eq_append_getElem h, List.flatMap_append]; simp
theorem valT_len {z : Int} (h : -9223372036854775808 ≤ z ∧ z ≤ 9223372036854775807) : (valT z).length ≤ 22 := by
  have := Lib.itoa_length_le z h.1 h.2
  unfold valT; rw [List.length_cons]; omega
end Sg
end

section
namespace Sg
open Go
def shT (d : Nat) (t : Tok) : Tok := (t.1, t.2.1 + (d : Int), t.2.2)
/-- All places so much farther on. -/
def sh (d : Nat) : Except (Nat × Nat) (List Tok) → Except (Nat × Nat) (List Tok)
  | .ok l => .ok (l.map (shT d))
  | .error (a, e) => .error (a + d, e)
def shK (d : Nat) : Except (Nat × Nat) (Tok × Nat) → Except (Nat × Nat) (Tok × Nat)
  | .ok (t, k) => .ok (shT d t, k)
  | .error (a, e) => .error (a + d, e)
theorem tokL_sh (i d : Nat) (l : Bs) : tokL (i + d) l = shK d (tokL i l) := by
  unfold tokL
  simp only
  split
  · simp [shK, shT]
  · split
    · simp [shK, shT]
    · split
      · cases numL l with
        | ok p => obtain ⟨k, v⟩ := p; simp [shK, shT]
        | error p => obtain ⟨k, e⟩ := p; simp only [shK]; congr 2; omega
      · split
        · simp [shK, shT]
        · simp [shK]
theorem sh_aft (d : Nat) (t : Tok) (x : Except (Nat × Nat) (List Tok)) : aft [shT d t] (sh d x) = sh d (aft [t] x) := by
  cases x with
  | ok l => simp [sh, aft]
  | error e => simp [sh, aft]
theorem scanF_sh (d : Nat) : ∀ (f i : Nat) (l : Bs), scanF f (i + d) l = sh d (scanF f i l)
  | 0, _, _ => rfl
  | f + 1, i, l => by
    show (if l = [] then .ok [] else if bat l 0 = 32 then scanF f (i + d + 1) (l.drop 1) else match tokL (i + d) l with | .error e => .error e | .ok (t, k) => aft [t] (scanF f (i + d + k) (l.drop k)))
      = sh d (if l = [] then .ok [] else if bat l 0 = 32 then scanF f (i + 1) (l.drop 1) else match tokL i l with | .error e => .error e | .ok (t, k) => aft [t] (scanF f (i + k) (l.drop k)))
    by_cases h1 : l = []
    · rw [if_pos h1, if_pos h1]; rfl
    · rw [if_neg h1, if_neg h1]
      by_cases h2 : bat l 0 = 32
      · rw [if_pos h2, if_pos h2, show i + d + 1 = (i + 1) + d by omega, scanF_sh d f]
      · rw [if_neg h2, if_neg h2, tokL_sh]
        cases tokL i l with
        | error e => rfl
        | ok p =>
          obtain ⟨t, k⟩ := p
          show aft [shT d t] (scanF f (i + d + k) (l.drop k)) = sh d (aft [t] (scanF f (i + k) (l.drop k)))
          rw [show i + d + k = (i + k) + d by omega, scanF_sh d f, sh_aft]
theorem scanX_sh (d i : Nat) (l : Bs) : scanX (i + d) l = sh d (scanX i l) := scanF_sh d _ i l
theorem numL_ne {l : Bs} {k e : Nat} (h : numL l = .error (k, e)) : e ≠ 0 := by
  obtain ⟨s, hs⟩ : ∃ s, (if bat l 0 = 45 then 1 else 0) = s := ⟨_, rfl⟩
  rw [numL_at hs] at h
  have key : ∀ {p : Nat × Nat}, (Except.error p : Except (Nat × Nat) (Nat × Int)) = .error (k, e) → p.2 ≠ 0 → e ≠ 0 := fun h1 h2 => by
    injection h1 with h1; rw [h1] at h2; exact h2
  by_cases a1 : bat l s = 48
  · rw [if_pos a1] at h
    by_cases a2 : s = 1
    · rw [if_pos a2] at h; exact key h (by simp)
    · rw [if_neg a2] at h
      by_cases a3 : innN (bat l 1) = true
      · rw [if_pos a3] at h; exact key h (by simp)
      · rw [if_neg a3] at h; cases h
  · rw [if_neg a1] at h
    split at h
    · exact key h (by simp)
    · split at h
      · exact key h (by simp)
      · cases h
theorem tokL_ne {i a e : Nat} {l : Bs} (h : tokL i l = .error (a, e)) : e ≠ 0 := by
  unfold tokL at h
  simp only at h
  split at h
  · cases h
  · split at h
    · cases h
    · split at h
      · cases hn : numL l with
        | ok p => obtain ⟨k, v⟩ := p; rw [hn] at h; cases h
        | error p =>
          obtain ⟨k, e'⟩ := p
          rw [hn] at h
          injection h with h; injection h with _ h
          rw [← h]; exact numL_ne hn
      · split at h
        · cases h
        · injection h with h; injection h; omega
theorem scanF_ne : ∀ {f i : Nat} {l : Bs} {a e : Nat}, scanF f i l = .error (a, e) → e ≠ 0
  | 0, _, _, _, _, h => by cases h
  | f + 1, i, l, a, e, h => by
    have h : (if l = [] then .ok [] else if bat l 0 = 32 then scanF f (i + 1) (l.drop 1) else match tokL i l with | .error e => .error e | .ok (t, k) => aft [t] (scanF f (i + k) (l.drop k))) = Except.error (a, e) := h
    split at h
    · cases h
    · split at h
      · exact scanF_ne h
      · cases ht : tokL i l with
        | error p =>
          rw [ht] at h
          injection h with h
          subst h
          exact tokL_ne ht
        | ok p =>
          obtain ⟨t, k⟩ := p
          rw [ht] at h
          simp only at h
          cases hq : scanF f (i + k) (l.drop k) with
          | ok r => rw [hq] at h; cases h
          | error p =>
            rw [hq] at h
            have h : Except.error p = Except.error (a, e) := h
            injection h with h
            subst h
            exact scanF_ne hq
/-- A token without its place. -/
def bareT (t : Tok) : Tok := (t.1, 0, t.2.2)
theorem bare_sh (d : Nat) (l : List Tok) : (l.map (shT d)).map bareT = l.map bareT := by
  rw [List.map_map]; rfl
end Sg
end

section
namespace Sg
open Go
theorem itoa_hd (n : Int) : Lib.itoa n ≠ [] ∧ bat (Lib.itoa n) 0 ≠ 10 ∧ bat (Lib.itoa n) 0 ≠ 32 ∧ lowN (bat (Lib.itoa n) 0) = false ∧ (digN (bat (Lib.itoa n) 0) = true ∨ (bat (Lib.itoa n) 0 = 45 ∧ digN (bat (Lib.itoa n) 1) = true)) := by
  have key : ∀ u : Nat, digN (bat (Lib.decDigits u) 0) = true := fun u => by
    have hl : 0 < (Lib.decDigits u).length := List.length_pos_iff.2 (dd_ne u)
    rw [bat_get hl]; exact dd_dig u _ (List.getElem_mem hl)
  unfold Lib.itoa
  by_cases hn : n < 0
  · rw [if_pos hn]
    refine ⟨by simp, ?_, ?_, ?_, .inr ⟨?_, ?_⟩⟩
    · rw [bat_zero]; decide
    · rw [bat_zero]; decide
    · rw [bat_zero]; decide
    · rw [bat_zero]; decide
    · rw [show (1 : Nat) = 0 + 1 from rfl, bat_cons]; exact key _
  · rw [if_neg hn]
    have hk := key n.toNat
    have hk2 := hk
    unfold digN at hk2
    have hk2 := of_decide_eq_true hk2
    exact ⟨dd_ne _, by omega, by omega, decide_eq_false (by omega), .inl hk⟩
def gapL (fr : Bool) : Bs := if fr then [] else [32]
/-- Tokens as a text; at the beginning of a line or not. -/
def prF : Bool → List Tok → Bs
  | _, [] => []
  | fr, t :: r =>
    if t.1 = 1 ∨ t.1 = 3 then gapL fr ++ (sb t.2.2.1 ++ prF false r)
    else if t.1 = 2 then gapL fr ++ (Lib.itoa t.2.2.2 ++ prF false r)
    else if t.1 = 4 then 10 :: prF true r
    else prF fr r
/-- Tokens as a scan gives them. -/
def WT (t : Tok) : Prop :=
  (t.1 = 1 ∧ t.2.2.2 = 0 ∧ sb t.2.2.1 ≠ [] ∧ lowN (bat (sb t.2.2.1) 0) = true ∧ ∀ c ∈ sb t.2.2.1, innN c.toNat = true) ∨
  (t.1 = 2 ∧ -9223372036854775808 ≤ t.2.2.2 ∧ t.2.2.2 ≤ 9223372036854775807 ∧ sb t.2.2.1 = Lib.itoa t.2.2.2) ∨
  (t.1 = 3 ∧ t.2.2.2 = 0 ∧ ∃ c, sb t.2.2.1 = [c] ∧ markN c.toNat = true) ∨
  (t.1 = 4 ∧ t.2.2.2 = 0 ∧ sb t.2.2.1 = [10])
theorem WT.range {t : Tok} (h : WT t) : -9223372036854775808 ≤ t.2.2.2 ∧ t.2.2.2 ≤ 9223372036854775807 := by
  rcases h with ⟨_, h, _⟩ | ⟨_, h1, h2, _⟩ | ⟨_, h, _⟩ | ⟨_, h, _⟩
  · rw [h]; omega
  · exact ⟨h1, h2⟩
  · rw [h]; omega
  · rw [h]; omega
/-- What comes behind a token in a text of tokens. -/
theorem prF_clear : ∀ {ts : List Tok}, (∀ t ∈ ts, WT t) → Clear (prF false ts)
  | [], _ => Clear.nil
  | t :: r, h => by
    have ht := h t (List.mem_cons_self ..)
    unfold prF
    rcases ht with ⟨h1, _⟩ | ⟨h1, _⟩ | ⟨h1, _⟩ | ⟨h1, _⟩
    · rw [if_pos (.inl h1)]; exact Clear.of (c := 32) (by decide)
    · rw [if_neg (by omega), if_pos h1]; exact Clear.of (c := 32) (by decide)
    · rw [if_pos (.inr h1)]; exact Clear.of (c := 32) (by decide)
    · rw [if_neg (by omega), if_neg (by omega), if_pos h1]; exact Clear.of (c := 10) (by decide)
/-- A token, printed, in front of what does not go on with it. -/
theorem tokL_pr {i : Nat} {t : Tok} {r : Bs} (h : WT t) (hr : Clear r) : sb t.2.2.1 ++ r ≠ [] ∧ bat (sb t.2.2.1 ++ r) 0 ≠ 32 ∧ tokL i (sb t.2.2.1 ++ r) = .ok ((t.1, (i : Int), t.2.2), (sb t.2.2.1).length) := by
  obtain ⟨kd, pl, tx, nv⟩ := t
  obtain ⟨l, rfl⟩ : ∃ l, tx = bs l := ⟨sb tx, (bs_sb tx).symm⟩
  simp only [sb_bs]
  rcases h with ⟨h1, h2, h3, h4, h5⟩ | ⟨h1, h2, h3, h4⟩ | ⟨h1, h2, c, h3, h4⟩ | ⟨h1, h2, h3⟩
  · simp only [sb_bs] at h1 h2 h3 h4 h5
    subst h1; subst h2
    have hl : 0 < l.length := by cases l <;> simp at *
    have hb : bat (l ++ r) 0 = bat l 0 := bat_app hl
    have h6 := h4
    unfold lowN at h6
    have h6 := of_decide_eq_true h6
    refine ⟨by simp [h3], by omega, ?_⟩
    have hrun : run innN (l ++ r) = l.length := run_app h5 (.inl hr)
    unfold tokL
    simp only [hb]
    rw [if_neg (by omega), if_pos h4, hrun, List.take_left]
  · simp only [sb_bs] at h1 h2 h3 h4
    subst h1; subst h4
    obtain ⟨k0, k1, k2, k3, k4⟩ : Lib.itoa nv ≠ [] ∧ bat (Lib.itoa nv) 0 ≠ 10 ∧ bat (Lib.itoa nv) 0 ≠ 32 ∧ lowN (bat (Lib.itoa nv) 0) = false ∧ (digN (bat (Lib.itoa nv) 0) = true ∨ (bat (Lib.itoa nv) 0 = 45 ∧ digN (bat (Lib.itoa nv) 1) = true)) := itoa_hd nv
    have hl : 0 < (Lib.itoa nv).length := List.length_pos_iff.2 k0
    have hb : bat (Lib.itoa nv ++ r) 0 = bat (Lib.itoa nv) 0 := bat_app hl
    have hn := numL_itoa h2 h3 hr
    refine ⟨by simp [k0], by rw [hb]; exact k2, ?_⟩
    unfold tokL
    simp only [hb]
    have hc : (digN (bat (Lib.itoa nv) 0) || (decide (bat (Lib.itoa nv) 0 = 45) && digN (bat (Lib.itoa nv ++ r) 1))) = true := by
      rcases k4 with e | e
      · rw [e]; rfl
      · have hl2 : 1 < (Lib.itoa nv).length := by
          refine Nat.lt_of_not_le fun h9 => ?_
          rw [bat_out h9] at e
          have := e.2
          cases this
        rw [bat_app hl2, e.2, decide_eq_true e.1]; simp
    rw [if_neg k1, k3, if_neg (by simp), if_pos hc, hn]
    simp only [List.take_left]
  · simp only [sb_bs] at h1 h2 h3
    subst h1; subst h2; subst h3
    have hm := h4
    unfold markN at hm
    have hm := of_decide_eq_true hm
    have hb : bat ([c] ++ r) 0 = c.toNat := rfl
    have hl : lowN c.toNat = false := decide_eq_false (by omega)
    have hd : digN c.toNat = false := decide_eq_false (by omega)
    have h45 : decide (c.toNat = 45) = false := decide_eq_false (by omega)
    refine ⟨by simp, by rw [hb]; omega, ?_⟩
    unfold tokL
    simp only [hb]
    rw [if_neg (by omega), hl, hd, h45, if_neg (by simp), if_neg (by simp), if_pos h4]
    rfl
  · simp only [sb_bs] at h1 h2 h3
    subst h1; subst h2; subst h3
    exact ⟨by simp, by rw [show bat ([10] ++ r) 0 = 10 from rfl]; omega, rfl⟩
theorem prF_scan : ∀ {ts : List Tok} (fr : Bool) (i : Nat), (∀ t ∈ ts, WT t) → ∃ us, scanX i (prF fr ts) = .ok us ∧ us.map bareT = ts.map bareT
  | [], _, _, _ => ⟨[], rfl, rfl⟩
  | t :: r, fr, i, h => by
    have ht := h t (List.mem_cons_self ..)
    have hr : ∀ u ∈ r, WT u := fun u hu => h u (List.mem_cons_of_mem _ hu)
    have step : ∀ {rest : Bs} {fr2 : Bool} (i : Nat), rest = prF fr2 r → tokL i (sb t.2.2.1 ++ rest) = .ok ((t.1, (i : Int), t.2.2), (sb t.2.2.1).length) → sb t.2.2.1 ++ rest ≠ [] → bat (sb t.2.2.1 ++ rest) 0 ≠ 32 →
        ∃ us, scanX i (sb t.2.2.1 ++ rest) = .ok us ∧ us.map bareT = (t :: r).map bareT := fun {rest fr2} i he htk hne h32 => by
      obtain ⟨us, h1, h2⟩ := prF_scan (ts := r) fr2 (i + (sb t.2.2.1).length) hr
      refine ⟨[(t.1, (i : Int), t.2.2)] ++ us, ?_, ?_⟩
      · rw [scanX_tok hne h32 htk, List.drop_left, he, h1]; rfl
      · rw [List.map_append, h2]; rfl
    have front : ∀ {txt : Bs}, txt = sb t.2.2.1 → (∃ us, scanX i (gapL fr ++ (txt ++ prF false r)) = .ok us ∧ us.map bareT = (t :: r).map bareT) := fun {txt} he => by
      subst he
      cases fr with
      | true =>
        obtain ⟨k1, k2, k3⟩ := tokL_pr (i := i) ht (prF_clear hr)
        exact step i rfl k3 k1 k2
      | false =>
        obtain ⟨k1, k2, k3⟩ := tokL_pr (i := i + 1) ht (prF_clear hr)
        obtain ⟨us, h1, h2⟩ := step (i + 1) rfl k3 k1 k2
        refine ⟨us, ?_, h2⟩
        rw [scanX_blank (by simp [gapL]) rfl]
        exact h1
    unfold prF
    rcases id ht with ⟨h1, _⟩ | ⟨h1, _, _, h4⟩ | ⟨h1, _⟩ | ⟨h1, h2, h3⟩
    · rw [if_pos (.inl h1)]; exact front rfl
    · rw [if_neg (by omega), if_pos h1]; exact front h4.symm
    · rw [if_pos (.inr h1)]; exact front rfl
    · rw [if_neg (by omega), if_neg (by omega), if_pos h1]
      have := step (rest := prF true r) (fr2 := true) i rfl (by
        rw [h3]
        obtain ⟨kd, pl, tx, nv⟩ := t
        simp only at h1 h2 h3
        subst h1; subst h2
        rw [show tx = bs [10] by rw [← h3, bs_sb]]
        rfl) (by rw [h3]; simp) (by rw [h3]; show (10 : Nat) ≠ 32; omega)
      rw [h3] at this
      exact this
end Sg
end

section
namespace Sg
open Go
def tkW (s : ByteArray) : Tok := (1, 0, s, 0)
def tkN (z : Int) : Tok := (2, 0, bs (Lib.itoa z), z)
def tkM (c : UInt8) : Tok := (3, 0, mk1 c, 0)
def tkL : Tok := (4, 0, ⟨#[10]⟩, 0)
def in64 (z : Int) : Prop := -9223372036854775808 ≤ z ∧ z ≤ 9223372036854775807
def isW (s : ByteArray) : Prop := sb s ≠ [] ∧ lowN (bat (sb s) 0) = true ∧ ∀ c ∈ sb s, innN c.toNat = true
theorem prF_W (s : ByteArray) (r : List Tok) : prF false (tkW s :: r) = 32 :: (sb s ++ prF false r) := rfl
theorem prF_M (c : UInt8) (r : List Tok) : prF false (tkM c :: r) = 32 :: c :: prF false r := rfl
theorem prF_N (z : Int) (r : List Tok) : prF false (tkN z :: r) = 32 :: (Lib.itoa z ++ prF false r) := rfl
theorem prF_L (r : List Tok) : prF false (tkL :: r) = 10 :: prF true r := rfl
theorem prF_Wt (s : ByteArray) (r : List Tok) : prF true (tkW s :: r) = sb s ++ prF false r := rfl
theorem wt_W {s : ByteArray} (h : isW s) : WT (tkW s) := .inl ⟨rfl, rfl, h.1, h.2.1, h.2.2⟩
theorem wt_N {z : Int} (h : in64 z) : WT (tkN z) := .inr (.inl ⟨rfl, h.1, h.2, sb_bs _⟩)
theorem wt_M {c : UInt8} (h : markN c.toNat = true) : WT (tkM c) := .inr (.inr (.inl ⟨rfl, rfl, c, rfl, h⟩))
theorem wt_L : WT tkL := .inr (.inr (.inr ⟨rfl, rfl, rfl⟩))
theorem sW (s : ByteArray) (r : List Tok) (k : Int) (x : ByteArray) : seesB (tkW s :: r) k x = (decide (1 = k) && (decide (x = ⟨#[]⟩) || decide (s = x))) := rfl
theorem sM (c : UInt8) (r : List Tok) (k : Int) (x : ByteArray) : seesB (tkM c :: r) k x = (decide (3 = k) && (decide (x = ⟨#[]⟩) || decide (mk1 c = x))) := rfl
theorem sN (z : Int) (r : List Tok) (k : Int) (x : ByteArray) : seesB (tkN z :: r) k x = (decide (2 = k) && (decide (x = ⟨#[]⟩) || decide (bs (Lib.itoa z) = x))) := rfl
theorem sN_no (z : Int) (r : List Tok) : seesB (tkN z :: r) 2 no = true := by rw [sN]; show (true && (decide ((⟨#[]⟩ : ByteArray) = ⟨#[]⟩) || _)) = true; rw [decide_eq_true rfl]; rfl
theorem sW_no (s : ByteArray) (r : List Tok) : seesB (tkW s :: r) 1 no = true := by rw [sW]; show (true && (decide ((⟨#[]⟩ : ByteArray) = ⟨#[]⟩) || _)) = true; rw [decide_eq_true rfl]; rfl
theorem sM_eq (c : UInt8) (r : List Tok) : seesB (tkM c :: r) 3 (mk1 c) = true := by rw [sM, decide_eq_true (p := mk1 c = mk1 c) rfl, decide_eq_true (p := (3 : Int) = 3) rfl]; simp
theorem kind_no {t : Tok} {r : List Tok} {k : Int} {x : ByteArray} (h : t.1 ≠ k) : seesB (t :: r) k x = false := by
  unfold seesB; simp only; rw [decide_eq_false h]; rfl
theorem ext_bare {b : Bool} : ∀ {us ts : List Tok}, us.map bareT = ts.map bareT → Ext b us ts
  | [], [], _ => .nil
  | [], _ :: _, h => by cases h
  | _ :: _, [], h => by cases h
  | u :: us, t :: ts, h => by
    rw [List.map_cons, List.map_cons] at h
    injection h with h1 h2
    have hk : u.1 = t.1 := congrArg (fun x => x.1) h1
    have hx : u.2.2 = t.2.2 := congrArg (fun x => x.2.2) h1
    by_cases h4 : t.1 = 4
    · exact .line (hk.trans h4) h4 (ext_bare h2)
    · exact .tok hk hx h4 (ext_bare h2)
end Sg
end
