/-
  Slices of structs (or arrays) of plain fields: an element is told by its cells.
-/
import Derived.Test.YtbnllchicnmkiaaGreatDoorStructs
namespace Sg
open Go Go.RowKit

def Rc {α : Type} (f : α → List Value) : Rd α := fun _ _ es x => es = f x
theorem monRc {α : Type} (f : α → List Value) : Mon (Rc f) := fun _ _ _ _ _ _ _ _ _ _ h => h
/-- A row of the call's own that reads as l. -/
def OwnF {α : Type} (size : Nat) (f : α → List Value) (w : World) (base : Nat) (e : TypeId) (v : Value) (l : List α) : Prop := w.ownsRow base e size v l.length (l.flatMap f)
section
variable {α : Type} {size : Nat} {f : α → List Value} {A : Nat → Prop} {F : Nat → Prop} {w w' : World} {v : Value} {l : List α} {base : Nat} {e : TypeId}
theorem fm_len (hf : ∀ x, (f x).length = size) : ∀ l : List α, (l.flatMap f).length = l.length * size
  | [] => by simp
  | x :: r => by rw [List.flatMap_cons, List.length_append, fm_len hf r, hf, List.length_cons, Nat.succ_mul]; omega
theorem fm_at (hf : ∀ x, (f x).length = size) : ∀ {l : List α} {j i : Nat} (hj : j < l.length), i < size → (l.flatMap f)[j * size + i]? = (f l[j])[i]?
  | [], j, i, hj, _ => absurd hj (by simp)
  | x :: r, 0, i, _, hi => by
    rw [List.flatMap_cons, Nat.zero_mul, Nat.zero_add, List.getElem?_append_left (by rw [hf]; exact hi)]; rfl
  | x :: r, j + 1, i, hj, hi => by
    have e1 : (j + 1) * size + i = (f x).length + (j * size + i) := by rw [hf, Nat.succ_mul]; omega
    rw [List.flatMap_cons, e1, List.getElem?_append_right (by omega), Nat.add_sub_cancel_left, fm_at hf (by simpa using hj) hi]
    rfl
theorem fm_push (l : List α) (x : α) : l.flatMap f ++ f x = (l ++ [x]).flatMap f := by simp
theorem OwnF.nil : OwnF size f w base e (.slice none 0 0) ([] : List α) := World.ownsRow_nil _ _ _ _
theorem OwnF.len (h : OwnF size f w base e v l) : ∃ a c, v = .slice a l.length c := by
  rcases h.2 with ⟨rfl, h0⟩ | ⟨g, cap, cur, rfl, _⟩
  · exact ⟨none, 0, by rw [h0]⟩
  · exact ⟨_, _, rfl⟩
theorem OwnF.lt (h : OwnF size f w base e v l) {k : Nat} (hk : slBlk v k) : base ≤ k ∧ k < w.heap.size := own_lt h hk
theorem OwnF.ty (h : OwnF size f w base e v l) {k : Nat} (hk : slBlk v k) : ∃ cs, w.heap[k]? = some (.cells cs e (0, 0)) := by
  rcases h.2 with ⟨rfl, _⟩ | ⟨g, cap, cur, rfl, _, hg, _⟩
  · exact hk.elim
  · have : k = g := hk
    subst this
    exact ⟨_, hg⟩
theorem OwnF.ch (h : OwnF size f w base e v l) (c : Ch F w w') (hF : ∀ k, slBlk v k → ¬ F k) : OwnF size f w' base e v l := own_ch h c hF
theorem OwnF.ch0 (h : OwnF size f w base e v l) (c : Ch0 w w') : OwnF size f w' base e v l := own_ch h c (fun _ _ => id)
theorem OwnF.lower {b2 : Nat} (h : OwnF size f w base e v l) (hb : b2 ≤ base) : OwnF size f w b2 e v l := by
  refine ⟨h.1, ?_⟩
  rcases h.2 with h | ⟨g, cap, cur, rfl, h1, rest⟩
  · exact .inl h
  · exact .inr ⟨g, cap, cur, rfl, by omega, rest⟩
theorem OwnF.form (hf : ∀ x, (f x).length = size) (h : OwnF size f w base e v l) (h0 : l ≠ []) : ∃ g cap cur, v = .slice (some ⟨g, 0, none⟩) l.length cap ∧ base ≤ g ∧ w.heap[g]? = some (.cells cur e (0, 0)) ∧ l.length ≤ cap ∧ cap ≤ maxLen ∧ cur.size = cap * size ∧
    ∀ j (hj : j < l.length) i, i < size → cur[j * size + i]? = (f l[j])[i]? := by
  rcases h.2 with ⟨_, h1⟩ | ⟨g, cap, cur, rfl, hb, hg, hc, hm, hs, ht⟩
  · exact absurd (List.eq_nil_of_length_eq_zero h1) h0
  · refine ⟨g, cap, cur, rfl, hb, hg, hc, hm, hs, fun j hj i hi => ?_⟩
    rw [← fm_at hf hj hi, ← ht, List.getElem?_take, if_pos]
    · simp
    · have : (j + 1) * size ≤ l.length * size := Nat.mul_le_mul_right _ hj
      rw [Nat.succ_mul] at this
      omega
theorem OwnF.rsl (hf : ∀ x, (f x).length = size) (h : OwnF size f w base e v l) (hA : ∀ k, slBlk v k → A k) : RSl size (Rc f) A w v l := by
  rcases h.2 with ⟨rfl, h0⟩ | ⟨g, cap, cur, rfl, _, hg, hc, _, hs, ht⟩
  · exact .inl ⟨List.eq_nil_of_length_eq_zero h0, _, _, rfl⟩
  · refine .inr ⟨g, 0, cap, cur, e, (0, 0), rfl, hc, hg, hA g rfl, fun j hj => ⟨f l[j], hf _, fun i hi => ?_, rfl⟩⟩
    rw [← fm_at hf hj hi, ← ht, List.getElem?_take, if_pos]
    · simp
    · have : (j + 1) * size ≤ l.length * size := Nat.mul_le_mul_right _ hj
      rw [Nat.succ_mul] at this
      omega
theorem OwnF.put (hf : ∀ x, (f x).length = size) {a : Option Addr} {c i : Nat} (h : OwnF size f w base e (.slice a l.length c) l) (hi : i < l.length) : ∃ g cur, a = some ⟨g, 0, none⟩ ∧ w.heap[g]? = some (.cells cur e (0, 0)) ∧ i * size + size ≤ cur.size ∧
    (∀ r, r < size → cur[i * size + r]? = (f l[i])[r]?) ∧ ∀ w' x, St w w' g (.cells (blit cur (i * size) (f x)) e (0, 0)) → OwnF size f w' base e (.slice a l.length c) (l.set i x) := by
  rcases h.2 with ⟨hv, h0⟩ | ⟨g, cap, cur, hv, hb, hg, hc, hm, hs, ht⟩
  · omega
  · simp only [Value.slice.injEq, true_and] at hv
    obtain ⟨rfl, rfl⟩ := hv
    have hic : i * size + size ≤ cur.size := by
      have h1 : (i + 1) * size ≤ c * size := Nat.mul_le_mul_right _ (by omega)
      rw [Nat.succ_mul] at h1
      omega
    have hcell : ∀ q r (hq : q < l.length), r < size → cur[q * size + r]? = (f l[q])[r]? := fun q r hq hr => by
      have h1 : (q + 1) * size ≤ l.length * size := Nat.mul_le_mul_right _ hq
      rw [Nat.succ_mul] at h1
      rw [← fm_at hf hq hr, ← ht, List.getElem?_take, if_pos (by omega)]
      simp
    refine ⟨g, cur, rfl, hg, hic, fun r hr => hcell i r hi hr, fun w' x st => ⟨by rw [fm_len hf], .inr ⟨g, c, _, by simp, hb, st.at_, by simpa using hc, hm, ?_, ?_⟩⟩⟩
    · unfold blit
      simp only [List.size_toArray, List.length_append, List.length_take, List.length_drop, Array.length_toList, hf]
      omega
    · rw [List.length_set]
      refine List.ext_getElem? fun j => ?_
      have hls : (l.set i x).length = l.length := List.length_set
      by_cases hj : j < l.length * size
      · have hsz : 0 < size := Nat.pos_of_ne_zero fun e => by rw [e] at hj; omega
        have hq : j / size < l.length := (Nat.div_lt_iff_lt_mul hsz).2 hj
        have hr : j % size < size := Nat.mod_lt _ hsz
        have ej : j = j / size * size + j % size := by rw [Nat.mul_comm]; exact (Nat.div_add_mod j size).symm
        generalize j / size = q at *
        generalize j % size = r at *
        subst ej
        rw [List.getElem?_take, if_pos hj, fm_at hf (by rw [hls]; exact hq) hr, List.getElem_set]
        unfold blit
        simp only []
        have ho : (cur.toList.take (i * size)).length = i * size := by rw [List.length_take, Array.length_toList]; omega
        rcases Nat.lt_trichotomy q i with h | h | h
        · have h1 : (q + 1) * size ≤ i * size := Nat.mul_le_mul_right _ h
          rw [Nat.succ_mul] at h1
          rw [if_neg (by omega), List.getElem?_append_left (by rw [List.length_append, ho]; omega), List.getElem?_append_left (by rw [ho]; omega), List.getElem?_take, if_pos (by omega), ← hcell q r hq hr]
          simp
        · subst h
          rw [if_pos rfl, List.getElem?_append_left (by rw [List.length_append, ho, hf]; omega), List.getElem?_append_right (by rw [ho]; omega), ho, Nat.add_sub_cancel_left]
        · have h1 : (i + 1) * size ≤ q * size := Nat.mul_le_mul_right _ h
          rw [Nat.succ_mul] at h1
          rw [if_neg (by omega), List.getElem?_append_right (by rw [List.length_append, ho, hf]; omega), List.length_append, ho, hf, List.getElem?_drop, show i * size + size + (q * size + r - (i * size + size)) = q * size + r by omega, ← hcell q r hq hr]
          simp
      · rw [List.getElem?_eq_none (by rw [List.length_take]; omega), List.getElem?_eq_none (by rw [fm_len hf, hls]; omega)]
theorem RSl.get {a : Option Addr} {m c : Nat} (h : RSl size (Rc f) A w (.slice a m c) l) {k : Nat} (hk : k < l.length) :
    ∃ b o cs T fr, a = some ⟨b, o, none⟩ ∧ w.heap[b]? = some (.cells cs T fr) ∧ (f l[k]).length = size ∧ A b ∧ ∀ i, i < size → cs[o + (k : Int).toNat * size + i]? = (f l[k])[i]? := by
  rcases h with ⟨rfl, _⟩ | ⟨b, o, cap, cs, T, fr, hv, _, h2, hb, h3⟩
  · simp at hk
  · simp only [Value.slice.injEq] at hv
    obtain ⟨es, e1, e2, e3⟩ := h3 k hk
    have e3 : es = f l[k] := e3
    subst e3
    exact ⟨b, o, cs, T, fr, hv.1, h2, e1, hb, e2⟩
theorem RSl.cap {α : Type} {size : Nat} {R : Rd α} {A : Nat → Prop} {w : World} {a : Option Addr} {c : Nat} {l : List α} (h : RSl size R A w (.slice a l.length c) l) : l.length ≤ c := by
  rcases h with ⟨rfl, _⟩ | ⟨b, o, cap, cs, T, fr, hv, hc, _⟩
  · exact Nat.zero_le _
  · simp only [Value.slice.injEq] at hv
    omega
theorem RSl.take {R : Rd α} {a : Option Addr} {c k : Nat} (h : RSl size R A w (.slice a l.length c) l) (hk : k ≤ l.length) : RSl size R A w (.slice a k c) (l.take k) := by
  rcases h with ⟨rfl, _⟩ | ⟨b, o, cap, cs, T, fr, hv, hc, h2, hb, h3⟩
  · have : k = 0 := by simpa using hk
    subst this
    exact .inl ⟨rfl, _, _, rfl⟩
  · simp only [Value.slice.injEq] at hv
    obtain ⟨rfl, _, rfl⟩ := hv
    have hl : (l.take k).length = k := by rw [List.length_take]; omega
    refine .inr ⟨b, o, c, cs, T, fr, by rw [hl], by rw [hl]; omega, h2, hb, fun j hj => ?_⟩
    obtain ⟨es, e1, e2, e3⟩ := h3 j (by rw [hl] at hj; omega)
    exact ⟨es, e1, e2, by rw [List.getElem_take]; exact e3⟩
theorem RSl.cells (hs : 0 < size) (hf : ∀ x, (f x).length = size) {a : Addr} {c : Nat} (h : RSl size (Rc f) A w (.slice (some a) l.length c) l) : ∀ j u, (l.flatMap f)[j]? = some u → w.cell? (a.add j) = some u := by
  intro j u hu
  have hlt : j < (l.flatMap f).length := (List.getElem?_eq_some_iff.1 hu).1
  rw [fm_len hf] at hlt
  have hq : j / size < l.length := (Nat.div_lt_iff_lt_mul hs).2 hlt
  have hr : j % size < size := Nat.mod_lt _ hs
  have e : j = j / size * size + j % size := by rw [Nat.mul_comm]; exact (Nat.div_add_mod j size).symm
  obtain ⟨b, o, cs, T, fr, ha, h2, _, _, h3⟩ := h.get hq
  simp only [Option.some.injEq] at ha
  subst ha
  rw [e, fm_at hf hq hr] at hu
  rw [add_none']
  have := h3 (j % size) hr
  rw [Int.toNat_natCast] at this
  unfold World.cell?
  simp only [h2]
  rw [show o + j = o + j / size * size + j % size by rw [Nat.add_assoc, ← e], this, hu]
  rfl
end

section
variable {P : Program} {n : Sz} {Q : Post} {σ : Env} {w : World} {ops : Array Oper} {rest : List Oper}
variable {d : Nat} {t xt yt : TypeId} {pos : String} {af : Array Edge} {v : Value} {x y : Operand} {b o : Nat} {cs : Array Value} {T : TypeId} {fr : Nat × Nat}
theorem run_append_nilslice {base m size c : Nat} {ty e : TypeId} {i : TypeInfo} {vs : Value} {xs : List Value} (hs : P.underlying xt = some (.slice e)) (hi : P.info? e = some i) (hsz : i.size = size) (hown : w.ownsRow base e size vs m xs) :
    (Builtin.append_ #[xt, xt] ty #[vs, .slice none 0 c]).run P w = .ok vs w := by
  subst hsz
  rcases hown.2 with ⟨rfl, rfl⟩ | ⟨g, cap, cur, rfl, _, _, hnc, _⟩
  · simp [Builtin.append_, run_underlying hs, Go.sizeOf, typeInfo, hi, Builtin.lenOf, Builtin.firstCells]
  · simp [Builtin.append_, run_underlying hs, Go.sizeOf, typeInfo, hi, Builtin.lenOf, Builtin.firstCells, hnc, storeCells]
/-- append(s, x..) of two such rows. -/
theorem WL.appendF {α : Type} {f : α → List Value} {A : Nat → Prop} {l l' : List α} {s : Operand} {ty : TypeId} {e : TypeId} {size bytes base : Nat} {z vs vx : Value} (hs : P.underlying xt = some (.slice e)) (he : Elem P e size z bytes) (hz : z.cells.size = size) (h0 : 0 < size)
    (hf : ∀ x, (f x).length = size) (hone : ∀ x, ∀ u ∈ f x, u.oneCell' = true) (h1 : ev σ s = vs) (h2 : ev σ x = vx) (hown : OwnF size f w base e vs l) (hx : RSl size (Rc f) A w vx l')
    (g1 : l.length + l'.length ≤ maxLen) (g2 : (l.length + l'.length) * bytes ≤ 140737488355328) (g3 : base ≤ w.heap.size) (hn : Nat.blt d n.sz = true)
    (h : ∀ v' w', OwnF size f w' base e v' (l ++ l') → Ch (slBlk vs) w w' → WL P n ops Q rest (up σ d v') w') :
    WL P n ops Q (⟨some d, .call ⟨.builtin .append, #[s, x], #[xt, xt]⟩, ty, pos, af, none⟩ :: rest) σ w := by
  obtain ⟨a, c, rfl⟩ := hx.len
  cases a with
  | none =>
    have hl : l' = [] := by
      rcases hx with ⟨h, _⟩ | ⟨b, o, cap, cs, T, fr, hv, _⟩
      · exact h
      · cases hv
    subst hl
    obtain ⟨i, hi, hi1, _⟩ := he
    have hr := run_append_nilslice (P := P) (w := w) (ty := ty) (c := c) hs hi hi1 hown
    refine WL.step (w' := w) rfl rfl hn ?_ (h vs w (by rw [List.append_nil]; exact hown) (Ch.refl _ _))
    simp [execOp, resolve, invoke, builtin, h1, h2]
    exact hr ▸ rfl
  | some a =>
    refine WL.appendA hs he hz h0 h1 h2 hown (RSl.cells h0 hf hx) (fm_len hf _) (fun u hu => ?_) g1 g2 g3 hn fun v' w' ho hc _ => h v' w' ?_ hc
    · obtain ⟨y, _, hy⟩ := List.mem_flatMap.1 hu
      exact hone y u hy
    · unfold OwnF
      rw [List.length_append, List.flatMap_append]
      exact ho
theorem rsl_one {α : Type} {f : α → List Value} {A : Nat → Prop} {size g : Nat} {x : α} (hf : ∀ x, (f x).length = size) (h : w.heap[g]? = some (.cells cs T fr)) (hc : cs = (f x).toArray) (hA : A g) : RSl size (Rc f) A w (.slice (some ⟨g, 0, none⟩) 1 1) [x] := by
  subst hc
  refine .inr ⟨g, 0, 1, _, _, _, rfl, Nat.le_refl _, h, hA, fun j hj => ?_⟩
  have : j = 0 := by simpa using hj
  subst this
  exact ⟨f x, hf x, fun i hi => by simp, rfl⟩
theorem own_one {α : Type} {f : α → List Value} {size g base : Nat} {x : α} (hf : ∀ x, (f x).length = size) (h : w.heap[g]? = some (.cells cs T (0, 0))) (hc : cs = (f x).toArray) (hb : base ≤ g) : OwnF size f w base T (.slice (some ⟨g, 0, none⟩) 1 1) [x] := by
  subst hc
  exact ⟨by simp [hf], .inr ⟨g, 1, _, rfl, hb, h, Nat.le_refl _, by unfold maxLen; omega, by simp [hf], by simp [hf, List.take_of_length_le]⟩⟩
theorem X.neqA2 {e yt : TypeId} {a b c d : Int} {z : Value} {bytes : Nat} (hs : P.underlying xt = some (.array 2 e)) (he : P.underlying e = some (.int .i64)) (hel : Elem P e 1 z bytes) (hg : P.eqGuardType P.depth xt = false)
    (hx : ev σ x = .agg #[.int .i64 a, .int .i64 b]) (hy : ev σ y = .agg #[.int .i64 c, .int .i64 d]) : X P σ w (.binOp .neq xt x y yt) t (.bool (decide (¬ (a = c ∧ b = d)))) := fun _ _ _ _ => by
  obtain ⟨i, hi, h1, _⟩ := hel
  have hgd := run_eqGuard_agg (P := P) w .neq xt x y #[.int .i64 a, .int .i64 b] #[.int .i64 c, .int .i64 d] hg
  have hb : (binOp .neq xt (.agg #[.int .i64 a, .int .i64 b]) (.agg #[.int .i64 c, .int .i64 d])).run P w = .ok (.bool (decide (¬ (a = c ∧ b = d)))) w := by
    rw [run_neq_struct (P := P), run_arr2_equalIn 9998 hs he hi h1]
    simp
  simp only [execOp, hx, hy, Sem.run_bind, hgd, Result.andThen_ok, hb, Sem.run_pure]
end

/-! ### Structs of which some fields are wider than a cell: those that are written are not -/
def putAll2 (pl : List (Option Nat)) (z : List Value) : List (Nat × Value) → List Value
  | [] => z
  | (i, v) :: r => putAll2 pl (z.set ((pl.getD i none).getD 0) v) r
def okParts2 (pl : List (Option Nat)) (m : Nat) : List (Nat × Value) → Bool
  | [] => true
  | (i, v) :: r => v.oneCell' && (pl.getD i none).isSome && Nat.blt ((pl.getD i none).getD 0) m && okParts2 pl m r
theorem fill_parts2 {place : Nat → Option (Nat × Nat)} {pl : List (Option Nat)} (hp : ∀ i, (pl.getD i none).isSome = true → place i = some ((pl.getD i none).getD 0, 1)) : ∀ (ps : List (Nat × Value)) (z : List Value),
    okParts2 pl z.length ps = true → Instr.fill place z.toArray ps = some (putAll2 pl z ps).toArray
  | [], _, _ => rfl
  | (i, v) :: r, z, h => by
    simp only [okParts2, Bool.and_eq_true] at h
    obtain ⟨⟨⟨h1, h2⟩, h3⟩, h4⟩ := h
    have h3' : (pl.getD i none).getD 0 < z.length := Nat.le_of_ble_eq_true h3
    have ih := fill_parts2 hp r (z.set ((pl.getD i none).getD 0) v) (by simpa using h4)
    have hc := cells_of_one h1
    show Instr.fill place z.toArray ((i, v) :: r) = some (putAll2 pl (z.set ((pl.getD i none).getD 0) v) r).toArray
    unfold Instr.fill
    rw [hp i h2]
    generalize (pl.getD i none).getD 0 = o at *
    simp only [hc]
    have e : ((#[v].zipIdx.foldl (fun cs (x : Value × Nat) => cs.setIfInBounds (o + x.2) x.1) z.toArray)) = (z.set o v).toArray := by
      simp [Array.zipIdx]
    simp only [List.size_toArray, List.length_cons, List.length_nil]
    rw [if_neg (by simp; omega)]
    rw [e]
    exact ih
def Bld2 (P : Program) (t : TypeId) (pl : List (Option Nat)) (z : List Value) : Prop :=
  ∃ i fs, P.info? t = some i ∧ i.zero = some (.agg z.toArray) ∧ P.underlying t = some (.struct fs) ∧ (∀ f ∈ fs.toList, (P.info? f.type).isSome = true) ∧
    ∀ j, (pl.getD j none).isSome = true → (fs.toList[j]?).map (fun f => (f.offset, (P.info? f.type).map (·.size))) = some ((pl.getD j none).getD 0, some 1)
theorem allAt3 {P : Program} {fs : List Field} {pl : List (Option Nat)} (h : (List.range pl.length).all (fun j => !(pl.getD j none).isSome || decide ((fs[j]?).map (fun f => (f.offset, (P.info? f.type).map (·.size))) = some ((pl.getD j none).getD 0, some 1))) = true) :
    ∀ j, (pl.getD j none).isSome = true → (fs[j]?).map (fun f => (f.offset, (P.info? f.type).map (·.size))) = some ((pl.getD j none).getD 0, some 1) := by
  intro j hj
  have hl : j < pl.length := by
    rcases Nat.lt_or_ge j pl.length with h | h
    · exact h
    · rw [List.getD_eq_getElem?_getD, List.getElem?_eq_none h] at hj; cases hj
  have := List.all_eq_true.1 h j (List.mem_range.2 hl)
  rw [hj] at this
  simpa using this
section
variable {P : Program} {σ : Env} {w : World} {t xt : TypeId}
theorem run_build2 {pl : List (Option Nat)} {z : List Value} {ps : List (Nat × Value)} (hb : Bld2 P t pl z) (hok : okParts2 pl z.length ps = true) :
    (Instr.build t ps.toArray).run P w = .ok (.agg (putAll2 pl z ps).toArray) w := by
  obtain ⟨i, fs, hi, hz, hu, hall, hpl⟩ := hb
  have hm : (fs.mapM (m := Sem) fun f => do pure (f.offset, ← Go.sizeOf f.type)).run P w = .ok (fs.toList.map fun f => (f.offset, ((P.info? f.type).map (·.size)).getD 0)).toArray w := by
    rw [Array.mapM_eq_mapM_toList]
    simp only [Sem.run_map, run_mapFields fs.toList hall, Result.andThen_ok]
  have hf := fill_parts2 (place := fun j => (fs.toList.map fun f => (f.offset, ((P.info? f.type).map (·.size)).getD 0)).toArray[j]?) (pl := pl) (fun j hj => by
    have := hpl j hj
    cases hq : fs.toList[j]? with
    | none => rw [hq] at this; simp at this
    | some f =>
      rw [hq] at this
      simp only [Option.map_some, Option.some.injEq, Prod.mk.injEq] at this
      simp [hq, this.1, this.2]) ps z hok
  unfold Instr.build
  simp only [Sem.run_bind, zeroValue, typeInfo, run_program, Result.andThen_ok, hi, Sem.run_pure, hz, run_underlying hu, hm]
  simp only [Value.cells]
  rw [hf]
  rfl
theorem X.build2 {parts : List (Nat × Operand)} {ps : List (Nat × Value)} {pl : List (Option Nat)} {z rs : List Value} (hb : Bld2 P xt pl z) (hps : parts.map (fun p => (p.1, ev σ p.2)) = ps) (hok : okParts2 pl z.length ps = true)
    (hc : putAll2 pl z ps = rs) : X P σ w (.build xt parts.toArray) t (.agg rs.toArray) := fun _ _ _ _ => by
  subst hc
  have := run_build2 (w := w) hb hok
  simp only [execOp]
  have e : (parts.toArray.map fun x => (x.1, ev σ x.2)) = ps.toArray := by rw [← hps]; simp
  simp [e, this]
end
end Sg
