/-
  A part of the walk of the program.
-/
import Derived.Test.YtaldkbdnefpklaaDoorB
import Derived.Test.YtaldkbdnefpklaaDoorC
set_option linter.unusedVariables false
set_option linter.unusedSimpArgs false
set_option maxRecDepth 100000
namespace Go.Proofs.YtaldkbdnefpklaaDoor
open Go Go.RowKit Sg

abbrev ptrs (bs : List (Nat × Nat)) : List Value := bs.map fun b => .pointer (some ⟨b.1, 0, none⟩)
/-- A set, told by who is in it. -/
def Row1 (w : World) (n : Nat) (b : Nat × Nat) (p : Nat → Bool) : Prop := ∃ ws, IsSet w b.1 b.2 n ws ∧ ∀ j, mem ws j = p j
/-- Sets, all apart. -/
structure Fam (w : World) (base n : Nat) (bs : List (Nat × Nat)) (M : Nat → Nat → Bool) : Prop where
  row : ∀ i (h : i < bs.length), Row1 w n bs[i] (M i)
  ne : (bs.map (·.2)).Nodup
  lo : ∀ b ∈ bs, base ≤ b.1 ∧ base ≤ b.2
theorem Row1.ch {F : Nat → Prop} {w w' : World} {n : Nat} {b : Nat × Nat} {p : Nat → Bool} (h : Row1 w n b p) (c : Ch F w w') (h1 : ¬ F b.1) (h2 : ¬ F b.2) : Row1 w' n b p := by
  obtain ⟨ws, hs, hm⟩ := h
  exact ⟨ws, hs.ch c h1 h2, hm⟩
theorem Row1.clean {w : World} {n : Nat} {b : Nat × Nat} {p : Nat → Bool} (h : Row1 w n b p) {j : Nat} (hj : n ≤ j) : p j = false := by
  obtain ⟨ws, hs, hm⟩ := h
  rw [← hm, hs.clean j hj]
theorem Row1.le {w : World} {n : Nat} {b : Nat × Nat} {p : Nat → Bool} (h : Row1 w n b p) : n ≤ 4096 := by
  obtain ⟨ws, hs, hm⟩ := h; exact hs.le
theorem Row1.lt {w : World} {n : Nat} {b : Nat × Nat} {p : Nat → Bool} (h : Row1 w n b p) : b.1 < w.heap.size ∧ b.2 < w.heap.size := by
  obtain ⟨ws, hs, hm⟩ := h; exact ⟨hs.ltb, hs.ltw⟩
theorem Row1.ty {w : World} {n : Nat} {b : Nat × Nat} {p : Nat → Bool} (h : Row1 w n b p) : (∃ cs, w.heap[b.1]? = some (.cells cs 67 (0, 0))) ∧ ∃ cs, w.heap[b.2]? = some (.cells cs 70 (0, 0)) := by
  obtain ⟨ws, hs, hm⟩ := h; exact ⟨⟨_, hs.hd⟩, ⟨_, hs.wd⟩⟩
/-- Blocks of words, and no others. -/
theorem Row1.ne {w : World} {n m : Nat} {b c : Nat × Nat} {p q : Nat → Bool} (h : Row1 w n b p) (k : Row1 w m c q) : b.1 ≠ c.2 := by
  obtain ⟨cs, h1⟩ := h.ty.1
  obtain ⟨cs', h2⟩ := k.ty.2
  intro e
  rw [e, h2] at h1
  exact absurd (Obj.cells.inj (Option.some.inj h1)).2.1 (by decide)
theorem Fam.ch {F : Nat → Prop} {w w' : World} {base n : Nat} {bs : List (Nat × Nat)} {M : Nat → Nat → Bool} (h : Fam w base n bs M) (c : Ch F w w') (h1 : ∀ b ∈ bs, ¬ F b.1 ∧ ¬ F b.2) : Fam w' base n bs M :=
  ⟨fun i hi => (h.row i hi).ch c (h1 _ (List.getElem_mem hi)).1 (h1 _ (List.getElem_mem hi)).2, h.ne, h.lo⟩
theorem Fam.ch0 {w w' : World} {base n : Nat} {bs : List (Nat × Nat)} {M : Nat → Nat → Bool} (h : Fam w base n bs M) (c : Ch0 w w') : Fam w' base n bs M := h.ch c (fun _ _ => ⟨id, id⟩)
theorem Fam.at {w : World} {base n : Nat} {bs : List (Nat × Nat)} {M : Nat → Nat → Bool} (h : Fam w base n bs M) {b : Nat × Nat} (hb : b ∈ bs) : ∃ p, Row1 w n b p := by
  obtain ⟨i, hi, rfl⟩ := List.mem_iff_getElem.1 hb
  exact ⟨_, h.row i hi⟩
theorem Fam.eq {w : World} {base n : Nat} {bs : List (Nat × Nat)} {M M' : Nat → Nat → Bool} (h : Fam w base n bs M) (e : ∀ i j, i < bs.length → M i j = M' i j) : Fam w base n bs M' :=
  ⟨fun i hi => by
    obtain ⟨ws, hs, hm⟩ := h.row i hi
    exact ⟨ws, hs, fun j => (hm j).trans (e i j hi)⟩, h.ne, h.lo⟩
theorem nodup_at {bs : List (Nat × Nat)} (h : (bs.map (·.2)).Nodup) {i j : Nat} (hi : i < bs.length) (hj : j < bs.length) (hij : i ≠ j) : bs[i].2 ≠ bs[j].2 := by
  intro e
  have h1 := (List.getElem_inj (i := i) (j := j) (h₀ := by simpa using hi) (h₁ := by simpa using hj) h).1 (by simpa using e)
  exact hij h1
/-- One row anew. -/
theorem Fam.put {w w' : World} {base n : Nat} {bs : List (Nat × Nat)} {M : Nat → Nat → Bool} (h : Fam w base n bs M) {i : Nat} (hi : i < bs.length) {p : Nat → Bool} (c : Ch (fun k => k = bs[i].2) w w') (hp : Row1 w' n bs[i] p) :
    Fam w' base n bs (fun x y => if x = i then p y else M x y) := by
  refine ⟨fun x hx => ?_, h.ne, h.lo⟩
  by_cases e : x = i
  · subst e
    have : (fun y => if x = x then p y else M x y) = p := funext fun y => if_pos rfl
    rw [this]; exact hp
  · have : (fun y => if x = i then p y else M x y) = M x := funext fun y => if_neg e
    rw [this]
    exact (h.row x hx).ch c ((h.row x hx).ne (h.row i hi)) (nodup_at h.ne hx hi e)
theorem Fam.push {w : World} {base n : Nat} {bs : List (Nat × Nat)} {M : Nat → Nat → Bool} (h : Fam w base n bs M) {b : Nat × Nat} (hb : Row1 w n b (M bs.length)) (hne : ∀ c ∈ bs, c.2 ≠ b.2) (hlo : base ≤ b.1 ∧ base ≤ b.2) : Fam w base n (bs ++ [b]) M := by
  refine ⟨fun i hi => ?_, ?_, fun c hc => ?_⟩
  · by_cases e : i < bs.length
    · rw [List.getElem_append_left e]; exact h.row i e
    · have : i = bs.length := by simp at hi; omega
      subst this
      rw [List.getElem_append_right (Nat.le_refl _)]; simpa using hb
  · rw [List.map_append, List.nodup_append]
    refine ⟨h.ne, by simp, fun x hx y hy => ?_⟩
    obtain ⟨c, hc, rfl⟩ := List.mem_map.1 hx
    simp at hy
    subst hy
    exact hne c hc
  · rcases List.mem_append.1 hc with hc | hc
    · exact h.lo c hc
    · rw [List.mem_singleton.1 hc]; exact hlo
def inB (bs : List (Nat × Nat)) (k : Nat) : Prop := ∃ b ∈ bs, k = b.2
theorem Fam.lt {w : World} {base n : Nat} {bs : List (Nat × Nat)} {M : Nat → Nat → Bool} (h : Fam w base n bs M) {k : Nat} (hk : inB bs k) : base ≤ k ∧ k < w.heap.size := by
  obtain ⟨b, hb, rfl⟩ := hk
  obtain ⟨p, hp⟩ := h.at hb
  exact ⟨(h.lo b hb).2, hp.lt.2⟩
theorem Fam.ty {w : World} {base n : Nat} {bs : List (Nat × Nat)} {M : Nat → Nat → Bool} (h : Fam w base n bs M) {k : Nat} (hk : inB bs k) : ∃ cs, w.heap[k]? = some (.cells cs 70 (0, 0)) := by
  obtain ⟨b, hb, rfl⟩ := hk
  obtain ⟨p, hp⟩ := h.at hb
  exact hp.ty.2
theorem ptr_at {w : World} {v : Value} {bs : List (Nat × Nat)} (h : Sl w v (ptrs bs)) {k : Nat} (hk : k < bs.length) :
    ∃ b o c cs T fr, v = .slice (some ⟨b, o, none⟩) bs.length c ∧ w.heap[b]? = some (.cells cs T fr) ∧ cs[o + (k : Int).toNat * 1]? = some (.pointer (some ⟨bs[k].1, 0, none⟩)) := by
  obtain ⟨a, c, e⟩ := h.len
  rw [List.length_map] at e
  subst e
  have h' := h
  rw [show bs.length = (ptrs bs).length by simp] at h'
  obtain ⟨b, o, cs, T, fr, rfl, h1, h2⟩ := h'.at (k := k) (by simpa using hk)
  refine ⟨b, o, c, cs, T, fr, rfl, h1, ?_⟩
  rw [show o + (k : Int).toNat * 1 = o + k by omega, h2 k (by simpa using hk), List.getElem?_map, List.getElem?_eq_getElem hk]
  rfl

theorem add_row (base n : Nat) (bs : List (Nat × Nat)) (M : Nat → Nat → Bool) (w : World) (h : Fam w base n bs M) (i : Nat) (hi : i < bs.length) (b : Int) (h0 : 0 ≤ b) (h1 : b < n) : Sg.Ret Tryd.prog 32 #[.pointer (some ⟨bs[i].1, 0, none⟩), .int .i64 b] w fun v w' =>
    v = .int .i64 0 ∧ Fam w' base n bs (fun x y => if x = i then (M i y || decide (y = b.toNat)) else M x y) ∧ Ch (fun k => k = bs[i].2) w w' := by
  obtain ⟨ws, hs, hm⟩ := h.row i hi
  refine Ret.mono (add_in _ _ n ws b w hs h0 h1) fun v w' hh => ⟨hh.1, h.put hi hh.2.1 ⟨_, hh.2.2, fun j => ?_⟩, hh.2.1⟩
  rw [mem_addW _ _ _ (hs.slot (by omega)), hm, Bool.or_comm]
theorem has_row (base n : Nat) (bs : List (Nat × Nat)) (M : Nat → Nat → Bool) (w : World) (h : Fam w base n bs M) (i : Nat) (hi : i < bs.length) (b : Int) : Sg.Ret Tryd.prog 16 #[.pointer (some ⟨bs[i].1, 0, none⟩), .int .i64 b] w fun v w' => v = .bool (decide (0 ≤ b) && M i b.toNat) ∧ Dr w w' := by
  obtain ⟨ws, hs, hm⟩ := h.row i hi
  refine Ret.mono (has_ok _ _ n ws b w hs) fun v w' hh => ⟨hh.1.trans ?_, hh.2⟩
  unfold hasB; rw [hm]
theorem or_row (base n : Nat) (bs : List (Nat × Nat)) (M : Nat → Nat → Bool) (w : World) (h : Fam w base n bs M) (i j : Nat) (hi : i < bs.length) (hj : j < bs.length) : Sg.Ret Tryd.prog 45 #[.pointer (some ⟨bs[i].1, 0, none⟩), .pointer (some ⟨bs[j].1, 0, none⟩)] w fun v w' =>
    (∃ c, v = .tuple #[.bool c, .int .i64 0]) ∧ Fam w' base n bs (fun x y => if x = i then (M i y || M j y) else M x y) ∧ Ch (fun k => k = bs[i].2) w w' := by
  obtain ⟨ws, hs, hm⟩ := h.row i hi
  obtain ⟨vs, hv, hm2⟩ := h.row j hj
  have hal : bs[i].2 ≠ bs[j].2 ∨ (bs[i].2 = bs[j].2 ∧ ws = vs) := by
    by_cases e : i = j
    · subst e
      exact .inr ⟨rfl, words_ext (by rw [hs.len, hv.len]) fun j => by rw [hm, hm2]⟩
    · exact .inl (nodup_at h.ne hi hj e)
  refine Ret.mono (or_any _ _ n ws _ _ vs w hs hv ((h.row j hj).ne (h.row i hi)) hal) fun v w' hh => ?_
  obtain ⟨ws', e1, e2, e3, e4⟩ := hh
  exact ⟨⟨_, e1⟩, h.put hi e4 ⟨_, e2, fun y => by rw [e3, hm, hm2]⟩, e4⟩

theorem list_row (base n : Nat) (bs : List (Nat × Nat)) (M : Nat → Nat → Bool) (w : World) (h : Fam w base n bs M) (i : Nat) (hi : i < bs.length) (htab : Tab w) (hb0 : 0 < w.heap.size) : Sg.Ret Tryd.prog 46 #[.pointer (some ⟨bs[i].1, 0, none⟩)] w fun v w' =>
    w'.ownsRow w.heap.size 3 1 v (elv (M i) n).length (elv (M i) n) ∧ Ch0 w w' := by
  obtain ⟨ws, hs, hm⟩ := h.row i hi
  refine Ret.mono (list_ok _ _ n ws w hs htab hb0) fun v w' hh => ?_
  rw [show M i = mem ws from funext fun j => (hm j).symm]
  exact hh

end Go.Proofs.YtaldkbdnefpklaaDoor
