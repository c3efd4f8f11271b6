/-
  What came in, opened: slices of structs, of whatever depth.
-/
import Derived.Test.YtbnllchicnmkiaaDoorReads
import Derived.Test.YtbnllchicnmkiaaDoorFrame
namespace Sg
open Go Go.RowKit Go.ChangeShapes Go.WideShapes

/-- What stands at the type reads so, whatever came in. -/
def Opn {α : Type} (P : Program) (W : World) (t : TypeId) (R : Rd α) : Prop :=
  ∀ (H : Type) (enc : TypeId × Value → H) (fuel : Nat) (cs : List Value) (x : DataW H × List MemPlace), DataW.trod enc P W 0 (fun _ => true) true fuel t cs = some x → (x.1.weights P t).all (· ≤ reachBytes) = true → ∃ y, R all W cs y

theorem weightsAll_mem {H : Type} {P : Program} {e : TypeId} {p : Nat → Bool} : ∀ {ds : List (DataW H)}, (DataW.weightsAll P e ds).all p = true → ∀ d ∈ ds, (d.weights P e).all p = true
  | [], _, d, h => by cases h
  | x :: r, h, d, hd => by
    simp only [DataW.weightsAll, List.all_append, Bool.and_eq_true] at h
    rcases List.mem_cons.1 hd with rfl | hd
    · exact h.1
    · exact weightsAll_mem h.2 d hd
theorem weightsEach_at {H : Type} {P : Program} {p : Nat → Bool} : ∀ {ts : List TypeId} {ds : List (DataW H)}, (DataW.weightsEach P ts ds).all p = true → ∀ (i : Nat) (t : TypeId) (d : DataW H), ts[i]? = some t → ds[i]? = some d → (d.weights P t).all p = true
  | [], _, _, i, t, d, ht, _ => by simp at ht
  | _ :: _, [], _, i, t, d, _, hd => by simp at hd
  | t0 :: ts, d0 :: ds, h, i, t, d, ht, hd => by
    simp only [DataW.weightsEach, List.all_append, Bool.and_eq_true] at h
    cases i with
    | zero =>
      simp only [List.getElem?_cons_zero, Option.some.injEq] at ht hd
      subst ht; subst hd; exact h.1
    | succ i =>
      simp only [List.getElem?_cons_succ] at ht hd
      exact weightsEach_at h.2 i t d ht hd
theorem weights_struct {H : Type} {P : Program} {t : TypeId} {fs : Array Field} {ds : List (DataW H)} {p : Nat → Bool} (ht : P.underlying t = some (.struct fs)) (h : ((DataW.agg ds).weights P t).all p = true) (i : Nat) (f : Field) (d : DataW H)
    (hf : fs[i]? = some f) (hd : ds[i]? = some d) : (d.weights P f.type).all p = true := by
  simp only [DataW.weights, ht] at h
  exact weightsEach_at h i f.type d (by rw [List.getElem?_map, Array.getElem?_toList, hf]; rfl) hd
theorem weights_slice {H : Type} {P : Program} {t e : TypeId} {ds sp : List (DataW H)} (ht : P.underlying t = some (.slice e)) (h : ((DataW.slice ds sp).weights P t).all (· ≤ reachBytes) = true) :
    ds.length * P.bytesOf e ≤ 140737488355328 ∧ ∀ d ∈ ds, (d.weights P e).all (· ≤ reachBytes) = true := by
  simp only [DataW.weights, ht, List.all_cons, List.all_append, Bool.and_eq_true, decide_eq_true_eq] at h
  refine ⟨?_, weightsAll_mem h.2.1⟩
  have h1 := h.1
  rw [Nat.add_mul] at h1
  unfold reachBytes at h1
  omega

theorem add_none {b o k : Nat} : (⟨b, o, none⟩ : Addr).add k = ⟨b, o + k, none⟩ := by unfold Addr.add; split <;> simp_all
theorem add_zero {a : Addr} : a.add 0 = a := rfl
theorem open_rsl {α : Type} {R : Rd α} {H : Type} {enc : TypeId × Value → H} {P : Program} {w : World} {t e : TypeId} {size b fuel : Nat} {cs : List Value} {x : DataW H × List MemPlace} (ht : P.underlying t = some (.slice e)) (hc : P.cellsOf e = size) (h0 : 0 < size)
    (hb : P.bytesOf e = b) (hel : Opn P w e R) (h : DataW.trod enc P w 0 (fun _ => true) true fuel t cs = some x) (hw : (x.1.weights P t).all (· ≤ reachBytes) = true) :
    ∃ v l, cs = [v] ∧ RSl size R all w v l ∧ l.length * b ≤ 140737488355328 := by
  subst hb
  rcases DataW.trod_slice ht h with ⟨rfl, rfl⟩ | ⟨a, len, cap, elems, rest, n, _, rfl, rfl, _, hl, hm, hlen, hels, _, _⟩
  · exact ⟨_, [], rfl, .inl ⟨rfl, _, _, rfl⟩, by simp⟩
  · obtain ⟨hw1, hw2⟩ := weights_slice ht hw
    rw [List.length_map, hlen] at hw1
    rw [hc] at hels
    have hj : ∀ j : Fin len, ∃ (es : List Value) (y : α), es.length = size ∧ (∀ i, i < size → w.cell? ((a.add (j.1 * size)).add i) = es[i]?) ∧ R all w es y := by
      intro j
      have h1 := hels j.1 j.2
      rw [List.getElem?_eq_getElem (by rw [hlen]; exact j.2), Option.bind_eq_some_iff] at h1
      obtain ⟨es, he1, he2⟩ := h1
      obtain ⟨_, hl1, hl2⟩ := World.cells?_some he1
      obtain ⟨y, hy⟩ := hel H enc n es _ he2 (hw2 _ (List.mem_map.2 ⟨_, List.getElem_mem _, rfl⟩))
      exact ⟨es, y, hl1, fun i hi => hl2 i hi, hy⟩
    by_cases hz : len = 0
    · subst hz
      exact ⟨_, [], rfl, .inl ⟨rfl, _, _, rfl⟩, by simp⟩
    · obtain ⟨es0, y0, e1, e2, _⟩ := hj ⟨0, by omega⟩
      have hc0 := e2 0 h0
      rw [List.getElem?_eq_getElem (by rw [e1]; exact h0)] at hc0
      simp only [Nat.zero_mul, add_zero] at hc0
      have hsp : a.spot = none := World.cell?_spot hc0
      obtain ⟨ab, ao, as⟩ := a
      dsimp only at hsp
      subst hsp
      obtain ⟨b', o', cs', T, fr, ha, hb', _⟩ := block_of_cell hc0
      simp only [Addr.mk.injEq, and_true] at ha
      obtain ⟨rfl, -⟩ := ha
      simp only [add_none] at hj
      let y : Fin len → α := fun j => (hj j).choose_spec.choose
      refine ⟨_, List.ofFn y, rfl, ?_, by rw [List.length_ofFn]; exact hw1⟩
      refine .inr ⟨ab, ao, cap, cs', T, fr, by rw [List.length_ofFn], by rw [List.length_ofFn]; exact hl, hb', trivial, fun j hjl => ?_⟩
      rw [List.length_ofFn] at hjl
      have h2 := (hj ⟨j, hjl⟩).choose_spec.choose_spec
      refine ⟨_, h2.1, fun i hi => ?_, ?_⟩
      · have h3 := h2.2.1 i hi
        rw [← h3]
        unfold World.cell?
        simp only [hb']
        simp
      · rw [List.getElem_ofFn]
        exact h2.2.2
theorem open_slA {H : Type} {enc : TypeId × Value → H} {P : Program} {w : World} {t e : TypeId} {k : IntKind} {b fuel : Nat} {cs : List Value} {x : DataW H × List MemPlace} (ht : P.underlying t = some (.slice e)) (he : P.underlying e = some (.int k)) (hc : P.cellsOf e = 1)
    (hb : P.bytesOf e = b) (h : DataW.trod enc P w 0 (fun _ => true) true fuel t cs = some x) (hw : (x.1.weights P t).all (· ≤ reachBytes) = true) :
    ∃ (v : Value) (l : List Int), cs = [v] ∧ SlA all w v (l.map (Value.int k)) ∧ l.length * b ≤ 140737488355328 := by
  subst hb
  have h' := h
  rcases DataW.trod_slice ht h with ⟨rfl, rfl⟩ | ⟨a, len, cap, elems, rest, n, _, rfl, rfl, _, hl, hm, hlen, hels, _, _⟩
  · exact ⟨_, [], rfl, ⟨.inl ⟨rfl, _, _, rfl⟩, fun _ _ => trivial⟩, by simp⟩
  · obtain ⟨hw1, _⟩ := weights_slice ht hw
    rw [List.length_map, hlen] at hw1
    obtain ⟨l, e1, hs, _, _⟩ := open_sl (a0 := some a) (len := len) (cap := cap) ht he hc ⟨fuel, h'⟩
    refine ⟨_, l, rfl, ⟨?_, fun _ _ => trivial⟩, by rw [← e1]; exact hw1⟩
    rw [e1]; exact hs
theorem open_slW {H : Type} {enc : TypeId × Value → H} {P : Program} {w : World} {t e : TypeId} {k : IntKind} {b fuel : Nat} {cs : List Value} {x : DataW H × List MemPlace} (ht : P.underlying t = some (.slice e)) (he : P.underlying e = some (.int k)) (hc : P.cellsOf e = 1)
    (hb : P.bytesOf e = b) (h : DataW.trod enc P w 0 (fun _ => true) true fuel t cs = some x) (hw : (x.1.weights P t).all (· ≤ reachBytes) = true) :
    ∃ (v : Value) (l : List Int), cs = [v] ∧ SlA all w v (l.map (Value.int k)) ∧ l.length * b ≤ 140737488355328 ∧ ∀ n ∈ l, (Lit.int k n).wf = true := by
  subst hb
  have h' := h
  rcases DataW.trod_slice ht h with ⟨rfl, rfl⟩ | ⟨a, len, cap, elems, rest, n, _, rfl, rfl, _, hl, hm, hlen, hels, _, _⟩
  · exact ⟨_, [], rfl, ⟨.inl ⟨rfl, _, _, rfl⟩, fun _ _ => trivial⟩, by simp, fun _ hn => by cases hn⟩
  · obtain ⟨hw1, _⟩ := weights_slice ht hw
    rw [List.length_map, hlen] at hw1
    obtain ⟨l, e1, hs, _, hz⟩ := open_sl (a0 := some a) (len := len) (cap := cap) ht he hc ⟨fuel, h'⟩
    refine ⟨_, l, rfl, ⟨?_, fun _ _ => trivial⟩, by rw [← e1]; exact hw1, hz⟩
    rw [e1]; exact hs
/-- An argument that is a slice of structs. -/
theorem open_arg {α : Type} {R : Rd α} {H : Type} {enc : TypeId × Value → H} {P : Program} {w : World} {t e : TypeId} {size b m cap : Nat} {a : Option Addr} {d : DataW H} {p : List MemPlace} (ht : P.underlying t = some (.slice e)) (hc : P.cellsOf e = size) (h0 : 0 < size)
    (hb : P.bytesOf e = b) (hel : Opn P w e R) (h : DataW.Trod enc P w 0 (fun _ => true) true t (.slice a m cap) d p) (hw : (d.weights P t).all (· ≤ reachBytes) = true) :
    ∃ l : List α, m = l.length ∧ RSl size R all w (.slice a l.length cap) l ∧ l.length * b ≤ 140737488355328 := by
  obtain ⟨fuel, h⟩ := h
  obtain ⟨v, l, h1, h2, h3⟩ := open_rsl ht hc h0 hb hel h hw
  have hv : v = .slice a m cap := by simpa [Value.cells] using h1.symm
  subst hv
  obtain ⟨a', c', e'⟩ := h2.len
  simp only [Value.slice.injEq] at e'
  obtain ⟨-, rfl, -⟩ := e'
  exact ⟨l, rfl, h2, h3⟩
/-- An argument that is a struct. -/
theorem open_structArg {α : Type} {R : Rd α} {H : Type} {enc : TypeId × Value → H} {P : Program} {w : World} {t : TypeId} {cs : Array Value} {d : DataW H} {p : List MemPlace} (hel : Opn P w t R) (h : DataW.Trod enc P w 0 (fun _ => true) true t (.agg cs) d p)
    (hw : (d.weights P t).all (· ≤ reachBytes) = true) : ∃ (es : List Value) (y : α), cs = es.toArray ∧ R all w es y := by
  obtain ⟨fuel, h⟩ := h
  obtain ⟨y, hy⟩ := hel H enc fuel _ _ h hw
  exact ⟨cs.toList, y, rfl, hy⟩
end Sg
