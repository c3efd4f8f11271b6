/-
  Memory: what an operation makes of the blocks of the heap, over any program.
-/
import Derived.Test.YtfnhhgoefanloaaDoorOps
import Derived.Below
namespace Sg
open Go Go.RowKit

/-- Of the blocks that there were only those of F may have changed. -/
structure Ch (F : Nat → Prop) (w w' : World) : Prop where
  os : w'.os = w.os
  tape : w'.tape = w.tape
  output : w'.output = w.output
  size : w.heap.size ≤ w'.heap.size
  blk : ∀ k, k < w.heap.size → ¬ F k → w'.heap[k]? = w.heap[k]?
abbrev Ch0 (w w' : World) : Prop := Ch (fun _ => False) w w'

theorem lt_of_blk {w : World} {k : Nat} {o : Obj} (h : w.heap[k]? = some o) : k < w.heap.size := (Array.getElem?_eq_some_iff.1 h).1
theorem Ch.refl (F : Nat → Prop) (w : World) : Ch F w w := ⟨rfl, rfl, rfl, Nat.le_refl _, fun _ _ _ => rfl⟩
theorem Ch.at {F : Nat → Prop} {w w' : World} (c : Ch F w w') {k : Nat} {o : Obj} (h : w.heap[k]? = some o) (hn : ¬ F k) : w'.heap[k]? = some o := (c.blk k (lt_of_blk h) hn).trans h
theorem Ch.at0 {w w' : World} (c : Ch0 w w') {k : Nat} {o : Obj} (h : w.heap[k]? = some o) : w'.heap[k]? = some o := c.at h id
theorem Ch.trans {F G H : Nat → Prop} {a b c : World} (h : Ch F a b) (k : Ch G b c) (hF : ∀ i, i < a.heap.size → F i → H i) (hG : ∀ i, i < a.heap.size → G i → H i) : Ch H a c :=
  ⟨k.os.trans h.os, k.tape.trans h.tape, k.output.trans h.output, Nat.le_trans h.size k.size,
   fun i hi hn => (k.blk i (Nat.lt_of_lt_of_le hi h.size) (fun g => hn (hG i hi g))).trans (h.blk i hi (fun g => hn (hF i hi g)))⟩
theorem Ch.trans0 {a b c : World} (h : Ch0 a b) (k : Ch0 b c) : Ch0 a c := h.trans k (fun _ _ => id) (fun _ _ => id)
theorem Ch.mono {F G : Nat → Prop} {w w' : World} (h : Ch F w w') (hF : ∀ i, i < w.heap.size → F i → G i) : Ch G w w' := ⟨h.os, h.tape, h.output, h.size, fun k hk hn => h.blk k hk (fun g => hn (hF k hk g))⟩
theorem Ch.weak {F : Nat → Prop} {w w' : World} (h : Ch0 w w') : Ch F w w' := h.mono (fun _ _ => False.elim)
theorem Ch.below {w w' : World} (h : Ch0 w w') : Below w.heap.size w w' := ⟨h.os, h.tape, h.output, h.size, fun k hk => h.blk k hk id⟩
theorem Ch.of_below {w w' : World} (h : Below w.heap.size w w') : Ch0 w w' := ⟨h.os, h.tape, h.output, h.size, fun k hk _ => h.block k hk⟩
theorem Ch.drew (w : World) (m : Nat) : Ch0 w (w.drewN m) := ⟨rfl, rfl, rfl, Nat.le_refl _, fun _ _ _ => rfl⟩

/-- Block b holds o now; nothing else has changed. -/
structure St (w w' : World) (b : Nat) (o : Obj) : Prop where
  at_ : w'.heap[b]? = some o
  ch : Ch (fun k => k = b) w w'
  size : w'.heap.size = w.heap.size
/-- One block more. -/
structure Nw (w w' : World) (o : Obj) : Prop where
  at_ : w'.heap[w.heap.size]? = some o
  ch : Ch0 w w'
  size : w'.heap.size = w.heap.size + 1

theorem nw_alloc (w : World) (o : Obj) : Nw w (w.alloc o) o :=
  ⟨heap_alloc_new w o, ⟨rfl, rfl, rfl, by simp, fun k hk _ => Below.heap_alloc w o k hk⟩, by simp⟩
theorem st_setCell {w : World} {b i : Nat} {cs : Array Value} {T : TypeId} {fr : Nat × Nat} (h : w.heap[b]? = some (.cells cs T fr)) (v : Value) :
    St w (w.setCell ⟨b, i, none⟩ v) b (.cells (cs.setIfInBounds i v) T fr) :=
  ⟨by simp [World.setCell, Array.getElem?_modify, h], ⟨rfl, rfl, rfl, by simp, fun k _ hn => Below.heap_setCell w _ v k (by simpa using hn)⟩, by simp⟩

theorem cell_of {w : World} {b i : Nat} {cs : Array Value} {T : TypeId} {fr : Nat × Nat} {v : Value} (h : w.heap[b]? = some (.cells cs T fr)) (hc : cs[i]? = some v) : w.cell? ⟨b, i, none⟩ = some v := by
  simp [World.cell?, h, hc]
theorem frozen_of {w : World} {b i : Nat} {cs : Array Value} {T : TypeId} (h : w.heap[b]? = some (.cells cs T (0, 0))) : w.frozen? ⟨b, i, none⟩ = false := by
  simp [World.frozen?, h]

/-! ### Facts on types, one a type -/
def Elem (P : Program) (e : TypeId) (size : Nat) (z : Value) (bytes : Nat) : Prop := ∃ i, P.info? e = some i ∧ i.size = size ∧ i.zero = some z ∧ i.bytes = bytes
def Plain (P : Program) (t : TypeId) : Prop := ∃ d, P.underlying t = some d ∧ (match d with | .struct _ | .array _ _ => False | _ => True)
def Aggr (P : Program) (t : TypeId) (k : Nat) : Prop := (∃ d, P.underlying t = some d ∧ (match d with | .struct _ | .array _ _ => True | _ => False)) ∧ ∃ i, P.info? t = some i ∧ i.size = k
def Fld (P : Program) (s f off : Nat) : Prop := ∃ fs fd i, P.underlying s = some (.struct fs) ∧ fs[f]? = some fd ∧ fd.offset = off ∧ P.info? fd.type = some i ∧ i.size ≠ 0

section
variable {P : Program} {n : Sz} {Q : Post} {σ : Env} {w : World} {ops : Array Oper} {rest : List Oper}
variable {d : Nat} {t xt : TypeId} {pos : String} {af : Array Edge} {v : Value} {x y : Operand} {b o : Nat} {cs : Array Value} {T : TypeId} {fr : Nat × Nat}

theorem run_isAgg_plain (h : Plain P t) : (isAgg t).run P w = .ok false w := by
  obtain ⟨d, hd, hp⟩ := h
  cases d <;> simp_all [isAgg, run_underlying hd]
theorem run_isAgg_aggr {k : Nat} (h : Aggr P t k) : (isAgg t).run P w = .ok true w := by
  obtain ⟨⟨d, hd, hp⟩, _⟩ := h
  cases d <;> simp_all [isAgg, run_underlying hd]

/-! ### Addresses -/
theorem run_fieldAt {s f off : Nat} (hf : Fld P s f off) : (Instr.fieldAt s (.pointer (some ⟨b, o, none⟩)) f).run P w = .ok (.pointer (some ⟨b, o + off, none⟩)) w := by
  obtain ⟨fs, fd, i, h1, h2, rfl, h4, h5⟩ := hf
  simp [Instr.fieldAt, run_underlying h1, h2, Instr.sureAddr, fieldPlace, Go.sizeOf, typeInfo, h4, h5, Addr.add]
  try (split <;> simp_all)
theorem X.fieldAddr {s f off : Nat} (hf : Fld P s f off) (hx : ev σ x = .pointer (some ⟨b, o, none⟩)) : X P σ w (.fieldAddr s x f) t (.pointer (some ⟨b, o + off, none⟩)) := fun _ _ _ _ => by
  simp [execOp, hx, run_fieldAt hf]
theorem X.indexAddr {e : TypeId} {size bytes len cap : Nat} {z : Value} {k : IntKind} {p : Int} (hs : P.underlying xt = some (.slice e)) (he : Elem P e size z bytes) (hx : ev σ x = .slice (some ⟨b, o, none⟩) len cap)
    (hy : ev σ y = .int k p) (h0 : 0 ≤ p) (h1 : p < len) : X P σ w (.indexAddr xt x y) t (.pointer (some ⟨b, o + p.toNat * size, none⟩)) := fun _ _ _ _ => by
  obtain ⟨i, hi, rfl, _⟩ := he
  simp [execOp, hx, hy, Instr.indexAt, asIntOf, run_underlying hs, Go.sizeOf, typeInfo, hi, h0, h1, Addr.add]
/-! ### Reading -/
theorem X.load (ht : Plain P xt) (hx : ev σ x = .pointer (some ⟨b, o, none⟩)) (hm : w.heap[b]? = some (.cells cs T fr)) (hc : cs[o]? = some v) : X P σ w (.load xt x) t v := fun _ _ _ _ => by
  simp [execOp, hx, Instr.loadAt, Instr.sureAddr, loadVar, run_isAgg_plain ht, cell_of hm hc]
theorem X.loadS {k : Nat} {vs : List Value} (ht : Aggr P xt k) (hx : ev σ x = .pointer (some ⟨b, o, none⟩)) (hm : w.heap[b]? = some (.cells cs T fr)) (hl : vs.length = k) (hc : ∀ j, j < k → cs[o + j]? = vs[j]?) :
    X P σ w (.load xt x) t (.agg vs.toArray) := fun _ _ _ _ => by
  have hcells : (loadCells ⟨b, o, none⟩ k).run P w = .ok vs.toArray w := by
    subst hl
    refine run_loadCells_list (P := P) w ⟨b, o, none⟩ vs ?_
    intro j u hu
    have hj : j < vs.length := (List.getElem?_eq_some_iff.1 hu).1
    have hadd : (⟨b, o, none⟩ : Addr).add j = ⟨b, o + j, none⟩ := by unfold Addr.add; split <;> simp_all
    rw [hadd]
    exact cell_of hm ((hc j hj).trans hu)
  have hag := run_isAgg_aggr (w := w) ht
  obtain ⟨_, i, hi, rfl⟩ := ht
  simp [execOp, hx, Instr.loadAt, Instr.sureAddr, loadVar, hag, Go.sizeOf, typeInfo, hi, hcells]

/-! ### Writing -/
theorem WL.store {bytes : Nat} {z : Value} (he : Elem P xt 1 z bytes) (hx : ev σ x = .pointer (some ⟨b, o, none⟩)) (hy : ev σ y = v) (h1 : v.oneCell' = true) (hm : w.heap[b]? = some (.cells cs T (0, 0)))
    (hc : o < cs.size) (h : ∀ w', St w w' b (.cells (cs.setIfInBounds o v) T (0, 0)) → WL P n ops Q rest σ w') : WL P n ops Q (⟨none, .store xt x y, t, pos, af, none⟩ :: rest) σ w := by
  obtain ⟨i, hi, hi1, _⟩ := he
  have hcell : w.cell? ⟨b, o, none⟩ = some cs[o] := cell_of hm (Array.getElem?_eq_getElem hc)
  refine WL.skp (w' := w.setCell ⟨b, o, none⟩ v) rfl rfl ?_ (h _ (st_setCell hm v))
  have hcells : v.cells = #[v] := by cases v <;> first | rfl | (simp [Value.oneCell'] at h1)
  have hadd : (⟨b, o, none⟩ : Addr).add 0 = ⟨b, o, none⟩ := rfl
  have hst := run_store P w ⟨b, o, none⟩ v .plain h1
  simp [execOp, hx, hy, Instr.storeAt, Instr.sureAddr, storeVar, hcells, Go.sizeOf, typeInfo, hi, hi1, storeCells, hadd, hst, hcell, frozen_of hm]

/-! ### Making -/
theorem WL.box (hx : ev σ x = .agg cs) (hn : Nat.blt d n.sz = true)
    (h : ∀ w', Nw w w' (.cells cs xt) → WL P n ops Q rest (up σ d (.pointer (some ⟨w.heap.size, 0, none⟩))) w') : WL P n ops Q (⟨some d, .box xt x, t, pos, af, none⟩ :: rest) σ w := by
  refine WL.step (w' := w.alloc (.cells cs xt)) rfl rfl hn ?_ (h _ (nw_alloc w _))
  simp [execOp, hx, Instr.box, newVar, newRow, Value.cells]
theorem WL.box1 (hx : ev σ x = v) (h1 : v.oneCell' = true) (hn : Nat.blt d n.sz = true)
    (h : ∀ w', Nw w w' (.cells #[v] xt) → WL P n ops Q rest (up σ d (.pointer (some ⟨w.heap.size, 0, none⟩))) w') : WL P n ops Q (⟨some d, .box xt x, t, pos, af, none⟩ :: rest) σ w := by
  refine WL.step (w' := w.alloc (.cells #[v] xt)) rfl rfl hn ?_ (h _ (nw_alloc w _))
  have hcells : v.cells = #[v] := by cases v <;> first | rfl | (simp [Value.oneCell'] at h1)
  simp [execOp, hx, Instr.box, newVar, newRow, hcells]
theorem WL.alloc {size bytes : Nat} {z : Value} (he : Elem P xt size z bytes) (hn : Nat.blt d n.sz = true)
    (h : ∀ w', Nw w w' (.cells z.cells xt) → WL P n ops Q rest (up σ d (.pointer (some ⟨w.heap.size, 0, none⟩))) w') : WL P n ops Q (⟨some d, .alloc xt, t, pos, af, none⟩ :: rest) σ w := by
  obtain ⟨i, hi, _, hz, _⟩ := he
  refine WL.step (w' := w.alloc (.cells z.cells xt)) rfl rfl hn ?_ (h _ (nw_alloc w _))
  simp [execOp, Instr.alloc, zeroValue, typeInfo, hi, hz, newVar, newRow]
theorem madeCells_one (z : Value) (m : Nat) : madeCells #[z] m = Array.replicate m z := by
  apply Array.ext
  · simp [madeCells]
  · intro i h1 h2
    simp only [size_madeCells] at h1
    simp [madeCells, Nat.mod_one]
theorem WL.make {e : TypeId} {z : Value} {bytes : Nat} {p : Int} (hs : P.underlying xt = some (.slice e)) (he : Elem P e 1 z bytes) (h1 : z.oneCell' = true) (hx : ev σ x = .int .i64 p) (hy : ev σ y = .int .i64 p)
    (h0 : 0 ≤ p) (hb : p * bytes ≤ 140737488355328) (hp : p ≤ 140737488355328) (hn : Nat.blt d n.sz = true)
    (h : ∀ w', Nw w w' (.cells (Array.replicate p.toNat z) e) → WL P n ops Q rest (up σ d (.slice (some ⟨w.heap.size, 0, none⟩) p.toNat p.toNat)) w') :
    WL P n ops Q (⟨some d, .makeSlice xt x y, t, pos, af, none⟩ :: rest) σ w := by
  obtain ⟨i, hi, hi1, hz, rfl⟩ := he
  refine WL.step (w' := w.alloc (.cells (Array.replicate p.toNat z) e)) rfl rfl hn ?_ (h _ (nw_alloc w _))
  have hcells : z.cells = #[z] := by cases z <;> first | rfl | (simp [Value.oneCell'] at h1)
  have hw : IntKind.i64.wrap p = p := wrap_i64 (by omega) (by omega)
  have hb' : (i.bytes : Int) * p ≤ 281474976710656 := by rw [Int.mul_comm]; omega
  have hrow : (Array.range p.toNat).map (fun _ => z) = Array.replicate p.toNat z := by
    apply Array.ext
    · simp
    · intro i h1 h2; simp
  simp [execOp, hx, hy, Instr.makeSlice, run_underlying hs, asInt, asIntOf, typeInfo, hi, hw, show ¬ p < 0 by omega, show ¬ (281474976710656 < (i.bytes : Int) * p) by omega, Go.sizeOf, hi1, zeroValue, hz, newRow, hcells, Nat.mod_one]
  by_cases hp0 : p ≤ 0
  · have : p = 0 := by omega
    subst this
    have hr0 : (Array.range 0).map (fun _ => (default : Value)) = #[] := by apply Array.ext <;> simp
    simp
    rw [hr0]
  · simp [hp0, hrow]
theorem WL.makeN {e : TypeId} {z : Value} {bytes m : Nat} (hs : P.underlying xt = some (.slice e)) (he : Elem P e 1 z bytes) (h1 : z.oneCell' = true) (hx : ev σ x = .int .i64 (m : Int)) (hy : ev σ y = .int .i64 (m : Int))
    (hb : m * bytes ≤ 140737488355328) (hp : m ≤ 140737488355328) (hn : Nat.blt d n.sz = true)
    (h : ∀ w', Nw w w' (.cells (Array.replicate m z) e) → WL P n ops Q rest (up σ d (.slice (some ⟨w.heap.size, 0, none⟩) m m)) w') :
    WL P n ops Q (⟨some d, .makeSlice xt x y, t, pos, af, none⟩ :: rest) σ w :=
  WL.make hs he h1 hx hy (by omega) (by have : ((m * bytes : Nat) : Int) ≤ 140737488355328 := by omega
                                        rwa [Int.natCast_mul] at this) (by omega) hn (by simpa using h)
end
end Sg
