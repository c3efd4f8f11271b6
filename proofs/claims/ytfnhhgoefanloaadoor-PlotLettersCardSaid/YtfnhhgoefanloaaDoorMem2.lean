/-
  Structs and slices that are built; append; slices of slices; over any program.
-/
import Derived.Test.YtfnhhgoefanloaaDoorMem
import Derived.OwnWalk
namespace Sg
open Go Go.RowKit

theorem pnil {σ : Env} : ([] : List (Nat × Operand)).map (fun p => (p.1, ev σ p.2)) = [] := rfl
theorem pcons {σ : Env} {i : Nat} {x : Operand} {v : Value} {l : List (Nat × Operand)} {l' : List (Nat × Value)} (h : ev σ x = v) (h' : l.map (fun p => (p.1, ev σ p.2)) = l') :
    ((i, x) :: l).map (fun p => (p.1, ev σ p.2)) = (i, v) :: l' := by simp [h, h']

/-- What the parts leave, where each part is one cell and pl tells its place. -/
def putAll (pl : List Nat) (z : List Value) : List (Nat × Value) → List Value
  | [] => z
  | (i, v) :: r => putAll pl (z.set (pl.getD i 0) v) r
def okParts (pl : List Nat) (m : Nat) : List (Nat × Value) → Bool
  | [] => true
  | (i, v) :: r => v.oneCell' && Nat.blt i pl.length && Nat.blt (pl.getD i 0) m && okParts pl m r
theorem cells_of_one {v : Value} (h : v.oneCell' = true) : v.cells = #[v] := by cases v <;> first | rfl | (simp [Value.oneCell'] at h)

theorem fill_parts {place : Nat → Option (Nat × Nat)} {pl : List Nat} (hp : ∀ i, i < pl.length → place i = some (pl.getD i 0, 1)) : ∀ (ps : List (Nat × Value)) (z : List Value),
    okParts pl z.length ps = true → Instr.fill place z.toArray ps = some (putAll pl z ps).toArray
  | [], _, _ => rfl
  | (i, v) :: r, z, h => by
    simp only [okParts, Bool.and_eq_true] at h
    obtain ⟨⟨⟨h1, h2⟩, h3⟩, h4⟩ := h
    have h2' : i < pl.length := Nat.le_of_ble_eq_true h2
    have h3' : pl.getD i 0 < z.length := Nat.le_of_ble_eq_true h3
    have ih := fill_parts hp r (z.set (pl.getD i 0) v) (by simpa using h4)
    have hc := cells_of_one h1
    unfold Instr.fill
    rw [hp i h2']
    simp only [hc]
    have e : ((#[v].zipIdx.foldl (fun cs (x : Value × Nat) => cs.setIfInBounds (pl.getD i 0 + x.2) x.1) z.toArray)) = (z.set (pl.getD i 0) v).toArray := by
      simp [Array.zipIdx]
    simp only [List.size_toArray, List.length_cons, List.length_nil]
    rw [if_neg (by simp only [List.getD_eq_getElem?_getD] at h3' ⊢; simp; omega)]
    rw [show (putAll pl z ((i, v) :: r)) = putAll pl (z.set (pl.getD i 0) v) r from rfl, ← ih]
    congr 1

/-- A struct type, or an array's, all of whose parts are one cell each: their places, and the zero value. -/
def Bld (P : Program) (t : TypeId) (pl : List Nat) (z : List Value) : Prop :=
  ∃ i, P.info? t = some i ∧ i.zero = some (.agg z.toArray) ∧
    ((∃ fs, P.underlying t = some (.struct fs) ∧ (∀ f ∈ fs.toList, (P.info? f.type).isSome = true) ∧ ∀ j, j < pl.length → (fs.toList[j]?).map (fun f => (f.offset, (P.info? f.type).map (·.size))) = some (pl.getD j 0, some 1)) ∨
     (∃ len e ei, P.underlying t = some (.array len e) ∧ P.info? e = some ei ∧ ei.size = 1 ∧ ∀ j, j < pl.length → pl.getD j 0 = j))

theorem allIn {P : Program} {fs : List Field} (h : fs.all (fun f => (P.info? f.type).isSome) = true) : ∀ f ∈ fs, (P.info? f.type).isSome = true := by simpa using h
theorem allAt {P : Program} {fs : List Field} {pl : List Nat} {n : Nat} (h : ((fs.take n).map (fun f => (f.offset, (P.info? f.type).map (·.size))), pl.length) = (pl.map (fun o => (o, some 1)), n)) :
    ∀ j, j < pl.length → (fs[j]?).map (fun f => (f.offset, (P.info? f.type).map (·.size))) = some (pl.getD j 0, some 1) := by
  intro j hj
  obtain ⟨h1, h2⟩ := Prod.mk.inj h
  have := congrArg (fun l => l[j]?) h1
  simp only [List.getElem?_map, List.getElem?_take] at this
  rw [if_pos (by omega)] at this
  rw [this, List.getElem?_eq_getElem hj]
  simp [List.getD_eq_getElem?_getD, List.getElem?_eq_getElem hj]
theorem allAt2 {pl : List Nat} {n : Nat} (h : (pl, pl.length) = (List.range n, n)) : ∀ j, j < pl.length → pl.getD j 0 = j := by
  intro j hj
  obtain ⟨h1, h2⟩ := Prod.mk.inj h
  rw [h1, List.getD_eq_getElem?_getD, List.getElem?_range (by omega)]
  rfl

section
variable {P : Program} {n : Sz} {Q : Post} {σ : Env} {w : World} {ops : Array Oper} {rest : List Oper}
variable {d : Nat} {t xt : TypeId} {pos : String} {af : Array Edge} {v : Value} {x y : Operand} {b o : Nat} {cs : Array Value} {T : TypeId} {fr : Nat × Nat}

theorem run_mapFields (fs : List Field) (h : ∀ f ∈ fs, (P.info? f.type).isSome = true) :
    (fs.mapM (m := Sem) fun f => do pure (f.offset, ← Go.sizeOf f.type)).run P w = .ok (fs.map fun f => (f.offset, ((P.info? f.type).map (·.size)).getD 0)) w := by
  induction fs with
  | nil => rfl
  | cons f fs ih =>
    have hf := h f (List.mem_cons_self ..)
    obtain ⟨i, hi⟩ := Option.isSome_iff_exists.1 hf
    have ih := ih (fun g hg => h g (List.mem_cons_of_mem _ hg))
    simp only [List.mapM_cons, Sem.run_bind, Go.sizeOf, typeInfo, run_program, Result.andThen_ok, hi, Sem.run_pure, List.map_cons, Option.map_some, Option.getD_some]
    simp only [Go.sizeOf, typeInfo] at ih
    rw [ih]
    rfl

theorem run_build {pl : List Nat} {z : List Value} {ps : List (Nat × Value)} (hb : Bld P t pl z) (hok : okParts pl z.length ps = true) :
    (Instr.build t ps.toArray).run P w = .ok (.agg (putAll pl z ps).toArray) w := by
  obtain ⟨i, hi, hz, h⟩ := hb
  rcases h with ⟨fs, hu, hall, hpl⟩ | ⟨len, e, ei, hu, hei, he1, hpl⟩
  · have hm : (fs.mapM (m := Sem) fun f => do pure (f.offset, ← Go.sizeOf f.type)).run P w = .ok (fs.toList.map fun f => (f.offset, ((P.info? f.type).map (·.size)).getD 0)).toArray w := by
      rw [Array.mapM_eq_mapM_toList]
      simp only [Sem.run_map, run_mapFields fs.toList hall, Result.andThen_ok]
    have hf := fill_parts (place := fun j => (fs.toList.map fun f => (f.offset, ((P.info? f.type).map (·.size)).getD 0)).toArray[j]?) (pl := pl) (fun j hj => by
      have := hpl j hj
      cases hq : fs.toList[j]? with
      | none => simp [hq] at this
      | some f =>
        simp only [hq, Option.map_some, Option.some.injEq, Prod.mk.injEq] at this
        simp [hq, this.1, this.2]) ps z hok
    unfold Instr.build
    simp only [Sem.run_bind, zeroValue, typeInfo, run_program, Result.andThen_ok, hi, Sem.run_pure, hz, run_underlying hu, hm]
    simp only [Value.cells]
    rw [hf]
    rfl
  · have hf := fill_parts (place := fun j => some (j * ei.size, ei.size)) (pl := pl) (fun j hj => by rw [hpl j hj, he1, Nat.mul_one]) ps z hok
    unfold Instr.build
    simp only [Sem.run_bind, zeroValue, typeInfo, run_program, Result.andThen_ok, hi, Sem.run_pure, hz, run_underlying hu, Go.sizeOf, hei]
    simp only [Value.cells]
    rw [hf]
    rfl

theorem X.build {parts : List (Nat × Operand)} {ps : List (Nat × Value)} {pl : List Nat} {z rs : List Value} (hb : Bld P xt pl z) (hps : parts.map (fun p => (p.1, ev σ p.2)) = ps) (hok : okParts pl z.length ps = true)
    (hc : putAll pl z ps = rs) : X P σ w (.build xt parts.toArray) t (.agg rs.toArray) := fun _ _ _ _ => by
  subst hc
  have := run_build (w := w) hb hok
  simp only [execOp]
  have e : (parts.toArray.map fun x => (x.1, ev σ x.2)) = ps.toArray := by rw [← hps]; simp
  simp [e, this]

theorem run_bslice {e : TypeId} {len bytes : Nat} {z : Value} {ps : List (Nat × Value)} (hs : P.underlying t = some (.slice e)) (he : Elem P e 1 z bytes) (h1 : z.oneCell' = true) (hlen : len ≤ 16777216) (hpos : 0 < len)
    (hok : okParts (List.range len) len ps = true) :
    (Instr.buildSlice t len ps.toArray).run P w = .ok (.slice (some ⟨w.heap.size, 0, none⟩) len len) (w.alloc (.cells (putAll (List.range len) (List.replicate len z) ps).toArray e)) := by
  obtain ⟨i, hi, hi1, hz, _⟩ := he
  have hc := cells_of_one h1
  have hr : (Array.range len).map (fun _ => z) = (List.replicate len z).toArray := by
    apply Array.ext
    · simp
    · intro i h1 h2; simp
  have hf := fill_parts (place := fun j => some (j * 1, 1)) (pl := List.range len) (fun j hj => by
    simp at hj; simp [List.getD_eq_getElem?_getD, List.getElem?_range hj]) ps (List.replicate len z) (by simpa using hok)
  unfold Instr.buildSlice
  simp only [Sem.run_bind, run_underlying hs, Result.andThen_ok, Go.sizeOf, typeInfo, run_program, hi, Sem.run_pure, hi1, zeroValue]
  rw [if_neg (by omega), if_neg (by omega)]
  simp only [Sem.run_bind, Sem.run_pure, Result.andThen_ok, hc, run_program, hi, hz, Nat.mul_one]
  simp only [List.size_toArray, List.length_cons, List.length_nil]
  have hr' : (Array.range len).map (fun x => (#[z] : Array Value)[x % (0 + 1)]!) = (List.replicate len z).toArray := by
    rw [← hr]; congr 1; funext x; simp [Nat.mod_one]
  rw [hr']
  simp only [Nat.mul_one] at hf
  rw [hf]
  simp [newRow]

theorem WL.bslice {e : TypeId} {len bytes : Nat} {z : Value} {parts : List (Nat × Operand)} {ps : List (Nat × Value)} {rs : List Value} (hs : P.underlying xt = some (.slice e)) (he : Elem P e 1 z bytes) (h1 : z.oneCell' = true)
    (hps : parts.map (fun p => (p.1, ev σ p.2)) = ps) (hok : (Nat.ble len 16777216 && Nat.blt 0 len && okParts (List.range len) len ps) = true) (hc : putAll (List.range len) (List.replicate len z) ps = rs) (hn : Nat.blt d n.sz = true)
    (h : ∀ w', Nw w w' (.cells rs.toArray e) → WL P n ops Q rest (up σ d (.slice (some ⟨w.heap.size, 0, none⟩) len len)) w') :
    WL P n ops Q (⟨some d, .buildSlice xt len parts.toArray, t, pos, af, none⟩ :: rest) σ w := by
  subst hc
  simp only [Bool.and_eq_true] at hok
  have := run_bslice (w := w) hs he h1 (Nat.le_of_ble_eq_true hok.1.1) (Nat.le_of_ble_eq_true hok.1.2) hok.2
  have e' : (parts.toArray.map fun x => (x.1, ev σ x.2)) = ps.toArray := by rw [← hps]; simp
  refine WL.step (w' := w.alloc (.cells (putAll (List.range len) (List.replicate len z) ps).toArray e)) rfl rfl hn ?_ (h _ (nw_alloc w _))
  simp [execOp, e', this]

/-! ### Slices of slices -/
theorem X.slLHM {e : TypeId} {z : Value} {bytes size len cap : Nat} {kl kh km : IntKind} {l h m : Int} {lo hi mx : Operand} (hs : P.underlying xt = some (.slice e)) (he : Elem P e size z bytes) (hx : ev σ x = .slice (some ⟨b, o, none⟩) len cap)
    (h1 : ev σ lo = .int kl l) (h2 : ev σ hi = .int kh h) (h3 : ev σ mx = .int km m) (g0 : 0 ≤ l) (g1 : l ≤ h) (g2 : h ≤ m) (g3 : m ≤ cap) :
    X P σ w (.slice xt x (some lo) (some hi) (some mx)) t (.slice (some (if m = l then ⟨b, o, none⟩ else (⟨b, o, none⟩ : Addr).add (l.toNat * size))) (h - l).toNat (m - l).toNat) := fun _ _ _ _ => by
  obtain ⟨i, hi', rfl, _⟩ := he
  have hb : (Instr.sliceBounds true len cap (some (.int kl l)) (some (.int kh h)) (some (.int km m))).run P w = .ok (l.toNat, h.toNat, m.toNat) w := by
    simp [Instr.sliceBounds, run_sliceBound (P := P) w km m cap _ (by omega) g3, run_sliceBound (P := P) w kh h m.toNat _ (by omega) (by omega), run_sliceBound (P := P) w kl l h.toNat _ (by omega) (by omega)]
  have e1 : h.toNat - l.toNat = (h - l).toNat := by omega
  have e2 : m.toNat - l.toNat = (m - l).toNat := by omega
  have e3 : (m.toNat = l.toNat) ↔ m = l := by omega
  simp [execOp, hx, h1, h2, h3, Instr.sliceAt, Instr.slice, run_underlying hs, hb, Go.sizeOf, typeInfo, hi', e1, e2, e3]
  split <;> rfl
theorem X.slLH {e : TypeId} {z : Value} {bytes size len cap : Nat} {kl kh : IntKind} {l h : Int} {lo hi : Operand} (hs : P.underlying xt = some (.slice e)) (he : Elem P e size z bytes) (hx : ev σ x = .slice (some ⟨b, o, none⟩) len cap)
    (h1 : ev σ lo = .int kl l) (h2 : ev σ hi = .int kh h) (g0 : 0 ≤ l) (g1 : l ≤ h) (g2 : h ≤ cap) :
    X P σ w (.slice xt x (some lo) (some hi) none) t (.slice (some (if (cap : Int) = l then ⟨b, o, none⟩ else (⟨b, o, none⟩ : Addr).add (l.toNat * size))) (h - l).toNat (cap - l).toNat) := fun _ _ _ _ => by
  obtain ⟨i, hi', rfl, _⟩ := he
  have hb : (Instr.sliceBounds true len cap (some (.int kl l)) (some (.int kh h)) none).run P w = .ok (l.toNat, h.toNat, cap) w := by
    simp [Instr.sliceBounds, run_sliceBound (P := P) w kh h cap _ (by omega) g2, run_sliceBound (P := P) w kl l h.toNat _ (by omega) (by omega)]
  have e1 : h.toNat - l.toNat = (h - l).toNat := by omega
  have e2 : cap - l.toNat = (cap - l).toNat := by omega
  have e3 : (cap = l.toNat) ↔ (cap : Int) = l := by omega
  simp [execOp, hx, h1, h2, Instr.sliceAt, Instr.slice, run_underlying hs, hb, Go.sizeOf, typeInfo, hi', e1, e2, e3]
  split <;> rfl
/-- x[:h]: the address stays. -/
theorem X.slH {e : TypeId} {z : Value} {bytes size len cap : Nat} {a : Option Addr} {kh : IntKind} {h : Int} {hi : Operand} (hs : P.underlying xt = some (.slice e)) (he : Elem P e size z bytes) (hx : ev σ x = .slice a len cap)
    (h2 : ev σ hi = .int kh h) (g1 : 0 ≤ h) (g2 : h ≤ cap) : X P σ w (.slice xt x none (some hi) none) t (.slice a h.toNat cap) := fun _ _ _ _ => by
  obtain ⟨i, hi', rfl, _⟩ := he
  have hb : (Instr.sliceBounds true len cap none (some (.int kh h)) none).run P w = .ok (0, h.toNat, cap) w := by
    simp [Instr.sliceBounds, run_sliceBound (P := P) w kh h cap _ (by omega) g2]
  have ha : ∀ q : Addr, q.add 0 = q := fun q => rfl
  simp [execOp, hx, h2, Instr.sliceAt, Instr.slice, run_underlying hs, hb, Go.sizeOf, typeInfo, hi', ha]
theorem X.slHM {e : TypeId} {z : Value} {bytes size len cap : Nat} {a : Option Addr} {kh km : IntKind} {h m : Int} {hi mx : Operand} (hs : P.underlying xt = some (.slice e)) (he : Elem P e size z bytes) (hx : ev σ x = .slice a len cap)
    (h2 : ev σ hi = .int kh h) (h3 : ev σ mx = .int km m) (g1 : 0 ≤ h) (g2 : h ≤ m) (g3 : m ≤ cap) : X P σ w (.slice xt x none (some hi) (some mx)) t (.slice a h.toNat m.toNat) := fun _ _ _ _ => by
  obtain ⟨i, hi', rfl, _⟩ := he
  have hb : (Instr.sliceBounds true len cap none (some (.int kh h)) (some (.int km m))).run P w = .ok (0, h.toNat, m.toNat) w := by
    simp [Instr.sliceBounds, run_sliceBound (P := P) w km m cap _ (by omega) g3, run_sliceBound (P := P) w kh h m.toNat _ (by omega) (by omega)]
  have ha : ∀ q : Addr, q.add 0 = q := fun q => rfl
  simp [execOp, hx, h2, h3, Instr.sliceAt, Instr.slice, run_underlying hs, hb, Go.sizeOf, typeInfo, hi', ha]

/-! ### Slices that read as lists (elements of one cell) -/
/-- The slice v reads as l in the world w. -/
def Sl (w : World) (v : Value) (l : List Value) : Prop :=
  (l = [] ∧ ∃ a c, v = .slice a 0 c) ∨ ∃ b o cap cs T fr, v = .slice (some ⟨b, o, none⟩) l.length cap ∧ l.length ≤ cap ∧ w.heap[b]? = some (.cells cs T fr) ∧ ∀ j, j < l.length → cs[o + j]? = l[j]?
def slBlk : Value → Nat → Prop
  | .slice (some a) _ _, k => k = a.block
  | _, _ => False
theorem Sl.ch {F : Nat → Prop} {w w' : World} {l : List Value} (h : Sl w v l) (c : Ch F w w') (hn : ∀ k, slBlk v k → ¬ F k) : Sl w' v l := by
  rcases h with h | ⟨b, o, cap, cs, T, fr, rfl, h1, h2, h3⟩
  · exact .inl h
  · exact .inr ⟨b, o, cap, cs, T, fr, rfl, h1, c.at h2 (hn b rfl), h3⟩
theorem Sl.ch0 {w w' : World} {l : List Value} (h : Sl w v l) (c : Ch0 w w') : Sl w' v l := h.ch c (fun _ _ => id)
theorem Sl.len {w : World} {l : List Value} (h : Sl w v l) : ∃ a cap, v = .slice a l.length cap := by
  rcases h with ⟨rfl, a, c, rfl⟩ | ⟨b, o, cap, cs, T, fr, rfl, _⟩
  · exact ⟨a, c, rfl⟩
  · exact ⟨_, cap, rfl⟩
theorem Sl.at {w : World} {a : Option Addr} {m c : Nat} {l : List Value} (h : Sl w (.slice a m c) l) {k : Nat} (hk : k < l.length) :
    ∃ b o cs T fr, a = some ⟨b, o, none⟩ ∧ w.heap[b]? = some (.cells cs T fr) ∧ ∀ j, j < l.length → cs[o + j]? = l[j]? := by
  rcases h with ⟨rfl, _⟩ | ⟨b, o, cap, cs, T, fr, hv, _, h2, h3⟩
  · simp at hk
  · simp only [Value.slice.injEq] at hv
    exact ⟨b, o, cs, T, fr, hv.1, h2, h3⟩
theorem Sl.own {w : World} {base m : Nat} {e : TypeId} {xs : List Value} (h : w.ownsRow base e 1 v m xs) : Sl w v xs := by
  obtain ⟨hl, h⟩ := h
  rcases h with ⟨rfl, rfl⟩ | ⟨g, cap, cur, rfl, _, hg, hc, _, hs, ht⟩
  · exact .inl ⟨List.eq_nil_of_length_eq_zero (by simpa using hl), _, 0, rfl⟩
  · have hm : xs.length = m := by omega
    subst hm
    refine .inr ⟨g, 0, cap, cur, e, (0, 0), rfl, hc, hg, fun j hj => ?_⟩
    rw [← ht, List.getElem?_take, if_pos (by omega)]
    simp

theorem own_lt {w : World} {base m size : Nat} {e : TypeId} {xs : List Value} (h : w.ownsRow base e size v m xs) {k : Nat} (hk : slBlk v k) : base ≤ k ∧ k < w.heap.size := by
  rcases h.2 with ⟨rfl, _⟩ | ⟨g, cap, cur, rfl, hb, hgg, rest⟩
  · exact hk.elim
  · have : k = g := hk
    subst this
    exact ⟨hb, lt_of_blk hgg⟩
theorem own_ch {F : Nat → Prop} {w w' : World} {base m size : Nat} {e : TypeId} {xs : List Value} (h : w.ownsRow base e size v m xs) (c : Ch F w w') (hn : ∀ k, slBlk v k → ¬ F k) : w'.ownsRow base e size v m xs := by
  refine ⟨h.1, ?_⟩
  rcases h.2 with hn' | ⟨g, cap, cur, rfl, hb, hgg, rest⟩
  · exact .inl hn'
  · exact .inr ⟨g, cap, cur, rfl, hb, c.at hgg (hn g rfl), rest⟩

/-- append(s, x..) where s is a row of the call's own and the new cells stand in a block. -/
theorem WL.append {s : Operand} {ty : TypeId} {e : TypeId} {size bytes base m k c : Nat} {z vs : Value} {xs : List Value} {news : Array Value} (hs : P.underlying xt = some (.slice e)) (he : Elem P e size z bytes) (hz : z.cells.size = size) (h0 : 0 < size)
    (h1 : ev σ s = vs) (h2 : ev σ x = .slice (some ⟨b, 0, none⟩) k c) (hown : w.ownsRow base e size vs m xs) (hm : w.heap[b]? = some (.cells news T fr)) (hl : news.size = k * size) (hone : ∀ u ∈ news.toList, u.oneCell' = true)
    (g1 : m + k ≤ maxLen) (g2 : (m + k) * bytes ≤ 140737488355328) (g3 : base ≤ w.heap.size) (hn : Nat.blt d n.sz = true)
    (h : ∀ v' w', w'.ownsRow base e size v' (m + k) (xs ++ news.toList) → Ch (slBlk vs) w w' → WL P n ops Q rest (up σ d v') w') :
    WL P n ops Q (⟨some d, .call ⟨.builtin .append, #[s, x], #[xt, xt]⟩, ty, pos, af, none⟩ :: rest) σ w := by
  obtain ⟨i, hi, hi1, hzz, hby⟩ := he
  have hnews : ∀ j u, news.toList[j]? = some u → w.cell? ((⟨b, 0, none⟩ : Addr).add j) = some u := by
    intro j u hu
    have hadd : (⟨b, 0, none⟩ : Addr).add j = ⟨b, j, none⟩ := by unfold Addr.add; split <;> simp_all
    rw [hadd]; exact cell_of hm (by simpa using hu)
  obtain ⟨v', w', hr, h3, h4, h5⟩ := run_append_own (P := P) w base xt ty e i z size bytes hs hi hzz hi1 hby hz h0 vs m xs hown ⟨b, 0, none⟩ k c news.toList (by simpa using hl) hnews hone g1 g2 g3
  have hblk : ∀ k, some k ≠ vs.ownBlock ↔ ¬ slBlk vs k := by
    intro k
    rcases hown.2 with ⟨rfl, _⟩ | ⟨g, cap, cur, rfl, _⟩
    · simp [Value.ownBlock, slBlk]
    · simp [Value.ownBlock, slBlk]
  have hch : Ch (slBlk vs) w w' := ⟨h4.os, h4.tape, h4.output, h4.size, fun k hk hn => h4.block k hk ((hblk k).2 hn)⟩
  refine WL.step (w' := w') rfl rfl hn ?_ (h v' w' h3 hch)
  simp [execOp, resolve, invoke, builtin, h1, h2, hr]
end
end Sg
