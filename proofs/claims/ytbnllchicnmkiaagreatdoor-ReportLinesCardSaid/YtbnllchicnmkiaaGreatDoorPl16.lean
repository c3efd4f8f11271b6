/-
  What came in, opened: slices of structs, of whatever depth. | DERIVED: THE SHELF's CONTRACTS AT THIS DUMP, IN PLAIN WORDS (tools/lay-plain.mjs out of 'TryzShelfX.lean', which tools/lay-shelf.mjs wrote): THE SAME DECLARATIONS UNDER THE SAME NAMES: 'import', 'namespace', 'open', 'def', 'theorem' AND NOTHING ELSE: no command of the shelf's: FOR A HAND-IN. Each laying: the table of numbers ('.._ren') and one theorem, a field a fact of the dump's own or the kernel's comparison; each contract: ONE APPLICATION. | A part of the walk of the program. | A part of the walk of the program.
-/
import Derived.Test.YtbnllchicnmkiaaGreatDoorPl15
import Derived.Shelf.Strings.Prefix
import Derived.Shelf.Strings.Replace
import Derived.Ground.NamesProg
import Derived.Test.YtbnllchicnmkiaaGreatDoorProg
section
namespace Sg
open Go Go.RowKit Go.ChangeShapes Go.WideShapes

/-- What stands at the type reads so, whatever came in. -/
def Opn {α : Type} (P : Program) (W : World) (t : TypeId) (R : Rd α) : Prop :=
  ∀ (H : Type) (enc : TypeId × Value → H) (fuel : Nat) (cs : List Value) (x : DataW H × List MemPlace), DataW.trod enc P W 0 (fun _ => true) true fuel t cs = some x → (x.1.weights P t).all (· ≤ reachBytes) = true → ∃ y, R all W cs y

theorem weightsAll_mem {H : Type} {P : Program} {e : TypeId} {p : Nat → Bool} : ∀ {ds : List (DataW H)}, (DataW.weightsAll P e ds).all p = true → ∀ d ∈ ds, (d.weights P e).all p = true
  | [], _, d, h => by cases h
  | x :: r, h, d, hd => by
    simp only [DataW.weightsAll, List.all_append, Bool.and_eq_true] at h
    rcases List.mem_cons.1 hd with rfl | hd
    · exact h.1
    · exact weightsAll_mem h.2 d hd
theorem weightsEach_at {H : Type} {P : Program} {p : Nat → Bool} : ∀ {ts : List TypeId} {ds : List (DataW H)}, (DataW.weightsEach P ts ds).all p = true → ∀ (i : Nat) (t : TypeId) (d : DataW H), ts[i]? = some t → ds[i]? = some d → (d.weights P t).all p = true
  | [], _, _, i, t, d, ht, _ => by simp at ht
  | _ :: _, [], _, i, t, d, _, hd => by simp at hd
  | t0 :: ts, d0 :: ds, h, i, t, d, ht, hd => by
    simp only [DataW.weightsEach, List.all_append, Bool.and_eq_true] at h
    cases i with
    | zero =>
      simp only [List.getElem?_cons_zero, Option.some.injEq] at ht hd
      subst ht; subst hd; exact h.1
    | succ i =>
      simp only [List.getElem?_cons_succ] at ht hd
      exact weightsEach_at h.2 i t d ht hd
theorem weights_struct {H : Type} {P : Program} {t : TypeId} {fs : Array Field} {ds : List (DataW H)} {p : Nat → Bool} (ht : P.underlying t = some (.struct fs)) (h : ((DataW.agg ds).weights P t).all p = true) (i : Nat) (f : Field) (d : DataW H)
    (hf : fs[i]? = some f) (hd : ds[i]? = some d) : (d.weights P f.type).all p = true := by
  simp only [DataW.weights, ht] at h
  exact weightsEach_at h i f.type d (by rw [List.getElem?_map, Array.getElem?_toList, hf]; rfl) hd
theorem weights_slice {H : Type} {P : Program} {t e : TypeId} {ds sp : List (DataW H)} (ht : P.underlying t = some (.slice e)) (h : ((DataW.slice ds sp).weights P t).all (· ≤ reachBytes) = true) :
    ds.length * P.bytesOf e ≤ 140737488355328 ∧ ∀ d ∈ ds, (d.weights P e).all (· ≤ reachBytes) = true := by
  simp only [DataW.weights, ht, List.all_cons, List.all_append, Bool.and_eq_true, decide_eq_true_eq] at h
  refine ⟨?_, weightsAll_mem h.2.1⟩
  have h1 := h.1
  rw [Nat.add_mul] at h1
  unfold reachBytes at h1
  omega

theorem add_none {b o k : Nat} : (⟨b, o, none⟩ : Addr).add k = ⟨b, o + k, none⟩ := by unfold Addr.add; split <;> simp_all
theorem add_zero {a : Addr} : a.add 0 = a := rfl
theorem open_rsl {α : Type} {R : Rd α} {H : Type} {enc : TypeId × Value → H} {P : Program} {w : World} {t e : TypeId} {size b fuel : Nat} {cs : List Value} {x : DataW H × List MemPlace} (ht : P.underlying t = some (.slice e)) (hc : P.cellsOf e = size) (h0 : 0 < size)
    (hb : P.bytesOf e = b) (hel : Opn P w e R) (h : DataW.trod enc P w 0 (fun _ => true) true fuel t cs = some x) (hw : (x.1.weights P t).all (· ≤ reachBytes) = true) :
    ∃ v l, cs = [v] ∧ RSl size R all w v l ∧ l.length * b ≤ 140737488355328 := by
  subst hb
  rcases DataW.trod_slice ht h with ⟨rfl, rfl⟩ | ⟨a, len, cap, elems, rest, n, _, rfl, rfl, _, hl, hm, hlen, hels, _, _⟩
  · exact ⟨_, [], rfl, .inl ⟨rfl, _, _, rfl⟩, by simp⟩
  · obtain ⟨hw1, hw2⟩ := weights_slice ht hw
    rw [List.length_map, hlen] at hw1
    rw [hc] at hels
    have hj : ∀ j : Fin len, ∃ (es : List Value) (y : α), es.length = size ∧ (∀ i, i < size → w.cell? ((a.add (j.1 * size)).add i) = es[i]?) ∧ R all w es y := by
      intro j
      have h1 := hels j.1 j.2
      rw [List.getElem?_eq_getElem (by rw [hlen]; exact j.2), Option.bind_eq_some_iff] at h1
      obtain ⟨es, he1, he2⟩ := h1
      obtain ⟨_, hl1, hl2⟩ := World.cells?_some he1
      obtain ⟨y, hy⟩ := hel H enc n es _ he2 (hw2 _ (List.mem_map.2 ⟨_, List.getElem_mem _, rfl⟩))
      exact ⟨es, y, hl1, fun i hi => hl2 i hi, hy⟩
    by_cases hz : len = 0
    · subst hz
      exact ⟨_, [], rfl, .inl ⟨rfl, _, _, rfl⟩, by simp⟩
    · obtain ⟨es0, y0, e1, e2, _⟩ := hj ⟨0, by omega⟩
      have hc0 := e2 0 h0
      rw [List.getElem?_eq_getElem (by rw [e1]; exact h0)] at hc0
      simp only [Nat.zero_mul, add_zero] at hc0
      have hsp : a.spot = none := World.cell?_spot hc0
      obtain ⟨ab, ao, as_⟩ := a
      dsimp only at hsp
      subst hsp
      obtain ⟨b', o', cs', T, fr, ha, hb', _⟩ := block_of_cell hc0
      simp only [Addr.mk.injEq, and_true] at ha
      obtain ⟨rfl, -⟩ := ha
      simp only [add_none] at hj
      let y : Fin len → α := fun j => (hj j).choose_spec.choose
      refine ⟨_, List.ofFn y, rfl, ?_, by rw [List.length_ofFn]; exact hw1⟩
      refine .inr ⟨ab, ao, cap, cs', T, fr, by rw [List.length_ofFn], by rw [List.length_ofFn]; exact hl, hb', trivial, fun j hjl => ?_⟩
      rw [List.length_ofFn] at hjl
      have h2 := (hj ⟨j, hjl⟩).choose_spec.choose_spec
      refine ⟨_, h2.1, fun i hi => ?_, ?_⟩
      · have h3 := h2.2.1 i hi
        rw [← h3]
        unfold World.cell?
        simp only [hb']
        simp
      · rw [List.getElem_ofFn]
        exact h2.2.2
theorem open_slW {H : Type} {enc : TypeId × Value → H} {P : Program} {w : World} {t e : TypeId} {k : IntKind} {b fuel : Nat} {cs : List Value} {x : DataW H × List MemPlace} (ht : P.underlying t = some (.slice e)) (he : P.underlying e = some (.int k)) (hc : P.cellsOf e = 1)
    (hb : P.bytesOf e = b) (h : DataW.trod enc P w 0 (fun _ => true) true fuel t cs = some x) (hw : (x.1.weights P t).all (· ≤ reachBytes) = true) :
    ∃ (v : Value) (l : List Int), cs = [v] ∧ SlA all w v (l.map (Value.int k)) ∧ l.length * b ≤ 140737488355328 ∧ ∀ n ∈ l, (Lit.int k n).wf = true := by
  subst hb
  have h' := h
  rcases DataW.trod_slice ht h with ⟨rfl, rfl⟩ | ⟨a, len, cap, elems, rest, n, _, rfl, rfl, _, hl, hm, hlen, hels, _, _⟩
  · exact ⟨_, [], rfl, ⟨.inl ⟨rfl, _, _, rfl⟩, fun _ _ => trivial⟩, by simp, fun _ hn => by cases hn⟩
  · obtain ⟨hw1, _⟩ := weights_slice ht hw
    rw [List.length_map, hlen] at hw1
    obtain ⟨l, e1, hs, _, hz⟩ := open_sl (a0 := some a) (len := len) (cap := cap) ht he hc ⟨fuel, h'⟩
    refine ⟨_, l, rfl, ⟨?_, fun _ _ => trivial⟩, by rw [← e1]; exact hw1, hz⟩
    rw [e1]; exact hs
/-- An argument that is a struct. -/
theorem open_structArg {α : Type} {R : Rd α} {H : Type} {enc : TypeId × Value → H} {P : Program} {w : World} {t : TypeId} {cs : Array Value} {d : DataW H} {p : List MemPlace} (hel : Opn P w t R) (h : DataW.Trod enc P w 0 (fun _ => true) true t (.agg cs) d p)
    (hw : (d.weights P t).all (· ≤ reachBytes) = true) : ∃ (es : List Value) (y : α), cs = es.toArray ∧ R all w es y := by
  obtain ⟨fuel, h⟩ := h
  obtain ⟨y, hy⟩ := hel H enc fuel _ _ h hw
  exact ⟨cs.toList, y, rfl, hy⟩
end Sg
end

section
namespace Go.Proofs
open Go.Shelf
def Tryz.lays102_ren : Go.Shelf.Ren := ⟨fun | 102 => 15 | 209 => 49 | 207 => 90 | n => n, fun | 9 => 9 | 4 => 4 | 3 => 3 | n => n, fun | n => n⟩
theorem Tryz.lays102 : Go.Proofs.Lays.n102 Tryz.prog Tryz.lays102_ren := {
  mixed := by kernel_rfl
  f102 := Tryz.func15.trans (congrArg some (by kernel_rfl))
  f207 := Tryz.func90.trans (congrArg some (by kernel_rfl))
  f209 := Tryz.func49.trans (congrArg some (by kernel_rfl))
  t3 := Tryz.underlying3
  a3 := Tryz.isAgg3
  z3 := Tryz.sizeOf3
  v3 := Tryz.zeroValue3
  t4 := Tryz.underlying4
  a4 := Tryz.isAgg4
  z4 := Tryz.sizeOf4
  v4 := Tryz.zeroValue4
  t9 := Tryz.underlying9
  a9 := Tryz.isAgg9
  z9 := Tryz.sizeOf9
  v9 := Tryz.zeroValue9 }
open Go.RowKit Go.Lib in
/-- strings.TrimSuffix: "TrimSuffix returns s without the provided trailing suffix string. If s doesn't end with suffix, s is returned unchanged.": IT RETURNS 'Lib.trimSuffix s suffix'; the world is as it was. (LAID: no walk: one application.) -/
theorem Tryz.strings_TrimSuffix (s p : ByteArray) (w : World) (hs : s.size ≤ 9223372036854775807) :
    Calls Tryz.prog 15 #[.string s, .string p] w fun e w' => e = .returned (.string ⟨(Lib.trimSuffix s.data.toList p.data.toList).toArray⟩) ∧ w' = w := Any.strings_TrimSuffix Tryz.lays102 s p w hs
def Tryz.lays155_ren : Go.Shelf.Ren := ⟨fun | 155 => 14 | 154 => 48 | 138 => 86 | 165 => 87 | 143 => 88 | 166 => 78 | 197 => 89 | 169 => 40 | 195 => 107 | 218 => 108 | 240 => 105 | 241 => 109 | 219 => 110 | 260 => 111 | 276 => 118 | 277 => 119 | 217 => 92 | 225 => 120 | 224 => 121 | 267 => 122 | 266 => 114 | 314 => 133 | n => n, fun | 9 => 9 | 3 => 3 | 4 => 4 | 72 => 76 | 0 => 0 | 76 => 119 | 105 => 129 | 21 => 21 | 5 => 5 | 70 => 73 | 20 => 20 | 37 => 74 | 75 => 27 | 127 => 126 | 164 => 146 | 46 => 40 | 119 => 150 | 139 => 153 | 138 => 152 | 146 => 167 | 51 => 166 | 80 => 88 | n => n, fun | 1 => 0 | 3 => 1 | 4 => 2 | n => n⟩
theorem Tryz.lays155 : Go.Proofs.Lays.n155 Tryz.prog Tryz.lays155_ren := {
  mixed := by kernel_rfl
  f138 := Tryz.func86.trans (congrArg some (by kernel_rfl))
  f143 := Tryz.func88.trans (congrArg some (by kernel_rfl))
  f154 := Tryz.func48.trans (congrArg some (by kernel_rfl))
  f155 := Tryz.func14.trans (congrArg some (by kernel_rfl))
  f165 := Tryz.func87.trans (congrArg some (by kernel_rfl))
  f166 := Tryz.func78.trans (congrArg some (by kernel_rfl))
  f169 := Tryz.func40.trans (congrArg some (by kernel_rfl))
  f195 := Tryz.func107.trans (congrArg some (by kernel_rfl))
  f197 := Tryz.func89.trans (congrArg some (by kernel_rfl))
  f217 := Tryz.func92.trans (congrArg some (by kernel_rfl))
  f218 := Tryz.func108.trans (congrArg some (by kernel_rfl))
  f219 := Tryz.func110.trans (congrArg some (by kernel_rfl))
  f224 := Tryz.func121.trans (congrArg some (by kernel_rfl))
  f225 := Tryz.func120.trans (congrArg some (by kernel_rfl))
  f240 := Tryz.func105.trans (congrArg some (by kernel_rfl))
  f241 := Tryz.func109.trans (congrArg some (by kernel_rfl))
  f260 := Tryz.func111.trans (congrArg some (by kernel_rfl))
  f266 := Tryz.func114.trans (congrArg some (by kernel_rfl))
  f267 := Tryz.func122.trans (congrArg some (by kernel_rfl))
  f276 := Tryz.func118.trans (congrArg some (by kernel_rfl))
  f277 := Tryz.func119.trans (congrArg some (by kernel_rfl))
  f314 := Tryz.func133.trans (congrArg some (by kernel_rfl))
  t0 := Tryz.underlying0
  a0 := Tryz.isAgg0
  z0 := Tryz.sizeOf0
  v0 := Tryz.zeroValue0
  t3 := Tryz.underlying3
  a3 := Tryz.isAgg3
  z3 := Tryz.sizeOf3
  v3 := Tryz.zeroValue3
  t4 := Tryz.underlying4
  a4 := Tryz.isAgg4
  z4 := Tryz.sizeOf4
  v4 := Tryz.zeroValue4
  t5 := Tryz.underlying5
  a5 := Tryz.isAgg5
  z5 := Tryz.sizeOf5
  v5 := Tryz.zeroValue5
  t9 := Tryz.underlying9
  a9 := Tryz.isAgg9
  z9 := Tryz.sizeOf9
  v9 := Tryz.zeroValue9
  t20 := Tryz.underlying20
  a20 := Tryz.isAgg20
  z20 := Tryz.sizeOf20
  v20 := Tryz.zeroValue20
  t21 := Tryz.underlying21
  a21 := Tryz.isAgg21
  z21 := Tryz.sizeOf21
  v21 := Tryz.zeroValue21
  t37 := Tryz.underlying74
  a37 := Tryz.isAgg74
  z37 := Tryz.sizeOf74
  v37 := Tryz.zeroValue74
  t46 := Tryz.underlying40
  a46 := Tryz.isAgg40
  z46 := Tryz.sizeOf40
  v46 := Tryz.zeroValue40
  t51 := Tryz.underlying166
  a51 := Tryz.isAgg166
  z51 := Tryz.sizeOf166
  v51 := Tryz.zeroValue166
  t70 := Tryz.underlying73
  a70 := Tryz.isAgg73
  z70 := Tryz.sizeOf73
  v70 := Tryz.zeroValue73
  t72 := Tryz.underlying76
  a72 := Tryz.isAgg76
  z72 := Tryz.sizeOf76
  v72 := Tryz.zeroValue76
  t75 := Tryz.underlying27
  a75 := Tryz.isAgg27
  z75 := Tryz.sizeOf27
  v75 := Tryz.zeroValue27
  t76 := Tryz.underlying119
  a76 := Tryz.isAgg119
  z76 := Tryz.sizeOf119
  v76 := Tryz.zeroValue119
  t105 := Tryz.underlying129
  a105 := Tryz.isAgg129
  z105 := Tryz.sizeOf129
  v105 := Tryz.zeroValue129
  t119 := Tryz.underlying150
  a119 := Tryz.isAgg150
  z119 := Tryz.sizeOf150
  t127 := Tryz.underlying126
  a127 := Tryz.isAgg126
  z127 := Tryz.sizeOf126
  v127 := Tryz.zeroValue126
  t138 := Tryz.underlying152
  a138 := Tryz.isAgg152
  z138 := Tryz.sizeOf152
  v138 := Tryz.zeroValue152
  t139 := Tryz.underlying153
  a139 := Tryz.isAgg153
  z139 := Tryz.sizeOf153
  v139 := Tryz.zeroValue153
  t146 := Tryz.underlying167
  a146 := Tryz.isAgg167
  z146 := Tryz.sizeOf167
  v146 := Tryz.zeroValue167
  t164 := Tryz.underlying146
  a164 := Tryz.isAgg146
  z164 := Tryz.sizeOf146
  v164 := Tryz.zeroValue146
  g1 := by kernel_rfl
  g3 := by kernel_rfl
  g4 := by kernel_rfl }
theorem Tryz.Builder_Extra_155 : Builder.Extra Tryz.prog Tryz.lays155_ren := {
  sizeBuilder := by kernel_rfl
  liesBuilder := by kernel_rfl
  t5 := Tryz.underlying5
  a5 := Tryz.isAgg5
  z5 := Tryz.sizeOf5
  v5 := Tryz.zeroValue5
  infoByte := by kernel_rfl
  cellsByte := by kernel_rfl
  sizeByte := by kernel_rfl
  neB5 := by decide }
open Go.RowKit Go.Lib in
/-- strings.ReplaceAll: "ReplaceAll returns a copy of the string s with all non-overlapping instances of old replaced by new.": AT AN old THAT IS NOT EMPTY: 'Lib.replaceAll s old new'. (LAID: no walk: one application.) -/
theorem Tryz.strings_ReplaceAll (s old new : ByteArray) (m : Int) (w : World) (hs : s.size < 4294967281) (hm : w.cell? ⟨0, 0, none⟩ = some (.int .i64 m)) (h1 : 1 ≤ old.size) (hlen : s.size + Lib.countB s old * new.size ≤ 140737488355328) :
    Calls Tryz.prog 14 #[.string s, .string old, .string new] w fun e w' =>
      e = .returned (.string ⟨(Lib.replaceAll s.data.toList old.data.toList new.data.toList).toArray⟩) ∧ Below w.heap.size w w' := Any.strings_ReplaceAll Tryz.lays155 Tryz.Builder_Extra_155 s old new m w hs hm h1 hlen
end Go.Proofs
end

section
set_option linter.unusedVariables false
set_option linter.unusedSimpArgs false
set_option maxRecDepth 100000
namespace Go.Proofs.YtbnllchicnmkiaaGreatDoor
open Go Go.RowKit Sg
theorem ce14 : Sg.Callee Tryz.prog 14 := ⟨_, Tryz.func14, by decide, rfl⟩
theorem ce15 : Sg.Callee Tryz.prog 15 := ⟨_, Tryz.func15, by decide, rfl⟩

/-- A variable of the library's own holds some number. -/
def ML (w : World) : Prop := ∃ m, w.cell? ⟨0, 0, none⟩ = some (.int .i64 m)
theorem ML.ch0 {w w' : World} (h : ML w) (c : Ch0 w w') : ML w' := by
  obtain ⟨m, h⟩ := h
  refine ⟨m, ?_⟩
  have h0 : 0 < w.heap.size := by
    refine Nat.pos_of_ne_zero fun e => ?_
    have : w.heap[0]? = none := Array.getElem?_eq_none (by omega)
    simp [World.cell?, this] at h
  have hb := c.blk 0 h0 id
  simp only [World.cell?] at h ⊢
  rw [hb]; exact h
theorem ml_of {w : World} (h : w.ShapedOpen Tryz.prog) : ML w := Go.Proofs.cell_of_shapedOpen_int (zero := #[.int .i64 0]) (t := 3) h (of_decide_eq_true (by kernel_rfl)) (by kernel_rfl) rfl (by kernel_rfl) (by kernel_rfl) Tryz.underlying3
theorem pads {q : Nat} (h : q < 3) : ∃ pd : ByteArray, (#[.string ⟨#[10]⟩, .string ⟨#[32, 10, 10]⟩, .string ⟨#[32, 32]⟩] : Array Value)[q]? = some (.string pd) ∧ PadL (sb pd) ∧ sb pd ≠ [] ∧ pd.size ≤ 4 := by
  match q, h with
  | 0, _ => exact ⟨_, rfl, pad_nl, by decide, by decide⟩
  | 1, _ => exact ⟨_, rfl, pad_bl2, by decide, by decide⟩
  | 2, _ => exact ⟨_, rfl, pad_sp2, by decide, by decide⟩
theorem rep_le (pad : Bs) : ∀ (l : Bs), (rep pad l).length ≤ l.length * (pad.length + 1)
  | [] => by simp [rep]
  | c :: l => by
    have := rep_le pad l
    unfold rep
    rw [List.length_cons, Nat.succ_mul]
    split
    · rw [List.length_cons, List.length_append]; omega
    · rw [List.length_cons]; omega
theorem prQ_len {x : GRep} (hn : NumQ x) : (prQ x).length ≤ 47000000 := by
  cases hm : mayR keyE x with
  | false => rw [(prQ_no hm).1]; exact Nat.zero_le _
  | true =>
    rw [(prQ_yes hm).1]
    obtain ⟨m1, m2, m3, m4, m5, m6, m7⟩ := mayR_of hm
    refine repT_len hn m2 m5 fun a ha => ?_
    obtain ⟨a1, a2, a3, a4, a5⟩ := mayA_of (m7 a ha)
    exact ⟨keyE_len a2, a4, fun y hy => keyE_len (mayW_of (a5 y hy)).2⟩
theorem rall_gen (s od nw : ByteArray) (pad : Bs) (w : World) (hM : ML w) (hs : s.size ≤ 47000000) (ho : sb od = [10]) (hn : sb nw = 10 :: pad) (hp : pad ≠ []) (h4 : pad.length ≤ 4) : Sg.Ret Tryz.prog 14 #[.string s, .string od, .string nw] w fun v w' => v = .string (bs (rep pad (sb s))) ∧ Ch0 w w' := by
  obtain ⟨m, hm⟩ := hM
  have hos : od.size = 1 := by rw [← sb_len, ho]; rfl
  have hns : nw.size ≤ 5 := by rw [← sb_len, hn, List.length_cons]; omega
  have hc : Lib.countB s od ≤ s.size := by
    have h1 : Lib.countB s od = Lib.count (sb s) (sb od) := rfl
    rw [h1, ho, Lib.count_one, ← sb_len]; exact List.count_le_length
  have hmul : Lib.countB s od * nw.size ≤ 47000000 * 5 := Nat.mul_le_mul (by omega) hns
  have hcall := Tryz.strings_ReplaceAll s od nw m w (by omega) hm (by omega) (by omega)
  have h2 := replaceAll_rep hp (sb s)
  have h3 : Lib.replaceAll (sb s) (sb od) (sb nw) = rep pad (sb s) := by rw [ho, hn]; exact h2
  refine Calls.mono hcall ?_
  rintro e w' ⟨he, hb⟩
  refine ⟨_, he, ?_, Ch.of_below hb⟩
  have h5 : ∀ L : Bs, L = rep pad (sb s) → (Value.string ⟨L.toArray⟩) = .string (bs (rep pad (sb s))) := fun L hL => by rw [hL]; rfl
  exact h5 _ h3
theorem rall_ok (s pd : ByteArray) (w : World) (hM : ML w) (hs : s.size ≤ 47000000) (hp : sb pd ≠ []) (h4 : pd.size ≤ 4) : Sg.Ret Tryz.prog 14 #[.string s, .string ⟨#[10]⟩, .string (⟨#[10]⟩ ++ pd)] w fun v w' => v = .string (bs (rep (sb pd) (sb s))) ∧ Ch0 w w' :=
  rall_gen s _ _ (sb pd) w hM hs rfl (by rw [sb_app]; rfl) hp (by rw [sb_len]; exact h4)
theorem trim_nl (l : Bs) : Lib.trimSuffix (l ++ [10]) [10] = l := by
  unfold Lib.trimSuffix
  rw [if_pos (by unfold Lib.hasSuffix; exact List.isSuffixOf_iff_suffix.2 ⟨l, rfl⟩)]
  simp
theorem trim_ok (l : Bs) (w : World) (hl : l.length ≤ 20000) : Sg.Ret Tryz.prog 15 #[.string (bs (l ++ [10])), .string ⟨#[10]⟩] w fun v w' => v = .string (bs l) ∧ w = w' := by
  refine Calls.mono (Tryz.strings_TrimSuffix (bs (l ++ [10])) ⟨#[10]⟩ w (by rw [size_bs, List.length_append]; simp only [List.length_cons, List.length_nil]; omega)) ?_
  rintro e w' ⟨he, hw⟩
  refine ⟨_, he, ?_, hw.symm⟩
  have h5 : ∀ L : Bs, L = l → (Value.string ⟨L.toArray⟩) = .string (bs l) := fun L hL => by rw [hL]; rfl
  refine h5 _ ?_
  show Lib.trimSuffix (sb (bs (l ++ [10]))) [10] = l
  rw [sb_bs]; exact trim_nl l
theorem parse_pad {x : GRep} {u : ByteArray} {pad : Bs} (h : PrOk x) (hp : PadL pad) (hu : sb u = pad ++ rep pad (repT x)) (hl : u.size ≤ 20000) : parseQ fP u = .ok x := by
  obtain ⟨us, h1, h2⟩ := rep_pad hp (okq_of (fun _ => okK_of) h.may h.num) h.may (by rw [← hu, sb_len]; exact hl)
  rw [← parseQ_alike]
  exact parseQ_some (by rw [hu]; exact h1) h2
theorem parse_trim {x : GRep} (h : PrOk x) (hl : (repTz x []).length ≤ 20000) : parseQ fP (bs (repTz x [])) = .ok x := by
  obtain ⟨us, h1, h2⟩ := rep_trim (okq_of (fun _ => okK_of) h.may h.num) h.may hl
  rw [← parseQ_alike]
  exact parseQ_some (by rw [sb_bs]; exact h1) h2

set_option maxHeartbeats 1600000 in
theorem lines_ok (x : GRep) (es : List Value) (k : Int) (w : World) (h : RRep all w es x) (hER : ER w) (hTab : Tab w) (hML : ML w) :
  Sg.Ret Tryz.prog 6 #[.agg es.toArray, .int .i64 k] w fun v w' => v = .bool true ∧ Ch0 w w' := by
 have hh := h
 have hnum := rrep_num h
 have hql := prQ_len hnum
 have hsz9 : (bs (prQ x)).size = (prQ x).length := size_bs _
 obtain ⟨v, u, rfl, hs, ho, hb⟩ := h
 obtain ⟨va, vc, rfl⟩ := hs.len
 obtain ⟨ua, uc, hu⟩ := ho.1.len
 rw [List.length_map] at hu
 subst hu
 refine enter1 (n := 80) (l := [.agg #[.int .i64 x.1, .bool x.2.1, .slice va x.2.2.1.length vc, .int .i64 x.2.2.2.1, .int .i64 x.2.2.2.2.1, .slice ua x.2.2.2.2.2.length uc], .int .i64 k]) Tryz.func6 rfl rfl rfl rfl ?_
 refine W.g2 0 1 (v1 := .agg #[.int .i64 x.1, .bool x.2.1, .slice va x.2.2.1.length vc, .int .i64 x.2.2.2.1, .int .i64 x.2.2.2.2.1, .slice ua x.2.2.2.2.2.length uc]) (v2 := .int .i64 k) rfl rfl ?_; intro σ s0 s1
 refine W.seq ?_
 refine W.region ?_
 refine WL.box (s0) rfl ?_
 intro w1 u0_0; have hu0_0 := u0_0.at_; have cu0_0 := u0_0.ch; have zu0_0 := u0_0.size
 refine WL.x (X.asg lc) rfl ?_
 refine WL.e2 Nx.thn 1 2 (jt2 rfl (s1)) (lt rfl (lh)) ?_
 intro σ1 s1 s2
 refine W.seq ?_
 refine W.region ?_
 obtain ⟨xb, hxb⟩ : ∃ xb, xb = w.heap.size := ⟨_, rfl⟩
 have hbx := hu0_0
 rw [← hxb] at hbx s2
 refine WL.x (X.loadBox (vs := [.int .i64 x.1, .bool x.2.1, .slice va x.2.2.1.length vc, .int .i64 x.2.2.2.1, .int .i64 x.2.2.2.2.1, .slice ua x.2.2.2.2.2.length uc]) ag25 (s2) hbx rfl) rfl ?_
 refine WL.call1 ce11 (lh) (print_ok all x _ w1 (monRep _ _ _ _ _ _ _ (cu0_0) (fun _ _ => id) (fun _ => id) hh) (tab_ch0 hTab cu0_0)) rfl ?_
 rintro _ w2 ⟨rfl, c1⟩
 have k1 := cu0_0.trans0 c1
 refine WL.x (X.mv (lh)) rfl ?_
 refine WL.x (X.ex2_0 (lh)) rfl ?_
 refine WL.x (X.ex2_1 (lt rfl (lh))) rfl ?_
 refine WL.x (X.asg (lt rfl (lh))) rfl ?_
 refine WL.x (X.asg (lt rfl (lh))) rfl ?_
 refine WL.e4 Nx.thn 1 2 5 6 (jt4 rfl (jt2 rfl (lt rfl (s1)))) (jt4 rfl (jt2 rfl (lt rfl (s2)))) (lt rfl (lh)) (lh) ?_
 intro σ2 s1 s2 s5 s6
 refine W.seq ?_
 refine W.seq ?_
 refine W.region ?_
 refine WL.x (X.loadBox (vs := [.int .i64 x.1, .bool x.2.1, .slice va x.2.2.1.length vc, .int .i64 x.2.2.2.1, .int .i64 x.2.2.2.2.1, .slice ua x.2.2.2.2.2.length uc]) ag25 (s2) (c1.at0 hbx) rfl) rfl ?_
 refine WL.call1 ce12 (lh) (rprint_ok all x _ w2 (monRep _ _ _ _ _ _ _ (k1) (fun _ _ => id) (fun _ => id) hh)) rfl ?_
 rintro _ w3 ⟨rfl, c2⟩
 have k2 := k1.trans0 c2
 refine WL.x (X.mv (lh)) rfl ?_
 refine WL.x (X.ex2_0 (lh)) rfl ?_
 refine WL.x (X.ex2_1 (lt rfl (lh))) rfl ?_
 refine WL.x (X.asg (lt rfl (lh))) rfl ?_
 refine WL.x (X.asg (lt rfl (lh))) rfl ?_
 refine WL.e6 Nx.thn 1 2 5 6 7 8 (jt4 rfl (jt2 rfl (lt rfl (s1)))) (jt4 rfl (jt2 rfl (lt rfl (s2)))) (jt4 rfl (jt2 rfl (lt rfl (s5)))) (jt4 rfl (jt2 rfl (lt rfl (s6)))) (lt rfl (lh)) (lh) ?_
 intro σ3 s1 s2 s5 s6 s7 s8
 refine W.seq ?_
 refine W.region ?_
 refine WL.x (X.mv (s5)) rfl ?_
 refine WL.x (X.mv (lt rfl (s7))) rfl ?_
 refine WL.x (X.neqS (lt rfl (lh)) (lh)) rfl ?_
 refine WL.x (X.mv (lh)) rfl ?_
 refine WL.yes rfl rfl (lh) (decide_eq_false (fun h => h rfl)) ?_
 refine WL.x (X.mv (jt4 rfl (s6))) rfl ?_
 refine WL.yes rfl rfl (lt rfl (lh)) (decide_eq_false (fun h => h rfl)) ?_
 refine WL.x (X.mv (jt4 rfl (lt rfl (s8)))) rfl ?_
 refine WL.yes rfl rfl (jt2 rfl (lh)) (decide_eq_false (fun h => h rfl)) ?_
 refine WL.x (X.neq (lt rfl (lh)) (lh)) rfl ?_
 refine WL.x (X.pickF (jt2 rfl (lt rfl (lh))) (decide_eq_false (fun h => h rfl)) (lh)) rfl ?_
 refine WL.e5 Nx.thn 1 2 5 6 32 (jt8 rfl (s1)) (jt8 rfl (s2)) (jt8 rfl (s5)) (jt8 rfl (s6)) (lh) ?_
 intro σ4 s1 s2 s5 s6 s32
 refine W.cndN s32 (fun h => h rfl) ?_
 refine W.skip Nx.thn ?_
 refine W.seq ?_
 refine W.region ?_
 refine WL.bslice Tryz.underlying39 el9 rfl (pcons lc (pcons lc (pcons lc pnil))) rfl (rfl : _ = [_, _, _]) rfl ?_
 intro w4 u5_0; have hu5_0 := u5_0.at_; have cu5_0 := u5_0.ch; have zu5_0 := u5_0.size
 refine WL.x (X.mv (lt rfl (s1))) rfl ?_
 refine WL.x (X.convu Tryz.underlying3 Tryz.underlying40 (lh)) rfl ?_
 refine WL.x (X.rem (lh) lc (by omega) (by omega)) rfl ?_
 refine WL.x (X.convi Tryz.underlying40 Tryz.underlying3 (lh) (wrap_i64 (by omega) (by omega))) rfl ?_
 refine WL.x (X.indexAddr Tryz.underlying39 el9 (jt4 rfl (lh)) (lh) (by omega) (by omega)) rfl ?_
 obtain ⟨q, hq⟩ : ∃ q : Nat, k % 18446744073709551616 % 3 = (q : Int) := ⟨(k % 18446744073709551616 % 3).toNat, by omega⟩
 obtain ⟨pd, hpd, hq1, hq2, hq3⟩ := pads (q := q) (by omega)
 have k3 := k2.trans0 cu5_0
 refine WL.x (X.load pl9 (lh) hu5_0 (v := .string pd) (by rw [hq, show 0 + (q : Int).toNat * 1 = q by omega]; exact hpd)) rfl ?_
 refine WL.x (X.asg (lh)) rfl ?_
 refine WL.e4 Nx.thn 2 5 6 9 (jt8 rfl (s2)) (jt8 rfl (s5)) (jt8 rfl (s6)) (lh) ?_
 intro σ5 s2 s5 s6 s9
 refine W.seq ?_
 refine W.region ?_
 refine WL.x (X.mv (s9)) rfl ?_
 refine WL.x (X.mv (lt rfl (s5))) rfl ?_
 refine WL.x (X.mv (jt2 rfl (s9))) rfl ?_
 refine WL.x (v := .string (⟨#[10]⟩ ++ pd)) (X.addS lc (lh) (by have h9 : (⟨#[10]⟩ : ByteArray).size = 1 := rfl; omega)) rfl ?_
 refine WL.call3 ce14 (jt2 rfl (lh)) lc (lh) (rall_ok (bs (prQ x)) pd w4 (hML.ch0 k3) (by omega) hq2 hq3) rfl ?_
 rintro _ w5 ⟨rfl, c5⟩
 have k4 := k3.trans0 c5
 have hz1 := sb_len pd
 have hz2 := rep_le (sb pd) (sb (bs (prQ x)))
 have hz3 := sb_len (bs (prQ x))
 have hz4 : (sb (bs (prQ x))).length * ((sb pd).length + 1) ≤ 47000000 * 5 := Nat.mul_le_mul (by omega) (by omega)
 have hz5 : (bs (rep (sb pd) (sb (bs (prQ x))))).size = (rep (sb pd) (sb (bs (prQ x)))).length := size_bs _
 refine WL.x (v := .string (pd ++ bs (rep (sb pd) (sb (bs (prQ x)))))) (X.addS (jt4 rfl (lh)) (lh) (by omega)) rfl ?_
 refine WL.x (X.asg (lh)) rfl ?_
 refine WL.e4 Nx.thn 2 5 6 10 (jt4 rfl (jt2 rfl (lt rfl (s2)))) (jt4 rfl (jt2 rfl (lt rfl (s5)))) (jt4 rfl (jt2 rfl (lt rfl (s6)))) (lh) ?_
 intro σ6 s2 s5 s6 s10
 refine W.seq ?_
 refine W.seq ?_
 refine W.region ?_
 refine WL.x (X.mv (s6)) rfl ?_
 refine WL.x (X.neq (lh) lc) rfl ?_
 refine WL.x (X.mv (lh)) rfl ?_
 refine WL.splitp (lh) (fun he => ?_) (fun he => ?_)
 ·
  refine WL.no rfl rfl (lh) (decide_eq_true he) rfl ?_
  refine WL.no rfl rfl (lt rfl (lh)) (decide_eq_true he) rfl ?_
  refine WL.no rfl rfl (jt2 rfl (lh)) (decide_eq_true he) rfl ?_
  refine WL.x (X.pickT (jt2 rfl (lt rfl (lh))) (decide_eq_true he) lc) rfl ?_
  refine WL.e4 Nx.thn 2 5 10 52 (jt4 rfl (jt2 rfl (lt rfl (s2)))) (jt4 rfl (jt2 rfl (lt rfl (s5)))) (jt4 rfl (jt2 rfl (lt rfl (s10)))) (lh) ?_
  intro σ7 s2 s5 s10 s52
  refine W.cndT s52 ?_
  refine W.seq ?_
  refine W.region ?_
  refine WL.x (X.asg lc) rfl ?_
  refine WL.e1 Nx.thn 4 (lh) ?_
  intro σ8 s4
  refine W.ret1 (Nx.rthn Nx.f1) s4 ?_
  exact ⟨rfl, k4⟩
 ·
  refine WL.yes rfl rfl (lh) (decide_eq_false he) ?_
  refine WL.x (X.mv (jt2 rfl (lt rfl (s10)))) rfl ?_
  refine WL.yes rfl rfl (lt rfl (lh)) (decide_eq_false he) ?_
  refine WL.x (X.lenSt Tryz.underlying9 (lh)) rfl ?_
  refine WL.yes rfl rfl (jt2 rfl (lh)) (decide_eq_false he) ?_
  refine WL.x (X.gtr (lh) lc) rfl ?_
  refine WL.x (X.pickF (jt2 rfl (lt rfl (lh))) (decide_eq_false he) (lh)) rfl ?_
  refine WL.e4 Nx.thn 2 5 10 52 (jt4 rfl (jt2 rfl (lt rfl (s2)))) (jt4 rfl (jt2 rfl (lt rfl (s5)))) (jt4 rfl (jt2 rfl (lt rfl (s10)))) (lh) ?_
  intro σ9 s2 s5 s10 s52
  refine W.cndp s52 (fun hbig => ?_) (fun hbig => ?_)
  ·
   refine W.seq ?_
   refine W.region ?_
   refine WL.x (X.asg lc) rfl ?_
   refine WL.e1 Nx.thn 4 (lh) ?_
   intro σ10 s4
   refine W.ret1 (Nx.rthn Nx.f1) s4 ?_
   exact ⟨rfl, k4⟩
  ·
   have hmay := may_prE he
   have hpq := (prQ_yes hmay).1
   have hok : PrOk x := ⟨hmay, hnum⟩
   have hbk1 : parseQ fP (pd ++ bs (rep (sb pd) (sb (bs (prQ x))))) = .ok x := parse_pad hok hq1 (by rw [sb_app, sb_bs, sb_bs, hpq]) (by omega)
   have hrl := rep_len (sb pd) (sb (bs (prQ x)))
   have hus : (pd ++ bs (rep (sb pd) (sb (bs (prQ x))))).size = pd.size + (rep (sb pd) (sb (bs (prQ x)))).length := by rw [ByteArray.size_append, size_bs]
   have hsq : (sb (bs (prQ x))).length = (prQ x).length := by rw [sb_bs]
   have hl9 : (prQ x).length ≤ 20000 := by omega
   have hrz : repT x = repTz x [] ++ [10] := repT_z x [10]
   have hlz : (repTz x []).length ≤ 20000 := by rw [hpq, hrz, List.length_append] at hl9; omega
   have hbk2 := parse_trim hok hlz
   refine W.skip Nx.thn ?_
   refine W.seq ?_
   refine W.region ?_
   refine WL.x (X.mv (s10)) rfl ?_
   refine WL.call1 ce7 (lh) (parse_ok (pd ++ bs (rep (sb pd) (sb (bs (prQ x))))) w5 (hER.ch0 k4)) rfl ?_
   rintro _ w6 ⟨⟨rv1, er1, rfl, hp1⟩, c3⟩
   obtain ⟨es1, rfl, rfl, hr1⟩ := parR_ok hp1 hbk1
   have k5 := k4.trans0 c3
   have zc1 := c3.size
   refine WL.x (X.mv (lh)) rfl ?_
   refine WL.x (X.ex2_0 (lh)) rfl ?_
   refine WL.x (X.ex2_1 (lt rfl (lh))) rfl ?_
   refine WL.alloc el25 rfl ?_
   intro w7 u9_5; have hu9_5 := u9_5.at_; have cu9_5 := u9_5.ch; have zu9_5 := u9_5.size
   have h6 := hr1.len6
   refine WL.storeS (vs := es1) ag25 (lh) (jt2 rfl (lh)) (RRep_one hr1) h6 hu9_5 (by decide) ?_
   intro w8 us
   have m1 := us.at_
   rw [blit_all (by rw [h6]; rfl)] at m1
   have km1 := us.ch
   have hcm1 := cu9_5.trans km1 (H := fun _ => False) (fun _ _ e => e) (fun j hj e => by (try dsimp only at e); omega)
   refine WL.x (X.asg (lt rfl (lh))) rfl ?_
   refine WL.e4 Nx.thn 2 5 11 12 (jt4 rfl (jt2 rfl (lt rfl (s2)))) (jt4 rfl (jt2 rfl (lt rfl (s5)))) (lt rfl (lh)) (lh) ?_
   intro σ11 s2 s5 s11 s12
   refine W.seq ?_
   refine W.region ?_
   refine WL.x (X.mv (s5)) rfl ?_
   have k6 := k5.trans0 hcm1
   refine WL.call2 ce15 (lh) lc ((by rw [hpq, hrz]; exact trim_ok (repTz x []) w8 hlz)) rfl ?_
   rintro _ _ ⟨rfl, rfl⟩
   refine WL.call1 ce7 (lh) (parse_ok (bs (repTz x [])) w8 (hER.ch0 k6)) rfl ?_
   rintro _ w9 ⟨⟨rv2, er2, rfl, hp2⟩, c4⟩
   obtain ⟨es2, rfl, rfl, hr2⟩ := parR_ok hp2 hbk2
   have zc2 := c4.size
   refine WL.x (X.mv (lh)) rfl ?_
   refine WL.x (X.ex2_0 (lh)) rfl ?_
   refine WL.x (X.ex2_1 (lt rfl (lh))) rfl ?_
   refine WL.alloc el25 rfl ?_
   intro w10 u10_6; have hu10_6 := u10_6.at_; have cu10_6 := u10_6.ch; have zu10_6 := u10_6.size
   have h6 := hr2.len6
   refine WL.storeS (vs := es2) ag25 (lh) (jt2 rfl (lh)) (RRep_one hr2) h6 hu10_6 (by decide) ?_
   intro w11 us
   have m2 := us.at_
   rw [blit_all (by rw [h6]; rfl)] at m2
   have km2 := us.ch
   have hcm2 := cu10_6.trans km2 (H := fun _ => False) (fun _ _ e => e) (fun j hj e => by (try dsimp only at e); omega)
   refine WL.x (X.asg (lt rfl (lh))) rfl ?_
   refine WL.e5 Nx.thn 2 11 12 13 14 (jt8 rfl (s2)) (jt8 rfl (s11)) (jt8 rfl (s12)) (lt rfl (lh)) (lh) ?_
   intro σ12 s2 s11 s12 s13 s14
   refine W.seq ?_
   refine W.region ?_
   refine WL.x (X.mv (s12)) rfl ?_
   refine WL.x (v := .bool (isNil .nilIface)) (X.eqlI Tryz.underlying27 (lh) (.inl rfl)) rfl ?_
   refine WL.x (X.mv (lh)) rfl ?_
   refine WL.yes rfl rfl (lh) (rfl) ?_
   refine WL.x (X.mv (jt2 rfl (lt rfl (s14)))) rfl ?_
   refine WL.yes rfl rfl (lt rfl (lh)) (rfl) ?_
   refine WL.x (v := .bool (isNil .nilIface)) (X.eqlI Tryz.underlying27 (lh) (.inl rfl)) rfl ?_
   refine WL.x (X.pickT (jt2 rfl (lh)) (rfl) (lh)) rfl ?_
   refine WL.x (X.mv (lh)) rfl ?_
   refine WL.yes rfl rfl (lh) (rfl) ?_
   have k7 := (k6.trans0 c4).trans0 hcm2
   refine WL.x (X.loadBox (vs := [.int .i64 x.1, .bool x.2.1, .slice va x.2.2.1.length vc, .int .i64 x.2.2.2.1, .int .i64 x.2.2.2.2.1, .slice ua x.2.2.2.2.2.length uc]) ag25 (jt4 rfl (jt2 rfl (lt rfl (s2)))) (hcm2.at0 (c4.at0 (hcm1.at0 (c3.at0 (c5.at0 (cu5_0.at0 (c2.at0 (c1.at0 hbx)))))))) rfl) rfl ?_
   refine WL.yes rfl rfl (lt rfl (lh)) (rfl) ?_
   refine WL.x (X.loadBox (vs := es1) ag25 (jt8 rfl (s11)) (hcm2.at0 (c4.at0 m1)) hr1.len6) rfl ?_
   refine WL.yes rfl rfl (jt2 rfl (lh)) (rfl) ?_
   refine WL.call2 ce10 (lt rfl (lh)) (lh) (samerep_ok _ _ x x _ es1 w11 (monRep _ _ _ _ _ _ _ (k7) (fun _ _ => id) (fun _ => id) hh) (((hr1.ch0 hcm1).ch0 c4).ch0 hcm2)) rfl ?_
   rintro _ w12 ⟨rfl, c6⟩
   have k8 := k7.trans0 c6
   refine WL.x (X.pickT (jt2 rfl (lt rfl (lh))) (rfl) (lh)) rfl ?_
   refine WL.x (X.mv (lh)) rfl ?_
   refine WL.yes rfl rfl (lh) (decide_eq_true (rfl)) ?_
   refine WL.x (X.loadBox (vs := [.int .i64 x.1, .bool x.2.1, .slice va x.2.2.1.length vc, .int .i64 x.2.2.2.1, .int .i64 x.2.2.2.2.1, .slice ua x.2.2.2.2.2.length uc]) ag25 (jt8 rfl (jt4 rfl (s2))) (c6.at0 (hcm2.at0 (c4.at0 (hcm1.at0 (c3.at0 (c5.at0 (cu5_0.at0 (c2.at0 (c1.at0 hbx))))))))) rfl) rfl ?_
   refine WL.yes rfl rfl (lt rfl (lh)) (decide_eq_true (rfl)) ?_
   refine WL.x (X.loadBox (vs := es2) ag25 (jt8 rfl (jt4 rfl (lt rfl (s13)))) (c6.at0 m2) hr2.len6) rfl ?_
   refine WL.yes rfl rfl (jt2 rfl (lh)) (decide_eq_true (rfl)) ?_
   refine WL.call2 ce10 (lt rfl (lh)) (lh) (samerep_ok _ _ x x _ es2 w12 (monRep _ _ _ _ _ _ _ (k8) (fun _ _ => id) (fun _ => id) hh) ((hr2.ch0 hcm2).ch0 c6)) rfl ?_
   rintro _ w13 ⟨rfl, c7⟩
   refine WL.x (X.pickT (jt2 rfl (lt rfl (lh))) (decide_eq_true (rfl)) (lh)) rfl ?_
   refine WL.x (X.asg (lh)) rfl ?_
   refine WL.e1 Nx.thn 4 (lh) ?_
   intro σ13 s4
   refine W.ret1 Nx.f1 s4 ?_
   exact ⟨congrArg Value.bool (decide_eq_true rfl), k8.trans0 c7⟩
end Go.Proofs.YtbnllchicnmkiaaGreatDoor
end

section
set_option linter.unusedVariables false
set_option linter.unusedSimpArgs false
set_option maxRecDepth 100000
namespace Go.Proofs.YtbnllchicnmkiaaGreatDoor
open Go Go.RowKit Go.ChangeShapes Sg
theorem opn_why {W : World} : Opn Tryz.prog W 85 RWhy := by
  intro H enc fuel cs x h hw
  obtain ⟨xs, n, _, rfl, hl, hlen, hf⟩ := DataW.trod_struct Tryz.underlying85 h
  rw [show Tryz.prog.cellsOf 85 = 8 by kernel_rfl] at hl
  obtain ⟨y0, y1, y2, y3, y4, y5, y6, y7, rfl⟩ : ∃ y0 y1 y2 y3 y4 y5 y6 y7, xs = [y0, y1, y2, y3, y4, y5, y6, y7] := by
    match xs, hlen with | [y0, y1, y2, y3, y4, y5, y6, y7], _ => exact ⟨_, _, _, _, _, _, _, _, rfl⟩
  obtain ⟨c0, c1, c2, c3, c4, c5, c6, c7, rfl⟩ : ∃ c0 c1 c2 c3 c4 c5 c6 c7, cs = [c0, c1, c2, c3, c4, c5, c6, c7] := by
    match cs, hl with | [c0, c1, c2, c3, c4, c5, c6, c7], _ => exact ⟨_, _, _, _, _, _, _, _, rfl⟩
  have f0 : DataW.trod enc Tryz.prog W 0 (fun _ => true) true n 3 [c0] = some y0 := (congrArg (fun k => DataW.trod enc Tryz.prog W 0 (fun _ => true) true n 3 (([c0, c1, c2, c3, c4, c5, c6, c7].drop 0).take k)) (show Tryz.prog.cellsOf 3 = 1 by kernel_rfl)).symm.trans (hf 0 _ rfl)
  have g0 := weights_struct Tryz.underlying85 hw 0 _ y0.1 rfl rfl
  have f1 : DataW.trod enc Tryz.prog W 0 (fun _ => true) true n 3 [c1] = some y1 := (congrArg (fun k => DataW.trod enc Tryz.prog W 0 (fun _ => true) true n 3 (([c0, c1, c2, c3, c4, c5, c6, c7].drop 1).take k)) (show Tryz.prog.cellsOf 3 = 1 by kernel_rfl)).symm.trans (hf 1 _ rfl)
  have g1 := weights_struct Tryz.underlying85 hw 1 _ y1.1 rfl rfl
  have f2 : DataW.trod enc Tryz.prog W 0 (fun _ => true) true n 3 [c2] = some y2 := (congrArg (fun k => DataW.trod enc Tryz.prog W 0 (fun _ => true) true n 3 (([c0, c1, c2, c3, c4, c5, c6, c7].drop 2).take k)) (show Tryz.prog.cellsOf 3 = 1 by kernel_rfl)).symm.trans (hf 2 _ rfl)
  have g2 := weights_struct Tryz.underlying85 hw 2 _ y2.1 rfl rfl
  have f3 : DataW.trod enc Tryz.prog W 0 (fun _ => true) true n 9 [c3] = some y3 := (congrArg (fun k => DataW.trod enc Tryz.prog W 0 (fun _ => true) true n 9 (([c0, c1, c2, c3, c4, c5, c6, c7].drop 3).take k)) (show Tryz.prog.cellsOf 9 = 1 by kernel_rfl)).symm.trans (hf 3 _ rfl)
  have g3 := weights_struct Tryz.underlying85 hw 3 _ y3.1 rfl rfl
  have f4 : DataW.trod enc Tryz.prog W 0 (fun _ => true) true n 3 [c4] = some y4 := (congrArg (fun k => DataW.trod enc Tryz.prog W 0 (fun _ => true) true n 3 (([c0, c1, c2, c3, c4, c5, c6, c7].drop 4).take k)) (show Tryz.prog.cellsOf 3 = 1 by kernel_rfl)).symm.trans (hf 4 _ rfl)
  have g4 := weights_struct Tryz.underlying85 hw 4 _ y4.1 rfl rfl
  have f5 : DataW.trod enc Tryz.prog W 0 (fun _ => true) true n 3 [c5] = some y5 := (congrArg (fun k => DataW.trod enc Tryz.prog W 0 (fun _ => true) true n 3 (([c0, c1, c2, c3, c4, c5, c6, c7].drop 5).take k)) (show Tryz.prog.cellsOf 3 = 1 by kernel_rfl)).symm.trans (hf 5 _ rfl)
  have g5 := weights_struct Tryz.underlying85 hw 5 _ y5.1 rfl rfl
  have f6 : DataW.trod enc Tryz.prog W 0 (fun _ => true) true n 4 [c6] = some y6 := (congrArg (fun k => DataW.trod enc Tryz.prog W 0 (fun _ => true) true n 4 (([c0, c1, c2, c3, c4, c5, c6, c7].drop 6).take k)) (show Tryz.prog.cellsOf 4 = 1 by kernel_rfl)).symm.trans (hf 6 _ rfl)
  have g6 := weights_struct Tryz.underlying85 hw 6 _ y6.1 rfl rfl
  have f7 : DataW.trod enc Tryz.prog W 0 (fun _ => true) true n 4 [c7] = some y7 := (congrArg (fun k => DataW.trod enc Tryz.prog W 0 (fun _ => true) true n 4 (([c0, c1, c2, c3, c4, c5, c6, c7].drop 7).take k)) (show Tryz.prog.cellsOf 4 = 1 by kernel_rfl)).symm.trans (hf 7 _ rfl)
  have g7 := weights_struct Tryz.underlying85 hw 7 _ y7.1 rfl rfl
  obtain ⟨n0, e0, rfl, wf0⟩ := DataW.trod_int Tryz.underlying3 f0
  obtain rfl : c0 = .int .i64 n0 := by simpa using e0
  obtain ⟨n1, e1, rfl, wf1⟩ := DataW.trod_int Tryz.underlying3 f1
  obtain rfl : c1 = .int .i64 n1 := by simpa using e1
  obtain ⟨n2, e2, rfl, wf2⟩ := DataW.trod_int Tryz.underlying3 f2
  obtain rfl : c2 = .int .i64 n2 := by simpa using e2
  obtain ⟨s3, e3, rfl, ws3⟩ := DataW.trod_string Tryz.underlying9 f3
  obtain rfl : c3 = .string s3 := by simpa using e3
  obtain ⟨n4, e4, rfl, wf4⟩ := DataW.trod_int Tryz.underlying3 f4
  obtain rfl : c4 = .int .i64 n4 := by simpa using e4
  obtain ⟨n5, e5, rfl, wf5⟩ := DataW.trod_int Tryz.underlying3 f5
  obtain rfl : c5 = .int .i64 n5 := by simpa using e5
  obtain ⟨b6, e6, rfl⟩ := DataW.trod_bool Tryz.underlying4 f6
  obtain rfl : c6 = .bool b6 := by simpa using e6
  obtain ⟨b7, e7, rfl⟩ := DataW.trod_bool Tryz.underlying4 f7
  obtain rfl : c7 = .bool b7 := by simpa using e7
  exact ⟨(n0, n1, n2, s3, n4, n5, b6, b7), rfl, ⟨wf_i64 wf0, wf_i64 wf1, wf_i64 wf4, wf_i64 wf5⟩, ws3⟩
theorem opn_an {W : World} : Opn Tryz.prog W 67 RAn := by
  intro H enc fuel cs x h hw
  obtain ⟨xs, n, _, rfl, hl, hlen, hf⟩ := DataW.trod_struct Tryz.underlying67 h
  rw [show Tryz.prog.cellsOf 67 = 9 by kernel_rfl] at hl
  obtain ⟨y0, y1, y2, y3, y4, y5, y6, y7, y8, rfl⟩ : ∃ y0 y1 y2 y3 y4 y5 y6 y7 y8, xs = [y0, y1, y2, y3, y4, y5, y6, y7, y8] := by
    match xs, hlen with | [y0, y1, y2, y3, y4, y5, y6, y7, y8], _ => exact ⟨_, _, _, _, _, _, _, _, _, rfl⟩
  obtain ⟨c0, c1, c2, c3, c4, c5, c6, c7, c8, rfl⟩ : ∃ c0 c1 c2 c3 c4 c5 c6 c7 c8, cs = [c0, c1, c2, c3, c4, c5, c6, c7, c8] := by
    match cs, hl with | [c0, c1, c2, c3, c4, c5, c6, c7, c8], _ => exact ⟨_, _, _, _, _, _, _, _, _, rfl⟩
  have f0 : DataW.trod enc Tryz.prog W 0 (fun _ => true) true n 3 [c0] = some y0 := (congrArg (fun k => DataW.trod enc Tryz.prog W 0 (fun _ => true) true n 3 (([c0, c1, c2, c3, c4, c5, c6, c7, c8].drop 0).take k)) (show Tryz.prog.cellsOf 3 = 1 by kernel_rfl)).symm.trans (hf 0 _ rfl)
  have g0 := weights_struct Tryz.underlying67 hw 0 _ y0.1 rfl rfl
  have f1 : DataW.trod enc Tryz.prog W 0 (fun _ => true) true n 3 [c1] = some y1 := (congrArg (fun k => DataW.trod enc Tryz.prog W 0 (fun _ => true) true n 3 (([c0, c1, c2, c3, c4, c5, c6, c7, c8].drop 1).take k)) (show Tryz.prog.cellsOf 3 = 1 by kernel_rfl)).symm.trans (hf 1 _ rfl)
  have g1 := weights_struct Tryz.underlying67 hw 1 _ y1.1 rfl rfl
  have f2 : DataW.trod enc Tryz.prog W 0 (fun _ => true) true n 3 [c2] = some y2 := (congrArg (fun k => DataW.trod enc Tryz.prog W 0 (fun _ => true) true n 3 (([c0, c1, c2, c3, c4, c5, c6, c7, c8].drop 2).take k)) (show Tryz.prog.cellsOf 3 = 1 by kernel_rfl)).symm.trans (hf 2 _ rfl)
  have g2 := weights_struct Tryz.underlying67 hw 2 _ y2.1 rfl rfl
  have f3 : DataW.trod enc Tryz.prog W 0 (fun _ => true) true n 3 [c3] = some y3 := (congrArg (fun k => DataW.trod enc Tryz.prog W 0 (fun _ => true) true n 3 (([c0, c1, c2, c3, c4, c5, c6, c7, c8].drop 3).take k)) (show Tryz.prog.cellsOf 3 = 1 by kernel_rfl)).symm.trans (hf 3 _ rfl)
  have g3 := weights_struct Tryz.underlying67 hw 3 _ y3.1 rfl rfl
  have f4 : DataW.trod enc Tryz.prog W 0 (fun _ => true) true n 9 [c4] = some y4 := (congrArg (fun k => DataW.trod enc Tryz.prog W 0 (fun _ => true) true n 9 (([c0, c1, c2, c3, c4, c5, c6, c7, c8].drop 4).take k)) (show Tryz.prog.cellsOf 9 = 1 by kernel_rfl)).symm.trans (hf 4 _ rfl)
  have g4 := weights_struct Tryz.underlying67 hw 4 _ y4.1 rfl rfl
  have f5 : DataW.trod enc Tryz.prog W 0 (fun _ => true) true n 3 [c5] = some y5 := (congrArg (fun k => DataW.trod enc Tryz.prog W 0 (fun _ => true) true n 3 (([c0, c1, c2, c3, c4, c5, c6, c7, c8].drop 5).take k)) (show Tryz.prog.cellsOf 3 = 1 by kernel_rfl)).symm.trans (hf 5 _ rfl)
  have g5 := weights_struct Tryz.underlying67 hw 5 _ y5.1 rfl rfl
  have f6 : DataW.trod enc Tryz.prog W 0 (fun _ => true) true n 65 [c6] = some y6 := (congrArg (fun k => DataW.trod enc Tryz.prog W 0 (fun _ => true) true n 65 (([c0, c1, c2, c3, c4, c5, c6, c7, c8].drop 6).take k)) (show Tryz.prog.cellsOf 65 = 1 by kernel_rfl)).symm.trans (hf 6 _ rfl)
  have g6 := weights_struct Tryz.underlying67 hw 6 _ y6.1 rfl rfl
  have f7 : DataW.trod enc Tryz.prog W 0 (fun _ => true) true n 4 [c7] = some y7 := (congrArg (fun k => DataW.trod enc Tryz.prog W 0 (fun _ => true) true n 4 (([c0, c1, c2, c3, c4, c5, c6, c7, c8].drop 7).take k)) (show Tryz.prog.cellsOf 4 = 1 by kernel_rfl)).symm.trans (hf 7 _ rfl)
  have g7 := weights_struct Tryz.underlying67 hw 7 _ y7.1 rfl rfl
  have f8 : DataW.trod enc Tryz.prog W 0 (fun _ => true) true n 3 [c8] = some y8 := (congrArg (fun k => DataW.trod enc Tryz.prog W 0 (fun _ => true) true n 3 (([c0, c1, c2, c3, c4, c5, c6, c7, c8].drop 8).take k)) (show Tryz.prog.cellsOf 3 = 1 by kernel_rfl)).symm.trans (hf 8 _ rfl)
  have g8 := weights_struct Tryz.underlying67 hw 8 _ y8.1 rfl rfl
  obtain ⟨n0, e0, rfl, wf0⟩ := DataW.trod_int Tryz.underlying3 f0
  obtain rfl : c0 = .int .i64 n0 := by simpa using e0
  obtain ⟨n1, e1, rfl, wf1⟩ := DataW.trod_int Tryz.underlying3 f1
  obtain rfl : c1 = .int .i64 n1 := by simpa using e1
  obtain ⟨n2, e2, rfl, wf2⟩ := DataW.trod_int Tryz.underlying3 f2
  obtain rfl : c2 = .int .i64 n2 := by simpa using e2
  obtain ⟨n3, e3, rfl, wf3⟩ := DataW.trod_int Tryz.underlying3 f3
  obtain rfl : c3 = .int .i64 n3 := by simpa using e3
  obtain ⟨s4, e4, rfl, ws4⟩ := DataW.trod_string Tryz.underlying9 f4
  obtain rfl : c4 = .string s4 := by simpa using e4
  obtain ⟨n5, e5, rfl, wf5⟩ := DataW.trod_int Tryz.underlying3 f5
  obtain rfl : c5 = .int .i64 n5 := by simpa using e5
  obtain ⟨v6, l6, e6, hs6, hl6⟩ := open_rsl Tryz.underlying65 (show Tryz.prog.cellsOf 85 = 8 by kernel_rfl) (by decide) (show Tryz.prog.bytesOf 85 = 64 by kernel_rfl) opn_why f6 g6
  obtain rfl : c6 = v6 := by simpa using e6
  obtain ⟨b7, e7, rfl⟩ := DataW.trod_bool Tryz.underlying4 f7
  obtain rfl : c7 = .bool b7 := by simpa using e7
  obtain ⟨n8, e8, rfl, wf8⟩ := DataW.trod_int Tryz.underlying3 f8
  obtain rfl : c8 = .int .i64 n8 := by simpa using e8
  exact ⟨(n0, n1, n2, n3, s4, n5, l6, b7, n8), _, rfl, hs6, hl6, ⟨wf_i64 wf1, wf_i64 wf2, wf_i64 wf3, wf_i64 wf5⟩, ws4⟩
theorem opn_rep {W : World} : Opn Tryz.prog W 25 RRep := by
  intro H enc fuel cs x h hw
  obtain ⟨xs, n, _, rfl, hl, hlen, hf⟩ := DataW.trod_struct Tryz.underlying25 h
  rw [show Tryz.prog.cellsOf 25 = 6 by kernel_rfl] at hl
  obtain ⟨y0, y1, y2, y3, y4, y5, rfl⟩ : ∃ y0 y1 y2 y3 y4 y5, xs = [y0, y1, y2, y3, y4, y5] := by
    match xs, hlen with | [y0, y1, y2, y3, y4, y5], _ => exact ⟨_, _, _, _, _, _, rfl⟩
  obtain ⟨c0, c1, c2, c3, c4, c5, rfl⟩ : ∃ c0 c1 c2 c3 c4 c5, cs = [c0, c1, c2, c3, c4, c5] := by
    match cs, hl with | [c0, c1, c2, c3, c4, c5], _ => exact ⟨_, _, _, _, _, _, rfl⟩
  have f0 : DataW.trod enc Tryz.prog W 0 (fun _ => true) true n 3 [c0] = some y0 := (congrArg (fun k => DataW.trod enc Tryz.prog W 0 (fun _ => true) true n 3 (([c0, c1, c2, c3, c4, c5].drop 0).take k)) (show Tryz.prog.cellsOf 3 = 1 by kernel_rfl)).symm.trans (hf 0 _ rfl)
  have g0 := weights_struct Tryz.underlying25 hw 0 _ y0.1 rfl rfl
  have f1 : DataW.trod enc Tryz.prog W 0 (fun _ => true) true n 4 [c1] = some y1 := (congrArg (fun k => DataW.trod enc Tryz.prog W 0 (fun _ => true) true n 4 (([c0, c1, c2, c3, c4, c5].drop 1).take k)) (show Tryz.prog.cellsOf 4 = 1 by kernel_rfl)).symm.trans (hf 1 _ rfl)
  have g1 := weights_struct Tryz.underlying25 hw 1 _ y1.1 rfl rfl
  have f2 : DataW.trod enc Tryz.prog W 0 (fun _ => true) true n 22 [c2] = some y2 := (congrArg (fun k => DataW.trod enc Tryz.prog W 0 (fun _ => true) true n 22 (([c0, c1, c2, c3, c4, c5].drop 2).take k)) (show Tryz.prog.cellsOf 22 = 1 by kernel_rfl)).symm.trans (hf 2 _ rfl)
  have g2 := weights_struct Tryz.underlying25 hw 2 _ y2.1 rfl rfl
  have f3 : DataW.trod enc Tryz.prog W 0 (fun _ => true) true n 3 [c3] = some y3 := (congrArg (fun k => DataW.trod enc Tryz.prog W 0 (fun _ => true) true n 3 (([c0, c1, c2, c3, c4, c5].drop 3).take k)) (show Tryz.prog.cellsOf 3 = 1 by kernel_rfl)).symm.trans (hf 3 _ rfl)
  have g3 := weights_struct Tryz.underlying25 hw 3 _ y3.1 rfl rfl
  have f4 : DataW.trod enc Tryz.prog W 0 (fun _ => true) true n 3 [c4] = some y4 := (congrArg (fun k => DataW.trod enc Tryz.prog W 0 (fun _ => true) true n 3 (([c0, c1, c2, c3, c4, c5].drop 4).take k)) (show Tryz.prog.cellsOf 3 = 1 by kernel_rfl)).symm.trans (hf 4 _ rfl)
  have g4 := weights_struct Tryz.underlying25 hw 4 _ y4.1 rfl rfl
  have f5 : DataW.trod enc Tryz.prog W 0 (fun _ => true) true n 23 [c5] = some y5 := (congrArg (fun k => DataW.trod enc Tryz.prog W 0 (fun _ => true) true n 23 (([c0, c1, c2, c3, c4, c5].drop 5).take k)) (show Tryz.prog.cellsOf 23 = 1 by kernel_rfl)).symm.trans (hf 5 _ rfl)
  have g5 := weights_struct Tryz.underlying25 hw 5 _ y5.1 rfl rfl
  obtain ⟨n0, e0, rfl, wf0⟩ := DataW.trod_int Tryz.underlying3 f0
  obtain rfl : c0 = .int .i64 n0 := by simpa using e0
  obtain ⟨b1, e1, rfl⟩ := DataW.trod_bool Tryz.underlying4 f1
  obtain rfl : c1 = .bool b1 := by simpa using e1
  obtain ⟨v2, l2, e2, hs2, hl2⟩ := open_rsl Tryz.underlying22 (show Tryz.prog.cellsOf 67 = 9 by kernel_rfl) (by decide) (show Tryz.prog.bytesOf 67 = 96 by kernel_rfl) opn_an f2 g2
  obtain rfl : c2 = v2 := by simpa using e2
  obtain ⟨n3, e3, rfl, wf3⟩ := DataW.trod_int Tryz.underlying3 f3
  obtain rfl : c3 = .int .i64 n3 := by simpa using e3
  obtain ⟨n4, e4, rfl, wf4⟩ := DataW.trod_int Tryz.underlying3 f4
  obtain rfl : c4 = .int .i64 n4 := by simpa using e4
  obtain ⟨v5, l5, e5, hs5, hl5, hx5⟩ := open_slW Tryz.underlying23 Tryz.underlying3 (by kernel_rfl) (show Tryz.prog.bytesOf 3 = 8 by kernel_rfl) f5 g5
  obtain rfl : c5 = v5 := by simpa using e5
  exact ⟨(n0, b1, l2, n3, n4, l5), _, _, rfl, hs2, hs5, hl2, hl5, wf_i64 wf0, fun z hz => wf_i64 (hx5 z hz)⟩
end Go.Proofs.YtbnllchicnmkiaaGreatDoor
end
