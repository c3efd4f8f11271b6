/-
  Maps from strings to integers that the call itself has made: written, looked up, ranged over.
-/
import Derived.Test.YtbnllchicnmkiaaDoorStrs
import Derived.StringKeys
import Derived.Maps.Own
import Derived.Maps.OwnSet
import Derived.Maps.Views
import Derived.Maps.RangeWalk
set_option linter.unusedVariables false
set_option linter.unusedSimpArgs false
namespace Sg
open Go Go.RowKit
/-- What a map says: of each string its integer, or none. -/
abbrev SI := ByteArray → Option Int
def keyS (s : ByteArray) : Lit := .string s.data.toList
theorem keyS_inj {a b : ByteArray} (h : keyS a = keyS b) : a = b := by
  unfold keyS at h
  injection h with h
  exact ByteArray.ext (Array.toList_inj.1 h)
/-- The datum says what S says. -/
def DS (D : DataW Unit) (S : SI) : Prop := (∀ s zd, D.atKey (keyS s) zd = match S s with | some c => .lit (.int .i64 c) | none => zd) ∧ ∀ s, Maps.has D (keyS s) = (S s).isSome
/-- Block b is a map of at most n entries that says S. -/
def MS (P : Program) (k e : TypeId) (w : World) (b n : Nat) (S : SI) : Prop := ∃ D : DataW Unit, w.ownsMap P k (plainElem P e) b n D ∧ DS D S
theorem MS.ch {P : Program} {k e : TypeId} {w w' : World} {b n : Nat} {S : SI} {F : Nat → Prop} (h : MS P k e w b n S) (c : Ch F w w') (hb : ¬ F b) : MS P k e w' b n S := by
  obtain ⟨D, ⟨es, clock, hb', F', hs, hD⟩, hS⟩ := h
  exact ⟨D, ⟨es, clock, c.at hb' hb, F', hs, hD⟩, hS⟩
theorem MS.lt {P : Program} {k e : TypeId} {w : World} {b n : Nat} {S : SI} (h : MS P k e w b n S) : b < w.heap.size := by
  obtain ⟨D, h, _⟩ := h; exact h.lt
/-- Block r goes through block b; left: which strings are still to come. -/
def MR (P : Program) (k e : TypeId) (w : World) (b r n : Nat) (S : SI) (left : ByteArray → Bool) (cnt : Nat) : Prop :=
  ∃ (D : DataW Unit) (lf : Lit → Bool), w.ranges P k (plainElem P e) b r n D lf cnt ∧ DS D S ∧ ∀ s, lf (keyS s) = left s
/-- What a step hands back. -/
def nvA : Option (ByteArray × Int) → Array Value
  | none => #[.bool false]
  | some (s, c) => #[.bool true, .string s, .int .i64 c]
theorem nvA_0 (y : Option (ByteArray × Int)) : (nvA y)[0]? = some (.bool y.isSome) := by cases y <;> rfl
section
variable {P : Program} {n : Sz} {Q : Post} {σ : Env} {w : World} {ops : Array Oper} {rest : List Oper}
variable {d : Nat} {t xt : TypeId} {pos : String} {af : Array Edge} {m x v : Operand} {k e : TypeId} {b c r : Nat} {S : SI} {s : ByteArray} {z : Int}
theorem WL.mkMapS (hn : Nat.blt d n.sz = true) (h : ∀ w', MS P k e w' w.heap.size 0 (fun _ => none) → Ch0 w w' → w'.heap.size = w.heap.size + 1 → WL P n ops Q rest (up σ d (.map (some w.heap.size))) w') :
    WL P n ops Q (⟨some d, .makeMap xt none, t, pos, af, none⟩ :: rest) σ w := by
  have hnw := nw_alloc w (.map #[] 0)
  refine WL.step (w' := w.alloc (.map #[] 0)) rfl rfl hn ?_ (h _ ⟨.map [], World.ownsMap_made w P k _, fun s zd => rfl, fun s => rfl⟩ hnw.ch hnw.size)
  simp [execOp, run_makeMap]
theorem X.lookS {bytes : Nat} (ht : P.underlying xt = some (.map k e)) (hk : P.underlying k = some .string) (he : P.underlying e = some (.int .i64)) (hel : Elem P e 1 (.int .i64 0) bytes) (h1 : ev σ m = .map (some b)) (h2 : ev σ x = .string s)
    (hs : s.size ≤ maxLen) (h : MS P k e w b c S) : X P σ w (.lookup xt m x false) t (.int .i64 ((S s).getD 0)) := fun _ _ _ _ => by
  obtain ⟨D, hD, hS, -⟩ := h
  obtain ⟨i, hi, _, hzv, _⟩ := hel
  have hzero : (zeroValue e).run P w = .ok (.int .i64 0) w := by simp [zeroValue, typeInfo, hi, hzv]
  obtain ⟨c, hrun, hat, -⟩ := hD.lookup_int (Maps.Keyed.of_law (WideMaps.string_law hk)) ht he hzero (WideMaps.keyOf_string_mk hk hs)
  have h9 := hS s (.lit (.int .i64 0))
  have h8 : D.atKey (keyS s) (.lit (.int .i64 0)) = .lit (.int .i64 c) := hat
  rw [h8] at h9
  have hc : c = (S s).getD 0 := by
    cases hq : S s with
    | none => rw [hq] at h9; injection h9 with h9; injection h9
    | some y => rw [hq] at h9; injection h9 with h9; injection h9
  subst hc
  simp [execOp, h1, h2, hrun]
theorem WL.insS (ht : P.underlying xt = some (.map k e)) (hk : P.underlying k = some .string) (he : P.underlying e = some (.int .i64)) (h1 : ev σ m = .map (some b)) (h2 : ev σ x = .string s) (h3 : ev σ v = .int .i64 z)
    (hs : s.size ≤ maxLen) (hz : (Lit.int .i64 z).wf = true) (hc : c < maxLen) (h : MS P k e w b c S) (hk2 : ∀ w', MS P k e w' b (c + 1) (fun y => if y = s then some z else S y) → Ch (fun i => i = b) w w' → WL P n ops Q rest σ w') :
    WL P n ops Q (⟨none, .insert xt m x v, t, pos, af, none⟩ :: rest) σ w := by
  obtain ⟨D, hD, hS, hH⟩ := h
  have hkey := WideMaps.keyOf_string_mk (P := P) hk hs
  have K : Maps.Keyed P k := Maps.Keyed.of_law (WideMaps.string_law hk)
  obtain ⟨w', hrun, hD', hg⟩ := hD.update K ht hc hkey (plainElem_int he hz)
  refine WL.skp (w' := w') rfl rfl ?_ (hk2 w' ⟨_, hD', fun y zd => ?_, fun y => ?_⟩ ⟨hg.os, hg.tape, hg.output, hg.size, fun i hi hn => hg.block i hi (fun e => hn (by have := Option.some.inj e; first | exact this | exact this.symm))⟩)
  · simp [execOp, h1, h2, h3, hrun]
  · by_cases e9 : y = s
    · subst e9
      dsimp only
      rw [if_pos rfl]
      exact Maps.atKey_put_same hD.isMap (K.key hkey) _ _
    · dsimp only
      rw [if_neg e9, ← hS y zd]
      exact Maps.atKey_put_other (fun e => e9 (keyS_inj e)) _ _
  · by_cases e9 : y = s
    · subst e9
      dsimp only
      rw [if_pos rfl]
      exact Maps.has_put_same hD.isMap (K.key hkey) _
    · dsimp only
      rw [if_neg e9, ← hH y]
      exact Maps.has_put_other (fun e => e9 (keyS_inj e)) _
theorem WL.rangeS (ht : P.underlying xt = some (.map k e)) (hk : P.underlying k = some .string) (h1 : ev σ m = .map (some b)) (hn : Nat.blt d n.sz = true) (h : MS P k e w b c S)
    (hk2 : ∀ w' cnt, MR P k e w' b w.heap.size c S (fun s => (S s).isSome) cnt → Ch0 w w' → w'.heap.size = w.heap.size + 1 → WL P n ops Q rest (up σ d (.pointer (some ⟨w.heap.size, 0, none⟩))) w') :
    WL P n ops Q (⟨some d, .range xt m, t, pos, af, none⟩ :: rest) σ w := by
  obtain ⟨D, hD, hS⟩ := h
  have K : Maps.Keyed P k := Maps.Keyed.of_law (WideMaps.string_law hk)
  obtain ⟨w', hrun, hr, hg, hz⟩ := hD.range K ht
  refine WL.step (w' := w') rfl rfl hn ?_ (hk2 w' _ ⟨D, _, hr, hS, fun s => hS.2 s⟩ ⟨hg.os, hg.tape, hg.output, hg.size, fun i hi _ => hg.block i hi (by simp)⟩ hz)
  simp [execOp, h1, hrun]
theorem WL.nextS (hk : P.underlying k = some .string) (he : P.underlying e = some (.int .i64)) {left : ByteArray → Bool} {cnt : Nat} (h1 : ev σ x = .pointer (some ⟨r, 0, none⟩)) (hn : Nat.blt d n.sz = true) (h : MR P k e w b r c S left cnt)
    (hk2 : ∀ w' y, (match y with
        | none => (∀ s, left s = false)
        | some (s, z) => left s = true ∧ S s = some z ∧ (∃ cnt', cnt' < cnt ∧ MR P k e w' b r c S (fun q => left q && !decide (q = s)) cnt') ∧ (Instr.entry (.pointer (some ⟨r, 0, none⟩))).run P w' = .ok (.tuple #[.string s, .int .i64 z]) w') →
      Ch (fun i => i = r) w w' → w'.heap.size = w.heap.size → WL P n ops Q rest (up σ d (.tuple (nvA y))) w') :
    WL P n ops Q (⟨some d, .next x false, t, pos, af, none⟩ :: rest) σ w := by
  obtain ⟨D, lf, hr, hS, hl⟩ := h
  have K : Maps.Keyed P k := Maps.Keyed.of_law (WideMaps.string_law hk)
  rcases hr.next K t with ⟨h0, hall, hrun⟩ | ⟨key, v, kl, y, w', cnt', hkey, hlk, hv, hat, hrun, hrg, hlt, hgr, hsz, hen⟩
  · refine WL.step (w' := w) rfl rfl hn ?_ (hk2 w none (fun s => (hl s).symm.trans (hall _)) (Ch.refl _ _) rfl)
    simp [execOp, h1, hrun, nvA]
  · obtain ⟨s, rfl, rfl, hs⟩ := WideMaps.string_of_keyOf hk hkey
    obtain ⟨z, rfl, hy, _⟩ := plainElem_int_inv he hv
    have hSz : S s = some z := by
      have h9 := hS.1 s (.lit (.int .i64 (z + 1)))
      have h8 : D.atKey (keyS s) (.lit (.int .i64 (z + 1))) = y.1 := hat _
      rw [h8, hy] at h9
      cases hq : S s with
      | none => rw [hq] at h9; injection h9 with h9; injection h9 with _ h9; omega
      | some c9 => rw [hq] at h9; injection h9 with h9; injection h9 with _ h9; rw [h9]
    refine WL.step (w' := w') rfl rfl hn ?_ (hk2 w' (some (s, z)) ⟨(hl s).symm.trans hlk, hSz, ⟨cnt', hlt, D, _, hrg, hS, fun q => ?_⟩, hen⟩ ⟨hgr.os, hgr.tape, hgr.output, hgr.size, fun i hi hn => hgr.block i hi (fun e => hn (by have := Option.some.inj e; first | exact this | exact this.symm))⟩ hsz)
    · simp [execOp, h1, hrun, nvA]
    · show (lf (keyS q) && !(keyS q).sameKey (.string s.data.toList)) = _
      rw [hl q]
      congr 1
      congr 1
      by_cases e9 : q = s
      · subst e9; rw [decide_eq_true rfl]; exact WideAt.sameKey_self (K.key hkey)
      · rw [decide_eq_false e9]
        cases hq : (keyS q).sameKey (.string s.data.toList) with
        | false => rfl
        | true => exact (e9 (keyS_inj (WideAt.sameKey_eq hq))).elim
theorem X.entryS {s : ByteArray} (h1 : ev σ x = .pointer (some ⟨r, 0, none⟩)) (h : (Instr.entry (.pointer (some ⟨r, 0, none⟩))).run P w = .ok (.tuple #[.string s, .int .i64 z]) w) : X P σ w (.entry x) t (.tuple #[.string s, .int .i64 z]) := fun _ _ _ _ => by
  simp [execOp, h1, h]
end
end Sg
