/-
  Maps from integers to bools that the call itself has made.
-/
import Derived.Test.YtaldkbdnefpklaaDoorMem3
import Derived.Maps.Own
import Derived.Maps.OwnSet
import Derived.Maps.Views
namespace Sg
open Go Go.RowKit
/-- Block b is a map of at most n entries, and this is what it says of each integer (false where nothing lies). -/
def MB (P : Program) (k e : TypeId) (w : World) (b n : Nat) (S : Int → Bool) : Prop := ∃ D : DataW Unit, w.ownsMap P k (plainElem P e) b n D ∧ ∀ z, D.atKey (.int .i64 z) (.lit (.bool false)) = .lit (.bool (S z))
theorem MB.ch {P : Program} {k e : TypeId} {w w' : World} {b n : Nat} {S : Int → Bool} {F : Nat → Prop} (h : MB P k e w b n S) (c : Ch F w w') (hb : ¬ F b) : MB P k e w' b n S := by
  obtain ⟨D, ⟨es, clock, hb', F', hs, hD⟩, hS⟩ := h
  exact ⟨D, ⟨es, clock, c.at hb' hb, F', hs, hD⟩, hS⟩
theorem MB.lt {P : Program} {k e : TypeId} {w : World} {b n : Nat} {S : Int → Bool} (h : MB P k e w b n S) : b < w.heap.size := by
  obtain ⟨D, h, _⟩ := h; exact h.lt
section
variable {P : Program} {n : Nat} {Q : Post} {σ : Env} {w : World} {ops : Array Oper} {rest : List Oper}
variable {d : Nat} {t xt : TypeId} {pos : String} {af : Array Edge} {m x v : Operand} {k e : TypeId} {b c : Nat} {S : Int → Bool} {z : Int}
theorem WL.mkMap (hn : Nat.blt d n = true) (h : ∀ w', MB P k e w' w.heap.size 0 (fun _ => false) → Ch0 w w' → w'.heap.size = w.heap.size + 1 → WL P n ops Q rest (up σ d (.map (some w.heap.size))) w') :
    WL P n ops Q (⟨some d, .makeMap xt none, t, pos, af, none⟩ :: rest) σ w := by
  have hnw := nw_alloc w (.map #[] 0)
  refine WL.step (w' := w.alloc (.map #[] 0)) rfl rfl hn ?_ (h _ ⟨.map [], World.ownsMap_made w P k _, fun z => rfl⟩ hnw.ch hnw.size)
  simp [execOp, run_makeMap]
theorem X.look {bytes : Nat} (ht : P.underlying xt = some (.map k e)) (hk : P.underlying k = some (.int .i64)) (he : P.underlying e = some .bool) (hel : Elem P e 1 (.bool false) bytes) (h1 : ev σ m = .map (some b)) (h2 : ev σ x = .int .i64 z)
    (hz : (Lit.int .i64 z).wf = true) (h : MB P k e w b c S) : X P σ w (.lookup xt m x false) t (.bool (S z)) := fun _ _ _ _ => by
  obtain ⟨D, hD, hS⟩ := h
  obtain ⟨i, hi, _, hzv, _⟩ := hel
  have hzero : (zeroValue e).run P w = .ok (.bool false) w := by simp [zeroValue, typeInfo, hi, hzv]
  obtain ⟨v, ps, hrun, hv⟩ := hD.lookup (Maps.int_keyed hk) ht hzero (plainElem_bool he false) (Maps.keyOf_int_mk hk hz)
  rw [hS z] at hv
  have hv2 : v = .bool (S z) := by
    unfold plainElem at hv
    rw [he] at hv
    cases v <;> simp_all
  subst hv2
  simp [execOp, h1, h2, hrun]
theorem WL.mapSet (ht : P.underlying xt = some (.map k e)) (hk : P.underlying k = some (.int .i64)) (he : P.underlying e = some .bool) (h1 : ev σ m = .map (some b)) (h2 : ev σ x = .int .i64 z) (h3 : ev σ v = .bool true)
    (hz : (Lit.int .i64 z).wf = true) (hc : c < maxLen) (h : MB P k e w b c S) (hk2 : ∀ w', MB P k e w' b (c + 1) (fun y => S y || decide (y = z)) → Ch (fun i => i = b) w w' → WL P n ops Q rest σ w') :
    WL P n ops Q (⟨none, .mapUpdate xt m x v, t, pos, af, none⟩ :: rest) σ w := by
  obtain ⟨D, hD, hS⟩ := h
  have hkey := Maps.keyOf_int_mk hk hz
  obtain ⟨w', hrun, hD', hg⟩ := hD.update (Maps.int_keyed hk) ht hc hkey (plainElem_bool he true)
  refine WL.skp (w' := w') rfl rfl ?_ (hk2 w' ⟨_, hD', fun y => ?_⟩ ⟨hg.os, hg.tape, hg.output, hg.size, fun i hi hn => hg.block i hi (fun e => hn (by have := Option.some.inj e; first | exact this | exact this.symm))⟩)
  · simp [execOp, h1, h2, h3, hrun]
  · by_cases e9 : y = z
    · subst e9
      rw [Maps.atKey_put_same hD.isMap ((Maps.int_keyed hk).key hkey)]
      simp
    · show _ = DataW.lit (Lit.bool (S y || decide (y = z)))
      rw [Maps.atKey_put_other (fun e => e9 (by injection e)), hS y, decide_eq_false e9, Bool.or_false]
end
end Sg
