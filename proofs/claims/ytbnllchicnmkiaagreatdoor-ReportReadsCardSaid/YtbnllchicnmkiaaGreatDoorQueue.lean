/-
  Rows that are read from somewhere in them: what was cut off in front plays no part (queues).
-/
import Derived.Test.YtbnllchicnmkiaaGreatDoorReads
import Derived.ArgAppend
namespace Sg
open Go Go.RowKit

def QRow (w : World) (base : Nat) (e : TypeId) (v : Value) (xs : List Value) : Prop :=
  (v = .slice none 0 0 ∧ xs = []) ∨ ∃ g o cap cur, v = .slice (some ⟨g, o, none⟩) xs.length cap ∧ base ≤ g ∧ w.heap[g]? = some (.cells cur e (0, 0)) ∧ xs.length ≤ cap ∧ cap ≤ maxLen ∧ o + cap ≤ cur.size ∧ ∀ j, j < xs.length → cur[o + j]? = xs[j]?
theorem QRow.nil {w : World} {base : Nat} {e : TypeId} : QRow w base e (.slice none 0 0) [] := .inl ⟨rfl, rfl⟩
theorem QRow.own {w : World} {base m : Nat} {e : TypeId} {v : Value} {xs : List Value} (h : w.ownsRow base e 1 v m xs) : QRow w base e v xs := by
  obtain ⟨hl, h⟩ := h
  rcases h with ⟨rfl, rfl⟩ | ⟨g, cap, cur, rfl, hb, hg, hc, hm, hs, ht⟩
  · exact .inl ⟨rfl, List.eq_nil_of_length_eq_zero (by simpa using hl)⟩
  · have hm' : xs.length = m := by omega
    subst hm'
    refine .inr ⟨g, 0, cap, cur, rfl, hb, hg, hc, hm, by omega, fun j hj => ?_⟩
    rw [← ht, List.getElem?_take, if_pos (by omega)]
    simp
theorem QRow.sl {w : World} {base : Nat} {e : TypeId} {v : Value} {xs : List Value} (h : QRow w base e v xs) : Sl w v xs := by
  rcases h with ⟨rfl, rfl⟩ | ⟨g, o, cap, cur, rfl, _, hg, hc, _, _, ht⟩
  · exact .inl ⟨rfl, _, 0, rfl⟩
  · exact .inr ⟨g, o, cap, cur, e, (0, 0), rfl, hc, hg, ht⟩
theorem QRow.lt {w : World} {base : Nat} {e : TypeId} {v : Value} {xs : List Value} (h : QRow w base e v xs) {k : Nat} (hk : slBlk v k) : base ≤ k ∧ k < w.heap.size := by
  rcases h with ⟨rfl, _⟩ | ⟨g, o, cap, cur, rfl, hb, hg, _⟩
  · exact hk.elim
  · have : k = g := hk
    subst this
    exact ⟨hb, lt_of_blk hg⟩
theorem QRow.ch {F : Nat → Prop} {w w' : World} {base : Nat} {e : TypeId} {v : Value} {xs : List Value} (h : QRow w base e v xs) (c : Ch F w w') (hn : ∀ k, slBlk v k → ¬ F k) : QRow w' base e v xs := by
  rcases h with h | ⟨g, o, cap, cur, rfl, hb, hg, rest⟩
  · exact .inl h
  · exact .inr ⟨g, o, cap, cur, rfl, hb, c.at hg (hn g rfl), rest⟩
theorem QRow.ch0 {w w' : World} {base : Nat} {e : TypeId} {v : Value} {xs : List Value} (h : QRow w base e v xs) (c : Ch0 w w') : QRow w' base e v xs := h.ch c (fun _ _ => id)
theorem QRow.len {w : World} {base : Nat} {e : TypeId} {v : Value} {xs : List Value} (h : QRow w base e v xs) : ∃ a cap, v = .slice a xs.length cap := h.sl.len
theorem QRow.base {w : World} {base b2 : Nat} {e : TypeId} {v : Value} {xs : List Value} (h : QRow w base e v xs) (hb : b2 ≤ base) : QRow w b2 e v xs := by
  rcases h with h | ⟨g, o, cap, cur, rfl, hb', rest⟩
  · exact .inl h
  · exact .inr ⟨g, o, cap, cur, rfl, by omega, rest⟩
theorem QRow.head {w : World} {base : Nat} {e : TypeId} {v u : Value} {us : List Value} (h : QRow w base e v (u :: us)) : ∃ g o cap cs, v = .slice (some ⟨g, o, none⟩) (us.length + 1) cap ∧ w.heap[g]? = some (.cells cs e (0, 0)) ∧ cs[o]? = some u := by
  rcases h with ⟨_, h0⟩ | ⟨g, o, cap, cur, rfl, hb, hg, hc, hm, hs', ht⟩
  · cases h0
  · exact ⟨g, o, cap, cur, rfl, hg, by have := ht 0 (by simp); simpa using this⟩
/-- The block is of this element type. -/
theorem QRow.ty {w : World} {base : Nat} {e : TypeId} {v : Value} {xs : List Value} (h : QRow w base e v xs) {k : Nat} (hk : slBlk v k) : ∃ cs, w.heap[k]? = some (.cells cs e (0, 0)) := by
  rcases h with ⟨rfl, _⟩ | ⟨g, o, cap, cur, rfl, hb, hg, _⟩
  · exact hk.elim
  · have : k = g := hk
    subst this
    exact ⟨_, hg⟩

section
variable {P : Program} {n : Sz} {Q : Post} {σ : Env} {w : World} {ops : Array Oper} {rest : List Oper}
variable {d : Nat} {t xt yt : TypeId} {pos : String} {af : Array Edge} {v : Value} {x y : Operand} {b o : Nat} {cs : Array Value} {T : TypeId} {fr : Nat × Nat}

/-- x[l:] -/
theorem X.slL {e : TypeId} {z : Value} {bytes size len cap : Nat} {a : Addr} {kl : IntKind} {l : Int} {lo : Operand} (hs : P.underlying xt = some (.slice e)) (he : Elem P e size z bytes) (hx : ev σ x = .slice (some a) len cap)
    (h1 : ev σ lo = .int kl l) (g0 : 0 ≤ l) (g1 : l ≤ len) : X P σ w (.slice xt x (some lo) none none) t (.slice (some (if (cap : Int) = l then a else a.add (l.toNat * size))) (len - l).toNat (cap - l).toNat) := fun _ _ _ _ => by
  obtain ⟨i, hi', rfl, _⟩ := he
  have hb : (Instr.sliceBounds true len cap (some (.int kl l)) none none).run P w = .ok (l.toNat, len, cap) w := by
    simp [Instr.sliceBounds, run_sliceBound (P := P) w kl l len _ (by omega) (by omega)]
  have e1 : len - l.toNat = (len - l).toNat := by omega
  have e2 : cap - l.toNat = (cap - l).toNat := by omega
  have e3 : (cap = l.toNat) ↔ (cap : Int) = l := by omega
  simp [execOp, hx, h1, Instr.sliceAt, Instr.slice, run_underlying hs, hb, Go.sizeOf, typeInfo, hi', e1, e2, e3]
  split <;> rfl
/-- The first one is cut off. -/
theorem WL.popQ {e : TypeId} {z u : Value} {bytes base : Nat} {kl : IntKind} {lo : Operand} {us : List Value} (hs : P.underlying xt = some (.slice e)) (he : Elem P e 1 z bytes) (hx : ev σ x = v) (h1 : ev σ lo = .int kl 1)
    (hq : QRow w base e v (u :: us)) (hn : Nat.blt d n.sz = true) (h : ∀ v', QRow w base e v' us → (∀ k, slBlk v' k → slBlk v k) → WL P n ops Q rest (up σ d v') w) : WL P n ops Q (⟨some d, .slice xt x (some lo) none none, t, pos, af, none⟩ :: rest) σ w := by
  rcases hq with ⟨_, h0⟩ | ⟨g, o, cap, cur, rfl, hb, hg, hc, hm, hs', ht⟩
  · cases h0
  · simp only [List.length_cons] at *
    refine WL.x (X.slL (w := w) (t := t) hs he hx h1 (by omega) (by omega)) hn ?_
    have e1 : (((us.length + 1 : Nat) : Int) - 1).toNat = us.length := by omega
    have e2 : ((cap : Int) - 1).toNat = cap - 1 := by omega
    rw [e1, e2]
    by_cases h1 : (cap : Int) = 1
    · rw [if_pos h1]
      refine h _ (.inr ⟨g, o, cap - 1, cur, rfl, hb, hg, by omega, by omega, by omega, fun j hj => absurd hj (by omega)⟩) (fun k hk => hk)
    · rw [if_neg h1]
      have hadd : (⟨g, o, none⟩ : Addr).add ((1 : Int).toNat * 1) = ⟨g, o + 1, none⟩ := by unfold Addr.add; split <;> simp_all
      rw [hadd]
      refine h _ (.inr ⟨g, o + 1, cap - 1, cur, rfl, hb, hg, by omega, by omega, by omega, fun j hj => ?_⟩) (fun k hk => hk)
      have := ht (j + 1) (by omega)
      rw [show o + 1 + j = o + (j + 1) by omega, this]
      simp

theorem WL.pushQ {s : Operand} {ty : TypeId} {e : TypeId} {bytes base c : Nat} {z vs u : Value} {xs : List Value} (hs : P.underlying xt = some (.slice e)) (he : Elem P e 1 z bytes) (hz : z.cells.size = 1)
    (h1 : ev σ s = vs) (h2 : ev σ x = .slice (some ⟨b, 0, none⟩) 1 c) (hq : QRow w base e vs xs) (hm : w.heap[b]? = some (.cells #[u] T fr)) (hu : u.oneCell' = true)
    (g1 : xs.length + 1 ≤ maxLen) (g2 : (xs.length + 1) * bytes ≤ 140737488355328) (g3 : base ≤ w.heap.size) (hn : Nat.blt d n.sz = true)
    (h : ∀ v' w', QRow w' base e v' (xs ++ [u]) → Ch (slBlk vs) w w' → (∀ k, slBlk v' k → slBlk vs k ∨ w.heap.size ≤ k) → WL P n ops Q rest (up σ d v') w') :
    WL P n ops Q (⟨some d, .call ⟨.builtin .append, #[s, x], #[xt, xt]⟩, ty, pos, af, none⟩ :: rest) σ w := by
  obtain ⟨i, hi, hi1, hzz, hby⟩ := he
  have hnews : ∀ j q, ([u] : List Value)[j]? = some q → w.cell? ((⟨b, 0, none⟩ : Addr).add j) = some q := by
    intro j q hq
    match j with
    | 0 => simp at hq; subst hq; exact cell_of hm rfl
    | j + 1 => simp at hq
  have hone : ∀ q ∈ ([u] : List Value), q.oneCell' = true := by intro q hq; rw [List.mem_singleton.1 hq]; exact hu
  have fin : ∀ {v' : Value} {w' : World}, (Builtin.append_ #[xt, xt] ty #[vs, .slice (some ⟨b, 0, none⟩) 1 c]).run P w = .ok v' w' → WL P n ops Q rest (up σ d v') w' → WL P n ops Q (⟨some d, .call ⟨.builtin .append, #[s, x], #[xt, xt]⟩, ty, pos, af, none⟩ :: rest) σ w := by
    intro v' w' hr hk
    refine WL.step (w' := w') rfl rfl hn ?_ hk
    simp [execOp, resolve, invoke, builtin, h1, h2, hr]
  rcases hq with ⟨rfl, rfl⟩ | ⟨g, o, cap, cur, rfl, hb, hg, hc, hmx, hs', ht⟩
  · obtain ⟨v', w', hr, h3, h4, _⟩ := run_append_own (P := P) w w.heap.size xt ty e i z 1 bytes hs hi hzz hi1 hby hz (by omega) (.slice none 0 0) 0 [] (World.ownsRow_nil _ _ _ _) ⟨b, 0, none⟩ 1 c [u] rfl hnews hone (by simpa using g1) (by simpa using g2) (Nat.le_refl _)
    refine fin hr (h v' w' ((QRow.own h3).base g3) ?_ fun k hk => .inr (own_lt h3 hk).1)
    exact ⟨h4.os, h4.tape, h4.output, h4.size, fun k hk hn => h4.block k hk (by simp [Value.ownBlock])⟩
  · by_cases hroom : xs.length + 1 ≤ cap
    · have hlt : o + xs.length < cur.size := by omega
      have hr := run_append_room_cells (P := P) w xt ty e i hs hi g o xs.length cap ⟨b, 0, none⟩ 1 c [u] (by simp [hi1]) hnews hone hroom
        (fun j hj => by
          have : j = 0 := by simpa using hj
          subst this
          rw [hi1, Nat.mul_one, Nat.add_zero, cell_of hg (Array.getElem?_eq_getElem hlt)]; rfl) (fun j hj => frozen_of hg)
      have hst := st_setCell (i := o + xs.length * i.size) hg u
      refine fin hr (h _ _ (.inr ⟨g, o, cap, _, by simp, hb, hst.at_, by simp; omega, hmx, by simpa using hs', fun j hj => ?_⟩) ?_ fun k hk => .inl hk)
      · rw [hi1, Nat.mul_one, Array.getElem?_setIfInBounds]
        by_cases e : j = xs.length
        · subst e
          rw [if_pos rfl, if_pos hlt]
          simp
        · have hj' : j < xs.length := by simp at hj; omega
          rw [if_neg (by omega), ht j hj', List.getElem?_append_left hj']
      · exact hst.ch
    · have holds : ∀ j q, xs[j]? = some q → w.cell? ((⟨g, o, none⟩ : Addr).add j) = some q := by
        intro j q hq
        have hj : j < xs.length := (List.getElem?_eq_some_iff.1 hq).1
        have hadd : (⟨g, o, none⟩ : Addr).add j = ⟨g, o + j, none⟩ := by unfold Addr.add; split <;> simp_all
        rw [hadd]
        exact cell_of hg ((ht j hj).trans hq)
      obtain ⟨v', w', hr, h3, h4⟩ := run_append_arg_grows (P := P) w xt ty e i z 1 bytes hs hi hzz hi1 hby hz (by omega) ⟨g, o, none⟩ xs.length cap xs (by simp) holds ⟨b, 0, none⟩ 1 c [u] rfl hnews (by omega) g1 g2
      exact fin hr (h v' w' ((QRow.own h3).base g3) ⟨h4.os, h4.tape, h4.output, h4.size, fun k hk hn => h4.block k hk (by simp)⟩ fun k hk => .inr (own_lt h3 hk).1)
end
end Sg
