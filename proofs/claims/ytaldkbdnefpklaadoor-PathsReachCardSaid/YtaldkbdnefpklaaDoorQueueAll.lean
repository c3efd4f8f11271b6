/-
  A queue that takes a whole list at once.
-/
import Derived.Test.YtaldkbdnefpklaaDoorQueue
import Derived.Test.YtaldkbdnefpklaaDoorOpen
namespace Sg
open Go Go.RowKit
def putCs : Array Value → Nat → List Value → Array Value
  | cs, _, [] => cs
  | cs, o, v :: r => putCs (cs.setIfInBounds o v) (o + 1) r
theorem putCs_size : ∀ (us : List Value) (cs : Array Value) (o : Nat), (putCs cs o us).size = cs.size
  | [], _, _ => rfl
  | v :: r, cs, o => by show (putCs _ _ r).size = _; rw [putCs_size r, Array.size_setIfInBounds]
theorem putCs_get : ∀ (us : List Value) (cs : Array Value) (o j : Nat), o + us.length ≤ cs.size → (putCs cs o us)[j]? = if o ≤ j ∧ j < o + us.length then us[j - o]? else cs[j]?
  | [], cs, o, j, _ => by rw [if_neg (by simp)]; rfl
  | v :: r, cs, o, j, h => by
    show (putCs (cs.setIfInBounds o v) (o + 1) r)[j]? = _
    simp only [List.length_cons] at h ⊢
    rw [putCs_get r _ _ _ (by rw [Array.size_setIfInBounds]; omega)]
    by_cases e : o = j
    · subst e
      rw [if_neg (by omega), if_pos (by omega), Array.getElem?_setIfInBounds, if_pos rfl, if_pos (by omega)]
      simp
    · by_cases e2 : o + 1 ≤ j ∧ j < o + 1 + r.length
      · rw [if_pos e2, if_pos (by omega), show j - o = (j - (o + 1)) + 1 by omega, List.getElem?_cons_succ]
      · rw [if_neg e2, if_neg (by omega), Array.getElem?_setIfInBounds, if_neg e]
theorem st_setCells {b : Nat} {T : TypeId} : ∀ (us : List Value) {w : World} {i : Nat} {cs : Array Value}, w.heap[b]? = some (.cells cs T (0, 0)) → St w (w.setCells b i us) b (.cells (putCs cs i us) T (0, 0))
  | [], w, i, cs, h => ⟨h, Ch.refl _ _, rfl⟩
  | v :: r, w, i, cs, h => by
    have h1 := st_setCell (i := i) h v
    have h2 := st_setCells r (i := i + 1) h1.at_
    exact ⟨h2.at_, h1.ch.trans h2.ch (fun _ _ e => e) (fun _ _ e => e), h2.size.trans h1.size⟩
section
variable {P : Program} {n : Nat} {Q : Post} {σ : Env} {w : World} {ops : Array Oper} {rest : List Oper}
variable {d : Nat} {t xt yt : TypeId} {pos : String} {af : Array Edge} {v : Value} {x y : Operand} {b o : Nat} {cs : Array Value} {T : TypeId} {fr : Nat × Nat}
theorem run_append_nilq {base c : Nat} {ty e : TypeId} {i : TypeInfo} {vs : Value} {xs : List Value} (hs : P.underlying xt = some (.slice e)) (hi : P.info? e = some i) (hq : QRow w base e vs xs) :
    (Builtin.append_ #[xt, xt] ty #[vs, .slice none 0 c]).run P w = .ok vs w := by
  rcases hq with ⟨rfl, rfl⟩ | ⟨g, o, cap, cur, rfl, hb, hg, hc, _⟩
  · simp [Builtin.append_, run_underlying hs, Go.sizeOf, typeInfo, hi, Builtin.lenOf, Builtin.firstCells]
  · simp [Builtin.append_, run_underlying hs, Go.sizeOf, typeInfo, hi, Builtin.lenOf, Builtin.firstCells, hc, storeCells]
theorem WL.appendQ {s : Operand} {ty : TypeId} {e : TypeId} {bytes base c : Nat} {a : Option Addr} {z vs : Value} {xs us : List Value} (hs : P.underlying xt = some (.slice e)) (he : Elem P e 1 z bytes) (hz : z.cells.size = 1)
    (h1 : ev σ s = vs) (h2 : ev σ x = .slice a us.length c) (hq : QRow w base e vs xs) (hx : Sl w (.slice a us.length c) us) (hu : ∀ u ∈ us, u.oneCell' = true)
    (g1 : xs.length + us.length ≤ maxLen) (g2 : (xs.length + us.length) * bytes ≤ 140737488355328) (g3 : base ≤ w.heap.size) (hn : Nat.blt d n = true)
    (h : ∀ v' w', QRow w' base e v' (xs ++ us) → Ch (slBlk vs) w w' → (∀ k, slBlk v' k → slBlk vs k ∨ w.heap.size ≤ k) → WL P n ops Q rest (up σ d v') w') :
    WL P n ops Q (⟨some d, .call ⟨.builtin .append, #[s, x], #[xt, xt]⟩, ty, pos, af, none⟩ :: rest) σ w := by
  obtain ⟨i, hi, hi1, hzz, hby⟩ := he
  have fin : ∀ {v' : Value} {w' : World}, (Builtin.append_ #[xt, xt] ty #[vs, .slice a us.length c]).run P w = .ok v' w' → WL P n ops Q rest (up σ d v') w' → WL P n ops Q (⟨some d, .call ⟨.builtin .append, #[s, x], #[xt, xt]⟩, ty, pos, af, none⟩ :: rest) σ w := by
    intro v' w' hr hk
    refine WL.step (w' := w') rfl rfl hn ?_ hk
    simp [execOp, resolve, invoke, builtin, h1, h2, hr]
  cases a with
  | none =>
    have hl : us = [] := by
      rcases hx with ⟨h, _⟩ | ⟨b, o, cap, cs, T, fr, hv, _⟩
      · exact h
      · cases hv
    subst hl
    exact fin (run_append_nilq hs hi hq) (h vs w (by rw [List.append_nil]; exact hq) (Ch.refl _ _) fun k hk => .inl hk)
  | some a =>
    have hnews : ∀ j q, us[j]? = some q → w.cell? (a.add j) = some q := by
      intro j q hj
      have hjl : j < us.length := (List.getElem?_eq_some_iff.1 hj).1
      obtain ⟨b, o, cs, T, fr, e, hm, hc⟩ := hx.at hjl
      injection e with e
      subst e
      rw [add_none]
      exact cell_of hm ((hc j hjl).trans hj)
    rcases hq with ⟨rfl, rfl⟩ | ⟨g, o, cap, cur, rfl, hb, hg, hc, hmx, hs', ht⟩
    · obtain ⟨v', w', hr, h3, h4, _⟩ := run_append_own (P := P) w w.heap.size xt ty e i z 1 bytes hs hi hzz hi1 hby hz (by omega) (.slice none 0 0) 0 [] (World.ownsRow_nil _ _ _ _) a us.length c us (by simp) hnews hu (by simpa using g1) (by simpa using g2) (Nat.le_refl _)
      rw [Nat.zero_add] at h3
      refine fin hr (h v' w' ((QRow.own h3).base g3) ?_ fun k hk => .inr (own_lt h3 hk).1)
      exact ⟨h4.os, h4.tape, h4.output, h4.size, fun k hk hn => h4.block k hk (by simp [Value.ownBlock])⟩
    · by_cases hroom : xs.length + us.length ≤ cap
      · have hlt : o + xs.length + us.length ≤ cur.size := by omega
        have hr := run_append_room_cells (P := P) w xt ty e i hs hi g o xs.length cap a us.length c us (by simp [hi1]) hnews hu hroom
          (fun j hj => by
            rw [hi1, Nat.mul_one, cell_of hg (Array.getElem?_eq_getElem (show o + xs.length + j < cur.size by omega))]; rfl) (fun j hj => frozen_of hg)
        have hst := st_setCells us (i := o + xs.length * i.size) hg
        refine fin hr (h _ _ (.inr ⟨g, o, cap, _, by simp, hb, hst.at_, by simp; omega, hmx, by rw [putCs_size]; simpa using hs', fun j hj => ?_⟩) ?_ fun k hk => .inl hk)
        · rw [hi1, Nat.mul_one, putCs_get _ _ _ _ hlt]
          simp only [List.length_append] at hj
          by_cases e : j < xs.length
          · rw [if_neg (by omega), ht j e, List.getElem?_append_left e]
          · rw [if_pos (by omega), List.getElem?_append_right (by omega), show o + j - (o + xs.length) = j - xs.length by omega]
        · exact hst.ch
      · have holds : ∀ j q, xs[j]? = some q → w.cell? ((⟨g, o, none⟩ : Addr).add j) = some q := by
          intro j q hq
          have hj : j < xs.length := (List.getElem?_eq_some_iff.1 hq).1
          rw [add_none]
          exact cell_of hg ((ht j hj).trans hq)
        obtain ⟨v', w', hr, h3, h4⟩ := run_append_arg_grows (P := P) w xt ty e i z 1 bytes hs hi hzz hi1 hby hz (by omega) ⟨g, o, none⟩ xs.length cap xs (by simp) holds a us.length c us (by simp) hnews (by omega) g1 g2
        exact fin hr (h v' w' ((QRow.own h3).base g3) ⟨h4.os, h4.tape, h4.output, h4.size, fun k hk hn => h4.block k hk (by simp)⟩ fun k hk => .inr (own_lt h3 hk).1)
end
end Sg
