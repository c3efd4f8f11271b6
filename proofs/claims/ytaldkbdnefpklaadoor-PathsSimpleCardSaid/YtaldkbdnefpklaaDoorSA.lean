/-
  A part of the walk of the program.
-/
import Derived.Test.YtaldkbdnefpklaaDoorYA
import Derived.Test.YtaldkbdnefpklaaDoorMaps
import Derived.Test.YtaldkbdnefpklaaDoorOpen
set_option linter.unusedVariables false
set_option linter.unusedSimpArgs false
set_option maxRecDepth 100000
namespace Go.Proofs.YtaldkbdnefpklaaDoor
open Go Go.RowKit Sg

theorem nx_ok {E : Nat → Nat → Prop} {l : List Nat} {to d : Nat} (hex : ∃ m ∈ l, pcN E to d m = true) : nx E l to d ∈ l ∧ pcN E to d (nx E l to d) = true := by
  unfold nx
  cases hf : l.find? (pcN E to d) with
  | none =>
    obtain ⟨m, hm, hp⟩ := hex
    exact absurd hp (List.find?_eq_none.1 hf m hm)
  | some q => exact ⟨List.mem_of_find?_eq_some hf, List.find?_some hf⟩
/-- Place i of the path. -/
noncomputable def pth (Lb : Nat → Nat → Nat) (n : Nat) (o : Int) (b d a i : Nat) : Nat := (a :: spath Lb n o b d a).getD i 0
theorem pth_all {n : Nat} {Lb : Nat → Nat → Nat} (h : LbOk n Lb) {o : Int} {b : Nat} : ∀ {d a : Nat}, a < n → Left (EE Lb o) a b d → (∀ i, i ≤ d → pth Lb n o b d a i < n ∧ Left (EE Lb o) (pth Lb n o b d a i) b (d - i) ∧ Wk (EE Lb o) i a (pth Lb n o b d a i)) ∧ ∀ i, i < d → EE Lb o (pth Lb n o b d a i) (pth Lb n o b d a (i + 1))
  | 0, a, ha, hl => ⟨fun i hi => by obtain rfl : i = 0 := by omega
                                    exact ⟨ha, hl, rfl⟩, fun i hi => absurd hi (by omega)⟩
  | d + 1, a, ha, hl => by
    obtain ⟨hm, hp⟩ := nx_ok (left_ex h (show d + 1 ≠ 0 by omega) hl)
    obtain ⟨m, hmd⟩ : ∃ m, nx (EE Lb o) (outN Lb a n o) b (d + 1) = m := ⟨_, rfl⟩
    rw [hmd] at hm hp
    have hm2 := mem_outN.1 hm
    have hs : ∀ i, pth Lb n o b (d + 1) a (i + 1) = pth Lb n o b d m i := fun i => by
      unfold pth
      rw [List.getD_cons_succ, show spath Lb n o b (d + 1) a = nx (EE Lb o) (outN Lb a n o) b (d + 1) :: spath Lb n o b d (nx (EE Lb o) (outN Lb a n o) b (d + 1)) from rfl, hmd]
    have h0 : ∀ {d a}, pth Lb n o b d a 0 = a := fun {d a} => rfl
    obtain ⟨k1, k2⟩ := pth_all h hm2.1 (left_next hp)
    refine ⟨fun i hi => ?_, fun i hi => ?_⟩
    · cases i with
      | zero => exact ⟨ha, hl, rfl⟩
      | succ i =>
        have := k1 i (by omega)
        rw [hs, show d + 1 - (i + 1) = d - i by omega]
        exact ⟨this.1, this.2.1, m, hm2.2, this.2.2⟩
    · cases i with
      | zero => rw [hs]; exact hm2.2
      | succ i => rw [hs, hs]; exact k2 i (by omega)
section
variable {n : Nat} {Lb : Nat → Nat → Nat} {o : Int} {a b D : Nat}
theorem left_start (hD : dst (EE Lb o) a b = D) (h0 : D ≠ 0) : Left (EE Lb o) a b D := by unfold Left; rw [if_neg h0]; exact hD
theorem pth_end (h : LbOk n Lb) (ha : a < n) (hD : dst (EE Lb o) a b = D) (h0 : D ≠ 0) : pth Lb n o b D a D = b := by
  have := ((pth_all h ha (left_start hD h0)).1 D (Nat.le_refl _)).2.1
  rw [Nat.sub_self] at this
  exact this
theorem pth_ne (h : LbOk n Lb) (ha : a < n) (hD : dst (EE Lb o) a b = D) (h0 : D ≠ 0) {i j : Nat} (hi : 1 ≤ i) (hij : i < j) (hj : j ≤ D) : pth Lb n o b D a i ≠ pth Lb n o b D a j := by
  intro e
  have k := (pth_all h ha (left_start hD h0)).1
  have ki := (k i (by omega)).2
  have h1 : dst (EE Lb o) (pth Lb n o b D a i) b = D - i := by have := ki.1; unfold Left at this; rwa [if_neg (by omega)] at this
  by_cases e2 : j = D
  · subst e2
    rw [e, pth_end h ha hD h0] at ki
    have := (dst_le hi ki.2).2
    omega
  · have h2 : dst (EE Lb o) (pth Lb n o b D a j) b = D - j := by have := (k j hj).2.1; unfold Left at this; rwa [if_neg (by omega)] at this
    rw [e] at h1
    omega
theorem pth_from (h : LbOk n Lb) (ha : a < n) (hD : dst (EE Lb o) a b = D) (h0 : D ≠ 0) (hab : a ≠ b) {i : Nat} (hi : 1 ≤ i) (hiD : i ≤ D) : pth Lb n o b D a i ≠ a := by
  intro e
  by_cases e2 : i = D
  · subst e2; rw [pth_end h ha hD h0] at e; exact hab e.symm
  · have := ((pth_all h ha (left_start hD h0)).1 i hiD).2.1
    rw [e] at this
    unfold Left at this
    rw [if_neg (by omega)] at this
    omega
end
theorem wf_small {z : Nat} (h : z < 1000) : (Lit.int .i64 (z : Int)).wf = true := by
  have e1 : IntKind.i64.min = -9223372036854775808 := by decide
  have e2 : IntKind.i64.max = 9223372036854775807 := by decide
  show (decide (IntKind.i64.min ≤ (z : Int)) && decide ((z : Int) ≤ IntKind.i64.max)) = true
  rw [e1, e2]
  exact Bool.and_eq_true_iff.2 ⟨decide_eq_true (by omega), decide_eq_true (by omega)⟩
theorem WL.slT {P : Program} {n d : Nat} {Q : Post} {σ : Env} {w w0 : World} {ops : Array Oper} {rest : List Oper} {t xt e : TypeId} {pos : String} {af : Array Edge} {x lo : Operand} {z : Value} {bytes m c : Nat} {a : Option Addr} {kl : IntKind} {L : List Value}
    (hs : P.underlying xt = some (.slice e)) (he : Elem P e 1 z bytes) (hx : ev σ x = .slice a m c) (h1 : ev σ lo = .int kl 1) (hm : m = L.length) (hsl : Sl w0 (.slice a m c) L) (h2 : 2 ≤ m) (hn : Nat.blt d n = true)
    (h : ∀ ta tc, Sl w0 (.slice ta (m - 1) tc) L.tail → WL P n ops Q rest (up σ d (.slice ta (m - 1) tc)) w) : WL P n ops Q (⟨some d, .slice xt x (some lo) none none, t, pos, af, none⟩ :: rest) σ w := by
  subst hm
  rcases hsl with ⟨h0, _⟩ | ⟨b, o, cap, cs, TT, fr, hv, hc, hb, hcs⟩
  · subst h0; simp at h2
  · simp only [Value.slice.injEq] at hv
    obtain ⟨rfl, -, rfl⟩ := hv
    refine WL.x (X.slL (w := w) (t := t) hs he hx h1 (by omega) (by omega)) hn ?_
    rw [if_neg (by omega), show ((L.length : Int) - 1).toNat = L.length - 1 by omega, show ((c : Int) - 1).toNat = c - 1 by omega, Sg.add_none]
    refine h _ _ (.inr ⟨b, _, c - 1, cs, TT, fr, by rw [List.length_tail], by rw [List.length_tail]; omega, hb, fun j hj => ?_⟩)
    rw [List.length_tail] at hj
    rw [show o + (1 : Int).toNat * 1 + j = o + (j + 1) by omega, hcs (j + 1) (by omega), List.getElem?_tail]

end Go.Proofs.YtaldkbdnefpklaaDoor
