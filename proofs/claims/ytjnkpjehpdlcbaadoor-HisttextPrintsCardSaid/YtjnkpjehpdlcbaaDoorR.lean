/-
  A part of the walk of the program.
-/
import Derived.Test.YtjnkpjehpdlcbaaDoorO
set_option linter.unusedVariables false
set_option linter.unusedSimpArgs false
set_option maxRecDepth 100000
namespace Go.Proofs.YtjnkpjehpdlcbaaDoor
open Go Go.RowKit Sg

theorem szl (l : Array UInt8) : (⟨l⟩ : ByteArray).size = l.size := rfl
theorem sb_inj {a b : ByteArray} (h : sb a = sb b) : a = b := by rw [← bs_sb a, ← bs_sb b, h]
theorem sb_app (a b : ByteArray) : sb (a ++ b) = sb a ++ sb b := by rw [app_bs, sb_bs]
theorem sb_mk (a : Array UInt8) : sb ⟨a⟩ = a.toList := rfl
def opT1 (x : GOp) : Bs := [91, 32] ++ wordO x.1 ++ [32] ++ sb x.2.1 ++ midT x ++ [32, 93]
theorem opT_eq (x : GOp) : opT x = 32 :: opT1 x := by unfold opT opT1; simp
theorem mid_val {x : GOp} (hm : mayB x = true) (h : x.1 = 1 ∨ x.1 = 3 ∨ (x.1 = 4 ∧ x.2.2.2.2.1 = true ∧ x.2.2.2.2.2 = false)) : midT x = valT x.2.2.1 := by
  obtain ⟨k, key, val, li, has, nl⟩ := x
  unfold mayB at hm; unfold midT
  simp only at *
  have hn : nl = false := by
    rcases h with h | h | h
    · subst h; simp at hm; exact hm.2.2.2
    · subst h; simp at hm; exact hm.2.2.2
    · exact h.2.2
  subst hn
  rw [if_neg (by simp), if_neg (by omega), if_pos ⟨by omega, by rcases h with h | h | h; (· omega); (· omega); (· exact .inr h.2.1)⟩]
theorem mid_nil {x : GOp} (h : x.2.2.2.2.2 = true) : midT x = [32, 110, 105, 108] := by unfold midT; rw [if_pos h]
theorem mid_list {x : GOp} (hm : mayB x = true) (h : x.1 = 2) (h2 : x.2.2.2.2.1 = true) : midT x = [32, 40] ++ x.2.2.2.1.flatMap valT ++ [32, 41] := by
  obtain ⟨k, key, val, li, has, nl⟩ := x
  unfold mayB at hm; unfold midT
  simp only at *
  subst h; subst h2
  simp at hm
  rw [if_neg (by rw [hm.2.2.1]; simp), if_pos ⟨rfl, rfl⟩]
theorem mid_none {x : GOp} (hm : mayB x = true) (h1 : ¬ x.1 = 1) (h3 : ¬ x.1 = 3) (hn : x.2.2.2.2.2 = false) (hh : x.2.2.2.2.1 = false) : midT x = [] := by
  obtain ⟨k, key, val, li, has, nl⟩ := x
  unfold mayB at hm; unfold midT
  simp only at *
  subst hn; subst hh
  have : k = 2 ∨ k = 4 := by
    by_cases e2 : k = 2
    · exact .inl e2
    · by_cases e4 : k = 4
      · exact .inr e4
      · simp [h1, h3, e2, e4] at hm
  rw [if_neg (by simp), if_neg (by simp), if_neg (by simp; omega)]
theorem mid_non2 {x : GOp} (hm : mayB x = true) (h1 : ¬ x.1 = 1) (h3 : ¬ x.1 = 3) (h2 : x.1 = 2 → x.2.2.2.2.1 = false) (h4 : x.1 = 4 → x.2.2.2.2.1 = false ∧ x.2.2.2.2.2 = false) : midT x = [] := by
  obtain ⟨k, key, val, li, has, nl⟩ := x
  have hk : k = 2 ∨ k = 4 := by
    unfold mayB at hm
    simp only at *
    by_cases e2 : k = 2
    · exact .inl e2
    · by_cases e4 : k = 4
      · exact .inr e4
      · simp [h1, h3, e2, e4] at hm
  refine mid_none hm h1 h3 ?_ ?_
  · rcases hk with e | e
    · have hm2 := hm
      unfold mayB at hm2
      simp only at *
      subst e
      simp at hm2; exact hm2.2.2.1
    · exact (h4 e).2
  · rcases hk with e | e
    · exact h2 e
    · exact (h4 e).1
theorem mayB_nil {x : GOp} (hm : mayB x = true) (h : x.2.2.2.2.2 = true) : x.1 = 4 := by
  obtain ⟨k, key, val, li, has, nl⟩ := x
  unfold mayB at hm
  simp only at *
  subst h
  by_cases e1 : k = 1 ∨ k = 3
  · simp [e1] at hm
  · by_cases e2 : k = 2
    · simp [e2] at hm
    · by_cases e4 : k = 4
      · exact e4
      · simp [e1, e2, e4] at hm
theorem mayB_kind {x : GOp} (hm : mayB x = true) : 1 ≤ x.1 ∧ x.1 ≤ 4 := by
  obtain ⟨k, key, val, li, has, nl⟩ := x
  unfold mayB at hm
  simp only at *
  by_cases e1 : k = 1 ∨ k = 3
  · omega
  · by_cases e2 : k = 2
    · omega
    · by_cases e4 : k = 4
      · omega
      · simp [e1, e2, e4] at hm
theorem mayB_key {x : GOp} (hm : mayB x = true) : x.2.1.size ≤ 6 := by
  unfold mayB keyB at hm
  simp only [Bool.and_eq_true, decide_eq_true_eq] at hm
  exact hm.1.2
theorem may_ok {A : Nat → Prop} {w : World} {es : List Value} {x : GOp} (h : ROp A w es x) (hm : mayB x = true) : okT x := by
  obtain ⟨v, _, _, _, _, hr⟩ := h
  refine ⟨mayB_key hm, ?_, hr.1, hr.2⟩
  obtain ⟨k, key, val, li, has, nl⟩ := x
  unfold mayB at hm
  simp only at *
  by_cases e1 : k = 1 ∨ k = 3
  · simp [e1] at hm; rw [hm.2.1]; simp
  · by_cases e2 : k = 2
    · simp [e2] at hm; omega
    · by_cases e4 : k = 4
      · simp [e4] at hm; rw [hm.2.1]; simp
      · simp [e1, e2, e4] at hm

end Go.Proofs.YtjnkpjehpdlcbaaDoor
