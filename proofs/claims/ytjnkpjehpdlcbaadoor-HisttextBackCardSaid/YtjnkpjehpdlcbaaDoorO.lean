/-
  A part of the walk of the program.
-/
import Derived.Test.YtjnkpjehpdlcbaaDoorN
import Derived.Test.YtjnkpjehpdlcbaaDoorM
import Derived.Test.YtjnkpjehpdlcbaaDoorHistT
set_option linter.unusedVariables false
set_option linter.unusedSimpArgs false
set_option maxRecDepth 100000
namespace Go.Proofs.YtjnkpjehpdlcbaaDoor
open Go Go.RowKit Sg
set_option maxHeartbeats 800000 in
theorem put_walk (B b g n c : Nat) (L : List ByteArray) (acc : Bs) (w : World) (hn : n = L.length) (hg : w.heap[g]? = some (.cells (L.map Value.string).toArray 9 (0, 0))) (hgb : g ≠ b) (hb : IsB B b acc w) (hB : B ≤ w.heap.size) (hsz : acc.length + (L.flatMap sb).length ≤ 140737488355328) (hL : L.length ≤ 100) :
  Sg.Ret Tryd.prog 27 #[.slice (some ⟨g, 0, none⟩) n c, .pointer (some ⟨b, 0, none⟩)] w fun v w' => IsB B b (acc ++ L.flatMap sb) w' ∧ BK b B w w' := by
 refine enter0 (n := 14) (l := [.slice (some ⟨g, 0, none⟩) n c, .pointer (some ⟨b, 0, none⟩)]) Tryd.func27 rfl rfl rfl rfl ?_
 refine W.g2 0 1 (v1 := .slice (some ⟨g, 0, none⟩) n c) (v2 := .pointer (some ⟨b, 0, none⟩)) rfl rfl ?_; intro σ s0 s1
 refine W.seq ?_
 refine W.region ?_
 refine WL.x (X.mv (s0)) rfl ?_
 refine WL.x (X.lenSl Tryd.underlying36 (lh)) rfl ?_
 refine WL.x (X.mv lc) rfl ?_
 refine WL.e4 Nx.thn 1 5 6 7 (jt2 rfl (lt rfl (s1))) (jt2 rfl (lh)) (lt rfl (lh)) (lh) ?_
 intro σ1 s1 s5 s6 s7
 refine W.block ?_
 have qo1 := s1
 have qo2 := s5
 have qo3 := s6
 -- loop 0: kept [1, 5, 6], varied [7]
 refine W.loop (G := Nat) (fun k σ' w' => (σ' 1 = σ1 1 ∧ σ' 5 = σ1 5 ∧ σ' 6 = σ1 6 ∧ True) ∧ (σ' 7 = .int .i64 (k : Int) ∧ k ≤ L.length ∧ IsB B b (acc ++ (L.take k).flatMap sb) w' ∧ BK b B w w')) (fun k => L.length - k) (0) ⟨⟨rfl, rfl, rfl, trivial⟩, s7, by omega, (by simpa using hb), BK.ch0 (Ch.refl _ _)⟩ ?_
 rintro k σ2 w1 ⟨⟨f1, f5, f6, _⟩, s7, hk, hbb, hbk⟩
 have s1 := f1.trans qo1
 have s5 := f5.trans qo2
 have s6 := f6.trans qo3
 refine W.seq ?_
 refine W.region ?_
 refine WL.x (X.lss (s7) (s6)) rfl ?_
 refine WL.e5 Nx.thn 1 5 6 7 8 (lt rfl (s1)) (lt rfl (s5)) (lt rfl (s6)) (lt rfl (s7)) (lh) ?_
 intro σ3 s1 s5 s6 s7 s8
 refine W.seq ?_
 refine W.cndp s8 (fun hlt => ?_) (fun hlt => ?_)
 ·
  have hkl : k < L.length := by omega
  have hft := fm_take (f := sb) hkl
  have htl : ((L.take (k + 1)).flatMap sb).length ≤ (L.flatMap sb).length := by
    conv => rhs; rw [← List.take_append_drop (k + 1) L, List.flatMap_append, List.length_append]
    omega
  rw [hft, List.length_append] at htl
  have hkz := sb_len L[k]
  refine W.skip Nx.thn ?_
  refine W.seq ?_
  refine W.block ?_
  refine W.seq ?_
  refine W.region ?_
  refine WL.x (X.indexAddr Tryd.underlying36 el9 (s5) (s7) (by omega) (by omega)) rfl ?_
  refine WL.x (X.load pl9 (lh) (hbk.2 _ _ _ _ hg (by decide) hgb) (v := .string L[k]) (by rw [List.getElem?_toArray, show 0 + (k : Int).toNat * 1 = k by omega, List.getElem?_map, List.getElem?_eq_getElem hkl]; rfl)) rfl ?_
  refine WL.x (X.asg (lh)) rfl ?_
  refine WL.e5 Nx.thn 1 4 5 6 7 (jt2 rfl (lt rfl (s1))) (lh) (jt2 rfl (lt rfl (s5))) (jt2 rfl (lt rfl (s6))) (jt2 rfl (lt rfl (s7))) ?_
  intro σ4 s1 s4 s5 s6 s7
  refine W.region ?_
  refine WL.x (X.mv (s4)) rfl ?_
  refine WL.call2 ce28 (lt rfl (s1)) (lh) (ws_ok B b (acc ++ (L.take k).flatMap sb) L[k] w1 hbb (by rw [List.length_append]; omega) (Nat.le_trans hB hbk.1.size)) rfl ?_
  rintro v3 w2 ⟨hb3, hk3⟩
  refine WL.e4 (Nx.blk Nx.thn) 1 5 6 7 (jt2 rfl (s1)) (jt2 rfl (s5)) (jt2 rfl (s6)) (jt2 rfl (s7)) ?_
  intro σ5 s1 s5 s6 s7
  refine W.region ?_
  first | refine WL.x (X.add (s7) lc (by omega) (by omega)) rfl ?_ | refine WL.x (X.addw (s7) lc) rfl ?_
  refine WL.x (X.mv (lh)) rfl ?_
  refine WL.e4 Nx.thn 1 5 6 7 (jt2 rfl (s1)) (jt2 rfl (s5)) (jt2 rfl (s6)) (lh) ?_
  intro σ6 s1 s5 s6 s7
  refine ⟨k + 1, by omega, ⟨s1.trans qo1.symm, s5.trans qo2.symm, s6.trans qo3.symm, trivial⟩, s7, by omega, (by rw [hft, ← List.append_assoc]; exact hb3), hbk.trans hk3⟩
 ·
  refine W.exit (Nx.xthn (Nx.xthn (Nx.xblk Nx.n0))) ?_
  have hke : k = L.length := by omega
  rw [hke, List.take_length] at hbb
  exact ⟨hbb, hbk⟩

theorem szl (l : Array UInt8) : (⟨l⟩ : ByteArray).size = l.size := rfl
theorem sb_inj {a b : ByteArray} (h : sb a = sb b) : a = b := by rw [← bs_sb a, ← bs_sb b, h]
theorem sb_app (a b : ByteArray) : sb (a ++ b) = sb a ++ sb b := by rw [app_bs, sb_bs]
theorem sb_mk (a : Array UInt8) : sb ⟨a⟩ = a.toList := rfl
def opT1 (x : GOp) : Bs := [91, 32] ++ wordO x.1 ++ [32] ++ sb x.2.1 ++ midT x ++ [32, 93]
theorem opT_eq (x : GOp) : opT x = 32 :: opT1 x := by unfold opT opT1; simp
theorem mid_val {x : GOp} (hm : mayB x = true) (h : x.1 = 1 ∨ x.1 = 3 ∨ (x.1 = 4 ∧ x.2.2.2.2.1 = true ∧ x.2.2.2.2.2 = false)) : midT x = valT x.2.2.1 := by
  obtain ⟨k, key, val, li, has, nl⟩ := x
  unfold mayB at hm; unfold midT
  simp only at *
  have hn : nl = false := by
    rcases h with h | h | h
    · subst h; simp at hm; exact hm.2.2.2
    · subst h; simp at hm; exact hm.2.2.2
    · exact h.2.2
  subst hn
  rw [if_neg (by simp), if_neg (by omega), if_pos ⟨by omega, by rcases h with h | h | h; (· omega); (· omega); (· exact .inr h.2.1)⟩]
theorem mid_nil {x : GOp} (h : x.2.2.2.2.2 = true) : midT x = [32, 110, 105, 108] := by unfold midT; rw [if_pos h]
theorem mid_list {x : GOp} (hm : mayB x = true) (h : x.1 = 2) (h2 : x.2.2.2.2.1 = true) : midT x = [32, 40] ++ x.2.2.2.1.flatMap valT ++ [32, 41] := by
  obtain ⟨k, key, val, li, has, nl⟩ := x
  unfold mayB at hm; unfold midT
  simp only at *
  subst h; subst h2
  simp at hm
  rw [if_neg (by rw [hm.2.2.1]; simp), if_pos ⟨rfl, rfl⟩]
theorem mid_none {x : GOp} (hm : mayB x = true) (h1 : ¬ x.1 = 1) (h3 : ¬ x.1 = 3) (hn : x.2.2.2.2.2 = false) (hh : x.2.2.2.2.1 = false) : midT x = [] := by
  obtain ⟨k, key, val, li, has, nl⟩ := x
  unfold mayB at hm; unfold midT
  simp only at *
  subst hn; subst hh
  have : k = 2 ∨ k = 4 := by
    by_cases e2 : k = 2
    · exact .inl e2
    · by_cases e4 : k = 4
      · exact .inr e4
      · simp [h1, h3, e2, e4] at hm
  rw [if_neg (by simp), if_neg (by simp), if_neg (by simp; omega)]
theorem mid_non2 {x : GOp} (hm : mayB x = true) (h1 : ¬ x.1 = 1) (h3 : ¬ x.1 = 3) (h2 : x.1 = 2 → x.2.2.2.2.1 = false) (h4 : x.1 = 4 → x.2.2.2.2.1 = false ∧ x.2.2.2.2.2 = false) : midT x = [] := by
  obtain ⟨k, key, val, li, has, nl⟩ := x
  have hk : k = 2 ∨ k = 4 := by
    unfold mayB at hm
    simp only at *
    by_cases e2 : k = 2
    · exact .inl e2
    · by_cases e4 : k = 4
      · exact .inr e4
      · simp [h1, h3, e2, e4] at hm
  refine mid_none hm h1 h3 ?_ ?_
  · rcases hk with e | e
    · have hm2 := hm
      unfold mayB at hm2
      simp only at *
      subst e
      simp at hm2; exact hm2.2.2.1
    · exact (h4 e).2
  · rcases hk with e | e
    · exact h2 e
    · exact (h4 e).1
theorem mayB_nil {x : GOp} (hm : mayB x = true) (h : x.2.2.2.2.2 = true) : x.1 = 4 := by
  obtain ⟨k, key, val, li, has, nl⟩ := x
  unfold mayB at hm
  simp only at *
  subst h
  by_cases e1 : k = 1 ∨ k = 3
  · simp [e1] at hm
  · by_cases e2 : k = 2
    · simp [e2] at hm
    · by_cases e4 : k = 4
      · exact e4
      · simp [e1, e2, e4] at hm
theorem mayB_kind {x : GOp} (hm : mayB x = true) : 1 ≤ x.1 ∧ x.1 ≤ 4 := by
  obtain ⟨k, key, val, li, has, nl⟩ := x
  unfold mayB at hm
  simp only at *
  by_cases e1 : k = 1 ∨ k = 3
  · omega
  · by_cases e2 : k = 2
    · omega
    · by_cases e4 : k = 4
      · omega
      · simp [e1, e2, e4] at hm
theorem mayB_key {x : GOp} (hm : mayB x = true) : x.2.1.size ≤ 6 := by
  unfold mayB keyB at hm
  simp only [Bool.and_eq_true, decide_eq_true_eq] at hm
  exact hm.1.2
theorem may_ok {A : Nat → Prop} {w : World} {es : List Value} {x : GOp} (h : ROp A w es x) (hm : mayB x = true) : okT x := by
  obtain ⟨v, _, _, _, _, hr⟩ := h
  refine ⟨mayB_key hm, ?_, hr.1, hr.2⟩
  obtain ⟨k, key, val, li, has, nl⟩ := x
  unfold mayB at hm
  simp only at *
  by_cases e1 : k = 1 ∨ k = 3
  · simp [e1] at hm; rw [hm.2.1]; simp
  · by_cases e2 : k = 2
    · simp [e2] at hm; omega
    · by_cases e4 : k = 4
      · simp [e4] at hm; rw [hm.2.1]; simp
      · simp [e1, e2, e4] at hm

end Go.Proofs.YtjnkpjehpdlcbaaDoor
