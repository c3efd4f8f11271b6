/-
  A part of the walk of the program.
-/
import Derived.Test.YtbnnogbmmbkedaaDoorM
set_option linter.unusedVariables false
set_option linter.unusedSimpArgs false
set_option maxRecDepth 100000
namespace Go.Proofs.YtbnnogbmmbkedaaDoor
open Go Go.RowKit Sg

theorem zipB_get {g : Bool → Bool → Bool} {ms vs : List Bool} (h : ms.length = vs.length) (hg : g false false = false) (i : Nat) : (List.zipWith g ms vs).getD i false = g (ms.getD i false) (vs.getD i false) := by
  simp only [List.getD_eq_getElem?_getD]
  by_cases hi : i < ms.length
  · rw [List.getElem?_eq_getElem (show i < (List.zipWith g ms vs).length by simp; omega), List.getElem?_eq_getElem hi, List.getElem?_eq_getElem (show i < vs.length by omega)]
    simp
  · rw [List.getElem?_eq_none (by simp; omega), List.getElem?_eq_none (by omega), List.getElem?_eq_none (by omega)]
    exact hg.symm
theorem bools_ext {ms vs : List Bool} (hl : ms.length = vs.length) (h : ∀ i, ms.getD i false = vs.getD i false) : ms = vs := by
  refine List.ext_getElem hl fun i h1 h2 => ?_
  have := h i
  simpa [List.getD_eq_getElem?_getD, List.getElem?_eq_getElem h1, List.getElem?_eq_getElem h2] using this
theorem chgB_all {g : Bool → Bool → Bool} {ms vs : List Bool} (h : ms.length = vs.length) : chgB g ms vs ms.length = decide (List.zipWith g ms vs ≠ ms) := by
  rw [Bool.eq_iff_iff, decide_eq_true_iff]
  unfold chgB
  rw [List.any_eq_true]
  constructor
  · rintro ⟨i, hi, hne⟩ e
    have hi := List.mem_range.1 hi
    refine of_decide_eq_true hne ?_
    have h1 : (List.zipWith g ms vs)[i]? = ms[i]? := by rw [e]
    rw [List.getElem?_eq_getElem (show i < (List.zipWith g ms vs).length by simp; omega), List.getElem?_eq_getElem hi] at h1
    simp only [List.getElem_zipWith, Option.some.injEq] at h1
    simp only [List.getD_eq_getElem?_getD, List.getElem?_eq_getElem hi, List.getElem?_eq_getElem (show i < vs.length by omega), Option.getD_some]
    exact h1
  · intro e
    refine Classical.byContradiction fun hno => e ?_
    refine List.ext_getElem (by simp; omega) fun i h1 h2 => ?_
    refine Classical.byContradiction fun hne => hno ⟨i, List.mem_range.2 h2, ?_⟩
    refine decide_eq_true ?_
    simp only [List.getElem_zipWith] at hne
    simp only [List.getD_eq_getElem?_getD, List.getElem?_eq_getElem h2, List.getElem?_eq_getElem (show i < vs.length by omega), Option.getD_some]
    exact hne

theorem addU (b wb n : Nat) (ws : List BV) (i : Int) (w : World) (h : IsSet w b wb n ws) : Sg.Ret Tryd.prog 8 #[.pointer (some ⟨b, 0, none⟩), .int .i64 i] w fun v w' =>
    ∃ ws', v = .int .i64 (if 0 ≤ i ∧ i < n then 0 else 1) ∧ IsSet w' b wb n ws' ∧ (∀ j, mem ws' j = (mem ws j || decide (0 ≤ i ∧ i < n ∧ (j : Int) = i))) ∧ Ch (fun k => k = wb) w w' := by
  by_cases h0 : 0 ≤ i ∧ i < n
  · refine Ret.mono (add_in b wb n ws i w h h0.1 h0.2) fun v w' hh => ⟨_, by rw [if_pos h0]; exact hh.1, hh.2.2, fun j => ?_, hh.2.1⟩
    rw [mem_addW _ _ _ (h.slot (by omega))]
    have : decide (j = i.toNat) = decide (0 ≤ i ∧ i < n ∧ (j : Int) = i) := decide_eq_decide.2 (by omega)
    rw [this]
    try (cases mem ws j <;> simp)
  · refine Ret.mono (add_out b wb n ws i w h h0) fun v w' hh => ⟨ws, by rw [if_neg h0]; exact hh.1, hh.2 ▸ h, fun j => ?_, hh.2 ▸ Ch.refl _ _⟩
    have : decide (0 ≤ i ∧ i < n ∧ (j : Int) = i) = false := decide_eq_false (by omega)
    rw [this]
    cases mem ws j <;> rfl


theorem dropU (b wb n : Nat) (ws : List BV) (i : Int) (w : World) (h : IsSet w b wb n ws) : Sg.Ret Tryd.prog 10 #[.pointer (some ⟨b, 0, none⟩), .int .i64 i] w fun v w' =>
    ∃ ws', v = .int .i64 (if 0 ≤ i ∧ i < n then 0 else 1) ∧ IsSet w' b wb n ws' ∧ (∀ j, mem ws' j = (mem ws j && !decide (0 ≤ i ∧ i < n ∧ (j : Int) = i))) ∧ Ch (fun k => k = wb) w w' := by
  by_cases h0 : 0 ≤ i ∧ i < n
  · refine Ret.mono (drop_in b wb n ws i w h h0.1 h0.2) fun v w' hh => ⟨_, by rw [if_pos h0]; exact hh.1, hh.2.2, fun j => ?_, hh.2.1⟩
    rw [mem_dropW _ _ _ (h.slot (by omega))]
    have : decide (j = i.toNat) = decide (0 ≤ i ∧ i < n ∧ (j : Int) = i) := decide_eq_decide.2 (by omega)
    rw [this]
    try (cases mem ws j <;> simp)
  · refine Ret.mono (drop_out b wb n ws i w h h0) fun v w' hh => ⟨ws, by rw [if_neg h0]; exact hh.1, hh.2 ▸ h, fun j => ?_, hh.2 ▸ Ch.refl _ _⟩
    have : decide (0 ≤ i ∧ i < n ∧ (j : Int) = i) = false := decide_eq_false (by omega)
    rw [this]
    cases mem ws j <;> rfl

theorem or_bounds (b wb n : Nat) (ws : List BV) (b2 wb2 m : Nat) (vs : List BV) (w : World) (h : IsSet w b wb n ws) (h2 : IsSet w b2 wb2 m vs) (hnm : n ≠ m) :
    Sg.Ret Tryd.prog 20 #[.pointer (some ⟨b, 0, none⟩), .pointer (some ⟨b2, 0, none⟩)] w fun v w' => v = .tuple #[.bool false, .int .i64 1] ∧ Dr w w' := by
  refine enter2 (n := 11) (l := [.pointer (some ⟨b, 0, none⟩), .pointer (some ⟨b2, 0, none⟩)]) Tryd.func20 rfl rfl rfl rfl ?_
  refine W.g2 0 1 (v1 := .pointer (some ⟨b, 0, none⟩)) (v2 := .pointer (some ⟨b2, 0, none⟩)) rfl rfl ?_; intro σ s0 s1
  refine W.seq ?_
  refine W.region ?_
  refine WL.x (X.asg lc) rfl ?_
  refine WL.x (X.asg lc) rfl ?_
  refine WL.e2 Nx.thn 0 1 (lt rfl (lt rfl (s0))) (lt rfl (lt rfl (s1))) ?_
  intro σ1 s0 s1
  refine W.seq ?_
  refine W.region ?_
  refine WL.x (X.mv (s0)) rfl ?_
  refine WL.x (X.mv (lt rfl (s1))) rfl ?_
  refine WL.call3 ce37 (lt rfl (lh)) (lh) lf (with_bounds b wb n ws b2 wb2 m vs 38 (fun x y => x ||| y) ce38 (fun x y w => or_fn x y w) w h h2 hnm) rfl ?_
  rintro _ w1 ⟨rfl, hdr⟩
  refine WL.x (X.ex2_0 (lh)) rfl ?_
  refine WL.x (X.ex2_1 (lt rfl (lh))) rfl ?_
  refine WL.x (X.asg (lt rfl (lh))) rfl ?_
  refine WL.x (X.asg (lt rfl (lh))) rfl ?_
  refine WL.e2 Nx.thn 4 5 (lt rfl (lh)) (lh) ?_
  intro σ2 s4 s5
  refine W.ret2 Nx.f2 s4 s5 ?_
  exact ⟨rfl, hdr⟩

theorem orU (b wb n : Nat) (ws : List BV) (b2 wb2 m : Nat) (vs : List BV) (w : World) (h : IsSet w b wb n ws) (h2 : IsSet w b2 wb2 m vs) (hne : b2 ≠ wb) (hal : wb ≠ wb2) :
    Sg.Ret Tryd.prog 20 #[.pointer (some ⟨b, 0, none⟩), .pointer (some ⟨b2, 0, none⟩)] w fun v w' =>
    ∃ ws', v = .tuple #[.bool (decide (ws' ≠ ws)), .int .i64 (if n = m then 0 else 1)] ∧ IsSet w' b wb n ws' ∧ (∀ j, mem ws' j = if n = m then (mem ws j || mem vs j) else mem ws j) ∧ Ch (fun k => k = wb) w w' := by
  by_cases e : n = m
  · subst e
    refine Ret.mono (or_ok b wb n ws b2 wb2 vs w h h2 hne hal) fun v w' hh => ?_
    obtain ⟨ws', h1, h3, h4, h5⟩ := hh
    exact ⟨ws', by rw [if_pos rfl]; exact h1, h3, fun j => by rw [if_pos rfl]; exact h4 j, h5⟩
  · refine Ret.mono (or_bounds b wb n ws b2 wb2 m vs w h h2 e) fun v w' hh => ⟨ws, by rw [if_neg e]; simpa using hh.1, h.dr hh.2, fun j => by rw [if_neg e], hh.2.ch⟩
theorem rorU (p pb : Nat) (ms : List Bool) (p2 pb2 : Nat) (ms2 : List Bool) (w : World) (h : IsRef w p pb ms) (h2 : IsRef w p2 pb2 ms2) (hne : pb ≠ pb2) (hnp : p2 ≠ pb) :
    Sg.Ret Tryd.prog 21 #[.pointer (some ⟨p, 0, none⟩), .pointer (some ⟨p2, 0, none⟩)] w fun v w' =>
    ∃ ms', v = .tuple #[.bool (decide (ms' ≠ ms)), .int .i64 (if ms.length = ms2.length then 0 else 1)] ∧ IsRef w' p pb ms' ∧ ms'.length = ms.length ∧ (∀ j, ms'.getD j false = if ms.length = ms2.length then (ms.getD j false || ms2.getD j false) else ms.getD j false) ∧ Ch (fun k => k = pb) w w' := by
  by_cases e : ms.length = ms2.length
  · refine Ret.mono (ror_ok p pb ms p2 pb2 ms2 w h h2 e hne hnp) fun v w' hh => ?_
    obtain ⟨h1, h3, h4⟩ := hh
    refine ⟨_, by rw [if_pos e]; rw [chgB_all e] at h1; exact h1, h3, by simp; omega, fun j => ?_, h4⟩
    rw [if_pos e]
    exact zipB_get e rfl j
  · refine Ret.mono (ror_bounds p pb ms p2 pb2 ms2 w h h2 e) fun v w' hh => ⟨ms, by rw [if_neg e]; simpa using hh.1, h.ch0 hh.2.ch0, rfl, fun j => by rw [if_neg e], hh.2.ch⟩

theorem and_bounds (b wb n : Nat) (ws : List BV) (b2 wb2 m : Nat) (vs : List BV) (w : World) (h : IsSet w b wb n ws) (h2 : IsSet w b2 wb2 m vs) (hnm : n ≠ m) :
    Sg.Ret Tryd.prog 22 #[.pointer (some ⟨b, 0, none⟩), .pointer (some ⟨b2, 0, none⟩)] w fun v w' => v = .tuple #[.bool false, .int .i64 1] ∧ Dr w w' := by
  refine enter2 (n := 11) (l := [.pointer (some ⟨b, 0, none⟩), .pointer (some ⟨b2, 0, none⟩)]) Tryd.func22 rfl rfl rfl rfl ?_
  refine W.g2 0 1 (v1 := .pointer (some ⟨b, 0, none⟩)) (v2 := .pointer (some ⟨b2, 0, none⟩)) rfl rfl ?_; intro σ s0 s1
  refine W.seq ?_
  refine W.region ?_
  refine WL.x (X.asg lc) rfl ?_
  refine WL.x (X.asg lc) rfl ?_
  refine WL.e2 Nx.thn 0 1 (lt rfl (lt rfl (s0))) (lt rfl (lt rfl (s1))) ?_
  intro σ1 s0 s1
  refine W.seq ?_
  refine W.region ?_
  refine WL.x (X.mv (s0)) rfl ?_
  refine WL.x (X.mv (lt rfl (s1))) rfl ?_
  refine WL.call3 ce37 (lt rfl (lh)) (lh) lf (with_bounds b wb n ws b2 wb2 m vs 40 (fun x y => x &&& y) ce40 (fun x y w => and_fn x y w) w h h2 hnm) rfl ?_
  rintro _ w1 ⟨rfl, hdr⟩
  refine WL.x (X.ex2_0 (lh)) rfl ?_
  refine WL.x (X.ex2_1 (lt rfl (lh))) rfl ?_
  refine WL.x (X.asg (lt rfl (lh))) rfl ?_
  refine WL.x (X.asg (lt rfl (lh))) rfl ?_
  refine WL.e2 Nx.thn 4 5 (lt rfl (lh)) (lh) ?_
  intro σ2 s4 s5
  refine W.ret2 Nx.f2 s4 s5 ?_
  exact ⟨rfl, hdr⟩

theorem andU (b wb n : Nat) (ws : List BV) (b2 wb2 m : Nat) (vs : List BV) (w : World) (h : IsSet w b wb n ws) (h2 : IsSet w b2 wb2 m vs) (hne : b2 ≠ wb) (hal : wb ≠ wb2) :
    Sg.Ret Tryd.prog 22 #[.pointer (some ⟨b, 0, none⟩), .pointer (some ⟨b2, 0, none⟩)] w fun v w' =>
    ∃ ws', v = .tuple #[.bool (decide (ws' ≠ ws)), .int .i64 (if n = m then 0 else 1)] ∧ IsSet w' b wb n ws' ∧ (∀ j, mem ws' j = if n = m then (mem ws j && mem vs j) else mem ws j) ∧ Ch (fun k => k = wb) w w' := by
  by_cases e : n = m
  · subst e
    refine Ret.mono (and_ok b wb n ws b2 wb2 vs w h h2 hne hal) fun v w' hh => ?_
    obtain ⟨ws', h1, h3, h4, h5⟩ := hh
    exact ⟨ws', by rw [if_pos rfl]; exact h1, h3, fun j => by rw [if_pos rfl]; exact h4 j, h5⟩
  · refine Ret.mono (and_bounds b wb n ws b2 wb2 m vs w h h2 e) fun v w' hh => ⟨ws, by rw [if_neg e]; simpa using hh.1, h.dr hh.2, fun j => by rw [if_neg e], hh.2.ch⟩
theorem randU (p pb : Nat) (ms : List Bool) (p2 pb2 : Nat) (ms2 : List Bool) (w : World) (h : IsRef w p pb ms) (h2 : IsRef w p2 pb2 ms2) (hne : pb ≠ pb2) (hnp : p2 ≠ pb) :
    Sg.Ret Tryd.prog 23 #[.pointer (some ⟨p, 0, none⟩), .pointer (some ⟨p2, 0, none⟩)] w fun v w' =>
    ∃ ms', v = .tuple #[.bool (decide (ms' ≠ ms)), .int .i64 (if ms.length = ms2.length then 0 else 1)] ∧ IsRef w' p pb ms' ∧ ms'.length = ms.length ∧ (∀ j, ms'.getD j false = if ms.length = ms2.length then (ms.getD j false && ms2.getD j false) else ms.getD j false) ∧ Ch (fun k => k = pb) w w' := by
  by_cases e : ms.length = ms2.length
  · refine Ret.mono (rand_ok p pb ms p2 pb2 ms2 w h h2 e hne hnp) fun v w' hh => ?_
    obtain ⟨h1, h3, h4⟩ := hh
    refine ⟨_, by rw [if_pos e]; rw [chgB_all e] at h1; exact h1, h3, by simp; omega, fun j => ?_, h4⟩
    rw [if_pos e]
    exact zipB_get e rfl j
  · refine Ret.mono (rand_bounds p pb ms p2 pb2 ms2 w h h2 e) fun v w' hh => ⟨ms, by rw [if_neg e]; simpa using hh.1, h.ch0 hh.2.ch0, rfl, fun j => by rw [if_neg e], hh.2.ch⟩

/-- What the law keeps from round to round. -/
def Liv (w0 w : World) (v7 v9 v11 v13 : Value) : Prop :=
  ∃ b wb n ws p pb ms b2 wb2 m vs q qb ns, v7 = .pointer (some ⟨b, 0, none⟩) ∧ v9 = .pointer (some ⟨p, 0, none⟩) ∧ v11 = .pointer (some ⟨b2, 0, none⟩) ∧ v13 = .pointer (some ⟨q, 0, none⟩) ∧
    Two w b wb n ws p pb ms ∧ Two w b2 wb2 m vs q qb ns ∧ wb ≠ wb2 ∧ pb ≠ qb ∧ w0.heap.size ≤ wb ∧ w0.heap.size ≤ pb ∧ w0.heap.size ≤ wb2 ∧ w0.heap.size ≤ qb ∧ Ch0 w0 w
theorem Two.ap {w : World} {b wb n : Nat} {ws : List BV} {p pb : Nat} {ms : List Bool} (h : Two w b wb n ws p pb ms) : wb < w.heap.size ∧ pb < w.heap.size ∧ b < w.heap.size ∧ p < w.heap.size := ⟨h.s.ltw, h.r.ltb, h.s.ltb, h.r.ltp⟩
theorem Two.old {w w' : World} {b wb n : Nat} {ws : List BV} {p pb : Nat} {ms : List Bool} {z : Nat} (h : Two w b wb n ws p pb ms) (c : Ch (fun j => z ≤ j) w w') (hz : b < z ∧ wb < z ∧ p < z ∧ pb < z) : Two w' b wb n ws p pb ms :=
  ⟨h.s.ch c (by (try dsimp only); omega) (by (try dsimp only); omega), h.r.ch c (by (try dsimp only); omega) (by (try dsimp only); omega), h.len, h.mem⟩
theorem two_keep {w w1 w2 : World} {b wb n : Nat} {ws : List BV} {p pb : Nat} {ms : List Bool} {c wc m : Nat} {vs : List BV} {q qb : Nat} {ns : List Bool} (h : Two w b wb n ws p pb ms) (k : Two w c wc m vs q qb ns) (c1 : Ch (fun k => k = wb) w w1) (c2 : Ch (fun k => k = pb) w1 w2)
    (h1 : wc ≠ wb) (h2 : qb ≠ pb) : Two w2 c wc m vs q qb ns := by
  have a1 := set_w h.s k.s h1 c1
  have a2 := ref_w h.s k.r c1
  have a3 := ref_w h.s h.r c1
  exact ⟨set_p a3 a1 c2, ref_p a3 a2 h2 c2, k.len, k.mem⟩
theorem ref_ne {w : World} {p pb : Nat} {ms : List Bool} {q qb : Nat} {ns : List Bool} (h : IsRef w p pb ms) (k : IsRef w q qb ns) : q ≠ pb := by
  obtain ⟨cs, hb, _⟩ := h.bd
  obtain ⟨cap, _, hd⟩ := k.hd
  exact blk_ne hb hd (by decide)
theorem set_ne {w : World} {b wb n c wc m : Nat} {ws vs : List BV} (h : IsSet w b wb n ws) (k : IsSet w c wc m vs) : c ≠ wb := blk_ne h.wd k.hd (by decide)
/-- Set and reference set, both done to alike. -/
theorem two_new {w w1 w2 : World} {b wb n : Nat} {ws ws' : List BV} {p pb : Nat} {ms ms' : List Bool} (h : Two w b wb n ws p pb ms) (s1 : IsSet w1 b wb n ws') (r2 : IsRef w2 p pb ms') (c1 : Ch (fun k => k = wb) w w1) (c2 : Ch (fun k => k = pb) w1 w2)
    (hl : ms'.length = ms.length) (hm : ∀ j, mem ws' j = ms'.getD j false) : Two w2 b wb n ws' p pb ms' :=
  ⟨set_p (ref_w h.s h.r c1) s1 c2, r2, by rw [hl]; exact h.len, hm⟩
theorem two_add {n : Nat} {ws ws' : List BV} {ms : List Bool} {i : Int} (hn : n = ms.length) (hmem : ∀ j, mem ws j = ms.getD j false) (h : ∀ j, mem ws' j = (mem ws j || decide (0 ≤ i ∧ i < n ∧ (j : Int) = i))) (j : Nat) :
    mem ws' j = (if 0 ≤ i ∧ i < (ms.length : Int) then ms.set i.toNat true else ms).getD j false := by
  rw [h, hmem]
  subst hn
  by_cases h0 : 0 ≤ i ∧ i < (ms.length : Int)
  · rw [if_pos h0, List.getD_eq_getElem?_getD, List.getD_eq_getElem?_getD, List.getElem?_set]
    by_cases e : i.toNat = j
    · rw [if_pos e, if_pos (by omega), decide_eq_true (by omega)]; simp
    · rw [if_neg e, decide_eq_false (by omega)]; simp
  · rw [if_neg h0, decide_eq_false (by omega)]; simp
theorem two_drop {n : Nat} {ws ws' : List BV} {ms : List Bool} {i : Int} (hn : n = ms.length) (hmem : ∀ j, mem ws j = ms.getD j false) (h : ∀ j, mem ws' j = (mem ws j && !decide (0 ≤ i ∧ i < n ∧ (j : Int) = i))) (j : Nat) :
    mem ws' j = (if 0 ≤ i ∧ i < (ms.length : Int) then ms.set i.toNat false else ms).getD j false := by
  rw [h, hmem]
  subst hn
  by_cases h0 : 0 ≤ i ∧ i < (ms.length : Int)
  · rw [if_pos h0, List.getD_eq_getElem?_getD, List.getD_eq_getElem?_getD, List.getElem?_set]
    by_cases e : i.toNat = j
    · rw [if_pos e, if_pos (by omega), decide_eq_true (by omega)]; simp
    · rw [if_neg e, decide_eq_false (by omega)]; simp
  · rw [if_neg h0, decide_eq_false (by omega)]; simp
theorem if_len {c : Prop} [Decidable c] {ms : List Bool} {i : Nat} {x : Bool} : (if c then ms.set i x else ms).length = ms.length := by split <;> simp
theorem same_chg {n : Nat} {ws ws' : List BV} {ms ms' : List Bool} (hl : ws'.length = ws.length) (hl2 : ms'.length = ms.length) (h1 : ∀ j, mem ws j = ms.getD j false) (h2 : ∀ j, mem ws' j = ms'.getD j false) : decide (ws' ≠ ws) = decide (ms' ≠ ms) := by
  refine decide_eq_decide.2 (not_congr ⟨fun e => ?_, fun e => ?_⟩)
  · exact bools_ext hl2 fun j => by rw [← h1, ← h2, e]
  · exact words_ext hl fun j => by rw [h1, h2, e]
theorem two_zip {n m : Nat} {ws vs ws' : List BV} {ms ns ms' : List Bool} {g : Bool → Bool → Bool} (hn : n = ms.length) (hm : m = ns.length) (h1 : ∀ j, mem ws j = ms.getD j false) (h2 : ∀ j, mem vs j = ns.getD j false)
    (h3 : ∀ j, mem ws' j = if n = m then g (mem ws j) (mem vs j) else mem ws j) (h4 : ∀ j, ms'.getD j false = if ms.length = ns.length then g (ms.getD j false) (ns.getD j false) else ms.getD j false) (j : Nat) : mem ws' j = ms'.getD j false := by
  rw [h3, h4, ← hn, ← hm, h1, h2]
theorem ell_map {p q : Nat → Bool} {n m : Nat} (hp : ∀ j, p j = q j) (hn : n = m) : elv p n = elv q m := by
  rw [hn, show p = q from funext hp]
theorem two_same {w : World} {b wb n : Nat} {ws : List BV} {p pb : Nat} {ms : List Bool} {c wc m : Nat} {vs : List BV} {q qb : Nat} {ns : List Bool} (h : Two w b wb n ws p pb ms) (k : Two w c wc m vs q qb ns) : (n = m ∧ ws = vs) ↔ ms = ns := by
  constructor
  · rintro ⟨e1, e2⟩
    exact bools_ext (by rw [← h.len, ← k.len, e1]) fun j => by rw [← h.mem, ← k.mem, e2]
  · intro e
    have hnm : n = m := by rw [h.len, k.len, e]
    exact ⟨hnm, words_ext (by rw [h.s.len, k.s.len, hnm]) fun j => by rw [h.mem, k.mem, e]⟩
theorem two_count {w : World} {b wb n : Nat} {ws : List BV} {p pb : Nat} {ms : List Bool} (h : Two w b wb n ws p pb ms) : (els ws n).length = (elv (fun j => ms.getD j false) ms.length).length := by
  rw [← h.len, ell_map (q := mem ws) (fun j => (h.mem j).symm) rfl, elv_eli, List.length_map, eli_len]

end Go.Proofs.YtbnnogbmmbkedaaDoor
