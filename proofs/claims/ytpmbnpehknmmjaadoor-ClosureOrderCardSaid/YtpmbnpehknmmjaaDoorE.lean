/-
  A part of the walk of the program.
-/
import Derived.Test.YtpmbnpehknmmjaaDoorD
import Derived.Test.YtpmbnpehknmmjaaDoorVia
import Derived.Test.YtpmbnpehknmmjaaDoorQueue
set_option linter.unusedVariables false
set_option linter.unusedSimpArgs false
set_option maxRecDepth 100000
namespace Go.Proofs.YtpmbnpehknmmjaaDoor
open Go Go.RowKit Sg

theorem q_len {w : World} {base : Nat} {e : TypeId} {v : Value} {bs : List (Nat × Nat)} (h : QRow w base e v (ptrs bs)) : ∃ a c, v = .slice a bs.length c := by
  obtain ⟨a, c, e⟩ := h.len
  rw [List.length_map] at e
  exact ⟨a, c, e⟩
theorem ty_ne {w : World} {a b : Nat} {Ta Tb : TypeId} (ha : ∃ cs, w.heap[a]? = some (.cells cs Ta (0, 0))) (hb : ∃ cs, w.heap[b]? = some (.cells cs Tb (0, 0))) (h : Ta ≠ Tb) : a ≠ b := by
  obtain ⟨cs, ha⟩ := ha
  obtain ⟨cs', hb⟩ := hb
  intro e
  subst e
  rw [ha] at hb
  exact h (Obj.cells.inj (Option.some.inj hb)).2.1
theorem mine_not {w : World} {ts : List TypeId} {base k : Nat} {T : TypeId} (h : ∃ cs, w.heap[k]? = some (.cells cs T (0, 0))) (hT : T ∉ ts) : ¬ Mine ts base w k := by
  rintro ⟨_, cs', T', hT', h'⟩
  obtain ⟨cs, h⟩ := h
  rw [h] at h'
  have := (Obj.cells.inj (Option.some.inj h')).2.1
  exact hT (this ▸ hT')
/-- Sets behind a slice that the call has made. -/
structure Rws (w : World) (base n : Nat) (v : Value) (bs : List (Nat × Nat)) (M : Nat → Nat → Bool) : Prop where
  fam : Fam w base n bs M
  sl : QRow w base 53 v (ptrs bs)
theorem Rws.notw {w : World} {base n : Nat} {v : Value} {bs : List (Nat × Nat)} {M : Nat → Nat → Bool} (h : Rws w base n v bs M) {k : Nat} (hk : slBlk v k) {b2 m : Nat} {bs2 : List (Nat × Nat)} {M2 : Nat → Nat → Bool} (f : Fam w b2 m bs2 M2) : ¬ inB bs2 k := fun hb => by
  exact ty_ne (h.sl.ty hk) (f.ty hb) (by decide) rfl
theorem Rws.ch {F : Nat → Prop} {w w' : World} {base n : Nat} {v : Value} {bs : List (Nat × Nat)} {M : Nat → Nat → Bool} (h : Rws w base n v bs M) (c : Ch F w w') (h1 : ∀ b ∈ bs, ¬ F b.1 ∧ ¬ F b.2) (h2 : ∀ k, slBlk v k → ¬ F k) : Rws w' base n v bs M :=
  ⟨h.fam.ch c h1, h.sl.ch c h2⟩
theorem Rws.ch0 {w w' : World} {base n : Nat} {v : Value} {bs : List (Nat × Nat)} {M : Nat → Nat → Bool} (h : Rws w base n v bs M) (c : Ch0 w w') : Rws w' base n v bs M := h.ch c (fun _ _ => ⟨id, id⟩) (fun _ _ => id)
theorem Rws.keep {ts : List TypeId} {b : Nat} {w w' : World} {base n : Nat} {v : Value} {bs : List (Nat × Nat)} {M : Nat → Nat → Bool} (h : Rws w base n v bs M) (c : Ch (Mine ts b w) w w') (hts : 53 ∉ ts ∧ 76 ∉ ts ∧ 78 ∉ ts) : Rws w' base n v bs M :=
  h.ch c (fun b hb => by
    obtain ⟨p, hp⟩ := h.fam.at hb
    exact ⟨mine_not hp.ty.1 hts.2.1, mine_not hp.ty.2 hts.2.2⟩) (fun k hk => mine_not (h.sl.ty hk) hts.1)
/-- Rows of one order while it is made; and made. -/
structure POrd (w : World) (base o n : Nat) (bs bs' : List (Nat × Nat)) (M S : Nat → Nat → Bool) (v1 v2 : Value) : Prop where
  hd : w.heap[o]? = some (.cells #[v1, v2, .bool true] 42 (0, 0))
  r : Rws w base n v1 bs M
  s : Rws w base n v2 bs' S
  ap : ∀ b ∈ bs, ∀ c ∈ bs', b.2 ≠ c.2
  lo : base ≤ o
def IsOrd (w : World) (base o n : Nat) (M S : Nat → Nat → Bool) : Prop := ∃ bs bs' v1 v2, POrd w base o n bs bs' M S v1 v2 ∧ bs.length = n ∧ bs'.length = n ∧ n ≤ 300
theorem IsOrd.keep {ts : List TypeId} {b : Nat} {w w' : World} {base o n : Nat} {M S : Nat → Nat → Bool} (h : IsOrd w base o n M S) (c : Ch (Mine ts b w) w w') (hts : 42 ∉ ts ∧ 53 ∉ ts ∧ 76 ∉ ts ∧ 78 ∉ ts) : IsOrd w' base o n M S := by
  obtain ⟨bs, bs', v1, v2, h, h1, h2, h3⟩ := h
  exact ⟨bs, bs', v1, v2, ⟨c.at h.hd (mine_not ⟨_, h.hd⟩ hts.1), h.r.keep c hts.2, h.s.keep c hts.2, h.ap, h.lo⟩, h1, h2, h3⟩
theorem IsOrd.ch0 {w w' : World} {base o n : Nat} {M S : Nat → Nat → Bool} (h : IsOrd w base o n M S) (c : Ch0 w w') : IsOrd w' base o n M S := by
  obtain ⟨bs, bs', v1, v2, h, h1, h2, h3⟩ := h
  exact ⟨bs, bs', v1, v2, ⟨c.at0 h.hd, h.r.ch0 c, h.s.ch0 c, h.ap, h.lo⟩, h1, h2, h3⟩
theorem IsOrd.eq {w : World} {base o n : Nat} {M S M' S' : Nat → Nat → Bool} (h : IsOrd w base o n M S) (e1 : ∀ i j, i < n → M i j = M' i j) (e2 : ∀ i j, i < n → S i j = S' i j) : IsOrd w base o n M' S' := by
  obtain ⟨bs, bs', v1, v2, h, h1, h2, h3⟩ := h
  exact ⟨bs, bs', v1, v2, ⟨h.hd, ⟨h.r.fam.eq fun i j hi => e1 i j (h1 ▸ hi), h.r.sl⟩, ⟨h.s.fam.eq fun i j hi => e2 i j (h2 ▸ hi), h.s.sl⟩, h.ap, h.lo⟩, h1, h2, h3⟩
theorem IsOrd.clean {w : World} {base o n : Nat} {M S : Nat → Nat → Bool} (h : IsOrd w base o n M S) {i j : Nat} (hi : i < n) (hj : n ≤ j) : M i j = false ∧ S i j = false := by
  obtain ⟨bs, bs', v1, v2, h, h1, h2, h3⟩ := h
  exact ⟨(h.r.fam.row i (by omega)).clean hj, (h.s.fam.row i (by omega)).clean hj⟩
/-- b comes behind a from now on. -/
def joinM (M : Nat → Nat → Bool) (a b i j : Nat) : Bool := M i j || ((decide (i = a) || M i a) && (decide (j = b) || M b j))
def midM (M : Nat → Nat → Bool) (a b k i j : Nat) : Bool := if i < k then joinM M a b i j else M i j
theorem mid_zero {M : Nat → Nat → Bool} {a b i j : Nat} : midM M a b 0 i j = M i j := by simp [midM]
theorem mid_skip {M : Nat → Nat → Bool} {a b k : Nat} (h : k ≠ a) (h2 : M k a = false) (i j : Nat) : midM M a b k i j = midM M a b (k + 1) i j := by
  unfold midM joinM
  by_cases e : i = k
  · subst e
    rw [if_neg (by omega), if_pos (by omega), h2, decide_eq_false h]; simp
  · by_cases e2 : i < k
    · rw [if_pos e2, if_pos (by omega)]
    · rw [if_neg e2, if_neg (by omega)]
theorem mid_do {M : Nat → Nat → Bool} {a b k : Nat} (h : k = a ∨ M k a = true) (i j : Nat) :
    (if i = k then ((if k = k then (midM M a b k k j || decide (j = b)) else midM M a b k k j) || (if b = k then (midM M a b k k j || decide (j = b)) else midM M a b k b j)) else (if i = k then (midM M a b k k j || decide (j = b)) else midM M a b k i j)) = midM M a b (k + 1) i j := by
  have hk : (decide (k = a) || M k a) = true := by rcases h with h | h <;> simp [h]
  have e0 : midM M a b k k j = M k j := by unfold midM; rw [if_neg (by omega)]
  by_cases e : i = k
  · subst e
    rw [if_pos rfl, if_pos rfl, e0]
    have e1 : midM M a b (i + 1) i j = (M i j || (decide (j = b) || M b j)) := by
      unfold midM joinM; rw [if_pos (by omega), hk, Bool.true_and]
    rw [e1]
    by_cases e2 : b = i
    · subst e2
      rw [if_pos rfl]; cases M b j <;> simp
    · rw [if_neg e2]
      unfold midM joinM
      split <;> (cases M i j <;> cases M b j <;> cases decide (j = b) <;> simp)
  · rw [if_neg e, if_neg e]
    unfold midM
    by_cases e2 : i < k
    · rw [if_pos e2, if_pos (by omega)]
    · rw [if_neg e2, if_neg (by omega)]
theorem ptr_of {w : World} {a : Option Addr} {c : Nat} {bs : List (Nat × Nat)} (h : Sl w (.slice a bs.length c) (ptrs bs)) {k : Nat} (hk : k < bs.length) :
    ∃ b o cs T fr, a = some ⟨b, o, none⟩ ∧ w.heap[b]? = some (.cells cs T fr) ∧ cs[o + (k : Int).toNat * 1]? = some (.pointer (some ⟨bs[k].1, 0, none⟩)) := by
  obtain ⟨b, o, c, cs, T, fr, e, h1, h2⟩ := ptr_at h hk
  simp only [Value.slice.injEq, true_and] at e
  exact ⟨b, o, cs, T, fr, e.1, h1, h2⟩
theorem slot_of {w : World} {a : Option Addr} {c : Nat} {bs : List (Nat × Nat)} (h : Sl w (.slice a bs.length c) (ptrs bs)) {k : Int} (h0 : 0 ≤ k) (hk : k < bs.length) :
    ∃ b o cs T fr, a = some ⟨b, o, none⟩ ∧ w.heap[b]? = some (.cells cs T fr) ∧ cs[o + k.toNat * 1]? = some (.pointer (some ⟨(bs[k.toNat]'(by omega)).1, 0, none⟩)) := by
  obtain ⟨b, o, cs, T, fr, e, h1, h2⟩ := ptr_of h (k := k.toNat) (by omega)
  exact ⟨b, o, cs, T, fr, e, h1, by rw [show ((k.toNat : Nat) : Int).toNat = k.toNat by omega] at h2; exact h2⟩
def lessB (n : Nat) (M : Nat → Nat → Bool) (a b : Int) : Bool := decide (0 ≤ a ∧ a < n) && (decide (0 ≤ b) && M a.toNat b.toNat)

theorem less_ok (base n o f : Nat) (v : Value) (bs : List (Nat × Nat)) (M : Nat → Nat → Bool) (cs : Array Value) (T : TypeId) (w : World) (hd : w.heap[o]? = some (.cells cs T (0, 0))) (hf : cs[f]? = some v) (h : Rws w base n v bs M) (hn : bs.length = n) (hn2 : n ≤ 300) (a b : Int) :
    Sg.Ret Tryd.prog 23 #[.pointer (some ⟨o, f, none⟩), .int .i64 a, .int .i64 b] w fun v w' => v = .bool (lessB n M a b) ∧ Dr w w' := by
  obtain ⟨va, vc, rfl⟩ := q_len h.sl
  have hsl := h.sl.sl
  refine enter1 (n := 29) (l := [.pointer (some ⟨o, f, none⟩), .int .i64 a, .int .i64 b]) Tryd.func23 rfl rfl rfl rfl ?_
  refine W.g3 0 1 2 (v1 := .pointer (some ⟨o, f, none⟩)) (v2 := .int .i64 a) (v3 := .int .i64 b) rfl rfl rfl ?_; intro σ s0 s1 s2
  refine W.seq ?_
  refine W.region ?_
  refine WL.x (X.asg lc) rfl ?_
  refine WL.e3 Nx.thn 0 1 2 (lt rfl (s0)) (lt rfl (s1)) (lt rfl (s2)) ?_
  intro σ1 s0 s1 s2
  refine W.seq ?_
  refine W.region ?_
  refine WL.x (X.mv (s1)) rfl ?_
  refine WL.x (X.geq (lh) lc) rfl ?_
  refine WL.x (X.mv (lh)) rfl ?_
  refine WL.splitp (lh) (fun h0 => ?_) (fun h0 => ?_)
  · refine WL.yes rfl rfl (lh) (decide_eq_true h0) ?_
    refine WL.x (X.mv (lt rfl (lt rfl (lt rfl (s1))))) rfl ?_
    refine WL.yes rfl rfl (lt rfl (lh)) (decide_eq_true h0) ?_
    refine WL.x (X.mv (lt rfl (lt rfl (lt rfl (lt rfl (s0)))))) rfl ?_
    refine WL.yes rfl rfl (lt rfl (lt rfl (lh))) (decide_eq_true h0) ?_
    refine WL.x (X.nilck (lh)) rfl ?_
    refine WL.yes rfl rfl (lt rfl (lt rfl (lt rfl (lh)))) (decide_eq_true h0) ?_
    refine WL.x (X.fieldAddr fd40_0 (lh)) rfl ?_
    refine WL.yes rfl rfl (lt rfl (lt rfl (lt rfl (lt rfl (lh))))) (decide_eq_true h0) ?_
    refine WL.x (X.load pl38 (lh) (by first | assumption) (by first | rfl | assumption)) rfl ?_
    refine WL.yes rfl rfl (lt rfl (lt rfl (lt rfl (lt rfl (lt rfl (lh)))))) (decide_eq_true h0) ?_
    refine WL.x (X.lenSl Tryd.underlying38 (lh)) rfl ?_
    refine WL.yes rfl rfl (lt rfl (lt rfl (lt rfl (lt rfl (lt rfl (lt rfl (lh))))))) (decide_eq_true h0) ?_
    refine WL.x (X.lss (lt rfl (lt rfl (lt rfl (lt rfl (lt rfl (lh)))))) (lh)) rfl ?_
    refine WL.x (X.pickT (lt rfl (lt rfl (lt rfl (lt rfl (lt rfl (lt rfl (lt rfl (lh)))))))) (decide_eq_true h0) (lh)) rfl ?_
    refine WL.x (X.mv (lh)) rfl ?_
    refine WL.splitp (lh) (fun h1 => ?_) (fun h1 => ?_)
    · refine WL.yes rfl rfl (lh) (decide_eq_true h1) ?_
      refine WL.x (X.mv (lt rfl (lt rfl (lt rfl (lt rfl (lt rfl (lt rfl (lt rfl (lt rfl (lt rfl (lt rfl (lt rfl (lt rfl (s0)))))))))))))) rfl ?_
      refine WL.yes rfl rfl (lt rfl (lh)) (decide_eq_true h1) ?_
      refine WL.x (X.nilck (lh)) rfl ?_
      refine WL.yes rfl rfl (lt rfl (lt rfl (lh))) (decide_eq_true h1) ?_
      refine WL.x (X.fieldAddr fd40_0 (lh)) rfl ?_
      refine WL.yes rfl rfl (lt rfl (lt rfl (lt rfl (lh)))) (decide_eq_true h1) ?_
      refine WL.x (X.load pl38 (lh) (by first | assumption) (by first | rfl | assumption)) rfl ?_
      refine WL.yes rfl rfl (lt rfl (lt rfl (lt rfl (lt rfl (lh))))) (decide_eq_true h1) ?_
      refine WL.x (X.mv (lt rfl (lt rfl (lt rfl (lt rfl (lt rfl (lt rfl (lt rfl (lt rfl (lt rfl (lt rfl (lt rfl (lt rfl (lt rfl (lt rfl (lt rfl (lt rfl (s1)))))))))))))))))) rfl ?_
      refine WL.yes rfl rfl (lt rfl (lt rfl (lt rfl (lt rfl (lt rfl (lh)))))) (decide_eq_true h1) ?_
      obtain ⟨g, og, csg, Tg, frg, rfl, hg1, hg2⟩ := slot_of hsl (k := a) h0 (by omega)
      refine WL.x (X.indexAddr Tryd.underlying38 el53 (lt rfl (lh)) (lh) (by omega) (by omega)) rfl ?_
      refine WL.yes rfl rfl (lt rfl (lt rfl (lt rfl (lt rfl (lt rfl (lt rfl (lh))))))) (decide_eq_true h1) ?_
      refine WL.x (X.load pl53 (lh) hg1 hg2) rfl ?_
      refine WL.yes rfl rfl (lt rfl (lt rfl (lt rfl (lt rfl (lt rfl (lt rfl (lt rfl (lh)))))))) (decide_eq_true h1) ?_
      refine WL.x (X.mv (lt rfl (lt rfl (lt rfl (lt rfl (lt rfl (lt rfl (lt rfl (lt rfl (lt rfl (lt rfl (lt rfl (lt rfl (lt rfl (lt rfl (lt rfl (lt rfl (lt rfl (lt rfl (lt rfl (s2))))))))))))))))))))) rfl ?_
      refine WL.yes rfl rfl (lt rfl (lt rfl (lt rfl (lt rfl (lt rfl (lt rfl (lt rfl (lt rfl (lh))))))))) (decide_eq_true h1) ?_
      refine WL.call2 ce29 (lt rfl (lh)) (lh) (has_row base n bs M w h.fam a.toNat (by omega) b) rfl ?_
      rintro _ w1 ⟨rfl, hdr⟩
      refine WL.x (X.pickT (lt rfl (lt rfl (lt rfl (lt rfl (lt rfl (lt rfl (lt rfl (lt rfl (lt rfl (lh)))))))))) (decide_eq_true h1) (lh)) rfl ?_
      refine WL.x (X.asg (lh)) rfl ?_
      refine WL.e1 Nx.thn 6 (lh) ?_
      intro σ2 s6
      refine W.ret1 Nx.f1 s6 ?_
      exact ⟨congrArg Value.bool (by unfold lessB; rw [show decide (0 ≤ a ∧ a < (n : Int)) = true from decide_eq_true ⟨h0, by omega⟩, Bool.true_and]), hdr⟩
    · refine WL.no rfl rfl (lh) (decide_eq_false h1) rfl ?_
      refine WL.no rfl rfl (lt rfl (lh)) (decide_eq_false h1) rfl ?_
      refine WL.no rfl rfl (lt rfl (lt rfl (lh))) (decide_eq_false h1) rfl ?_
      refine WL.no rfl rfl (lt rfl (lt rfl (lt rfl (lh)))) (decide_eq_false h1) rfl ?_
      refine WL.no rfl rfl (lt rfl (lt rfl (lt rfl (lt rfl (lh))))) (decide_eq_false h1) rfl ?_
      refine WL.no rfl rfl (lt rfl (lt rfl (lt rfl (lt rfl (lt rfl (lh)))))) (decide_eq_false h1) rfl ?_
      refine WL.no rfl rfl (lt rfl (lt rfl (lt rfl (lt rfl (lt rfl (lt rfl (lh))))))) (decide_eq_false h1) rfl ?_
      refine WL.no rfl rfl (lt rfl (lt rfl (lt rfl (lt rfl (lt rfl (lt rfl (lt rfl (lh)))))))) (decide_eq_false h1) rfl ?_
      refine WL.no rfl rfl (lt rfl (lt rfl (lt rfl (lt rfl (lt rfl (lt rfl (lt rfl (lt rfl (lh))))))))) (decide_eq_false h1) rfl ?_
      refine WL.x (X.pickF (lt rfl (lt rfl (lt rfl (lt rfl (lt rfl (lt rfl (lt rfl (lt rfl (lt rfl (lh)))))))))) (decide_eq_false h1) lc) rfl ?_
      refine WL.x (X.asg (lh)) rfl ?_
      refine WL.e1 Nx.thn 6 (lh) ?_
      intro σ3 s6
      refine W.ret1 Nx.f1 s6 ?_
      exact ⟨congrArg Value.bool (by unfold lessB; rw [show decide (0 ≤ a ∧ a < (n : Int)) = false from decide_eq_false (by omega), Bool.false_and]), Dr.refl _⟩
  · refine WL.no rfl rfl (lh) (decide_eq_false h0) rfl ?_
    refine WL.no rfl rfl (lt rfl (lh)) (decide_eq_false h0) rfl ?_
    refine WL.no rfl rfl (lt rfl (lt rfl (lh))) (decide_eq_false h0) rfl ?_
    refine WL.no rfl rfl (lt rfl (lt rfl (lt rfl (lh)))) (decide_eq_false h0) rfl ?_
    refine WL.no rfl rfl (lt rfl (lt rfl (lt rfl (lt rfl (lh))))) (decide_eq_false h0) rfl ?_
    refine WL.no rfl rfl (lt rfl (lt rfl (lt rfl (lt rfl (lt rfl (lh)))))) (decide_eq_false h0) rfl ?_
    refine WL.no rfl rfl (lt rfl (lt rfl (lt rfl (lt rfl (lt rfl (lt rfl (lh))))))) (decide_eq_false h0) rfl ?_
    refine WL.x (X.pickF (lt rfl (lt rfl (lt rfl (lt rfl (lt rfl (lt rfl (lt rfl (lh)))))))) (decide_eq_false h0) lc) rfl ?_
    refine WL.x (X.mv (lh)) rfl ?_
    refine WL.no rfl rfl (lh) rfl rfl ?_
    refine WL.no rfl rfl (lt rfl (lh)) rfl rfl ?_
    refine WL.no rfl rfl (lt rfl (lt rfl (lh))) rfl rfl ?_
    refine WL.no rfl rfl (lt rfl (lt rfl (lt rfl (lh)))) rfl rfl ?_
    refine WL.no rfl rfl (lt rfl (lt rfl (lt rfl (lt rfl (lh))))) rfl rfl ?_
    refine WL.no rfl rfl (lt rfl (lt rfl (lt rfl (lt rfl (lt rfl (lh)))))) rfl rfl ?_
    refine WL.no rfl rfl (lt rfl (lt rfl (lt rfl (lt rfl (lt rfl (lt rfl (lh))))))) rfl rfl ?_
    refine WL.no rfl rfl (lt rfl (lt rfl (lt rfl (lt rfl (lt rfl (lt rfl (lt rfl (lh)))))))) rfl rfl ?_
    refine WL.no rfl rfl (lt rfl (lt rfl (lt rfl (lt rfl (lt rfl (lt rfl (lt rfl (lt rfl (lh))))))))) rfl rfl ?_
    refine WL.x (X.pickF (lt rfl (lt rfl (lt rfl (lt rfl (lt rfl (lt rfl (lt rfl (lt rfl (lt rfl (lh)))))))))) rfl lc) rfl ?_
    refine WL.x (X.asg (lh)) rfl ?_
    refine WL.e1 Nx.thn 6 (lh) ?_
    intro σ4 s6
    refine W.ret1 Nx.f1 s6 ?_
    exact ⟨congrArg Value.bool (by unfold lessB; rw [show decide (0 ≤ a ∧ a < (n : Int)) = false from decide_eq_false (by omega), Bool.false_and]), Dr.refl _⟩
theorem less_none (o f : Nat) (cs : Array Value) (T : TypeId) (w : World) (hd : w.heap[o]? = some (.cells cs T (0, 0))) (hf : cs[f]? = some (.slice none 0 0)) (a b : Int) :
    Sg.Ret Tryd.prog 23 #[.pointer (some ⟨o, f, none⟩), .int .i64 a, .int .i64 b] w fun v w' => v = .bool false ∧ w = w' := by
  refine enter1 (n := 29) (l := [.pointer (some ⟨o, f, none⟩), .int .i64 a, .int .i64 b]) Tryd.func23 rfl rfl rfl rfl ?_
  refine W.g3 0 1 2 (v1 := .pointer (some ⟨o, f, none⟩)) (v2 := .int .i64 a) (v3 := .int .i64 b) rfl rfl rfl ?_; intro σ s0 s1 s2
  refine W.seq ?_
  refine W.region ?_
  refine WL.x (X.asg lc) rfl ?_
  refine WL.e3 Nx.thn 0 1 2 (lt rfl (s0)) (lt rfl (s1)) (lt rfl (s2)) ?_
  intro σ1 s0 s1 s2
  refine W.seq ?_
  refine W.region ?_
  refine WL.x (X.mv (s1)) rfl ?_
  refine WL.x (X.geq (lh) lc) rfl ?_
  refine WL.x (X.mv (lh)) rfl ?_
  refine WL.splitp (lh) (fun h0 => ?_) (fun h0 => ?_)
  · refine WL.yes rfl rfl (lh) (decide_eq_true h0) ?_
    refine WL.x (X.mv (lt rfl (lt rfl (lt rfl (s1))))) rfl ?_
    refine WL.yes rfl rfl (lt rfl (lh)) (decide_eq_true h0) ?_
    refine WL.x (X.mv (lt rfl (lt rfl (lt rfl (lt rfl (s0)))))) rfl ?_
    refine WL.yes rfl rfl (lt rfl (lt rfl (lh))) (decide_eq_true h0) ?_
    refine WL.x (X.nilck (lh)) rfl ?_
    refine WL.yes rfl rfl (lt rfl (lt rfl (lt rfl (lh)))) (decide_eq_true h0) ?_
    refine WL.x (X.fieldAddr fd40_0 (lh)) rfl ?_
    refine WL.yes rfl rfl (lt rfl (lt rfl (lt rfl (lt rfl (lh))))) (decide_eq_true h0) ?_
    refine WL.x (X.load pl38 (lh) (by first | assumption) (by first | rfl | assumption)) rfl ?_
    refine WL.yes rfl rfl (lt rfl (lt rfl (lt rfl (lt rfl (lt rfl (lh)))))) (decide_eq_true h0) ?_
    refine WL.x (X.lenSl Tryd.underlying38 (lh)) rfl ?_
    refine WL.yes rfl rfl (lt rfl (lt rfl (lt rfl (lt rfl (lt rfl (lt rfl (lh))))))) (decide_eq_true h0) ?_
    refine WL.x (X.lss (lt rfl (lt rfl (lt rfl (lt rfl (lt rfl (lh)))))) (lh)) rfl ?_
    refine WL.x (X.pickT (lt rfl (lt rfl (lt rfl (lt rfl (lt rfl (lt rfl (lt rfl (lh)))))))) (decide_eq_true h0) (lh)) rfl ?_
    refine WL.x (X.mv (lh)) rfl ?_
    refine WL.no rfl rfl (lh) (decide_eq_false (by omega)) rfl ?_
    refine WL.no rfl rfl (lt rfl (lh)) (decide_eq_false (by omega)) rfl ?_
    refine WL.no rfl rfl (lt rfl (lt rfl (lh))) (decide_eq_false (by omega)) rfl ?_
    refine WL.no rfl rfl (lt rfl (lt rfl (lt rfl (lh)))) (decide_eq_false (by omega)) rfl ?_
    refine WL.no rfl rfl (lt rfl (lt rfl (lt rfl (lt rfl (lh))))) (decide_eq_false (by omega)) rfl ?_
    refine WL.no rfl rfl (lt rfl (lt rfl (lt rfl (lt rfl (lt rfl (lh)))))) (decide_eq_false (by omega)) rfl ?_
    refine WL.no rfl rfl (lt rfl (lt rfl (lt rfl (lt rfl (lt rfl (lt rfl (lh))))))) (decide_eq_false (by omega)) rfl ?_
    refine WL.no rfl rfl (lt rfl (lt rfl (lt rfl (lt rfl (lt rfl (lt rfl (lt rfl (lh)))))))) (decide_eq_false (by omega)) rfl ?_
    refine WL.no rfl rfl (lt rfl (lt rfl (lt rfl (lt rfl (lt rfl (lt rfl (lt rfl (lt rfl (lh))))))))) (decide_eq_false (by omega)) rfl ?_
    refine WL.x (X.pickF (lt rfl (lt rfl (lt rfl (lt rfl (lt rfl (lt rfl (lt rfl (lt rfl (lt rfl (lh)))))))))) (decide_eq_false (by omega)) lc) rfl ?_
    refine WL.x (X.asg (lh)) rfl ?_
    refine WL.e1 Nx.thn 6 (lh) ?_
    intro σ2 s6
    refine W.ret1 Nx.f1 s6 ?_
    exact ⟨rfl, rfl⟩
  · refine WL.no rfl rfl (lh) (decide_eq_false h0) rfl ?_
    refine WL.no rfl rfl (lt rfl (lh)) (decide_eq_false h0) rfl ?_
    refine WL.no rfl rfl (lt rfl (lt rfl (lh))) (decide_eq_false h0) rfl ?_
    refine WL.no rfl rfl (lt rfl (lt rfl (lt rfl (lh)))) (decide_eq_false h0) rfl ?_
    refine WL.no rfl rfl (lt rfl (lt rfl (lt rfl (lt rfl (lh))))) (decide_eq_false h0) rfl ?_
    refine WL.no rfl rfl (lt rfl (lt rfl (lt rfl (lt rfl (lt rfl (lh)))))) (decide_eq_false h0) rfl ?_
    refine WL.no rfl rfl (lt rfl (lt rfl (lt rfl (lt rfl (lt rfl (lt rfl (lh))))))) (decide_eq_false h0) rfl ?_
    refine WL.x (X.pickF (lt rfl (lt rfl (lt rfl (lt rfl (lt rfl (lt rfl (lt rfl (lh)))))))) (decide_eq_false h0) lc) rfl ?_
    refine WL.x (X.mv (lh)) rfl ?_
    refine WL.no rfl rfl (lh) rfl rfl ?_
    refine WL.no rfl rfl (lt rfl (lh)) rfl rfl ?_
    refine WL.no rfl rfl (lt rfl (lt rfl (lh))) rfl rfl ?_
    refine WL.no rfl rfl (lt rfl (lt rfl (lt rfl (lh)))) rfl rfl ?_
    refine WL.no rfl rfl (lt rfl (lt rfl (lt rfl (lt rfl (lh))))) rfl rfl ?_
    refine WL.no rfl rfl (lt rfl (lt rfl (lt rfl (lt rfl (lt rfl (lh)))))) rfl rfl ?_
    refine WL.no rfl rfl (lt rfl (lt rfl (lt rfl (lt rfl (lt rfl (lt rfl (lh))))))) rfl rfl ?_
    refine WL.no rfl rfl (lt rfl (lt rfl (lt rfl (lt rfl (lt rfl (lt rfl (lt rfl (lh)))))))) rfl rfl ?_
    refine WL.no rfl rfl (lt rfl (lt rfl (lt rfl (lt rfl (lt rfl (lt rfl (lt rfl (lt rfl (lh))))))))) rfl rfl ?_
    refine WL.x (X.pickF (lt rfl (lt rfl (lt rfl (lt rfl (lt rfl (lt rfl (lt rfl (lt rfl (lt rfl (lh)))))))))) rfl lc) rfl ?_
    refine WL.x (X.asg (lh)) rfl ?_
    refine WL.e1 Nx.thn 6 (lh) ?_
    intro σ3 s6
    refine W.ret1 Nx.f1 s6 ?_
    exact ⟨rfl, rfl⟩
theorem put_ok (base n o f : Nat) (v : Value) (bs : List (Nat × Nat)) (M : Nat → Nat → Bool) (cs : Array Value) (T : TypeId) (w : World) (hd : w.heap[o]? = some (.cells cs T (0, 0))) (hf : cs[f]? = some v) (h : Rws w base n v bs M) (hn : bs.length = n) (hn2 : n ≤ 300) (a b : Int) (ha0 : 0 ≤ a) (ha : a < n) (hb0 : 0 ≤ b) (hb : b < n) (hT : T ≠ 78) :
    Sg.Ret Tryd.prog 27 #[.pointer (some ⟨o, f, none⟩), .int .i64 a, .int .i64 b] w fun v' w' => Rws w' base n v bs (joinM M a.toNat b.toNat) ∧ Ch (inB bs) w w' := by
  obtain ⟨va, vc, rfl⟩ := q_len h.sl
  have hsl := h.sl.sl
  have hon : ¬ inB bs o := fun hb => ty_ne ⟨_, hd⟩ (h.fam.ty hb) hT rfl
  have hgn : ∀ k, slBlk (.slice va bs.length vc) k → ¬ inB bs k := fun k hk => h.notw hk h.fam
  refine enter0 (n := 39) (l := [.pointer (some ⟨o, f, none⟩), .int .i64 a, .int .i64 b]) Tryd.func27 rfl rfl rfl rfl ?_
  refine W.g3 0 1 2 (v1 := .pointer (some ⟨o, f, none⟩)) (v2 := .int .i64 a) (v3 := .int .i64 b) rfl rfl rfl ?_; intro σ s0 s1 s2
  refine W.seq ?_
  refine W.region ?_
  refine WL.x (X.mv (s0)) rfl ?_
  refine WL.x (X.nilck (lh)) rfl ?_
  refine WL.x (X.fieldAddr fd40_0 (lh)) rfl ?_
  refine WL.x (X.load pl38 (lh) (by first | assumption) (by first | rfl | assumption)) rfl ?_
  refine WL.x (X.lenSl Tryd.underlying38 (lh)) rfl ?_
  refine WL.x (X.mv lc) rfl ?_
  refine WL.e6 Nx.thn 0 1 2 11 12 13 (lt rfl (lt rfl (lt rfl (lt rfl (lt rfl (lt rfl (s0))))))) (lt rfl (lt rfl (lt rfl (lt rfl (lt rfl (lt rfl (s1))))))) (lt rfl (lt rfl (lt rfl (lt rfl (lt rfl (lt rfl (s2))))))) (lt rfl (lt rfl (lh))) (lt rfl (lh)) (lh) ?_
  intro σ1 s0 s1 s2 s11 s12 s13
  refine W.block ?_
  have qo1 := s0
  have qo2 := s1
  have qo3 := s2
  have qo4 := s11
  have qo5 := s12
  -- loop 0: kept [0, 1, 2, 11, 12], varied [13]
  refine W.loop (G := Nat) (fun k σ' w' => (σ' 0 = σ1 0 ∧ σ' 1 = σ1 1 ∧ σ' 2 = σ1 2 ∧ σ' 11 = σ1 11 ∧ σ' 12 = σ1 12 ∧ True) ∧ (σ' 13 = .int .i64 (k : Int) ∧ k ≤ bs.length ∧ Fam w' base n bs (midM M a.toNat b.toNat k) ∧ Ch (inB bs) w w')) (fun k => bs.length - k) (0) ⟨⟨rfl, rfl, rfl, rfl, rfl, trivial⟩, s13, by omega, h.fam.eq (fun i j _ => mid_zero.symm), Ch.refl _ _⟩ ?_
  rintro k σ2 w1 ⟨⟨f0, f1, f2, f11, f12, _⟩, s13, hk, hfm, hcl⟩
  have s0 := f0.trans qo1
  have s1 := f1.trans qo2
  have s2 := f2.trans qo3
  have s11 := f11.trans qo4
  have s12 := f12.trans qo5
  refine W.seq ?_
  refine W.region ?_
  refine WL.x (X.lss (s13) (s12)) rfl ?_
  refine WL.e7 Nx.thn 0 1 2 11 12 13 14 (lt rfl (s0)) (lt rfl (s1)) (lt rfl (s2)) (lt rfl (s11)) (lt rfl (s12)) (lt rfl (s13)) (lh) ?_
  intro σ3 s0 s1 s2 s11 s12 s13 s14
  refine W.seq ?_
  refine W.cndp s14 (fun hlt => ?_) (fun hlt => ?_)
  · obtain ⟨g, og, csg, Tg, frg, rfl, hg1, hg2⟩ := ptr_of hsl (k := k) (by omega)
    have hgb := hgn g rfl
    obtain ⟨gb, ogb, csb, Tb, frb, eqb, hb1, hb2⟩ := slot_of hsl (k := b) hb0 (by omega)
    obtain ⟨rfl, rfl⟩ : g = gb ∧ og = ogb := by simpa using eqb
    have hd2 := hcl.at hd hon
    have hgk := hcl.at hg1 hgb
    have hin : inB bs (bs[k].2) := ⟨_, List.getElem_mem _, rfl⟩
    refine W.skip Nx.thn ?_
    refine W.seq ?_
    refine W.block ?_
    refine W.seq ?_
    refine W.region ?_
    refine WL.x (X.mv (s13)) rfl ?_
    refine WL.x (X.indexAddr Tryd.underlying38 el53 (lt rfl (s11)) (lt rfl (s13)) (by omega) (by omega)) rfl ?_
    refine WL.x (X.load pl53 (lh) hgk hg2) rfl ?_
    refine WL.x (X.asg (lt rfl (lt rfl (lh)))) rfl ?_
    refine WL.x (X.asg (lt rfl (lh))) rfl ?_
    refine WL.e8 Nx.thn 0 1 2 6 7 11 12 13 (lt rfl (lt rfl (lt rfl (lt rfl (lt rfl (s0)))))) (lt rfl (lt rfl (lt rfl (lt rfl (lt rfl (s1)))))) (lt rfl (lt rfl (lt rfl (lt rfl (lt rfl (s2)))))) (lt rfl (lh)) (lh) (lt rfl (lt rfl (lt rfl (lt rfl (lt rfl (s11)))))) (lt rfl (lt rfl (lt rfl (lt rfl (lt rfl (s12)))))) (lt rfl (lt rfl (lt rfl (lt rfl (lt rfl (s13)))))) ?_
    intro σ4 s0 s1 s2 s6 s7 s11 s12 s13
    refine W.seq ?_
    refine W.region ?_
    refine WL.x (X.mv (s6)) rfl ?_
    refine WL.x (X.mv (lt rfl (s1))) rfl ?_
    refine WL.x (X.eql (lt rfl (lh)) (lh)) rfl ?_
    refine WL.x (X.mv (lh)) rfl ?_
    refine WL.splitp (lh) (fun hxa => ?_) (fun hxa => ?_)
    · refine WL.no rfl rfl (lh) (decide_eq_true hxa) rfl ?_
      refine WL.no rfl rfl (lt rfl (lh)) (decide_eq_true hxa) rfl ?_
      refine WL.no rfl rfl (lt rfl (lt rfl (lh))) (decide_eq_true hxa) rfl ?_
      refine WL.x (X.pickT (lt rfl (lt rfl (lt rfl (lh)))) (decide_eq_true hxa) lc) rfl ?_
      refine WL.e8 Nx.thn 0 1 2 7 11 12 13 25 (lt rfl (lt rfl (lt rfl (lt rfl (lt rfl (lt rfl (lt rfl (lt rfl (s0))))))))) (lt rfl (lt rfl (lt rfl (lt rfl (lt rfl (lt rfl (lt rfl (lt rfl (s1))))))))) (lt rfl (lt rfl (lt rfl (lt rfl (lt rfl (lt rfl (lt rfl (lt rfl (s2))))))))) (lt rfl (lt rfl (lt rfl (lt rfl (lt rfl (lt rfl (lt rfl (lt rfl (s7))))))))) (lt rfl (lt rfl (lt rfl (lt rfl (lt rfl (lt rfl (lt rfl (lt rfl (s11))))))))) (lt rfl (lt rfl (lt rfl (lt rfl (lt rfl (lt rfl (lt rfl (lt rfl (s12))))))))) (lt rfl (lt rfl (lt rfl (lt rfl (lt rfl (lt rfl (lt rfl (lt rfl (s13))))))))) (lh) ?_
      intro σ5 s0 s1 s2 s7 s11 s12 s13 s25
      refine W.cndT s25 ?_
      refine W.seq ?_
      refine W.region ?_
      refine WL.x (X.mv (s7)) rfl ?_
      refine WL.x (X.mv (lt rfl (s2))) rfl ?_
      refine WL.call2 ce31 (lt rfl (lh)) (lh) (add_row base n bs _ w1 hfm k (by omega) b hb0 hb) rfl ?_
      rintro _ w2 ⟨rfl, hfm, cad⟩
      have hd2 := cad.at hd2 (fun e => hon (e ▸ hin))
      refine WL.e7 Nx.thn 0 1 2 7 11 12 13 (lt rfl (lt rfl (lt rfl (s0)))) (lt rfl (lt rfl (lt rfl (s1)))) (lt rfl (lt rfl (lt rfl (s2)))) (lt rfl (lt rfl (lt rfl (s7)))) (lt rfl (lt rfl (lt rfl (s11)))) (lt rfl (lt rfl (lt rfl (s12)))) (lt rfl (lt rfl (lt rfl (s13)))) ?_
      intro σ6 s0 s1 s2 s7 s11 s12 s13
      refine W.region ?_
      refine WL.x (X.mv (s7)) rfl ?_
      refine WL.x (X.mv (lt rfl (s0))) rfl ?_
      refine WL.x (X.nilck (lh)) rfl ?_
      refine WL.x (X.fieldAddr fd40_0 (lh)) rfl ?_
      refine WL.x (X.load pl38 (lh) (by first | assumption | exact cad.at (by assumption) (by intro hne; first | exact hne | ((try dsimp only at hne); omega))) (by first | rfl | assumption)) rfl ?_
      refine WL.x (X.mv (lt rfl (lt rfl (lt rfl (lt rfl (lt rfl (s2))))))) rfl ?_
      refine WL.x (X.indexAddr Tryd.underlying38 el53 (lt rfl (lh)) (lh) (by omega) (by omega)) rfl ?_
      refine WL.x (X.load pl53 (lh) (cad.at (hcl.at hb1 hgb) (fun e => hgb (e ▸ hin))) hb2) rfl ?_
      refine WL.call2 ce32 (lt rfl (lt rfl (lt rfl (lt rfl (lt rfl (lt rfl (lt rfl (lh)))))))) (lh) (or_row base n bs _ w2 hfm k b.toNat (by omega) (by omega)) rfl ?_
      rintro _ w3 ⟨⟨cz, rfl⟩, hfm, cor⟩
      refine WL.e6 (Nx.blk Nx.thn) 0 1 2 11 12 13 (lt rfl (lt rfl (lt rfl (lt rfl (lt rfl (lt rfl (lt rfl (lt rfl (lt rfl (s0)))))))))) (lt rfl (lt rfl (lt rfl (lt rfl (lt rfl (lt rfl (lt rfl (lt rfl (lt rfl (s1)))))))))) (lt rfl (lt rfl (lt rfl (lt rfl (lt rfl (lt rfl (lt rfl (lt rfl (lt rfl (s2)))))))))) (lt rfl (lt rfl (lt rfl (lt rfl (lt rfl (lt rfl (lt rfl (lt rfl (lt rfl (s11)))))))))) (lt rfl (lt rfl (lt rfl (lt rfl (lt rfl (lt rfl (lt rfl (lt rfl (lt rfl (s12)))))))))) (lt rfl (lt rfl (lt rfl (lt rfl (lt rfl (lt rfl (lt rfl (lt rfl (lt rfl (s13)))))))))) ?_
      intro σ7 s0 s1 s2 s11 s12 s13
      refine W.region ?_
      first | refine WL.x (X.add (s13) lc (by omega) (by omega)) rfl ?_ | refine WL.x (X.addw (s13) lc) rfl ?_
      refine WL.x (X.mv (lh)) rfl ?_
      refine WL.e6 Nx.thn 0 1 2 11 12 13 (lt rfl (lt rfl (s0))) (lt rfl (lt rfl (s1))) (lt rfl (lt rfl (s2))) (lt rfl (lt rfl (s11))) (lt rfl (lt rfl (s12))) (lh) ?_
      intro σ8 s0 s1 s2 s11 s12 s13
      refine ⟨k + 1, by first | omega | (dsimp only; omega), ⟨s0.trans qo1.symm, s1.trans qo2.symm, s2.trans qo3.symm, s11.trans qo4.symm, s12.trans qo5.symm, trivial⟩, s13, by omega, hfm.eq (fun i j _ => mid_do (by first | exact .inl (by omega) | (right; have := hma; unfold midM at this; rw [if_neg (by omega)] at this; simp only [Bool.and_eq_true, decide_eq_true_eq] at this; exact this.2)) i j), (hcl.trans cad (fun _ _ => id) (fun i _ e => by rw [show i = bs[k].2 from e]; exact hin)).trans cor (fun _ _ => id) (fun i _ e => by rw [show i = bs[k].2 from e]; exact hin)⟩
    · refine WL.yes rfl rfl (lh) (decide_eq_false hxa) ?_
      refine WL.x (X.mv (lt rfl (lt rfl (lt rfl (lt rfl (s7)))))) rfl ?_
      refine WL.yes rfl rfl (lt rfl (lh)) (decide_eq_false hxa) ?_
      refine WL.x (X.mv (lt rfl (lt rfl (lt rfl (lt rfl (lt rfl (s1))))))) rfl ?_
      refine WL.yes rfl rfl (lt rfl (lt rfl (lh))) (decide_eq_false hxa) ?_
      refine WL.call2 ce29 (lt rfl (lh)) (lh) (has_row base n bs _ w1 hfm k (by omega) a) rfl ?_
      rintro _ w4 ⟨rfl, hdr⟩
      have chdr := hdr.ch0
      have hcl := hcl.trans chdr (fun _ _ => id) (fun _ _ e => e.elim)
      have hfm := hfm.ch0 chdr
      have hd2 := chdr.at0 hd2
      have hgk := chdr.at0 hgk
      refine WL.x (X.pickF (lt rfl (lt rfl (lt rfl (lh)))) (decide_eq_false hxa) (lh)) rfl ?_
      refine WL.e8 Nx.thn 0 1 2 7 11 12 13 25 (lt rfl (lt rfl (lt rfl (lt rfl (lt rfl (lt rfl (lt rfl (lt rfl (s0))))))))) (lt rfl (lt rfl (lt rfl (lt rfl (lt rfl (lt rfl (lt rfl (lt rfl (s1))))))))) (lt rfl (lt rfl (lt rfl (lt rfl (lt rfl (lt rfl (lt rfl (lt rfl (s2))))))))) (lt rfl (lt rfl (lt rfl (lt rfl (lt rfl (lt rfl (lt rfl (lt rfl (s7))))))))) (lt rfl (lt rfl (lt rfl (lt rfl (lt rfl (lt rfl (lt rfl (lt rfl (s11))))))))) (lt rfl (lt rfl (lt rfl (lt rfl (lt rfl (lt rfl (lt rfl (lt rfl (s12))))))))) (lt rfl (lt rfl (lt rfl (lt rfl (lt rfl (lt rfl (lt rfl (lt rfl (s13))))))))) (lh) ?_
      intro σ9 s0 s1 s2 s7 s11 s12 s13 s25
      refine W.cnd s25 (fun hma => ?_) (fun hma => ?_)
      · refine W.seq ?_
        refine W.region ?_
        refine WL.x (X.mv (s7)) rfl ?_
        refine WL.x (X.mv (lt rfl (s2))) rfl ?_
        refine WL.call2 ce31 (lt rfl (lh)) (lh) (add_row base n bs _ w4 hfm k (by omega) b hb0 hb) rfl ?_
        rintro _ w5 ⟨rfl, hfm, cad⟩
        have hd2 := cad.at hd2 (fun e => hon (e ▸ hin))
        refine WL.e7 Nx.thn 0 1 2 7 11 12 13 (lt rfl (lt rfl (lt rfl (s0)))) (lt rfl (lt rfl (lt rfl (s1)))) (lt rfl (lt rfl (lt rfl (s2)))) (lt rfl (lt rfl (lt rfl (s7)))) (lt rfl (lt rfl (lt rfl (s11)))) (lt rfl (lt rfl (lt rfl (s12)))) (lt rfl (lt rfl (lt rfl (s13)))) ?_
        intro σ10 s0 s1 s2 s7 s11 s12 s13
        refine W.region ?_
        refine WL.x (X.mv (s7)) rfl ?_
        refine WL.x (X.mv (lt rfl (s0))) rfl ?_
        refine WL.x (X.nilck (lh)) rfl ?_
        refine WL.x (X.fieldAddr fd40_0 (lh)) rfl ?_
        refine WL.x (X.load pl38 (lh) (by first | assumption | exact cad.at (by assumption) (by intro hne; first | exact hne | ((try dsimp only at hne); omega)) | exact cad.at (chdr.at0 (by assumption)) (by intro hne; first | exact hne | ((try dsimp only at hne); omega))) (by first | rfl | assumption)) rfl ?_
        refine WL.x (X.mv (lt rfl (lt rfl (lt rfl (lt rfl (lt rfl (s2))))))) rfl ?_
        refine WL.x (X.indexAddr Tryd.underlying38 el53 (lt rfl (lh)) (lh) (by omega) (by omega)) rfl ?_
        refine WL.x (X.load pl53 (lh) (cad.at (hcl.at hb1 hgb) (fun e => hgb (e ▸ hin))) hb2) rfl ?_
        refine WL.call2 ce32 (lt rfl (lt rfl (lt rfl (lt rfl (lt rfl (lt rfl (lt rfl (lh)))))))) (lh) (or_row base n bs _ w5 hfm k b.toNat (by omega) (by omega)) rfl ?_
        rintro _ w6 ⟨⟨cz, rfl⟩, hfm, cor⟩
        refine WL.e6 (Nx.blk Nx.thn) 0 1 2 11 12 13 (lt rfl (lt rfl (lt rfl (lt rfl (lt rfl (lt rfl (lt rfl (lt rfl (lt rfl (s0)))))))))) (lt rfl (lt rfl (lt rfl (lt rfl (lt rfl (lt rfl (lt rfl (lt rfl (lt rfl (s1)))))))))) (lt rfl (lt rfl (lt rfl (lt rfl (lt rfl (lt rfl (lt rfl (lt rfl (lt rfl (s2)))))))))) (lt rfl (lt rfl (lt rfl (lt rfl (lt rfl (lt rfl (lt rfl (lt rfl (lt rfl (s11)))))))))) (lt rfl (lt rfl (lt rfl (lt rfl (lt rfl (lt rfl (lt rfl (lt rfl (lt rfl (s12)))))))))) (lt rfl (lt rfl (lt rfl (lt rfl (lt rfl (lt rfl (lt rfl (lt rfl (lt rfl (s13)))))))))) ?_
        intro σ11 s0 s1 s2 s11 s12 s13
        refine W.region ?_
        first | refine WL.x (X.add (s13) lc (by omega) (by omega)) rfl ?_ | refine WL.x (X.addw (s13) lc) rfl ?_
        refine WL.x (X.mv (lh)) rfl ?_
        refine WL.e6 Nx.thn 0 1 2 11 12 13 (lt rfl (lt rfl (s0))) (lt rfl (lt rfl (s1))) (lt rfl (lt rfl (s2))) (lt rfl (lt rfl (s11))) (lt rfl (lt rfl (s12))) (lh) ?_
        intro σ12 s0 s1 s2 s11 s12 s13
        refine ⟨k + 1, by first | omega | (dsimp only; omega), ⟨s0.trans qo1.symm, s1.trans qo2.symm, s2.trans qo3.symm, s11.trans qo4.symm, s12.trans qo5.symm, trivial⟩, s13, by omega, hfm.eq (fun i j _ => mid_do (by first | exact .inl (by omega) | (right; have := hma; unfold midM at this; rw [if_neg (by omega)] at this; simp only [Bool.and_eq_true, decide_eq_true_eq] at this; exact this.2)) i j), (hcl.trans cad (fun _ _ => id) (fun i _ e => by rw [show i = bs[k].2 from e]; exact hin)).trans cor (fun _ _ => id) (fun i _ e => by rw [show i = bs[k].2 from e]; exact hin)⟩
      · refine W.skip (Nx.blk Nx.thn) ?_
        refine W.region ?_
        first | refine WL.x (X.add (s13) lc (by omega) (by omega)) rfl ?_ | refine WL.x (X.addw (s13) lc) rfl ?_
        refine WL.x (X.mv (lh)) rfl ?_
        refine WL.e6 Nx.thn 0 1 2 11 12 13 (lt rfl (lt rfl (s0))) (lt rfl (lt rfl (s1))) (lt rfl (lt rfl (s2))) (lt rfl (lt rfl (s11))) (lt rfl (lt rfl (s12))) (lh) ?_
        intro σ13 s0 s1 s2 s11 s12 s13
        refine ⟨k + 1, by first | omega | (dsimp only; omega), ⟨s0.trans qo1.symm, s1.trans qo2.symm, s2.trans qo3.symm, s11.trans qo4.symm, s12.trans qo5.symm, trivial⟩, s13, by omega, hfm.eq (fun i j _ => mid_skip (by omega) (by have := hma; unfold midM at this; rw [if_neg (by omega)] at this; simpa [ha0] using this) i j), hcl⟩
  · refine W.exit (Nx.xthn (Nx.xthn (Nx.xblk Nx.n0))) ?_
    have hke : k = bs.length := by omega
    subst hke
    exact ⟨⟨hfm.eq (fun i j hi => by unfold midM; rw [if_pos hi]), h.sl.ch hcl hgn⟩, hcl⟩
end Go.Proofs.YtpmbnpehknmmjaaDoor
