/-
  A part of the walk of the program.
-/
import Derived.Test.YtpmbnpehknmmjaaDoorF
set_option linter.unusedVariables false
set_option linter.unusedSimpArgs false
set_option maxRecDepth 100000
namespace Go.Proofs.YtpmbnpehknmmjaaDoor
open Go Go.RowKit Sg

abbrev GPr := Nat × Nat × Bool
def RPr : Rd GPr := fun _ _ es x => es = [.int .i64 (x.1 : Int), .int .i64 (x.2.1 : Int), .bool x.2.2]
theorem monPr : Mon RPr := fun _ _ _ _ _ _ _ _ _ _ h => h
/-- The pairs that count. -/
def sel (s : Bool) (P : List GPr) : List (Nat × Nat) := (P.filter fun p => p.2.2 || !s).map fun p => (p.1, p.2.1)
theorem sel_snoc {s : Bool} {P : List GPr} {p : GPr} : sel s (P ++ [p]) = sel s P ++ (if (p.2.2 || !s) = true then [(p.1, p.2.1)] else []) := by
  unfold sel
  rw [List.filter_append, List.map_append, List.filter_cons]
  split <;> rfl
theorem sel_all (P : List GPr) : sel false P = P.map fun p => (p.1, p.2.1) := by
  unfold sel; rw [List.filter_eq_self.2 (fun a _ => by simp)]
theorem sel_take {s : Bool} {P : List GPr} {k : Nat} (hk : k < P.length) : sel s (P.take (k + 1)) = sel s (P.take k) ++ (if (P[k].2.2 || !s) = true then [(P[k].1, P[k].2.1)] else []) := by
  rw [List.take_succ_eq_append_getElem hk, sel_snoc]
theorem sel_mem {s : Bool} {P : List GPr} {k : Nat} (hk : k < P.length) (h : (P[k].2.2 || !s) = true) : (P[k].1, P[k].2.1) ∈ sel s P :=
  List.mem_map.2 ⟨P[k], List.mem_filter.2 ⟨List.getElem_mem hk, h⟩, rfl⟩
/-- An order of the reference: its pairs. -/
structure IsRO (w : World) (base x n : Nat) (P : List GPr) : Prop where
  ex : ∃ v, w.heap[x]? = some (.cells #[.int .i64 (n : Int), v] 58 (0, 0)) ∧ ORow 3 RPr all w base 67 v P
  lo : base ≤ x
  rng : ∀ p ∈ P, p.1 < n ∧ p.2.1 < n
  len : P.length ≤ 1000
  le : n ≤ 300
theorem orow_ty {α : Type} {size : Nat} {R : Rd α} {A : Nat → Prop} {w : World} {base : Nat} {e : TypeId} {v : Value} {l : List α} (h : ORow size R A w base e v l) {k : Nat} (hk : slBlk v k) : ∃ cs, w.heap[k]? = some (.cells cs e (0, 0)) := by
  obtain ⟨ess, _, _, h, _⟩ := h
  rcases h.2 with ⟨rfl, _⟩ | ⟨g, cap, cur, rfl, _, hg, _⟩
  · exact hk.elim
  · have : k = g := hk
    subst this
    exact ⟨_, hg⟩
theorem orow_lt {α : Type} {size : Nat} {R : Rd α} {A : Nat → Prop} {w : World} {base : Nat} {e : TypeId} {v : Value} {l : List α} (h : ORow size R A w base e v l) {k : Nat} (hk : slBlk v k) : base ≤ k ∧ k < w.heap.size := by
  obtain ⟨ess, _, _, h, _⟩ := h
  exact own_lt h hk
theorem orow_ch {α : Type} {size : Nat} {R : Rd α} {A : Nat → Prop} {F : Nat → Prop} {w w' : World} {base : Nat} {e : TypeId} {v : Value} {l : List α} (hR : Mon R) (h : ORow size R A w base e v l) (c : Ch F w w') (hF : ∀ k, slBlk v k → ¬ F k) (hA : ∀ k, A k → ¬ F k) : ORow size R A w' base e v l := by
  obtain ⟨ess, h1, h2, h3, h4⟩ := h
  exact ⟨ess, h1, h2, own_ch h3 c hF, fun j hj => hR _ _ _ _ _ _ _ c hA (fun _ => id) (h4 j hj)⟩
theorem orow_pr {F : Nat → Prop} {w w' : World} {base : Nat} {e : TypeId} {v : Value} {l : List GPr} (h : ORow 3 RPr all w base e v l) (c : Ch F w w') (hF : ∀ k, slBlk v k → ¬ F k) : ORow 3 RPr all w' base e v l := by
  obtain ⟨ess, h1, h2, h3, h4⟩ := h
  exact ⟨ess, h1, h2, own_ch h3 c hF, fun j hj => h4 j hj⟩
theorem IsRO.ch {F : Nat → Prop} {w w' : World} {base x n : Nat} {P : List GPr} (h : IsRO w base x n P) (c : Ch F w w') (hF : ∀ k, ((∃ cs, w.heap[k]? = some (.cells cs 58 (0, 0))) ∨ ∃ cs, w.heap[k]? = some (.cells cs 67 (0, 0))) → ¬ F k) : IsRO w' base x n P := by
  obtain ⟨v, h1, h2⟩ := h.ex
  exact ⟨⟨v, c.at h1 (hF _ (.inl ⟨_, h1⟩)), orow_pr h2 c fun k hk => hF _ (.inr (orow_ty h2 hk))⟩, h.lo, h.rng, h.len, h.le⟩
theorem IsRO.ch0 {w w' : World} {base x n : Nat} {P : List GPr} (h : IsRO w base x n P) (c : Ch0 w w') : IsRO w' base x n P := h.ch c fun _ _ => id
theorem IsRO.keep {ts : List TypeId} {b : Nat} {w w' : World} {base x n : Nat} {P : List GPr} (h : IsRO w base x n P) (c : Ch (Mine ts b w) w w') (hts : 58 ∉ ts ∧ 67 ∉ ts) : IsRO w' base x n P :=
  h.ch c fun k hk => by
    rcases hk with hk | hk
    · exact mine_not hk hts.1
    · exact mine_not hk hts.2
theorem mp_set (ms : List Bool) (i : Nat) (b : Bool) : (ms.map Value.bool).toArray.setIfInBounds i (.bool b) = ((ms.set i b).map Value.bool).toArray := by
  simp [List.map_set]
theorem mp_get (ms : List Bool) (i : Nat) (h : i < ms.length) : (ms.map Value.bool).toArray[i]? = some (.bool (ms.getD i false)) := by
  simp [List.getD_eq_getElem?_getD, List.getElem?_eq_getElem h]
theorem mp_rep (n : Nat) : Array.replicate n (Value.bool false) = ((List.replicate n false).map Value.bool).toArray := by simp
theorem getD_set (ms : List Bool) (d : Nat) (h : d < ms.length) (y : Nat) : (ms.set d true).getD y false = (ms.getD y false || decide (y = d)) := by
  simp only [List.getD_eq_getElem?_getD, List.getElem?_set]
  by_cases e : d = y
  · subst e; rw [if_pos rfl, if_pos h]; simp
  · rw [if_neg e, decide_eq_false (fun h => e h.symm)]; simp

theorem rnew_ok (n : Int) (w : World) :
    Sg.Ret Tryd.prog 21 #[.int .i64 n] w fun v w' => Ch0 w w' ∧ (if 0 ≤ n ∧ n ≤ 300 then ∃ x, v = .tuple #[.pointer (some ⟨x, 0, none⟩), .int .i64 0] ∧ IsRO w' w.heap.size x n.toNat [] else v = .tuple #[.pointer none, .int .i64 1]) := by
  refine enter2 (n := 13) (l := [.int .i64 n]) Tryd.func21 rfl rfl rfl rfl ?_
  refine W.g1 0 (v1 := .int .i64 n) rfl ?_; intro σ s0
  refine W.seq ?_
  refine W.region ?_
  refine WL.x (X.asg lc) rfl ?_
  refine WL.x (X.asg lc) rfl ?_
  refine WL.e1 Nx.thn 0 (lt rfl (lt rfl (s0))) ?_
  intro σ1 s0
  refine W.seq ?_
  refine W.seq ?_
  refine W.region ?_
  refine WL.x (X.mv (s0)) rfl ?_
  refine WL.x (X.lss (lh) lc) rfl ?_
  refine WL.x (X.mv (lh)) rfl ?_
  refine WL.splitp (lh) (fun q1 => ?_) (fun q1 => ?_)
  · refine WL.no rfl rfl (lh) (decide_eq_true q1) rfl ?_
    refine WL.no rfl rfl (lt rfl (lh)) (decide_eq_true q1) rfl ?_
    refine WL.x (X.pickT (lt rfl (lt rfl (lh))) (decide_eq_true q1) lc) rfl ?_
    refine WL.e2 Nx.thn 0 9 (lt rfl (lt rfl (lt rfl (lt rfl (lt rfl (lt rfl (s0))))))) (lh) ?_
    intro σ2 s0 s9
    refine W.cndT s9 ?_
    refine W.seq ?_
    refine W.region ?_
    refine WL.x (X.asg lc) rfl ?_
    refine WL.x (X.asg lc) rfl ?_
    refine WL.e2 Nx.thn 2 3 (lt rfl (lh)) (lh) ?_
    intro σ3 s2 s3
    refine W.ret2 (Nx.rthn Nx.f2) s2 s3 ?_
    exact ⟨Ch.refl _ _, by rw [if_neg (by omega)]⟩
  · refine WL.yes rfl rfl (lh) (decide_eq_false q1) ?_
    refine WL.x (X.mv (lt rfl (lt rfl (lt rfl (s0))))) rfl ?_
    refine WL.yes rfl rfl (lt rfl (lh)) (decide_eq_false q1) ?_
    refine WL.x (X.gtr (lh) lc) rfl ?_
    refine WL.x (X.pickF (lt rfl (lt rfl (lh))) (decide_eq_false q1) (lh)) rfl ?_
    refine WL.e2 Nx.thn 0 9 (lt rfl (lt rfl (lt rfl (lt rfl (lt rfl (lt rfl (s0))))))) (lh) ?_
    intro σ4 s0 s9
    refine W.cndp s9 (fun q2 => ?_) (fun q2 => ?_)
    · refine W.seq ?_
      refine W.region ?_
      refine WL.x (X.asg lc) rfl ?_
      refine WL.x (X.asg lc) rfl ?_
      refine WL.e2 Nx.thn 2 3 (lt rfl (lh)) (lh) ?_
      intro σ5 s2 s3
      refine W.ret2 (Nx.rthn Nx.f2) s2 s3 ?_
      exact ⟨Ch.refl _ _, by rw [if_neg (by omega)]⟩
    · refine W.skip Nx.thn ?_
      refine W.seq ?_
      refine W.region ?_
      refine WL.x (X.mv (s0)) rfl ?_
      refine WL.x (X.build bd58 (pcons (lh) pnil) rfl (rfl : _ = [_, _])) rfl ?_
      refine WL.box (lh) rfl ?_
      intro w1 u3_2; have hu3_2 := u3_2.at_; have cu3_2 := u3_2.ch; have zu3_2 := u3_2.size
      refine WL.x (X.asg (lh)) rfl ?_
      refine WL.x (X.asg lc) rfl ?_
      refine WL.e2 Nx.thn 2 3 (lt rfl (lh)) (lh) ?_
      intro σ6 s2 s3
      refine W.ret2 Nx.f2 s2 s3 ?_
      refine ⟨cu3_2, ?_⟩
      rw [if_pos ⟨by omega, by omega⟩]
      exact ⟨_, rfl, ⟨_, by rw [show ((n.toNat : Nat) : Int) = n by omega]; exact hu3_2, ORow.nil⟩, Nat.le_refl _, (fun p hp => by cases hp), by simp, by omega⟩
theorem radd_in (base x n : Nat) (P : List GPr) (w : World) (h : IsRO w base x n P) (a b : Int) (s : Bool) (ha0 : 0 ≤ a) (ha : a < n) (hb0 : 0 ≤ b) (hb : b < n) (hl : P.length < 1000) :
    Sg.Ret Tryd.prog 22 #[.pointer (some ⟨x, 0, none⟩), .int .i64 a, .int .i64 b, .bool s] w fun v w' => v = .int .i64 0 ∧ IsRO w' base x n (P ++ [(a.toNat, b.toNat, s)]) ∧ Ch (Mine [58, 67] base w) w w' := by
  obtain ⟨pv, hd, hrow⟩ := h.ex
  have hle := h.le
  have hln := h.len
  have hlo := h.lo
  obtain ⟨ess, he1, he2, he3, he4⟩ := hrow
  have hxs := lt_of_blk hd
  refine enter1 (n := 44) (l := [.pointer (some ⟨x, 0, none⟩), .int .i64 a, .int .i64 b, .bool s]) Tryd.func22 rfl rfl rfl rfl ?_
  refine W.g4 0 1 2 3 (v1 := .pointer (some ⟨x, 0, none⟩)) (v2 := .int .i64 a) (v3 := .int .i64 b) (v4 := .bool s) rfl rfl rfl rfl ?_; intro σ s0 s1 s2 s3
  refine W.seq ?_
  refine W.region ?_
  refine WL.x (X.asg lc) rfl ?_
  refine WL.e4 Nx.thn 0 1 2 3 (lt rfl (s0)) (lt rfl (s1)) (lt rfl (s2)) (lt rfl (s3)) ?_
  intro σ1 s0 s1 s2 s3
  refine W.seq ?_
  refine W.seq ?_
  refine W.region ?_
  refine WL.x (X.mv (s1)) rfl ?_
  refine WL.x (X.lss (lh) lc) rfl ?_
  refine WL.x (X.mv (lh)) rfl ?_
  refine WL.yes rfl rfl (lh) (decide_eq_false (by omega)) ?_
  refine WL.x (X.mv (lt rfl (lt rfl (lt rfl (s1))))) rfl ?_
  refine WL.yes rfl rfl (lt rfl (lh)) (decide_eq_false (by omega)) ?_
  refine WL.x (X.mv (lt rfl (lt rfl (lt rfl (lt rfl (s0)))))) rfl ?_
  refine WL.yes rfl rfl (lt rfl (lt rfl (lh))) (decide_eq_false (by omega)) ?_
  refine WL.x (X.nilck (lh)) rfl ?_
  refine WL.yes rfl rfl (lt rfl (lt rfl (lt rfl (lh)))) (decide_eq_false (by omega)) ?_
  refine WL.x (X.fieldAddr fd58_0 (lh)) rfl ?_
  refine WL.yes rfl rfl (lt rfl (lt rfl (lt rfl (lt rfl (lh))))) (decide_eq_false (by omega)) ?_
  refine WL.x (X.load pl3 (lh) (by first | assumption) (by first | rfl | assumption)) rfl ?_
  refine WL.yes rfl rfl (lt rfl (lt rfl (lt rfl (lt rfl (lt rfl (lh)))))) (decide_eq_false (by omega)) ?_
  refine WL.x (X.geq (lt rfl (lt rfl (lt rfl (lt rfl (lh))))) (lh)) rfl ?_
  refine WL.x (X.pickF (lt rfl (lt rfl (lt rfl (lt rfl (lt rfl (lt rfl (lh))))))) (decide_eq_false (by omega)) (lh)) rfl ?_
  refine WL.x (X.mv (lh)) rfl ?_
  refine WL.yes rfl rfl (lh) (decide_eq_false (by omega)) ?_
  refine WL.x (X.mv (lt rfl (lt rfl (lt rfl (lt rfl (lt rfl (lt rfl (lt rfl (lt rfl (lt rfl (lt rfl (lt rfl (s2))))))))))))) rfl ?_
  refine WL.yes rfl rfl (lt rfl (lh)) (decide_eq_false (by omega)) ?_
  refine WL.x (X.lss (lh) lc) rfl ?_
  refine WL.x (X.pickF (lt rfl (lt rfl (lh))) (decide_eq_false (by omega)) (lh)) rfl ?_
  refine WL.x (X.mv (lh)) rfl ?_
  refine WL.yes rfl rfl (lh) (decide_eq_false (by omega)) ?_
  refine WL.x (X.mv (lt rfl (lt rfl (lt rfl (lt rfl (lt rfl (lt rfl (lt rfl (lt rfl (lt rfl (lt rfl (lt rfl (lt rfl (lt rfl (lt rfl (lt rfl (s2))))))))))))))))) rfl ?_
  refine WL.yes rfl rfl (lt rfl (lh)) (decide_eq_false (by omega)) ?_
  refine WL.x (X.mv (lt rfl (lt rfl (lt rfl (lt rfl (lt rfl (lt rfl (lt rfl (lt rfl (lt rfl (lt rfl (lt rfl (lt rfl (lt rfl (lt rfl (lt rfl (lt rfl (s0)))))))))))))))))) rfl ?_
  refine WL.yes rfl rfl (lt rfl (lt rfl (lh))) (decide_eq_false (by omega)) ?_
  refine WL.x (X.nilck (lh)) rfl ?_
  refine WL.yes rfl rfl (lt rfl (lt rfl (lt rfl (lh)))) (decide_eq_false (by omega)) ?_
  refine WL.x (X.fieldAddr fd58_0 (lh)) rfl ?_
  refine WL.yes rfl rfl (lt rfl (lt rfl (lt rfl (lt rfl (lh))))) (decide_eq_false (by omega)) ?_
  refine WL.x (X.load pl3 (lh) (by first | assumption) (by first | rfl | assumption)) rfl ?_
  refine WL.yes rfl rfl (lt rfl (lt rfl (lt rfl (lt rfl (lt rfl (lh)))))) (decide_eq_false (by omega)) ?_
  refine WL.x (X.geq (lt rfl (lt rfl (lt rfl (lt rfl (lh))))) (lh)) rfl ?_
  refine WL.x (X.pickF (lt rfl (lt rfl (lt rfl (lt rfl (lt rfl (lt rfl (lh))))))) (decide_eq_false (by omega)) (lh)) rfl ?_
  refine WL.e5 Nx.thn 0 1 2 3 30 (lt rfl (lt rfl (lt rfl (lt rfl (lt rfl (lt rfl (lt rfl (lt rfl (lt rfl (lt rfl (lt rfl (lt rfl (lt rfl (lt rfl (lt rfl (lt rfl (lt rfl (lt rfl (lt rfl (lt rfl (lt rfl (lt rfl (s0))))))))))))))))))))))) (lt rfl (lt rfl (lt rfl (lt rfl (lt rfl (lt rfl (lt rfl (lt rfl (lt rfl (lt rfl (lt rfl (lt rfl (lt rfl (lt rfl (lt rfl (lt rfl (lt rfl (lt rfl (lt rfl (lt rfl (lt rfl (lt rfl (s1))))))))))))))))))))))) (lt rfl (lt rfl (lt rfl (lt rfl (lt rfl (lt rfl (lt rfl (lt rfl (lt rfl (lt rfl (lt rfl (lt rfl (lt rfl (lt rfl (lt rfl (lt rfl (lt rfl (lt rfl (lt rfl (lt rfl (lt rfl (lt rfl (s2))))))))))))))))))))))) (lt rfl (lt rfl (lt rfl (lt rfl (lt rfl (lt rfl (lt rfl (lt rfl (lt rfl (lt rfl (lt rfl (lt rfl (lt rfl (lt rfl (lt rfl (lt rfl (lt rfl (lt rfl (lt rfl (lt rfl (lt rfl (lt rfl (s3))))))))))))))))))))))) (lh) ?_
  intro σ2 s0 s1 s2 s3 s30
  refine W.cndN s30 (by omega) ?_
  refine W.skip Nx.thn ?_
  refine W.seq ?_
  refine W.region ?_
  refine WL.x (X.mv (s0)) rfl ?_
  refine WL.x (X.mv (lt rfl (s0))) rfl ?_
  refine WL.x (X.nilck (lh)) rfl ?_
  refine WL.x (X.fieldAddr fd58_1 (lh)) rfl ?_
  refine WL.x (X.load pl56 (lh) (by first | assumption) (by first | rfl | assumption)) rfl ?_
  refine WL.x (X.mv (lt rfl (lt rfl (lt rfl (lt rfl (lt rfl (s1))))))) rfl ?_
  refine WL.x (X.mv (lt rfl (lt rfl (lt rfl (lt rfl (lt rfl (lt rfl (s2)))))))) rfl ?_
  refine WL.x (X.mv (lt rfl (lt rfl (lt rfl (lt rfl (lt rfl (lt rfl (lt rfl (s3))))))))) rfl ?_
  refine WL.x (X.build bd67 (pcons (lt rfl (lt rfl (lh))) (pcons (lt rfl (lh)) (pcons (lh) pnil))) rfl (rfl : _ = [_, _, _])) rfl ?_
  refine WL.bsliceR (vs := [_]) Tryd.underlying56 el67 (by decide) (pcons (lh) pnil) rfl (fun u hu => by rw [List.mem_singleton.1 hu]; rfl) (show 1 * 3 ≤ 16777216 by decide) rfl ?_
  intro w2 u3_9; have hu3_9 := u3_9.at_; have cu3_9 := u3_9.ch; have zu3_9 := u3_9.size
  refine WL.append Tryd.underlying56 el67 rfl (by decide) (lt rfl (lt rfl (lt rfl (lt rfl (lt rfl (lh)))))) (lh) (own_ch he3 cu3_9 (fun _ _ => id)) (by first | assumption | exact cu3_9.at0 (by assumption)) rfl (by exact ones_of rfl) (by unfold maxLen; omega) (by omega) (by have := cu3_9.size; omega) rfl ?_
  intro va3_10 w3 ho3_10 ca3_10
  have hd2 : w3.heap[x]? = _ := ca3_10.at (cu3_9.at0 hd) (fun hk => ty_ne (orow_ty (orow_pr (show ORow 3 RPr all w base 67 pv P from ⟨ess, he1, he2, he3, he4⟩) cu3_9 (fun _ _ => id)) hk) ⟨_, cu3_9.at0 hd⟩ (by decide) rfl)
  have hpush : ORow 3 RPr all w3 base 67 va3_10 (P ++ [(a.toNat, b.toNat, s)]) := by
    refine ORow.push (A := fun _ => False) (w := w3) (es := [.int .i64 a, .int .i64 b, .bool s]) (lv := .slice none 0 0) monPr he1 he2 (fun j hj => he4 j hj) rfl ?_ (Ch.refl _ _) (fun _ h => h.elim) (fun _ h => h.elim) ho3_10
    show _ = _
    rw [show ((a.toNat : Nat) : Int) = a by omega, show ((b.toNat : Nat) : Int) = b by omega]
  obtain ⟨a1, c1, rfl⟩ : ∃ z c, va3_10 = .slice z (P ++ [(a.toNat, b.toNat, s)]).length c := by
    obtain ⟨a9, c9, e9⟩ := (hpush.rsl (fun _ _ => trivial)).len
    exact ⟨a9, c9, e9⟩
  refine WL.x (X.nilck (lt rfl (lt rfl (lt rfl (lt rfl (lt rfl (lt rfl (lt rfl (lt rfl (lt rfl (lt rfl (lh)))))))))))) rfl ?_
  refine WL.x (X.fieldAddr fd58_1 (lh)) rfl ?_
  refine WL.store el56 (lh) (lt rfl (lt rfl (lh))) rfl (by first | assumption | exact ca3_10.at (by assumption) (by intro hne; first | exact hne | ((try dsimp only at hne); omega)) | exact ca3_10.at (cu3_9.at0 (by assumption)) (by intro hne; first | exact hne | ((try dsimp only at hne); omega))) (by first | decide | (simp; done) | (simp; omega)) ?_
  intro w4 u3_13; have hu3_13 := u3_13.at_; have cu3_13 := u3_13.ch; have zu3_13 := u3_13.size
  refine WL.e0 Nx.thn  ?_
  intro σ3 
  refine W.seq ?_
  refine W.region ?_
  refine WL.x (X.asg lc) rfl ?_
  refine WL.e1 Nx.thn 8 (lh) ?_
  intro σ4 s8
  refine W.ret1 Nx.f1 s8 ?_
  refine ⟨rfl, ⟨⟨_, hu3_13, orow_pr hpush cu3_13 ?_⟩, h.lo, ?_, by simp; omega, h.le⟩, ?_⟩
  · intro k hk e
    exact ty_ne (orow_ty hpush hk) ⟨_, hd2⟩ (by decide) e
  · intro p hp
    rcases List.mem_append.1 hp with hp | hp
    · exact h.rng p hp
    · rw [List.mem_singleton.1 hp]; exact ⟨by show a.toNat < n; omega, by show b.toNat < n; omega⟩
  · refine (cu3_9.trans ca3_10 (H := Mine [58, 67] base w) (fun _ _ e => e.elim) (fun i hi hk => ?_)).trans cu3_13 (fun _ _ => id) (fun i hi e => ?_)
    · obtain ⟨cs, hc⟩ := orow_ty (show ORow 3 RPr all w base 67 pv P from ⟨ess, he1, he2, he3, he4⟩) hk
      exact ⟨(own_lt he3 hk).1, cs, 67, by simp, hc⟩
    · rw [show i = x from e]; exact ⟨h.lo, _, 58, by simp, hd⟩
theorem radd_out (base x n : Nat) (P : List GPr) (w : World) (h : IsRO w base x n P) (a b : Int) (s : Bool) (hno : ¬ (0 ≤ a ∧ a < n ∧ 0 ≤ b ∧ b < n)) :
    Sg.Ret Tryd.prog 22 #[.pointer (some ⟨x, 0, none⟩), .int .i64 a, .int .i64 b, .bool s] w fun v w' => v = .int .i64 1 ∧ w = w' := by
  obtain ⟨pv, hd, hrow⟩ := h.ex
  have hle := h.le
  have hln := h.len
  refine enter1 (n := 44) (l := [.pointer (some ⟨x, 0, none⟩), .int .i64 a, .int .i64 b, .bool s]) Tryd.func22 rfl rfl rfl rfl ?_
  refine W.g4 0 1 2 3 (v1 := .pointer (some ⟨x, 0, none⟩)) (v2 := .int .i64 a) (v3 := .int .i64 b) (v4 := .bool s) rfl rfl rfl rfl ?_; intro σ s0 s1 s2 s3
  refine W.seq ?_
  refine W.region ?_
  refine WL.x (X.asg lc) rfl ?_
  refine WL.e4 Nx.thn 0 1 2 3 (lt rfl (s0)) (lt rfl (s1)) (lt rfl (s2)) (lt rfl (s3)) ?_
  intro σ1 s0 s1 s2 s3
  refine W.seq ?_
  refine W.seq ?_
  refine W.region ?_
  refine WL.x (X.mv (s1)) rfl ?_
  refine WL.x (X.lss (lh) lc) rfl ?_
  refine WL.x (X.mv (lh)) rfl ?_
  refine WL.splitp (lh) (fun q1 => ?_) (fun q1 => ?_)
  · refine WL.no rfl rfl (lh) (decide_eq_true q1) rfl ?_
    refine WL.no rfl rfl (lt rfl (lh)) (decide_eq_true q1) rfl ?_
    refine WL.no rfl rfl (lt rfl (lt rfl (lh))) (decide_eq_true q1) rfl ?_
    refine WL.no rfl rfl (lt rfl (lt rfl (lt rfl (lh)))) (decide_eq_true q1) rfl ?_
    refine WL.no rfl rfl (lt rfl (lt rfl (lt rfl (lt rfl (lh))))) (decide_eq_true q1) rfl ?_
    refine WL.no rfl rfl (lt rfl (lt rfl (lt rfl (lt rfl (lt rfl (lh)))))) (decide_eq_true q1) rfl ?_
    refine WL.x (X.pickT (lt rfl (lt rfl (lt rfl (lt rfl (lt rfl (lt rfl (lh))))))) (decide_eq_true q1) lc) rfl ?_
    refine WL.x (X.mv (lh)) rfl ?_
    refine WL.no rfl rfl (lh) rfl rfl ?_
    refine WL.no rfl rfl (lt rfl (lh)) rfl rfl ?_
    refine WL.x (X.pickT (lt rfl (lt rfl (lh))) rfl lc) rfl ?_
    refine WL.x (X.mv (lh)) rfl ?_
    refine WL.no rfl rfl (lh) rfl rfl ?_
    refine WL.no rfl rfl (lt rfl (lh)) rfl rfl ?_
    refine WL.no rfl rfl (lt rfl (lt rfl (lh))) rfl rfl ?_
    refine WL.no rfl rfl (lt rfl (lt rfl (lt rfl (lh)))) rfl rfl ?_
    refine WL.no rfl rfl (lt rfl (lt rfl (lt rfl (lt rfl (lh))))) rfl rfl ?_
    refine WL.no rfl rfl (lt rfl (lt rfl (lt rfl (lt rfl (lt rfl (lh)))))) rfl rfl ?_
    refine WL.x (X.pickT (lt rfl (lt rfl (lt rfl (lt rfl (lt rfl (lt rfl (lh))))))) rfl lc) rfl ?_
    refine WL.e5 Nx.thn 0 1 2 3 30 (lt rfl (lt rfl (lt rfl (lt rfl (lt rfl (lt rfl (lt rfl (lt rfl (lt rfl (lt rfl (lt rfl (lt rfl (lt rfl (lt rfl (lt rfl (lt rfl (lt rfl (lt rfl (lt rfl (lt rfl (lt rfl (lt rfl (s0))))))))))))))))))))))) (lt rfl (lt rfl (lt rfl (lt rfl (lt rfl (lt rfl (lt rfl (lt rfl (lt rfl (lt rfl (lt rfl (lt rfl (lt rfl (lt rfl (lt rfl (lt rfl (lt rfl (lt rfl (lt rfl (lt rfl (lt rfl (lt rfl (s1))))))))))))))))))))))) (lt rfl (lt rfl (lt rfl (lt rfl (lt rfl (lt rfl (lt rfl (lt rfl (lt rfl (lt rfl (lt rfl (lt rfl (lt rfl (lt rfl (lt rfl (lt rfl (lt rfl (lt rfl (lt rfl (lt rfl (lt rfl (lt rfl (s2))))))))))))))))))))))) (lt rfl (lt rfl (lt rfl (lt rfl (lt rfl (lt rfl (lt rfl (lt rfl (lt rfl (lt rfl (lt rfl (lt rfl (lt rfl (lt rfl (lt rfl (lt rfl (lt rfl (lt rfl (lt rfl (lt rfl (lt rfl (lt rfl (s3))))))))))))))))))))))) (lh) ?_
    intro σ2 s0 s1 s2 s3 s30
    refine W.cndT s30 ?_
    refine W.seq ?_
    refine W.region ?_
    refine WL.x (X.asg lc) rfl ?_
    refine WL.e1 Nx.thn 8 (lh) ?_
    intro σ3 s8
    refine W.ret1 (Nx.rthn Nx.f1) s8 ?_
    exact ⟨rfl, rfl⟩
  · refine WL.yes rfl rfl (lh) (decide_eq_false q1) ?_
    refine WL.x (X.mv (lt rfl (lt rfl (lt rfl (s1))))) rfl ?_
    refine WL.yes rfl rfl (lt rfl (lh)) (decide_eq_false q1) ?_
    refine WL.x (X.mv (lt rfl (lt rfl (lt rfl (lt rfl (s0)))))) rfl ?_
    refine WL.yes rfl rfl (lt rfl (lt rfl (lh))) (decide_eq_false q1) ?_
    refine WL.x (X.nilck (lh)) rfl ?_
    refine WL.yes rfl rfl (lt rfl (lt rfl (lt rfl (lh)))) (decide_eq_false q1) ?_
    refine WL.x (X.fieldAddr fd58_0 (lh)) rfl ?_
    refine WL.yes rfl rfl (lt rfl (lt rfl (lt rfl (lt rfl (lh))))) (decide_eq_false q1) ?_
    refine WL.x (X.load pl3 (lh) (by first | assumption) (by first | rfl | assumption)) rfl ?_
    refine WL.yes rfl rfl (lt rfl (lt rfl (lt rfl (lt rfl (lt rfl (lh)))))) (decide_eq_false q1) ?_
    refine WL.x (X.geq (lt rfl (lt rfl (lt rfl (lt rfl (lh))))) (lh)) rfl ?_
    refine WL.x (X.pickF (lt rfl (lt rfl (lt rfl (lt rfl (lt rfl (lt rfl (lh))))))) (decide_eq_false q1) (lh)) rfl ?_
    refine WL.x (X.mv (lh)) rfl ?_
    refine WL.splitp (lh) (fun q2 => ?_) (fun q2 => ?_)
    · refine WL.no rfl rfl (lh) (decide_eq_true q2) rfl ?_
      refine WL.no rfl rfl (lt rfl (lh)) (decide_eq_true q2) rfl ?_
      refine WL.x (X.pickT (lt rfl (lt rfl (lh))) (decide_eq_true q2) lc) rfl ?_
      refine WL.x (X.mv (lh)) rfl ?_
      refine WL.no rfl rfl (lh) rfl rfl ?_
      refine WL.no rfl rfl (lt rfl (lh)) rfl rfl ?_
      refine WL.no rfl rfl (lt rfl (lt rfl (lh))) rfl rfl ?_
      refine WL.no rfl rfl (lt rfl (lt rfl (lt rfl (lh)))) rfl rfl ?_
      refine WL.no rfl rfl (lt rfl (lt rfl (lt rfl (lt rfl (lh))))) rfl rfl ?_
      refine WL.no rfl rfl (lt rfl (lt rfl (lt rfl (lt rfl (lt rfl (lh)))))) rfl rfl ?_
      refine WL.x (X.pickT (lt rfl (lt rfl (lt rfl (lt rfl (lt rfl (lt rfl (lh))))))) rfl lc) rfl ?_
      refine WL.e5 Nx.thn 0 1 2 3 30 (lt rfl (lt rfl (lt rfl (lt rfl (lt rfl (lt rfl (lt rfl (lt rfl (lt rfl (lt rfl (lt rfl (lt rfl (lt rfl (lt rfl (lt rfl (lt rfl (lt rfl (lt rfl (lt rfl (lt rfl (lt rfl (lt rfl (s0))))))))))))))))))))))) (lt rfl (lt rfl (lt rfl (lt rfl (lt rfl (lt rfl (lt rfl (lt rfl (lt rfl (lt rfl (lt rfl (lt rfl (lt rfl (lt rfl (lt rfl (lt rfl (lt rfl (lt rfl (lt rfl (lt rfl (lt rfl (lt rfl (s1))))))))))))))))))))))) (lt rfl (lt rfl (lt rfl (lt rfl (lt rfl (lt rfl (lt rfl (lt rfl (lt rfl (lt rfl (lt rfl (lt rfl (lt rfl (lt rfl (lt rfl (lt rfl (lt rfl (lt rfl (lt rfl (lt rfl (lt rfl (lt rfl (s2))))))))))))))))))))))) (lt rfl (lt rfl (lt rfl (lt rfl (lt rfl (lt rfl (lt rfl (lt rfl (lt rfl (lt rfl (lt rfl (lt rfl (lt rfl (lt rfl (lt rfl (lt rfl (lt rfl (lt rfl (lt rfl (lt rfl (lt rfl (lt rfl (s3))))))))))))))))))))))) (lh) ?_
      intro σ4 s0 s1 s2 s3 s30
      refine W.cndT s30 ?_
      refine W.seq ?_
      refine W.region ?_
      refine WL.x (X.asg lc) rfl ?_
      refine WL.e1 Nx.thn 8 (lh) ?_
      intro σ5 s8
      refine W.ret1 (Nx.rthn Nx.f1) s8 ?_
      exact ⟨rfl, rfl⟩
    · refine WL.yes rfl rfl (lh) (decide_eq_false q2) ?_
      refine WL.x (X.mv (lt rfl (lt rfl (lt rfl (lt rfl (lt rfl (lt rfl (lt rfl (lt rfl (lt rfl (lt rfl (lt rfl (s2))))))))))))) rfl ?_
      refine WL.yes rfl rfl (lt rfl (lh)) (decide_eq_false q2) ?_
      refine WL.x (X.lss (lh) lc) rfl ?_
      refine WL.x (X.pickF (lt rfl (lt rfl (lh))) (decide_eq_false q2) (lh)) rfl ?_
      refine WL.x (X.mv (lh)) rfl ?_
      refine WL.splitp (lh) (fun q3 => ?_) (fun q3 => ?_)
      · refine WL.no rfl rfl (lh) (decide_eq_true q3) rfl ?_
        refine WL.no rfl rfl (lt rfl (lh)) (decide_eq_true q3) rfl ?_
        refine WL.no rfl rfl (lt rfl (lt rfl (lh))) (decide_eq_true q3) rfl ?_
        refine WL.no rfl rfl (lt rfl (lt rfl (lt rfl (lh)))) (decide_eq_true q3) rfl ?_
        refine WL.no rfl rfl (lt rfl (lt rfl (lt rfl (lt rfl (lh))))) (decide_eq_true q3) rfl ?_
        refine WL.no rfl rfl (lt rfl (lt rfl (lt rfl (lt rfl (lt rfl (lh)))))) (decide_eq_true q3) rfl ?_
        refine WL.x (X.pickT (lt rfl (lt rfl (lt rfl (lt rfl (lt rfl (lt rfl (lh))))))) (decide_eq_true q3) lc) rfl ?_
        refine WL.e5 Nx.thn 0 1 2 3 30 (lt rfl (lt rfl (lt rfl (lt rfl (lt rfl (lt rfl (lt rfl (lt rfl (lt rfl (lt rfl (lt rfl (lt rfl (lt rfl (lt rfl (lt rfl (lt rfl (lt rfl (lt rfl (lt rfl (lt rfl (lt rfl (lt rfl (s0))))))))))))))))))))))) (lt rfl (lt rfl (lt rfl (lt rfl (lt rfl (lt rfl (lt rfl (lt rfl (lt rfl (lt rfl (lt rfl (lt rfl (lt rfl (lt rfl (lt rfl (lt rfl (lt rfl (lt rfl (lt rfl (lt rfl (lt rfl (lt rfl (s1))))))))))))))))))))))) (lt rfl (lt rfl (lt rfl (lt rfl (lt rfl (lt rfl (lt rfl (lt rfl (lt rfl (lt rfl (lt rfl (lt rfl (lt rfl (lt rfl (lt rfl (lt rfl (lt rfl (lt rfl (lt rfl (lt rfl (lt rfl (lt rfl (s2))))))))))))))))))))))) (lt rfl (lt rfl (lt rfl (lt rfl (lt rfl (lt rfl (lt rfl (lt rfl (lt rfl (lt rfl (lt rfl (lt rfl (lt rfl (lt rfl (lt rfl (lt rfl (lt rfl (lt rfl (lt rfl (lt rfl (lt rfl (lt rfl (s3))))))))))))))))))))))) (lh) ?_
        intro σ6 s0 s1 s2 s3 s30
        refine W.cndT s30 ?_
        refine W.seq ?_
        refine W.region ?_
        refine WL.x (X.asg lc) rfl ?_
        refine WL.e1 Nx.thn 8 (lh) ?_
        intro σ7 s8
        refine W.ret1 (Nx.rthn Nx.f1) s8 ?_
        exact ⟨rfl, rfl⟩
      · refine WL.yes rfl rfl (lh) (decide_eq_false q3) ?_
        refine WL.x (X.mv (lt rfl (lt rfl (lt rfl (lt rfl (lt rfl (lt rfl (lt rfl (lt rfl (lt rfl (lt rfl (lt rfl (lt rfl (lt rfl (lt rfl (lt rfl (s2))))))))))))))))) rfl ?_
        refine WL.yes rfl rfl (lt rfl (lh)) (decide_eq_false q3) ?_
        refine WL.x (X.mv (lt rfl (lt rfl (lt rfl (lt rfl (lt rfl (lt rfl (lt rfl (lt rfl (lt rfl (lt rfl (lt rfl (lt rfl (lt rfl (lt rfl (lt rfl (lt rfl (s0)))))))))))))))))) rfl ?_
        refine WL.yes rfl rfl (lt rfl (lt rfl (lh))) (decide_eq_false q3) ?_
        refine WL.x (X.nilck (lh)) rfl ?_
        refine WL.yes rfl rfl (lt rfl (lt rfl (lt rfl (lh)))) (decide_eq_false q3) ?_
        refine WL.x (X.fieldAddr fd58_0 (lh)) rfl ?_
        refine WL.yes rfl rfl (lt rfl (lt rfl (lt rfl (lt rfl (lh))))) (decide_eq_false q3) ?_
        refine WL.x (X.load pl3 (lh) (by first | assumption) (by first | rfl | assumption)) rfl ?_
        refine WL.yes rfl rfl (lt rfl (lt rfl (lt rfl (lt rfl (lt rfl (lh)))))) (decide_eq_false q3) ?_
        refine WL.x (X.geq (lt rfl (lt rfl (lt rfl (lt rfl (lh))))) (lh)) rfl ?_
        refine WL.x (X.pickF (lt rfl (lt rfl (lt rfl (lt rfl (lt rfl (lt rfl (lh))))))) (decide_eq_false q3) (lh)) rfl ?_
        refine WL.e5 Nx.thn 0 1 2 3 30 (lt rfl (lt rfl (lt rfl (lt rfl (lt rfl (lt rfl (lt rfl (lt rfl (lt rfl (lt rfl (lt rfl (lt rfl (lt rfl (lt rfl (lt rfl (lt rfl (lt rfl (lt rfl (lt rfl (lt rfl (lt rfl (lt rfl (s0))))))))))))))))))))))) (lt rfl (lt rfl (lt rfl (lt rfl (lt rfl (lt rfl (lt rfl (lt rfl (lt rfl (lt rfl (lt rfl (lt rfl (lt rfl (lt rfl (lt rfl (lt rfl (lt rfl (lt rfl (lt rfl (lt rfl (lt rfl (lt rfl (s1))))))))))))))))))))))) (lt rfl (lt rfl (lt rfl (lt rfl (lt rfl (lt rfl (lt rfl (lt rfl (lt rfl (lt rfl (lt rfl (lt rfl (lt rfl (lt rfl (lt rfl (lt rfl (lt rfl (lt rfl (lt rfl (lt rfl (lt rfl (lt rfl (s2))))))))))))))))))))))) (lt rfl (lt rfl (lt rfl (lt rfl (lt rfl (lt rfl (lt rfl (lt rfl (lt rfl (lt rfl (lt rfl (lt rfl (lt rfl (lt rfl (lt rfl (lt rfl (lt rfl (lt rfl (lt rfl (lt rfl (lt rfl (lt rfl (s3))))))))))))))))))))))) (lh) ?_
        intro σ8 s0 s1 s2 s3 s30
        refine W.cndp s30 (fun q4 => ?_) (fun q4 => ?_)
        · refine W.seq ?_
          refine W.region ?_
          refine WL.x (X.asg lc) rfl ?_
          refine WL.e1 Nx.thn 8 (lh) ?_
          intro σ9 s8
          refine W.ret1 (Nx.rthn Nx.f1) s8 ?_
          exact ⟨rfl, rfl⟩
        · exact absurd ⟨by omega, by omega, by omega, by omega⟩ hno
end Go.Proofs.YtpmbnpehknmmjaaDoor
