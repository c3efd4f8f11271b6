/-
  A part of the walk of the program.
-/
import Derived.Test.YtjnkpjehpdlcbaaDoorFacts
import Derived.Test.YtjnkpjehpdlcbaaDoorReads
set_option linter.unusedVariables false
set_option linter.unusedSimpArgs false
set_option maxRecDepth 100000
namespace Go.Proofs.YtjnkpjehpdlcbaaDoor
open Go Go.RowKit Sg

abbrev GOp := Int × ByteArray × Int × List Int × Bool × Bool
instance gopEq : DecidableEq GOp := inferInstance
abbrev GEv := Int × Int × List GOp
instance glopEq : DecidableEq (List GOp) := inferInstance
instance gevEq : DecidableEq GEv := inferInstance
abbrev ints (l : List Int) : List Value := l.map (Value.int .i64)
def r64 (z : Int) : Prop := -9223372036854775808 ≤ z ∧ z ≤ 9223372036854775807
def rng (x : GOp) : Prop := r64 x.2.2.1 ∧ ∀ z ∈ x.2.2.2.1, r64 z
def ROp : Rd GOp := fun A w es x => ∃ v, es = [.int .i64 x.1, .string x.2.1, .int .i64 x.2.2.1, v, .bool x.2.2.2.2.1, .bool x.2.2.2.2.2] ∧ SlA A w v (ints x.2.2.2.1) ∧ x.2.2.2.1.length * 8 ≤ 140737488355328 ∧ x.2.1.size ≤ 9223372036854775807 ∧ rng x
theorem monOp : Mon ROp := by
  rintro A A' F w w' es x c hF hA ⟨v, rfl, h1, h2⟩
  exact ⟨v, rfl, h1.ch c hF hA, h2⟩
def REv : Rd GEv := fun A w es x => ∃ v, es = [.int .i64 x.1, .int .i64 x.2.1, v] ∧ RSl 6 ROp A w v x.2.2 ∧ x.2.2.length * 64 ≤ 140737488355328
theorem monEv : Mon REv := by
  rintro A A' F w w' es x c hF hA ⟨v, rfl, h1, h2⟩
  exact ⟨v, rfl, h1.ch monOp c hF hA, h2⟩


theorem ROp_one {A : Nat → Prop} {w : World} {es : List Value} {x : GOp} (h : ROp A w es x) : es.all (·.oneCell') = true := by
  obtain ⟨v, rfl, h1, _⟩ := h
  obtain ⟨a, c, rfl⟩ := h1.1.len
  rfl
theorem REv_one {A : Nat → Prop} {w : World} {es : List Value} {x : GEv} (h : REv A w es x) : es.all (·.oneCell') = true := by
  obtain ⟨v, rfl, h1, _⟩ := h
  obtain ⟨a, c, rfl⟩ := h1.len
  rfl

theorem eqi_walk (a1 a2 : Option Addr) (c1 c2 : Nat) (l1 l2 : List Int) (w : World) (h1 : Sl w (.slice a1 l1.length c1) (l1.map (Value.int .i64))) (h2 : Sl w (.slice a2 l2.length c2) (l2.map (Value.int .i64))) (hl : l1.length ≤ 140737488355328) :
  Sg.Ret Tryd.prog 60 #[.slice a1 l1.length c1, .slice a2 l2.length c2] w fun v w' => v = .bool (decide (l1 = l2)) ∧ Dr w w' := by
 refine enter1 (n := 26) (l := [.slice a1 l1.length c1, .slice a2 l2.length c2]) Tryd.func60 rfl rfl rfl rfl ?_
 refine W.g2 0 1 (v1 := .slice a1 l1.length c1) (v2 := .slice a2 l2.length c2) rfl rfl ?_; intro σ s0 s1
 refine W.seq ?_
 refine W.region ?_
 refine WL.x (X.asg lc) rfl ?_
 refine WL.e2 Nx.thn 0 1 (lt rfl (s0)) (lt rfl (s1)) ?_
 intro σ1 s0 s1
 refine W.seq ?_
 refine W.seq ?_
 refine W.region ?_
 refine WL.x (X.mv (s0)) rfl ?_
 refine WL.x (X.lenSl Tryd.underlying46 (lh)) rfl ?_
 refine WL.x (X.mv (jt2 rfl (s1))) rfl ?_
 refine WL.x (X.lenSl Tryd.underlying46 (lh)) rfl ?_
 refine WL.x (X.neq (jt2 rfl (lh)) (lh)) rfl ?_
 refine WL.e3 Nx.thn 0 1 10 (jt4 rfl (lt rfl (s0))) (jt4 rfl (lt rfl (s1))) (lh) ?_
 intro σ2 s0 s1 s10
 refine W.cndp s10 (fun hlen => ?_) (fun hlen => ?_)
 ·
  refine W.seq ?_
  refine W.region ?_
  refine WL.x (X.asg lc) rfl ?_
  refine WL.e1 Nx.thn 4 (lh) ?_
  intro σ3 s4
  refine W.ret1 (Nx.rthn Nx.f1) s4 ?_
  exact ⟨by rw [decide_eq_false (fun e => hlen (by rw [e]))], Dr.refl _⟩
 ·
  have hlen : l1.length = l2.length := by omega
  refine W.skip Nx.thn ?_
  refine W.seq ?_
  refine W.seq ?_
  refine W.region ?_
  refine WL.x (X.mv (s0)) rfl ?_
  refine WL.x (X.lenSl Tryd.underlying46 (lh)) rfl ?_
  refine WL.x (X.mv lc) rfl ?_
  refine WL.e4 Nx.thn 0 1 12 13 (jt2 rfl (lt rfl (s0))) (jt2 rfl (lt rfl (s1))) (lt rfl (lh)) (lh) ?_
  intro σ4 s0 s1 s12 s13
  refine W.block ?_
  have qo1 := s0
  have qo2 := s1
  have qo3 := s12
  -- loop 0: kept [0, 1, 12], varied [13]
  refine W.loop (G := Nat) (fun k σ' w' => (σ' 0 = σ4 0 ∧ σ' 1 = σ4 1 ∧ σ' 12 = σ4 12 ∧ True) ∧ (σ' 13 = .int .i64 (k : Int) ∧ k ≤ l1.length ∧ Dr w w' ∧ ∀ i, i < k → l1[i]? = l2[i]?)) (fun k => l1.length - k) (0) ⟨⟨rfl, rfl, rfl, trivial⟩, s13, by omega, Dr.refl _, fun i hi => absurd hi (by omega)⟩ ?_
  rintro k σ5 w1 ⟨⟨f0, f1, f12, _⟩, s13, hk, hdr, heq⟩
  have s0 := f0.trans qo1
  have s1 := f1.trans qo2
  have s12 := f12.trans qo3
  refine W.seq ?_
  refine W.region ?_
  refine WL.x (X.lss (s13) (s12)) rfl ?_
  refine WL.e5 Nx.thn 0 1 12 13 14 (lt rfl (s0)) (lt rfl (s1)) (lt rfl (s12)) (lt rfl (s13)) (lh) ?_
  intro σ6 s0 s1 s12 s13 s14
  refine W.seq ?_
  refine W.cndp s14 (fun hlt => ?_) (fun hlt => ?_)
  ·
   obtain ⟨b1, o1, cs1, T1, fr1, rfl, hm1, hc1⟩ := h1.at (k := k) (by simp; omega)
   obtain ⟨b2, o2, cs2, T2, fr2, rfl, hm2, hc2⟩ := h2.at (k := k) (by simp; omega)
   have hm1 := hdr.ch0.at0 hm1
   have hm2 := hdr.ch0.at0 hm2
   have hg1 : cs1[o1 + (k : Int).toNat * 1]? = some (.int .i64 (l1.getD k 0)) := by rw [show (k : Int).toNat * 1 = k by omega, hc1 k (by simp; omega)]; simp [List.getD_eq_getElem?_getD, List.getElem?_eq_getElem (show k < l1.length by omega)]
   have hg2 : cs2[o2 + (k : Int).toNat * 1]? = some (.int .i64 (l2.getD k 0)) := by rw [show (k : Int).toNat * 1 = k by omega, hc2 k (by simp; omega)]; simp [List.getD_eq_getElem?_getD, List.getElem?_eq_getElem (show k < l2.length by omega)]
   refine W.skip Nx.thn ?_
   refine W.seq ?_
   refine W.block ?_
   refine W.seq ?_
   refine W.region ?_
   refine WL.x (X.mv (s13)) rfl ?_
   refine WL.x (X.asg (lh)) rfl ?_
   refine WL.e5 Nx.thn 0 1 5 12 13 (jt2 rfl (s0)) (jt2 rfl (s1)) (lh) (jt2 rfl (s12)) (jt2 rfl (s13)) ?_
   intro σ7 s0 s1 s5 s12 s13
   refine W.seq ?_
   refine W.draw mo (by kernel_rfl) Nx.thn ?_
   refine WQ.x (fun _ => X.mv (s0)) rfl ?_
   refine WQ.x (fun _ => X.mv (lt rfl (s5))) rfl ?_
   refine WQ.x (fun _ => X.indexAddr Tryd.underlying46 el3 (lt rfl (lh)) (lh) (by omega) (by omega)) rfl ?_
   refine WQ.x (fun m => X.load pl3 (lh) hm1 hg1) rfl ?_
   refine WQ.x (fun _ => X.mv (jt4 rfl (s1))) rfl ?_
   refine WQ.x (fun _ => X.mv (jt4 rfl (lt rfl (s5)))) rfl ?_
   refine WQ.x (fun _ => X.indexAddr Tryd.underlying46 el3 (lt rfl (lh)) (lh) (by omega) (by omega)) rfl ?_
   refine WQ.x (fun m => X.load pl3 (lh) hm2 hg2) rfl ?_
   refine WQ.x (fun _ => X.neq (jt4 rfl (lh)) (lh)) rfl ?_
   refine WQ.e5 0 1 12 13 24 (jt8 rfl (lt rfl (s0))) (jt8 rfl (lt rfl (s1))) (jt8 rfl (lt rfl (s12))) (jt8 rfl (lt rfl (s13))) (lh) ?_
   intro σ8 s0 s1 s12 s13 s24
   intro _; refine gdrew ?_; intro w2 hh6 cd6 dr6
   refine W.cndp s24 (fun hq => ?_) (fun hq => ?_)
   ·
    refine W.seq ?_
    refine W.region ?_
    refine WL.x (X.asg lc) rfl ?_
    refine WL.e1 Nx.thn 4 (lh) ?_
    intro σ9 s4
    refine W.ret1 (Nx.rblk (Nx.rthn (Nx.rthn (Nx.rblk (Nx.rthn Nx.f1))))) s4 ?_
    exact ⟨by rw [decide_eq_false (fun e => hq (by rw [e]))], hdr.trans dr6⟩
   ·
    refine W.skip (Nx.blk Nx.thn) ?_
    refine W.region ?_
    first | refine WL.x (X.add (s13) lc (by omega) (by omega)) rfl ?_ | refine WL.x (X.addw (s13) lc) rfl ?_
    refine WL.x (X.mv (lh)) rfl ?_
    refine WL.e4 Nx.thn 0 1 12 13 (jt2 rfl (s0)) (jt2 rfl (s1)) (jt2 rfl (s12)) (lh) ?_
    intro σ10 s0 s1 s12 s13
    have hq : l1.getD k 0 = l2.getD k 0 := Classical.not_not.1 hq
    refine ⟨k + 1, by first | omega | (dsimp only; omega), ⟨s0.trans qo1.symm, s1.trans qo2.symm, s12.trans qo3.symm, trivial⟩, s13, by omega, hdr.trans dr6, fun i hi => by by_cases e : i = k; (· subst e; simp only [List.getD_eq_getElem?_getD, List.getElem?_eq_getElem (show i < l1.length by omega), List.getElem?_eq_getElem (show i < l2.length by omega), Option.getD_some] at hq ⊢; rw [hq]); (· exact heq i (by omega))⟩
  ·
   refine W.exit (Nx.xthn (Nx.xthn (Nx.xblk Nx.thn))) ?_
   refine W.seq ?_
   refine W.region ?_
   refine WL.x (X.asg lc) rfl ?_
   refine WL.e1 Nx.thn 4 (lh) ?_
   intro σ11 s4
   refine W.ret1 Nx.f1 s4 ?_
   exact ⟨by rw [decide_eq_true (List.ext_getElem? fun i => by by_cases h : i < l1.length; (· exact heq i (by omega)); (· rw [List.getElem?_eq_none (by omega), List.getElem?_eq_none (by omega)]))], hdr⟩
theorem eqi_ok (v1 v2 : Value) (l1 l2 : List Int) (w : World) (h1 : Sl w v1 (l1.map (Value.int .i64))) (h2 : Sl w v2 (l2.map (Value.int .i64))) (hl : l1.length ≤ 140737488355328) :
    Sg.Ret Tryd.prog 60 #[v1, v2] w fun v w' => v = .bool (decide (l1 = l2)) ∧ Dr w w' := by
  obtain ⟨a1, c1, e1⟩ := h1.len
  obtain ⟨a2, c2, e2⟩ := h2.len
  simp only [List.length_map] at e1 e2
  subst e1; subst e2
  exact eqi_walk a1 a2 c1 c2 l1 l2 w h1 h2 hl

theorem clone_walk (a : Option Addr) (c : Nat) (l : List Int) (w : World) (h : Sl w (.slice a l.length c) (ints l)) (hl : l.length * 8 ≤ 140737488355328) :
  Sg.Ret Tryd.prog 50 #[.slice a l.length c] w fun v w' => w'.ownsRow w.heap.size 3 1 v l.length (ints l) ∧ Ch0 w w' := by
 refine enter1 (n := 8) (l := [.slice a l.length c]) Tryd.func50 rfl rfl rfl rfl ?_
 refine W.g1 0 (v1 := .slice a l.length c) rfl ?_; intro σ s0
 refine W.seq ?_
 refine W.region ?_
 refine WL.x (X.asg lc) rfl ?_
 refine WL.e1 Nx.thn 0 (lt rfl (s0)) ?_
 intro σ1 s0
 refine W.seq ?_
 refine W.seq ?_
 refine W.region ?_
 refine WL.x (X.mv (s0)) rfl ?_
 refine WL.x (X.eqlSl Tryd.underlying46 (lh) lc) rfl ?_
 refine WL.e2 Nx.thn 0 4 (jt2 rfl (s0)) (lh) ?_
 intro σ2 s0 s4
 refine W.cnd s4 (fun hnil => ?_) (fun hnil => ?_)
 ·
  obtain rfl : a = none := by cases a <;> first | rfl | (cases hnil)
  obtain rfl : l = [] := by
    rcases h with ⟨h, _⟩ | ⟨b, o, cap, cs, TT, fr, hv, _⟩
    · simpa using h
    · cases hv
  refine W.seq ?_
  refine W.region ?_
  refine WL.x (X.asg lc) rfl ?_
  refine WL.e1 Nx.thn 2 (lh) ?_
  intro σ3 s2
  refine W.ret1 (Nx.rthn Nx.f1) s2 ?_
  exact ⟨World.ownsRow_nil _ _ _ _, Ch.refl _ _⟩
 ·
  obtain ⟨ad, rfl⟩ : ∃ ad, a = some ad := by
    cases a with
    | none => cases hnil
    | some ad => exact ⟨ad, rfl⟩
  refine W.skip Nx.thn ?_
  refine W.seq ?_
  refine W.region ?_
  refine WL.bsliceR (vs := []) Tryd.underlying46 el3 (by decide) pnil rfl (fun _ h => by cases h) (by decide) rfl ?_
  intro w1 u3_0; have hu3_0 := u3_0.at_; have cu3_0 := u3_0.ch; have zu3_0 := u3_0.size
  refine WL.x (X.mv (lt rfl (s0))) rfl ?_
  refine WL.appendA Tryd.underlying46 el3 rfl (by decide) (lt rfl (lh)) (lh) (owns_empty (base := w.heap.size) hu3_0 (Nat.le_refl _)) (fun j u hu => Sl.news (by rw [List.length_map]; exact h.ch0 cu3_0) j u hu) (by simp) (by simp [Value.oneCell']) (by unfold maxLen; omega) (by omega) (by omega) rfl ?_
  intro va3_2 w2 ho3_2 ca3_2 hn3_2
  refine WL.x (X.asg (lh)) rfl ?_
  refine WL.e1 Nx.thn 2 (lh) ?_
  intro σ4 s2
  refine W.ret1 Nx.f1 s2 ?_
  exact ⟨by simpa using ho3_2, cu3_0.trans ca3_2 (fun _ _ => id) (fun i hi e => by have : i = w.heap.size := e; omega)⟩
end Go.Proofs.YtjnkpjehpdlcbaaDoor
