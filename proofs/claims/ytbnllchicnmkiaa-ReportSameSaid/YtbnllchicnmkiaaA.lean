/-
  A part of the walk of the program.
-/
import Derived.Test.YtbnllchicnmkiaaFacts
import Derived.Test.YtbnllchicnmkiaaStructs
import Derived.Test.YtbnllchicnmkiaaFrame
set_option linter.unusedVariables false
set_option linter.unusedSimpArgs false
set_option maxRecDepth 100000
namespace Go.Proofs.Ytbnllchicnmkiaa
open Go Go.RowKit Sg

abbrev ints (l : List Int) : List Value := l.map (Value.int .i64)
abbrev GWhy := Int × Int × Int × ByteArray × Int × Int × Bool × Bool
instance wd6 : DecidableEq (Bool × Bool) := inferInstance
instance wd5 : DecidableEq (Int × Bool × Bool) := inferInstance
instance wd4 : DecidableEq (Int × Int × Bool × Bool) := inferInstance
instance wd3 : DecidableEq (ByteArray × Int × Int × Bool × Bool) := inferInstance
instance wd2 : DecidableEq (Int × ByteArray × Int × Int × Bool × Bool) := inferInstance
instance wd1 : DecidableEq (Int × Int × ByteArray × Int × Int × Bool × Bool) := inferInstance
instance wd0 : DecidableEq (Int × Int × Int × ByteArray × Int × Int × Bool × Bool) := inferInstance
abbrev whyCells (x : GWhy) : List Value := [.int .i64 x.1, .int .i64 x.2.1, .int .i64 x.2.2.1, .string x.2.2.2.1, .int .i64 x.2.2.2.2.1, .int .i64 x.2.2.2.2.2.1, .bool x.2.2.2.2.2.2.1, .bool x.2.2.2.2.2.2.2]
def RWhy : Rd GWhy := fun _ _ es x => es = whyCells x
theorem monWhy : Mon RWhy := fun _ _ _ _ _ _ _ _ _ _ h => h
abbrev GAn := Int × Int × Int × Int × ByteArray × Int × List GWhy × Bool × Int
instance whysEq : DecidableEq (List GWhy) := inferInstance
instance ad7 : DecidableEq (Bool × Int) := inferInstance
instance ad6 : DecidableEq (List GWhy × Bool × Int) := inferInstance
instance ad5 : DecidableEq (Int × List GWhy × Bool × Int) := inferInstance
instance ad4 : DecidableEq (ByteArray × Int × List GWhy × Bool × Int) := inferInstance
instance ad3 : DecidableEq (Int × ByteArray × Int × List GWhy × Bool × Int) := inferInstance
instance ad2 : DecidableEq (Int × Int × ByteArray × Int × List GWhy × Bool × Int) := inferInstance
instance ad1 : DecidableEq (Int × Int × Int × ByteArray × Int × List GWhy × Bool × Int) := inferInstance
instance ad0 : DecidableEq (Int × Int × Int × Int × ByteArray × Int × List GWhy × Bool × Int) := inferInstance
def RAn : Rd GAn := fun A w es x => ∃ v, es = [.int .i64 x.1, .int .i64 x.2.1, .int .i64 x.2.2.1, .int .i64 x.2.2.2.1, .string x.2.2.2.2.1, .int .i64 x.2.2.2.2.2.1, v, .bool x.2.2.2.2.2.2.2.1, .int .i64 x.2.2.2.2.2.2.2.2] ∧
  RSl 8 RWhy A w v x.2.2.2.2.2.2.1 ∧ x.2.2.2.2.2.2.1.length * 64 ≤ 140737488355328
theorem monAn : Mon RAn := by
  rintro A A' F w w' es x c hF hA ⟨v, rfl, h1, h2⟩
  exact ⟨v, rfl, h1.ch monWhy c hF hA, h2⟩
abbrev GRep := Int × Bool × List GAn × Int × Int × List Int
instance ansEq : DecidableEq (List GAn) := inferInstance
instance rd4 : DecidableEq (Int × List Int) := inferInstance
instance rd3 : DecidableEq (Int × Int × List Int) := inferInstance
instance rd2 : DecidableEq (List GAn × Int × Int × List Int) := inferInstance
instance rd1 : DecidableEq (Bool × List GAn × Int × Int × List Int) := inferInstance
instance rd0 : DecidableEq (Int × Bool × List GAn × Int × Int × List Int) := inferInstance
def RRep : Rd GRep := fun A w es x => ∃ v u, es = [.int .i64 x.1, .bool x.2.1, v, .int .i64 x.2.2.2.1, .int .i64 x.2.2.2.2.1, u] ∧ RSl 9 RAn A w v x.2.2.1 ∧ SlA A w u (ints x.2.2.2.2.2) ∧ x.2.2.1.length * 96 ≤ 140737488355328 ∧ x.2.2.2.2.2.length * 8 ≤ 140737488355328
theorem monRep : Mon RRep := by
  rintro A A' F w w' es x c hF hA ⟨v, u, rfl, h1, h2, h3, h4⟩
  exact ⟨v, u, rfl, h1.ch monAn c hF hA, h2.ch c hF hA, h3, h4⟩
theorem RWhy_one {A : Nat → Prop} {w : World} {es : List Value} {x : GWhy} (h : RWhy A w es x) : es.all (·.oneCell') = true := by
  rw [show es = whyCells x from h]; rfl
theorem RAn_one {A : Nat → Prop} {w : World} {es : List Value} {x : GAn} (h : RAn A w es x) : es.all (·.oneCell') = true := by
  obtain ⟨v, rfl, h1, _⟩ := h
  obtain ⟨a, c, rfl⟩ := h1.len
  rfl
theorem cmp_why (x y : GWhy) : ∃ fs, Try.prog.underlying 32 = some (.struct fs) ∧ CmpAll Try.prog #[.int .i64 (x.1), .int .i64 (x.2.1), .int .i64 (x.2.2.1), .string (x.2.2.2.1), .int .i64 (x.2.2.2.2.1), .int .i64 (x.2.2.2.2.2.1), .bool (x.2.2.2.2.2.2.1), .bool (x.2.2.2.2.2.2.2)] #[.int .i64 (y.1), .int .i64 (y.2.1), .int .i64 (y.2.2.1), .string (y.2.2.2.1), .int .i64 (y.2.2.2.2.1), .int .i64 (y.2.2.2.2.2.1), .bool (y.2.2.2.2.2.2.1), .bool (y.2.2.2.2.2.2.2)] fs.toList [decide (x.1 = y.1), decide (x.2.1 = y.2.1), decide (x.2.2.1 = y.2.2.1), decide (x.2.2.2.1 = y.2.2.2.1), decide (x.2.2.2.2.1 = y.2.2.2.2.1), decide (x.2.2.2.2.2.1 = y.2.2.2.2.2.1), decide (x.2.2.2.2.2.2.1 = y.2.2.2.2.2.2.1), decide (x.2.2.2.2.2.2.2 = y.2.2.2.2.2.2.2)] := ⟨_, Try.underlying32, ⟨by decide, ⟨_, _, rfl, rfl, .inl ⟨_, _, _, Try.underlying3, rfl, rfl, rfl⟩⟩, ⟨by decide, ⟨_, _, rfl, rfl, .inl ⟨_, _, _, Try.underlying3, rfl, rfl, rfl⟩⟩, ⟨by decide, ⟨_, _, rfl, rfl, .inl ⟨_, _, _, Try.underlying3, rfl, rfl, rfl⟩⟩, ⟨by decide, ⟨_, _, rfl, rfl, .inr (.inr ⟨_, _, Try.underlying9, rfl, rfl, rfl⟩)⟩, ⟨by decide, ⟨_, _, rfl, rfl, .inl ⟨_, _, _, Try.underlying3, rfl, rfl, rfl⟩⟩, ⟨by decide, ⟨_, _, rfl, rfl, .inl ⟨_, _, _, Try.underlying3, rfl, rfl, rfl⟩⟩, ⟨by decide, ⟨_, _, rfl, rfl, .inr (.inl ⟨_, _, Try.underlying4, rfl, rfl, rfl⟩)⟩, ⟨by decide, ⟨_, _, rfl, rfl, .inr (.inl ⟨_, _, Try.underlying4, rfl, rfl, rfl⟩)⟩, trivial⟩⟩⟩⟩⟩⟩⟩⟩⟩
theorem cmpv_why (x y : GWhy) : (!(([decide (x.1 = y.1), decide (x.2.1 = y.2.1), decide (x.2.2.1 = y.2.2.1), decide (x.2.2.2.1 = y.2.2.2.1), decide (x.2.2.2.2.1 = y.2.2.2.2.1), decide (x.2.2.2.2.2.1 = y.2.2.2.2.2.1), decide (x.2.2.2.2.2.2.1 = y.2.2.2.2.2.2.1), decide (x.2.2.2.2.2.2.2 = y.2.2.2.2.2.2.2)] : List Bool).all id)) = decide (x ≠ y) := by
  rw [Bool.eq_iff_iff]
  simp [Prod.ext_iff]
theorem hp_why : Try.prog.stoodInHeld 32 = false := by kernel_rfl
theorem hg_why : Try.prog.eqGuardType Try.prog.depth 32 = false := by kernel_rfl
theorem eqi_walk (a1 a2 : Option Addr) (c1 c2 : Nat) (l1 l2 : List Int) (w : World) (h1 : Sl w (.slice a1 l1.length c1) (l1.map (Value.int .i64))) (h2 : Sl w (.slice a2 l2.length c2) (l2.map (Value.int .i64))) (hl : l1.length ≤ 140737488355328) :
    Sg.Ret Try.prog 8 #[.slice a1 l1.length c1, .slice a2 l2.length c2] w fun v w' => v = .bool (decide (l1 = l2)) ∧ Dr w w' := by
  refine enter1 (n := 26) (l := [.slice a1 l1.length c1, .slice a2 l2.length c2]) Try.func8 rfl rfl rfl rfl ?_
  refine W.g2 0 1 (v1 := .slice a1 l1.length c1) (v2 := .slice a2 l2.length c2) rfl rfl ?_; intro σ s0 s1
  refine W.seq ?_
  refine W.region ?_
  refine WL.x (X.asg lc) rfl ?_
  refine WL.e2 Nx.thn 0 1 (lt rfl (s0)) (lt rfl (s1)) ?_
  intro σ1 s0 s1
  refine W.seq ?_
  refine W.seq ?_
  refine W.region ?_
  refine WL.x (X.mv (s0)) rfl ?_
  refine WL.x (X.lenSl Try.underlying23 (lh)) rfl ?_
  refine WL.x (X.mv (lt rfl (lt rfl (s1)))) rfl ?_
  refine WL.x (X.lenSl Try.underlying23 (lh)) rfl ?_
  refine WL.x (X.neq (lt rfl (lt rfl (lh))) (lh)) rfl ?_
  refine WL.e3 Nx.thn 0 1 10 (lt rfl (lt rfl (lt rfl (lt rfl (lt rfl (s0)))))) (lt rfl (lt rfl (lt rfl (lt rfl (lt rfl (s1)))))) (lh) ?_
  intro σ2 s0 s1 s10
  refine W.cndp s10 (fun hlen => ?_) (fun hlen => ?_)
  · refine W.seq ?_
    refine W.region ?_
    refine WL.x (X.asg lc) rfl ?_
    refine WL.e1 Nx.thn 4 (lh) ?_
    intro σ3 s4
    refine W.ret1 (Nx.rthn Nx.f1) s4 ?_
    exact ⟨by rw [decide_eq_false (fun e => hlen (by rw [e]))], Dr.refl _⟩
  · have hlen : l1.length = l2.length := by omega
    refine W.skip Nx.thn ?_
    refine W.seq ?_
    refine W.seq ?_
    refine W.region ?_
    refine WL.x (X.mv (s0)) rfl ?_
    refine WL.x (X.lenSl Try.underlying23 (lh)) rfl ?_
    refine WL.x (X.mv lc) rfl ?_
    refine WL.e4 Nx.thn 0 1 12 13 (lt rfl (lt rfl (lt rfl (s0)))) (lt rfl (lt rfl (lt rfl (s1)))) (lt rfl (lh)) (lh) ?_
    intro σ4 s0 s1 s12 s13
    refine W.block ?_
    have qo1 := s0
    have qo2 := s1
    have qo3 := s12
    -- loop 0: kept [0, 1, 12], varied [13]
    refine W.loop (G := Nat) (fun k σ' w' => (σ' 0 = σ4 0 ∧ σ' 1 = σ4 1 ∧ σ' 12 = σ4 12 ∧ True) ∧ (σ' 13 = .int .i64 (k : Int) ∧ k ≤ l1.length ∧ Dr w w' ∧ ∀ i, i < k → l1[i]? = l2[i]?)) (fun k => l1.length - k) (0) ⟨⟨rfl, rfl, rfl, trivial⟩, s13, by omega, Dr.refl _, fun i hi => absurd hi (by omega)⟩ ?_
    rintro k σ5 w1 ⟨⟨f0, f1, f12, _⟩, s13, hk, hdr, heq⟩
    have s0 := f0.trans qo1
    have s1 := f1.trans qo2
    have s12 := f12.trans qo3
    refine W.seq ?_
    refine W.region ?_
    refine WL.x (X.lss (s13) (s12)) rfl ?_
    refine WL.e5 Nx.thn 0 1 12 13 14 (lt rfl (s0)) (lt rfl (s1)) (lt rfl (s12)) (lt rfl (s13)) (lh) ?_
    intro σ6 s0 s1 s12 s13 s14
    refine W.seq ?_
    refine W.cndp s14 (fun hlt => ?_) (fun hlt => ?_)
    · obtain ⟨b1, o1, cs1, T1, fr1, rfl, hm1, hc1⟩ := h1.at (k := k) (by simp; omega)
      obtain ⟨b2, o2, cs2, T2, fr2, rfl, hm2, hc2⟩ := h2.at (k := k) (by simp; omega)
      have hm1 := hdr.ch0.at0 hm1
      have hm2 := hdr.ch0.at0 hm2
      have hg1 : cs1[o1 + (k : Int).toNat * 1]? = some (.int .i64 (l1.getD k 0)) := by rw [show (k : Int).toNat * 1 = k by omega, hc1 k (by simp; omega)]; simp [List.getD_eq_getElem?_getD, List.getElem?_eq_getElem (show k < l1.length by omega)]
      have hg2 : cs2[o2 + (k : Int).toNat * 1]? = some (.int .i64 (l2.getD k 0)) := by rw [show (k : Int).toNat * 1 = k by omega, hc2 k (by simp; omega)]; simp [List.getD_eq_getElem?_getD, List.getElem?_eq_getElem (show k < l2.length by omega)]
      refine W.skip Nx.thn ?_
      refine W.seq ?_
      refine W.block ?_
      refine W.seq ?_
      refine W.region ?_
      refine WL.x (X.mv (s13)) rfl ?_
      refine WL.x (X.asg (lh)) rfl ?_
      refine WL.e5 Nx.thn 0 1 5 12 13 (lt rfl (lt rfl (s0))) (lt rfl (lt rfl (s1))) (lh) (lt rfl (lt rfl (s12))) (lt rfl (lt rfl (s13))) ?_
      intro σ7 s0 s1 s5 s12 s13
      refine W.seq ?_
      refine W.draw mo (by kernel_rfl) Nx.thn ?_
      refine WQ.x (fun _ => X.mv (s0)) rfl ?_
      refine WQ.x (fun _ => X.mv (lt rfl (s5))) rfl ?_
      refine WQ.x (fun _ => X.indexAddr Try.underlying23 el3 (lt rfl (lh)) (lh) (by omega) (by omega)) rfl ?_
      refine WQ.x (fun m => X.load pl3 (lh) hm1 hg1) rfl ?_
      refine WQ.x (fun _ => X.mv (lt rfl (lt rfl (lt rfl (lt rfl (s1)))))) rfl ?_
      refine WQ.x (fun _ => X.mv (lt rfl (lt rfl (lt rfl (lt rfl (lt rfl (s5))))))) rfl ?_
      refine WQ.x (fun _ => X.indexAddr Try.underlying23 el3 (lt rfl (lh)) (lh) (by omega) (by omega)) rfl ?_
      refine WQ.x (fun m => X.load pl3 (lh) hm2 hg2) rfl ?_
      refine WQ.x (fun _ => X.neq (lt rfl (lt rfl (lt rfl (lt rfl (lh))))) (lh)) rfl ?_
      refine WQ.e5 0 1 12 13 24 (lt rfl (lt rfl (lt rfl (lt rfl (lt rfl (lt rfl (lt rfl (lt rfl (lt rfl (s0)))))))))) (lt rfl (lt rfl (lt rfl (lt rfl (lt rfl (lt rfl (lt rfl (lt rfl (lt rfl (s1)))))))))) (lt rfl (lt rfl (lt rfl (lt rfl (lt rfl (lt rfl (lt rfl (lt rfl (lt rfl (s12)))))))))) (lt rfl (lt rfl (lt rfl (lt rfl (lt rfl (lt rfl (lt rfl (lt rfl (lt rfl (s13)))))))))) (lh) ?_
      intro σ8 s0 s1 s12 s13 s24
      intro _; refine gdrew ?_; intro w2 hh6 cd6 dr6
      refine W.cndp s24 (fun hq => ?_) (fun hq => ?_)
      · refine W.seq ?_
        refine W.region ?_
        refine WL.x (X.asg lc) rfl ?_
        refine WL.e1 Nx.thn 4 (lh) ?_
        intro σ9 s4
        refine W.ret1 (Nx.rblk (Nx.rthn (Nx.rthn (Nx.rblk (Nx.rthn Nx.f1))))) s4 ?_
        exact ⟨by rw [decide_eq_false (fun e => hq (by rw [e]))], hdr.trans dr6⟩
      · refine W.skip (Nx.blk Nx.thn) ?_
        refine W.region ?_
        first | refine WL.x (X.add (s13) lc (by omega) (by omega)) rfl ?_ | refine WL.x (X.addw (s13) lc) rfl ?_
        refine WL.x (X.mv (lh)) rfl ?_
        refine WL.e4 Nx.thn 0 1 12 13 (lt rfl (lt rfl (s0))) (lt rfl (lt rfl (s1))) (lt rfl (lt rfl (s12))) (lh) ?_
        intro σ10 s0 s1 s12 s13
        have hq : l1.getD k 0 = l2.getD k 0 := Classical.not_not.1 hq
        refine ⟨k + 1, by omega, ⟨s0.trans qo1.symm, s1.trans qo2.symm, s12.trans qo3.symm, trivial⟩, s13, by omega, hdr.trans dr6, fun i hi => by by_cases e : i = k; (· subst e; simp only [List.getD_eq_getElem?_getD, List.getElem?_eq_getElem (show i < l1.length by omega), List.getElem?_eq_getElem (show i < l2.length by omega), Option.getD_some] at hq ⊢; rw [hq]); (· exact heq i (by omega))⟩
    · refine W.exit (Nx.xthn (Nx.xthn (Nx.xblk Nx.thn))) ?_
      refine W.seq ?_
      refine W.region ?_
      refine WL.x (X.asg lc) rfl ?_
      refine WL.e1 Nx.thn 4 (lh) ?_
      intro σ11 s4
      refine W.ret1 Nx.f1 s4 ?_
      exact ⟨by rw [decide_eq_true (List.ext_getElem? fun i => by by_cases h : i < l1.length; (· exact heq i (by omega)); (· rw [List.getElem?_eq_none (by omega), List.getElem?_eq_none (by omega)]))], hdr⟩
theorem eqi_ok (v1 v2 : Value) (l1 l2 : List Int) (w : World) (h1 : Sl w v1 (l1.map (Value.int .i64))) (h2 : Sl w v2 (l2.map (Value.int .i64))) (hl : l1.length ≤ 140737488355328) :
    Sg.Ret Try.prog 8 #[v1, v2] w fun v w' => v = .bool (decide (l1 = l2)) ∧ Dr w w' := by
  obtain ⟨a1, c1, e1⟩ := h1.len
  obtain ⟨a2, c2, e2⟩ := h2.len
  simp only [List.length_map] at e1 e2
  subst e1; subst e2
  exact eqi_walk a1 a2 c1 c2 l1 l2 w h1 h2 hl
theorem sml_walk (a1 a2 : Option Addr) (c1 c2 : Nat) (l1 l2 : List Int) (w : World) (h1 : Sl w (.slice a1 l1.length c1) (l1.map (Value.int .i64))) (h2 : Sl w (.slice a2 l2.length c2) (l2.map (Value.int .i64))) (hl : l1.length ≤ 140737488355328) :
    Sg.Ret Try.prog 12 #[.slice a1 l1.length c1, .slice a2 l2.length c2] w fun v w' => v = .bool (decide (l1 = l2)) ∧ Dr w w' := by
  refine enter1 (n := 26) (l := [.slice a1 l1.length c1, .slice a2 l2.length c2]) Try.func12 rfl rfl rfl rfl ?_
  refine W.g2 0 1 (v1 := .slice a1 l1.length c1) (v2 := .slice a2 l2.length c2) rfl rfl ?_; intro σ s0 s1
  refine W.seq ?_
  refine W.region ?_
  refine WL.x (X.asg lc) rfl ?_
  refine WL.e2 Nx.thn 0 1 (lt rfl (s0)) (lt rfl (s1)) ?_
  intro σ1 s0 s1
  refine W.seq ?_
  refine W.seq ?_
  refine W.region ?_
  refine WL.x (X.mv (s0)) rfl ?_
  refine WL.x (X.lenSl Try.underlying23 (lh)) rfl ?_
  refine WL.x (X.mv (lt rfl (lt rfl (s1)))) rfl ?_
  refine WL.x (X.lenSl Try.underlying23 (lh)) rfl ?_
  refine WL.x (X.neq (lt rfl (lt rfl (lh))) (lh)) rfl ?_
  refine WL.e3 Nx.thn 0 1 10 (lt rfl (lt rfl (lt rfl (lt rfl (lt rfl (s0)))))) (lt rfl (lt rfl (lt rfl (lt rfl (lt rfl (s1)))))) (lh) ?_
  intro σ2 s0 s1 s10
  refine W.cndp s10 (fun hlen => ?_) (fun hlen => ?_)
  · refine W.seq ?_
    refine W.region ?_
    refine WL.x (X.asg lc) rfl ?_
    refine WL.e1 Nx.thn 4 (lh) ?_
    intro σ3 s4
    refine W.ret1 (Nx.rthn Nx.f1) s4 ?_
    exact ⟨by rw [decide_eq_false (fun e => hlen (by rw [e]))], Dr.refl _⟩
  · have hlen : l1.length = l2.length := by omega
    refine W.skip Nx.thn ?_
    refine W.seq ?_
    refine W.seq ?_
    refine W.region ?_
    refine WL.x (X.mv (s0)) rfl ?_
    refine WL.x (X.lenSl Try.underlying23 (lh)) rfl ?_
    refine WL.x (X.mv lc) rfl ?_
    refine WL.e4 Nx.thn 0 1 12 13 (lt rfl (lt rfl (lt rfl (s0)))) (lt rfl (lt rfl (lt rfl (s1)))) (lt rfl (lh)) (lh) ?_
    intro σ4 s0 s1 s12 s13
    refine W.block ?_
    have qo1 := s0
    have qo2 := s1
    have qo3 := s12
    -- loop 0: kept [0, 1, 12], varied [13]
    refine W.loop (G := Nat) (fun k σ' w' => (σ' 0 = σ4 0 ∧ σ' 1 = σ4 1 ∧ σ' 12 = σ4 12 ∧ True) ∧ (σ' 13 = .int .i64 (k : Int) ∧ k ≤ l1.length ∧ Dr w w' ∧ ∀ i, i < k → l1[i]? = l2[i]?)) (fun k => l1.length - k) (0) ⟨⟨rfl, rfl, rfl, trivial⟩, s13, by omega, Dr.refl _, fun i hi => absurd hi (by omega)⟩ ?_
    rintro k σ5 w1 ⟨⟨f0, f1, f12, _⟩, s13, hk, hdr, heq⟩
    have s0 := f0.trans qo1
    have s1 := f1.trans qo2
    have s12 := f12.trans qo3
    refine W.seq ?_
    refine W.region ?_
    refine WL.x (X.lss (s13) (s12)) rfl ?_
    refine WL.e5 Nx.thn 0 1 12 13 14 (lt rfl (s0)) (lt rfl (s1)) (lt rfl (s12)) (lt rfl (s13)) (lh) ?_
    intro σ6 s0 s1 s12 s13 s14
    refine W.seq ?_
    refine W.cndp s14 (fun hlt => ?_) (fun hlt => ?_)
    · obtain ⟨b1, o1, cs1, T1, fr1, rfl, hm1, hc1⟩ := h1.at (k := k) (by simp; omega)
      obtain ⟨b2, o2, cs2, T2, fr2, rfl, hm2, hc2⟩ := h2.at (k := k) (by simp; omega)
      have hm1 := hdr.ch0.at0 hm1
      have hm2 := hdr.ch0.at0 hm2
      have hg1 : cs1[o1 + (k : Int).toNat * 1]? = some (.int .i64 (l1.getD k 0)) := by rw [show (k : Int).toNat * 1 = k by omega, hc1 k (by simp; omega)]; simp [List.getD_eq_getElem?_getD, List.getElem?_eq_getElem (show k < l1.length by omega)]
      have hg2 : cs2[o2 + (k : Int).toNat * 1]? = some (.int .i64 (l2.getD k 0)) := by rw [show (k : Int).toNat * 1 = k by omega, hc2 k (by simp; omega)]; simp [List.getD_eq_getElem?_getD, List.getElem?_eq_getElem (show k < l2.length by omega)]
      refine W.skip Nx.thn ?_
      refine W.seq ?_
      refine W.block ?_
      refine W.seq ?_
      refine W.region ?_
      refine WL.x (X.mv (s13)) rfl ?_
      refine WL.x (X.asg (lh)) rfl ?_
      refine WL.e5 Nx.thn 0 1 5 12 13 (lt rfl (lt rfl (s0))) (lt rfl (lt rfl (s1))) (lh) (lt rfl (lt rfl (s12))) (lt rfl (lt rfl (s13))) ?_
      intro σ7 s0 s1 s5 s12 s13
      refine W.seq ?_
      refine W.draw mo (by kernel_rfl) Nx.thn ?_
      refine WQ.x (fun _ => X.mv (s0)) rfl ?_
      refine WQ.x (fun _ => X.mv (lt rfl (s5))) rfl ?_
      refine WQ.x (fun _ => X.indexAddr Try.underlying23 el3 (lt rfl (lh)) (lh) (by omega) (by omega)) rfl ?_
      refine WQ.x (fun m => X.load pl3 (lh) hm1 hg1) rfl ?_
      refine WQ.x (fun _ => X.mv (lt rfl (lt rfl (lt rfl (lt rfl (s1)))))) rfl ?_
      refine WQ.x (fun _ => X.mv (lt rfl (lt rfl (lt rfl (lt rfl (lt rfl (s5))))))) rfl ?_
      refine WQ.x (fun _ => X.indexAddr Try.underlying23 el3 (lt rfl (lh)) (lh) (by omega) (by omega)) rfl ?_
      refine WQ.x (fun m => X.load pl3 (lh) hm2 hg2) rfl ?_
      refine WQ.x (fun _ => X.neq (lt rfl (lt rfl (lt rfl (lt rfl (lh))))) (lh)) rfl ?_
      refine WQ.e5 0 1 12 13 24 (lt rfl (lt rfl (lt rfl (lt rfl (lt rfl (lt rfl (lt rfl (lt rfl (lt rfl (s0)))))))))) (lt rfl (lt rfl (lt rfl (lt rfl (lt rfl (lt rfl (lt rfl (lt rfl (lt rfl (s1)))))))))) (lt rfl (lt rfl (lt rfl (lt rfl (lt rfl (lt rfl (lt rfl (lt rfl (lt rfl (s12)))))))))) (lt rfl (lt rfl (lt rfl (lt rfl (lt rfl (lt rfl (lt rfl (lt rfl (lt rfl (s13)))))))))) (lh) ?_
      intro σ8 s0 s1 s12 s13 s24
      intro _; refine gdrew ?_; intro w2 hh6 cd6 dr6
      refine W.cndp s24 (fun hq => ?_) (fun hq => ?_)
      · refine W.seq ?_
        refine W.region ?_
        refine WL.x (X.asg lc) rfl ?_
        refine WL.e1 Nx.thn 4 (lh) ?_
        intro σ9 s4
        refine W.ret1 (Nx.rblk (Nx.rthn (Nx.rthn (Nx.rblk (Nx.rthn Nx.f1))))) s4 ?_
        exact ⟨by rw [decide_eq_false (fun e => hq (by rw [e]))], hdr.trans dr6⟩
      · refine W.skip (Nx.blk Nx.thn) ?_
        refine W.region ?_
        first | refine WL.x (X.add (s13) lc (by omega) (by omega)) rfl ?_ | refine WL.x (X.addw (s13) lc) rfl ?_
        refine WL.x (X.mv (lh)) rfl ?_
        refine WL.e4 Nx.thn 0 1 12 13 (lt rfl (lt rfl (s0))) (lt rfl (lt rfl (s1))) (lt rfl (lt rfl (s12))) (lh) ?_
        intro σ10 s0 s1 s12 s13
        have hq : l1.getD k 0 = l2.getD k 0 := Classical.not_not.1 hq
        refine ⟨k + 1, by omega, ⟨s0.trans qo1.symm, s1.trans qo2.symm, s12.trans qo3.symm, trivial⟩, s13, by omega, hdr.trans dr6, fun i hi => by by_cases e : i = k; (· subst e; simp only [List.getD_eq_getElem?_getD, List.getElem?_eq_getElem (show i < l1.length by omega), List.getElem?_eq_getElem (show i < l2.length by omega), Option.getD_some] at hq ⊢; rw [hq]); (· exact heq i (by omega))⟩
    · refine W.exit (Nx.xthn (Nx.xthn (Nx.xblk Nx.thn))) ?_
      refine W.seq ?_
      refine W.region ?_
      refine WL.x (X.asg lc) rfl ?_
      refine WL.e1 Nx.thn 4 (lh) ?_
      intro σ11 s4
      refine W.ret1 Nx.f1 s4 ?_
      exact ⟨by rw [decide_eq_true (List.ext_getElem? fun i => by by_cases h : i < l1.length; (· exact heq i (by omega)); (· rw [List.getElem?_eq_none (by omega), List.getElem?_eq_none (by omega)]))], hdr⟩
theorem sml_ok (v1 v2 : Value) (l1 l2 : List Int) (w : World) (h1 : Sl w v1 (l1.map (Value.int .i64))) (h2 : Sl w v2 (l2.map (Value.int .i64))) (hl : l1.length ≤ 140737488355328) :
    Sg.Ret Try.prog 12 #[v1, v2] w fun v w' => v = .bool (decide (l1 = l2)) ∧ Dr w w' := by
  obtain ⟨a1, c1, e1⟩ := h1.len
  obtain ⟨a2, c2, e2⟩ := h2.len
  simp only [List.length_map] at e1 e2
  subst e1; subst e2
  exact sml_walk a1 a2 c1 c2 l1 l2 w h1 h2 hl

theorem clone_walk (a : Option Addr) (c : Nat) (l : List Int) (w : World) (h : Sl w (.slice a l.length c) (ints l)) (hl : l.length * 8 ≤ 140737488355328) :
    Sg.Ret Try.prog 4 #[.slice a l.length c] w fun v w' => w'.ownsRow w.heap.size 3 1 v l.length (ints l) ∧ Ch0 w w' := by
  refine enter1 (n := 8) (l := [.slice a l.length c]) Try.func4 rfl rfl rfl rfl ?_
  refine W.g1 0 (v1 := .slice a l.length c) rfl ?_; intro σ s0
  refine W.seq ?_
  refine W.region ?_
  refine WL.x (X.asg lc) rfl ?_
  refine WL.e1 Nx.thn 0 (lt rfl (s0)) ?_
  intro σ1 s0
  refine W.seq ?_
  refine W.seq ?_
  refine W.region ?_
  refine WL.x (X.mv (s0)) rfl ?_
  refine WL.x (X.eqlSl Try.underlying23 (lh) lc) rfl ?_
  refine WL.e2 Nx.thn 0 4 (lt rfl (lt rfl (s0))) (lh) ?_
  intro σ2 s0 s4
  refine W.cnd s4 (fun hnil => ?_) (fun hnil => ?_)
  · obtain rfl : a = none := by cases a <;> first | rfl | (cases hnil)
    obtain rfl : l = [] := by
      rcases h with ⟨h, _⟩ | ⟨b, o, cap, cs, TT, fr, hv, _⟩
      · simpa using h
      · cases hv
    refine W.seq ?_
    refine W.region ?_
    refine WL.x (X.asg lc) rfl ?_
    refine WL.e1 Nx.thn 2 (lh) ?_
    intro σ3 s2
    refine W.ret1 (Nx.rthn Nx.f1) s2 ?_
    exact ⟨World.ownsRow_nil _ _ _ _, Ch.refl _ _⟩
  · obtain ⟨ad, rfl⟩ : ∃ ad, a = some ad := by
      cases a with
      | none => cases hnil
      | some ad => exact ⟨ad, rfl⟩
    refine W.skip Nx.thn ?_
    refine W.seq ?_
    refine W.region ?_
    refine WL.bsliceR (vs := []) Try.underlying23 el3 (by decide) pnil rfl (fun _ h => by cases h) (by decide) rfl ?_
    intro w1 u3_0; have hu3_0 := u3_0.at_; have cu3_0 := u3_0.ch; have zu3_0 := u3_0.size
    refine WL.x (X.mv (lt rfl (s0))) rfl ?_
    refine WL.appendA Try.underlying23 el3 rfl (by decide) (lt rfl (lh)) (lh) (owns_empty (base := w.heap.size) hu3_0 (Nat.le_refl _)) (fun j u hu => Sl.news (by rw [List.length_map]; exact h.ch0 cu3_0) j u hu) (by simp) (by simp [Value.oneCell']) (by unfold maxLen; omega) (by omega) (by omega) rfl ?_
    intro va3_2 w2 ho3_2 ca3_2 hn3_2
    refine WL.x (X.asg (lh)) rfl ?_
    refine WL.e1 Nx.thn 2 (lh) ?_
    intro σ4 s2
    refine W.ret1 Nx.f1 s2 ?_
    exact ⟨by simpa using ho3_2, cu3_0.trans ca3_2 (fun _ _ => id) (fun i hi e => by have : i = w.heap.size := e; omega)⟩

theorem clone_ok (v : Value) (l : List Int) (w : World) (h : Sl w v (ints l)) (hl : l.length * 8 ≤ 140737488355328) : Sg.Ret Try.prog 4 #[v] w fun v w' => ∃ a c, v = .slice a l.length c ∧ w'.ownsRow w.heap.size 3 1 (.slice a l.length c) l.length (ints l) ∧ Ch0 w w' := by
  obtain ⟨a, c, rfl⟩ := h.len
  rw [List.length_map] at h ⊢
  refine Ret.mono (clone_walk a c l w h hl) fun v w' hh => ?_
  obtain ⟨a5, c5, rfl⟩ := (Sl.own hh.1).len
  rw [List.length_map] at hh ⊢
  exact ⟨a5, c5, rfl, hh⟩

theorem eqw_walk (A A2 : Nat → Prop) (a1 a2 : Option Addr) (c1 c2 : Nat) (l1 l2 : List GWhy) (w : World) (h1 : RSl 8 RWhy A w (.slice a1 l1.length c1) l1) (h2 : RSl 8 RWhy A2 w (.slice a2 l2.length c2) l2) (hl : l1.length ≤ 140737488355328) :
    Sg.Ret Try.prog 11 #[.slice a1 l1.length c1, .slice a2 l2.length c2] w fun v w' => v = .bool (decide (l1 = l2)) ∧ Dr w w' := by
  refine enter1 (n := 26) (l := [.slice a1 l1.length c1, .slice a2 l2.length c2]) Try.func11 rfl rfl rfl rfl ?_
  refine W.g2 0 1 (v1 := .slice a1 l1.length c1) (v2 := .slice a2 l2.length c2) rfl rfl ?_; intro σ s0 s1
  refine W.seq ?_
  refine W.region ?_
  refine WL.x (X.asg lc) rfl ?_
  refine WL.e2 Nx.thn 0 1 (lt rfl (s0)) (lt rfl (s1)) ?_
  intro σ1 s0 s1
  refine W.seq ?_
  refine W.seq ?_
  refine W.region ?_
  refine WL.x (X.mv (s0)) rfl ?_
  refine WL.x (X.lenSl Try.underlying27 (lh)) rfl ?_
  refine WL.x (X.mv (lt rfl (lt rfl (s1)))) rfl ?_
  refine WL.x (X.lenSl Try.underlying27 (lh)) rfl ?_
  refine WL.x (X.neq (lt rfl (lt rfl (lh))) (lh)) rfl ?_
  refine WL.e3 Nx.thn 0 1 10 (lt rfl (lt rfl (lt rfl (lt rfl (lt rfl (s0)))))) (lt rfl (lt rfl (lt rfl (lt rfl (lt rfl (s1)))))) (lh) ?_
  intro σ2 s0 s1 s10
  refine W.cndp s10 (fun hlen => ?_) (fun hlen => ?_)
  · refine W.seq ?_
    refine W.region ?_
    refine WL.x (X.asg lc) rfl ?_
    refine WL.e1 Nx.thn 4 (lh) ?_
    intro σ3 s4
    refine W.ret1 (Nx.rthn Nx.f1) s4 ?_
    exact ⟨by rw [decide_eq_false (fun e => hlen (by rw [e]))], Dr.refl _⟩
  · have hlen : l1.length = l2.length := by omega
    refine W.skip Nx.thn ?_
    refine W.seq ?_
    refine W.seq ?_
    refine W.region ?_
    refine WL.x (X.mv (s0)) rfl ?_
    refine WL.x (X.lenSl Try.underlying27 (lh)) rfl ?_
    refine WL.x (X.mv lc) rfl ?_
    refine WL.e4 Nx.thn 0 1 12 13 (lt rfl (lt rfl (lt rfl (s0)))) (lt rfl (lt rfl (lt rfl (s1)))) (lt rfl (lh)) (lh) ?_
    intro σ4 s0 s1 s12 s13
    refine W.block ?_
    have qo1 := s0
    have qo2 := s1
    have qo3 := s12
    -- loop 0: kept [0, 1, 12], varied [13]
    refine W.loop (G := Nat) (fun k σ' w' => (σ' 0 = σ4 0 ∧ σ' 1 = σ4 1 ∧ σ' 12 = σ4 12 ∧ True) ∧ (σ' 13 = .int .i64 (k : Int) ∧ k ≤ l1.length ∧ Dr w w' ∧ ∀ i, i < k → l1[i]? = l2[i]?)) (fun k => l1.length - k) (0) ⟨⟨rfl, rfl, rfl, trivial⟩, s13, by omega, Dr.refl _, fun i hi => absurd hi (by omega)⟩ ?_
    rintro k σ5 w1 ⟨⟨f0, f1, f12, _⟩, s13, hk, hdr, heq⟩
    have s0 := f0.trans qo1
    have s1 := f1.trans qo2
    have s12 := f12.trans qo3
    refine W.seq ?_
    refine W.region ?_
    refine WL.x (X.lss (s13) (s12)) rfl ?_
    refine WL.e5 Nx.thn 0 1 12 13 14 (lt rfl (s0)) (lt rfl (s1)) (lt rfl (s12)) (lt rfl (s13)) (lh) ?_
    intro σ6 s0 s1 s12 s13 s14
    refine W.seq ?_
    refine W.cndp s14 (fun hlt => ?_) (fun hlt => ?_)
    · obtain ⟨b1, o1, cs1, T1, fr1, es1, rfl, hml1, hes1, hgl1, hr1⟩ := (h1.ch0 monWhy hdr.ch0).at (k := k) (by omega)
      obtain ⟨b2, o2, cs2, T2, fr2, es2, rfl, hml2, hes2, hgl2, hr2⟩ := (h2.ch0 monWhy hdr.ch0).at (k := k) (by omega)
      obtain rfl := hr1
      obtain rfl := hr2
      obtain ⟨fs, hfs, hcm⟩ := cmp_why l1[k] l2[k]
      refine W.skip Nx.thn ?_
      refine W.seq ?_
      refine W.block ?_
      refine W.seq ?_
      refine W.region ?_
      refine WL.x (X.mv (s13)) rfl ?_
      refine WL.x (X.asg (lh)) rfl ?_
      refine WL.e5 Nx.thn 0 1 5 12 13 (lt rfl (lt rfl (s0))) (lt rfl (lt rfl (s1))) (lh) (lt rfl (lt rfl (s12))) (lt rfl (lt rfl (s13))) ?_
      intro σ7 s0 s1 s5 s12 s13
      refine W.seq ?_
      refine W.draw mo (by kernel_rfl) Nx.thn ?_
      refine WQ.x (fun _ => X.mv (s0)) rfl ?_
      refine WQ.x (fun _ => X.mv (lt rfl (s5))) rfl ?_
      refine WQ.x (fun _ => X.indexAddr Try.underlying27 el32 (lt rfl (lh)) (lh) (by omega) (by omega)) rfl ?_
      refine WQ.x (fun m => X.loadS ag32 (lh) hml1 hes1 hgl1) rfl ?_
      refine WQ.x (fun _ => X.mv (lt rfl (lt rfl (lt rfl (lt rfl (s1)))))) rfl ?_
      refine WQ.x (fun _ => X.mv (lt rfl (lt rfl (lt rfl (lt rfl (lt rfl (s5))))))) rfl ?_
      refine WQ.x (fun _ => X.indexAddr Try.underlying27 el32 (lt rfl (lh)) (lh) (by omega) (by omega)) rfl ?_
      refine WQ.x (fun m => X.loadS ag32 (lh) hml2 hes2 hgl2) rfl ?_
      refine WQ.x (fun m => X.neqAgg hfs hp_why hg_why (lt rfl (lt rfl (lt rfl (lt rfl (lh))))) (lh) hcm (cmpv_why _ _)) rfl ?_
      refine WQ.e5 0 1 12 13 24 (lt rfl (lt rfl (lt rfl (lt rfl (lt rfl (lt rfl (lt rfl (lt rfl (lt rfl (s0)))))))))) (lt rfl (lt rfl (lt rfl (lt rfl (lt rfl (lt rfl (lt rfl (lt rfl (lt rfl (s1)))))))))) (lt rfl (lt rfl (lt rfl (lt rfl (lt rfl (lt rfl (lt rfl (lt rfl (lt rfl (s12)))))))))) (lt rfl (lt rfl (lt rfl (lt rfl (lt rfl (lt rfl (lt rfl (lt rfl (lt rfl (s13)))))))))) (lh) ?_
      intro σ8 s0 s1 s12 s13 s24
      intro _; refine gdrew ?_; intro w2 hh6 cd6 dr6
      refine W.cndp s24 (fun hq => ?_) (fun hq => ?_)
      · refine W.seq ?_
        refine W.region ?_
        refine WL.x (X.asg lc) rfl ?_
        refine WL.e1 Nx.thn 4 (lh) ?_
        intro σ9 s4
        refine W.ret1 (Nx.rblk (Nx.rthn (Nx.rthn (Nx.rblk (Nx.rthn Nx.f1))))) s4 ?_
        exact ⟨by rw [decide_eq_false (fun e => by subst e; exact hq rfl)], hdr.trans dr6⟩
      · refine W.skip (Nx.blk Nx.thn) ?_
        refine W.region ?_
        first | refine WL.x (X.add (s13) lc (by omega) (by omega)) rfl ?_ | refine WL.x (X.addw (s13) lc) rfl ?_
        refine WL.x (X.mv (lh)) rfl ?_
        refine WL.e4 Nx.thn 0 1 12 13 (lt rfl (lt rfl (s0))) (lt rfl (lt rfl (s1))) (lt rfl (lt rfl (s12))) (lh) ?_
        intro σ10 s0 s1 s12 s13
        have hq1 : l1[k] = l2[k] := Classical.not_not.1 hq
        refine ⟨k + 1, by omega, ⟨s0.trans qo1.symm, s1.trans qo2.symm, s12.trans qo3.symm, trivial⟩, s13, by omega, hdr.trans dr6, fun i hi => by by_cases e : i = k; (· subst e; rw [List.getElem?_eq_getElem (by omega), List.getElem?_eq_getElem (by omega), hq1]); (· exact heq i (by omega))⟩
    · refine W.exit (Nx.xthn (Nx.xthn (Nx.xblk Nx.thn))) ?_
      refine W.seq ?_
      refine W.region ?_
      refine WL.x (X.asg lc) rfl ?_
      refine WL.e1 Nx.thn 4 (lh) ?_
      intro σ11 s4
      refine W.ret1 Nx.f1 s4 ?_
      exact ⟨by rw [decide_eq_true (List.ext_getElem? fun i => by by_cases h : i < l1.length; (· exact heq i (by omega)); (· rw [List.getElem?_eq_none (by omega), List.getElem?_eq_none (by omega)]))], hdr⟩
theorem eqw_ok (A A2 : Nat → Prop) (v1 v2 : Value) (l1 l2 : List GWhy) (w : World) (h1 : RSl 8 RWhy A w v1 l1) (h2 : RSl 8 RWhy A2 w v2 l2) (hl : l1.length ≤ 140737488355328) : Sg.Ret Try.prog 11 #[v1, v2] w fun v w' => v = .bool (decide (l1 = l2)) ∧ Dr w w' := by
  obtain ⟨a1, c1, rfl, h1⟩ := h1.at'
  obtain ⟨a2, c2, rfl, h2⟩ := h2.at'
  exact eqw_walk A A2 a1 a2 c1 c2 l1 l2 w h1 h2 hl

theorem clonew_walk (A : Nat → Prop) (a : Option Addr) (c : Nat) (l : List GWhy) (w : World) (h : RSl 8 RWhy A w (.slice a l.length c) l) (hl : l.length * 64 ≤ 140737488355328) :
    Sg.Ret Try.prog 5 #[.slice a l.length c] w fun v w' => ORow 8 RWhy (fun _ => False) w' w.heap.size 32 v l ∧ Ch0 w w' := by
  refine enter1 (n := 8) (l := [.slice a l.length c]) Try.func5 rfl rfl rfl rfl ?_
  refine W.g1 0 (v1 := .slice a l.length c) rfl ?_; intro σ s0
  refine W.seq ?_
  refine W.region ?_
  refine WL.x (X.asg lc) rfl ?_
  refine WL.e1 Nx.thn 0 (lt rfl (s0)) ?_
  intro σ1 s0
  refine W.seq ?_
  refine W.seq ?_
  refine W.region ?_
  refine WL.x (X.mv (s0)) rfl ?_
  refine WL.x (X.eqlSl Try.underlying27 (lh) lc) rfl ?_
  refine WL.e2 Nx.thn 0 4 (lt rfl (lt rfl (s0))) (lh) ?_
  intro σ2 s0 s4
  refine W.cnd s4 (fun hnil => ?_) (fun hnil => ?_)
  · obtain rfl : a = none := by cases a <;> first | rfl | (cases hnil)
    obtain rfl : l = [] := by
      rcases h with ⟨h, _⟩ | ⟨b, o, cap, cs, TT, fr, hv, _⟩
      · exact h
      · cases hv
    refine W.seq ?_
    refine W.region ?_
    refine WL.x (X.asg lc) rfl ?_
    refine WL.e1 Nx.thn 2 (lh) ?_
    intro σ3 s2
    refine W.ret1 (Nx.rthn Nx.f1) s2 ?_
    exact ⟨ORow.nil, Ch.refl _ _⟩
  · obtain ⟨ad, rfl⟩ : ∃ ad, a = some ad := by
      cases a with
      | none => cases hnil
      | some ad => exact ⟨ad, rfl⟩
    obtain ⟨ess, he1, he2, he3, he4⟩ := h.flat (by decide)
    have hfl := flat_len he2
    have hone : ∀ u ∈ ess.flatten, u.oneCell' = true := fun u hu => by
      obtain ⟨es, hes, hu⟩ := List.mem_flatten.1 hu
      obtain ⟨j, hj, rfl⟩ := List.mem_iff_getElem.1 hes
      have := he4 j (by omega)
      rw [List.getD_eq_getElem?_getD, List.getElem?_eq_getElem hj] at this
      exact ones_of (RWhy_one this) u hu
    refine W.skip Nx.thn ?_
    refine W.seq ?_
    refine W.region ?_
    refine WL.bsliceR (vs := []) Try.underlying27 el32 (by decide) pnil rfl (fun _ h => by cases h) (by decide) rfl ?_
    intro w1 u3_0; have hu3_0 := u3_0.at_; have cu3_0 := u3_0.ch; have zu3_0 := u3_0.size
    refine WL.x (X.mv (lt rfl (s0))) rfl ?_
    refine WL.appendA Try.underlying27 el32 rfl (by decide) (lt rfl (lh)) (lh) (owns_empty (base := w.heap.size) hu3_0 (Nat.le_refl _)) (fun j u hu => by obtain ⟨b, o, cs, T, fr, e1, e2, e3⟩ := block_of_cell (he3 j u hu); rw [e1]; exact cell_of (cu3_0.at0 e2) e3) (by rw [hfl, he1]) (by exact hone) (by unfold maxLen; omega) (by omega) (by omega) rfl ?_
    intro va3_2 w2 ho3_2 ca3_2 hn3_2
    refine WL.x (X.asg (lh)) rfl ?_
    refine WL.e1 Nx.thn 2 (lh) ?_
    intro σ4 s2
    refine W.ret1 Nx.f1 s2 ?_
    exact ⟨⟨ess, he1, he2, by simpa using ho3_2, fun j hj => he4 j hj⟩, cu3_0.trans ca3_2 (fun _ _ => id) (fun i hi e => by have : i = w.heap.size := e; omega)⟩
theorem clonew_ok (A : Nat → Prop) (v : Value) (l : List GWhy) (w : World) (h : RSl 8 RWhy A w v l) (hl : l.length * 64 ≤ 140737488355328) : Sg.Ret Try.prog 5 #[v] w fun v w' => ∃ a c, v = .slice a l.length c ∧ ORow 8 RWhy (fun _ => False) w' w.heap.size 32 (.slice a l.length c) l ∧ Ch0 w w' := by
  obtain ⟨a, c, rfl, h⟩ := h.at'
  refine Ret.mono (clonew_walk A a c l w h hl) fun v w' hh => ?_
  obtain ⟨hh, hc⟩ := hh
  obtain ⟨ess, e1, e2, e3, e4⟩ := hh
  rcases e3.2 with ⟨rfl, h0⟩ | ⟨g, cap, cur, rfl, rest⟩
  · exact ⟨none, 0, by rw [h0], ⟨ess, e1, e2, by rw [h0] at e3 ⊢; exact e3, e4⟩, hc⟩
  · exact ⟨_, cap, rfl, ⟨ess, e1, e2, e3, e4⟩, hc⟩

end Go.Proofs.Ytbnllchicnmkiaa
