/-
  A part of the walk of the program.
-/
import Derived.Test.YtpmbnpehknmmjaaDoorF
set_option linter.unusedVariables false
set_option linter.unusedSimpArgs false
set_option maxRecDepth 100000
namespace Go.Proofs.YtpmbnpehknmmjaaDoor
open Go Go.RowKit Sg

theorem fam_nil {w : World} {base n : Nat} {M : Nat → Nat → Bool} : Fam w base n [] M := ⟨fun i hi => absurd hi (by simp), by simp, fun b hb => by cases hb⟩
/-- The two families, one behind the other: which is meant by 0 and 1. -/
structure Two2 (w : World) (base n : Nat) (bss : Nat → List (Nat × Nat)) (vs : Nat → Value) : Prop where
  r : ∀ f, f < 2 → Rws w base n (vs f) (bss f) (fun _ _ => false)
  ap : ∀ b ∈ bss 0, ∀ c ∈ bss 1, b.2 ≠ c.2
  ap2 : ∀ k, slBlk (vs 0) k → ¬ slBlk (vs 1) k
theorem Two2.ch {F : Nat → Prop} {w w' : World} {base n : Nat} {bss : Nat → List (Nat × Nat)} {vs : Nat → Value} (h : Two2 w base n bss vs) (c : Ch F w w') (h1 : ∀ f, f < 2 → ∀ b ∈ bss f, ¬ F b.1 ∧ ¬ F b.2) (h2 : ∀ f, f < 2 → ∀ k, slBlk (vs f) k → ¬ F k) : Two2 w' base n bss vs :=
  ⟨fun f hf => (h.r f hf).ch c (h1 f hf) (h2 f hf), h.ap, h.ap2⟩
theorem Two2.ch0 {w w' : World} {base n : Nat} {bss : Nat → List (Nat × Nat)} {vs : Nat → Value} (h : Two2 w base n bss vs) (c : Ch0 w w') : Two2 w' base n bss vs := h.ch c (fun _ _ _ _ => ⟨id, id⟩) (fun _ _ _ _ => id)
theorem Two2.store {w w' : World} {base n o : Nat} {bss : Nat → List (Nat × Nat)} {vs : Nat → Value} (h : Two2 w base n bss vs) (ho : ∃ cs, w.heap[o]? = some (.cells cs 42 (0, 0))) (c : Ch (fun k => k = o) w w') : Two2 w' base n bss vs :=
  h.ch c (fun f hf b hb => by
    obtain ⟨p, hp⟩ := (h.r f hf).fam.at hb
    exact ⟨ty_ne hp.ty.1 ho (by decide), ty_ne hp.ty.2 ho (by decide)⟩) (fun f hf k hk => ty_ne ((h.r f hf).sl.ty hk) ho (by decide))
theorem Two2.push {w w' : World} {base n : Nat} {bss : Nat → List (Nat × Nat)} {vs : Nat → Value} (h : Two2 w base n bss vs) {q : Nat} (hq : q < 2) {b : Nat × Nat} (hb : Row1 w n b (fun _ => false)) (hfr : ∀ f, f < 2 → ∀ c ∈ bss f, c.2 ≠ b.2) (hlo : base ≤ b.1 ∧ base ≤ b.2) {v' : Value}
    (ho : QRow w' base 53 v' (ptrs (bss q) ++ [.pointer (some ⟨b.1, 0, none⟩)])) (c : Ch (slBlk (vs q)) w w') (hbk : ∀ k, slBlk v' k → slBlk (vs q) k ∨ w.heap.size ≤ k) :
    Two2 w' base n (fun f => if f = q then bss f ++ [b] else bss f) (fun f => if f = q then v' else vs f) := by
  have hno : ∀ {p : Nat → Bool} {x : Nat × Nat}, Row1 w n x p → ¬ slBlk (vs q) x.1 ∧ ¬ slBlk (vs q) x.2 := fun hp =>
    ⟨fun hk => ty_ne hp.ty.1 ((h.r q hq).sl.ty hk) (by decide) rfl, fun hk => ty_ne hp.ty.2 ((h.r q hq).sl.ty hk) (by decide) rfl⟩
  refine ⟨fun f hf => ?_, ?_, ?_⟩
  · by_cases e : f = q
    · subst e
      simp only [if_pos]
      refine ⟨((h.r f hf).fam.ch c fun x hx => ?_).push (hb.ch c (hno hb).1 (hno hb).2) (hfr f hf) hlo, by rw [show ptrs (bss f ++ [b]) = ptrs (bss f) ++ [.pointer (some ⟨b.1, 0, none⟩)] by simp [ptrs]]; exact ho⟩
      obtain ⟨p, hp⟩ := (h.r f hf).fam.at hx
      exact hno hp
    · simp only [if_neg e]
      refine (h.r f hf).ch c (fun x hx => ?_) fun k hk hk2 => ?_
      · obtain ⟨p, hp⟩ := (h.r f hf).fam.at hx
        exact hno hp
      · rcases (show (f = 0 ∧ q = 1) ∨ (f = 1 ∧ q = 0) by omega) with ⟨rfl, rfl⟩ | ⟨rfl, rfl⟩
        · exact h.ap2 k hk hk2
        · exact h.ap2 k hk2 hk
  · rcases (show q = 0 ∨ q = 1 by omega) with rfl | rfl
    · intro x hx y hy
      simp only [if_pos, if_neg (show ¬ (1 : Nat) = 0 by decide)] at hx hy
      rcases List.mem_append.1 hx with hx | hx
      · exact h.ap x hx y hy
      · rw [List.mem_singleton.1 hx]; exact (hfr 1 (by omega) y hy).symm
    · intro x hx y hy
      simp only [if_pos, if_neg (show ¬ (0 : Nat) = 1 by decide)] at hx hy
      rcases List.mem_append.1 hy with hy | hy
      · exact h.ap x hx y hy
      · rw [List.mem_singleton.1 hy]; exact hfr 0 (by omega) x hx
  · rcases (show q = 0 ∨ q = 1 by omega) with rfl | rfl
    · intro k hx hy
      simp only [if_pos, if_neg (show ¬ (1 : Nat) = 0 by decide)] at hx hy
      rcases hbk k hx with h1 | h1
      · exact h.ap2 k h1 hy
      · have := ((h.r 1 (by omega)).sl.lt hy).2; omega
    · intro k hx hy
      simp only [if_pos, if_neg (show ¬ (0 : Nat) = 1 by decide)] at hx hy
      rcases hbk k hy with h1 | h1
      · exact h.ap2 k hx h1
      · have := ((h.r 0 (by omega)).sl.lt hx).2; omega
theorem Two2.len {w : World} {base n : Nat} {bss : Nat → List (Nat × Nat)} {vs : Nat → Value} (h : Two2 w base n bss vs) {f : Nat} (hf : f < 2) {c : Nat × Nat} (hc : c ∈ bss f) : c.1 < w.heap.size ∧ c.2 < w.heap.size := by
  obtain ⟨p, hp⟩ := (h.r f hf).fam.at hc
  exact hp.lt
theorem onew_ok (n : Int) (w : World) :
    Sg.Ret Tryd.prog 20 #[.int .i64 n] w fun v w' => Ch0 w w' ∧ (if 0 ≤ n ∧ n ≤ 300 then ∃ o, v = .tuple #[.pointer (some ⟨o, 0, none⟩), .int .i64 0] ∧ IsOrd w' w.heap.size o n.toNat (fun _ _ => false) (fun _ _ => false) else v = .tuple #[.pointer none, .int .i64 1]) := by
  refine enter2 (n := 53) (l := [.int .i64 n]) Tryd.func20 rfl rfl rfl rfl ?_
  refine W.g1 0 (v1 := .int .i64 n) rfl ?_; intro σ s0
  refine W.seq ?_
  refine W.region ?_
  refine WL.x (X.asg lc) rfl ?_
  refine WL.x (X.asg lc) rfl ?_
  refine WL.e1 Nx.thn 0 (lt rfl (lt rfl (s0))) ?_
  intro σ1 s0
  refine W.seq ?_
  refine W.seq ?_
  refine W.region ?_
  refine WL.x (X.mv (s0)) rfl ?_
  refine WL.x (X.lss (lh) lc) rfl ?_
  refine WL.x (X.mv (lh)) rfl ?_
  refine WL.splitp (lh) (fun q1 => ?_) (fun q1 => ?_)
  · refine WL.no rfl rfl (lh) (decide_eq_true q1) rfl ?_
    refine WL.no rfl rfl (lt rfl (lh)) (decide_eq_true q1) rfl ?_
    refine WL.x (X.pickT (lt rfl (lt rfl (lh))) (decide_eq_true q1) lc) rfl ?_
    refine WL.e2 Nx.thn 0 14 (lt rfl (lt rfl (lt rfl (lt rfl (lt rfl (lt rfl (s0))))))) (lh) ?_
    intro σ2 s0 s14
    refine W.cndT s14 ?_
    refine W.seq ?_
    refine W.region ?_
    refine WL.x (X.asg lc) rfl ?_
    refine WL.x (X.asg lc) rfl ?_
    refine WL.e2 Nx.thn 2 3 (lt rfl (lh)) (lh) ?_
    intro σ3 s2 s3
    refine W.ret2 (Nx.rthn Nx.f2) s2 s3 ?_
    exact ⟨Ch.refl _ _, by rw [if_neg (by omega)]⟩
  · refine WL.yes rfl rfl (lh) (decide_eq_false q1) ?_
    refine WL.x (X.mv (lt rfl (lt rfl (lt rfl (s0))))) rfl ?_
    refine WL.yes rfl rfl (lt rfl (lh)) (decide_eq_false q1) ?_
    refine WL.x (X.gtr (lh) lc) rfl ?_
    refine WL.x (X.pickF (lt rfl (lt rfl (lh))) (decide_eq_false q1) (lh)) rfl ?_
    refine WL.e2 Nx.thn 0 14 (lt rfl (lt rfl (lt rfl (lt rfl (lt rfl (lt rfl (s0))))))) (lh) ?_
    intro σ4 s0 s14
    refine W.cndp s14 (fun q2 => ?_) (fun q2 => ?_)
    · refine W.seq ?_
      refine W.region ?_
      refine WL.x (X.asg lc) rfl ?_
      refine WL.x (X.asg lc) rfl ?_
      refine WL.e2 Nx.thn 2 3 (lt rfl (lh)) (lh) ?_
      intro σ5 s2 s3
      refine W.ret2 (Nx.rthn Nx.f2) s2 s3 ?_
      exact ⟨Ch.refl _ _, by rw [if_neg (by omega)]⟩
    · refine W.skip Nx.thn ?_
      refine W.seq ?_
      refine W.region ?_
      refine WL.x (X.build bd42 (pcons lc pnil) rfl (rfl : _ = [_, _, _])) rfl ?_
      refine WL.box (lh) rfl ?_
      intro w1 u3_1; have hu3_1 := u3_1.at_; have cu3_1 := u3_1.ch; have zu3_1 := u3_1.size
      refine WL.x (X.asg (lh)) rfl ?_
      refine WL.e2 Nx.thn 0 4 (lt rfl (lt rfl (lt rfl (s0)))) (lh) ?_
      intro σ6 s0 s4
      refine W.seq ?_
      refine W.seq ?_
      refine W.region ?_
      refine WL.x (X.mv (s0)) rfl ?_
      refine WL.x (X.mv lc) rfl ?_
      refine WL.e4 Nx.thn 0 4 17 18 (lt rfl (lt rfl (s0))) (lt rfl (lt rfl (s4))) (lt rfl (lh)) (lh) ?_
      intro σ7 s0 s4 s17 s18
      refine W.block ?_
      have qo1 := s0
      have qo2 := s4
      have qo3 := s17
      -- loop 0: kept [0, 4, 17], varied [18]
      refine W.loop (G := Nat) (fun k σ' w' => (σ' 0 = σ7 0 ∧ σ' 4 = σ7 4 ∧ σ' 17 = σ7 17 ∧ True) ∧ (∃ bss vs, σ' 18 = .int .i64 (k : Int) ∧ k ≤ n.toNat ∧ Two2 w' w.heap.size n.toNat bss vs ∧ (∀ f, f < 2 → (bss f).length = k) ∧ w'.heap[w.heap.size]? = some (.cells #[vs 0, vs 1, .bool true] 42 (0, 0)) ∧ Ch0 w w')) (fun k => n.toNat - k) (0) ⟨⟨rfl, rfl, rfl, trivial⟩, fun _ => [], fun _ => .slice none 0 0, s18, by omega, ⟨fun f _ => ⟨fam_nil, QRow.nil⟩, (fun b hb => by cases hb), fun k hk => hk.elim⟩, fun _ _ => rfl, hu3_1, cu3_1⟩ ?_
      rintro k σ8 w2 ⟨⟨f0, f4, f17, _⟩, bss, vs, s18, hk, htw, hbl, hod, hcl⟩
      have s0 := f0.trans qo1
      have s4 := f4.trans qo2
      have s17 := f17.trans qo3
      have hzc := hcl.size
      have hzo := lt_of_blk hod
      refine W.seq ?_
      refine W.region ?_
      refine WL.x (X.lss (s18) (s17)) rfl ?_
      refine WL.e5 Nx.thn 0 4 17 18 19 (lt rfl (s0)) (lt rfl (s4)) (lt rfl (s17)) (lt rfl (s18)) (lh) ?_
      intro σ9 s0 s4 s17 s18 s19
      refine W.seq ?_
      refine W.cndp s19 (fun hlt => ?_) (fun hlt => ?_)
      · refine W.skip Nx.thn ?_
        refine W.seq ?_
        refine W.block ?_
        refine W.seq ?_
        refine W.held (fun w' => Ch (fun _ => False) w2 w') mo ?_
        intro w3 qhh4 qc5
        have hS : Ch (fun _ => False) w2 w3 := Ch.weak qc5
        have hzqc5 := qc5.size
        have cdh6 := qc5
        refine WH.take 0 rfl (by kernel_rfl) (by kernel_rfl) (by kernel_rfl) (fun _ _ _ h => h) Gd.none rfl (fun w' hS' => X.mv (s4)) hS ?_
        refine WH.take 1 rfl (by kernel_rfl) (by kernel_rfl) (by kernel_rfl) (fun _ _ _ h => h) Gd.none rfl (fun w' hS' => X.nilck (lh)) hS ?_
        refine WH.take 2 rfl (by kernel_rfl) (by kernel_rfl) (by kernel_rfl) (fun _ _ _ h => h) Gd.none rfl (fun w' hS' => X.fieldAddr fd42_0 (lh)) hS ?_
        refine WH.take 3 rfl (by kernel_rfl) (by kernel_rfl) (by kernel_rfl) (fun _ _ _ h => h) Gd.none rfl (fun w' hS' => X.mv (lt rfl (lt rfl (lt rfl (s4))))) hS ?_
        refine WH.take 4 rfl (by kernel_rfl) (by kernel_rfl) (by kernel_rfl) (fun _ _ _ h => h) Gd.none rfl (fun w' hS' => X.nilck (lh)) hS ?_
        refine WH.take 5 rfl (by kernel_rfl) (by kernel_rfl) (by kernel_rfl) (fun _ _ _ h => h) Gd.none rfl (fun w' hS' => X.fieldAddr fd42_1 (lh)) hS ?_
        refine WH.take 8 rfl (by kernel_rfl) (by kernel_rfl) (by kernel_rfl) (fun _ _ _ h => h) Gd.none rfl (fun w' hS' => X.mv lc) hS ?_
        refine WH.one 6 rfl (by kernel_rfl) (fun _ _ h => h) ?_
        refine WL.bslice Tryd.underlying63 el62 rfl (pcons (lt rfl (lt rfl (lt rfl (lt rfl (lh))))) (pcons (lt rfl (lh)) pnil)) rfl (rfl : _ = [_, _]) rfl ?_
        intro w4 u6_6; have hu6_6 := u6_6.at_; have cu6_6 := u6_6.ch; have zu6_6 := u6_6.size
        have hS := hS.trans cu6_6 (fun _ _ => id) (by intro i hi hg; first | exact hg | exact False.elim hg | omega | ((try dsimp only at hg ⊢); omega))
        refine WL.nil Nx.thn ⟨hS, ?_⟩
        refine WH.take 7 rfl (by kernel_rfl) (by kernel_rfl) (by kernel_rfl) (fun _ _ _ h => h) Gd.none rfl (fun w' hS' => X.lenSl Tryd.underlying63 (lh)) hS ?_
        refine WH.done (by kernel_rfl) ?_
        refine WL.e7 Nx.thn 0 4 17 18 26 27 28 (lt rfl (lt rfl (lt rfl (lt rfl (lt rfl (lt rfl (lt rfl (lt rfl (lt rfl (s0)))))))))) (lt rfl (lt rfl (lt rfl (lt rfl (lt rfl (lt rfl (lt rfl (lt rfl (lt rfl (s4)))))))))) (lt rfl (lt rfl (lt rfl (lt rfl (lt rfl (lt rfl (lt rfl (lt rfl (lt rfl (s17)))))))))) (lt rfl (lt rfl (lt rfl (lt rfl (lt rfl (lt rfl (lt rfl (lt rfl (lt rfl (s18)))))))))) (lt rfl (lh)) (lh) (lt rfl (lt rfl (lh))) ?_
        intro σ10 s0 s4 s17 s18 s26 s27 s28
        refine W.block ?_
        have qo6 := s0
        have qo7 := s4
        have qo8 := s17
        have qo9 := s18
        have qo10 := s26
        have qo11 := s27
        have hcc := hS.size
        -- loop 1: kept [0, 4, 17, 18, 26, 27], varied [28]
        refine W.loop (G := Nat) (fun q σ' w' => (σ' 0 = σ10 0 ∧ σ' 4 = σ10 4 ∧ σ' 17 = σ10 17 ∧ σ' 18 = σ10 18 ∧ σ' 26 = σ10 26 ∧ σ' 27 = σ10 27 ∧ True) ∧ (∃ bss vs, σ' 28 = .int .i64 (q : Int) ∧ q ≤ 2 ∧ Two2 w' w.heap.size n.toNat bss vs ∧ (∀ f, f < 2 → (bss f).length = if f < q then k + 1 else k) ∧ w'.heap[w.heap.size]? = some (.cells #[vs 0, vs 1, .bool true] 42 (0, 0)) ∧ Ch0 w w' ∧ w'.heap[w3.heap.size]? = some (.cells #[.pointer (some ⟨w.heap.size, 0, none⟩), .pointer (some ⟨w.heap.size, 1, none⟩)] 62 (0, 0)) ∧ w.heap.size < w3.heap.size)) (fun q => 2 - q) (0) ⟨⟨rfl, rfl, rfl, rfl, rfl, rfl, trivial⟩, bss, vs, s28, by omega, htw.ch0 hS, fun f hf => by rw [hbl f hf]; simp, hS.at0 hod, hcl.trans0 hS, hu6_6, by omega⟩ ?_
        rintro q σ11 w5 ⟨⟨f0, f4, f17, f18, f26, f27, _⟩, bss2, vs2, s28, hq, htw2, hbl2, hod2, hcl2, hqb2, hqz⟩
        have s0 := f0.trans qo6
        have s4 := f4.trans qo7
        have s17 := f17.trans qo8
        have s18 := f18.trans qo9
        have s26 := f26.trans qo10
        have s27 := f27.trans qo11
        have hzc2 := hcl2.size
        have hzo2 := lt_of_blk hod2
        have hzq := lt_of_blk hqb2
        refine W.seq ?_
        refine W.region ?_
        refine WL.x (X.lss (s28) (s27)) rfl ?_
        refine WL.e8 Nx.thn 0 4 17 18 26 27 28 29 (lt rfl (s0)) (lt rfl (s4)) (lt rfl (s17)) (lt rfl (s18)) (lt rfl (s26)) (lt rfl (s27)) (lt rfl (s28)) (lh) ?_
        intro σ12 s0 s4 s17 s18 s26 s27 s28 s29
        refine W.seq ?_
        refine W.cndp s29 (fun hlt2 => ?_) (fun hlt2 => ?_)
        · have hcq : (#[.pointer (some ⟨w.heap.size, 0, none⟩), .pointer (some ⟨w.heap.size, 1, none⟩)] : Array Value)[0 + (q : Int).toNat * 1]? = some (.pointer (some ⟨w.heap.size, q, none⟩)) := by rcases (show q = 0 ∨ q = 1 by omega) with rfl | rfl <;> rfl
          have hcv : (#[vs2 0, vs2 1, .bool true] : Array Value)[q]? = some (vs2 q) := by rcases (show q = 0 ∨ q = 1 by omega) with rfl | rfl <;> rfl
          refine W.skip Nx.thn ?_
          refine W.seq ?_
          refine W.block ?_
          refine W.seq ?_
          refine W.region ?_
          refine WL.x (X.indexAddr Tryd.underlying63 el62 (s26) (s28) (by omega) (by omega)) rfl ?_
          refine WL.x (X.load pl62 (lh) (by first | assumption | exact hS.at (by assumption) (by intro hne; first | exact hne | ((try dsimp only at hne); omega)) | exact hS.at (hcl.at0 (by assumption)) (by intro hne; first | exact hne | ((try dsimp only at hne); omega)) | exact hS.at (hcl.at0 (cu3_1.at0 (by assumption))) (by intro hne; first | exact hne | ((try dsimp only at hne); omega))) (by first | rfl | assumption)) rfl ?_
          refine WL.x (X.asg (lh)) rfl ?_
          refine WL.e8 Nx.thn 0 4 6 17 18 26 27 28 (lt rfl (lt rfl (lt rfl (s0)))) (lt rfl (lt rfl (lt rfl (s4)))) (lh) (lt rfl (lt rfl (lt rfl (s17)))) (lt rfl (lt rfl (lt rfl (s18)))) (lt rfl (lt rfl (lt rfl (s26)))) (lt rfl (lt rfl (lt rfl (s27)))) (lt rfl (lt rfl (lt rfl (s28)))) ?_
          intro σ13 s0 s4 s6 s17 s18 s26 s27 s28
          refine W.seq ?_
          refine W.region ?_
          refine WL.x (X.mv (s0)) rfl ?_
          refine WL.call1 ce28 (lh) (new_ok n w5) rfl ?_
          rintro v9 w6 ⟨kN, hv⟩
          rw [if_pos ⟨by omega, by omega⟩] at hv
          obtain ⟨b, wb, rfl, hset, hb1, hb2⟩ := hv
          have hzN := kN.size
          refine WL.x (X.mv (lh)) rfl ?_
          refine WL.x (X.ex2_0 (lh)) rfl ?_
          refine WL.x (X.ex2_1 (lt rfl (lh))) rfl ?_
          refine WL.x (X.asg (lt rfl (lh))) rfl ?_
          refine WL.x (X.asg (lt rfl (lh))) rfl ?_
          refine WL.e10 Nx.thn 0 4 6 7 8 17 18 26 27 28 (lt rfl (lt rfl (lt rfl (lt rfl (lt rfl (lt rfl (lt rfl (s0)))))))) (lt rfl (lt rfl (lt rfl (lt rfl (lt rfl (lt rfl (lt rfl (s4)))))))) (lt rfl (lt rfl (lt rfl (lt rfl (lt rfl (lt rfl (lt rfl (s6)))))))) (lt rfl (lh)) (lh) (lt rfl (lt rfl (lt rfl (lt rfl (lt rfl (lt rfl (lt rfl (s17)))))))) (lt rfl (lt rfl (lt rfl (lt rfl (lt rfl (lt rfl (lt rfl (s18)))))))) (lt rfl (lt rfl (lt rfl (lt rfl (lt rfl (lt rfl (lt rfl (s26)))))))) (lt rfl (lt rfl (lt rfl (lt rfl (lt rfl (lt rfl (lt rfl (s27)))))))) (lt rfl (lt rfl (lt rfl (lt rfl (lt rfl (lt rfl (lt rfl (s28)))))))) ?_
          intro σ14 s0 s4 s6 s7 s8 s17 s18 s26 s27 s28
          refine W.seq ?_
          refine W.seq ?_
          refine W.region ?_
          refine WL.x (X.mv (s8)) rfl ?_
          refine WL.x (X.neq (lh) lc) rfl ?_
          refine WL.e11 Nx.thn 0 4 6 7 8 17 18 26 27 28 38 (lt rfl (lt rfl (s0))) (lt rfl (lt rfl (s4))) (lt rfl (lt rfl (s6))) (lt rfl (lt rfl (s7))) (lt rfl (lt rfl (s8))) (lt rfl (lt rfl (s17))) (lt rfl (lt rfl (s18))) (lt rfl (lt rfl (s26))) (lt rfl (lt rfl (s27))) (lt rfl (lt rfl (s28))) (lh) ?_
          intro σ15 s0 s4 s6 s7 s8 s17 s18 s26 s27 s28 s38
          refine W.cndN s38 (by simp) ?_
          refine W.skip Nx.thn ?_
          refine W.region ?_
          refine WL.x (X.mv (s6)) rfl ?_
          refine WL.x (X.mv (lt rfl (s6))) rfl ?_
          refine WL.x (X.nilck (lh)) rfl ?_
          refine WL.x (X.fieldAddr fd40_0 (lh)) rfl ?_
          refine WL.x (X.load pl38 (lh) (by first | assumption | exact kN.at0 (by assumption) | exact kN.at0 (hS.at (by assumption) (by intro hne; first | exact hne | ((try dsimp only at hne); omega))) | exact kN.at0 (hS.at (hcl.at0 (by assumption)) (by intro hne; first | exact hne | ((try dsimp only at hne); omega))) | exact kN.at0 (hS.at (hcl.at0 (cu3_1.at0 (by assumption))) (by intro hne; first | exact hne | ((try dsimp only at hne); omega)))) (by first | rfl | assumption)) rfl ?_
          refine WL.x (X.mv (lt rfl (lt rfl (lt rfl (lt rfl (lt rfl (s7))))))) rfl ?_
          refine WL.bslice Tryd.underlying38 el53 rfl (pcons (lh) pnil) rfl (rfl : _ = [_]) rfl ?_
          intro w7 u12_6; have hu12_6 := u12_6.at_; have cu12_6 := u12_6.ch; have zu12_6 := u12_6.size
          have htwB := (htw2.ch0 kN).ch0 cu12_6
          have hlq := hbl2 q (by omega)
          have hlq : (bss2 q).length = k := by rw [hlq, if_neg (by omega)]
          have hfr : ∀ f, f < 2 → ∀ c ∈ bss2 f, c.2 ≠ wb := fun f hf c hc => by have := (htw2.len hf hc).2; omega
          refine WL.pushQ Tryd.underlying38 el53 rfl (lt rfl (lt rfl (lh))) (lh) ((htwB.r q (by omega)).sl) (by first | assumption | exact cu12_6.at0 (by assumption) | exact cu12_6.at0 (kN.at0 (by assumption)) | exact cu12_6.at0 (kN.at0 (hS.at (by assumption) (by intro hne; first | exact hne | ((try dsimp only at hne); omega)))) | exact cu12_6.at0 (kN.at0 (hS.at (hcl.at0 (by assumption)) (by intro hne; first | exact hne | ((try dsimp only at hne); omega)))) | exact cu12_6.at0 (kN.at0 (hS.at (hcl.at0 (cu3_1.at0 (by assumption))) (by intro hne; first | exact hne | ((try dsimp only at hne); omega))))) rfl (by rw [List.length_map]; unfold maxLen; omega) (by rw [List.length_map]; omega) (by omega) rfl ?_
          intro va12_7 w8 ho12_7 ca12_7 hb12_7
          have hodC : w8.heap[w.heap.size]? = some (.cells #[vs2 0, vs2 1, .bool true] 42 (0, 0)) := ca12_7.at (cu12_6.at0 (kN.at0 hod2)) (fun hk => ty_ne ((htwB.r q (by omega)).sl.ty hk) ⟨_, cu12_6.at0 (kN.at0 hod2)⟩ (by decide) rfl)
          have hoQ := ho12_7
          obtain ⟨a1, c1, e9⟩ := ho12_7.len
          rw [List.length_append, List.length_map] at e9
          subst e9
          refine WL.x (X.nilck (lt rfl (lt rfl (lt rfl (lt rfl (lt rfl (lt rfl (lt rfl (lh))))))))) rfl ?_
          refine WL.x (X.fieldAddr fd40_0 (lh)) rfl ?_
          refine WL.store el38 (lh) (lt rfl (lt rfl (lh))) rfl (by first | assumption | exact ca12_7.at (by assumption) (by intro hne; first | exact hne | ((try dsimp only at hne); omega)) | exact ca12_7.at (cu12_6.at0 (by assumption)) (by intro hne; first | exact hne | ((try dsimp only at hne); omega)) | exact ca12_7.at (cu12_6.at0 (kN.at0 (by assumption))) (by intro hne; first | exact hne | ((try dsimp only at hne); omega)) | exact ca12_7.at (cu12_6.at0 (kN.at0 (hS.at (by assumption) (by intro hne; first | exact hne | ((try dsimp only at hne); omega))))) (by intro hne; first | exact hne | ((try dsimp only at hne); omega)) | exact ca12_7.at (cu12_6.at0 (kN.at0 (hS.at (hcl.at0 (by assumption)) (by intro hne; first | exact hne | ((try dsimp only at hne); omega))))) (by intro hne; first | exact hne | ((try dsimp only at hne); omega)) | exact ca12_7.at (cu12_6.at0 (kN.at0 (hS.at (hcl.at0 (cu3_1.at0 (by assumption))) (by intro hne; first | exact hne | ((try dsimp only at hne); omega))))) (by intro hne; first | exact hne | ((try dsimp only at hne); omega))) (by first | decide | (simp; done) | (simp; omega)) ?_
          intro w9 u12_10; have hu12_10 := u12_10.at_; have cu12_10 := u12_10.ch; have zu12_10 := u12_10.size
          refine WL.e7 (Nx.blk Nx.thn) 0 4 17 18 26 27 28 (lt rfl (lt rfl (lt rfl (lt rfl (lt rfl (lt rfl (lt rfl (lt rfl (lt rfl (lt rfl (s0))))))))))) (lt rfl (lt rfl (lt rfl (lt rfl (lt rfl (lt rfl (lt rfl (lt rfl (lt rfl (lt rfl (s4))))))))))) (lt rfl (lt rfl (lt rfl (lt rfl (lt rfl (lt rfl (lt rfl (lt rfl (lt rfl (lt rfl (s17))))))))))) (lt rfl (lt rfl (lt rfl (lt rfl (lt rfl (lt rfl (lt rfl (lt rfl (lt rfl (lt rfl (s18))))))))))) (lt rfl (lt rfl (lt rfl (lt rfl (lt rfl (lt rfl (lt rfl (lt rfl (lt rfl (lt rfl (s26))))))))))) (lt rfl (lt rfl (lt rfl (lt rfl (lt rfl (lt rfl (lt rfl (lt rfl (lt rfl (lt rfl (s27))))))))))) (lt rfl (lt rfl (lt rfl (lt rfl (lt rfl (lt rfl (lt rfl (lt rfl (lt rfl (lt rfl (s28))))))))))) ?_
          intro σ16 s0 s4 s17 s18 s26 s27 s28
          refine W.region ?_
          first | refine WL.x (X.add (s28) lc (by omega) (by omega)) rfl ?_ | refine WL.x (X.addw (s28) lc) rfl ?_
          refine WL.x (X.mv (lh)) rfl ?_
          refine WL.e7 Nx.thn 0 4 17 18 26 27 28 (lt rfl (lt rfl (s0))) (lt rfl (lt rfl (s4))) (lt rfl (lt rfl (s17))) (lt rfl (lt rfl (s18))) (lt rfl (lt rfl (s26))) (lt rfl (lt rfl (s27))) (lh) ?_
          intro σ17 s0 s4 s17 s18 s26 s27 s28
          have htwN := (htwB.push (show q < 2 by omega) (b := (b, wb)) ⟨_, hset.ch0 cu12_6, fun j => mem_replicate _ j⟩ hfr ⟨by omega, by omega⟩ hoQ ca12_7 hb12_7).store ⟨_, hodC⟩ cu12_10
          have hodN : w9.heap[w.heap.size]? = some (.cells #[if (0 : Nat) = q then .slice a1 ((bss2 q).length + 1) c1 else vs2 0, if (1 : Nat) = q then .slice a1 ((bss2 q).length + 1) c1 else vs2 1, .bool true] 42 (0, 0)) := by
            rw [hu12_10]
            rcases (show q = 0 ∨ q = 1 by omega) with rfl | rfl <;> rfl
          have hblN : ∀ f, f < 2 → (if f = q then bss2 f ++ [(b, wb)] else bss2 f).length = if f < q + 1 then k + 1 else k := fun f hf => by
            have := hbl2 f hf
            by_cases e : f = q
            · subst e
              rw [if_neg (by omega)] at this
              rw [if_pos rfl, if_pos (by omega), List.length_append, this]; rfl
            · rw [if_neg e, this]
              by_cases e2 : f < q
              · rw [if_pos e2, if_pos (by omega)]
              · rw [if_neg e2, if_neg (by omega)]
          have hclN := ((hcl2.trans0 kN).trans0 cu12_6).trans (ca12_7.trans cu12_10 (H := fun j => w.heap.size ≤ j) (fun i _ hi => ((htwB.r q (by omega)).sl.lt hi).1) (fun i _ hi => by rw [show i = w.heap.size from hi]; exact Nat.le_refl _)) (H := fun _ => False) (fun _ _ e => e) (fun i hi e => absurd hi (by omega))
          have hqbN : w9.heap[w3.heap.size]? = _ := cu12_10.at (ca12_7.at (cu12_6.at0 (kN.at0 hqb2)) (fun hk => ty_ne ((htwB.r q (by omega)).sl.ty hk) ⟨_, cu12_6.at0 (kN.at0 hqb2)⟩ (by decide) rfl)) (by show ¬ _; omega)
          refine ⟨q + 1, by first | omega | (dsimp only; omega), ⟨s0.trans qo6.symm, s4.trans qo7.symm, s17.trans qo8.symm, s18.trans qo9.symm, s26.trans qo10.symm, s27.trans qo11.symm, trivial⟩, _, _, s28, by omega, htwN, hblN, hodN, hclN, hqbN, hqz⟩
        · refine W.exit (Nx.xthn (Nx.xthn (Nx.xblk (Nx.blk Nx.thn)))) ?_
          refine W.region ?_
          first | refine WL.x (X.add (s18) lc (by omega) (by omega)) rfl ?_ | refine WL.x (X.addw (s18) lc) rfl ?_
          refine WL.x (X.mv (lh)) rfl ?_
          refine WL.e4 Nx.thn 0 4 17 18 (lt rfl (lt rfl (s0))) (lt rfl (lt rfl (s4))) (lt rfl (lt rfl (s17))) (lh) ?_
          intro σ18 s0 s4 s17 s18
          refine ⟨k + 1, by first | omega | (dsimp only; omega), ⟨s0.trans qo1.symm, s4.trans qo2.symm, s17.trans qo3.symm, trivial⟩, bss2, vs2, s18, by omega, htw2, fun f hf => by rw [hbl2 f hf, if_pos (by omega)], hod2, hcl2⟩
      · refine W.exit (Nx.xthn (Nx.xthn (Nx.xblk Nx.thn))) ?_
        refine W.seq ?_
        refine W.region ?_
        refine WL.x (X.mv (s4)) rfl ?_
        refine WL.x (X.asg (lh)) rfl ?_
        refine WL.x (X.asg lc) rfl ?_
        refine WL.e2 Nx.thn 2 3 (lt rfl (lh)) (lh) ?_
        intro σ19 s2 s3
        refine W.ret2 Nx.f2 s2 s3 ?_
        have hke : k = n.toNat := by omega
        subst hke
        refine ⟨hcl, ?_⟩
        rw [if_pos ⟨by omega, by omega⟩]
        exact ⟨_, rfl, bss 0, bss 1, vs 0, vs 1, ⟨hod, htw.r 0 (by omega), htw.r 1 (by omega), htw.ap, Nat.le_refl _⟩, hbl 0 (by omega), hbl 1 (by omega), by omega⟩
end Go.Proofs.YtpmbnpehknmmjaaDoor
