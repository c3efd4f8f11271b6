/-
  A part of the walk of the program.
-/
import Derived.Test.YtpbonakffabppaaA
set_option linter.unusedVariables false
set_option linter.unusedSimpArgs false
set_option maxRecDepth 100000
namespace Go.Proofs.Ytpbonakffabppaa
open Go Go.RowKit Sg

def nm (k : Nat) : ByteArray :=
  match k with
  | 0 => ⟨#[110, 111, 110, 101]⟩
  | 1 => ⟨#[112, 108, 49]⟩
  | 2 => ⟨#[112, 108, 50]⟩
  | 3 => ⟨#[112, 108, 50, 112, 108, 117, 115]⟩
  | 4 => ⟨#[112, 108, 51]⟩
  | _ => ⟨#[115, 116, 114, 105, 99, 116]⟩
def nmA : Array Value := #[.string (nm 0), .string (nm 1), .string (nm 2), .string (nm 3), .string (nm 4), .string (nm 5)]
theorem nmA_get (k : Nat) (h : k < 6) : nmA[k]? = some (.string (nm k)) := by
  have : k = 0 ∨ k = 1 ∨ k = 2 ∨ k = 3 ∨ k = 4 ∨ k = 5 := by omega
  rcases this with rfl | rfl | rfl | rfl | rfl | rfl <;> rfl
def isNm (s : ByteArray) (k : Nat) : Bool := decide (nm k = s)
theorem isNm_self (i j : Nat) (hi : i < 6) (hj : j < 6) (hne : i ≠ j) : isNm (nm j) i = false := by
  have h1 : i = 0 ∨ i = 1 ∨ i = 2 ∨ i = 3 ∨ i = 4 ∨ i = 5 := by omega
  have h2 : j = 0 ∨ j = 1 ∨ j = 2 ∨ j = 3 ∨ j = 4 ∨ j = 5 := by omega
  rcases h1 with rfl | rfl | rfl | rfl | rfl | rfl <;> rcases h2 with rfl | rfl | rfl | rfl | rfl | rfl <;> first | exact absurd rfl hne | decide
/-- The level of a name: a first one among the six, or none. -/
def IsOf (s : ByteArray) (v : Int) (b : Bool) : Prop :=
  (∃ k : Nat, k < 6 ∧ isNm s k = true ∧ (∀ i, i < k → isNm s i = false) ∧ v = k ∧ b = true) ∨ ((∀ i, i < 6 → isNm s i = false) ∧ v = 0 ∧ b = false)
theorem IsOf.same {s : ByteArray} {v v' : Int} {b b' : Bool} (h : IsOf s v b) (h' : IsOf s v' b') : v = v' ∧ b = b' := by
  rcases h with ⟨k, hk, h1, h2, rfl, rfl⟩ | ⟨h1, rfl, rfl⟩ <;> rcases h' with ⟨k', hk', h1', h2', rfl, rfl⟩ | ⟨h1', rfl, rfl⟩
  · rcases Nat.lt_trichotomy k k' with h | h | h
    · rw [h2' k h] at h1; cases h1
    · exact ⟨by rw [h], rfl⟩
    · rw [h2 k' h] at h1'; cases h1'
  · rw [h1' k hk] at h1; cases h1
  · rw [h1 k' hk'] at h1'; cases h1'
  · exact ⟨rfl, rfl⟩
def nameOf (l : Int) : ByteArray := if 0 ≤ l ∧ l ≤ 5 then nm l.toNat else ⟨#[]⟩
theorem nameOf_nat (k : Nat) (hk : k < 6) : nameOf (k : Int) = nm k := by unfold nameOf; rw [if_pos (by omega)]; simp
theorem nm_ne (k : Nat) (hk : k < 6) : nm k ≠ ⟨#[]⟩ := by
  have h1 : k = 0 ∨ k = 1 ∨ k = 2 ∨ k = 3 ∨ k = 4 ∨ k = 5 := by omega
  rcases h1 with rfl | rfl | rfl | rfl | rfl | rfl <;> decide
theorem IsOf.name (k : Nat) (hk : k < 6) {v : Int} {b : Bool} (h : IsOf (nameOf (k : Int)) v b) : v = k ∧ b = true := by
  rw [nameOf_nat k hk] at h
  have h' : IsOf (nm k) k true := .inl ⟨k, hk, by simp [isNm], fun i hi => isNm_self i k (by omega) hk (by omega), rfl, rfl⟩
  exact h.same h'

theorem names_ok (w : World) :
    Sg.Ret Try.prog 12 #[] w fun v w' => v = .agg nmA ∧ Ch0 w w' := by
  refine enterG (n := 2) (l := []) Try.func12 rfl rfl rfl rfl ?_
  refine W.g0 ?_; intro σ
  refine W.seq ?_
  refine W.region ?_
  refine WL.alloc el29 rfl ?_
  intro w1 u1; have hu1 := u1.at_; have cu1 := u1.ch; have zu1 := u1.size
  refine WL.e1 Nx.thn 0 (lh) ?_
  intro σ1 s0
  refine W.seq ?_
  refine W.region ?_
  refine WL.x (X.build bd29 (pcons lc (pcons lc (pcons lc (pcons lc (pcons lc (pcons lc pnil)))))) rfl (rfl : _ = [_, _, _, _, _, _])) rfl ?_
  refine WL.storeS ag29 (lt rfl (s0)) (lh) rfl rfl (by first | assumption | exact cu1.at0 (by assumption)) (by first | decide | (simp; done) | (simp; omega)) ?_
  intro w2 u2; have hu2 := u2.at_; have cu2 := u2.ch; have zu2 := u2.size
  refine WL.e1 Nx.thn 0 (lt rfl (s0)) ?_
  intro σ2 s0
  refine W.retG Nx.fG ⟨[_], (.cell s0 (by first | assumption | exact cu2.at (by assumption) (by intro hne; dsimp only at hne; omega) | exact cu2.at (cu1.at0 (by assumption)) (by intro hne; dsimp only at hne; omega)) (by exact ag29) .nil), ?_⟩
  exact ⟨rfl, cu1.trans cu2 (fun _ _ => id) (fun i hi e => absurd hi (by omega))⟩
theorem refnames_ok (w : World) :
    Sg.Ret Try.prog 13 #[] w fun v w' => ∃ b, v = .slice (some ⟨b, 0, none⟩) 6 6 ∧ w'.heap[b]? = some (.cells nmA 9 (0, 0)) ∧ Ch0 w w' := by
  refine enter1 (n := 2) (l := []) Try.func13 rfl rfl rfl rfl ?_
  refine W.g0 ?_; intro σ
  refine W.seq ?_
  refine W.region ?_
  refine WL.x (X.asg lc) rfl ?_
  refine WL.e0 Nx.thn  ?_
  intro σ1 
  refine W.seq ?_
  refine W.region ?_
  refine WL.bslice Try.underlying32 el9 rfl (pcons lc (pcons lc (pcons lc (pcons lc (pcons lc (pcons lc pnil)))))) rfl (rfl : _ = [_, _, _, _, _, _]) rfl ?_
  intro w1 u1; have hu1 := u1.at_; have cu1 := u1.ch; have zu1 := u1.size
  refine WL.x (X.asg (lh)) rfl ?_
  refine WL.e1 Nx.thn 0 (lh) ?_
  intro σ2 s0
  refine W.ret1 Nx.f1 s0 ?_
  exact ⟨_, rfl, hu1, cu1⟩
theorem of_ok (s : ByteArray) (w : World) :
    Sg.Ret Try.prog 7 #[.string s] w fun v w' => ∃ (x : Int) (b : Bool), v = .tuple #[.int .i64 x, .bool b] ∧ IsOf s x b ∧ Ch0 w w' := by
  refine enter2 (n := 22) (l := [.string s]) Try.func7 rfl rfl rfl rfl ?_
  refine W.g1 0 (v1 := .string s) rfl ?_; intro σ s0
  refine W.seq ?_
  refine W.region ?_
  refine WL.x (X.asg lc) rfl ?_
  refine WL.x (X.asg lc) rfl ?_
  refine WL.e1 Nx.thn 0 (lt rfl (lt rfl (s0))) ?_
  intro σ1 s0
  refine W.seq ?_
  refine W.region ?_
  refine WL.x (X.asg lc) rfl ?_
  refine WL.e2 Nx.thn 0 4 (lt rfl (s0)) (lh) ?_
  intro σ2 s0 s4
  refine W.seq ?_
  refine W.seq ?_
  refine W.region ?_
  refine WL.call0 ce12  (names_ok _) rfl ?_
  rintro _ w1 ⟨rfl, c1⟩
  refine WL.x (X.mv lc) rfl ?_
  refine WL.e4 Nx.thn 0 4 7 8 (lt rfl (lt rfl (s0))) (lt rfl (lt rfl (s4))) (lt rfl (lh)) (lh) ?_
  intro σ3 s0 s4 s7 s8
  refine W.block ?_
  have o1 := s0
  have o2 := s7
  -- loop 0: kept [0, 7], varied [4, 8]
  refine W.loop (G := Nat) (fun k σ' w' => (σ' 0 = σ3 0 ∧ σ' 7 = σ3 7 ∧ True) ∧ w1 = w' ∧ (σ' 8 = .int .i64 (k : Int) ∧ σ' 4 = .int .i64 (-1) ∧ k ≤ 6 ∧ ∀ i, i < k → isNm s i = false)) (fun k => 6 - k) (0) ⟨⟨rfl, rfl, trivial⟩, rfl, s8, s4, by omega, fun i hi => absurd hi (by omega)⟩ ?_
  rintro k σ4 w2 ⟨⟨f0, f7, _⟩, rfl, s8, s4, hk, hno⟩
  have s0 := f0.trans o1
  have s7 := f7.trans o2
  refine W.seq ?_
  refine W.region ?_
  refine WL.x (X.lss (s8) lc) rfl ?_
  refine WL.e5 Nx.thn 0 4 7 8 9 (lt rfl (s0)) (lt rfl (s4)) (lt rfl (s7)) (lt rfl (s8)) (lh) ?_
  intro σ5 s0 s4 s7 s8 s9
  refine W.seq ?_
  refine W.cndp s9 (fun hlt => ?_) (fun hlt => ?_)
  · refine W.skip Nx.thn ?_
    refine W.seq ?_
    refine W.block ?_
    refine W.seq ?_
    refine W.region ?_
    refine WL.x (X.mv (s8)) rfl ?_
    refine WL.x (X.indexA Try.underlying29 pl9 el9 (lt rfl (s7)) (lt rfl (s8)) (by omega) (by omega) (nmA_get _ (by omega))) rfl ?_
    refine WL.x (X.asg (lt rfl (lh))) rfl ?_
    refine WL.x (X.asg (lt rfl (lh))) rfl ?_
    refine WL.e6 Nx.thn 0 4 5 6 7 8 (lt rfl (lt rfl (lt rfl (lt rfl (s0))))) (lt rfl (lt rfl (lt rfl (lt rfl (s4))))) (lt rfl (lh)) (lh) (lt rfl (lt rfl (lt rfl (lt rfl (s7))))) (lt rfl (lt rfl (lt rfl (lt rfl (s8))))) ?_
    intro σ6 s0 s4 s5 s6 s7 s8
    refine W.seq ?_
    refine W.region ?_
    refine WL.x (X.mv (s6)) rfl ?_
    refine WL.x (X.mv (lt rfl (s0))) rfl ?_
    refine WL.x (X.eqlS (lt rfl (lh)) (lh)) rfl ?_
    refine WL.e6 Nx.thn 0 4 5 7 8 14 (lt rfl (lt rfl (lt rfl (s0)))) (lt rfl (lt rfl (lt rfl (s4)))) (lt rfl (lt rfl (lt rfl (s5)))) (lt rfl (lt rfl (lt rfl (s7)))) (lt rfl (lt rfl (lt rfl (s8)))) (lh) ?_
    intro σ7 s0 s4 s5 s7 s8 s14
    refine W.cndp s14 (fun hc2 => ?_) (fun hc2 => ?_)
    · refine W.seq ?_
      refine W.region ?_
      refine WL.x (X.mv (s5)) rfl ?_
      refine WL.x (X.asg (lh)) rfl ?_
      refine WL.e1 Nx.thn 4 (lh) ?_
      intro σ8 s4
      refine W.exit (Nx.xblk' rfl (Nx.xthn (Nx.xthn (Nx.xblk Nx.thn)))) ?_
      refine W.seq ?_
      refine W.seq ?_
      refine W.region ?_
      refine WL.x (X.mv (s4)) rfl ?_
      refine WL.x (X.build bd31 (pcons (lh) (pcons lc pnil)) rfl (rfl : _ = [_, _])) rfl ?_
      refine WL.x (X.build bd31 (pcons lc (pcons lc pnil)) rfl (rfl : _ = [_, _])) rfl ?_
      refine WL.x (X.eqlA2 Try.underlying31 Try.underlying3 el3 eg31 (lt rfl (lh)) (lh)) rfl ?_
      refine WL.e2 Nx.thn 4 20 (lt rfl (lt rfl (lt rfl (lt rfl (s4))))) (lh) ?_
      intro σ9 s4 s20
      refine W.cndp s20 (fun hc3 => ?_) (fun hc3 => ?_)
      · refine W.seq ?_
        refine W.region ?_
        refine WL.x (X.asg lc) rfl ?_
        refine WL.x (X.asg lc) rfl ?_
        refine WL.e2 Nx.thn 2 3 (lt rfl (lh)) (lh) ?_
        intro σ10 s2 s3
        refine W.ret2 (Nx.rthn Nx.f2) s2 s3 ?_
        obtain ⟨h1, _⟩ := hc3; omega
      · refine W.skip Nx.thn ?_
        refine W.seq ?_
        refine W.region ?_
        refine WL.x (X.mv (s4)) rfl ?_
        refine WL.x (X.asg (lh)) rfl ?_
        refine WL.x (X.asg lc) rfl ?_
        refine WL.e2 Nx.thn 2 3 (lt rfl (lh)) (lh) ?_
        intro σ11 s2 s3
        refine W.ret2 Nx.f2 s2 s3 ?_
        exact ⟨_, _, rfl, .inl ⟨k, by omega, by simpa [isNm] using hc2, hno, rfl, rfl⟩, c1⟩
    · refine W.skip (Nx.blk Nx.thn) ?_
      refine W.region ?_
      first | refine WL.x (X.add (s8) lc (by omega) (by omega)) rfl ?_ | refine WL.x (X.addw (s8) lc) rfl ?_
      refine WL.x (X.mv (lh)) rfl ?_
      refine WL.e4 Nx.thn 0 4 7 8 (lt rfl (lt rfl (s0))) (lt rfl (lt rfl (s4))) (lt rfl (lt rfl (s7))) (lh) ?_
      intro σ12 s0 s4 s7 s8
      refine ⟨k + 1, by omega, ⟨s0.trans o1.symm, s7.trans o2.symm, trivial⟩, rfl, s8, s4, by omega, fun i hi => by by_cases e : i = k; (· subst e; simpa [isNm] using hc2); (· exact hno i (by omega))⟩
  · refine W.exit (Nx.xthn (Nx.xthn (Nx.xblk Nx.thn))) ?_
    refine W.seq ?_
    refine W.seq ?_
    refine W.region ?_
    refine WL.x (X.mv (s4)) rfl ?_
    refine WL.x (X.build bd31 (pcons (lh) (pcons lc pnil)) rfl (rfl : _ = [_, _])) rfl ?_
    refine WL.x (X.build bd31 (pcons lc (pcons lc pnil)) rfl (rfl : _ = [_, _])) rfl ?_
    refine WL.x (X.eqlA2 Try.underlying31 Try.underlying3 el3 eg31 (lt rfl (lh)) (lh)) rfl ?_
    refine WL.e2 Nx.thn 4 20 (lt rfl (lt rfl (lt rfl (lt rfl (s4))))) (lh) ?_
    intro σ13 s4 s20
    refine W.cndp s20 (fun hc3 => ?_) (fun hc3 => ?_)
    · refine W.seq ?_
      refine W.region ?_
      refine WL.x (X.asg lc) rfl ?_
      refine WL.x (X.asg lc) rfl ?_
      refine WL.e2 Nx.thn 2 3 (lt rfl (lh)) (lh) ?_
      intro σ14 s2 s3
      refine W.ret2 (Nx.rthn Nx.f2) s2 s3 ?_
      exact ⟨_, _, rfl, .inr ⟨fun i hi => hno i (by omega), rfl, rfl⟩, c1⟩
    · refine W.skip Nx.thn ?_
      refine W.seq ?_
      refine W.region ?_
      refine WL.x (X.mv (s4)) rfl ?_
      refine WL.x (X.asg (lh)) rfl ?_
      refine WL.x (X.asg lc) rfl ?_
      refine WL.e2 Nx.thn 2 3 (lt rfl (lh)) (lh) ?_
      intro σ15 s2 s3
      refine W.ret2 Nx.f2 s2 s3 ?_
      exact absurd ⟨rfl, rfl⟩ hc3
theorem refof_ok (s : ByteArray) (w : World) :
    Sg.Ret Try.prog 8 #[.string s] w fun v w' => ∃ (x : Int) (b : Bool), v = .tuple #[.int .i64 x, .bool b] ∧ IsOf s x b ∧ Ch0 w w' := by
  refine enter2 (n := 18) (l := [.string s]) Try.func8 rfl rfl rfl rfl ?_
  refine W.g1 0 (v1 := .string s) rfl ?_; intro σ s0
  refine W.seq ?_
  refine W.region ?_
  refine WL.x (X.asg lc) rfl ?_
  refine WL.x (X.asg lc) rfl ?_
  refine WL.e1 Nx.thn 0 (lt rfl (lt rfl (s0))) ?_
  intro σ1 s0
  refine W.seq ?_
  refine W.seq ?_
  refine W.region ?_
  refine WL.call0 ce13  (refnames_ok _) rfl ?_
  rintro _ w1 ⟨b, rfl, hnb, c1⟩
  refine WL.x (X.lenSl Try.underlying32 (lh)) rfl ?_
  refine WL.x (X.mv lc) rfl ?_
  refine WL.e4 Nx.thn 0 6 7 8 (lt rfl (lt rfl (lt rfl (s0)))) (lt rfl (lt rfl (lh))) (lt rfl (lh)) (lh) ?_
  intro σ2 s0 s6 s7 s8
  refine W.block ?_
  have o1 := s0
  have o2 := s6
  have o3 := s7
  -- loop 0: kept [0, 6, 7], varied [8]
  refine W.loop (G := Nat) (fun k σ' w' => (σ' 0 = σ2 0 ∧ σ' 6 = σ2 6 ∧ σ' 7 = σ2 7 ∧ True) ∧ w1 = w' ∧ (σ' 8 = .int .i64 (k : Int) ∧ k ≤ 6 ∧ ∀ i, i < k → isNm s i = false)) (fun k => 6 - k) (0) ⟨⟨rfl, rfl, rfl, trivial⟩, rfl, s8, by omega, fun i hi => absurd hi (by omega)⟩ ?_
  rintro k σ3 w2 ⟨⟨f0, f6, f7, _⟩, rfl, s8, hk, hno⟩
  have s0 := f0.trans o1
  have s6 := f6.trans o2
  have s7 := f7.trans o3
  refine W.seq ?_
  refine W.region ?_
  refine WL.x (X.lss (s8) (s7)) rfl ?_
  refine WL.e5 Nx.thn 0 6 7 8 9 (lt rfl (s0)) (lt rfl (s6)) (lt rfl (s7)) (lt rfl (s8)) (lh) ?_
  intro σ4 s0 s6 s7 s8 s9
  refine W.seq ?_
  refine W.cndp s9 (fun hlt => ?_) (fun hlt => ?_)
  · refine W.skip Nx.thn ?_
    refine W.seq ?_
    refine W.block ?_
    refine W.seq ?_
    refine W.region ?_
    refine WL.x (X.mv (s8)) rfl ?_
    refine WL.x (X.indexAddr Try.underlying32 el9 (lt rfl (s6)) (lt rfl (s8)) (by omega) (by omega)) rfl ?_
    refine WL.x (X.load pl9 (lh) hnb (v := .string (nm k)) (by rw [show 0 + (k : Int).toNat * 1 = k by omega]; exact nmA_get k (by omega))) rfl ?_
    refine WL.x (X.asg (lt rfl (lt rfl (lh)))) rfl ?_
    refine WL.x (X.asg (lt rfl (lh))) rfl ?_
    refine WL.e6 Nx.thn 0 4 5 6 7 8 (lt rfl (lt rfl (lt rfl (lt rfl (lt rfl (s0)))))) (lt rfl (lh)) (lh) (lt rfl (lt rfl (lt rfl (lt rfl (lt rfl (s6)))))) (lt rfl (lt rfl (lt rfl (lt rfl (lt rfl (s7)))))) (lt rfl (lt rfl (lt rfl (lt rfl (lt rfl (s8)))))) ?_
    intro σ5 s0 s4 s5 s6 s7 s8
    refine W.seq ?_
    refine W.region ?_
    refine WL.x (X.mv (s5)) rfl ?_
    refine WL.x (X.mv (lt rfl (s0))) rfl ?_
    refine WL.x (X.eqlS (lt rfl (lh)) (lh)) rfl ?_
    refine WL.e6 Nx.thn 0 4 6 7 8 15 (lt rfl (lt rfl (lt rfl (s0)))) (lt rfl (lt rfl (lt rfl (s4)))) (lt rfl (lt rfl (lt rfl (s6)))) (lt rfl (lt rfl (lt rfl (s7)))) (lt rfl (lt rfl (lt rfl (s8)))) (lh) ?_
    intro σ6 s0 s4 s6 s7 s8 s15
    refine W.cndp s15 (fun hc2 => ?_) (fun hc2 => ?_)
    · refine W.seq ?_
      refine W.region ?_
      refine WL.x (X.mv (s4)) rfl ?_
      refine WL.x (X.asg (lh)) rfl ?_
      refine WL.x (X.asg lc) rfl ?_
      refine WL.e2 Nx.thn 2 3 (lt rfl (lh)) (lh) ?_
      intro σ7 s2 s3
      refine W.ret2 (Nx.rblk (Nx.rthn (Nx.rthn (Nx.rblk (Nx.rthn Nx.f2))))) s2 s3 ?_
      exact ⟨_, _, rfl, .inl ⟨k, by omega, by simpa [isNm] using hc2, hno, rfl, rfl⟩, c1⟩
    · refine W.skip (Nx.blk Nx.thn) ?_
      refine W.region ?_
      first | refine WL.x (X.add (s8) lc (by omega) (by omega)) rfl ?_ | refine WL.x (X.addw (s8) lc) rfl ?_
      refine WL.x (X.mv (lh)) rfl ?_
      refine WL.e4 Nx.thn 0 6 7 8 (lt rfl (lt rfl (s0))) (lt rfl (lt rfl (s6))) (lt rfl (lt rfl (s7))) (lh) ?_
      intro σ8 s0 s6 s7 s8
      refine ⟨k + 1, by omega, ⟨s0.trans o1.symm, s6.trans o2.symm, s7.trans o3.symm, trivial⟩, rfl, s8, by omega, fun i hi => by by_cases e : i = k; (· subst e; simpa [isNm] using hc2); (· exact hno i (by omega))⟩
  · refine W.exit (Nx.xthn (Nx.xthn (Nx.xblk Nx.thn))) ?_
    refine W.seq ?_
    refine W.region ?_
    refine WL.x (X.asg lc) rfl ?_
    refine WL.x (X.asg lc) rfl ?_
    refine WL.e2 Nx.thn 2 3 (lt rfl (lh)) (lh) ?_
    intro σ9 s2 s3
    refine W.ret2 Nx.f2 s2 s3 ?_
    exact ⟨_, _, rfl, .inr ⟨fun i hi => hno i (by omega), rfl, rfl⟩, c1⟩
theorem name_ok (a : Int) (w : World) :
    Sg.Ret Try.prog 9 #[.int .i64 a] w fun v w' => v = .string (nameOf a) ∧ Ch0 w w' := by
  refine enter1 (n := 12) (l := [.int .i64 a]) Try.func9 rfl rfl rfl rfl ?_
  refine W.g1 0 (v1 := .int .i64 a) rfl ?_; intro σ s0
  refine W.seq ?_
  refine W.region ?_
  refine WL.x (X.asg lc) rfl ?_
  refine WL.e1 Nx.thn 0 (lt rfl (s0)) ?_
  intro σ1 s0
  refine W.seq ?_
  refine W.seq ?_
  refine W.region ?_
  refine WL.x (X.mv (s0)) rfl ?_
  refine WL.x (X.eql (lh) lc) rfl ?_
  refine WL.x (X.mv (lh)) rfl ?_
  refine WL.splitp (lh) (fun hb1 => ?_) (fun hb1 => ?_)
  · refine WL.no rfl rfl (lh) (decide_eq_true hb1) rfl ?_
    refine WL.no rfl rfl (lt rfl (lh)) (decide_eq_true hb1) rfl ?_
    refine WL.x (X.pickT (lt rfl (lt rfl (lh))) (decide_eq_true hb1) lc) rfl ?_
    refine WL.e2 Nx.thn 0 8 (lt rfl (lt rfl (lt rfl (lt rfl (lt rfl (lt rfl (s0))))))) (lh) ?_
    intro σ2 s0 s8
    refine W.cndT s8 ?_
    refine W.seq ?_
    refine W.region ?_
    refine WL.call0 ce12  (names_ok _) rfl ?_
    rintro _ w1 ⟨rfl, c1⟩
    refine WL.x (X.mv (lt rfl (s0))) rfl ?_
    have hka := kn_iff a
    have hin : 0 ≤ a ∧ a ≤ 5 := by first | omega | (have := hka.1 (by assumption); omega)
    refine WL.x (X.indexA Try.underlying29 pl9 el9 (lt rfl (lh)) (lh) (by omega) (by omega) (nmA_get _ (by omega))) rfl ?_
    refine WL.x (X.asg (lh)) rfl ?_
    refine WL.e1 Nx.thn 2 (lh) ?_
    intro σ3 s2
    refine W.ret1 (Nx.rthn Nx.f1) s2 ?_
    exact ⟨by unfold nameOf; rw [if_pos hin], c1⟩
  · refine WL.yes rfl rfl (lh) (decide_eq_false hb1) ?_
    refine WL.x (X.mv (lt rfl (lt rfl (lt rfl (s0))))) rfl ?_
    refine WL.yes rfl rfl (lt rfl (lh)) (decide_eq_false hb1) ?_
    refine WL.call1 ce11 (lh) (known_ok _ _) rfl ?_
    rintro _ _ ⟨rfl, rfl⟩
    refine WL.x (X.pickF (lt rfl (lt rfl (lh))) (decide_eq_false hb1) (lh)) rfl ?_
    refine WL.e2 Nx.thn 0 8 (lt rfl (lt rfl (lt rfl (lt rfl (lt rfl (lt rfl (s0))))))) (lh) ?_
    intro σ4 s0 s8
    refine W.cnd s8 (fun hc2 => ?_) (fun hc2 => ?_)
    · refine W.seq ?_
      refine W.region ?_
      refine WL.call0 ce12  (names_ok _) rfl ?_
      rintro _ w2 ⟨rfl, c1⟩
      refine WL.x (X.mv (lt rfl (s0))) rfl ?_
      have hka := kn_iff a
      have hin : 0 ≤ a ∧ a ≤ 5 := by first | omega | (have := hka.1 (by assumption); omega)
      refine WL.x (X.indexA Try.underlying29 pl9 el9 (lt rfl (lh)) (lh) (by omega) (by omega) (nmA_get _ (by omega))) rfl ?_
      refine WL.x (X.asg (lh)) rfl ?_
      refine WL.e1 Nx.thn 2 (lh) ?_
      intro σ5 s2
      refine W.ret1 (Nx.rthn Nx.f1) s2 ?_
      exact ⟨by unfold nameOf; rw [if_pos hin], c1⟩
    · refine W.skip Nx.thn ?_
      refine W.seq ?_
      refine W.region ?_
      refine WL.x (X.asg lc) rfl ?_
      refine WL.e1 Nx.thn 2 (lh) ?_
      intro σ6 s2
      refine W.ret1 Nx.f1 s2 ?_
      have hka := kn_iff a; exact ⟨by unfold nameOf; rw [if_neg (by simp_all; omega)], Ch.refl _ _⟩
theorem refname_ok (a : Int) (w : World) :
    Sg.Ret Try.prog 10 #[.int .i64 a] w fun v w' => v = .string (nameOf a) ∧ Ch0 w w' := by
  refine enter1 (n := 13) (l := [.int .i64 a]) Try.func10 rfl rfl rfl rfl ?_
  refine W.g1 0 (v1 := .int .i64 a) rfl ?_; intro σ s0
  refine W.seq ?_
  refine W.region ?_
  refine WL.x (X.asg lc) rfl ?_
  refine WL.e1 Nx.thn 0 (lt rfl (s0)) ?_
  intro σ1 s0
  refine W.seq ?_
  refine W.seq ?_
  refine W.region ?_
  refine WL.x (X.mv (s0)) rfl ?_
  refine WL.x (X.lss (lh) lc) rfl ?_
  refine WL.x (X.mv (lh)) rfl ?_
  refine WL.splitp (lh) (fun hb1 => ?_) (fun hb1 => ?_)
  · refine WL.no rfl rfl (lh) (decide_eq_true hb1) rfl ?_
    refine WL.no rfl rfl (lt rfl (lh)) (decide_eq_true hb1) rfl ?_
    refine WL.x (X.pickT (lt rfl (lt rfl (lh))) (decide_eq_true hb1) lc) rfl ?_
    refine WL.e2 Nx.thn 0 8 (lt rfl (lt rfl (lt rfl (lt rfl (lt rfl (lt rfl (s0))))))) (lh) ?_
    intro σ2 s0 s8
    refine W.cndT s8 ?_
    refine W.seq ?_
    refine W.region ?_
    refine WL.x (X.asg lc) rfl ?_
    refine WL.e1 Nx.thn 2 (lh) ?_
    intro σ3 s2
    refine W.ret1 (Nx.rthn Nx.f1) s2 ?_
    exact ⟨by unfold nameOf; rw [if_neg (by omega)], Ch.refl _ _⟩
  · refine WL.yes rfl rfl (lh) (decide_eq_false hb1) ?_
    refine WL.x (X.mv (lt rfl (lt rfl (lt rfl (s0))))) rfl ?_
    refine WL.yes rfl rfl (lt rfl (lh)) (decide_eq_false hb1) ?_
    refine WL.x (X.gtr (lh) lc) rfl ?_
    refine WL.x (X.pickF (lt rfl (lt rfl (lh))) (decide_eq_false hb1) (lh)) rfl ?_
    refine WL.e2 Nx.thn 0 8 (lt rfl (lt rfl (lt rfl (lt rfl (lt rfl (lt rfl (s0))))))) (lh) ?_
    intro σ4 s0 s8
    refine W.cndp s8 (fun hc2 => ?_) (fun hc2 => ?_)
    · refine W.seq ?_
      refine W.region ?_
      refine WL.x (X.asg lc) rfl ?_
      refine WL.e1 Nx.thn 2 (lh) ?_
      intro σ5 s2
      refine W.ret1 (Nx.rthn Nx.f1) s2 ?_
      exact ⟨by unfold nameOf; rw [if_neg (by omega)], Ch.refl _ _⟩
    · refine W.skip Nx.thn ?_
      refine W.seq ?_
      refine W.region ?_
      refine WL.call0 ce13  (refnames_ok _) rfl ?_
      rintro _ w1 ⟨b, rfl, hnb, c1⟩
      refine WL.x (X.mv (lt rfl (s0))) rfl ?_
      refine WL.x (X.indexAddr Try.underlying32 el9 (lt rfl (lh)) (lh) (by omega) (by omega)) rfl ?_
      refine WL.x (X.load pl9 (lh) hnb (v := .string (nm a.toNat)) (by rw [show 0 + a.toNat * 1 = a.toNat by omega]; exact nmA_get _ (by omega))) rfl ?_
      refine WL.x (X.asg (lh)) rfl ?_
      refine WL.e1 Nx.thn 2 (lh) ?_
      intro σ6 s2
      refine W.ret1 Nx.f1 s2 ?_
      exact ⟨by unfold nameOf; rw [if_pos (by omega)], c1⟩
theorem lawnames_ok (a : Int) (s : ByteArray) (w : World) :
    Sg.Ret Try.prog 4 #[.int .i64 a, .string s] w fun v w' => v = .bool true ∧ Ch0 w w' := by
  refine enter1 (n := 59) (l := [.int .i64 a, .string s]) Try.func4 rfl rfl rfl rfl ?_
  refine W.g2 0 1 (v1 := .int .i64 a) (v2 := .string s) rfl rfl ?_; intro σ s0 s1
  refine W.seq ?_
  refine W.region ?_
  refine WL.x (X.asg lc) rfl ?_
  refine WL.e2 Nx.thn 0 1 (lt rfl (s0)) (lt rfl (s1)) ?_
  intro σ1 s0 s1
  refine W.seq ?_
  refine W.region ?_
  refine WL.x (X.mv (s1)) rfl ?_
  refine WL.call1 ce7 (lh) (of_ok _ _) rfl ?_
  rintro _ w1 ⟨x1, b1, rfl, ho1, hp1⟩
  refine WL.x (X.mv (lh)) rfl ?_
  refine WL.x (X.ex2_0 (lh)) rfl ?_
  refine WL.x (X.ex2_1 (lt rfl (lh))) rfl ?_
  refine WL.x (X.asg (lt rfl (lh))) rfl ?_
  refine WL.x (X.asg (lt rfl (lh))) rfl ?_
  refine WL.e4 Nx.thn 0 1 5 6 (lt rfl (lt rfl (lt rfl (lt rfl (lt rfl (lt rfl (lt rfl (s0)))))))) (lt rfl (lt rfl (lt rfl (lt rfl (lt rfl (lt rfl (lt rfl (s1)))))))) (lt rfl (lh)) (lh) ?_
  intro σ2 s0 s1 s5 s6
  refine W.seq ?_
  refine W.region ?_
  refine WL.x (X.mv (s1)) rfl ?_
  refine WL.call1 ce8 (lh) (refof_ok _ _) rfl ?_
  rintro _ w2 ⟨x2, b2, rfl, ho2, hp2⟩
  refine WL.x (X.mv (lh)) rfl ?_
  refine WL.x (X.ex2_0 (lh)) rfl ?_
  refine WL.x (X.ex2_1 (lt rfl (lh))) rfl ?_
  refine WL.x (X.asg (lt rfl (lh))) rfl ?_
  refine WL.x (X.asg (lt rfl (lh))) rfl ?_
  refine WL.e5 Nx.thn 0 5 6 7 8 (lt rfl (lt rfl (lt rfl (lt rfl (lt rfl (lt rfl (lt rfl (s0)))))))) (lt rfl (lt rfl (lt rfl (lt rfl (lt rfl (lt rfl (lt rfl (s5)))))))) (lt rfl (lt rfl (lt rfl (lt rfl (lt rfl (lt rfl (lt rfl (s6)))))))) (lt rfl (lh)) (lh) ?_
  intro σ3 s0 s5 s6 s7 s8
  refine W.seq ?_
  refine W.seq ?_
  refine W.region ?_
  refine WL.x (X.mv (s5)) rfl ?_
  refine WL.x (X.mv (lt rfl (s7))) rfl ?_
  refine WL.x (X.neq (lt rfl (lh)) (lh)) rfl ?_
  refine WL.x (X.mv (lh)) rfl ?_
  refine WL.yes rfl rfl (lh) (decide_eq_false (fun h => h (ho1.same ho2).1)) ?_
  refine WL.x (X.mv (lt rfl (lt rfl (lt rfl (lt rfl (s6)))))) rfl ?_
  refine WL.yes rfl rfl (lt rfl (lh)) (decide_eq_false (fun h => h (ho1.same ho2).1)) ?_
  refine WL.x (X.mv (lt rfl (lt rfl (lt rfl (lt rfl (lt rfl (s8))))))) rfl ?_
  refine WL.yes rfl rfl (lt rfl (lt rfl (lh))) (decide_eq_false (fun h => h (ho1.same ho2).1)) ?_
  refine WL.x (X.neqB Try.underlying4 (lt rfl (lh)) (lh)) rfl ?_
  refine WL.x (X.pickF (lt rfl (lt rfl (lt rfl (lh)))) (decide_eq_false (fun h => h (ho1.same ho2).1)) (lh)) rfl ?_
  refine WL.x (X.mv (lh)) rfl ?_
  refine WL.yes rfl rfl (lh) (decide_eq_false (fun h => h (ho1.same ho2).2)) ?_
  refine WL.x (X.mv (lt rfl (lt rfl (lt rfl (lt rfl (lt rfl (lt rfl (lt rfl (lt rfl (lt rfl (s0))))))))))) rfl ?_
  refine WL.yes rfl rfl (lt rfl (lh)) (decide_eq_false (fun h => h (ho1.same ho2).2)) ?_
  refine WL.call1 ce9 (lh) (name_ok _ _) rfl ?_
  rintro _ w3 ⟨rfl, hp3⟩
  refine WL.yes rfl rfl (lt rfl (lt rfl (lh))) (decide_eq_false (fun h => h (ho1.same ho2).2)) ?_
  refine WL.x (X.mv (lt rfl (lt rfl (lt rfl (lt rfl (lt rfl (lt rfl (lt rfl (lt rfl (lt rfl (lt rfl (lt rfl (s0))))))))))))) rfl ?_
  refine WL.yes rfl rfl (lt rfl (lt rfl (lt rfl (lh)))) (decide_eq_false (fun h => h (ho1.same ho2).2)) ?_
  refine WL.call1 ce10 (lh) (refname_ok _ _) rfl ?_
  rintro _ w4 ⟨rfl, hp4⟩
  refine WL.yes rfl rfl (lt rfl (lt rfl (lt rfl (lt rfl (lh))))) (decide_eq_false (fun h => h (ho1.same ho2).2)) ?_
  refine WL.x (X.neqS (lt rfl (lt rfl (lh))) (lh)) rfl ?_
  refine WL.x (X.pickF (lt rfl (lt rfl (lt rfl (lt rfl (lt rfl (lh)))))) (decide_eq_false (fun h => h (ho1.same ho2).2)) (lh)) rfl ?_
  refine WL.e1 Nx.thn 36 (lh) ?_
  intro σ4 s36
  refine W.cndN s36 (fun h => h rfl) ?_
  refine W.skip Nx.thn ?_
  refine W.seq ?_
  refine W.seq ?_
  refine W.region ?_
  refine WL.x (X.mv lc) rfl ?_
  refine WL.e1 Nx.thn 37 (lh) ?_
  intro σ5 s37
  refine W.block ?_
  -- loop 0: kept [], varied [37]
  refine W.loop (G := Nat) (fun k σ' w' => (True) ∧ (σ' 37 = .int .i64 (k : Int) ∧ k ≤ 6 ∧ Ch0 w4 w')) (fun k => 6 - k) (0) ⟨trivial, s37, by omega, Ch.refl _ _⟩ ?_
  rintro k σ6 w5 ⟨⟨_⟩, s37, hk, hcl⟩
  refine W.seq ?_
  refine W.region ?_
  refine WL.x (X.lss (s37) lc) rfl ?_
  refine WL.e2 Nx.thn 37 38 (lt rfl (s37)) (lh) ?_
  intro σ7 s37 s38
  refine W.seq ?_
  refine W.cndp s38 (fun hlt => ?_) (fun hlt => ?_)
  · refine W.skip Nx.thn ?_
    refine W.seq ?_
    refine W.block ?_
    refine W.seq ?_
    refine W.region ?_
    refine WL.x (X.mv (s37)) rfl ?_
    refine WL.x (X.asg (lh)) rfl ?_
    refine WL.e2 Nx.thn 9 37 (lh) (lt rfl (lt rfl (s37))) ?_
    intro σ8 s9 s37
    refine W.seq ?_
    refine W.region ?_
    refine WL.x (X.mv (s9)) rfl ?_
    refine WL.call1 ce9 (lh) (name_ok _ _) rfl ?_
    rintro _ w6 ⟨rfl, hq1⟩
    refine WL.call1 ce7 (lh) (of_ok _ _) rfl ?_
    rintro _ w7 ⟨x3, b3, rfl, ho3, hq2⟩
    refine WL.x (X.mv (lh)) rfl ?_
    refine WL.x (X.ex2_0 (lh)) rfl ?_
    refine WL.x (X.ex2_1 (lt rfl (lh))) rfl ?_
    refine WL.x (X.asg (lt rfl (lh))) rfl ?_
    refine WL.x (X.asg (lt rfl (lh))) rfl ?_
    refine WL.e4 Nx.thn 9 10 11 37 (lt rfl (lt rfl (lt rfl (lt rfl (lt rfl (lt rfl (lt rfl (lt rfl (s9))))))))) (lt rfl (lh)) (lh) (lt rfl (lt rfl (lt rfl (lt rfl (lt rfl (lt rfl (lt rfl (lt rfl (s37))))))))) ?_
    intro σ9 s9 s10 s11 s37
    refine W.seq ?_
    refine W.region ?_
    refine WL.x (X.mv (s11)) rfl ?_
    refine WL.x (X.not (lh)) rfl ?_
    refine WL.x (X.mv (lh)) rfl ?_
    refine WL.yes rfl rfl (lh) (by obtain ⟨h1, h2⟩ := ho3.name k (by omega); subst h2; rfl) ?_
    refine WL.x (X.mv (lt rfl (lt rfl (lt rfl (s10))))) rfl ?_
    refine WL.yes rfl rfl (lt rfl (lh)) (by obtain ⟨h1, h2⟩ := ho3.name k (by omega); subst h2; rfl) ?_
    refine WL.x (X.mv (lt rfl (lt rfl (lt rfl (lt rfl (s9)))))) rfl ?_
    refine WL.yes rfl rfl (lt rfl (lt rfl (lh))) (by obtain ⟨h1, h2⟩ := ho3.name k (by omega); subst h2; rfl) ?_
    refine WL.x (X.neq (lt rfl (lh)) (lh)) rfl ?_
    refine WL.x (X.pickF (lt rfl (lt rfl (lt rfl (lh)))) (by obtain ⟨h1, h2⟩ := ho3.name k (by omega); subst h2; rfl) (lh)) rfl ?_
    refine WL.x (X.mv (lh)) rfl ?_
    refine WL.yes rfl rfl (lh) (decide_eq_false (fun h => h (ho3.name k (by omega)).1)) ?_
    refine WL.x (X.mv (lt rfl (lt rfl (lt rfl (lt rfl (lt rfl (lt rfl (lt rfl (lt rfl (s9)))))))))) rfl ?_
    refine WL.yes rfl rfl (lt rfl (lh)) (decide_eq_false (fun h => h (ho3.name k (by omega)).1)) ?_
    refine WL.call1 ce9 (lh) (name_ok _ _) rfl ?_
    rintro _ w8 ⟨rfl, hq3⟩
    refine WL.yes rfl rfl (lt rfl (lt rfl (lh))) (decide_eq_false (fun h => h (ho3.name k (by omega)).1)) ?_
    refine WL.x (X.eqlS (lh) lc) rfl ?_
    refine WL.x (X.pickF (lt rfl (lt rfl (lt rfl (lh)))) (decide_eq_false (fun h => h (ho3.name k (by omega)).1)) (lh)) rfl ?_
    refine WL.e2 Nx.thn 37 57 (lt rfl (lt rfl (lt rfl (lt rfl (lt rfl (lt rfl (lt rfl (lt rfl (lt rfl (lt rfl (lt rfl (lt rfl (s37))))))))))))) (lh) ?_
    intro σ10 s37 s57
    refine W.cndN s57 (by rw [nameOf_nat k (by omega)]; exact nm_ne k (by omega)) ?_
    refine W.skip (Nx.blk Nx.thn) ?_
    refine W.region ?_
    first | refine WL.x (X.add (s37) lc (by omega) (by omega)) rfl ?_ | refine WL.x (X.addw (s37) lc) rfl ?_
    refine WL.x (X.mv (lh)) rfl ?_
    refine WL.e1 Nx.thn 37 (lh) ?_
    intro σ11 s37
    refine ⟨k + 1, by omega, trivial, s37, by omega, hcl.trans0 (hq1.trans0 (hq2.trans0 hq3))⟩
  · refine W.exit (Nx.xthn (Nx.xthn (Nx.xblk Nx.thn))) ?_
    refine W.seq ?_
    refine W.region ?_
    refine WL.x (X.asg lc) rfl ?_
    refine WL.e1 Nx.thn 4 (lh) ?_
    intro σ12 s4
    refine W.ret1 Nx.f1 s4 ?_
    exact ⟨rfl, hp1.trans0 (hp2.trans0 (hp3.trans0 (hp4.trans0 hcl)))⟩
end Go.Proofs.Ytpbonakffabppaa
