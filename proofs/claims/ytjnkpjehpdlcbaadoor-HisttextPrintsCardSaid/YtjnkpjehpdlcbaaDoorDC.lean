/-
  A part of the walk of the program.
-/
import Derived.Test.YtjnkpjehpdlcbaaDoorK
import Derived.Test.YtjnkpjehpdlcbaaDoorNumer
import Derived.Lib.ItoaLen
import Derived.Lib.ItoaMem
set_option linter.unusedVariables false
set_option linter.unusedSimpArgs false
set_option maxRecDepth 100000
namespace Go.Proofs.YtjnkpjehpdlcbaaDoor
open Go Go.RowKit Sg

theorem dd_len {u : Nat} (h : u ≤ 9223372036854775808) : (Lib.decDigits u).length ≤ 21 := by
  by_cases h0 : u = 0
  · subst h0; rw [dd_zero]; decide
  · have := Lib.itoa_length_le (-(u : Int)) (by omega) (by omega)
    rw [Lib.itoa_neg u (by omega), List.length_cons] at this
    omega
theorem itoa_len {n : Int} (h1 : -9223372036854775808 ≤ n) (h2 : n ≤ 9223372036854775807) : (Lib.itoa n).length ≤ 21 := Lib.itoa_length_le n h1 h2
/-- What is left of the number, and what is written of it. -/
def DD (u m : Nat) (r : Bs) : Prop := (r = [] ∧ m = u) ∨ (r ≠ [] ∧ Lib.decDigits u = (if m = 0 then [] else Lib.decDigits m) ++ r)
theorem DD.len {u m : Nat} {r : Bs} (h : DD u m r) (hu : u ≤ 9223372036854775808) : r.length ≤ 21 ∧ m ≤ u ∨ r.length ≤ 21 := by
  rcases h with ⟨rfl, _⟩ | ⟨_, h⟩
  · exact .inr (by simp)
  · have h1 := dd_len hu
    rw [h, List.length_append] at h1
    exact .inr (by omega)
theorem DD.next {u m : Nat} {r : Bs} (h : DD u m r) (hm : m ≠ 0 ∨ r = []) : DD u (m / 10) (UInt8.ofNat (48 + m % 10) :: r) := by
  refine .inr ⟨by simp, ?_⟩
  have key : Lib.decDigits m = (if m / 10 = 0 then [] else Lib.decDigits (m / 10)) ++ [UInt8.ofNat (48 + m % 10)] := by
    by_cases h10 : m < 10
    · rw [if_pos (by omega), dd_small h10, Nat.mod_eq_of_lt h10]; rfl
    · rw [if_neg (by omega), dd_big h10]
  rcases h with ⟨rfl, rfl⟩ | ⟨h1, h2⟩
  · exact key
  · have hm' : m ≠ 0 := hm.resolve_right h1
    rw [h2, if_neg hm', key, List.append_assoc]; rfl
theorem DD.fin {u : Nat} {r : Bs} (h : DD u 0 r) (hr : r ≠ []) : r = Lib.decDigits u := by
  rcases h with ⟨h1, _⟩ | ⟨_, h2⟩
  · exact absurd h1 hr
  · rw [h2, if_pos rfl]; rfl

set_option maxHeartbeats 800000 in
theorem digits_ok (u : Nat) (w : World) (hu : u ≤ 9223372036854775808) :
    Sg.Ret Tryd.prog 57 #[.int .i64 (-(u : Int))] w fun v w' => v = .string (bs (Lib.decDigits u)) ∧ Ch0 w w' := by
  refine enter1 (n := 21) (l := [.int .i64 (-(u : Int))]) Tryd.func57 rfl rfl rfl rfl ?_
  refine W.g1 0 (v1 := .int .i64 (-(u : Int))) rfl ?_; intro σ s0
  refine W.seq ?_
  refine W.region ?_
  refine WL.x (X.asg lc) rfl ?_
  refine WL.e1 Nx.thn 0 (lt rfl (s0)) ?_
  intro σ1 s0
  refine W.seq ?_
  refine W.region ?_
  refine WL.x (X.asg lc) rfl ?_
  refine WL.e2 Nx.thn 0 3 (lt rfl (s0)) (lh) ?_
  intro σ2 s0 s3
  refine W.seq ?_
  refine W.block ?_
  -- loop 0: kept [], varied [0, 3]
  refine W.loop (G := Nat × Bs) (fun (m, r) σ' w' => (True) ∧ (σ' 0 = .int .i64 (-(m : Int)) ∧ σ' 3 = .string (bs r) ∧ DD u m r ∧ m ≤ u ∧ Ch0 w w')) (fun (m, r) => m + (if r = [] then 1 else 0)) ((u, [])) ⟨trivial, s0, s3, .inl ⟨rfl, rfl⟩, Nat.le_refl _, Ch.refl _ _⟩ ?_
  rintro ⟨m, r⟩ σ3 w1 ⟨⟨_⟩, s0, s3, hdd, hmu, hcl⟩
  have hrl : r.length ≤ 21 := by rcases hdd.len hu with h | h; (· exact h.1); (· exact h)
  refine W.seq ?_
  refine W.seq ?_
  refine W.region ?_
  refine WL.x (X.mv (s0)) rfl ?_
  refine WL.x (X.lss (lh) lc) rfl ?_
  refine WL.x (X.mv (lh)) rfl ?_
  refine WL.splitp (lh) (fun h0 => ?_) (fun h0 => ?_)
  · refine WL.no rfl rfl (lh) (decide_eq_true h0) rfl ?_
    refine WL.no rfl rfl (lt rfl (lh)) (decide_eq_true h0) rfl ?_
    refine WL.x (X.pickT (lt rfl (lt rfl (lh))) (decide_eq_true h0) lc) rfl ?_
    refine WL.e3 Nx.thn 0 3 9 (lt rfl (lt rfl (lt rfl (lt rfl (lt rfl (lt rfl (s0))))))) (lt rfl (lt rfl (lt rfl (lt rfl (lt rfl (lt rfl (s3))))))) (lh) ?_
    intro σ4 s0 s3 s9
    refine W.cndT s9 ?_
    refine W.skip Nx.thn ?_
    refine W.block ?_
    refine W.seq ?_
    refine W.region ?_
    refine WL.x (X.mv (s0)) rfl ?_
    refine WL.x (X.neg_rem (lh) lc) rfl ?_
    first | refine WL.x (X.sub lc (lh) (by omega) (by omega)) rfl ?_ | refine WL.x (X.subw lc (lh)) rfl ?_
    first | refine WL.x (X.convi Tryd.underlying3 Tryd.underlying5 (lh) (wrap_u8_in (by omega) (by omega))) rfl ?_ | refine WL.x (X.conv Tryd.underlying3 Tryd.underlying5 (lh)) rfl ?_
    refine WL.bslice Tryd.underlying54 el5 rfl (pcons (lh) pnil) rfl (rfl : _ = [_]) rfl ?_
    intro w2 u3_4; have hu3_4 := u3_4.at_; have cu3_4 := u3_4.ch; have zu3_4 := u3_4.size
    refine WL.x (v := .string (bs [UInt8.ofNat (48 + m % 10)])) (by rw [show 48 + m % 10 = (48 - -((m % 10 : Nat) : Int)).toNat by omega]; exact X.b2s1 Tryd.underlying54 Tryd.underlying5 Tryd.underlying9 (lh) hu3_4) rfl ?_
    refine WL.x (X.mv (lt rfl (lt rfl (lt rfl (lt rfl (lt rfl (lt rfl (s3)))))))) rfl ?_
    refine WL.x (v := .string (bs (UInt8.ofNat (48 + m % 10) :: r))) (by rw [show bs (UInt8.ofNat (48 + m % 10) :: r) = bs [UInt8.ofNat (48 + m % 10)] ++ bs r by rw [app_bs]; rfl]; exact X.addS (lt rfl (lh)) (lh) (by rw [size_bs, size_bs]; simp only [List.length_cons, List.length_nil]; omega)) rfl ?_
    refine WL.x (X.asg (lh)) rfl ?_
    refine WL.e2 Nx.thn 0 3 (lt rfl (lt rfl (lt rfl (lt rfl (lt rfl (lt rfl (lt rfl (lt rfl (lt rfl (s0)))))))))) (lh) ?_
    intro σ5 s0 s3
    refine W.region ?_
    refine WL.x (X.mv (s0)) rfl ?_
    refine WL.x (X.neg_quo (lh) lc (by omega)) rfl ?_
    refine WL.x (X.asg (lh)) rfl ?_
    refine WL.e2 (Nx.blk Nx.thn) 0 3 (lh) (lt rfl (lt rfl (lt rfl (s3)))) ?_
    intro σ6 s0 s3
    have hmr : m ≠ 0 ∨ r = [] := by first | exact .inl (by omega) | exact .inr (bs_inj hs)
    refine ⟨(m / 10, UInt8.ofNat (48 + m % 10) :: r), by (try dsimp only); rw [if_neg (by simp)]; rcases hmr with e | e; (· omega); (· rw [if_pos e]; omega), trivial, s0, s3, hdd.next hmr, by omega, hcl.trans0 cu3_4⟩
  · refine WL.yes rfl rfl (lh) (decide_eq_false h0) ?_
    refine WL.x (X.mv (lt rfl (lt rfl (lt rfl (s3))))) rfl ?_
    refine WL.yes rfl rfl (lt rfl (lh)) (decide_eq_false h0) ?_
    refine WL.x (X.eqlS (lh) lc) rfl ?_
    refine WL.x (X.pickF (lt rfl (lt rfl (lh))) (decide_eq_false h0) (lh)) rfl ?_
    refine WL.e3 Nx.thn 0 3 9 (lt rfl (lt rfl (lt rfl (lt rfl (lt rfl (lt rfl (s0))))))) (lt rfl (lt rfl (lt rfl (lt rfl (lt rfl (lt rfl (s3))))))) (lh) ?_
    intro σ7 s0 s3 s9
    refine W.cndp s9 (fun hs => ?_) (fun hs => ?_)
    · refine W.skip Nx.thn ?_
      refine W.block ?_
      refine W.seq ?_
      refine W.region ?_
      refine WL.x (X.mv (s0)) rfl ?_
      refine WL.x (X.neg_rem (lh) lc) rfl ?_
      first | refine WL.x (X.sub lc (lh) (by omega) (by omega)) rfl ?_ | refine WL.x (X.subw lc (lh)) rfl ?_
      first | refine WL.x (X.convi Tryd.underlying3 Tryd.underlying5 (lh) (wrap_u8_in (by omega) (by omega))) rfl ?_ | refine WL.x (X.conv Tryd.underlying3 Tryd.underlying5 (lh)) rfl ?_
      refine WL.bslice Tryd.underlying54 el5 rfl (pcons (lh) pnil) rfl (rfl : _ = [_]) rfl ?_
      intro w3 u3_4; have hu3_4 := u3_4.at_; have cu3_4 := u3_4.ch; have zu3_4 := u3_4.size
      refine WL.x (v := .string (bs [UInt8.ofNat (48 + m % 10)])) (by rw [show 48 + m % 10 = (48 - -((m % 10 : Nat) : Int)).toNat by omega]; exact X.b2s1 Tryd.underlying54 Tryd.underlying5 Tryd.underlying9 (lh) hu3_4) rfl ?_
      refine WL.x (X.mv (lt rfl (lt rfl (lt rfl (lt rfl (lt rfl (lt rfl (s3)))))))) rfl ?_
      refine WL.x (v := .string (bs (UInt8.ofNat (48 + m % 10) :: r))) (by rw [show bs (UInt8.ofNat (48 + m % 10) :: r) = bs [UInt8.ofNat (48 + m % 10)] ++ bs r by rw [app_bs]; rfl]; exact X.addS (lt rfl (lh)) (lh) (by rw [size_bs, size_bs]; simp only [List.length_cons, List.length_nil]; omega)) rfl ?_
      refine WL.x (X.asg (lh)) rfl ?_
      refine WL.e2 Nx.thn 0 3 (lt rfl (lt rfl (lt rfl (lt rfl (lt rfl (lt rfl (lt rfl (lt rfl (lt rfl (s0)))))))))) (lh) ?_
      intro σ8 s0 s3
      refine W.region ?_
      refine WL.x (X.mv (s0)) rfl ?_
      refine WL.x (X.neg_quo (lh) lc (by omega)) rfl ?_
      refine WL.x (X.asg (lh)) rfl ?_
      refine WL.e2 (Nx.blk Nx.thn) 0 3 (lh) (lt rfl (lt rfl (lt rfl (s3)))) ?_
      intro σ9 s0 s3
      have hmr : m ≠ 0 ∨ r = [] := by first | exact .inl (by omega) | exact .inr (bs_inj hs)
      refine ⟨(m / 10, UInt8.ofNat (48 + m % 10) :: r), by (try dsimp only); rw [if_neg (by simp)]; rcases hmr with e | e; (· omega); (· rw [if_pos e]; omega), trivial, s0, s3, hdd.next hmr, by omega, hcl.trans0 cu3_4⟩
    · refine W.exit (Nx.xthn (Nx.xthn (Nx.xblk Nx.thn))) ?_
      refine W.seq ?_
      refine W.region ?_
      refine WL.x (X.mv (s3)) rfl ?_
      refine WL.x (X.asg (lh)) rfl ?_
      refine WL.e1 Nx.thn 2 (lh) ?_
      intro σ10 s2
      refine W.ret1 Nx.f1 s2 ?_
      have hm0 : m = 0 := by omega
      subst hm0
      rw [← hdd.fin (fun e => hs (by rw [e]; rfl))]
      exact ⟨rfl, hcl⟩
theorem decimal_ok (n : Int) (w : World) (h1 : -9223372036854775808 ≤ n) (h2 : n ≤ 9223372036854775807) :
    Sg.Ret Tryd.prog 31 #[.int .i64 n] w fun v w' => v = .string (bs (Lib.itoa n)) ∧ Ch0 w w' := by
  refine enter1 (n := 11) (l := [.int .i64 n]) Tryd.func31 rfl rfl rfl rfl ?_
  refine W.g1 0 (v1 := .int .i64 n) rfl ?_; intro σ s0
  refine W.seq ?_
  refine W.region ?_
  refine WL.x (X.asg lc) rfl ?_
  refine WL.e1 Nx.thn 0 (lt rfl (s0)) ?_
  intro σ1 s0
  refine W.seq ?_
  refine W.seq ?_
  refine W.region ?_
  refine WL.x (X.mv (s0)) rfl ?_
  refine WL.x (X.geq (lh) lc) rfl ?_
  refine WL.e2 Nx.thn 0 4 (lt rfl (lt rfl (s0))) (lh) ?_
  intro σ2 s0 s4
  refine W.cndp s4 (fun hn => ?_) (fun hn => ?_)
  · refine W.seq ?_
    refine W.region ?_
    refine WL.x (X.mv (s0)) rfl ?_
    refine WL.x (v := .int .i64 (-(n.toNat : Int))) (by rw [show (n.toNat : Int) = n by omega]; exact X.neg (lh) (by omega) (by omega)) rfl ?_
    refine WL.call1 ce57 (lh) (digits_ok n.toNat w (by omega)) rfl ?_
    rintro _ w1 ⟨rfl, c1⟩
    refine WL.x (X.asg (lh)) rfl ?_
    refine WL.e1 Nx.thn 2 (lh) ?_
    intro σ3 s2
    refine W.ret1 (Nx.rthn Nx.f1) s2 ?_
    exact ⟨by unfold Lib.itoa; rw [if_neg (by omega)], c1⟩
  · refine W.skip Nx.thn ?_
    refine W.seq ?_
    refine W.region ?_
    refine WL.x (v := .int .i64 (-(n.natAbs : Int))) (by rw [show (-(n.natAbs : Int)) = n by omega]; exact X.mv s0) rfl ?_
    refine WL.call1 ce57 (lh) (digits_ok n.natAbs w (by omega)) rfl ?_
    rintro _ w2 ⟨rfl, c1⟩
    refine WL.x (v := .string (bs (45 :: Lib.decDigits n.natAbs))) (by rw [show bs (45 :: Lib.decDigits n.natAbs) = bs [45] ++ bs (Lib.decDigits n.natAbs) by rw [app_bs]; rfl]; exact X.addS lc (lh) (by rw [size_bs, size_bs]; have := dd_len (u := n.natAbs) (by omega); simp only [List.length_cons, List.length_nil]; omega)) rfl ?_
    refine WL.x (X.asg (lh)) rfl ?_
    refine WL.e1 Nx.thn 2 (lh) ?_
    intro σ4 s2
    refine W.ret1 Nx.f1 s2 ?_
    exact ⟨by unfold Lib.itoa; rw [if_pos (by omega)], c1⟩
end Go.Proofs.YtjnkpjehpdlcbaaDoor
