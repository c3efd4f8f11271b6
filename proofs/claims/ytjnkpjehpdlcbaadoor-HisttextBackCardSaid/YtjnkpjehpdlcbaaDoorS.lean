/-
  A part of the walk of the program.
-/
import Derived.Test.YtjnkpjehpdlcbaaDoorO
import Derived.Test.YtjnkpjehpdlcbaaDoorNumer
import Derived.Lib.ItoaLen
import Derived.Lib.ItoaMem
set_option linter.unusedVariables false
set_option linter.unusedSimpArgs false
set_option maxRecDepth 100000
namespace Go.Proofs.YtjnkpjehpdlcbaaDoor
open Go Go.RowKit Sg

theorem dd_len {u : Nat} (h : u ≤ 9223372036854775808) : (Lib.decDigits u).length ≤ 21 := by
  by_cases h0 : u = 0
  · subst h0; rw [dd_zero]; decide
  · have := Lib.itoa_length_le (-(u : Int)) (by omega) (by omega)
    rw [Lib.itoa_neg u (by omega), List.length_cons] at this
    omega
theorem itoa_len {n : Int} (h1 : -9223372036854775808 ≤ n) (h2 : n ≤ 9223372036854775807) : (Lib.itoa n).length ≤ 21 := Lib.itoa_length_le n h1 h2
/-- What is left of the number, and what is written of it. -/
def DD (u m : Nat) (r : Bs) : Prop := (r = [] ∧ m = u) ∨ (r ≠ [] ∧ Lib.decDigits u = (if m = 0 then [] else Lib.decDigits m) ++ r)
theorem DD.len {u m : Nat} {r : Bs} (h : DD u m r) (hu : u ≤ 9223372036854775808) : r.length ≤ 21 ∧ m ≤ u ∨ r.length ≤ 21 := by
  rcases h with ⟨rfl, _⟩ | ⟨_, h⟩
  · exact .inr (by simp)
  · have h1 := dd_len hu
    rw [h, List.length_append] at h1
    exact .inr (by omega)
theorem DD.next {u m : Nat} {r : Bs} (h : DD u m r) (hm : m ≠ 0 ∨ r = []) : DD u (m / 10) (UInt8.ofNat (48 + m % 10) :: r) := by
  refine .inr ⟨by simp, ?_⟩
  have key : Lib.decDigits m = (if m / 10 = 0 then [] else Lib.decDigits (m / 10)) ++ [UInt8.ofNat (48 + m % 10)] := by
    by_cases h10 : m < 10
    · rw [if_pos (by omega), dd_small h10, Nat.mod_eq_of_lt h10]; rfl
    · rw [if_neg (by omega), dd_big h10]
  rcases h with ⟨rfl, rfl⟩ | ⟨h1, h2⟩
  · exact key
  · have hm' : m ≠ 0 := hm.resolve_right h1
    rw [h2, if_neg hm', key, List.append_assoc]; rfl
theorem DD.fin {u : Nat} {r : Bs} (h : DD u 0 r) (hr : r ≠ []) : r = Lib.decDigits u := by
  rcases h with ⟨h1, _⟩ | ⟨_, h2⟩
  · exact absurd h1 hr
  · rw [h2, if_pos rfl]; rfl

set_option maxHeartbeats 800000 in
theorem digits_ok (u : Nat) (w : World) (hu : u ≤ 9223372036854775808) :
    Sg.Ret Tryd.prog 57 #[.int .i64 (-(u : Int))] w fun v w' => v = .string (bs (Lib.decDigits u)) ∧ Ch0 w w' := by
  refine enter1 (n := 21) (l := [.int .i64 (-(u : Int))]) Tryd.func57 rfl rfl rfl rfl ?_
  refine W.g1 0 (v1 := .int .i64 (-(u : Int))) rfl ?_; intro σ s0
  refine W.seq ?_
  refine W.region ?_
  refine WL.x (X.asg lc) rfl ?_
  refine WL.e1 Nx.thn 0 (lt rfl (s0)) ?_
  intro σ1 s0
  refine W.seq ?_
  refine W.region ?_
  refine WL.x (X.asg lc) rfl ?_
  refine WL.e2 Nx.thn 0 3 (lt rfl (s0)) (lh) ?_
  intro σ2 s0 s3
  refine W.seq ?_
  refine W.block ?_
  -- loop 0: kept [], varied [0, 3]
  refine W.loop (G := Nat × Bs) (fun (m, r) σ' w' => (True) ∧ (σ' 0 = .int .i64 (-(m : Int)) ∧ σ' 3 = .string (bs r) ∧ DD u m r ∧ m ≤ u ∧ Ch0 w w')) (fun (m, r) => m + (if r = [] then 1 else 0)) ((u, [])) ⟨trivial, s0, s3, .inl ⟨rfl, rfl⟩, Nat.le_refl _, Ch.refl _ _⟩ ?_
  rintro ⟨m, r⟩ σ3 w1 ⟨⟨_⟩, s0, s3, hdd, hmu, hcl⟩
  have hrl : r.length ≤ 21 := by rcases hdd.len hu with h | h; (· exact h.1); (· exact h)
  refine W.seq ?_
  refine W.seq ?_
  refine W.region ?_
  refine WL.x (X.mv (s0)) rfl ?_
  refine WL.x (X.lss (lh) lc) rfl ?_
  refine WL.x (X.mv (lh)) rfl ?_
  refine WL.splitp (lh) (fun h0 => ?_) (fun h0 => ?_)
  · refine WL.no rfl rfl (lh) (decide_eq_true h0) rfl ?_
    refine WL.no rfl rfl (lt rfl (lh)) (decide_eq_true h0) rfl ?_
    refine WL.x (X.pickT (jt2 rfl (lh)) (decide_eq_true h0) lc) rfl ?_
    refine WL.e3 Nx.thn 0 3 9 (jt4 rfl (jt2 rfl (s0))) (jt4 rfl (jt2 rfl (s3))) (lh) ?_
    intro σ4 s0 s3 s9
    refine W.cndT s9 ?_
    refine W.skip Nx.thn ?_
    refine W.block ?_
    refine W.seq ?_
    refine W.region ?_
    refine WL.x (X.mv (s0)) rfl ?_
    refine WL.x (X.neg_rem (lh) lc) rfl ?_
    first | refine WL.x (X.sub lc (lh) (by omega) (by omega)) rfl ?_ | refine WL.x (X.subw lc (lh)) rfl ?_
    first | refine WL.x (X.convi Tryd.underlying3 Tryd.underlying5 (lh) (wrap_u8_in (by omega) (by omega))) rfl ?_ | refine WL.x (X.conv Tryd.underlying3 Tryd.underlying5 (lh)) rfl ?_
    refine WL.bslice Tryd.underlying54 el5 rfl (pcons (lh) pnil) rfl (rfl : _ = [_]) rfl ?_
    intro w2 u3_4; have hu3_4 := u3_4.at_; have cu3_4 := u3_4.ch; have zu3_4 := u3_4.size
    refine WL.x (v := .string (bs [UInt8.ofNat (48 + m % 10)])) (by rw [show 48 + m % 10 = (48 - -((m % 10 : Nat) : Int)).toNat by omega]; exact X.b2s1 Tryd.underlying54 Tryd.underlying5 Tryd.underlying9 (lh) hu3_4) rfl ?_
    refine WL.x (X.mv (jt4 rfl (jt2 rfl (s3)))) rfl ?_
    refine WL.x (v := .string (bs (UInt8.ofNat (48 + m % 10) :: r))) (by rw [show bs (UInt8.ofNat (48 + m % 10) :: r) = bs [UInt8.ofNat (48 + m % 10)] ++ bs r by rw [app_bs]; rfl]; exact X.addS (lt rfl (lh)) (lh) (by rw [size_bs, size_bs]; simp only [List.length_cons, List.length_nil]; omega)) rfl ?_
    refine WL.x (X.asg (lh)) rfl ?_
    refine WL.e2 Nx.thn 0 3 (jt8 rfl (lt rfl (s0))) (lh) ?_
    intro σ5 s0 s3
    refine W.region ?_
    refine WL.x (X.mv (s0)) rfl ?_
    refine WL.x (X.neg_quo (lh) lc (by omega)) rfl ?_
    refine WL.x (X.asg (lh)) rfl ?_
    refine WL.e2 (Nx.blk Nx.thn) 0 3 (lh) (jt2 rfl (lt rfl (s3))) ?_
    intro σ6 s0 s3
    have hmr : m ≠ 0 ∨ r = [] := by first | exact .inl (by omega) | exact .inr (bs_inj hs)
    refine ⟨(m / 10, UInt8.ofNat (48 + m % 10) :: r), by (try dsimp only); rw [if_neg (by simp)]; rcases hmr with e | e; (· omega); (· rw [if_pos e]; omega), trivial, s0, s3, hdd.next hmr, by omega, hcl.trans0 cu3_4⟩
  · refine WL.yes rfl rfl (lh) (decide_eq_false h0) ?_
    refine WL.x (X.mv (jt2 rfl (lt rfl (s3)))) rfl ?_
    refine WL.yes rfl rfl (lt rfl (lh)) (decide_eq_false h0) ?_
    refine WL.x (X.eqlS (lh) lc) rfl ?_
    refine WL.x (X.pickF (jt2 rfl (lh)) (decide_eq_false h0) (lh)) rfl ?_
    refine WL.e3 Nx.thn 0 3 9 (jt4 rfl (jt2 rfl (s0))) (jt4 rfl (jt2 rfl (s3))) (lh) ?_
    intro σ7 s0 s3 s9
    refine W.cndp s9 (fun hs => ?_) (fun hs => ?_)
    · refine W.skip Nx.thn ?_
      refine W.block ?_
      refine W.seq ?_
      refine W.region ?_
      refine WL.x (X.mv (s0)) rfl ?_
      refine WL.x (X.neg_rem (lh) lc) rfl ?_
      first | refine WL.x (X.sub lc (lh) (by omega) (by omega)) rfl ?_ | refine WL.x (X.subw lc (lh)) rfl ?_
      first | refine WL.x (X.convi Tryd.underlying3 Tryd.underlying5 (lh) (wrap_u8_in (by omega) (by omega))) rfl ?_ | refine WL.x (X.conv Tryd.underlying3 Tryd.underlying5 (lh)) rfl ?_
      refine WL.bslice Tryd.underlying54 el5 rfl (pcons (lh) pnil) rfl (rfl : _ = [_]) rfl ?_
      intro w3 u3_4; have hu3_4 := u3_4.at_; have cu3_4 := u3_4.ch; have zu3_4 := u3_4.size
      refine WL.x (v := .string (bs [UInt8.ofNat (48 + m % 10)])) (by rw [show 48 + m % 10 = (48 - -((m % 10 : Nat) : Int)).toNat by omega]; exact X.b2s1 Tryd.underlying54 Tryd.underlying5 Tryd.underlying9 (lh) hu3_4) rfl ?_
      refine WL.x (X.mv (jt4 rfl (jt2 rfl (s3)))) rfl ?_
      refine WL.x (v := .string (bs (UInt8.ofNat (48 + m % 10) :: r))) (by rw [show bs (UInt8.ofNat (48 + m % 10) :: r) = bs [UInt8.ofNat (48 + m % 10)] ++ bs r by rw [app_bs]; rfl]; exact X.addS (lt rfl (lh)) (lh) (by rw [size_bs, size_bs]; simp only [List.length_cons, List.length_nil]; omega)) rfl ?_
      refine WL.x (X.asg (lh)) rfl ?_
      refine WL.e2 Nx.thn 0 3 (jt8 rfl (lt rfl (s0))) (lh) ?_
      intro σ8 s0 s3
      refine W.region ?_
      refine WL.x (X.mv (s0)) rfl ?_
      refine WL.x (X.neg_quo (lh) lc (by omega)) rfl ?_
      refine WL.x (X.asg (lh)) rfl ?_
      refine WL.e2 (Nx.blk Nx.thn) 0 3 (lh) (jt2 rfl (lt rfl (s3))) ?_
      intro σ9 s0 s3
      have hmr : m ≠ 0 ∨ r = [] := by first | exact .inl (by omega) | exact .inr (bs_inj hs)
      refine ⟨(m / 10, UInt8.ofNat (48 + m % 10) :: r), by (try dsimp only); rw [if_neg (by simp)]; rcases hmr with e | e; (· omega); (· rw [if_pos e]; omega), trivial, s0, s3, hdd.next hmr, by omega, hcl.trans0 cu3_4⟩
    · refine W.exit (Nx.xthn (Nx.xthn (Nx.xblk Nx.thn))) ?_
      refine W.seq ?_
      refine W.region ?_
      refine WL.x (X.mv (s3)) rfl ?_
      refine WL.x (X.asg (lh)) rfl ?_
      refine WL.e1 Nx.thn 2 (lh) ?_
      intro σ10 s2
      refine W.ret1 Nx.f1 s2 ?_
      have hm0 : m = 0 := by omega
      subst hm0
      rw [← hdd.fin (fun e => hs (by rw [e]; rfl))]
      exact ⟨rfl, hcl⟩
theorem decimal_ok (n : Int) (w : World) (h1 : -9223372036854775808 ≤ n) (h2 : n ≤ 9223372036854775807) :
    Sg.Ret Tryd.prog 31 #[.int .i64 n] w fun v w' => v = .string (bs (Lib.itoa n)) ∧ Ch0 w w' := by
  refine enter1 (n := 11) (l := [.int .i64 n]) Tryd.func31 rfl rfl rfl rfl ?_
  refine W.g1 0 (v1 := .int .i64 n) rfl ?_; intro σ s0
  refine W.seq ?_
  refine W.region ?_
  refine WL.x (X.asg lc) rfl ?_
  refine WL.e1 Nx.thn 0 (lt rfl (s0)) ?_
  intro σ1 s0
  refine W.seq ?_
  refine W.seq ?_
  refine W.region ?_
  refine WL.x (X.mv (s0)) rfl ?_
  refine WL.x (X.geq (lh) lc) rfl ?_
  refine WL.e2 Nx.thn 0 4 (jt2 rfl (s0)) (lh) ?_
  intro σ2 s0 s4
  refine W.cndp s4 (fun hn => ?_) (fun hn => ?_)
  · refine W.seq ?_
    refine W.region ?_
    refine WL.x (X.mv (s0)) rfl ?_
    refine WL.x (v := .int .i64 (-(n.toNat : Int))) (by rw [show (n.toNat : Int) = n by omega]; exact X.neg (lh) (by omega) (by omega)) rfl ?_
    refine WL.call1 ce57 (lh) (digits_ok n.toNat w (by omega)) rfl ?_
    rintro _ w1 ⟨rfl, c1⟩
    refine WL.x (X.asg (lh)) rfl ?_
    refine WL.e1 Nx.thn 2 (lh) ?_
    intro σ3 s2
    refine W.ret1 (Nx.rthn Nx.f1) s2 ?_
    exact ⟨by unfold Lib.itoa; rw [if_neg (by omega)], c1⟩
  · refine W.skip Nx.thn ?_
    refine W.seq ?_
    refine W.region ?_
    refine WL.x (v := .int .i64 (-(n.natAbs : Int))) (by rw [show (-(n.natAbs : Int)) = n by omega]; exact X.mv s0) rfl ?_
    refine WL.call1 ce57 (lh) (digits_ok n.natAbs w (by omega)) rfl ?_
    rintro _ w2 ⟨rfl, c1⟩
    refine WL.x (v := .string (bs (45 :: Lib.decDigits n.natAbs))) (by rw [show bs (45 :: Lib.decDigits n.natAbs) = bs [45] ++ bs (Lib.decDigits n.natAbs) by rw [app_bs]; rfl]; exact X.addS lc (lh) (by rw [size_bs, size_bs]; have := dd_len (u := n.natAbs) (by omega); simp only [List.length_cons, List.length_nil]; omega)) rfl ?_
    refine WL.x (X.asg (lh)) rfl ?_
    refine WL.e1 Nx.thn 2 (lh) ?_
    intro σ4 s2
    refine W.ret1 Nx.f1 s2 ?_
    exact ⟨by unfold Lib.itoa; rw [if_pos (by omega)], c1⟩

theorem owb {k : Int} (h1 : 1 ≤ k) (h4 : k ≤ 4) : (#[.string ⟨#[]⟩, .string ⟨#[97, 112, 112, 101, 110, 100, 32]⟩, .string ⟨#[114, 101, 97, 100, 32]⟩, .string ⟨#[119, 114, 105, 116, 101, 32]⟩, .string ⟨#[103, 101, 116, 32]⟩] : Array Value)[0 + k.toNat * 1]? = some (.string (bs (wordO k ++ [32]))) := by
  obtain rfl | rfl | rfl | rfl : k = 1 ∨ k = 2 ∨ k = 3 ∨ k = 4 := by omega
  all_goals rfl
theorem ewb {k : Int} (h1 : 1 ≤ k) (h4 : k ≤ 4) : (#[.string ⟨#[]⟩, .string ⟨#[105, 110, 118, 111, 107, 101, 32]⟩, .string ⟨#[111, 107, 32]⟩, .string ⟨#[102, 97, 105, 108, 32]⟩, .string ⟨#[105, 110, 102, 111, 32]⟩] : Array Value)[0 + k.toNat * 1]? = some (.string (bs (wordE k ++ [32]))) := by
  obtain rfl | rfl | rfl | rfl : k = 1 ∨ k = 2 ∨ k = 3 ∨ k = 4 := by omega
  all_goals rfl
theorem ow5 {k : Int} (h1 : 1 ≤ k) (h4 : k ≤ 4) : (#[.string ⟨#[]⟩, .string ⟨#[97, 112, 112, 101, 110, 100]⟩, .string ⟨#[114, 101, 97, 100]⟩, .string ⟨#[119, 114, 105, 116, 101]⟩, .string ⟨#[103, 101, 116]⟩] : Array Value)[0 + k.toNat * 1]? = some (.string (bs (wordO k))) := by
  obtain rfl | rfl | rfl | rfl : k = 1 ∨ k = 2 ∨ k = 3 ∨ k = 4 := by omega
  all_goals rfl
theorem ew5 {k : Int} (h1 : 1 ≤ k) (h4 : k ≤ 4) : (#[.string ⟨#[]⟩, .string ⟨#[105, 110, 118, 111, 107, 101]⟩, .string ⟨#[111, 107]⟩, .string ⟨#[102, 97, 105, 108]⟩, .string ⟨#[105, 110, 102, 111]⟩] : Array Value)[0 + k.toNat * 1]? = some (.string (bs (wordE k))) := by
  obtain rfl | rfl | rfl | rfl : k = 1 ∨ k = 2 ∨ k = 3 ∨ k = 4 := by omega
  all_goals rfl
theorem fin_str {a b : ByteArray} (h : sb a = sb b) : Value.string a = .string b := by rw [sb_inj h]
set_option maxHeartbeats 3200000 in
theorem rop_ok (A : Nat → Prop) (x : GOp) (es : List Value) (w : World) (h : ROp A w es x) (hm : mayB x = true) :
    Sg.Ret Tryd.prog 32 #[.agg es.toArray] w fun v w' => v = .string (bs (opT1 x)) ∧ Ch0 w w' := by
  have hok := may_ok h hm
  have hkk := mayB_kind hm
  obtain ⟨k, key, val, li, has, nl⟩ := x
  obtain ⟨v, rfl, hs, hb, hz⟩ := h
  dsimp only at hs hb hz
  obtain ⟨va, vc, hv⟩ := hs.1.len
  rw [List.length_map] at hv
  subst hv
  have hw1 := wordO_len k
  have hl40 := hok.2.1
  have hk6 := hok.1
  dsimp only at hkk hl40 hk6
  refine enter1 (n := 81) (l := [.agg #[.int .i64 k, .string key, .int .i64 val, .slice va li.length vc, .bool has, .bool nl]]) Tryd.func32 rfl rfl rfl rfl ?_
  refine W.g1 0 (v1 := .agg #[.int .i64 k, .string key, .int .i64 val, .slice va li.length vc, .bool has, .bool nl]) rfl ?_; intro σ s0
  refine W.seq ?_
  refine W.region ?_
  refine WL.box (s0) rfl ?_
  intro w1 u0_0; have hu0_0 := u0_0.at_; have cu0_0 := u0_0.ch; have zu0_0 := u0_0.size
  refine WL.x (X.asg lc) rfl ?_
  refine WL.e1 Nx.thn 1 (lt rfl (lh)) ?_
  intro σ1 s1
  refine W.seq ?_
  refine W.held (fun w' => Ch (fun _ => False) w1 w') mo ?_
  intro w2 qhh1 qc2
  have hS : Ch (fun _ => False) w1 w2 := Ch.weak qc2
  have hzqc2 := qc2.size
  have cdh1 := qc2
  refine WH.take 1 rfl (by kernel_rfl) (by kernel_rfl) (by kernel_rfl) (fun _ _ _ h => h) Gd.none rfl (fun w' hS' => X.fieldAddr fd48_0 (s1)) hS ?_
  refine WH.take 2 rfl (by kernel_rfl) (by kernel_rfl) (by kernel_rfl) (fun _ _ _ h => h) Gd.none rfl (fun w' hS' => X.load pl3 (lh) (by first | assumption | exact hS'.at (by assumption) (by intro hne; first | exact hne | ((try dsimp only at hne); omega)) | exact hS'.at (cu0_0.at0 (by assumption)) (by intro hne; first | exact hne | ((try dsimp only at hne); omega))) (by first | rfl | assumption)) hS ?_
  refine WH.take 6 rfl (by kernel_rfl) (by kernel_rfl) (by kernel_rfl) (fun _ _ _ h => h) Gd.none rfl (fun w' hS' => X.fieldAddr fd48_1 (jt2 rfl (s1))) hS ?_
  refine WH.take 7 rfl (by kernel_rfl) (by kernel_rfl) (by kernel_rfl) (fun _ _ _ h => h) Gd.none rfl (fun w' hS' => X.load pl9 (lh) (by first | assumption | exact hS'.at (by assumption) (by intro hne; first | exact hne | ((try dsimp only at hne); omega)) | exact hS'.at (cu0_0.at0 (by assumption)) (by intro hne; first | exact hne | ((try dsimp only at hne); omega))) (by first | rfl | assumption)) hS ?_
  refine WH.one 0 rfl (by kernel_rfl) (fun _ _ h => h) ?_
  refine WL.bslice Tryd.underlying36 el9 rfl (pcons lc (pcons lc (pcons lc (pcons lc (pcons lc pnil))))) rfl (rfl : _ = [_, _, _, _, _]) rfl ?_
  intro w3 u1_0; have hu1_0 := u1_0.at_; have cu1_0 := u1_0.ch; have zu1_0 := u1_0.size
  have hS := hS.trans cu1_0 (fun _ _ => id) (by intro i hi hg; first | exact hg | exact False.elim hg | omega | ((try dsimp only at hg ⊢); omega))
  refine WL.nil Nx.thn ⟨hS, ?_⟩
  refine WH.take 3 rfl (by kernel_rfl) (by kernel_rfl) (by kernel_rfl) (fun _ _ _ h => h) Gd.none rfl (fun w' hS' => X.indexAddr Tryd.underlying36 el9 (lh) (jt2 rfl (lt rfl (lh))) (by omega) (by omega)) hS ?_
  refine WH.one 4 rfl (by kernel_rfl) (fun _ _ h => h) ?_
  refine WL.x (X.load pl9 (lh) hu1_0 (v := .string (bs (wordO k ++ [32]))) (owb hkk.1 hkk.2)) rfl ?_
  refine WL.nil Nx.thn ⟨hS, ?_⟩
  refine WH.take 5 rfl (by kernel_rfl) (by kernel_rfl) (by kernel_rfl) (fun _ _ _ h => h) Gd.none rfl (fun w' hS' => X.addS lc (lh) (by simp only [ByteArray.size_append, szl, size_bs, List.size_toArray, List.length_cons, List.length_nil, List.length_append]; omega)) hS ?_
  refine WH.take 8 rfl (by kernel_rfl) (by kernel_rfl) (by kernel_rfl) (fun _ _ _ h => h) Gd.none rfl (fun w' hS' => X.addS (lh) (jt4 rfl (lh)) (by simp only [ByteArray.size_append, szl, size_bs, List.size_toArray, List.length_cons, List.length_nil, List.length_append]; omega)) hS ?_
  refine WH.take 9 rfl (by kernel_rfl) (by kernel_rfl) (by kernel_rfl) (fun _ _ _ h => h) Gd.none rfl (fun w' hS' => X.asg (lh)) hS ?_
  refine WH.done (by kernel_rfl) ?_
  refine WL.e2 Nx.thn 1 3 (jt8 rfl (jt2 rfl (s1))) (lh) ?_
  intro σ2 s1 s3
  refine W.seq ?_
  refine W.block ?_
  refine W.seq ?_
  refine W.region ?_
  refine WL.x (X.fieldAddr fd48_0 (s1)) rfl ?_
  refine WL.x (X.load pl3 (lh) (by first | assumption | exact hS.at (by assumption) (by intro hne; first | exact hne | ((try dsimp only at hne); omega)) | exact hS.at (cu0_0.at0 (by assumption)) (by intro hne; first | exact hne | ((try dsimp only at hne); omega))) (by first | rfl | assumption)) rfl ?_
  refine WL.x (X.eql (lh) lc) rfl ?_
  refine WL.x (X.mv (lh)) rfl ?_
  refine WL.splitp (lh) (fun q1 => ?_) (fun q1 => ?_)
  · refine WL.no rfl rfl (lh) (decide_eq_true q1) rfl ?_
    refine WL.no rfl rfl (lt rfl (lh)) (decide_eq_true q1) rfl ?_
    refine WL.no rfl rfl (jt2 rfl (lh)) (decide_eq_true q1) rfl ?_
    refine WL.x (X.pickT (jt2 rfl (lt rfl (lh))) (decide_eq_true q1) lc) rfl ?_
    refine WL.x (X.mv (lh)) rfl ?_
    refine WL.no rfl rfl (lh) rfl rfl ?_
    refine WL.no rfl rfl (lt rfl (lh)) rfl rfl ?_
    refine WL.no rfl rfl (jt2 rfl (lh)) rfl rfl ?_
    refine WL.no rfl rfl (jt2 rfl (lt rfl (lh))) rfl rfl ?_
    refine WL.nou rfl (lh) rfl ?_
    refine WL.nou rfl (lt rfl (lh)) rfl ?_
    refine WL.no rfl rfl (jt4 rfl (jt2 rfl (lh))) rfl rfl ?_
    refine WL.no rfl rfl (jt4 rfl (jt2 rfl (lt rfl (lh)))) rfl rfl ?_
    refine WL.nou rfl (lh) rfl ?_
    refine WL.nou rfl (lt rfl (lh)) rfl ?_
    refine WL.nou rfl (jt2 rfl (lh)) rfl ?_
    refine WL.no rfl rfl (jt8 rfl (jt2 rfl (lt rfl (lh)))) rfl rfl ?_
    refine WL.x (X.pickT (jt8 rfl (jt4 rfl (lh))) rfl lc) rfl ?_
    refine WL.x (X.asg (lh)) rfl ?_
    refine WL.e3 Nx.thn 1 3 15 (jt8 rfl (jt8 rfl (jt4 rfl (jt2 rfl (lt rfl (s1)))))) (jt8 rfl (jt8 rfl (jt4 rfl (jt2 rfl (lt rfl (s3)))))) (lh) ?_
    intro σ3 s1 s3 s15
    refine W.cndT s15 ?_
    refine W.region ?_
    refine WL.x (X.mv (s3)) rfl ?_
    refine WL.x (X.fieldAddr fd48_2 (lt rfl (s1))) rfl ?_
    refine WL.x (X.load pl3 (lh) (by first | assumption | exact hS.at (by assumption) (by intro hne; first | exact hne | ((try dsimp only at hne); omega)) | exact hS.at (cu0_0.at0 (by assumption)) (by intro hne; first | exact hne | ((try dsimp only at hne); omega))) (by first | rfl | assumption)) rfl ?_
    refine WL.call1 ce31 (lh) (decimal_ok val w3 hok.2.2.1.1 hok.2.2.1.2) rfl ?_
    rintro _ w4 ⟨rfl, cD⟩
    have hiv := Lib.itoa_length_le val hok.2.2.1.1 hok.2.2.1.2
    refine WL.x (X.addS lc (lh) (by simp only [ByteArray.size_append, szl, size_bs, List.size_toArray, List.length_cons, List.length_nil, List.length_append]; omega)) rfl ?_
    refine WL.x (X.addS (jt4 rfl (lh)) (lh) (by simp only [ByteArray.size_append, szl, size_bs, List.size_toArray, List.length_cons, List.length_nil, List.length_append]; omega)) rfl ?_
    refine WL.x (X.asg (lh)) rfl ?_
    refine WL.e1 (Nx.blk Nx.thn) 3 (lh) ?_
    intro σ4 s3
    refine W.seq ?_
    refine W.region ?_
    refine WL.x (X.mv (s3)) rfl ?_
    refine WL.x (X.addS (lh) lc (by simp only [ByteArray.size_append, szl, size_bs, List.size_toArray, List.length_cons, List.length_nil, List.length_append]; omega)) rfl ?_
    refine WL.x (X.asg (lh)) rfl ?_
    refine WL.e1 Nx.thn 2 (lh) ?_
    intro σ5 s2
    refine W.ret1 Nx.f1 s2 ?_
    first
      | (have hmv := mid_val hm (by first | exact .inl q1 | exact .inr (.inl q3) | exact .inr (.inr ⟨q4, qh, by simpa using qn⟩)); exact ⟨by rw [opT1, hmv]; exact fin_str (by simp [sb_app, sb_mk, sb_bs, valT]), (cu0_0.trans0 (cdh1.trans0 cu1_0)).trans0 cD⟩)
      | (have hmv := mid_nil (x := (k, key, val, li, has, nl)) qn2; exact ⟨by rw [opT1, hmv]; exact fin_str (by simp [sb_app, sb_mk, sb_bs]), cu0_0.trans0 (cdh1.trans0 cu1_0)⟩)
      | (have hmv := mid_list hm q2 qh2; have hje : j = li.length := by omega
         rw [hje, List.take_length] at hS; exact ⟨by rw [opT1, hmv]; exact fin_str (by simp [sb_app, sb_mk, sb_bs, hS]), (cu0_0.trans0 (cdh1.trans0 cu1_0)).trans0 hcl⟩)
      | exact ⟨by rw [opT1, mid_non2 hm q1 q3 (by intro h9; simp_all) (by intro h9; simp_all)]; exact fin_str (by simp [sb_app, sb_mk, sb_bs]), cu0_0.trans0 (cdh1.trans0 cu1_0)⟩
      | skip
  · refine WL.yes rfl rfl (lh) (decide_eq_false q1) ?_
    refine WL.x (X.fieldAddr fd48_0 (jt4 rfl (s1))) rfl ?_
    refine WL.yes rfl rfl (lt rfl (lh)) (decide_eq_false q1) ?_
    refine WL.x (X.load pl3 (lh) (by first | assumption | exact hS.at (by assumption) (by intro hne; first | exact hne | ((try dsimp only at hne); omega)) | exact hS.at (cu0_0.at0 (by assumption)) (by intro hne; first | exact hne | ((try dsimp only at hne); omega))) (by first | rfl | assumption)) rfl ?_
    refine WL.yes rfl rfl (jt2 rfl (lh)) (decide_eq_false q1) ?_
    refine WL.x (X.eql (lh) lc) rfl ?_
    refine WL.x (X.pickF (jt2 rfl (lt rfl (lh))) (decide_eq_false q1) (lh)) rfl ?_
    refine WL.x (X.mv (lh)) rfl ?_
    refine WL.splitp (lh) (fun q3 => ?_) (fun q3 => ?_)
    · refine WL.no rfl rfl (lh) (decide_eq_true q3) rfl ?_
      refine WL.no rfl rfl (lt rfl (lh)) (decide_eq_true q3) rfl ?_
      refine WL.no rfl rfl (jt2 rfl (lh)) (decide_eq_true q3) rfl ?_
      refine WL.no rfl rfl (jt2 rfl (lt rfl (lh))) (decide_eq_true q3) rfl ?_
      refine WL.nou rfl (lh) rfl ?_
      refine WL.nou rfl (lt rfl (lh)) rfl ?_
      refine WL.no rfl rfl (jt4 rfl (jt2 rfl (lh))) (decide_eq_true q3) rfl ?_
      refine WL.no rfl rfl (jt4 rfl (jt2 rfl (lt rfl (lh)))) (decide_eq_true q3) rfl ?_
      refine WL.nou rfl (lh) rfl ?_
      refine WL.nou rfl (lt rfl (lh)) rfl ?_
      refine WL.nou rfl (jt2 rfl (lh)) rfl ?_
      refine WL.no rfl rfl (jt8 rfl (jt2 rfl (lt rfl (lh)))) (decide_eq_true q3) rfl ?_
      refine WL.x (X.pickT (jt8 rfl (jt4 rfl (lh))) (decide_eq_true q3) lc) rfl ?_
      refine WL.x (X.asg (lh)) rfl ?_
      refine WL.e3 Nx.thn 1 3 15 (jt8 rfl (jt8 rfl (jt4 rfl (jt2 rfl (lt rfl (s1)))))) (jt8 rfl (jt8 rfl (jt4 rfl (jt2 rfl (lt rfl (s3)))))) (lh) ?_
      intro σ6 s1 s3 s15
      refine W.cndT s15 ?_
      refine W.region ?_
      refine WL.x (X.mv (s3)) rfl ?_
      refine WL.x (X.fieldAddr fd48_2 (lt rfl (s1))) rfl ?_
      refine WL.x (X.load pl3 (lh) (by first | assumption | exact hS.at (by assumption) (by intro hne; first | exact hne | ((try dsimp only at hne); omega)) | exact hS.at (cu0_0.at0 (by assumption)) (by intro hne; first | exact hne | ((try dsimp only at hne); omega))) (by first | rfl | assumption)) rfl ?_
      refine WL.call1 ce31 (lh) (decimal_ok val w3 hok.2.2.1.1 hok.2.2.1.2) rfl ?_
      rintro _ w5 ⟨rfl, cD⟩
      have hiv := Lib.itoa_length_le val hok.2.2.1.1 hok.2.2.1.2
      refine WL.x (X.addS lc (lh) (by simp only [ByteArray.size_append, szl, size_bs, List.size_toArray, List.length_cons, List.length_nil, List.length_append]; omega)) rfl ?_
      refine WL.x (X.addS (jt4 rfl (lh)) (lh) (by simp only [ByteArray.size_append, szl, size_bs, List.size_toArray, List.length_cons, List.length_nil, List.length_append]; omega)) rfl ?_
      refine WL.x (X.asg (lh)) rfl ?_
      refine WL.e1 (Nx.blk Nx.thn) 3 (lh) ?_
      intro σ7 s3
      refine W.seq ?_
      refine W.region ?_
      refine WL.x (X.mv (s3)) rfl ?_
      refine WL.x (X.addS (lh) lc (by simp only [ByteArray.size_append, szl, size_bs, List.size_toArray, List.length_cons, List.length_nil, List.length_append]; omega)) rfl ?_
      refine WL.x (X.asg (lh)) rfl ?_
      refine WL.e1 Nx.thn 2 (lh) ?_
      intro σ8 s2
      refine W.ret1 Nx.f1 s2 ?_
      first
        | (have hmv := mid_val hm (by first | exact .inl q1 | exact .inr (.inl q3) | exact .inr (.inr ⟨q4, qh, by simpa using qn⟩)); exact ⟨by rw [opT1, hmv]; exact fin_str (by simp [sb_app, sb_mk, sb_bs, valT]), (cu0_0.trans0 (cdh1.trans0 cu1_0)).trans0 cD⟩)
        | (have hmv := mid_nil (x := (k, key, val, li, has, nl)) qn2; exact ⟨by rw [opT1, hmv]; exact fin_str (by simp [sb_app, sb_mk, sb_bs]), cu0_0.trans0 (cdh1.trans0 cu1_0)⟩)
        | (have hmv := mid_list hm q2 qh2; have hje : j = li.length := by omega
           rw [hje, List.take_length] at hS; exact ⟨by rw [opT1, hmv]; exact fin_str (by simp [sb_app, sb_mk, sb_bs, hS]), (cu0_0.trans0 (cdh1.trans0 cu1_0)).trans0 hcl⟩)
        | exact ⟨by rw [opT1, mid_non2 hm q1 q3 (by intro h9; simp_all) (by intro h9; simp_all)]; exact fin_str (by simp [sb_app, sb_mk, sb_bs]), cu0_0.trans0 (cdh1.trans0 cu1_0)⟩
        | skip
    · refine WL.yes rfl rfl (lh) (decide_eq_false q3) ?_
      refine WL.x (X.fieldAddr fd48_0 (jt8 rfl (lt rfl (s1)))) rfl ?_
      refine WL.yes rfl rfl (lt rfl (lh)) (decide_eq_false q3) ?_
      refine WL.x (X.load pl3 (lh) (by first | assumption | exact hS.at (by assumption) (by intro hne; first | exact hne | ((try dsimp only at hne); omega)) | exact hS.at (cu0_0.at0 (by assumption)) (by intro hne; first | exact hne | ((try dsimp only at hne); omega))) (by first | rfl | assumption)) rfl ?_
      refine WL.yes rfl rfl (jt2 rfl (lh)) (decide_eq_false q3) ?_
      refine WL.x (X.eql (lh) lc) rfl ?_
      refine WL.yes rfl rfl (jt2 rfl (lt rfl (lh))) (decide_eq_false q3) ?_
      refine WL.x (X.mv (lh)) rfl ?_
      refine WL.splitp (lh) (fun q4 => ?_) (fun q4 => ?_)
      · refine WL.yes rfl rfl (lh) (decide_eq_true q4) ?_
        refine WL.x (X.fieldAddr fd48_4 (jt8 rfl (jt4 rfl (lt rfl (s1))))) rfl ?_
        refine WL.yes rfl rfl (lt rfl (lh)) (decide_eq_true q4) ?_
        refine WL.x (X.load pl4 (lh) (by first | assumption | exact hS.at (by assumption) (by intro hne; first | exact hne | ((try dsimp only at hne); omega)) | exact hS.at (cu0_0.at0 (by assumption)) (by intro hne; first | exact hne | ((try dsimp only at hne); omega))) (by first | rfl | assumption)) rfl ?_
        refine WL.yes rfl rfl (jt4 rfl (jt2 rfl (lh))) (decide_eq_false q3) ?_
        refine WL.x (X.pickT (jt2 rfl (lh)) (decide_eq_true q4) (lh)) rfl ?_
        refine WL.yes rfl rfl (jt4 rfl (jt2 rfl (lt rfl (lh)))) (decide_eq_false q3) ?_
        refine WL.x (X.mv (lh)) rfl ?_
        refine WL.split (lh) (fun qh => ?_) (fun qh => ?_)
        · refine WL.yes rfl rfl (lh) (qh) ?_
          refine WL.x (X.fieldAddr fd48_5 (jt8 rfl (jt8 rfl (lt rfl (s1))))) rfl ?_
          refine WL.yes rfl rfl (lt rfl (lh)) (qh) ?_
          refine WL.x (X.load pl4 (lh) (by first | assumption | exact hS.at (by assumption) (by intro hne; first | exact hne | ((try dsimp only at hne); omega)) | exact hS.at (cu0_0.at0 (by assumption)) (by intro hne; first | exact hne | ((try dsimp only at hne); omega))) (by first | rfl | assumption)) rfl ?_
          refine WL.yes rfl rfl (jt2 rfl (lh)) (qh) ?_
          refine WL.x (X.not (lh)) rfl ?_
          refine WL.yes rfl rfl (jt8 rfl (jt2 rfl (lt rfl (lh)))) (decide_eq_false q3) ?_
          refine WL.x (X.pickT (jt2 rfl (lt rfl (lh))) (qh) (lh)) rfl ?_
          refine WL.x (X.pickF (jt8 rfl (jt4 rfl (lh))) (decide_eq_false q3) (lh)) rfl ?_
          refine WL.x (X.asg (lh)) rfl ?_
          refine WL.e3 Nx.thn 1 3 15 (jt8 rfl (jt8 rfl (jt4 rfl (jt2 rfl (lt rfl (s1)))))) (jt8 rfl (jt8 rfl (jt4 rfl (jt2 rfl (lt rfl (s3)))))) (lh) ?_
          intro σ9 s1 s3 s15
          refine W.cnd s15 (fun qn => ?_) (fun qn => ?_)
          · refine W.region ?_
            refine WL.x (X.mv (s3)) rfl ?_
            refine WL.x (X.fieldAddr fd48_2 (lt rfl (s1))) rfl ?_
            refine WL.x (X.load pl3 (lh) (by first | assumption | exact hS.at (by assumption) (by intro hne; first | exact hne | ((try dsimp only at hne); omega)) | exact hS.at (cu0_0.at0 (by assumption)) (by intro hne; first | exact hne | ((try dsimp only at hne); omega))) (by first | rfl | assumption)) rfl ?_
            refine WL.call1 ce31 (lh) (decimal_ok val w3 hok.2.2.1.1 hok.2.2.1.2) rfl ?_
            rintro _ w6 ⟨rfl, cD⟩
            have hiv := Lib.itoa_length_le val hok.2.2.1.1 hok.2.2.1.2
            refine WL.x (X.addS lc (lh) (by simp only [ByteArray.size_append, szl, size_bs, List.size_toArray, List.length_cons, List.length_nil, List.length_append]; omega)) rfl ?_
            refine WL.x (X.addS (jt4 rfl (lh)) (lh) (by simp only [ByteArray.size_append, szl, size_bs, List.size_toArray, List.length_cons, List.length_nil, List.length_append]; omega)) rfl ?_
            refine WL.x (X.asg (lh)) rfl ?_
            refine WL.e1 (Nx.blk Nx.thn) 3 (lh) ?_
            intro σ10 s3
            refine W.seq ?_
            refine W.region ?_
            refine WL.x (X.mv (s3)) rfl ?_
            refine WL.x (X.addS (lh) lc (by simp only [ByteArray.size_append, szl, size_bs, List.size_toArray, List.length_cons, List.length_nil, List.length_append]; omega)) rfl ?_
            refine WL.x (X.asg (lh)) rfl ?_
            refine WL.e1 Nx.thn 2 (lh) ?_
            intro σ11 s2
            refine W.ret1 Nx.f1 s2 ?_
            first
              | (have hmv := mid_val hm (by first | exact .inl q1 | exact .inr (.inl q3) | exact .inr (.inr ⟨q4, qh, by simpa using qn⟩)); exact ⟨by rw [opT1, hmv]; exact fin_str (by simp [sb_app, sb_mk, sb_bs, valT]), (cu0_0.trans0 (cdh1.trans0 cu1_0)).trans0 cD⟩)
              | (have hmv := mid_nil (x := (k, key, val, li, has, nl)) qn2; exact ⟨by rw [opT1, hmv]; exact fin_str (by simp [sb_app, sb_mk, sb_bs]), cu0_0.trans0 (cdh1.trans0 cu1_0)⟩)
              | (have hmv := mid_list hm q2 qh2; have hje : j = li.length := by omega
                 rw [hje, List.take_length] at hS; exact ⟨by rw [opT1, hmv]; exact fin_str (by simp [sb_app, sb_mk, sb_bs, hS]), (cu0_0.trans0 (cdh1.trans0 cu1_0)).trans0 hcl⟩)
              | exact ⟨by rw [opT1, mid_non2 hm q1 q3 (by intro h9; simp_all) (by intro h9; simp_all)]; exact fin_str (by simp [sb_app, sb_mk, sb_bs]), cu0_0.trans0 (cdh1.trans0 cu1_0)⟩
              | skip
          · refine W.seq ?_
            refine W.region ?_
            refine WL.x (X.fieldAddr fd48_0 (s1)) rfl ?_
            refine WL.x (X.load pl3 (lh) (by first | assumption | exact hS.at (by assumption) (by intro hne; first | exact hne | ((try dsimp only at hne); omega)) | exact hS.at (cu0_0.at0 (by assumption)) (by intro hne; first | exact hne | ((try dsimp only at hne); omega))) (by first | rfl | assumption)) rfl ?_
            refine WL.x (X.eql (lh) lc) rfl ?_
            refine WL.x (X.mv (lh)) rfl ?_
            refine WL.splitp (lh) (fun q4b => ?_) (fun q4b => ?_)
            · refine WL.yes rfl rfl (lh) (decide_eq_true q4b) ?_
              refine WL.x (X.fieldAddr fd48_5 (jt4 rfl (s1))) rfl ?_
              refine WL.yes rfl rfl (lt rfl (lh)) (decide_eq_true q4b) ?_
              refine WL.x (X.load pl4 (lh) (by first | assumption | exact hS.at (by assumption) (by intro hne; first | exact hne | ((try dsimp only at hne); omega)) | exact hS.at (cu0_0.at0 (by assumption)) (by intro hne; first | exact hne | ((try dsimp only at hne); omega))) (by first | rfl | assumption)) rfl ?_
              refine WL.x (X.pickT (jt2 rfl (lh)) (decide_eq_true q4b) (lh)) rfl ?_
              refine WL.x (X.asg (lh)) rfl ?_
              refine WL.e3 Nx.thn 1 3 44 (jt8 rfl (s1)) (jt8 rfl (s3)) (lh) ?_
              intro σ12 s1 s3 s44
              refine W.cnd s44 (fun qn2 => ?_) (fun qn2 => ?_)
              · refine W.region ?_
                refine WL.x (X.mv (s3)) rfl ?_
                refine WL.x (X.addS (lh) lc (by simp only [ByteArray.size_append, szl, size_bs, List.size_toArray, List.length_cons, List.length_nil, List.length_append]; omega)) rfl ?_
                refine WL.x (X.asg (lh)) rfl ?_
                refine WL.e1 (Nx.blk Nx.thn) 3 (lh) ?_
                intro σ13 s3
                refine W.seq ?_
                refine W.region ?_
                refine WL.x (X.mv (s3)) rfl ?_
                refine WL.x (X.addS (lh) lc (by simp only [ByteArray.size_append, szl, size_bs, List.size_toArray, List.length_cons, List.length_nil, List.length_append]; omega)) rfl ?_
                refine WL.x (X.asg (lh)) rfl ?_
                refine WL.e1 Nx.thn 2 (lh) ?_
                intro σ14 s2
                refine W.ret1 Nx.f1 s2 ?_
                first
                  | (have hmv := mid_val hm (by first | exact .inl q1 | exact .inr (.inl q3) | exact .inr (.inr ⟨q4, qh, by simpa using qn⟩)); exact ⟨by rw [opT1, hmv]; exact fin_str (by simp [sb_app, sb_mk, sb_bs, valT]), (cu0_0.trans0 (cdh1.trans0 cu1_0)).trans0 cD⟩)
                  | (have hmv := mid_nil (x := (k, key, val, li, has, nl)) qn2; exact ⟨by rw [opT1, hmv]; exact fin_str (by simp [sb_app, sb_mk, sb_bs]), cu0_0.trans0 (cdh1.trans0 cu1_0)⟩)
                  | (have hmv := mid_list hm q2 qh2; have hje : j = li.length := by omega
                     rw [hje, List.take_length] at hS; exact ⟨by rw [opT1, hmv]; exact fin_str (by simp [sb_app, sb_mk, sb_bs, hS]), (cu0_0.trans0 (cdh1.trans0 cu1_0)).trans0 hcl⟩)
                  | exact ⟨by rw [opT1, mid_non2 hm q1 q3 (by intro h9; simp_all) (by intro h9; simp_all)]; exact fin_str (by simp [sb_app, sb_mk, sb_bs]), cu0_0.trans0 (cdh1.trans0 cu1_0)⟩
                  | skip
              · refine W.seq ?_
                refine W.region ?_
                refine WL.x (X.fieldAddr fd48_0 (s1)) rfl ?_
                refine WL.x (X.load pl3 (lh) (by first | assumption | exact hS.at (by assumption) (by intro hne; first | exact hne | ((try dsimp only at hne); omega)) | exact hS.at (cu0_0.at0 (by assumption)) (by intro hne; first | exact hne | ((try dsimp only at hne); omega))) (by first | rfl | assumption)) rfl ?_
                refine WL.x (X.eql (lh) lc) rfl ?_
                refine WL.x (X.mv (lh)) rfl ?_
                refine WL.splitp (lh) (fun q2 => ?_) (fun q2 => ?_)
                · refine WL.yes rfl rfl (lh) (decide_eq_true q2) ?_
                  refine WL.x (X.fieldAddr fd48_4 (jt4 rfl (s1))) rfl ?_
                  refine WL.yes rfl rfl (lt rfl (lh)) (decide_eq_true q2) ?_
                  refine WL.x (X.load pl4 (lh) (by first | assumption | exact hS.at (by assumption) (by intro hne; first | exact hne | ((try dsimp only at hne); omega)) | exact hS.at (cu0_0.at0 (by assumption)) (by intro hne; first | exact hne | ((try dsimp only at hne); omega))) (by first | rfl | assumption)) rfl ?_
                  refine WL.x (X.pickT (jt2 rfl (lh)) (decide_eq_true q2) (lh)) rfl ?_
                  refine WL.x (X.asg (lh)) rfl ?_
                  refine WL.e3 Nx.thn 1 3 54 (jt8 rfl (s1)) (jt8 rfl (s3)) (lh) ?_
                  intro σ15 s1 s3 s54
                  refine W.cnd s54 (fun qh2 => ?_) (fun qh2 => ?_)
                  · refine W.seq ?_
                    refine W.region ?_
                    refine WL.x (X.mv (s3)) rfl ?_
                    refine WL.x (X.addS (lh) lc (by simp only [ByteArray.size_append, szl, size_bs, List.size_toArray, List.length_cons, List.length_nil, List.length_append]; omega)) rfl ?_
                    refine WL.x (X.asg (lh)) rfl ?_
                    refine WL.e2 Nx.thn 1 3 (jt2 rfl (lt rfl (s1))) (lh) ?_
                    intro σ16 s1 s3
                    refine W.seq ?_
                    refine W.seq ?_
                    refine W.region ?_
                    refine WL.x (X.fieldAddr fd48_3 (s1)) rfl ?_
                    refine WL.x (v := .slice va li.length vc) (X.load pl46 (lh) (by first | assumption | exact hS.at (by assumption) (by intro hne; first | exact hne | ((try dsimp only at hne); omega)) | exact hS.at (cu0_0.at0 (by assumption)) (by intro hne; first | exact hne | ((try dsimp only at hne); omega))) rfl) rfl ?_
                    refine WL.x (X.lenSl Tryd.underlying46 (lh)) rfl ?_
                    refine WL.x (X.mv lc) rfl ?_
                    refine WL.e4 Nx.thn 3 65 66 67 (jt4 rfl (s3)) (jt2 rfl (lh)) (lt rfl (lh)) (lh) ?_
                    intro σ17 s3 s65 s66 s67
                    refine W.block ?_
                    have qo3 := s65
                    have qo4 := s66
                    -- loop 0: kept [65, 66], varied [3, 67]
                    refine W.loop (G := Nat) (fun j σ' w' => (σ' 65 = σ17 65 ∧ σ' 66 = σ17 66 ∧ True) ∧ (∃ S, σ' 3 = .string S ∧ σ' 67 = .int .i64 (j : Int) ∧ sb S = ([91, 32] ++ (wordO k ++ [32]) ++ sb key ++ [32, 40]) ++ (li.take j).flatMap valT ∧ j ≤ li.length ∧ Ch0 w3 w')) (fun j => li.length - j) (0) ⟨⟨rfl, rfl, trivial⟩, _, s3, s67, (by simp [sb_app, sb_mk, sb_bs]), by omega, Ch.refl _ _⟩ ?_
                    rintro j σ18 w7 ⟨⟨f65, f66, _⟩, S, s3, s67, hS, hj, hcl⟩
                    have s65 := f65.trans qo3
                    have s66 := f66.trans qo4
                    refine W.seq ?_
                    refine W.region ?_
                    refine WL.x (X.lss (s67) (s66)) rfl ?_
                    refine WL.e5 Nx.thn 3 65 66 67 68 (lt rfl (s3)) (lt rfl (s65)) (lt rfl (s66)) (lt rfl (s67)) (lh) ?_
                    intro σ19 s3 s65 s66 s67 s68
                    refine W.seq ?_
                    refine W.cndp s68 (fun hlt => ?_) (fun hlt => ?_)
                    · obtain ⟨gb, og, csg, Tg, frg, rfl, hg1, hg2⟩ := hs.1.at (k := j) (by rw [List.length_map]; omega)
                      have hSz := sb_len S
                      rw [hS] at hSz
                      simp only [List.length_append, List.length_cons, List.length_nil, sb_len] at hSz
                      have hvl := vals_len hok j
                      dsimp only at hvl
                      have hjl : j < li.length := by omega
                      have hzj := hok.2.2.2 li[j] (List.getElem_mem hjl)
                      have hij := Lib.itoa_length_le li[j] hzj.1 hzj.2
                      refine W.skip Nx.thn ?_
                      refine W.seq ?_
                      refine W.block ?_
                      refine W.seq ?_
                      refine W.region ?_
                      refine WL.x (X.indexAddr Tryd.underlying46 el3 (s65) (s67) (by omega) (by omega)) rfl ?_
                      refine WL.x (X.load pl3 (lh) ((cu0_0.trans0 (cdh1.trans0 cu1_0)).trans0 hcl |>.at0 hg1) (v := .int .i64 li[j]) (by rw [show og + (j : Int).toNat * 1 = og + j by omega, hg2 j (by rw [List.length_map]; omega), List.getElem?_map, List.getElem?_eq_getElem (by omega)]; rfl)) rfl ?_
                      refine WL.x (X.asg (lh)) rfl ?_
                      refine WL.e5 Nx.thn 3 5 65 66 67 (jt2 rfl (lt rfl (s3))) (lh) (jt2 rfl (lt rfl (s65))) (jt2 rfl (lt rfl (s66))) (jt2 rfl (lt rfl (s67))) ?_
                      intro σ20 s3 s5 s65 s66 s67
                      refine W.region ?_
                      refine WL.x (X.mv (s3)) rfl ?_
                      refine WL.x (X.mv (lt rfl (s5))) rfl ?_
                      refine WL.call1 ce31 (lh) (decimal_ok li[j] w7 hzj.1 hzj.2) rfl ?_
                      rintro _ w8 ⟨rfl, cD⟩
                      refine WL.x (X.addS lc (lh) (by simp only [ByteArray.size_append, szl, size_bs, List.size_toArray, List.length_cons, List.length_nil, List.length_append]; omega)) rfl ?_
                      refine WL.x (X.addS (jt2 rfl (lt rfl (lh))) (lh) (by simp only [ByteArray.size_append, szl, size_bs, List.size_toArray, List.length_cons, List.length_nil, List.length_append]; omega)) rfl ?_
                      refine WL.x (X.asg (lh)) rfl ?_
                      refine WL.e4 (Nx.blk Nx.thn) 3 65 66 67 (lh) (jt4 rfl (jt2 rfl (s65))) (jt4 rfl (jt2 rfl (s66))) (jt4 rfl (jt2 rfl (s67))) ?_
                      intro σ21 s3 s65 s66 s67
                      refine W.region ?_
                      first | refine WL.x (X.add (s67) lc (by omega) (by omega)) rfl ?_ | refine WL.x (X.addw (s67) lc) rfl ?_
                      refine WL.x (X.mv (lh)) rfl ?_
                      refine WL.e4 Nx.thn 3 65 66 67 (jt2 rfl (s3)) (jt2 rfl (s65)) (jt2 rfl (s66)) (lh) ?_
                      intro σ22 s3 s65 s66 s67
                      refine ⟨j + 1, by omega, ⟨s65.trans qo3.symm, s66.trans qo4.symm, trivial⟩, _, s3, s67, (by rw [fm_take hjl]; simp [sb_app, sb_mk, sb_bs, hS, valT]), by omega, hcl.trans0 cD⟩
                    · have hSz := sb_len S
                      rw [hS] at hSz
                      simp only [List.length_append, List.length_cons, List.length_nil, sb_len] at hSz
                      have hvl := vals_len hok j
                      dsimp only at hvl
                      refine W.exit (Nx.xthn (Nx.xthn (Nx.xblk Nx.thn))) ?_
                      refine W.region ?_
                      refine WL.x (X.mv (s3)) rfl ?_
                      refine WL.x (X.addS (lh) lc (by simp only [ByteArray.size_append, szl, size_bs, List.size_toArray, List.length_cons, List.length_nil, List.length_append]; omega)) rfl ?_
                      refine WL.x (X.asg (lh)) rfl ?_
                      refine WL.e1 (Nx.blk Nx.thn) 3 (lh) ?_
                      intro σ23 s3
                      refine W.seq ?_
                      refine W.region ?_
                      refine WL.x (X.mv (s3)) rfl ?_
                      refine WL.x (X.addS (lh) lc (by simp only [ByteArray.size_append, szl, size_bs, List.size_toArray, List.length_cons, List.length_nil, List.length_append]; omega)) rfl ?_
                      refine WL.x (X.asg (lh)) rfl ?_
                      refine WL.e1 Nx.thn 2 (lh) ?_
                      intro σ24 s2
                      refine W.ret1 Nx.f1 s2 ?_
                      first
                        | (have hmv := mid_val hm (by first | exact .inl q1 | exact .inr (.inl q3) | exact .inr (.inr ⟨q4, qh, by simpa using qn⟩)); exact ⟨by rw [opT1, hmv]; exact fin_str (by simp [sb_app, sb_mk, sb_bs, valT]), (cu0_0.trans0 (cdh1.trans0 cu1_0)).trans0 cD⟩)
                        | (have hmv := mid_nil (x := (k, key, val, li, has, nl)) qn2; exact ⟨by rw [opT1, hmv]; exact fin_str (by simp [sb_app, sb_mk, sb_bs]), cu0_0.trans0 (cdh1.trans0 cu1_0)⟩)
                        | (have hmv := mid_list hm q2 qh2; have hje : j = li.length := by omega
                           rw [hje, List.take_length] at hS; exact ⟨by rw [opT1, hmv]; exact fin_str (by simp [sb_app, sb_mk, sb_bs, hS]), (cu0_0.trans0 (cdh1.trans0 cu1_0)).trans0 hcl⟩)
                        | exact ⟨by rw [opT1, mid_non2 hm q1 q3 (by intro h9; simp_all) (by intro h9; simp_all)]; exact fin_str (by simp [sb_app, sb_mk, sb_bs]), cu0_0.trans0 (cdh1.trans0 cu1_0)⟩
                        | skip
                  · refine W.skip (Nx.blk Nx.thn) ?_
                    refine W.seq ?_
                    refine W.region ?_
                    refine WL.x (X.mv (s3)) rfl ?_
                    refine WL.x (X.addS (lh) lc (by simp only [ByteArray.size_append, szl, size_bs, List.size_toArray, List.length_cons, List.length_nil, List.length_append]; omega)) rfl ?_
                    refine WL.x (X.asg (lh)) rfl ?_
                    refine WL.e1 Nx.thn 2 (lh) ?_
                    intro σ25 s2
                    refine W.ret1 Nx.f1 s2 ?_
                    first
                      | (have hmv := mid_val hm (by first | exact .inl q1 | exact .inr (.inl q3) | exact .inr (.inr ⟨q4, qh, by simpa using qn⟩)); exact ⟨by rw [opT1, hmv]; exact fin_str (by simp [sb_app, sb_mk, sb_bs, valT]), (cu0_0.trans0 (cdh1.trans0 cu1_0)).trans0 cD⟩)
                      | (have hmv := mid_nil (x := (k, key, val, li, has, nl)) qn2; exact ⟨by rw [opT1, hmv]; exact fin_str (by simp [sb_app, sb_mk, sb_bs]), cu0_0.trans0 (cdh1.trans0 cu1_0)⟩)
                      | (have hmv := mid_list hm q2 qh2; have hje : j = li.length := by omega
                         rw [hje, List.take_length] at hS; exact ⟨by rw [opT1, hmv]; exact fin_str (by simp [sb_app, sb_mk, sb_bs, hS]), (cu0_0.trans0 (cdh1.trans0 cu1_0)).trans0 hcl⟩)
                      | exact ⟨by rw [opT1, mid_non2 hm q1 q3 (by intro h9; simp_all) (by intro h9; simp_all)]; exact fin_str (by simp [sb_app, sb_mk, sb_bs]), cu0_0.trans0 (cdh1.trans0 cu1_0)⟩
                      | skip
                · refine WL.no rfl rfl (lh) (decide_eq_false q2) rfl ?_
                  refine WL.no rfl rfl (lt rfl (lh)) (decide_eq_false q2) rfl ?_
                  refine WL.x (X.pickF (jt2 rfl (lh)) (decide_eq_false q2) lc) rfl ?_
                  refine WL.x (X.asg (lh)) rfl ?_
                  refine WL.e3 Nx.thn 1 3 54 (jt8 rfl (s1)) (jt8 rfl (s3)) (lh) ?_
                  intro σ26 s1 s3 s54
                  refine W.cndF s54 ?_
                  refine W.skip (Nx.blk Nx.thn) ?_
                  refine W.seq ?_
                  refine W.region ?_
                  refine WL.x (X.mv (s3)) rfl ?_
                  refine WL.x (X.addS (lh) lc (by simp only [ByteArray.size_append, szl, size_bs, List.size_toArray, List.length_cons, List.length_nil, List.length_append]; omega)) rfl ?_
                  refine WL.x (X.asg (lh)) rfl ?_
                  refine WL.e1 Nx.thn 2 (lh) ?_
                  intro σ27 s2
                  refine W.ret1 Nx.f1 s2 ?_
                  first
                    | (have hmv := mid_val hm (by first | exact .inl q1 | exact .inr (.inl q3) | exact .inr (.inr ⟨q4, qh, by simpa using qn⟩)); exact ⟨by rw [opT1, hmv]; exact fin_str (by simp [sb_app, sb_mk, sb_bs, valT]), (cu0_0.trans0 (cdh1.trans0 cu1_0)).trans0 cD⟩)
                    | (have hmv := mid_nil (x := (k, key, val, li, has, nl)) qn2; exact ⟨by rw [opT1, hmv]; exact fin_str (by simp [sb_app, sb_mk, sb_bs]), cu0_0.trans0 (cdh1.trans0 cu1_0)⟩)
                    | (have hmv := mid_list hm q2 qh2; have hje : j = li.length := by omega
                       rw [hje, List.take_length] at hS; exact ⟨by rw [opT1, hmv]; exact fin_str (by simp [sb_app, sb_mk, sb_bs, hS]), (cu0_0.trans0 (cdh1.trans0 cu1_0)).trans0 hcl⟩)
                    | exact ⟨by rw [opT1, mid_non2 hm q1 q3 (by intro h9; simp_all) (by intro h9; simp_all)]; exact fin_str (by simp [sb_app, sb_mk, sb_bs]), cu0_0.trans0 (cdh1.trans0 cu1_0)⟩
                    | skip
            · refine WL.no rfl rfl (lh) (decide_eq_false q4b) rfl ?_
              refine WL.no rfl rfl (lt rfl (lh)) (decide_eq_false q4b) rfl ?_
              refine WL.x (X.pickF (jt2 rfl (lh)) (decide_eq_false q4b) lc) rfl ?_
              refine WL.x (X.asg (lh)) rfl ?_
              refine WL.e3 Nx.thn 1 3 44 (jt8 rfl (s1)) (jt8 rfl (s3)) (lh) ?_
              intro σ28 s1 s3 s44
              refine W.cndF s44 ?_
              refine W.seq ?_
              refine W.region ?_
              refine WL.x (X.fieldAddr fd48_0 (s1)) rfl ?_
              refine WL.x (X.load pl3 (lh) (by first | assumption | exact hS.at (by assumption) (by intro hne; first | exact hne | ((try dsimp only at hne); omega)) | exact hS.at (cu0_0.at0 (by assumption)) (by intro hne; first | exact hne | ((try dsimp only at hne); omega))) (by first | rfl | assumption)) rfl ?_
              refine WL.x (X.eql (lh) lc) rfl ?_
              refine WL.x (X.mv (lh)) rfl ?_
              refine WL.splitp (lh) (fun q2 => ?_) (fun q2 => ?_)
              · refine WL.yes rfl rfl (lh) (decide_eq_true q2) ?_
                refine WL.x (X.fieldAddr fd48_4 (jt4 rfl (s1))) rfl ?_
                refine WL.yes rfl rfl (lt rfl (lh)) (decide_eq_true q2) ?_
                refine WL.x (X.load pl4 (lh) (by first | assumption | exact hS.at (by assumption) (by intro hne; first | exact hne | ((try dsimp only at hne); omega)) | exact hS.at (cu0_0.at0 (by assumption)) (by intro hne; first | exact hne | ((try dsimp only at hne); omega))) (by first | rfl | assumption)) rfl ?_
                refine WL.x (X.pickT (jt2 rfl (lh)) (decide_eq_true q2) (lh)) rfl ?_
                refine WL.x (X.asg (lh)) rfl ?_
                refine WL.e3 Nx.thn 1 3 54 (jt8 rfl (s1)) (jt8 rfl (s3)) (lh) ?_
                intro σ29 s1 s3 s54
                refine W.cnd s54 (fun qh2 => ?_) (fun qh2 => ?_)
                · refine W.seq ?_
                  refine W.region ?_
                  refine WL.x (X.mv (s3)) rfl ?_
                  refine WL.x (X.addS (lh) lc (by simp only [ByteArray.size_append, szl, size_bs, List.size_toArray, List.length_cons, List.length_nil, List.length_append]; omega)) rfl ?_
                  refine WL.x (X.asg (lh)) rfl ?_
                  refine WL.e2 Nx.thn 1 3 (jt2 rfl (lt rfl (s1))) (lh) ?_
                  intro σ30 s1 s3
                  refine W.seq ?_
                  refine W.seq ?_
                  refine W.region ?_
                  refine WL.x (X.fieldAddr fd48_3 (s1)) rfl ?_
                  refine WL.x (v := .slice va li.length vc) (X.load pl46 (lh) (by first | assumption | exact hS.at (by assumption) (by intro hne; first | exact hne | ((try dsimp only at hne); omega)) | exact hS.at (cu0_0.at0 (by assumption)) (by intro hne; first | exact hne | ((try dsimp only at hne); omega))) rfl) rfl ?_
                  refine WL.x (X.lenSl Tryd.underlying46 (lh)) rfl ?_
                  refine WL.x (X.mv lc) rfl ?_
                  refine WL.e4 Nx.thn 3 65 66 67 (jt4 rfl (s3)) (jt2 rfl (lh)) (lt rfl (lh)) (lh) ?_
                  intro σ31 s3 s65 s66 s67
                  refine W.block ?_
                  have qo5 := s65
                  have qo6 := s66
                  -- loop 0: kept [65, 66], varied [3, 67]
                  refine W.loop (G := Nat) (fun j σ' w' => (σ' 65 = σ31 65 ∧ σ' 66 = σ31 66 ∧ True) ∧ (∃ S, σ' 3 = .string S ∧ σ' 67 = .int .i64 (j : Int) ∧ sb S = ([91, 32] ++ (wordO k ++ [32]) ++ sb key ++ [32, 40]) ++ (li.take j).flatMap valT ∧ j ≤ li.length ∧ Ch0 w3 w')) (fun j => li.length - j) (0) ⟨⟨rfl, rfl, trivial⟩, _, s3, s67, (by simp [sb_app, sb_mk, sb_bs]), by omega, Ch.refl _ _⟩ ?_
                  rintro j σ32 w9 ⟨⟨f65, f66, _⟩, S, s3, s67, hS, hj, hcl⟩
                  have s65 := f65.trans qo5
                  have s66 := f66.trans qo6
                  refine W.seq ?_
                  refine W.region ?_
                  refine WL.x (X.lss (s67) (s66)) rfl ?_
                  refine WL.e5 Nx.thn 3 65 66 67 68 (lt rfl (s3)) (lt rfl (s65)) (lt rfl (s66)) (lt rfl (s67)) (lh) ?_
                  intro σ33 s3 s65 s66 s67 s68
                  refine W.seq ?_
                  refine W.cndp s68 (fun hlt => ?_) (fun hlt => ?_)
                  · obtain ⟨gb, og, csg, Tg, frg, rfl, hg1, hg2⟩ := hs.1.at (k := j) (by rw [List.length_map]; omega)
                    have hSz := sb_len S
                    rw [hS] at hSz
                    simp only [List.length_append, List.length_cons, List.length_nil, sb_len] at hSz
                    have hvl := vals_len hok j
                    dsimp only at hvl
                    have hjl : j < li.length := by omega
                    have hzj := hok.2.2.2 li[j] (List.getElem_mem hjl)
                    have hij := Lib.itoa_length_le li[j] hzj.1 hzj.2
                    refine W.skip Nx.thn ?_
                    refine W.seq ?_
                    refine W.block ?_
                    refine W.seq ?_
                    refine W.region ?_
                    refine WL.x (X.indexAddr Tryd.underlying46 el3 (s65) (s67) (by omega) (by omega)) rfl ?_
                    refine WL.x (X.load pl3 (lh) ((cu0_0.trans0 (cdh1.trans0 cu1_0)).trans0 hcl |>.at0 hg1) (v := .int .i64 li[j]) (by rw [show og + (j : Int).toNat * 1 = og + j by omega, hg2 j (by rw [List.length_map]; omega), List.getElem?_map, List.getElem?_eq_getElem (by omega)]; rfl)) rfl ?_
                    refine WL.x (X.asg (lh)) rfl ?_
                    refine WL.e5 Nx.thn 3 5 65 66 67 (jt2 rfl (lt rfl (s3))) (lh) (jt2 rfl (lt rfl (s65))) (jt2 rfl (lt rfl (s66))) (jt2 rfl (lt rfl (s67))) ?_
                    intro σ34 s3 s5 s65 s66 s67
                    refine W.region ?_
                    refine WL.x (X.mv (s3)) rfl ?_
                    refine WL.x (X.mv (lt rfl (s5))) rfl ?_
                    refine WL.call1 ce31 (lh) (decimal_ok li[j] w9 hzj.1 hzj.2) rfl ?_
                    rintro _ w10 ⟨rfl, cD⟩
                    refine WL.x (X.addS lc (lh) (by simp only [ByteArray.size_append, szl, size_bs, List.size_toArray, List.length_cons, List.length_nil, List.length_append]; omega)) rfl ?_
                    refine WL.x (X.addS (jt2 rfl (lt rfl (lh))) (lh) (by simp only [ByteArray.size_append, szl, size_bs, List.size_toArray, List.length_cons, List.length_nil, List.length_append]; omega)) rfl ?_
                    refine WL.x (X.asg (lh)) rfl ?_
                    refine WL.e4 (Nx.blk Nx.thn) 3 65 66 67 (lh) (jt4 rfl (jt2 rfl (s65))) (jt4 rfl (jt2 rfl (s66))) (jt4 rfl (jt2 rfl (s67))) ?_
                    intro σ35 s3 s65 s66 s67
                    refine W.region ?_
                    first | refine WL.x (X.add (s67) lc (by omega) (by omega)) rfl ?_ | refine WL.x (X.addw (s67) lc) rfl ?_
                    refine WL.x (X.mv (lh)) rfl ?_
                    refine WL.e4 Nx.thn 3 65 66 67 (jt2 rfl (s3)) (jt2 rfl (s65)) (jt2 rfl (s66)) (lh) ?_
                    intro σ36 s3 s65 s66 s67
                    refine ⟨j + 1, by omega, ⟨s65.trans qo5.symm, s66.trans qo6.symm, trivial⟩, _, s3, s67, (by rw [fm_take hjl]; simp [sb_app, sb_mk, sb_bs, hS, valT]), by omega, hcl.trans0 cD⟩
                  · have hSz := sb_len S
                    rw [hS] at hSz
                    simp only [List.length_append, List.length_cons, List.length_nil, sb_len] at hSz
                    have hvl := vals_len hok j
                    dsimp only at hvl
                    refine W.exit (Nx.xthn (Nx.xthn (Nx.xblk Nx.thn))) ?_
                    refine W.region ?_
                    refine WL.x (X.mv (s3)) rfl ?_
                    refine WL.x (X.addS (lh) lc (by simp only [ByteArray.size_append, szl, size_bs, List.size_toArray, List.length_cons, List.length_nil, List.length_append]; omega)) rfl ?_
                    refine WL.x (X.asg (lh)) rfl ?_
                    refine WL.e1 (Nx.blk Nx.thn) 3 (lh) ?_
                    intro σ37 s3
                    refine W.seq ?_
                    refine W.region ?_
                    refine WL.x (X.mv (s3)) rfl ?_
                    refine WL.x (X.addS (lh) lc (by simp only [ByteArray.size_append, szl, size_bs, List.size_toArray, List.length_cons, List.length_nil, List.length_append]; omega)) rfl ?_
                    refine WL.x (X.asg (lh)) rfl ?_
                    refine WL.e1 Nx.thn 2 (lh) ?_
                    intro σ38 s2
                    refine W.ret1 Nx.f1 s2 ?_
                    first
                      | (have hmv := mid_val hm (by first | exact .inl q1 | exact .inr (.inl q3) | exact .inr (.inr ⟨q4, qh, by simpa using qn⟩)); exact ⟨by rw [opT1, hmv]; exact fin_str (by simp [sb_app, sb_mk, sb_bs, valT]), (cu0_0.trans0 (cdh1.trans0 cu1_0)).trans0 cD⟩)
                      | (have hmv := mid_nil (x := (k, key, val, li, has, nl)) qn2; exact ⟨by rw [opT1, hmv]; exact fin_str (by simp [sb_app, sb_mk, sb_bs]), cu0_0.trans0 (cdh1.trans0 cu1_0)⟩)
                      | (have hmv := mid_list hm q2 qh2; have hje : j = li.length := by omega
                         rw [hje, List.take_length] at hS; exact ⟨by rw [opT1, hmv]; exact fin_str (by simp [sb_app, sb_mk, sb_bs, hS]), (cu0_0.trans0 (cdh1.trans0 cu1_0)).trans0 hcl⟩)
                      | exact ⟨by rw [opT1, mid_non2 hm q1 q3 (by intro h9; simp_all) (by intro h9; simp_all)]; exact fin_str (by simp [sb_app, sb_mk, sb_bs]), cu0_0.trans0 (cdh1.trans0 cu1_0)⟩
                      | skip
                · refine W.skip (Nx.blk Nx.thn) ?_
                  refine W.seq ?_
                  refine W.region ?_
                  refine WL.x (X.mv (s3)) rfl ?_
                  refine WL.x (X.addS (lh) lc (by simp only [ByteArray.size_append, szl, size_bs, List.size_toArray, List.length_cons, List.length_nil, List.length_append]; omega)) rfl ?_
                  refine WL.x (X.asg (lh)) rfl ?_
                  refine WL.e1 Nx.thn 2 (lh) ?_
                  intro σ39 s2
                  refine W.ret1 Nx.f1 s2 ?_
                  first
                    | (have hmv := mid_val hm (by first | exact .inl q1 | exact .inr (.inl q3) | exact .inr (.inr ⟨q4, qh, by simpa using qn⟩)); exact ⟨by rw [opT1, hmv]; exact fin_str (by simp [sb_app, sb_mk, sb_bs, valT]), (cu0_0.trans0 (cdh1.trans0 cu1_0)).trans0 cD⟩)
                    | (have hmv := mid_nil (x := (k, key, val, li, has, nl)) qn2; exact ⟨by rw [opT1, hmv]; exact fin_str (by simp [sb_app, sb_mk, sb_bs]), cu0_0.trans0 (cdh1.trans0 cu1_0)⟩)
                    | (have hmv := mid_list hm q2 qh2; have hje : j = li.length := by omega
                       rw [hje, List.take_length] at hS; exact ⟨by rw [opT1, hmv]; exact fin_str (by simp [sb_app, sb_mk, sb_bs, hS]), (cu0_0.trans0 (cdh1.trans0 cu1_0)).trans0 hcl⟩)
                    | exact ⟨by rw [opT1, mid_non2 hm q1 q3 (by intro h9; simp_all) (by intro h9; simp_all)]; exact fin_str (by simp [sb_app, sb_mk, sb_bs]), cu0_0.trans0 (cdh1.trans0 cu1_0)⟩
                    | skip
              · refine WL.no rfl rfl (lh) (decide_eq_false q2) rfl ?_
                refine WL.no rfl rfl (lt rfl (lh)) (decide_eq_false q2) rfl ?_
                refine WL.x (X.pickF (jt2 rfl (lh)) (decide_eq_false q2) lc) rfl ?_
                refine WL.x (X.asg (lh)) rfl ?_
                refine WL.e3 Nx.thn 1 3 54 (jt8 rfl (s1)) (jt8 rfl (s3)) (lh) ?_
                intro σ40 s1 s3 s54
                refine W.cndF s54 ?_
                refine W.skip (Nx.blk Nx.thn) ?_
                refine W.seq ?_
                refine W.region ?_
                refine WL.x (X.mv (s3)) rfl ?_
                refine WL.x (X.addS (lh) lc (by simp only [ByteArray.size_append, szl, size_bs, List.size_toArray, List.length_cons, List.length_nil, List.length_append]; omega)) rfl ?_
                refine WL.x (X.asg (lh)) rfl ?_
                refine WL.e1 Nx.thn 2 (lh) ?_
                intro σ41 s2
                refine W.ret1 Nx.f1 s2 ?_
                first
                  | (have hmv := mid_val hm (by first | exact .inl q1 | exact .inr (.inl q3) | exact .inr (.inr ⟨q4, qh, by simpa using qn⟩)); exact ⟨by rw [opT1, hmv]; exact fin_str (by simp [sb_app, sb_mk, sb_bs, valT]), (cu0_0.trans0 (cdh1.trans0 cu1_0)).trans0 cD⟩)
                  | (have hmv := mid_nil (x := (k, key, val, li, has, nl)) qn2; exact ⟨by rw [opT1, hmv]; exact fin_str (by simp [sb_app, sb_mk, sb_bs]), cu0_0.trans0 (cdh1.trans0 cu1_0)⟩)
                  | (have hmv := mid_list hm q2 qh2; have hje : j = li.length := by omega
                     rw [hje, List.take_length] at hS; exact ⟨by rw [opT1, hmv]; exact fin_str (by simp [sb_app, sb_mk, sb_bs, hS]), (cu0_0.trans0 (cdh1.trans0 cu1_0)).trans0 hcl⟩)
                  | exact ⟨by rw [opT1, mid_non2 hm q1 q3 (by intro h9; simp_all) (by intro h9; simp_all)]; exact fin_str (by simp [sb_app, sb_mk, sb_bs]), cu0_0.trans0 (cdh1.trans0 cu1_0)⟩
                  | skip
        · refine WL.no rfl rfl (lh) (qh) rfl ?_
          refine WL.no rfl rfl (lt rfl (lh)) (qh) rfl ?_
          refine WL.no rfl rfl (jt2 rfl (lh)) (qh) rfl ?_
          refine WL.yes rfl rfl (jt8 rfl (jt2 rfl (lt rfl (lh)))) (decide_eq_false q3) ?_
          refine WL.x (X.pickF (jt2 rfl (lt rfl (lh))) (qh) lc) rfl ?_
          refine WL.x (X.pickF (jt8 rfl (jt4 rfl (lh))) (decide_eq_false q3) (lh)) rfl ?_
          refine WL.x (X.asg (lh)) rfl ?_
          refine WL.e3 Nx.thn 1 3 15 (jt8 rfl (jt8 rfl (jt4 rfl (jt2 rfl (lt rfl (s1)))))) (jt8 rfl (jt8 rfl (jt4 rfl (jt2 rfl (lt rfl (s3)))))) (lh) ?_
          intro σ42 s1 s3 s15
          refine W.cndF s15 ?_
          refine W.seq ?_
          refine W.region ?_
          refine WL.x (X.fieldAddr fd48_0 (s1)) rfl ?_
          refine WL.x (X.load pl3 (lh) (by first | assumption | exact hS.at (by assumption) (by intro hne; first | exact hne | ((try dsimp only at hne); omega)) | exact hS.at (cu0_0.at0 (by assumption)) (by intro hne; first | exact hne | ((try dsimp only at hne); omega))) (by first | rfl | assumption)) rfl ?_
          refine WL.x (X.eql (lh) lc) rfl ?_
          refine WL.x (X.mv (lh)) rfl ?_
          refine WL.splitp (lh) (fun q4b => ?_) (fun q4b => ?_)
          · refine WL.yes rfl rfl (lh) (decide_eq_true q4b) ?_
            refine WL.x (X.fieldAddr fd48_5 (jt4 rfl (s1))) rfl ?_
            refine WL.yes rfl rfl (lt rfl (lh)) (decide_eq_true q4b) ?_
            refine WL.x (X.load pl4 (lh) (by first | assumption | exact hS.at (by assumption) (by intro hne; first | exact hne | ((try dsimp only at hne); omega)) | exact hS.at (cu0_0.at0 (by assumption)) (by intro hne; first | exact hne | ((try dsimp only at hne); omega))) (by first | rfl | assumption)) rfl ?_
            refine WL.x (X.pickT (jt2 rfl (lh)) (decide_eq_true q4b) (lh)) rfl ?_
            refine WL.x (X.asg (lh)) rfl ?_
            refine WL.e3 Nx.thn 1 3 44 (jt8 rfl (s1)) (jt8 rfl (s3)) (lh) ?_
            intro σ43 s1 s3 s44
            refine W.cnd s44 (fun qn2 => ?_) (fun qn2 => ?_)
            · refine W.region ?_
              refine WL.x (X.mv (s3)) rfl ?_
              refine WL.x (X.addS (lh) lc (by simp only [ByteArray.size_append, szl, size_bs, List.size_toArray, List.length_cons, List.length_nil, List.length_append]; omega)) rfl ?_
              refine WL.x (X.asg (lh)) rfl ?_
              refine WL.e1 (Nx.blk Nx.thn) 3 (lh) ?_
              intro σ44 s3
              refine W.seq ?_
              refine W.region ?_
              refine WL.x (X.mv (s3)) rfl ?_
              refine WL.x (X.addS (lh) lc (by simp only [ByteArray.size_append, szl, size_bs, List.size_toArray, List.length_cons, List.length_nil, List.length_append]; omega)) rfl ?_
              refine WL.x (X.asg (lh)) rfl ?_
              refine WL.e1 Nx.thn 2 (lh) ?_
              intro σ45 s2
              refine W.ret1 Nx.f1 s2 ?_
              first
                | (have hmv := mid_val hm (by first | exact .inl q1 | exact .inr (.inl q3) | exact .inr (.inr ⟨q4, qh, by simpa using qn⟩)); exact ⟨by rw [opT1, hmv]; exact fin_str (by simp [sb_app, sb_mk, sb_bs, valT]), (cu0_0.trans0 (cdh1.trans0 cu1_0)).trans0 cD⟩)
                | (have hmv := mid_nil (x := (k, key, val, li, has, nl)) qn2; exact ⟨by rw [opT1, hmv]; exact fin_str (by simp [sb_app, sb_mk, sb_bs]), cu0_0.trans0 (cdh1.trans0 cu1_0)⟩)
                | (have hmv := mid_list hm q2 qh2; have hje : j = li.length := by omega
                   rw [hje, List.take_length] at hS; exact ⟨by rw [opT1, hmv]; exact fin_str (by simp [sb_app, sb_mk, sb_bs, hS]), (cu0_0.trans0 (cdh1.trans0 cu1_0)).trans0 hcl⟩)
                | exact ⟨by rw [opT1, mid_non2 hm q1 q3 (by intro h9; simp_all) (by intro h9; simp_all)]; exact fin_str (by simp [sb_app, sb_mk, sb_bs]), cu0_0.trans0 (cdh1.trans0 cu1_0)⟩
                | skip
            · refine W.seq ?_
              refine W.region ?_
              refine WL.x (X.fieldAddr fd48_0 (s1)) rfl ?_
              refine WL.x (X.load pl3 (lh) (by first | assumption | exact hS.at (by assumption) (by intro hne; first | exact hne | ((try dsimp only at hne); omega)) | exact hS.at (cu0_0.at0 (by assumption)) (by intro hne; first | exact hne | ((try dsimp only at hne); omega))) (by first | rfl | assumption)) rfl ?_
              refine WL.x (X.eql (lh) lc) rfl ?_
              refine WL.x (X.mv (lh)) rfl ?_
              refine WL.splitp (lh) (fun q2 => ?_) (fun q2 => ?_)
              · refine WL.yes rfl rfl (lh) (decide_eq_true q2) ?_
                refine WL.x (X.fieldAddr fd48_4 (jt4 rfl (s1))) rfl ?_
                refine WL.yes rfl rfl (lt rfl (lh)) (decide_eq_true q2) ?_
                refine WL.x (X.load pl4 (lh) (by first | assumption | exact hS.at (by assumption) (by intro hne; first | exact hne | ((try dsimp only at hne); omega)) | exact hS.at (cu0_0.at0 (by assumption)) (by intro hne; first | exact hne | ((try dsimp only at hne); omega))) (by first | rfl | assumption)) rfl ?_
                refine WL.x (X.pickT (jt2 rfl (lh)) (decide_eq_true q2) (lh)) rfl ?_
                refine WL.x (X.asg (lh)) rfl ?_
                refine WL.e3 Nx.thn 1 3 54 (jt8 rfl (s1)) (jt8 rfl (s3)) (lh) ?_
                intro σ46 s1 s3 s54
                refine W.cnd s54 (fun qh2 => ?_) (fun qh2 => ?_)
                · refine W.seq ?_
                  refine W.region ?_
                  refine WL.x (X.mv (s3)) rfl ?_
                  refine WL.x (X.addS (lh) lc (by simp only [ByteArray.size_append, szl, size_bs, List.size_toArray, List.length_cons, List.length_nil, List.length_append]; omega)) rfl ?_
                  refine WL.x (X.asg (lh)) rfl ?_
                  refine WL.e2 Nx.thn 1 3 (jt2 rfl (lt rfl (s1))) (lh) ?_
                  intro σ47 s1 s3
                  refine W.seq ?_
                  refine W.seq ?_
                  refine W.region ?_
                  refine WL.x (X.fieldAddr fd48_3 (s1)) rfl ?_
                  refine WL.x (v := .slice va li.length vc) (X.load pl46 (lh) (by first | assumption | exact hS.at (by assumption) (by intro hne; first | exact hne | ((try dsimp only at hne); omega)) | exact hS.at (cu0_0.at0 (by assumption)) (by intro hne; first | exact hne | ((try dsimp only at hne); omega))) rfl) rfl ?_
                  refine WL.x (X.lenSl Tryd.underlying46 (lh)) rfl ?_
                  refine WL.x (X.mv lc) rfl ?_
                  refine WL.e4 Nx.thn 3 65 66 67 (jt4 rfl (s3)) (jt2 rfl (lh)) (lt rfl (lh)) (lh) ?_
                  intro σ48 s3 s65 s66 s67
                  refine W.block ?_
                  have qo7 := s65
                  have qo8 := s66
                  -- loop 0: kept [65, 66], varied [3, 67]
                  refine W.loop (G := Nat) (fun j σ' w' => (σ' 65 = σ48 65 ∧ σ' 66 = σ48 66 ∧ True) ∧ (∃ S, σ' 3 = .string S ∧ σ' 67 = .int .i64 (j : Int) ∧ sb S = ([91, 32] ++ (wordO k ++ [32]) ++ sb key ++ [32, 40]) ++ (li.take j).flatMap valT ∧ j ≤ li.length ∧ Ch0 w3 w')) (fun j => li.length - j) (0) ⟨⟨rfl, rfl, trivial⟩, _, s3, s67, (by simp [sb_app, sb_mk, sb_bs]), by omega, Ch.refl _ _⟩ ?_
                  rintro j σ49 w11 ⟨⟨f65, f66, _⟩, S, s3, s67, hS, hj, hcl⟩
                  have s65 := f65.trans qo7
                  have s66 := f66.trans qo8
                  refine W.seq ?_
                  refine W.region ?_
                  refine WL.x (X.lss (s67) (s66)) rfl ?_
                  refine WL.e5 Nx.thn 3 65 66 67 68 (lt rfl (s3)) (lt rfl (s65)) (lt rfl (s66)) (lt rfl (s67)) (lh) ?_
                  intro σ50 s3 s65 s66 s67 s68
                  refine W.seq ?_
                  refine W.cndp s68 (fun hlt => ?_) (fun hlt => ?_)
                  · obtain ⟨gb, og, csg, Tg, frg, rfl, hg1, hg2⟩ := hs.1.at (k := j) (by rw [List.length_map]; omega)
                    have hSz := sb_len S
                    rw [hS] at hSz
                    simp only [List.length_append, List.length_cons, List.length_nil, sb_len] at hSz
                    have hvl := vals_len hok j
                    dsimp only at hvl
                    have hjl : j < li.length := by omega
                    have hzj := hok.2.2.2 li[j] (List.getElem_mem hjl)
                    have hij := Lib.itoa_length_le li[j] hzj.1 hzj.2
                    refine W.skip Nx.thn ?_
                    refine W.seq ?_
                    refine W.block ?_
                    refine W.seq ?_
                    refine W.region ?_
                    refine WL.x (X.indexAddr Tryd.underlying46 el3 (s65) (s67) (by omega) (by omega)) rfl ?_
                    refine WL.x (X.load pl3 (lh) ((cu0_0.trans0 (cdh1.trans0 cu1_0)).trans0 hcl |>.at0 hg1) (v := .int .i64 li[j]) (by rw [show og + (j : Int).toNat * 1 = og + j by omega, hg2 j (by rw [List.length_map]; omega), List.getElem?_map, List.getElem?_eq_getElem (by omega)]; rfl)) rfl ?_
                    refine WL.x (X.asg (lh)) rfl ?_
                    refine WL.e5 Nx.thn 3 5 65 66 67 (jt2 rfl (lt rfl (s3))) (lh) (jt2 rfl (lt rfl (s65))) (jt2 rfl (lt rfl (s66))) (jt2 rfl (lt rfl (s67))) ?_
                    intro σ51 s3 s5 s65 s66 s67
                    refine W.region ?_
                    refine WL.x (X.mv (s3)) rfl ?_
                    refine WL.x (X.mv (lt rfl (s5))) rfl ?_
                    refine WL.call1 ce31 (lh) (decimal_ok li[j] w11 hzj.1 hzj.2) rfl ?_
                    rintro _ w12 ⟨rfl, cD⟩
                    refine WL.x (X.addS lc (lh) (by simp only [ByteArray.size_append, szl, size_bs, List.size_toArray, List.length_cons, List.length_nil, List.length_append]; omega)) rfl ?_
                    refine WL.x (X.addS (jt2 rfl (lt rfl (lh))) (lh) (by simp only [ByteArray.size_append, szl, size_bs, List.size_toArray, List.length_cons, List.length_nil, List.length_append]; omega)) rfl ?_
                    refine WL.x (X.asg (lh)) rfl ?_
                    refine WL.e4 (Nx.blk Nx.thn) 3 65 66 67 (lh) (jt4 rfl (jt2 rfl (s65))) (jt4 rfl (jt2 rfl (s66))) (jt4 rfl (jt2 rfl (s67))) ?_
                    intro σ52 s3 s65 s66 s67
                    refine W.region ?_
                    first | refine WL.x (X.add (s67) lc (by omega) (by omega)) rfl ?_ | refine WL.x (X.addw (s67) lc) rfl ?_
                    refine WL.x (X.mv (lh)) rfl ?_
                    refine WL.e4 Nx.thn 3 65 66 67 (jt2 rfl (s3)) (jt2 rfl (s65)) (jt2 rfl (s66)) (lh) ?_
                    intro σ53 s3 s65 s66 s67
                    refine ⟨j + 1, by omega, ⟨s65.trans qo7.symm, s66.trans qo8.symm, trivial⟩, _, s3, s67, (by rw [fm_take hjl]; simp [sb_app, sb_mk, sb_bs, hS, valT]), by omega, hcl.trans0 cD⟩
                  · have hSz := sb_len S
                    rw [hS] at hSz
                    simp only [List.length_append, List.length_cons, List.length_nil, sb_len] at hSz
                    have hvl := vals_len hok j
                    dsimp only at hvl
                    refine W.exit (Nx.xthn (Nx.xthn (Nx.xblk Nx.thn))) ?_
                    refine W.region ?_
                    refine WL.x (X.mv (s3)) rfl ?_
                    refine WL.x (X.addS (lh) lc (by simp only [ByteArray.size_append, szl, size_bs, List.size_toArray, List.length_cons, List.length_nil, List.length_append]; omega)) rfl ?_
                    refine WL.x (X.asg (lh)) rfl ?_
                    refine WL.e1 (Nx.blk Nx.thn) 3 (lh) ?_
                    intro σ54 s3
                    refine W.seq ?_
                    refine W.region ?_
                    refine WL.x (X.mv (s3)) rfl ?_
                    refine WL.x (X.addS (lh) lc (by simp only [ByteArray.size_append, szl, size_bs, List.size_toArray, List.length_cons, List.length_nil, List.length_append]; omega)) rfl ?_
                    refine WL.x (X.asg (lh)) rfl ?_
                    refine WL.e1 Nx.thn 2 (lh) ?_
                    intro σ55 s2
                    refine W.ret1 Nx.f1 s2 ?_
                    first
                      | (have hmv := mid_val hm (by first | exact .inl q1 | exact .inr (.inl q3) | exact .inr (.inr ⟨q4, qh, by simpa using qn⟩)); exact ⟨by rw [opT1, hmv]; exact fin_str (by simp [sb_app, sb_mk, sb_bs, valT]), (cu0_0.trans0 (cdh1.trans0 cu1_0)).trans0 cD⟩)
                      | (have hmv := mid_nil (x := (k, key, val, li, has, nl)) qn2; exact ⟨by rw [opT1, hmv]; exact fin_str (by simp [sb_app, sb_mk, sb_bs]), cu0_0.trans0 (cdh1.trans0 cu1_0)⟩)
                      | (have hmv := mid_list hm q2 qh2; have hje : j = li.length := by omega
                         rw [hje, List.take_length] at hS; exact ⟨by rw [opT1, hmv]; exact fin_str (by simp [sb_app, sb_mk, sb_bs, hS]), (cu0_0.trans0 (cdh1.trans0 cu1_0)).trans0 hcl⟩)
                      | exact ⟨by rw [opT1, mid_non2 hm q1 q3 (by intro h9; simp_all) (by intro h9; simp_all)]; exact fin_str (by simp [sb_app, sb_mk, sb_bs]), cu0_0.trans0 (cdh1.trans0 cu1_0)⟩
                      | skip
                · refine W.skip (Nx.blk Nx.thn) ?_
                  refine W.seq ?_
                  refine W.region ?_
                  refine WL.x (X.mv (s3)) rfl ?_
                  refine WL.x (X.addS (lh) lc (by simp only [ByteArray.size_append, szl, size_bs, List.size_toArray, List.length_cons, List.length_nil, List.length_append]; omega)) rfl ?_
                  refine WL.x (X.asg (lh)) rfl ?_
                  refine WL.e1 Nx.thn 2 (lh) ?_
                  intro σ56 s2
                  refine W.ret1 Nx.f1 s2 ?_
                  first
                    | (have hmv := mid_val hm (by first | exact .inl q1 | exact .inr (.inl q3) | exact .inr (.inr ⟨q4, qh, by simpa using qn⟩)); exact ⟨by rw [opT1, hmv]; exact fin_str (by simp [sb_app, sb_mk, sb_bs, valT]), (cu0_0.trans0 (cdh1.trans0 cu1_0)).trans0 cD⟩)
                    | (have hmv := mid_nil (x := (k, key, val, li, has, nl)) qn2; exact ⟨by rw [opT1, hmv]; exact fin_str (by simp [sb_app, sb_mk, sb_bs]), cu0_0.trans0 (cdh1.trans0 cu1_0)⟩)
                    | (have hmv := mid_list hm q2 qh2; have hje : j = li.length := by omega
                       rw [hje, List.take_length] at hS; exact ⟨by rw [opT1, hmv]; exact fin_str (by simp [sb_app, sb_mk, sb_bs, hS]), (cu0_0.trans0 (cdh1.trans0 cu1_0)).trans0 hcl⟩)
                    | exact ⟨by rw [opT1, mid_non2 hm q1 q3 (by intro h9; simp_all) (by intro h9; simp_all)]; exact fin_str (by simp [sb_app, sb_mk, sb_bs]), cu0_0.trans0 (cdh1.trans0 cu1_0)⟩
                    | skip
              · refine WL.no rfl rfl (lh) (decide_eq_false q2) rfl ?_
                refine WL.no rfl rfl (lt rfl (lh)) (decide_eq_false q2) rfl ?_
                refine WL.x (X.pickF (jt2 rfl (lh)) (decide_eq_false q2) lc) rfl ?_
                refine WL.x (X.asg (lh)) rfl ?_
                refine WL.e3 Nx.thn 1 3 54 (jt8 rfl (s1)) (jt8 rfl (s3)) (lh) ?_
                intro σ57 s1 s3 s54
                refine W.cndF s54 ?_
                refine W.skip (Nx.blk Nx.thn) ?_
                refine W.seq ?_
                refine W.region ?_
                refine WL.x (X.mv (s3)) rfl ?_
                refine WL.x (X.addS (lh) lc (by simp only [ByteArray.size_append, szl, size_bs, List.size_toArray, List.length_cons, List.length_nil, List.length_append]; omega)) rfl ?_
                refine WL.x (X.asg (lh)) rfl ?_
                refine WL.e1 Nx.thn 2 (lh) ?_
                intro σ58 s2
                refine W.ret1 Nx.f1 s2 ?_
                first
                  | (have hmv := mid_val hm (by first | exact .inl q1 | exact .inr (.inl q3) | exact .inr (.inr ⟨q4, qh, by simpa using qn⟩)); exact ⟨by rw [opT1, hmv]; exact fin_str (by simp [sb_app, sb_mk, sb_bs, valT]), (cu0_0.trans0 (cdh1.trans0 cu1_0)).trans0 cD⟩)
                  | (have hmv := mid_nil (x := (k, key, val, li, has, nl)) qn2; exact ⟨by rw [opT1, hmv]; exact fin_str (by simp [sb_app, sb_mk, sb_bs]), cu0_0.trans0 (cdh1.trans0 cu1_0)⟩)
                  | (have hmv := mid_list hm q2 qh2; have hje : j = li.length := by omega
                     rw [hje, List.take_length] at hS; exact ⟨by rw [opT1, hmv]; exact fin_str (by simp [sb_app, sb_mk, sb_bs, hS]), (cu0_0.trans0 (cdh1.trans0 cu1_0)).trans0 hcl⟩)
                  | exact ⟨by rw [opT1, mid_non2 hm q1 q3 (by intro h9; simp_all) (by intro h9; simp_all)]; exact fin_str (by simp [sb_app, sb_mk, sb_bs]), cu0_0.trans0 (cdh1.trans0 cu1_0)⟩
                  | skip
          · refine WL.no rfl rfl (lh) (decide_eq_false q4b) rfl ?_
            refine WL.no rfl rfl (lt rfl (lh)) (decide_eq_false q4b) rfl ?_
            refine WL.x (X.pickF (jt2 rfl (lh)) (decide_eq_false q4b) lc) rfl ?_
            refine WL.x (X.asg (lh)) rfl ?_
            refine WL.e3 Nx.thn 1 3 44 (jt8 rfl (s1)) (jt8 rfl (s3)) (lh) ?_
            intro σ59 s1 s3 s44
            refine W.cndF s44 ?_
            refine W.seq ?_
            refine W.region ?_
            refine WL.x (X.fieldAddr fd48_0 (s1)) rfl ?_
            refine WL.x (X.load pl3 (lh) (by first | assumption | exact hS.at (by assumption) (by intro hne; first | exact hne | ((try dsimp only at hne); omega)) | exact hS.at (cu0_0.at0 (by assumption)) (by intro hne; first | exact hne | ((try dsimp only at hne); omega))) (by first | rfl | assumption)) rfl ?_
            refine WL.x (X.eql (lh) lc) rfl ?_
            refine WL.x (X.mv (lh)) rfl ?_
            refine WL.splitp (lh) (fun q2 => ?_) (fun q2 => ?_)
            · refine WL.yes rfl rfl (lh) (decide_eq_true q2) ?_
              refine WL.x (X.fieldAddr fd48_4 (jt4 rfl (s1))) rfl ?_
              refine WL.yes rfl rfl (lt rfl (lh)) (decide_eq_true q2) ?_
              refine WL.x (X.load pl4 (lh) (by first | assumption | exact hS.at (by assumption) (by intro hne; first | exact hne | ((try dsimp only at hne); omega)) | exact hS.at (cu0_0.at0 (by assumption)) (by intro hne; first | exact hne | ((try dsimp only at hne); omega))) (by first | rfl | assumption)) rfl ?_
              refine WL.x (X.pickT (jt2 rfl (lh)) (decide_eq_true q2) (lh)) rfl ?_
              refine WL.x (X.asg (lh)) rfl ?_
              refine WL.e3 Nx.thn 1 3 54 (jt8 rfl (s1)) (jt8 rfl (s3)) (lh) ?_
              intro σ60 s1 s3 s54
              refine W.cnd s54 (fun qh2 => ?_) (fun qh2 => ?_)
              · refine W.seq ?_
                refine W.region ?_
                refine WL.x (X.mv (s3)) rfl ?_
                refine WL.x (X.addS (lh) lc (by simp only [ByteArray.size_append, szl, size_bs, List.size_toArray, List.length_cons, List.length_nil, List.length_append]; omega)) rfl ?_
                refine WL.x (X.asg (lh)) rfl ?_
                refine WL.e2 Nx.thn 1 3 (jt2 rfl (lt rfl (s1))) (lh) ?_
                intro σ61 s1 s3
                refine W.seq ?_
                refine W.seq ?_
                refine W.region ?_
                refine WL.x (X.fieldAddr fd48_3 (s1)) rfl ?_
                refine WL.x (v := .slice va li.length vc) (X.load pl46 (lh) (by first | assumption | exact hS.at (by assumption) (by intro hne; first | exact hne | ((try dsimp only at hne); omega)) | exact hS.at (cu0_0.at0 (by assumption)) (by intro hne; first | exact hne | ((try dsimp only at hne); omega))) rfl) rfl ?_
                refine WL.x (X.lenSl Tryd.underlying46 (lh)) rfl ?_
                refine WL.x (X.mv lc) rfl ?_
                refine WL.e4 Nx.thn 3 65 66 67 (jt4 rfl (s3)) (jt2 rfl (lh)) (lt rfl (lh)) (lh) ?_
                intro σ62 s3 s65 s66 s67
                refine W.block ?_
                have qo9 := s65
                have qo10 := s66
                -- loop 0: kept [65, 66], varied [3, 67]
                refine W.loop (G := Nat) (fun j σ' w' => (σ' 65 = σ62 65 ∧ σ' 66 = σ62 66 ∧ True) ∧ (∃ S, σ' 3 = .string S ∧ σ' 67 = .int .i64 (j : Int) ∧ sb S = ([91, 32] ++ (wordO k ++ [32]) ++ sb key ++ [32, 40]) ++ (li.take j).flatMap valT ∧ j ≤ li.length ∧ Ch0 w3 w')) (fun j => li.length - j) (0) ⟨⟨rfl, rfl, trivial⟩, _, s3, s67, (by simp [sb_app, sb_mk, sb_bs]), by omega, Ch.refl _ _⟩ ?_
                rintro j σ63 w13 ⟨⟨f65, f66, _⟩, S, s3, s67, hS, hj, hcl⟩
                have s65 := f65.trans qo9
                have s66 := f66.trans qo10
                refine W.seq ?_
                refine W.region ?_
                refine WL.x (X.lss (s67) (s66)) rfl ?_
                refine WL.e5 Nx.thn 3 65 66 67 68 (lt rfl (s3)) (lt rfl (s65)) (lt rfl (s66)) (lt rfl (s67)) (lh) ?_
                intro σ64 s3 s65 s66 s67 s68
                refine W.seq ?_
                refine W.cndp s68 (fun hlt => ?_) (fun hlt => ?_)
                · obtain ⟨gb, og, csg, Tg, frg, rfl, hg1, hg2⟩ := hs.1.at (k := j) (by rw [List.length_map]; omega)
                  have hSz := sb_len S
                  rw [hS] at hSz
                  simp only [List.length_append, List.length_cons, List.length_nil, sb_len] at hSz
                  have hvl := vals_len hok j
                  dsimp only at hvl
                  have hjl : j < li.length := by omega
                  have hzj := hok.2.2.2 li[j] (List.getElem_mem hjl)
                  have hij := Lib.itoa_length_le li[j] hzj.1 hzj.2
                  refine W.skip Nx.thn ?_
                  refine W.seq ?_
                  refine W.block ?_
                  refine W.seq ?_
                  refine W.region ?_
                  refine WL.x (X.indexAddr Tryd.underlying46 el3 (s65) (s67) (by omega) (by omega)) rfl ?_
                  refine WL.x (X.load pl3 (lh) ((cu0_0.trans0 (cdh1.trans0 cu1_0)).trans0 hcl |>.at0 hg1) (v := .int .i64 li[j]) (by rw [show og + (j : Int).toNat * 1 = og + j by omega, hg2 j (by rw [List.length_map]; omega), List.getElem?_map, List.getElem?_eq_getElem (by omega)]; rfl)) rfl ?_
                  refine WL.x (X.asg (lh)) rfl ?_
                  refine WL.e5 Nx.thn 3 5 65 66 67 (jt2 rfl (lt rfl (s3))) (lh) (jt2 rfl (lt rfl (s65))) (jt2 rfl (lt rfl (s66))) (jt2 rfl (lt rfl (s67))) ?_
                  intro σ65 s3 s5 s65 s66 s67
                  refine W.region ?_
                  refine WL.x (X.mv (s3)) rfl ?_
                  refine WL.x (X.mv (lt rfl (s5))) rfl ?_
                  refine WL.call1 ce31 (lh) (decimal_ok li[j] w13 hzj.1 hzj.2) rfl ?_
                  rintro _ w14 ⟨rfl, cD⟩
                  refine WL.x (X.addS lc (lh) (by simp only [ByteArray.size_append, szl, size_bs, List.size_toArray, List.length_cons, List.length_nil, List.length_append]; omega)) rfl ?_
                  refine WL.x (X.addS (jt2 rfl (lt rfl (lh))) (lh) (by simp only [ByteArray.size_append, szl, size_bs, List.size_toArray, List.length_cons, List.length_nil, List.length_append]; omega)) rfl ?_
                  refine WL.x (X.asg (lh)) rfl ?_
                  refine WL.e4 (Nx.blk Nx.thn) 3 65 66 67 (lh) (jt4 rfl (jt2 rfl (s65))) (jt4 rfl (jt2 rfl (s66))) (jt4 rfl (jt2 rfl (s67))) ?_
                  intro σ66 s3 s65 s66 s67
                  refine W.region ?_
                  first | refine WL.x (X.add (s67) lc (by omega) (by omega)) rfl ?_ | refine WL.x (X.addw (s67) lc) rfl ?_
                  refine WL.x (X.mv (lh)) rfl ?_
                  refine WL.e4 Nx.thn 3 65 66 67 (jt2 rfl (s3)) (jt2 rfl (s65)) (jt2 rfl (s66)) (lh) ?_
                  intro σ67 s3 s65 s66 s67
                  refine ⟨j + 1, by omega, ⟨s65.trans qo9.symm, s66.trans qo10.symm, trivial⟩, _, s3, s67, (by rw [fm_take hjl]; simp [sb_app, sb_mk, sb_bs, hS, valT]), by omega, hcl.trans0 cD⟩
                · have hSz := sb_len S
                  rw [hS] at hSz
                  simp only [List.length_append, List.length_cons, List.length_nil, sb_len] at hSz
                  have hvl := vals_len hok j
                  dsimp only at hvl
                  refine W.exit (Nx.xthn (Nx.xthn (Nx.xblk Nx.thn))) ?_
                  refine W.region ?_
                  refine WL.x (X.mv (s3)) rfl ?_
                  refine WL.x (X.addS (lh) lc (by simp only [ByteArray.size_append, szl, size_bs, List.size_toArray, List.length_cons, List.length_nil, List.length_append]; omega)) rfl ?_
                  refine WL.x (X.asg (lh)) rfl ?_
                  refine WL.e1 (Nx.blk Nx.thn) 3 (lh) ?_
                  intro σ68 s3
                  refine W.seq ?_
                  refine W.region ?_
                  refine WL.x (X.mv (s3)) rfl ?_
                  refine WL.x (X.addS (lh) lc (by simp only [ByteArray.size_append, szl, size_bs, List.size_toArray, List.length_cons, List.length_nil, List.length_append]; omega)) rfl ?_
                  refine WL.x (X.asg (lh)) rfl ?_
                  refine WL.e1 Nx.thn 2 (lh) ?_
                  intro σ69 s2
                  refine W.ret1 Nx.f1 s2 ?_
                  first
                    | (have hmv := mid_val hm (by first | exact .inl q1 | exact .inr (.inl q3) | exact .inr (.inr ⟨q4, qh, by simpa using qn⟩)); exact ⟨by rw [opT1, hmv]; exact fin_str (by simp [sb_app, sb_mk, sb_bs, valT]), (cu0_0.trans0 (cdh1.trans0 cu1_0)).trans0 cD⟩)
                    | (have hmv := mid_nil (x := (k, key, val, li, has, nl)) qn2; exact ⟨by rw [opT1, hmv]; exact fin_str (by simp [sb_app, sb_mk, sb_bs]), cu0_0.trans0 (cdh1.trans0 cu1_0)⟩)
                    | (have hmv := mid_list hm q2 qh2; have hje : j = li.length := by omega
                       rw [hje, List.take_length] at hS; exact ⟨by rw [opT1, hmv]; exact fin_str (by simp [sb_app, sb_mk, sb_bs, hS]), (cu0_0.trans0 (cdh1.trans0 cu1_0)).trans0 hcl⟩)
                    | exact ⟨by rw [opT1, mid_non2 hm q1 q3 (by intro h9; simp_all) (by intro h9; simp_all)]; exact fin_str (by simp [sb_app, sb_mk, sb_bs]), cu0_0.trans0 (cdh1.trans0 cu1_0)⟩
                    | skip
              · refine W.skip (Nx.blk Nx.thn) ?_
                refine W.seq ?_
                refine W.region ?_
                refine WL.x (X.mv (s3)) rfl ?_
                refine WL.x (X.addS (lh) lc (by simp only [ByteArray.size_append, szl, size_bs, List.size_toArray, List.length_cons, List.length_nil, List.length_append]; omega)) rfl ?_
                refine WL.x (X.asg (lh)) rfl ?_
                refine WL.e1 Nx.thn 2 (lh) ?_
                intro σ70 s2
                refine W.ret1 Nx.f1 s2 ?_
                first
                  | (have hmv := mid_val hm (by first | exact .inl q1 | exact .inr (.inl q3) | exact .inr (.inr ⟨q4, qh, by simpa using qn⟩)); exact ⟨by rw [opT1, hmv]; exact fin_str (by simp [sb_app, sb_mk, sb_bs, valT]), (cu0_0.trans0 (cdh1.trans0 cu1_0)).trans0 cD⟩)
                  | (have hmv := mid_nil (x := (k, key, val, li, has, nl)) qn2; exact ⟨by rw [opT1, hmv]; exact fin_str (by simp [sb_app, sb_mk, sb_bs]), cu0_0.trans0 (cdh1.trans0 cu1_0)⟩)
                  | (have hmv := mid_list hm q2 qh2; have hje : j = li.length := by omega
                     rw [hje, List.take_length] at hS; exact ⟨by rw [opT1, hmv]; exact fin_str (by simp [sb_app, sb_mk, sb_bs, hS]), (cu0_0.trans0 (cdh1.trans0 cu1_0)).trans0 hcl⟩)
                  | exact ⟨by rw [opT1, mid_non2 hm q1 q3 (by intro h9; simp_all) (by intro h9; simp_all)]; exact fin_str (by simp [sb_app, sb_mk, sb_bs]), cu0_0.trans0 (cdh1.trans0 cu1_0)⟩
                  | skip
            · refine WL.no rfl rfl (lh) (decide_eq_false q2) rfl ?_
              refine WL.no rfl rfl (lt rfl (lh)) (decide_eq_false q2) rfl ?_
              refine WL.x (X.pickF (jt2 rfl (lh)) (decide_eq_false q2) lc) rfl ?_
              refine WL.x (X.asg (lh)) rfl ?_
              refine WL.e3 Nx.thn 1 3 54 (jt8 rfl (s1)) (jt8 rfl (s3)) (lh) ?_
              intro σ71 s1 s3 s54
              refine W.cndF s54 ?_
              refine W.skip (Nx.blk Nx.thn) ?_
              refine W.seq ?_
              refine W.region ?_
              refine WL.x (X.mv (s3)) rfl ?_
              refine WL.x (X.addS (lh) lc (by simp only [ByteArray.size_append, szl, size_bs, List.size_toArray, List.length_cons, List.length_nil, List.length_append]; omega)) rfl ?_
              refine WL.x (X.asg (lh)) rfl ?_
              refine WL.e1 Nx.thn 2 (lh) ?_
              intro σ72 s2
              refine W.ret1 Nx.f1 s2 ?_
              first
                | (have hmv := mid_val hm (by first | exact .inl q1 | exact .inr (.inl q3) | exact .inr (.inr ⟨q4, qh, by simpa using qn⟩)); exact ⟨by rw [opT1, hmv]; exact fin_str (by simp [sb_app, sb_mk, sb_bs, valT]), (cu0_0.trans0 (cdh1.trans0 cu1_0)).trans0 cD⟩)
                | (have hmv := mid_nil (x := (k, key, val, li, has, nl)) qn2; exact ⟨by rw [opT1, hmv]; exact fin_str (by simp [sb_app, sb_mk, sb_bs]), cu0_0.trans0 (cdh1.trans0 cu1_0)⟩)
                | (have hmv := mid_list hm q2 qh2; have hje : j = li.length := by omega
                   rw [hje, List.take_length] at hS; exact ⟨by rw [opT1, hmv]; exact fin_str (by simp [sb_app, sb_mk, sb_bs, hS]), (cu0_0.trans0 (cdh1.trans0 cu1_0)).trans0 hcl⟩)
                | exact ⟨by rw [opT1, mid_non2 hm q1 q3 (by intro h9; simp_all) (by intro h9; simp_all)]; exact fin_str (by simp [sb_app, sb_mk, sb_bs]), cu0_0.trans0 (cdh1.trans0 cu1_0)⟩
                | skip
      · refine WL.no rfl rfl (lh) (decide_eq_false q4) rfl ?_
        refine WL.no rfl rfl (lt rfl (lh)) (decide_eq_false q4) rfl ?_
        refine WL.yes rfl rfl (jt4 rfl (jt2 rfl (lh))) (decide_eq_false q3) ?_
        refine WL.x (X.pickF (jt2 rfl (lh)) (decide_eq_false q4) lc) rfl ?_
        refine WL.yes rfl rfl (jt4 rfl (jt2 rfl (lt rfl (lh)))) (decide_eq_false q3) ?_
        refine WL.x (X.mv (lh)) rfl ?_
        refine WL.no rfl rfl (lh) rfl rfl ?_
        refine WL.no rfl rfl (lt rfl (lh)) rfl rfl ?_
        refine WL.no rfl rfl (jt2 rfl (lh)) rfl rfl ?_
        refine WL.yes rfl rfl (jt8 rfl (jt2 rfl (lt rfl (lh)))) (decide_eq_false q3) ?_
        refine WL.x (X.pickF (jt2 rfl (lt rfl (lh))) rfl lc) rfl ?_
        refine WL.x (X.pickF (jt8 rfl (jt4 rfl (lh))) (decide_eq_false q3) (lh)) rfl ?_
        refine WL.x (X.asg (lh)) rfl ?_
        refine WL.e3 Nx.thn 1 3 15 (jt8 rfl (jt8 rfl (jt4 rfl (jt2 rfl (lt rfl (s1)))))) (jt8 rfl (jt8 rfl (jt4 rfl (jt2 rfl (lt rfl (s3)))))) (lh) ?_
        intro σ73 s1 s3 s15
        refine W.cndF s15 ?_
        refine W.seq ?_
        refine W.region ?_
        refine WL.x (X.fieldAddr fd48_0 (s1)) rfl ?_
        refine WL.x (X.load pl3 (lh) (by first | assumption | exact hS.at (by assumption) (by intro hne; first | exact hne | ((try dsimp only at hne); omega)) | exact hS.at (cu0_0.at0 (by assumption)) (by intro hne; first | exact hne | ((try dsimp only at hne); omega))) (by first | rfl | assumption)) rfl ?_
        refine WL.x (X.eql (lh) lc) rfl ?_
        refine WL.x (X.mv (lh)) rfl ?_
        refine WL.splitp (lh) (fun q4b => ?_) (fun q4b => ?_)
        · refine WL.yes rfl rfl (lh) (decide_eq_true q4b) ?_
          refine WL.x (X.fieldAddr fd48_5 (jt4 rfl (s1))) rfl ?_
          refine WL.yes rfl rfl (lt rfl (lh)) (decide_eq_true q4b) ?_
          refine WL.x (X.load pl4 (lh) (by first | assumption | exact hS.at (by assumption) (by intro hne; first | exact hne | ((try dsimp only at hne); omega)) | exact hS.at (cu0_0.at0 (by assumption)) (by intro hne; first | exact hne | ((try dsimp only at hne); omega))) (by first | rfl | assumption)) rfl ?_
          refine WL.x (X.pickT (jt2 rfl (lh)) (decide_eq_true q4b) (lh)) rfl ?_
          refine WL.x (X.asg (lh)) rfl ?_
          refine WL.e3 Nx.thn 1 3 44 (jt8 rfl (s1)) (jt8 rfl (s3)) (lh) ?_
          intro σ74 s1 s3 s44
          refine W.cnd s44 (fun qn2 => ?_) (fun qn2 => ?_)
          · refine W.region ?_
            refine WL.x (X.mv (s3)) rfl ?_
            refine WL.x (X.addS (lh) lc (by simp only [ByteArray.size_append, szl, size_bs, List.size_toArray, List.length_cons, List.length_nil, List.length_append]; omega)) rfl ?_
            refine WL.x (X.asg (lh)) rfl ?_
            refine WL.e1 (Nx.blk Nx.thn) 3 (lh) ?_
            intro σ75 s3
            refine W.seq ?_
            refine W.region ?_
            refine WL.x (X.mv (s3)) rfl ?_
            refine WL.x (X.addS (lh) lc (by simp only [ByteArray.size_append, szl, size_bs, List.size_toArray, List.length_cons, List.length_nil, List.length_append]; omega)) rfl ?_
            refine WL.x (X.asg (lh)) rfl ?_
            refine WL.e1 Nx.thn 2 (lh) ?_
            intro σ76 s2
            refine W.ret1 Nx.f1 s2 ?_
            first
              | (have hmv := mid_val hm (by first | exact .inl q1 | exact .inr (.inl q3) | exact .inr (.inr ⟨q4, qh, by simpa using qn⟩)); exact ⟨by rw [opT1, hmv]; exact fin_str (by simp [sb_app, sb_mk, sb_bs, valT]), (cu0_0.trans0 (cdh1.trans0 cu1_0)).trans0 cD⟩)
              | (have hmv := mid_nil (x := (k, key, val, li, has, nl)) qn2; exact ⟨by rw [opT1, hmv]; exact fin_str (by simp [sb_app, sb_mk, sb_bs]), cu0_0.trans0 (cdh1.trans0 cu1_0)⟩)
              | (have hmv := mid_list hm q2 qh2; have hje : j = li.length := by omega
                 rw [hje, List.take_length] at hS; exact ⟨by rw [opT1, hmv]; exact fin_str (by simp [sb_app, sb_mk, sb_bs, hS]), (cu0_0.trans0 (cdh1.trans0 cu1_0)).trans0 hcl⟩)
              | exact ⟨by rw [opT1, mid_non2 hm q1 q3 (by intro h9; simp_all) (by intro h9; simp_all)]; exact fin_str (by simp [sb_app, sb_mk, sb_bs]), cu0_0.trans0 (cdh1.trans0 cu1_0)⟩
              | skip
          · refine W.seq ?_
            refine W.region ?_
            refine WL.x (X.fieldAddr fd48_0 (s1)) rfl ?_
            refine WL.x (X.load pl3 (lh) (by first | assumption | exact hS.at (by assumption) (by intro hne; first | exact hne | ((try dsimp only at hne); omega)) | exact hS.at (cu0_0.at0 (by assumption)) (by intro hne; first | exact hne | ((try dsimp only at hne); omega))) (by first | rfl | assumption)) rfl ?_
            refine WL.x (X.eql (lh) lc) rfl ?_
            refine WL.x (X.mv (lh)) rfl ?_
            refine WL.splitp (lh) (fun q2 => ?_) (fun q2 => ?_)
            · refine WL.yes rfl rfl (lh) (decide_eq_true q2) ?_
              refine WL.x (X.fieldAddr fd48_4 (jt4 rfl (s1))) rfl ?_
              refine WL.yes rfl rfl (lt rfl (lh)) (decide_eq_true q2) ?_
              refine WL.x (X.load pl4 (lh) (by first | assumption | exact hS.at (by assumption) (by intro hne; first | exact hne | ((try dsimp only at hne); omega)) | exact hS.at (cu0_0.at0 (by assumption)) (by intro hne; first | exact hne | ((try dsimp only at hne); omega))) (by first | rfl | assumption)) rfl ?_
              refine WL.x (X.pickT (jt2 rfl (lh)) (decide_eq_true q2) (lh)) rfl ?_
              refine WL.x (X.asg (lh)) rfl ?_
              refine WL.e3 Nx.thn 1 3 54 (jt8 rfl (s1)) (jt8 rfl (s3)) (lh) ?_
              intro σ77 s1 s3 s54
              refine W.cnd s54 (fun qh2 => ?_) (fun qh2 => ?_)
              · refine W.seq ?_
                refine W.region ?_
                refine WL.x (X.mv (s3)) rfl ?_
                refine WL.x (X.addS (lh) lc (by simp only [ByteArray.size_append, szl, size_bs, List.size_toArray, List.length_cons, List.length_nil, List.length_append]; omega)) rfl ?_
                refine WL.x (X.asg (lh)) rfl ?_
                refine WL.e2 Nx.thn 1 3 (jt2 rfl (lt rfl (s1))) (lh) ?_
                intro σ78 s1 s3
                refine W.seq ?_
                refine W.seq ?_
                refine W.region ?_
                refine WL.x (X.fieldAddr fd48_3 (s1)) rfl ?_
                refine WL.x (v := .slice va li.length vc) (X.load pl46 (lh) (by first | assumption | exact hS.at (by assumption) (by intro hne; first | exact hne | ((try dsimp only at hne); omega)) | exact hS.at (cu0_0.at0 (by assumption)) (by intro hne; first | exact hne | ((try dsimp only at hne); omega))) rfl) rfl ?_
                refine WL.x (X.lenSl Tryd.underlying46 (lh)) rfl ?_
                refine WL.x (X.mv lc) rfl ?_
                refine WL.e4 Nx.thn 3 65 66 67 (jt4 rfl (s3)) (jt2 rfl (lh)) (lt rfl (lh)) (lh) ?_
                intro σ79 s3 s65 s66 s67
                refine W.block ?_
                have qo11 := s65
                have qo12 := s66
                -- loop 0: kept [65, 66], varied [3, 67]
                refine W.loop (G := Nat) (fun j σ' w' => (σ' 65 = σ79 65 ∧ σ' 66 = σ79 66 ∧ True) ∧ (∃ S, σ' 3 = .string S ∧ σ' 67 = .int .i64 (j : Int) ∧ sb S = ([91, 32] ++ (wordO k ++ [32]) ++ sb key ++ [32, 40]) ++ (li.take j).flatMap valT ∧ j ≤ li.length ∧ Ch0 w3 w')) (fun j => li.length - j) (0) ⟨⟨rfl, rfl, trivial⟩, _, s3, s67, (by simp [sb_app, sb_mk, sb_bs]), by omega, Ch.refl _ _⟩ ?_
                rintro j σ80 w15 ⟨⟨f65, f66, _⟩, S, s3, s67, hS, hj, hcl⟩
                have s65 := f65.trans qo11
                have s66 := f66.trans qo12
                refine W.seq ?_
                refine W.region ?_
                refine WL.x (X.lss (s67) (s66)) rfl ?_
                refine WL.e5 Nx.thn 3 65 66 67 68 (lt rfl (s3)) (lt rfl (s65)) (lt rfl (s66)) (lt rfl (s67)) (lh) ?_
                intro σ81 s3 s65 s66 s67 s68
                refine W.seq ?_
                refine W.cndp s68 (fun hlt => ?_) (fun hlt => ?_)
                · obtain ⟨gb, og, csg, Tg, frg, rfl, hg1, hg2⟩ := hs.1.at (k := j) (by rw [List.length_map]; omega)
                  have hSz := sb_len S
                  rw [hS] at hSz
                  simp only [List.length_append, List.length_cons, List.length_nil, sb_len] at hSz
                  have hvl := vals_len hok j
                  dsimp only at hvl
                  have hjl : j < li.length := by omega
                  have hzj := hok.2.2.2 li[j] (List.getElem_mem hjl)
                  have hij := Lib.itoa_length_le li[j] hzj.1 hzj.2
                  refine W.skip Nx.thn ?_
                  refine W.seq ?_
                  refine W.block ?_
                  refine W.seq ?_
                  refine W.region ?_
                  refine WL.x (X.indexAddr Tryd.underlying46 el3 (s65) (s67) (by omega) (by omega)) rfl ?_
                  refine WL.x (X.load pl3 (lh) ((cu0_0.trans0 (cdh1.trans0 cu1_0)).trans0 hcl |>.at0 hg1) (v := .int .i64 li[j]) (by rw [show og + (j : Int).toNat * 1 = og + j by omega, hg2 j (by rw [List.length_map]; omega), List.getElem?_map, List.getElem?_eq_getElem (by omega)]; rfl)) rfl ?_
                  refine WL.x (X.asg (lh)) rfl ?_
                  refine WL.e5 Nx.thn 3 5 65 66 67 (jt2 rfl (lt rfl (s3))) (lh) (jt2 rfl (lt rfl (s65))) (jt2 rfl (lt rfl (s66))) (jt2 rfl (lt rfl (s67))) ?_
                  intro σ82 s3 s5 s65 s66 s67
                  refine W.region ?_
                  refine WL.x (X.mv (s3)) rfl ?_
                  refine WL.x (X.mv (lt rfl (s5))) rfl ?_
                  refine WL.call1 ce31 (lh) (decimal_ok li[j] w15 hzj.1 hzj.2) rfl ?_
                  rintro _ w16 ⟨rfl, cD⟩
                  refine WL.x (X.addS lc (lh) (by simp only [ByteArray.size_append, szl, size_bs, List.size_toArray, List.length_cons, List.length_nil, List.length_append]; omega)) rfl ?_
                  refine WL.x (X.addS (jt2 rfl (lt rfl (lh))) (lh) (by simp only [ByteArray.size_append, szl, size_bs, List.size_toArray, List.length_cons, List.length_nil, List.length_append]; omega)) rfl ?_
                  refine WL.x (X.asg (lh)) rfl ?_
                  refine WL.e4 (Nx.blk Nx.thn) 3 65 66 67 (lh) (jt4 rfl (jt2 rfl (s65))) (jt4 rfl (jt2 rfl (s66))) (jt4 rfl (jt2 rfl (s67))) ?_
                  intro σ83 s3 s65 s66 s67
                  refine W.region ?_
                  first | refine WL.x (X.add (s67) lc (by omega) (by omega)) rfl ?_ | refine WL.x (X.addw (s67) lc) rfl ?_
                  refine WL.x (X.mv (lh)) rfl ?_
                  refine WL.e4 Nx.thn 3 65 66 67 (jt2 rfl (s3)) (jt2 rfl (s65)) (jt2 rfl (s66)) (lh) ?_
                  intro σ84 s3 s65 s66 s67
                  refine ⟨j + 1, by omega, ⟨s65.trans qo11.symm, s66.trans qo12.symm, trivial⟩, _, s3, s67, (by rw [fm_take hjl]; simp [sb_app, sb_mk, sb_bs, hS, valT]), by omega, hcl.trans0 cD⟩
                · have hSz := sb_len S
                  rw [hS] at hSz
                  simp only [List.length_append, List.length_cons, List.length_nil, sb_len] at hSz
                  have hvl := vals_len hok j
                  dsimp only at hvl
                  refine W.exit (Nx.xthn (Nx.xthn (Nx.xblk Nx.thn))) ?_
                  refine W.region ?_
                  refine WL.x (X.mv (s3)) rfl ?_
                  refine WL.x (X.addS (lh) lc (by simp only [ByteArray.size_append, szl, size_bs, List.size_toArray, List.length_cons, List.length_nil, List.length_append]; omega)) rfl ?_
                  refine WL.x (X.asg (lh)) rfl ?_
                  refine WL.e1 (Nx.blk Nx.thn) 3 (lh) ?_
                  intro σ85 s3
                  refine W.seq ?_
                  refine W.region ?_
                  refine WL.x (X.mv (s3)) rfl ?_
                  refine WL.x (X.addS (lh) lc (by simp only [ByteArray.size_append, szl, size_bs, List.size_toArray, List.length_cons, List.length_nil, List.length_append]; omega)) rfl ?_
                  refine WL.x (X.asg (lh)) rfl ?_
                  refine WL.e1 Nx.thn 2 (lh) ?_
                  intro σ86 s2
                  refine W.ret1 Nx.f1 s2 ?_
                  first
                    | (have hmv := mid_val hm (by first | exact .inl q1 | exact .inr (.inl q3) | exact .inr (.inr ⟨q4, qh, by simpa using qn⟩)); exact ⟨by rw [opT1, hmv]; exact fin_str (by simp [sb_app, sb_mk, sb_bs, valT]), (cu0_0.trans0 (cdh1.trans0 cu1_0)).trans0 cD⟩)
                    | (have hmv := mid_nil (x := (k, key, val, li, has, nl)) qn2; exact ⟨by rw [opT1, hmv]; exact fin_str (by simp [sb_app, sb_mk, sb_bs]), cu0_0.trans0 (cdh1.trans0 cu1_0)⟩)
                    | (have hmv := mid_list hm q2 qh2; have hje : j = li.length := by omega
                       rw [hje, List.take_length] at hS; exact ⟨by rw [opT1, hmv]; exact fin_str (by simp [sb_app, sb_mk, sb_bs, hS]), (cu0_0.trans0 (cdh1.trans0 cu1_0)).trans0 hcl⟩)
                    | exact ⟨by rw [opT1, mid_non2 hm q1 q3 (by intro h9; simp_all) (by intro h9; simp_all)]; exact fin_str (by simp [sb_app, sb_mk, sb_bs]), cu0_0.trans0 (cdh1.trans0 cu1_0)⟩
                    | skip
              · refine W.skip (Nx.blk Nx.thn) ?_
                refine W.seq ?_
                refine W.region ?_
                refine WL.x (X.mv (s3)) rfl ?_
                refine WL.x (X.addS (lh) lc (by simp only [ByteArray.size_append, szl, size_bs, List.size_toArray, List.length_cons, List.length_nil, List.length_append]; omega)) rfl ?_
                refine WL.x (X.asg (lh)) rfl ?_
                refine WL.e1 Nx.thn 2 (lh) ?_
                intro σ87 s2
                refine W.ret1 Nx.f1 s2 ?_
                first
                  | (have hmv := mid_val hm (by first | exact .inl q1 | exact .inr (.inl q3) | exact .inr (.inr ⟨q4, qh, by simpa using qn⟩)); exact ⟨by rw [opT1, hmv]; exact fin_str (by simp [sb_app, sb_mk, sb_bs, valT]), (cu0_0.trans0 (cdh1.trans0 cu1_0)).trans0 cD⟩)
                  | (have hmv := mid_nil (x := (k, key, val, li, has, nl)) qn2; exact ⟨by rw [opT1, hmv]; exact fin_str (by simp [sb_app, sb_mk, sb_bs]), cu0_0.trans0 (cdh1.trans0 cu1_0)⟩)
                  | (have hmv := mid_list hm q2 qh2; have hje : j = li.length := by omega
                     rw [hje, List.take_length] at hS; exact ⟨by rw [opT1, hmv]; exact fin_str (by simp [sb_app, sb_mk, sb_bs, hS]), (cu0_0.trans0 (cdh1.trans0 cu1_0)).trans0 hcl⟩)
                  | exact ⟨by rw [opT1, mid_non2 hm q1 q3 (by intro h9; simp_all) (by intro h9; simp_all)]; exact fin_str (by simp [sb_app, sb_mk, sb_bs]), cu0_0.trans0 (cdh1.trans0 cu1_0)⟩
                  | skip
            · refine WL.no rfl rfl (lh) (decide_eq_false q2) rfl ?_
              refine WL.no rfl rfl (lt rfl (lh)) (decide_eq_false q2) rfl ?_
              refine WL.x (X.pickF (jt2 rfl (lh)) (decide_eq_false q2) lc) rfl ?_
              refine WL.x (X.asg (lh)) rfl ?_
              refine WL.e3 Nx.thn 1 3 54 (jt8 rfl (s1)) (jt8 rfl (s3)) (lh) ?_
              intro σ88 s1 s3 s54
              refine W.cndF s54 ?_
              refine W.skip (Nx.blk Nx.thn) ?_
              refine W.seq ?_
              refine W.region ?_
              refine WL.x (X.mv (s3)) rfl ?_
              refine WL.x (X.addS (lh) lc (by simp only [ByteArray.size_append, szl, size_bs, List.size_toArray, List.length_cons, List.length_nil, List.length_append]; omega)) rfl ?_
              refine WL.x (X.asg (lh)) rfl ?_
              refine WL.e1 Nx.thn 2 (lh) ?_
              intro σ89 s2
              refine W.ret1 Nx.f1 s2 ?_
              first
                | (have hmv := mid_val hm (by first | exact .inl q1 | exact .inr (.inl q3) | exact .inr (.inr ⟨q4, qh, by simpa using qn⟩)); exact ⟨by rw [opT1, hmv]; exact fin_str (by simp [sb_app, sb_mk, sb_bs, valT]), (cu0_0.trans0 (cdh1.trans0 cu1_0)).trans0 cD⟩)
                | (have hmv := mid_nil (x := (k, key, val, li, has, nl)) qn2; exact ⟨by rw [opT1, hmv]; exact fin_str (by simp [sb_app, sb_mk, sb_bs]), cu0_0.trans0 (cdh1.trans0 cu1_0)⟩)
                | (have hmv := mid_list hm q2 qh2; have hje : j = li.length := by omega
                   rw [hje, List.take_length] at hS; exact ⟨by rw [opT1, hmv]; exact fin_str (by simp [sb_app, sb_mk, sb_bs, hS]), (cu0_0.trans0 (cdh1.trans0 cu1_0)).trans0 hcl⟩)
                | exact ⟨by rw [opT1, mid_non2 hm q1 q3 (by intro h9; simp_all) (by intro h9; simp_all)]; exact fin_str (by simp [sb_app, sb_mk, sb_bs]), cu0_0.trans0 (cdh1.trans0 cu1_0)⟩
                | skip
        · refine WL.no rfl rfl (lh) (decide_eq_false q4b) rfl ?_
          refine WL.no rfl rfl (lt rfl (lh)) (decide_eq_false q4b) rfl ?_
          refine WL.x (X.pickF (jt2 rfl (lh)) (decide_eq_false q4b) lc) rfl ?_
          refine WL.x (X.asg (lh)) rfl ?_
          refine WL.e3 Nx.thn 1 3 44 (jt8 rfl (s1)) (jt8 rfl (s3)) (lh) ?_
          intro σ90 s1 s3 s44
          refine W.cndF s44 ?_
          refine W.seq ?_
          refine W.region ?_
          refine WL.x (X.fieldAddr fd48_0 (s1)) rfl ?_
          refine WL.x (X.load pl3 (lh) (by first | assumption | exact hS.at (by assumption) (by intro hne; first | exact hne | ((try dsimp only at hne); omega)) | exact hS.at (cu0_0.at0 (by assumption)) (by intro hne; first | exact hne | ((try dsimp only at hne); omega))) (by first | rfl | assumption)) rfl ?_
          refine WL.x (X.eql (lh) lc) rfl ?_
          refine WL.x (X.mv (lh)) rfl ?_
          refine WL.splitp (lh) (fun q2 => ?_) (fun q2 => ?_)
          · refine WL.yes rfl rfl (lh) (decide_eq_true q2) ?_
            refine WL.x (X.fieldAddr fd48_4 (jt4 rfl (s1))) rfl ?_
            refine WL.yes rfl rfl (lt rfl (lh)) (decide_eq_true q2) ?_
            refine WL.x (X.load pl4 (lh) (by first | assumption | exact hS.at (by assumption) (by intro hne; first | exact hne | ((try dsimp only at hne); omega)) | exact hS.at (cu0_0.at0 (by assumption)) (by intro hne; first | exact hne | ((try dsimp only at hne); omega))) (by first | rfl | assumption)) rfl ?_
            refine WL.x (X.pickT (jt2 rfl (lh)) (decide_eq_true q2) (lh)) rfl ?_
            refine WL.x (X.asg (lh)) rfl ?_
            refine WL.e3 Nx.thn 1 3 54 (jt8 rfl (s1)) (jt8 rfl (s3)) (lh) ?_
            intro σ91 s1 s3 s54
            refine W.cnd s54 (fun qh2 => ?_) (fun qh2 => ?_)
            · refine W.seq ?_
              refine W.region ?_
              refine WL.x (X.mv (s3)) rfl ?_
              refine WL.x (X.addS (lh) lc (by simp only [ByteArray.size_append, szl, size_bs, List.size_toArray, List.length_cons, List.length_nil, List.length_append]; omega)) rfl ?_
              refine WL.x (X.asg (lh)) rfl ?_
              refine WL.e2 Nx.thn 1 3 (jt2 rfl (lt rfl (s1))) (lh) ?_
              intro σ92 s1 s3
              refine W.seq ?_
              refine W.seq ?_
              refine W.region ?_
              refine WL.x (X.fieldAddr fd48_3 (s1)) rfl ?_
              refine WL.x (v := .slice va li.length vc) (X.load pl46 (lh) (by first | assumption | exact hS.at (by assumption) (by intro hne; first | exact hne | ((try dsimp only at hne); omega)) | exact hS.at (cu0_0.at0 (by assumption)) (by intro hne; first | exact hne | ((try dsimp only at hne); omega))) rfl) rfl ?_
              refine WL.x (X.lenSl Tryd.underlying46 (lh)) rfl ?_
              refine WL.x (X.mv lc) rfl ?_
              refine WL.e4 Nx.thn 3 65 66 67 (jt4 rfl (s3)) (jt2 rfl (lh)) (lt rfl (lh)) (lh) ?_
              intro σ93 s3 s65 s66 s67
              refine W.block ?_
              have qo13 := s65
              have qo14 := s66
              -- loop 0: kept [65, 66], varied [3, 67]
              refine W.loop (G := Nat) (fun j σ' w' => (σ' 65 = σ93 65 ∧ σ' 66 = σ93 66 ∧ True) ∧ (∃ S, σ' 3 = .string S ∧ σ' 67 = .int .i64 (j : Int) ∧ sb S = ([91, 32] ++ (wordO k ++ [32]) ++ sb key ++ [32, 40]) ++ (li.take j).flatMap valT ∧ j ≤ li.length ∧ Ch0 w3 w')) (fun j => li.length - j) (0) ⟨⟨rfl, rfl, trivial⟩, _, s3, s67, (by simp [sb_app, sb_mk, sb_bs]), by omega, Ch.refl _ _⟩ ?_
              rintro j σ94 w17 ⟨⟨f65, f66, _⟩, S, s3, s67, hS, hj, hcl⟩
              have s65 := f65.trans qo13
              have s66 := f66.trans qo14
              refine W.seq ?_
              refine W.region ?_
              refine WL.x (X.lss (s67) (s66)) rfl ?_
              refine WL.e5 Nx.thn 3 65 66 67 68 (lt rfl (s3)) (lt rfl (s65)) (lt rfl (s66)) (lt rfl (s67)) (lh) ?_
              intro σ95 s3 s65 s66 s67 s68
              refine W.seq ?_
              refine W.cndp s68 (fun hlt => ?_) (fun hlt => ?_)
              · obtain ⟨gb, og, csg, Tg, frg, rfl, hg1, hg2⟩ := hs.1.at (k := j) (by rw [List.length_map]; omega)
                have hSz := sb_len S
                rw [hS] at hSz
                simp only [List.length_append, List.length_cons, List.length_nil, sb_len] at hSz
                have hvl := vals_len hok j
                dsimp only at hvl
                have hjl : j < li.length := by omega
                have hzj := hok.2.2.2 li[j] (List.getElem_mem hjl)
                have hij := Lib.itoa_length_le li[j] hzj.1 hzj.2
                refine W.skip Nx.thn ?_
                refine W.seq ?_
                refine W.block ?_
                refine W.seq ?_
                refine W.region ?_
                refine WL.x (X.indexAddr Tryd.underlying46 el3 (s65) (s67) (by omega) (by omega)) rfl ?_
                refine WL.x (X.load pl3 (lh) ((cu0_0.trans0 (cdh1.trans0 cu1_0)).trans0 hcl |>.at0 hg1) (v := .int .i64 li[j]) (by rw [show og + (j : Int).toNat * 1 = og + j by omega, hg2 j (by rw [List.length_map]; omega), List.getElem?_map, List.getElem?_eq_getElem (by omega)]; rfl)) rfl ?_
                refine WL.x (X.asg (lh)) rfl ?_
                refine WL.e5 Nx.thn 3 5 65 66 67 (jt2 rfl (lt rfl (s3))) (lh) (jt2 rfl (lt rfl (s65))) (jt2 rfl (lt rfl (s66))) (jt2 rfl (lt rfl (s67))) ?_
                intro σ96 s3 s5 s65 s66 s67
                refine W.region ?_
                refine WL.x (X.mv (s3)) rfl ?_
                refine WL.x (X.mv (lt rfl (s5))) rfl ?_
                refine WL.call1 ce31 (lh) (decimal_ok li[j] w17 hzj.1 hzj.2) rfl ?_
                rintro _ w18 ⟨rfl, cD⟩
                refine WL.x (X.addS lc (lh) (by simp only [ByteArray.size_append, szl, size_bs, List.size_toArray, List.length_cons, List.length_nil, List.length_append]; omega)) rfl ?_
                refine WL.x (X.addS (jt2 rfl (lt rfl (lh))) (lh) (by simp only [ByteArray.size_append, szl, size_bs, List.size_toArray, List.length_cons, List.length_nil, List.length_append]; omega)) rfl ?_
                refine WL.x (X.asg (lh)) rfl ?_
                refine WL.e4 (Nx.blk Nx.thn) 3 65 66 67 (lh) (jt4 rfl (jt2 rfl (s65))) (jt4 rfl (jt2 rfl (s66))) (jt4 rfl (jt2 rfl (s67))) ?_
                intro σ97 s3 s65 s66 s67
                refine W.region ?_
                first | refine WL.x (X.add (s67) lc (by omega) (by omega)) rfl ?_ | refine WL.x (X.addw (s67) lc) rfl ?_
                refine WL.x (X.mv (lh)) rfl ?_
                refine WL.e4 Nx.thn 3 65 66 67 (jt2 rfl (s3)) (jt2 rfl (s65)) (jt2 rfl (s66)) (lh) ?_
                intro σ98 s3 s65 s66 s67
                refine ⟨j + 1, by omega, ⟨s65.trans qo13.symm, s66.trans qo14.symm, trivial⟩, _, s3, s67, (by rw [fm_take hjl]; simp [sb_app, sb_mk, sb_bs, hS, valT]), by omega, hcl.trans0 cD⟩
              · have hSz := sb_len S
                rw [hS] at hSz
                simp only [List.length_append, List.length_cons, List.length_nil, sb_len] at hSz
                have hvl := vals_len hok j
                dsimp only at hvl
                refine W.exit (Nx.xthn (Nx.xthn (Nx.xblk Nx.thn))) ?_
                refine W.region ?_
                refine WL.x (X.mv (s3)) rfl ?_
                refine WL.x (X.addS (lh) lc (by simp only [ByteArray.size_append, szl, size_bs, List.size_toArray, List.length_cons, List.length_nil, List.length_append]; omega)) rfl ?_
                refine WL.x (X.asg (lh)) rfl ?_
                refine WL.e1 (Nx.blk Nx.thn) 3 (lh) ?_
                intro σ99 s3
                refine W.seq ?_
                refine W.region ?_
                refine WL.x (X.mv (s3)) rfl ?_
                refine WL.x (X.addS (lh) lc (by simp only [ByteArray.size_append, szl, size_bs, List.size_toArray, List.length_cons, List.length_nil, List.length_append]; omega)) rfl ?_
                refine WL.x (X.asg (lh)) rfl ?_
                refine WL.e1 Nx.thn 2 (lh) ?_
                intro σ100 s2
                refine W.ret1 Nx.f1 s2 ?_
                first
                  | (have hmv := mid_val hm (by first | exact .inl q1 | exact .inr (.inl q3) | exact .inr (.inr ⟨q4, qh, by simpa using qn⟩)); exact ⟨by rw [opT1, hmv]; exact fin_str (by simp [sb_app, sb_mk, sb_bs, valT]), (cu0_0.trans0 (cdh1.trans0 cu1_0)).trans0 cD⟩)
                  | (have hmv := mid_nil (x := (k, key, val, li, has, nl)) qn2; exact ⟨by rw [opT1, hmv]; exact fin_str (by simp [sb_app, sb_mk, sb_bs]), cu0_0.trans0 (cdh1.trans0 cu1_0)⟩)
                  | (have hmv := mid_list hm q2 qh2; have hje : j = li.length := by omega
                     rw [hje, List.take_length] at hS; exact ⟨by rw [opT1, hmv]; exact fin_str (by simp [sb_app, sb_mk, sb_bs, hS]), (cu0_0.trans0 (cdh1.trans0 cu1_0)).trans0 hcl⟩)
                  | exact ⟨by rw [opT1, mid_non2 hm q1 q3 (by intro h9; simp_all) (by intro h9; simp_all)]; exact fin_str (by simp [sb_app, sb_mk, sb_bs]), cu0_0.trans0 (cdh1.trans0 cu1_0)⟩
                  | skip
            · refine W.skip (Nx.blk Nx.thn) ?_
              refine W.seq ?_
              refine W.region ?_
              refine WL.x (X.mv (s3)) rfl ?_
              refine WL.x (X.addS (lh) lc (by simp only [ByteArray.size_append, szl, size_bs, List.size_toArray, List.length_cons, List.length_nil, List.length_append]; omega)) rfl ?_
              refine WL.x (X.asg (lh)) rfl ?_
              refine WL.e1 Nx.thn 2 (lh) ?_
              intro σ101 s2
              refine W.ret1 Nx.f1 s2 ?_
              first
                | (have hmv := mid_val hm (by first | exact .inl q1 | exact .inr (.inl q3) | exact .inr (.inr ⟨q4, qh, by simpa using qn⟩)); exact ⟨by rw [opT1, hmv]; exact fin_str (by simp [sb_app, sb_mk, sb_bs, valT]), (cu0_0.trans0 (cdh1.trans0 cu1_0)).trans0 cD⟩)
                | (have hmv := mid_nil (x := (k, key, val, li, has, nl)) qn2; exact ⟨by rw [opT1, hmv]; exact fin_str (by simp [sb_app, sb_mk, sb_bs]), cu0_0.trans0 (cdh1.trans0 cu1_0)⟩)
                | (have hmv := mid_list hm q2 qh2; have hje : j = li.length := by omega
                   rw [hje, List.take_length] at hS; exact ⟨by rw [opT1, hmv]; exact fin_str (by simp [sb_app, sb_mk, sb_bs, hS]), (cu0_0.trans0 (cdh1.trans0 cu1_0)).trans0 hcl⟩)
                | exact ⟨by rw [opT1, mid_non2 hm q1 q3 (by intro h9; simp_all) (by intro h9; simp_all)]; exact fin_str (by simp [sb_app, sb_mk, sb_bs]), cu0_0.trans0 (cdh1.trans0 cu1_0)⟩
                | skip
          · refine WL.no rfl rfl (lh) (decide_eq_false q2) rfl ?_
            refine WL.no rfl rfl (lt rfl (lh)) (decide_eq_false q2) rfl ?_
            refine WL.x (X.pickF (jt2 rfl (lh)) (decide_eq_false q2) lc) rfl ?_
            refine WL.x (X.asg (lh)) rfl ?_
            refine WL.e3 Nx.thn 1 3 54 (jt8 rfl (s1)) (jt8 rfl (s3)) (lh) ?_
            intro σ102 s1 s3 s54
            refine W.cndF s54 ?_
            refine W.skip (Nx.blk Nx.thn) ?_
            refine W.seq ?_
            refine W.region ?_
            refine WL.x (X.mv (s3)) rfl ?_
            refine WL.x (X.addS (lh) lc (by simp only [ByteArray.size_append, szl, size_bs, List.size_toArray, List.length_cons, List.length_nil, List.length_append]; omega)) rfl ?_
            refine WL.x (X.asg (lh)) rfl ?_
            refine WL.e1 Nx.thn 2 (lh) ?_
            intro σ103 s2
            refine W.ret1 Nx.f1 s2 ?_
            first
              | (have hmv := mid_val hm (by first | exact .inl q1 | exact .inr (.inl q3) | exact .inr (.inr ⟨q4, qh, by simpa using qn⟩)); exact ⟨by rw [opT1, hmv]; exact fin_str (by simp [sb_app, sb_mk, sb_bs, valT]), (cu0_0.trans0 (cdh1.trans0 cu1_0)).trans0 cD⟩)
              | (have hmv := mid_nil (x := (k, key, val, li, has, nl)) qn2; exact ⟨by rw [opT1, hmv]; exact fin_str (by simp [sb_app, sb_mk, sb_bs]), cu0_0.trans0 (cdh1.trans0 cu1_0)⟩)
              | (have hmv := mid_list hm q2 qh2; have hje : j = li.length := by omega
                 rw [hje, List.take_length] at hS; exact ⟨by rw [opT1, hmv]; exact fin_str (by simp [sb_app, sb_mk, sb_bs, hS]), (cu0_0.trans0 (cdh1.trans0 cu1_0)).trans0 hcl⟩)
              | exact ⟨by rw [opT1, mid_non2 hm q1 q3 (by intro h9; simp_all) (by intro h9; simp_all)]; exact fin_str (by simp [sb_app, sb_mk, sb_bs]), cu0_0.trans0 (cdh1.trans0 cu1_0)⟩
              | skip
end Go.Proofs.YtjnkpjehpdlcbaaDoor
