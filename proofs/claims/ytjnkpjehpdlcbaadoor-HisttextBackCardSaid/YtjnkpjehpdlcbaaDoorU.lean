/-
  A part of the walk of the program.
-/
import Derived.Test.YtjnkpjehpdlcbaaDoorO
import Derived.Test.YtjnkpjehpdlcbaaDoorNumer
import Derived.Lib.ItoaLen
import Derived.Lib.ItoaMem
set_option linter.unusedVariables false
set_option linter.unusedSimpArgs false
set_option maxRecDepth 100000
namespace Go.Proofs.YtjnkpjehpdlcbaaDoor
open Go Go.RowKit Sg

theorem dd_len {u : Nat} (h : u ≤ 9223372036854775808) : (Lib.decDigits u).length ≤ 21 := by
  by_cases h0 : u = 0
  · subst h0; rw [dd_zero]; decide
  · have := Lib.itoa_length_le (-(u : Int)) (by omega) (by omega)
    rw [Lib.itoa_neg u (by omega), List.length_cons] at this
    omega
theorem itoa_len {n : Int} (h1 : -9223372036854775808 ≤ n) (h2 : n ≤ 9223372036854775807) : (Lib.itoa n).length ≤ 21 := Lib.itoa_length_le n h1 h2
/-- What is left of the number, and what is written of it. -/
def DD (u m : Nat) (r : Bs) : Prop := (r = [] ∧ m = u) ∨ (r ≠ [] ∧ Lib.decDigits u = (if m = 0 then [] else Lib.decDigits m) ++ r)
theorem DD.len {u m : Nat} {r : Bs} (h : DD u m r) (hu : u ≤ 9223372036854775808) : r.length ≤ 21 ∧ m ≤ u ∨ r.length ≤ 21 := by
  rcases h with ⟨rfl, _⟩ | ⟨_, h⟩
  · exact .inr (by simp)
  · have h1 := dd_len hu
    rw [h, List.length_append] at h1
    exact .inr (by omega)
theorem DD.next {u m : Nat} {r : Bs} (h : DD u m r) (hm : m ≠ 0 ∨ r = []) : DD u (m / 10) (UInt8.ofNat (48 + m % 10) :: r) := by
  refine .inr ⟨by simp, ?_⟩
  have key : Lib.decDigits m = (if m / 10 = 0 then [] else Lib.decDigits (m / 10)) ++ [UInt8.ofNat (48 + m % 10)] := by
    by_cases h10 : m < 10
    · rw [if_pos (by omega), dd_small h10, Nat.mod_eq_of_lt h10]; rfl
    · rw [if_neg (by omega), dd_big h10]
  rcases h with ⟨rfl, rfl⟩ | ⟨h1, h2⟩
  · exact key
  · have hm' : m ≠ 0 := hm.resolve_right h1
    rw [h2, if_neg hm', key, List.append_assoc]; rfl
theorem DD.fin {u : Nat} {r : Bs} (h : DD u 0 r) (hr : r ≠ []) : r = Lib.decDigits u := by
  rcases h with ⟨h1, _⟩ | ⟨_, h2⟩
  · exact absurd h1 hr
  · rw [h2, if_pos rfl]; rfl

set_option maxHeartbeats 800000 in
theorem digits_ok (u : Nat) (w : World) (hu : u ≤ 9223372036854775808) :
  Sg.Ret Tryd.prog 57 #[.int .i64 (-(u : Int))] w fun v w' => v = .string (bs (Lib.decDigits u)) ∧ Ch0 w w' := by
 refine enter1 (n := 21) (l := [.int .i64 (-(u : Int))]) Tryd.func57 rfl rfl rfl rfl ?_
 refine W.g1 0 (v1 := .int .i64 (-(u : Int))) rfl ?_; intro σ s0
 refine W.seq ?_
 refine W.region ?_
 refine WL.x (X.asg lc) rfl ?_
 refine WL.e1 Nx.thn 0 (lt rfl (s0)) ?_
 intro σ1 s0
 refine W.seq ?_
 refine W.region ?_
 refine WL.x (X.asg lc) rfl ?_
 refine WL.e2 Nx.thn 0 3 (lt rfl (s0)) (lh) ?_
 intro σ2 s0 s3
 refine W.seq ?_
 refine W.block ?_
 -- loop 0: kept [], varied [0, 3]
 refine W.loop (G := Nat × Bs) (fun (m, r) σ' w' => (True) ∧ (σ' 0 = .int .i64 (-(m : Int)) ∧ σ' 3 = .string (bs r) ∧ DD u m r ∧ m ≤ u ∧ Ch0 w w')) (fun (m, r) => m + (if r = [] then 1 else 0)) ((u, [])) ⟨trivial, s0, s3, .inl ⟨rfl, rfl⟩, Nat.le_refl _, Ch.refl _ _⟩ ?_
 rintro ⟨m, r⟩ σ3 w1 ⟨⟨_⟩, s0, s3, hdd, hmu, hcl⟩
 have hrl : r.length ≤ 21 := by rcases hdd.len hu with h | h; (· exact h.1); (· exact h)
 refine W.seq ?_
 refine W.seq ?_
 refine W.region ?_
 refine WL.x (X.mv (s0)) rfl ?_
 refine WL.x (X.lss (lh) lc) rfl ?_
 refine WL.x (X.mv (lh)) rfl ?_
 refine WL.splitp (lh) (fun h0 => ?_) (fun h0 => ?_)
 ·
  refine WL.no rfl rfl (lh) (decide_eq_true h0) rfl ?_
  refine WL.no rfl rfl (lt rfl (lh)) (decide_eq_true h0) rfl ?_
  refine WL.x (X.pickT (jt2 rfl (lh)) (decide_eq_true h0) lc) rfl ?_
  refine WL.e3 Nx.thn 0 3 9 (jt4 rfl (jt2 rfl (s0))) (jt4 rfl (jt2 rfl (s3))) (lh) ?_
  intro σ4 s0 s3 s9
  refine W.cndT s9 ?_
  refine W.skip Nx.thn ?_
  refine W.block ?_
  refine W.seq ?_
  refine W.region ?_
  refine WL.x (X.mv (s0)) rfl ?_
  refine WL.x (X.neg_rem (lh) lc) rfl ?_
  first | refine WL.x (X.sub lc (lh) (by omega) (by omega)) rfl ?_ | refine WL.x (X.subw lc (lh)) rfl ?_
  first | refine WL.x (X.convi Tryd.underlying3 Tryd.underlying5 (lh) (wrap_u8_in (by omega) (by omega))) rfl ?_ | refine WL.x (X.conv Tryd.underlying3 Tryd.underlying5 (lh)) rfl ?_
  refine WL.bslice Tryd.underlying54 el5 rfl (pcons (lh) pnil) rfl (rfl : _ = [_]) rfl ?_
  intro w2 u3_4; have hu3_4 := u3_4.at_; have cu3_4 := u3_4.ch; have zu3_4 := u3_4.size
  refine WL.x (v := .string (bs [UInt8.ofNat (48 + m % 10)])) (by rw [show 48 + m % 10 = (48 - -((m % 10 : Nat) : Int)).toNat by omega]; exact X.b2s1 Tryd.underlying54 Tryd.underlying5 Tryd.underlying9 (lh) hu3_4) rfl ?_
  refine WL.x (X.mv (jt4 rfl (jt2 rfl (s3)))) rfl ?_
  refine WL.x (v := .string (bs (UInt8.ofNat (48 + m % 10) :: r))) (by rw [show bs (UInt8.ofNat (48 + m % 10) :: r) = bs [UInt8.ofNat (48 + m % 10)] ++ bs r by rw [app_bs]; rfl]; exact X.addS (lt rfl (lh)) (lh) (by rw [size_bs, size_bs]; simp only [List.length_cons, List.length_nil]; omega)) rfl ?_
  refine WL.x (X.asg (lh)) rfl ?_
  refine WL.e2 Nx.thn 0 3 (jt8 rfl (lt rfl (s0))) (lh) ?_
  intro σ5 s0 s3
  refine W.region ?_
  refine WL.x (X.mv (s0)) rfl ?_
  refine WL.x (X.neg_quo (lh) lc (by omega)) rfl ?_
  refine WL.x (X.asg (lh)) rfl ?_
  refine WL.e2 (Nx.blk Nx.thn) 0 3 (lh) (jt2 rfl (lt rfl (s3))) ?_
  intro σ6 s0 s3
  have hmr : m ≠ 0 ∨ r = [] := by first | exact .inl (by omega) | exact .inr (bs_inj hs)
  refine ⟨(m / 10, UInt8.ofNat (48 + m % 10) :: r), by (try dsimp only); rw [if_neg (by simp)]; rcases hmr with e | e; (· omega); (· rw [if_pos e]; omega), trivial, s0, s3, hdd.next hmr, by omega, hcl.trans0 cu3_4⟩
 ·
  refine WL.yes rfl rfl (lh) (decide_eq_false h0) ?_
  refine WL.x (X.mv (jt2 rfl (lt rfl (s3)))) rfl ?_
  refine WL.yes rfl rfl (lt rfl (lh)) (decide_eq_false h0) ?_
  refine WL.x (X.eqlS (lh) lc) rfl ?_
  refine WL.x (X.pickF (jt2 rfl (lh)) (decide_eq_false h0) (lh)) rfl ?_
  refine WL.e3 Nx.thn 0 3 9 (jt4 rfl (jt2 rfl (s0))) (jt4 rfl (jt2 rfl (s3))) (lh) ?_
  intro σ7 s0 s3 s9
  refine W.cndp s9 (fun hs => ?_) (fun hs => ?_)
  ·
   refine W.skip Nx.thn ?_
   refine W.block ?_
   refine W.seq ?_
   refine W.region ?_
   refine WL.x (X.mv (s0)) rfl ?_
   refine WL.x (X.neg_rem (lh) lc) rfl ?_
   first | refine WL.x (X.sub lc (lh) (by omega) (by omega)) rfl ?_ | refine WL.x (X.subw lc (lh)) rfl ?_
   first | refine WL.x (X.convi Tryd.underlying3 Tryd.underlying5 (lh) (wrap_u8_in (by omega) (by omega))) rfl ?_ | refine WL.x (X.conv Tryd.underlying3 Tryd.underlying5 (lh)) rfl ?_
   refine WL.bslice Tryd.underlying54 el5 rfl (pcons (lh) pnil) rfl (rfl : _ = [_]) rfl ?_
   intro w3 u3_4; have hu3_4 := u3_4.at_; have cu3_4 := u3_4.ch; have zu3_4 := u3_4.size
   refine WL.x (v := .string (bs [UInt8.ofNat (48 + m % 10)])) (by rw [show 48 + m % 10 = (48 - -((m % 10 : Nat) : Int)).toNat by omega]; exact X.b2s1 Tryd.underlying54 Tryd.underlying5 Tryd.underlying9 (lh) hu3_4) rfl ?_
   refine WL.x (X.mv (jt4 rfl (jt2 rfl (s3)))) rfl ?_
   refine WL.x (v := .string (bs (UInt8.ofNat (48 + m % 10) :: r))) (by rw [show bs (UInt8.ofNat (48 + m % 10) :: r) = bs [UInt8.ofNat (48 + m % 10)] ++ bs r by rw [app_bs]; rfl]; exact X.addS (lt rfl (lh)) (lh) (by rw [size_bs, size_bs]; simp only [List.length_cons, List.length_nil]; omega)) rfl ?_
   refine WL.x (X.asg (lh)) rfl ?_
   refine WL.e2 Nx.thn 0 3 (jt8 rfl (lt rfl (s0))) (lh) ?_
   intro σ8 s0 s3
   refine W.region ?_
   refine WL.x (X.mv (s0)) rfl ?_
   refine WL.x (X.neg_quo (lh) lc (by omega)) rfl ?_
   refine WL.x (X.asg (lh)) rfl ?_
   refine WL.e2 (Nx.blk Nx.thn) 0 3 (lh) (jt2 rfl (lt rfl (s3))) ?_
   intro σ9 s0 s3
   have hmr : m ≠ 0 ∨ r = [] := by first | exact .inl (by omega) | exact .inr (bs_inj hs)
   refine ⟨(m / 10, UInt8.ofNat (48 + m % 10) :: r), by (try dsimp only); rw [if_neg (by simp)]; rcases hmr with e | e; (· omega); (· rw [if_pos e]; omega), trivial, s0, s3, hdd.next hmr, by omega, hcl.trans0 cu3_4⟩
  ·
   refine W.exit (Nx.xthn (Nx.xthn (Nx.xblk Nx.thn))) ?_
   refine W.seq ?_
   refine W.region ?_
   refine WL.x (X.mv (s3)) rfl ?_
   refine WL.x (X.asg (lh)) rfl ?_
   refine WL.e1 Nx.thn 2 (lh) ?_
   intro σ10 s2
   refine W.ret1 Nx.f1 s2 ?_
   have hm0 : m = 0 := by omega
   subst hm0
   rw [← hdd.fin (fun e => hs (by rw [e]; rfl))]
   exact ⟨rfl, hcl⟩
theorem decimal_ok (n : Int) (w : World) (h1 : -9223372036854775808 ≤ n) (h2 : n ≤ 9223372036854775807) :
  Sg.Ret Tryd.prog 31 #[.int .i64 n] w fun v w' => v = .string (bs (Lib.itoa n)) ∧ Ch0 w w' := by
 refine enter1 (n := 11) (l := [.int .i64 n]) Tryd.func31 rfl rfl rfl rfl ?_
 refine W.g1 0 (v1 := .int .i64 n) rfl ?_; intro σ s0
 refine W.seq ?_
 refine W.region ?_
 refine WL.x (X.asg lc) rfl ?_
 refine WL.e1 Nx.thn 0 (lt rfl (s0)) ?_
 intro σ1 s0
 refine W.seq ?_
 refine W.seq ?_
 refine W.region ?_
 refine WL.x (X.mv (s0)) rfl ?_
 refine WL.x (X.geq (lh) lc) rfl ?_
 refine WL.e2 Nx.thn 0 4 (jt2 rfl (s0)) (lh) ?_
 intro σ2 s0 s4
 refine W.cndp s4 (fun hn => ?_) (fun hn => ?_)
 ·
  refine W.seq ?_
  refine W.region ?_
  refine WL.x (X.mv (s0)) rfl ?_
  refine WL.x (v := .int .i64 (-(n.toNat : Int))) (by rw [show (n.toNat : Int) = n by omega]; exact X.neg (lh) (by omega) (by omega)) rfl ?_
  refine WL.call1 ce57 (lh) (digits_ok n.toNat w (by omega)) rfl ?_
  rintro _ w1 ⟨rfl, c1⟩
  refine WL.x (X.asg (lh)) rfl ?_
  refine WL.e1 Nx.thn 2 (lh) ?_
  intro σ3 s2
  refine W.ret1 (Nx.rthn Nx.f1) s2 ?_
  exact ⟨by unfold Lib.itoa; rw [if_neg (by omega)], c1⟩
 ·
  refine W.skip Nx.thn ?_
  refine W.seq ?_
  refine W.region ?_
  refine WL.x (v := .int .i64 (-(n.natAbs : Int))) (by rw [show (-(n.natAbs : Int)) = n by omega]; exact X.mv s0) rfl ?_
  refine WL.call1 ce57 (lh) (digits_ok n.natAbs w (by omega)) rfl ?_
  rintro _ w2 ⟨rfl, c1⟩
  refine WL.x (v := .string (bs (45 :: Lib.decDigits n.natAbs))) (by rw [show bs (45 :: Lib.decDigits n.natAbs) = bs [45] ++ bs (Lib.decDigits n.natAbs) by rw [app_bs]; rfl]; exact X.addS lc (lh) (by rw [size_bs, size_bs]; have := dd_len (u := n.natAbs) (by omega); simp only [List.length_cons, List.length_nil]; omega)) rfl ?_
  refine WL.x (X.asg (lh)) rfl ?_
  refine WL.e1 Nx.thn 2 (lh) ?_
  intro σ4 s2
  refine W.ret1 Nx.f1 s2 ?_
  exact ⟨by unfold Lib.itoa; rw [if_pos (by omega)], c1⟩

theorem owb {k : Int} (h1 : 1 ≤ k) (h4 : k ≤ 4) : (#[.string ⟨#[]⟩, .string ⟨#[97, 112, 112, 101, 110, 100, 32]⟩, .string ⟨#[114, 101, 97, 100, 32]⟩, .string ⟨#[119, 114, 105, 116, 101, 32]⟩, .string ⟨#[103, 101, 116, 32]⟩] : Array Value)[0 + k.toNat * 1]? = some (.string (bs (wordO k ++ [32]))) := by
  obtain rfl | rfl | rfl | rfl : k = 1 ∨ k = 2 ∨ k = 3 ∨ k = 4 := by omega
  all_goals rfl
theorem ewb {k : Int} (h1 : 1 ≤ k) (h4 : k ≤ 4) : (#[.string ⟨#[]⟩, .string ⟨#[105, 110, 118, 111, 107, 101, 32]⟩, .string ⟨#[111, 107, 32]⟩, .string ⟨#[102, 97, 105, 108, 32]⟩, .string ⟨#[105, 110, 102, 111, 32]⟩] : Array Value)[0 + k.toNat * 1]? = some (.string (bs (wordE k ++ [32]))) := by
  obtain rfl | rfl | rfl | rfl : k = 1 ∨ k = 2 ∨ k = 3 ∨ k = 4 := by omega
  all_goals rfl
theorem ow5 {k : Int} (h1 : 1 ≤ k) (h4 : k ≤ 4) : (#[.string ⟨#[]⟩, .string ⟨#[97, 112, 112, 101, 110, 100]⟩, .string ⟨#[114, 101, 97, 100]⟩, .string ⟨#[119, 114, 105, 116, 101]⟩, .string ⟨#[103, 101, 116]⟩] : Array Value)[0 + k.toNat * 1]? = some (.string (bs (wordO k))) := by
  obtain rfl | rfl | rfl | rfl : k = 1 ∨ k = 2 ∨ k = 3 ∨ k = 4 := by omega
  all_goals rfl
theorem ew5 {k : Int} (h1 : 1 ≤ k) (h4 : k ≤ 4) : (#[.string ⟨#[]⟩, .string ⟨#[105, 110, 118, 111, 107, 101]⟩, .string ⟨#[111, 107]⟩, .string ⟨#[102, 97, 105, 108]⟩, .string ⟨#[105, 110, 102, 111]⟩] : Array Value)[0 + k.toNat * 1]? = some (.string (bs (wordE k))) := by
  obtain rfl | rfl | rfl | rfl : k = 1 ∨ k = 2 ∨ k = 3 ∨ k = 4 := by omega
  all_goals rfl
theorem fin_str {a b : ByteArray} (h : sb a = sb b) : Value.string a = .string b := by rw [sb_inj h]
set_option maxHeartbeats 3200000 in
theorem rop_ok (A : Nat → Prop) (x : GOp) (es : List Value) (w : World) (h : ROp A w es x) (hm : mayB x = true) :
  Sg.Ret Tryd.prog 32 #[.agg es.toArray] w fun v w' => v = .string (bs (opT1 x)) ∧ Ch0 w w' := by
 have hok := may_ok h hm
 have hkk := mayB_kind hm
 obtain ⟨k, key, val, li, has, nl⟩ := x
 obtain ⟨v, rfl, hs, hb, hz⟩ := h
 dsimp only at hs hb hz
 obtain ⟨va, vc, hv⟩ := hs.1.len
 rw [List.length_map] at hv
 subst hv
 have hw1 := wordO_len k
 have hl40 := hok.2.1
 have hk6 := hok.1
 dsimp only at hkk hl40 hk6
 refine enter1 (n := 81) (l := [.agg #[.int .i64 k, .string key, .int .i64 val, .slice va li.length vc, .bool has, .bool nl]]) Tryd.func32 rfl rfl rfl rfl ?_
 refine W.g1 0 (v1 := .agg #[.int .i64 k, .string key, .int .i64 val, .slice va li.length vc, .bool has, .bool nl]) rfl ?_; intro σ s0
 refine W.seq ?_
 refine W.region ?_
 refine WL.box (s0) rfl ?_
 intro w1 u0_0; have hu0_0 := u0_0.at_; have cu0_0 := u0_0.ch; have zu0_0 := u0_0.size
 refine WL.x (X.asg lc) rfl ?_
 refine WL.e1 Nx.thn 1 (lt rfl (lh)) ?_
 intro σ1 s1
 refine W.seq ?_
 refine W.held (fun w' => Ch (fun _ => False) w1 w') mo ?_
 intro w2 qhh1 qc2
 have hS : Ch (fun _ => False) w1 w2 := Ch.weak qc2
 have hzqc2 := qc2.size
 have cdh1 := qc2
 refine WH.take 1 rfl (by kernel_rfl) (by kernel_rfl) (by kernel_rfl) (fun _ _ _ h => h) Gd.none rfl (fun w' hS' => X.fieldAddr fd48_0 (s1)) hS ?_
 refine WH.take 2 rfl (by kernel_rfl) (by kernel_rfl) (by kernel_rfl) (fun _ _ _ h => h) Gd.none rfl (fun w' hS' => X.load pl3 (lh) (by first | assumption | exact hS'.at (by assumption) (by intro hne; first | exact hne | ((try dsimp only at hne); omega)) | exact hS'.at (cu0_0.at0 (by assumption)) (by intro hne; first | exact hne | ((try dsimp only at hne); omega))) (by first | rfl | assumption)) hS ?_
 refine WH.take 6 rfl (by kernel_rfl) (by kernel_rfl) (by kernel_rfl) (fun _ _ _ h => h) Gd.none rfl (fun w' hS' => X.fieldAddr fd48_1 (jt2 rfl (s1))) hS ?_
 refine WH.take 7 rfl (by kernel_rfl) (by kernel_rfl) (by kernel_rfl) (fun _ _ _ h => h) Gd.none rfl (fun w' hS' => X.load pl9 (lh) (by first | assumption | exact hS'.at (by assumption) (by intro hne; first | exact hne | ((try dsimp only at hne); omega)) | exact hS'.at (cu0_0.at0 (by assumption)) (by intro hne; first | exact hne | ((try dsimp only at hne); omega))) (by first | rfl | assumption)) hS ?_
 refine WH.one 0 rfl (by kernel_rfl) (fun _ _ h => h) ?_
 refine WL.bslice Tryd.underlying36 el9 rfl (pcons lc (pcons lc (pcons lc (pcons lc (pcons lc pnil))))) rfl (rfl : _ = [_, _, _, _, _]) rfl ?_
 intro w3 u1_0; have hu1_0 := u1_0.at_; have cu1_0 := u1_0.ch; have zu1_0 := u1_0.size
 have hS := hS.trans cu1_0 (fun _ _ => id) (by intro i hi hg; first | exact hg | exact False.elim hg | omega | ((try dsimp only at hg ⊢); omega))
 refine WL.nil Nx.thn ⟨hS, ?_⟩
 refine WH.take 3 rfl (by kernel_rfl) (by kernel_rfl) (by kernel_rfl) (fun _ _ _ h => h) Gd.none rfl (fun w' hS' => X.indexAddr Tryd.underlying36 el9 (lh) (jt2 rfl (lt rfl (lh))) (by omega) (by omega)) hS ?_
 refine WH.one 4 rfl (by kernel_rfl) (fun _ _ h => h) ?_
 refine WL.x (X.load pl9 (lh) hu1_0 (v := .string (bs (wordO k ++ [32]))) (owb hkk.1 hkk.2)) rfl ?_
 refine WL.nil Nx.thn ⟨hS, ?_⟩
 refine WH.take 5 rfl (by kernel_rfl) (by kernel_rfl) (by kernel_rfl) (fun _ _ _ h => h) Gd.none rfl (fun w' hS' => X.addS lc (lh) (by simp only [ByteArray.size_append, szl, size_bs, List.size_toArray, List.length_cons, List.length_nil, List.length_append]; omega)) hS ?_
 refine WH.take 8 rfl (by kernel_rfl) (by kernel_rfl) (by kernel_rfl) (fun _ _ _ h => h) Gd.none rfl (fun w' hS' => X.addS (lh) (jt4 rfl (lh)) (by simp only [ByteArray.size_append, szl, size_bs, List.size_toArray, List.length_cons, List.length_nil, List.length_append]; omega)) hS ?_
 refine WH.take 9 rfl (by kernel_rfl) (by kernel_rfl) (by kernel_rfl) (fun _ _ _ h => h) Gd.none rfl (fun w' hS' => X.asg (lh)) hS ?_
 refine WH.done (by kernel_rfl) ?_
 refine WL.e2 Nx.thn 1 3 (jt8 rfl (jt2 rfl (s1))) (lh) ?_
 intro σ2 s1 s3
 refine W.seq ?_
 refine W.block ?_
 refine W.seq ?_
 refine W.region ?_
 refine WL.x (X.fieldAddr fd48_0 (s1)) rfl ?_
 refine WL.x (X.load pl3 (lh) (by first | assumption | exact hS.at (by assumption) (by intro hne; first | exact hne | ((try dsimp only at hne); omega)) | exact hS.at (cu0_0.at0 (by assumption)) (by intro hne; first | exact hne | ((try dsimp only at hne); omega))) (by first | rfl | assumption)) rfl ?_
 refine WL.x (X.eql (lh) lc) rfl ?_
 refine WL.x (X.mv (lh)) rfl ?_
 refine WL.splitp (lh) (fun q1 => ?_) (fun q1 => ?_)
 ·
  refine WL.no rfl rfl (lh) (decide_eq_true q1) rfl ?_
  refine WL.no rfl rfl (lt rfl (lh)) (decide_eq_true q1) rfl ?_
  refine WL.no rfl rfl (jt2 rfl (lh)) (decide_eq_true q1) rfl ?_
  refine WL.x (X.pickT (jt2 rfl (lt rfl (lh))) (decide_eq_true q1) lc) rfl ?_
  refine WL.x (X.mv (lh)) rfl ?_
  refine WL.no rfl rfl (lh) rfl rfl ?_
  refine WL.no rfl rfl (lt rfl (lh)) rfl rfl ?_
  refine WL.no rfl rfl (jt2 rfl (lh)) rfl rfl ?_
  refine WL.no rfl rfl (jt2 rfl (lt rfl (lh))) rfl rfl ?_
  refine WL.nou rfl (lh) rfl ?_
  refine WL.nou rfl (lt rfl (lh)) rfl ?_
  refine WL.no rfl rfl (jt4 rfl (jt2 rfl (lh))) rfl rfl ?_
  refine WL.no rfl rfl (jt4 rfl (jt2 rfl (lt rfl (lh)))) rfl rfl ?_
  refine WL.nou rfl (lh) rfl ?_
  refine WL.nou rfl (lt rfl (lh)) rfl ?_
  refine WL.nou rfl (jt2 rfl (lh)) rfl ?_
  refine WL.no rfl rfl (jt8 rfl (jt2 rfl (lt rfl (lh)))) rfl rfl ?_
  refine WL.x (X.pickT (jt8 rfl (jt4 rfl (lh))) rfl lc) rfl ?_
  refine WL.x (X.asg (lh)) rfl ?_
  refine WL.e3 Nx.thn 1 3 15 (jt8 rfl (jt8 rfl (jt4 rfl (jt2 rfl (lt rfl (s1)))))) (jt8 rfl (jt8 rfl (jt4 rfl (jt2 rfl (lt rfl (s3)))))) (lh) ?_
  intro σ3 s1 s3 s15
  refine W.cndT s15 ?_
  refine W.region ?_
  refine WL.x (X.mv (s3)) rfl ?_
  refine WL.x (X.fieldAddr fd48_2 (lt rfl (s1))) rfl ?_
  refine WL.x (X.load pl3 (lh) (by first | assumption | exact hS.at (by assumption) (by intro hne; first | exact hne | ((try dsimp only at hne); omega)) | exact hS.at (cu0_0.at0 (by assumption)) (by intro hne; first | exact hne | ((try dsimp only at hne); omega))) (by first | rfl | assumption)) rfl ?_
  refine WL.call1 ce31 (lh) (decimal_ok val w3 hok.2.2.1.1 hok.2.2.1.2) rfl ?_
  rintro _ w4 ⟨rfl, cD⟩
  have hiv := Lib.itoa_length_le val hok.2.2.1.1 hok.2.2.1.2
  refine WL.x (X.addS lc (lh) (by simp only [ByteArray.size_append, szl, size_bs, List.size_toArray, List.length_cons, List.length_nil, List.length_append]; omega)) rfl ?_
  refine WL.x (X.addS (jt4 rfl (lh)) (lh) (by simp only [ByteArray.size_append, szl, size_bs, List.size_toArray, List.length_cons, List.length_nil, List.length_append]; omega)) rfl ?_
  refine WL.x (X.asg (lh)) rfl ?_
  refine WL.e1 (Nx.blk Nx.thn) 3 (lh) ?_
  intro σ4 s3
  refine W.seq ?_
  refine W.region ?_
  refine WL.x (X.mv (s3)) rfl ?_
  refine WL.x (X.addS (lh) lc (by simp only [ByteArray.size_append, szl, size_bs, List.size_toArray, List.length_cons, List.length_nil, List.length_append]; omega)) rfl ?_
  refine WL.x (X.asg (lh)) rfl ?_
  refine WL.e1 Nx.thn 2 (lh) ?_
  intro σ5 s2
  refine W.ret1 Nx.f1 s2 ?_
  first
    | (have hmv := mid_val hm (by first | exact .inl q1 | exact .inr (.inl q3) | exact .inr (.inr ⟨q4, qh, by simpa using qn⟩)); exact ⟨by rw [opT1, hmv]; exact fin_str (by simp [sb_app, sb_mk, sb_bs, valT]), (cu0_0.trans0 (cdh1.trans0 cu1_0)).trans0 cD⟩)
    | (have hmv := mid_nil (x := (k, key, val, li, has, nl)) qn2; exact ⟨by rw [opT1, hmv]; exact fin_str (by simp [sb_app, sb_mk, sb_bs]), cu0_0.trans0 (cdh1.trans0 cu1_0)⟩)
    | (have hmv := mid_list hm q2 qh2; have hje : j = li.length := by omega
       rw [hje, List.take_length] at hS; exact ⟨by rw [opT1, hmv]; exact fin_str (by simp [sb_app, sb_mk, sb_bs, hS]), (cu0_0.trans0 (cdh1.trans0 cu1_0)).trans0 hcl⟩)
    | exact ⟨by rw [opT1, mid_non2 hm q1 q3 (by intro h9; simp_all) (by intro h9; simp_all)]; exact fin_str (by simp [sb_app, sb_mk, sb_bs]), cu0_0.trans0 (cdh1.trans0 cu1_0)⟩
    | skip
 ·
  refine WL.yes rfl rfl (lh) (decide_eq_false q1) ?_
  refine WL.x (X.fieldAddr fd48_0 (jt4 rfl (s1))) rfl ?_
  refine WL.yes rfl rfl (lt rfl (lh)) (decide_eq_false q1) ?_
  refine WL.x (X.load pl3 (lh) (by first | assumption | exact hS.at (by assumption) (by intro hne; first | exact hne | ((try dsimp only at hne); omega)) | exact hS.at (cu0_0.at0 (by assumption)) (by intro hne; first | exact hne | ((try dsimp only at hne); omega))) (by first | rfl | assumption)) rfl ?_
  refine WL.yes rfl rfl (jt2 rfl (lh)) (decide_eq_false q1) ?_
  refine WL.x (X.eql (lh) lc) rfl ?_
  refine WL.x (X.pickF (jt2 rfl (lt rfl (lh))) (decide_eq_false q1) (lh)) rfl ?_
  refine WL.x (X.mv (lh)) rfl ?_
  refine WL.splitp (lh) (fun q3 => ?_) (fun q3 => ?_)
  ·
   refine WL.no rfl rfl (lh) (decide_eq_true q3) rfl ?_
   refine WL.no rfl rfl (lt rfl (lh)) (decide_eq_true q3) rfl ?_
   refine WL.no rfl rfl (jt2 rfl (lh)) (decide_eq_true q3) rfl ?_
   refine WL.no rfl rfl (jt2 rfl (lt rfl (lh))) (decide_eq_true q3) rfl ?_
   refine WL.nou rfl (lh) rfl ?_
   refine WL.nou rfl (lt rfl (lh)) rfl ?_
   refine WL.no rfl rfl (jt4 rfl (jt2 rfl (lh))) (decide_eq_true q3) rfl ?_
   refine WL.no rfl rfl (jt4 rfl (jt2 rfl (lt rfl (lh)))) (decide_eq_true q3) rfl ?_
   refine WL.nou rfl (lh) rfl ?_
   refine WL.nou rfl (lt rfl (lh)) rfl ?_
   refine WL.nou rfl (jt2 rfl (lh)) rfl ?_
   refine WL.no rfl rfl (jt8 rfl (jt2 rfl (lt rfl (lh)))) (decide_eq_true q3) rfl ?_
   refine WL.x (X.pickT (jt8 rfl (jt4 rfl (lh))) (decide_eq_true q3) lc) rfl ?_
   refine WL.x (X.asg (lh)) rfl ?_
   refine WL.e3 Nx.thn 1 3 15 (jt8 rfl (jt8 rfl (jt4 rfl (jt2 rfl (lt rfl (s1)))))) (jt8 rfl (jt8 rfl (jt4 rfl (jt2 rfl (lt rfl (s3)))))) (lh) ?_
   intro σ6 s1 s3 s15
   refine W.cndT s15 ?_
   refine W.region ?_
   refine WL.x (X.mv (s3)) rfl ?_
   refine WL.x (X.fieldAddr fd48_2 (lt rfl (s1))) rfl ?_
   refine WL.x (X.load pl3 (lh) (by first | assumption | exact hS.at (by assumption) (by intro hne; first | exact hne | ((try dsimp only at hne); omega)) | exact hS.at (cu0_0.at0 (by assumption)) (by intro hne; first | exact hne | ((try dsimp only at hne); omega))) (by first | rfl | assumption)) rfl ?_
   refine WL.call1 ce31 (lh) (decimal_ok val w3 hok.2.2.1.1 hok.2.2.1.2) rfl ?_
   rintro _ w5 ⟨rfl, cD⟩
   have hiv := Lib.itoa_length_le val hok.2.2.1.1 hok.2.2.1.2
   refine WL.x (X.addS lc (lh) (by simp only [ByteArray.size_append, szl, size_bs, List.size_toArray, List.length_cons, List.length_nil, List.length_append]; omega)) rfl ?_
   refine WL.x (X.addS (jt4 rfl (lh)) (lh) (by simp only [ByteArray.size_append, szl, size_bs, List.size_toArray, List.length_cons, List.length_nil, List.length_append]; omega)) rfl ?_
   refine WL.x (X.asg (lh)) rfl ?_
   refine WL.e1 (Nx.blk Nx.thn) 3 (lh) ?_
   intro σ7 s3
   refine W.seq ?_
   refine W.region ?_
   refine WL.x (X.mv (s3)) rfl ?_
   refine WL.x (X.addS (lh) lc (by simp only [ByteArray.size_append, szl, size_bs, List.size_toArray, List.length_cons, List.length_nil, List.length_append]; omega)) rfl ?_
   refine WL.x (X.asg (lh)) rfl ?_
   refine WL.e1 Nx.thn 2 (lh) ?_
   intro σ8 s2
   refine W.ret1 Nx.f1 s2 ?_
   first
     | (have hmv := mid_val hm (by first | exact .inl q1 | exact .inr (.inl q3) | exact .inr (.inr ⟨q4, qh, by simpa using qn⟩)); exact ⟨by rw [opT1, hmv]; exact fin_str (by simp [sb_app, sb_mk, sb_bs, valT]), (cu0_0.trans0 (cdh1.trans0 cu1_0)).trans0 cD⟩)
     | (have hmv := mid_nil (x := (k, key, val, li, has, nl)) qn2; exact ⟨by rw [opT1, hmv]; exact fin_str (by simp [sb_app, sb_mk, sb_bs]), cu0_0.trans0 (cdh1.trans0 cu1_0)⟩)
     | (have hmv := mid_list hm q2 qh2; have hje : j = li.length := by omega
        rw [hje, List.take_length] at hS; exact ⟨by rw [opT1, hmv]; exact fin_str (by simp [sb_app, sb_mk, sb_bs, hS]), (cu0_0.trans0 (cdh1.trans0 cu1_0)).trans0 hcl⟩)
     | exact ⟨by rw [opT1, mid_non2 hm q1 q3 (by intro h9; simp_all) (by intro h9; simp_all)]; exact fin_str (by simp [sb_app, sb_mk, sb_bs]), cu0_0.trans0 (cdh1.trans0 cu1_0)⟩
     | skip
  ·
   refine WL.yes rfl rfl (lh) (decide_eq_false q3) ?_
   refine WL.x (X.fieldAddr fd48_0 (jt8 rfl (lt rfl (s1)))) rfl ?_
   refine WL.yes rfl rfl (lt rfl (lh)) (decide_eq_false q3) ?_
   refine WL.x (X.load pl3 (lh) (by first | assumption | exact hS.at (by assumption) (by intro hne; first | exact hne | ((try dsimp only at hne); omega)) | exact hS.at (cu0_0.at0 (by assumption)) (by intro hne; first | exact hne | ((try dsimp only at hne); omega))) (by first | rfl | assumption)) rfl ?_
   refine WL.yes rfl rfl (jt2 rfl (lh)) (decide_eq_false q3) ?_
   refine WL.x (X.eql (lh) lc) rfl ?_
   refine WL.yes rfl rfl (jt2 rfl (lt rfl (lh))) (decide_eq_false q3) ?_
   refine WL.x (X.mv (lh)) rfl ?_
   refine WL.splitp (lh) (fun q4 => ?_) (fun q4 => ?_)
   ·
    refine WL.yes rfl rfl (lh) (decide_eq_true q4) ?_
    refine WL.x (X.fieldAddr fd48_4 (jt8 rfl (jt4 rfl (lt rfl (s1))))) rfl ?_
    refine WL.yes rfl rfl (lt rfl (lh)) (decide_eq_true q4) ?_
    refine WL.x (X.load pl4 (lh) (by first | assumption | exact hS.at (by assumption) (by intro hne; first | exact hne | ((try dsimp only at hne); omega)) | exact hS.at (cu0_0.at0 (by assumption)) (by intro hne; first | exact hne | ((try dsimp only at hne); omega))) (by first | rfl | assumption)) rfl ?_
    refine WL.yes rfl rfl (jt4 rfl (jt2 rfl (lh))) (decide_eq_false q3) ?_
    refine WL.x (X.pickT (jt2 rfl (lh)) (decide_eq_true q4) (lh)) rfl ?_
    refine WL.yes rfl rfl (jt4 rfl (jt2 rfl (lt rfl (lh)))) (decide_eq_false q3) ?_
    refine WL.x (X.mv (lh)) rfl ?_
    refine WL.split (lh) (fun qh => ?_) (fun qh => ?_)
    ·
     refine WL.yes rfl rfl (lh) (qh) ?_
     refine WL.x (X.fieldAddr fd48_5 (jt8 rfl (jt8 rfl (lt rfl (s1))))) rfl ?_
     refine WL.yes rfl rfl (lt rfl (lh)) (qh) ?_
     refine WL.x (X.load pl4 (lh) (by first | assumption | exact hS.at (by assumption) (by intro hne; first | exact hne | ((try dsimp only at hne); omega)) | exact hS.at (cu0_0.at0 (by assumption)) (by intro hne; first | exact hne | ((try dsimp only at hne); omega))) (by first | rfl | assumption)) rfl ?_
     refine WL.yes rfl rfl (jt2 rfl (lh)) (qh) ?_
     refine WL.x (X.not (lh)) rfl ?_
     refine WL.yes rfl rfl (jt8 rfl (jt2 rfl (lt rfl (lh)))) (decide_eq_false q3) ?_
     refine WL.x (X.pickT (jt2 rfl (lt rfl (lh))) (qh) (lh)) rfl ?_
     refine WL.x (X.pickF (jt8 rfl (jt4 rfl (lh))) (decide_eq_false q3) (lh)) rfl ?_
     refine WL.x (X.asg (lh)) rfl ?_
     refine WL.e3 Nx.thn 1 3 15 (jt8 rfl (jt8 rfl (jt4 rfl (jt2 rfl (lt rfl (s1)))))) (jt8 rfl (jt8 rfl (jt4 rfl (jt2 rfl (lt rfl (s3)))))) (lh) ?_
     intro σ9 s1 s3 s15
     refine W.cnd s15 (fun qn => ?_) (fun qn => ?_)
     ·
      refine W.region ?_
      refine WL.x (X.mv (s3)) rfl ?_
      refine WL.x (X.fieldAddr fd48_2 (lt rfl (s1))) rfl ?_
      refine WL.x (X.load pl3 (lh) (by first | assumption | exact hS.at (by assumption) (by intro hne; first | exact hne | ((try dsimp only at hne); omega)) | exact hS.at (cu0_0.at0 (by assumption)) (by intro hne; first | exact hne | ((try dsimp only at hne); omega))) (by first | rfl | assumption)) rfl ?_
      refine WL.call1 ce31 (lh) (decimal_ok val w3 hok.2.2.1.1 hok.2.2.1.2) rfl ?_
      rintro _ w6 ⟨rfl, cD⟩
      have hiv := Lib.itoa_length_le val hok.2.2.1.1 hok.2.2.1.2
      refine WL.x (X.addS lc (lh) (by simp only [ByteArray.size_append, szl, size_bs, List.size_toArray, List.length_cons, List.length_nil, List.length_append]; omega)) rfl ?_
      refine WL.x (X.addS (jt4 rfl (lh)) (lh) (by simp only [ByteArray.size_append, szl, size_bs, List.size_toArray, List.length_cons, List.length_nil, List.length_append]; omega)) rfl ?_
      refine WL.x (X.asg (lh)) rfl ?_
      refine WL.e1 (Nx.blk Nx.thn) 3 (lh) ?_
      intro σ10 s3
      refine W.seq ?_
      refine W.region ?_
      refine WL.x (X.mv (s3)) rfl ?_
      refine WL.x (X.addS (lh) lc (by simp only [ByteArray.size_append, szl, size_bs, List.size_toArray, List.length_cons, List.length_nil, List.length_append]; omega)) rfl ?_
      refine WL.x (X.asg (lh)) rfl ?_
      refine WL.e1 Nx.thn 2 (lh) ?_
      intro σ11 s2
      refine W.ret1 Nx.f1 s2 ?_
      first
        | (have hmv := mid_val hm (by first | exact .inl q1 | exact .inr (.inl q3) | exact .inr (.inr ⟨q4, qh, by simpa using qn⟩)); exact ⟨by rw [opT1, hmv]; exact fin_str (by simp [sb_app, sb_mk, sb_bs, valT]), (cu0_0.trans0 (cdh1.trans0 cu1_0)).trans0 cD⟩)
        | (have hmv := mid_nil (x := (k, key, val, li, has, nl)) qn2; exact ⟨by rw [opT1, hmv]; exact fin_str (by simp [sb_app, sb_mk, sb_bs]), cu0_0.trans0 (cdh1.trans0 cu1_0)⟩)
        | (have hmv := mid_list hm q2 qh2; have hje : j = li.length := by omega
           rw [hje, List.take_length] at hS; exact ⟨by rw [opT1, hmv]; exact fin_str (by simp [sb_app, sb_mk, sb_bs, hS]), (cu0_0.trans0 (cdh1.trans0 cu1_0)).trans0 hcl⟩)
        | exact ⟨by rw [opT1, mid_non2 hm q1 q3 (by intro h9; simp_all) (by intro h9; simp_all)]; exact fin_str (by simp [sb_app, sb_mk, sb_bs]), cu0_0.trans0 (cdh1.trans0 cu1_0)⟩
        | skip
     ·
      refine W.seq ?_
      refine W.region ?_
      refine WL.x (X.fieldAddr fd48_0 (s1)) rfl ?_
      refine WL.x (X.load pl3 (lh) (by first | assumption | exact hS.at (by assumption) (by intro hne; first | exact hne | ((try dsimp only at hne); omega)) | exact hS.at (cu0_0.at0 (by assumption)) (by intro hne; first | exact hne | ((try dsimp only at hne); omega))) (by first | rfl | assumption)) rfl ?_
      refine WL.x (X.eql (lh) lc) rfl ?_
      refine WL.x (X.mv (lh)) rfl ?_
      refine WL.splitp (lh) (fun q4b => ?_) (fun q4b => ?_)
      ·
       refine WL.yes rfl rfl (lh) (decide_eq_true q4b) ?_
       refine WL.x (X.fieldAddr fd48_5 (jt4 rfl (s1))) rfl ?_
       refine WL.yes rfl rfl (lt rfl (lh)) (decide_eq_true q4b) ?_
       refine WL.x (X.load pl4 (lh) (by first | assumption | exact hS.at (by assumption) (by intro hne; first | exact hne | ((try dsimp only at hne); omega)) | exact hS.at (cu0_0.at0 (by assumption)) (by intro hne; first | exact hne | ((try dsimp only at hne); omega))) (by first | rfl | assumption)) rfl ?_
       refine WL.x (X.pickT (jt2 rfl (lh)) (decide_eq_true q4b) (lh)) rfl ?_
       refine WL.x (X.asg (lh)) rfl ?_
       refine WL.e3 Nx.thn 1 3 44 (jt8 rfl (s1)) (jt8 rfl (s3)) (lh) ?_
       intro σ12 s1 s3 s44
       refine W.cnd s44 (fun qn2 => ?_) (fun qn2 => ?_)
       ·
        refine W.region ?_
        refine WL.x (X.mv (s3)) rfl ?_
        refine WL.x (X.addS (lh) lc (by simp only [ByteArray.size_append, szl, size_bs, List.size_toArray, List.length_cons, List.length_nil, List.length_append]; omega)) rfl ?_
        refine WL.x (X.asg (lh)) rfl ?_
        refine WL.e1 (Nx.blk Nx.thn) 3 (lh) ?_
        intro σ13 s3
        refine W.seq ?_
        refine W.region ?_
        refine WL.x (X.mv (s3)) rfl ?_
        refine WL.x (X.addS (lh) lc (by simp only [ByteArray.size_append, szl, size_bs, List.size_toArray, List.length_cons, List.length_nil, List.length_append]; omega)) rfl ?_
        refine WL.x (X.asg (lh)) rfl ?_
        refine WL.e1 Nx.thn 2 (lh) ?_
        intro σ14 s2
        refine W.ret1 Nx.f1 s2 ?_
        first
          | (have hmv := mid_val hm (by first | exact .inl q1 | exact .inr (.inl q3) | exact .inr (.inr ⟨q4, qh, by simpa using qn⟩)); exact ⟨by rw [opT1, hmv]; exact fin_str (by simp [sb_app, sb_mk, sb_bs, valT]), (cu0_0.trans0 (cdh1.trans0 cu1_0)).trans0 cD⟩)
          | (have hmv := mid_nil (x := (k, key, val, li, has, nl)) qn2; exact ⟨by rw [opT1, hmv]; exact fin_str (by simp [sb_app, sb_mk, sb_bs]), cu0_0.trans0 (cdh1.trans0 cu1_0)⟩)
          | (have hmv := mid_list hm q2 qh2; have hje : j = li.length := by omega
             rw [hje, List.take_length] at hS; exact ⟨by rw [opT1, hmv]; exact fin_str (by simp [sb_app, sb_mk, sb_bs, hS]), (cu0_0.trans0 (cdh1.trans0 cu1_0)).trans0 hcl⟩)
          | exact ⟨by rw [opT1, mid_non2 hm q1 q3 (by intro h9; simp_all) (by intro h9; simp_all)]; exact fin_str (by simp [sb_app, sb_mk, sb_bs]), cu0_0.trans0 (cdh1.trans0 cu1_0)⟩
          | skip
       ·
        refine W.seq ?_
        refine W.region ?_
        refine WL.x (X.fieldAddr fd48_0 (s1)) rfl ?_
        refine WL.x (X.load pl3 (lh) (by first | assumption | exact hS.at (by assumption) (by intro hne; first | exact hne | ((try dsimp only at hne); omega)) | exact hS.at (cu0_0.at0 (by assumption)) (by intro hne; first | exact hne | ((try dsimp only at hne); omega))) (by first | rfl | assumption)) rfl ?_
        refine WL.x (X.eql (lh) lc) rfl ?_
        refine WL.x (X.mv (lh)) rfl ?_
        refine WL.splitp (lh) (fun q2 => ?_) (fun q2 => ?_)
        ·
         refine WL.yes rfl rfl (lh) (decide_eq_true q2) ?_
         refine WL.x (X.fieldAddr fd48_4 (jt4 rfl (s1))) rfl ?_
         refine WL.yes rfl rfl (lt rfl (lh)) (decide_eq_true q2) ?_
         refine WL.x (X.load pl4 (lh) (by first | assumption | exact hS.at (by assumption) (by intro hne; first | exact hne | ((try dsimp only at hne); omega)) | exact hS.at (cu0_0.at0 (by assumption)) (by intro hne; first | exact hne | ((try dsimp only at hne); omega))) (by first | rfl | assumption)) rfl ?_
         refine WL.x (X.pickT (jt2 rfl (lh)) (decide_eq_true q2) (lh)) rfl ?_
         refine WL.x (X.asg (lh)) rfl ?_
         refine WL.e3 Nx.thn 1 3 54 (jt8 rfl (s1)) (jt8 rfl (s3)) (lh) ?_
         intro σ15 s1 s3 s54
         refine W.cnd s54 (fun qh2 => ?_) (fun qh2 => ?_)
         ·
          refine W.seq ?_
          refine W.region ?_
          refine WL.x (X.mv (s3)) rfl ?_
          refine WL.x (X.addS (lh) lc (by simp only [ByteArray.size_append, szl, size_bs, List.size_toArray, List.length_cons, List.length_nil, List.length_append]; omega)) rfl ?_
          refine WL.x (X.asg (lh)) rfl ?_
          refine WL.e2 Nx.thn 1 3 (jt2 rfl (lt rfl (s1))) (lh) ?_
          intro σ16 s1 s3
          refine W.seq ?_
          refine W.seq ?_
          refine W.region ?_
          refine WL.x (X.fieldAddr fd48_3 (s1)) rfl ?_
          refine WL.x (v := .slice va li.length vc) (X.load pl46 (lh) (by first | assumption | exact hS.at (by assumption) (by intro hne; first | exact hne | ((try dsimp only at hne); omega)) | exact hS.at (cu0_0.at0 (by assumption)) (by intro hne; first | exact hne | ((try dsimp only at hne); omega))) rfl) rfl ?_
          refine WL.x (X.lenSl Tryd.underlying46 (lh)) rfl ?_
          refine WL.x (X.mv lc) rfl ?_
          refine WL.e4 Nx.thn 3 65 66 67 (jt4 rfl (s3)) (jt2 rfl (lh)) (lt rfl (lh)) (lh) ?_
          intro σ17 s3 s65 s66 s67
          refine W.block ?_
          have qo3 := s65
          have qo4 := s66
          -- loop 0: kept [65, 66], varied [3, 67]
          refine W.loop (G := Nat) (fun j σ' w' => (σ' 65 = σ17 65 ∧ σ' 66 = σ17 66 ∧ True) ∧ (∃ S, σ' 3 = .string S ∧ σ' 67 = .int .i64 (j : Int) ∧ sb S = ([91, 32] ++ (wordO k ++ [32]) ++ sb key ++ [32, 40]) ++ (li.take j).flatMap valT ∧ j ≤ li.length ∧ Ch0 w3 w')) (fun j => li.length - j) (0) ⟨⟨rfl, rfl, trivial⟩, _, s3, s67, (by simp [sb_app, sb_mk, sb_bs]), by omega, Ch.refl _ _⟩ ?_
          rintro j σ18 w7 ⟨⟨f65, f66, _⟩, S, s3, s67, hS, hj, hcl⟩
          have s65 := f65.trans qo3
          have s66 := f66.trans qo4
          refine W.seq ?_
          refine W.region ?_
          refine WL.x (X.lss (s67) (s66)) rfl ?_
          refine WL.e5 Nx.thn 3 65 66 67 68 (lt rfl (s3)) (lt rfl (s65)) (lt rfl (s66)) (lt rfl (s67)) (lh) ?_
          intro σ19 s3 s65 s66 s67 s68
          refine W.seq ?_
          refine W.cndp s68 (fun hlt => ?_) (fun hlt => ?_)
          ·
           obtain ⟨gb, og, csg, Tg, frg, rfl, hg1, hg2⟩ := hs.1.at (k := j) (by rw [List.length_map]; omega)
           have hSz := sb_len S
           rw [hS] at hSz
           simp only [List.length_append, List.length_cons, List.length_nil, sb_len] at hSz
           have hvl := vals_len hok j
           dsimp only at hvl
           have hjl : j < li.length := by omega
           have hzj := hok.2.2.2 li[j] (List.getElem_mem hjl)
           have hij := Lib.itoa_length_le li[j] hzj.1 hzj.2
           refine W.skip Nx.thn ?_
           refine W.seq ?_
           refine W.block ?_
           refine W.seq ?_
           refine W.region ?_
           refine WL.x (X.indexAddr Tryd.underlying46 el3 (s65) (s67) (by omega) (by omega)) rfl ?_
           refine WL.x (X.load pl3 (lh) ((cu0_0.trans0 (cdh1.trans0 cu1_0)).trans0 hcl |>.at0 hg1) (v := .int .i64 li[j]) (by rw [show og + (j : Int).toNat * 1 = og + j by omega, hg2 j (by rw [List.length_map]; omega), List.getElem?_map, List.getElem?_eq_getElem (by omega)]; rfl)) rfl ?_
           refine WL.x (X.asg (lh)) rfl ?_
           refine WL.e5 Nx.thn 3 5 65 66 67 (jt2 rfl (lt rfl (s3))) (lh) (jt2 rfl (lt rfl (s65))) (jt2 rfl (lt rfl (s66))) (jt2 rfl (lt rfl (s67))) ?_
           intro σ20 s3 s5 s65 s66 s67
           refine W.region ?_
           refine WL.x (X.mv (s3)) rfl ?_
           refine WL.x (X.mv (lt rfl (s5))) rfl ?_
           refine WL.call1 ce31 (lh) (decimal_ok li[j] w7 hzj.1 hzj.2) rfl ?_
           rintro _ w8 ⟨rfl, cD⟩
           refine WL.x (X.addS lc (lh) (by simp only [ByteArray.size_append, szl, size_bs, List.size_toArray, List.length_cons, List.length_nil, List.length_append]; omega)) rfl ?_
           refine WL.x (X.addS (jt2 rfl (lt rfl (lh))) (lh) (by simp only [ByteArray.size_append, szl, size_bs, List.size_toArray, List.length_cons, List.length_nil, List.length_append]; omega)) rfl ?_
           refine WL.x (X.asg (lh)) rfl ?_
           refine WL.e4 (Nx.blk Nx.thn) 3 65 66 67 (lh) (jt4 rfl (jt2 rfl (s65))) (jt4 rfl (jt2 rfl (s66))) (jt4 rfl (jt2 rfl (s67))) ?_
           intro σ21 s3 s65 s66 s67
           refine W.region ?_
           first | refine WL.x (X.add (s67) lc (by omega) (by omega)) rfl ?_ | refine WL.x (X.addw (s67) lc) rfl ?_
           refine WL.x (X.mv (lh)) rfl ?_
           refine WL.e4 Nx.thn 3 65 66 67 (jt2 rfl (s3)) (jt2 rfl (s65)) (jt2 rfl (s66)) (lh) ?_
           intro σ22 s3 s65 s66 s67
           refine ⟨j + 1, by omega, ⟨s65.trans qo3.symm, s66.trans qo4.symm, trivial⟩, _, s3, s67, (by rw [fm_take hjl]; simp [sb_app, sb_mk, sb_bs, hS, valT]), by omega, hcl.trans0 cD⟩
          ·
           have hSz := sb_len S
           rw [hS] at hSz
           simp only [List.length_append, List.length_cons, List.length_nil, sb_len] at hSz
           have hvl := vals_len hok j
           dsimp only at hvl
           refine W.exit (Nx.xthn (Nx.xthn (Nx.xblk Nx.thn))) ?_
           refine W.region ?_
           refine WL.x (X.mv (s3)) rfl ?_
           refine WL.x (X.addS (lh) lc (by simp only [ByteArray.size_append, szl, size_bs, List.size_toArray, List.length_cons, List.length_nil, List.length_append]; omega)) rfl ?_
           refine WL.x (X.asg (lh)) rfl ?_
           refine WL.e1 (Nx.blk Nx.thn) 3 (lh) ?_
           intro σ23 s3
           refine W.seq ?_
           refine W.region ?_
           refine WL.x (X.mv (s3)) rfl ?_
           refine WL.x (X.addS (lh) lc (by simp only [ByteArray.size_append, szl, size_bs, List.size_toArray, List.length_cons, List.length_nil, List.length_append]; omega)) rfl ?_
           refine WL.x (X.asg (lh)) rfl ?_
           refine WL.e1 Nx.thn 2 (lh) ?_
           intro σ24 s2
           refine W.ret1 Nx.f1 s2 ?_
           first
             | (have hmv := mid_val hm (by first | exact .inl q1 | exact .inr (.inl q3) | exact .inr (.inr ⟨q4, qh, by simpa using qn⟩)); exact ⟨by rw [opT1, hmv]; exact fin_str (by simp [sb_app, sb_mk, sb_bs, valT]), (cu0_0.trans0 (cdh1.trans0 cu1_0)).trans0 cD⟩)
             | (have hmv := mid_nil (x := (k, key, val, li, has, nl)) qn2; exact ⟨by rw [opT1, hmv]; exact fin_str (by simp [sb_app, sb_mk, sb_bs]), cu0_0.trans0 (cdh1.trans0 cu1_0)⟩)
             | (have hmv := mid_list hm q2 qh2; have hje : j = li.length := by omega
                rw [hje, List.take_length] at hS; exact ⟨by rw [opT1, hmv]; exact fin_str (by simp [sb_app, sb_mk, sb_bs, hS]), (cu0_0.trans0 (cdh1.trans0 cu1_0)).trans0 hcl⟩)
             | exact ⟨by rw [opT1, mid_non2 hm q1 q3 (by intro h9; simp_all) (by intro h9; simp_all)]; exact fin_str (by simp [sb_app, sb_mk, sb_bs]), cu0_0.trans0 (cdh1.trans0 cu1_0)⟩
             | skip
         ·
          refine W.skip (Nx.blk Nx.thn) ?_
          refine W.seq ?_
          refine W.region ?_
          refine WL.x (X.mv (s3)) rfl ?_
          refine WL.x (X.addS (lh) lc (by simp only [ByteArray.size_append, szl, size_bs, List.size_toArray, List.length_cons, List.length_nil, List.length_append]; omega)) rfl ?_
          refine WL.x (X.asg (lh)) rfl ?_
          refine WL.e1 Nx.thn 2 (lh) ?_
          intro σ25 s2
          refine W.ret1 Nx.f1 s2 ?_
          first
            | (have hmv := mid_val hm (by first | exact .inl q1 | exact .inr (.inl q3) | exact .inr (.inr ⟨q4, qh, by simpa using qn⟩)); exact ⟨by rw [opT1, hmv]; exact fin_str (by simp [sb_app, sb_mk, sb_bs, valT]), (cu0_0.trans0 (cdh1.trans0 cu1_0)).trans0 cD⟩)
            | (have hmv := mid_nil (x := (k, key, val, li, has, nl)) qn2; exact ⟨by rw [opT1, hmv]; exact fin_str (by simp [sb_app, sb_mk, sb_bs]), cu0_0.trans0 (cdh1.trans0 cu1_0)⟩)
            | (have hmv := mid_list hm q2 qh2; have hje : j = li.length := by omega
               rw [hje, List.take_length] at hS; exact ⟨by rw [opT1, hmv]; exact fin_str (by simp [sb_app, sb_mk, sb_bs, hS]), (cu0_0.trans0 (cdh1.trans0 cu1_0)).trans0 hcl⟩)
            | exact ⟨by rw [opT1, mid_non2 hm q1 q3 (by intro h9; simp_all) (by intro h9; simp_all)]; exact fin_str (by simp [sb_app, sb_mk, sb_bs]), cu0_0.trans0 (cdh1.trans0 cu1_0)⟩
            | skip
        ·
         refine WL.no rfl rfl (lh) (decide_eq_false q2) rfl ?_
         refine WL.no rfl rfl (lt rfl (lh)) (decide_eq_false q2) rfl ?_
         refine WL.x (X.pickF (jt2 rfl (lh)) (decide_eq_false q2) lc) rfl ?_
         refine WL.x (X.asg (lh)) rfl ?_
         refine WL.e3 Nx.thn 1 3 54 (jt8 rfl (s1)) (jt8 rfl (s3)) (lh) ?_
         intro σ26 s1 s3 s54
         refine W.cndF s54 ?_
         refine W.skip (Nx.blk Nx.thn) ?_
         refine W.seq ?_
         refine W.region ?_
         refine WL.x (X.mv (s3)) rfl ?_
         refine WL.x (X.addS (lh) lc (by simp only [ByteArray.size_append, szl, size_bs, List.size_toArray, List.length_cons, List.length_nil, List.length_append]; omega)) rfl ?_
         refine WL.x (X.asg (lh)) rfl ?_
         refine WL.e1 Nx.thn 2 (lh) ?_
         intro σ27 s2
         refine W.ret1 Nx.f1 s2 ?_
         first
           | (have hmv := mid_val hm (by first | exact .inl q1 | exact .inr (.inl q3) | exact .inr (.inr ⟨q4, qh, by simpa using qn⟩)); exact ⟨by rw [opT1, hmv]; exact fin_str (by simp [sb_app, sb_mk, sb_bs, valT]), (cu0_0.trans0 (cdh1.trans0 cu1_0)).trans0 cD⟩)
           | (have hmv := mid_nil (x := (k, key, val, li, has, nl)) qn2; exact ⟨by rw [opT1, hmv]; exact fin_str (by simp [sb_app, sb_mk, sb_bs]), cu0_0.trans0 (cdh1.trans0 cu1_0)⟩)
           | (have hmv := mid_list hm q2 qh2; have hje : j = li.length := by omega
              rw [hje, List.take_length] at hS; exact ⟨by rw [opT1, hmv]; exact fin_str (by simp [sb_app, sb_mk, sb_bs, hS]), (cu0_0.trans0 (cdh1.trans0 cu1_0)).trans0 hcl⟩)
           | exact ⟨by rw [opT1, mid_non2 hm q1 q3 (by intro h9; simp_all) (by intro h9; simp_all)]; exact fin_str (by simp [sb_app, sb_mk, sb_bs]), cu0_0.trans0 (cdh1.trans0 cu1_0)⟩
           | skip
      ·
       refine WL.no rfl rfl (lh) (decide_eq_false q4b) rfl ?_
       refine WL.no rfl rfl (lt rfl (lh)) (decide_eq_false q4b) rfl ?_
       refine WL.x (X.pickF (jt2 rfl (lh)) (decide_eq_false q4b) lc) rfl ?_
       refine WL.x (X.asg (lh)) rfl ?_
       refine WL.e3 Nx.thn 1 3 44 (jt8 rfl (s1)) (jt8 rfl (s3)) (lh) ?_
       intro σ28 s1 s3 s44
       refine W.cndF s44 ?_
       refine W.seq ?_
       refine W.region ?_
       refine WL.x (X.fieldAddr fd48_0 (s1)) rfl ?_
       refine WL.x (X.load pl3 (lh) (by first | assumption | exact hS.at (by assumption) (by intro hne; first | exact hne | ((try dsimp only at hne); omega)) | exact hS.at (cu0_0.at0 (by assumption)) (by intro hne; first | exact hne | ((try dsimp only at hne); omega))) (by first | rfl | assumption)) rfl ?_
       refine WL.x (X.eql (lh) lc) rfl ?_
       refine WL.x (X.mv (lh)) rfl ?_
       refine WL.splitp (lh) (fun q2 => ?_) (fun q2 => ?_)
       ·
        refine WL.yes rfl rfl (lh) (decide_eq_true q2) ?_
        refine WL.x (X.fieldAddr fd48_4 (jt4 rfl (s1))) rfl ?_
        refine WL.yes rfl rfl (lt rfl (lh)) (decide_eq_true q2) ?_
        refine WL.x (X.load pl4 (lh) (by first | assumption | exact hS.at (by assumption) (by intro hne; first | exact hne | ((try dsimp only at hne); omega)) | exact hS.at (cu0_0.at0 (by assumption)) (by intro hne; first | exact hne | ((try dsimp only at hne); omega))) (by first | rfl | assumption)) rfl ?_
        refine WL.x (X.pickT (jt2 rfl (lh)) (decide_eq_true q2) (lh)) rfl ?_
        refine WL.x (X.asg (lh)) rfl ?_
        refine WL.e3 Nx.thn 1 3 54 (jt8 rfl (s1)) (jt8 rfl (s3)) (lh) ?_
        intro σ29 s1 s3 s54
        refine W.cnd s54 (fun qh2 => ?_) (fun qh2 => ?_)
        ·
         refine W.seq ?_
         refine W.region ?_
         refine WL.x (X.mv (s3)) rfl ?_
         refine WL.x (X.addS (lh) lc (by simp only [ByteArray.size_append, szl, size_bs, List.size_toArray, List.length_cons, List.length_nil, List.length_append]; omega)) rfl ?_
         refine WL.x (X.asg (lh)) rfl ?_
         refine WL.e2 Nx.thn 1 3 (jt2 rfl (lt rfl (s1))) (lh) ?_
         intro σ30 s1 s3
         refine W.seq ?_
         refine W.seq ?_
         refine W.region ?_
         refine WL.x (X.fieldAddr fd48_3 (s1)) rfl ?_
         refine WL.x (v := .slice va li.length vc) (X.load pl46 (lh) (by first | assumption | exact hS.at (by assumption) (by intro hne; first | exact hne | ((try dsimp only at hne); omega)) | exact hS.at (cu0_0.at0 (by assumption)) (by intro hne; first | exact hne | ((try dsimp only at hne); omega))) rfl) rfl ?_
         refine WL.x (X.lenSl Tryd.underlying46 (lh)) rfl ?_
         refine WL.x (X.mv lc) rfl ?_
         refine WL.e4 Nx.thn 3 65 66 67 (jt4 rfl (s3)) (jt2 rfl (lh)) (lt rfl (lh)) (lh) ?_
         intro σ31 s3 s65 s66 s67
         refine W.block ?_
         have qo5 := s65
         have qo6 := s66
         -- loop 0: kept [65, 66], varied [3, 67]
         refine W.loop (G := Nat) (fun j σ' w' => (σ' 65 = σ31 65 ∧ σ' 66 = σ31 66 ∧ True) ∧ (∃ S, σ' 3 = .string S ∧ σ' 67 = .int .i64 (j : Int) ∧ sb S = ([91, 32] ++ (wordO k ++ [32]) ++ sb key ++ [32, 40]) ++ (li.take j).flatMap valT ∧ j ≤ li.length ∧ Ch0 w3 w')) (fun j => li.length - j) (0) ⟨⟨rfl, rfl, trivial⟩, _, s3, s67, (by simp [sb_app, sb_mk, sb_bs]), by omega, Ch.refl _ _⟩ ?_
         rintro j σ32 w9 ⟨⟨f65, f66, _⟩, S, s3, s67, hS, hj, hcl⟩
         have s65 := f65.trans qo5
         have s66 := f66.trans qo6
         refine W.seq ?_
         refine W.region ?_
         refine WL.x (X.lss (s67) (s66)) rfl ?_
         refine WL.e5 Nx.thn 3 65 66 67 68 (lt rfl (s3)) (lt rfl (s65)) (lt rfl (s66)) (lt rfl (s67)) (lh) ?_
         intro σ33 s3 s65 s66 s67 s68
         refine W.seq ?_
         refine W.cndp s68 (fun hlt => ?_) (fun hlt => ?_)
         ·
          obtain ⟨gb, og, csg, Tg, frg, rfl, hg1, hg2⟩ := hs.1.at (k := j) (by rw [List.length_map]; omega)
          have hSz := sb_len S
          rw [hS] at hSz
          simp only [List.length_append, List.length_cons, List.length_nil, sb_len] at hSz
          have hvl := vals_len hok j
          dsimp only at hvl
          have hjl : j < li.length := by omega
          have hzj := hok.2.2.2 li[j] (List.getElem_mem hjl)
          have hij := Lib.itoa_length_le li[j] hzj.1 hzj.2
          refine W.skip Nx.thn ?_
          refine W.seq ?_
          refine W.block ?_
          refine W.seq ?_
          refine W.region ?_
          refine WL.x (X.indexAddr Tryd.underlying46 el3 (s65) (s67) (by omega) (by omega)) rfl ?_
          refine WL.x (X.load pl3 (lh) ((cu0_0.trans0 (cdh1.trans0 cu1_0)).trans0 hcl |>.at0 hg1) (v := .int .i64 li[j]) (by rw [show og + (j : Int).toNat * 1 = og + j by omega, hg2 j (by rw [List.length_map]; omega), List.getElem?_map, List.getElem?_eq_getElem (by omega)]; rfl)) rfl ?_
          refine WL.x (X.asg (lh)) rfl ?_
          refine WL.e5 Nx.thn 3 5 65 66 67 (jt2 rfl (lt rfl (s3))) (lh) (jt2 rfl (lt rfl (s65))) (jt2 rfl (lt rfl (s66))) (jt2 rfl (lt rfl (s67))) ?_
          intro σ34 s3 s5 s65 s66 s67
          refine W.region ?_
          refine WL.x (X.mv (s3)) rfl ?_
          refine WL.x (X.mv (lt rfl (s5))) rfl ?_
          refine WL.call1 ce31 (lh) (decimal_ok li[j] w9 hzj.1 hzj.2) rfl ?_
          rintro _ w10 ⟨rfl, cD⟩
          refine WL.x (X.addS lc (lh) (by simp only [ByteArray.size_append, szl, size_bs, List.size_toArray, List.length_cons, List.length_nil, List.length_append]; omega)) rfl ?_
          refine WL.x (X.addS (jt2 rfl (lt rfl (lh))) (lh) (by simp only [ByteArray.size_append, szl, size_bs, List.size_toArray, List.length_cons, List.length_nil, List.length_append]; omega)) rfl ?_
          refine WL.x (X.asg (lh)) rfl ?_
          refine WL.e4 (Nx.blk Nx.thn) 3 65 66 67 (lh) (jt4 rfl (jt2 rfl (s65))) (jt4 rfl (jt2 rfl (s66))) (jt4 rfl (jt2 rfl (s67))) ?_
          intro σ35 s3 s65 s66 s67
          refine W.region ?_
          first | refine WL.x (X.add (s67) lc (by omega) (by omega)) rfl ?_ | refine WL.x (X.addw (s67) lc) rfl ?_
          refine WL.x (X.mv (lh)) rfl ?_
          refine WL.e4 Nx.thn 3 65 66 67 (jt2 rfl (s3)) (jt2 rfl (s65)) (jt2 rfl (s66)) (lh) ?_
          intro σ36 s3 s65 s66 s67
          refine ⟨j + 1, by omega, ⟨s65.trans qo5.symm, s66.trans qo6.symm, trivial⟩, _, s3, s67, (by rw [fm_take hjl]; simp [sb_app, sb_mk, sb_bs, hS, valT]), by omega, hcl.trans0 cD⟩
         ·
          have hSz := sb_len S
          rw [hS] at hSz
          simp only [List.length_append, List.length_cons, List.length_nil, sb_len] at hSz
          have hvl := vals_len hok j
          dsimp only at hvl
          refine W.exit (Nx.xthn (Nx.xthn (Nx.xblk Nx.thn))) ?_
          refine W.region ?_
          refine WL.x (X.mv (s3)) rfl ?_
          refine WL.x (X.addS (lh) lc (by simp only [ByteArray.size_append, szl, size_bs, List.size_toArray, List.length_cons, List.length_nil, List.length_append]; omega)) rfl ?_
          refine WL.x (X.asg (lh)) rfl ?_
          refine WL.e1 (Nx.blk Nx.thn) 3 (lh) ?_
          intro σ37 s3
          refine W.seq ?_
          refine W.region ?_
          refine WL.x (X.mv (s3)) rfl ?_
          refine WL.x (X.addS (lh) lc (by simp only [ByteArray.size_append, szl, size_bs, List.size_toArray, List.length_cons, List.length_nil, List.length_append]; omega)) rfl ?_
          refine WL.x (X.asg (lh)) rfl ?_
          refine WL.e1 Nx.thn 2 (lh) ?_
          intro σ38 s2
          refine W.ret1 Nx.f1 s2 ?_
          first
            | (have hmv := mid_val hm (by first | exact .inl q1 | exact .inr (.inl q3) | exact .inr (.inr ⟨q4, qh, by simpa using qn⟩)); exact ⟨by rw [opT1, hmv]; exact fin_str (by simp [sb_app, sb_mk, sb_bs, valT]), (cu0_0.trans0 (cdh1.trans0 cu1_0)).trans0 cD⟩)
            | (have hmv := mid_nil (x := (k, key, val, li, has, nl)) qn2; exact ⟨by rw [opT1, hmv]; exact fin_str (by simp [sb_app, sb_mk, sb_bs]), cu0_0.trans0 (cdh1.trans0 cu1_0)⟩)
            | (have hmv := mid_list hm q2 qh2; have hje : j = li.length := by omega
               rw [hje, List.take_length] at hS; exact ⟨by rw [opT1, hmv]; exact fin_str (by simp [sb_app, sb_mk, sb_bs, hS]), (cu0_0.trans0 (cdh1.trans0 cu1_0)).trans0 hcl⟩)
            | exact ⟨by rw [opT1, mid_non2 hm q1 q3 (by intro h9; simp_all) (by intro h9; simp_all)]; exact fin_str (by simp [sb_app, sb_mk, sb_bs]), cu0_0.trans0 (cdh1.trans0 cu1_0)⟩
            | skip
        ·
         refine W.skip (Nx.blk Nx.thn) ?_
         refine W.seq ?_
         refine W.region ?_
         refine WL.x (X.mv (s3)) rfl ?_
         refine WL.x (X.addS (lh) lc (by simp only [ByteArray.size_append, szl, size_bs, List.size_toArray, List.length_cons, List.length_nil, List.length_append]; omega)) rfl ?_
         refine WL.x (X.asg (lh)) rfl ?_
         refine WL.e1 Nx.thn 2 (lh) ?_
         intro σ39 s2
         refine W.ret1 Nx.f1 s2 ?_
         first
           | (have hmv := mid_val hm (by first | exact .inl q1 | exact .inr (.inl q3) | exact .inr (.inr ⟨q4, qh, by simpa using qn⟩)); exact ⟨by rw [opT1, hmv]; exact fin_str (by simp [sb_app, sb_mk, sb_bs, valT]), (cu0_0.trans0 (cdh1.trans0 cu1_0)).trans0 cD⟩)
           | (have hmv := mid_nil (x := (k, key, val, li, has, nl)) qn2; exact ⟨by rw [opT1, hmv]; exact fin_str (by simp [sb_app, sb_mk, sb_bs]), cu0_0.trans0 (cdh1.trans0 cu1_0)⟩)
           | (have hmv := mid_list hm q2 qh2; have hje : j = li.length := by omega
              rw [hje, List.take_length] at hS; exact ⟨by rw [opT1, hmv]; exact fin_str (by simp [sb_app, sb_mk, sb_bs, hS]), (cu0_0.trans0 (cdh1.trans0 cu1_0)).trans0 hcl⟩)
           | exact ⟨by rw [opT1, mid_non2 hm q1 q3 (by intro h9; simp_all) (by intro h9; simp_all)]; exact fin_str (by simp [sb_app, sb_mk, sb_bs]), cu0_0.trans0 (cdh1.trans0 cu1_0)⟩
           | skip
       ·
        refine WL.no rfl rfl (lh) (decide_eq_false q2) rfl ?_
        refine WL.no rfl rfl (lt rfl (lh)) (decide_eq_false q2) rfl ?_
        refine WL.x (X.pickF (jt2 rfl (lh)) (decide_eq_false q2) lc) rfl ?_
        refine WL.x (X.asg (lh)) rfl ?_
        refine WL.e3 Nx.thn 1 3 54 (jt8 rfl (s1)) (jt8 rfl (s3)) (lh) ?_
        intro σ40 s1 s3 s54
        refine W.cndF s54 ?_
        refine W.skip (Nx.blk Nx.thn) ?_
        refine W.seq ?_
        refine W.region ?_
        refine WL.x (X.mv (s3)) rfl ?_
        refine WL.x (X.addS (lh) lc (by simp only [ByteArray.size_append, szl, size_bs, List.size_toArray, List.length_cons, List.length_nil, List.length_append]; omega)) rfl ?_
        refine WL.x (X.asg (lh)) rfl ?_
        refine WL.e1 Nx.thn 2 (lh) ?_
        intro σ41 s2
        refine W.ret1 Nx.f1 s2 ?_
        first
          | (have hmv := mid_val hm (by first | exact .inl q1 | exact .inr (.inl q3) | exact .inr (.inr ⟨q4, qh, by simpa using qn⟩)); exact ⟨by rw [opT1, hmv]; exact fin_str (by simp [sb_app, sb_mk, sb_bs, valT]), (cu0_0.trans0 (cdh1.trans0 cu1_0)).trans0 cD⟩)
          | (have hmv := mid_nil (x := (k, key, val, li, has, nl)) qn2; exact ⟨by rw [opT1, hmv]; exact fin_str (by simp [sb_app, sb_mk, sb_bs]), cu0_0.trans0 (cdh1.trans0 cu1_0)⟩)
          | (have hmv := mid_list hm q2 qh2; have hje : j = li.length := by omega
             rw [hje, List.take_length] at hS; exact ⟨by rw [opT1, hmv]; exact fin_str (by simp [sb_app, sb_mk, sb_bs, hS]), (cu0_0.trans0 (cdh1.trans0 cu1_0)).trans0 hcl⟩)
          | exact ⟨by rw [opT1, mid_non2 hm q1 q3 (by intro h9; simp_all) (by intro h9; simp_all)]; exact fin_str (by simp [sb_app, sb_mk, sb_bs]), cu0_0.trans0 (cdh1.trans0 cu1_0)⟩
          | skip
    ·
     refine WL.no rfl rfl (lh) (qh) rfl ?_
     refine WL.no rfl rfl (lt rfl (lh)) (qh) rfl ?_
     refine WL.no rfl rfl (jt2 rfl (lh)) (qh) rfl ?_
     refine WL.yes rfl rfl (jt8 rfl (jt2 rfl (lt rfl (lh)))) (decide_eq_false q3) ?_
     refine WL.x (X.pickF (jt2 rfl (lt rfl (lh))) (qh) lc) rfl ?_
     refine WL.x (X.pickF (jt8 rfl (jt4 rfl (lh))) (decide_eq_false q3) (lh)) rfl ?_
     refine WL.x (X.asg (lh)) rfl ?_
     refine WL.e3 Nx.thn 1 3 15 (jt8 rfl (jt8 rfl (jt4 rfl (jt2 rfl (lt rfl (s1)))))) (jt8 rfl (jt8 rfl (jt4 rfl (jt2 rfl (lt rfl (s3)))))) (lh) ?_
     intro σ42 s1 s3 s15
     refine W.cndF s15 ?_
     refine W.seq ?_
     refine W.region ?_
     refine WL.x (X.fieldAddr fd48_0 (s1)) rfl ?_
     refine WL.x (X.load pl3 (lh) (by first | assumption | exact hS.at (by assumption) (by intro hne; first | exact hne | ((try dsimp only at hne); omega)) | exact hS.at (cu0_0.at0 (by assumption)) (by intro hne; first | exact hne | ((try dsimp only at hne); omega))) (by first | rfl | assumption)) rfl ?_
     refine WL.x (X.eql (lh) lc) rfl ?_
     refine WL.x (X.mv (lh)) rfl ?_
     refine WL.splitp (lh) (fun q4b => ?_) (fun q4b => ?_)
     ·
      refine WL.yes rfl rfl (lh) (decide_eq_true q4b) ?_
      refine WL.x (X.fieldAddr fd48_5 (jt4 rfl (s1))) rfl ?_
      refine WL.yes rfl rfl (lt rfl (lh)) (decide_eq_true q4b) ?_
      refine WL.x (X.load pl4 (lh) (by first | assumption | exact hS.at (by assumption) (by intro hne; first | exact hne | ((try dsimp only at hne); omega)) | exact hS.at (cu0_0.at0 (by assumption)) (by intro hne; first | exact hne | ((try dsimp only at hne); omega))) (by first | rfl | assumption)) rfl ?_
      refine WL.x (X.pickT (jt2 rfl (lh)) (decide_eq_true q4b) (lh)) rfl ?_
      refine WL.x (X.asg (lh)) rfl ?_
      refine WL.e3 Nx.thn 1 3 44 (jt8 rfl (s1)) (jt8 rfl (s3)) (lh) ?_
      intro σ43 s1 s3 s44
      refine W.cnd s44 (fun qn2 => ?_) (fun qn2 => ?_)
      ·
       refine W.region ?_
       refine WL.x (X.mv (s3)) rfl ?_
       refine WL.x (X.addS (lh) lc (by simp only [ByteArray.size_append, szl, size_bs, List.size_toArray, List.length_cons, List.length_nil, List.length_append]; omega)) rfl ?_
       refine WL.x (X.asg (lh)) rfl ?_
       refine WL.e1 (Nx.blk Nx.thn) 3 (lh) ?_
       intro σ44 s3
       refine W.seq ?_
       refine W.region ?_
       refine WL.x (X.mv (s3)) rfl ?_
       refine WL.x (X.addS (lh) lc (by simp only [ByteArray.size_append, szl, size_bs, List.size_toArray, List.length_cons, List.length_nil, List.length_append]; omega)) rfl ?_
       refine WL.x (X.asg (lh)) rfl ?_
       refine WL.e1 Nx.thn 2 (lh) ?_
       intro σ45 s2
       refine W.ret1 Nx.f1 s2 ?_
       first
         | (have hmv := mid_val hm (by first | exact .inl q1 | exact .inr (.inl q3) | exact .inr (.inr ⟨q4, qh, by simpa using qn⟩)); exact ⟨by rw [opT1, hmv]; exact fin_str (by simp [sb_app, sb_mk, sb_bs, valT]), (cu0_0.trans0 (cdh1.trans0 cu1_0)).trans0 cD⟩)
         | (have hmv := mid_nil (x := (k, key, val, li, has, nl)) qn2; exact ⟨by rw [opT1, hmv]; exact fin_str (by simp [sb_app, sb_mk, sb_bs]), cu0_0.trans0 (cdh1.trans0 cu1_0)⟩)
         | (have hmv := mid_list hm q2 qh2; have hje : j = li.length := by omega
            rw [hje, List.take_length] at hS; exact ⟨by rw [opT1, hmv]; exact fin_str (by simp [sb_app, sb_mk, sb_bs, hS]), (cu0_0.trans0 (cdh1.trans0 cu1_0)).trans0 hcl⟩)
         | exact ⟨by rw [opT1, mid_non2 hm q1 q3 (by intro h9; simp_all) (by intro h9; simp_all)]; exact fin_str (by simp [sb_app, sb_mk, sb_bs]), cu0_0.trans0 (cdh1.trans0 cu1_0)⟩
         | skip
      ·
       refine W.seq ?_
       refine W.region ?_
       refine WL.x (X.fieldAddr fd48_0 (s1)) rfl ?_
       refine WL.x (X.load pl3 (lh) (by first | assumption | exact hS.at (by assumption) (by intro hne; first | exact hne | ((try dsimp only at hne); omega)) | exact hS.at (cu0_0.at0 (by assumption)) (by intro hne; first | exact hne | ((try dsimp only at hne); omega))) (by first | rfl | assumption)) rfl ?_
       refine WL.x (X.eql (lh) lc) rfl ?_
       refine WL.x (X.mv (lh)) rfl ?_
       refine WL.splitp (lh) (fun q2 => ?_) (fun q2 => ?_)
       ·
        refine WL.yes rfl rfl (lh) (decide_eq_true q2) ?_
        refine WL.x (X.fieldAddr fd48_4 (jt4 rfl (s1))) rfl ?_
        refine WL.yes rfl rfl (lt rfl (lh)) (decide_eq_true q2) ?_
        refine WL.x (X.load pl4 (lh) (by first | assumption | exact hS.at (by assumption) (by intro hne; first | exact hne | ((try dsimp only at hne); omega)) | exact hS.at (cu0_0.at0 (by assumption)) (by intro hne; first | exact hne | ((try dsimp only at hne); omega))) (by first | rfl | assumption)) rfl ?_
        refine WL.x (X.pickT (jt2 rfl (lh)) (decide_eq_true q2) (lh)) rfl ?_
        refine WL.x (X.asg (lh)) rfl ?_
        refine WL.e3 Nx.thn 1 3 54 (jt8 rfl (s1)) (jt8 rfl (s3)) (lh) ?_
        intro σ46 s1 s3 s54
        refine W.cnd s54 (fun qh2 => ?_) (fun qh2 => ?_)
        ·
         refine W.seq ?_
         refine W.region ?_
         refine WL.x (X.mv (s3)) rfl ?_
         refine WL.x (X.addS (lh) lc (by simp only [ByteArray.size_append, szl, size_bs, List.size_toArray, List.length_cons, List.length_nil, List.length_append]; omega)) rfl ?_
         refine WL.x (X.asg (lh)) rfl ?_
         refine WL.e2 Nx.thn 1 3 (jt2 rfl (lt rfl (s1))) (lh) ?_
         intro σ47 s1 s3
         refine W.seq ?_
         refine W.seq ?_
         refine W.region ?_
         refine WL.x (X.fieldAddr fd48_3 (s1)) rfl ?_
         refine WL.x (v := .slice va li.length vc) (X.load pl46 (lh) (by first | assumption | exact hS.at (by assumption) (by intro hne; first | exact hne | ((try dsimp only at hne); omega)) | exact hS.at (cu0_0.at0 (by assumption)) (by intro hne; first | exact hne | ((try dsimp only at hne); omega))) rfl) rfl ?_
         refine WL.x (X.lenSl Tryd.underlying46 (lh)) rfl ?_
         refine WL.x (X.mv lc) rfl ?_
         refine WL.e4 Nx.thn 3 65 66 67 (jt4 rfl (s3)) (jt2 rfl (lh)) (lt rfl (lh)) (lh) ?_
         intro σ48 s3 s65 s66 s67
         refine W.block ?_
         have qo7 := s65
         have qo8 := s66
         -- loop 0: kept [65, 66], varied [3, 67]
         refine W.loop (G := Nat) (fun j σ' w' => (σ' 65 = σ48 65 ∧ σ' 66 = σ48 66 ∧ True) ∧ (∃ S, σ' 3 = .string S ∧ σ' 67 = .int .i64 (j : Int) ∧ sb S = ([91, 32] ++ (wordO k ++ [32]) ++ sb key ++ [32, 40]) ++ (li.take j).flatMap valT ∧ j ≤ li.length ∧ Ch0 w3 w')) (fun j => li.length - j) (0) ⟨⟨rfl, rfl, trivial⟩, _, s3, s67, (by simp [sb_app, sb_mk, sb_bs]), by omega, Ch.refl _ _⟩ ?_
         rintro j σ49 w11 ⟨⟨f65, f66, _⟩, S, s3, s67, hS, hj, hcl⟩
         have s65 := f65.trans qo7
         have s66 := f66.trans qo8
         refine W.seq ?_
         refine W.region ?_
         refine WL.x (X.lss (s67) (s66)) rfl ?_
         refine WL.e5 Nx.thn 3 65 66 67 68 (lt rfl (s3)) (lt rfl (s65)) (lt rfl (s66)) (lt rfl (s67)) (lh) ?_
         intro σ50 s3 s65 s66 s67 s68
         refine W.seq ?_
         refine W.cndp s68 (fun hlt => ?_) (fun hlt => ?_)
         ·
          obtain ⟨gb, og, csg, Tg, frg, rfl, hg1, hg2⟩ := hs.1.at (k := j) (by rw [List.length_map]; omega)
          have hSz := sb_len S
          rw [hS] at hSz
          simp only [List.length_append, List.length_cons, List.length_nil, sb_len] at hSz
          have hvl := vals_len hok j
          dsimp only at hvl
          have hjl : j < li.length := by omega
          have hzj := hok.2.2.2 li[j] (List.getElem_mem hjl)
          have hij := Lib.itoa_length_le li[j] hzj.1 hzj.2
          refine W.skip Nx.thn ?_
          refine W.seq ?_
          refine W.block ?_
          refine W.seq ?_
          refine W.region ?_
          refine WL.x (X.indexAddr Tryd.underlying46 el3 (s65) (s67) (by omega) (by omega)) rfl ?_
          refine WL.x (X.load pl3 (lh) ((cu0_0.trans0 (cdh1.trans0 cu1_0)).trans0 hcl |>.at0 hg1) (v := .int .i64 li[j]) (by rw [show og + (j : Int).toNat * 1 = og + j by omega, hg2 j (by rw [List.length_map]; omega), List.getElem?_map, List.getElem?_eq_getElem (by omega)]; rfl)) rfl ?_
          refine WL.x (X.asg (lh)) rfl ?_
          refine WL.e5 Nx.thn 3 5 65 66 67 (jt2 rfl (lt rfl (s3))) (lh) (jt2 rfl (lt rfl (s65))) (jt2 rfl (lt rfl (s66))) (jt2 rfl (lt rfl (s67))) ?_
          intro σ51 s3 s5 s65 s66 s67
          refine W.region ?_
          refine WL.x (X.mv (s3)) rfl ?_
          refine WL.x (X.mv (lt rfl (s5))) rfl ?_
          refine WL.call1 ce31 (lh) (decimal_ok li[j] w11 hzj.1 hzj.2) rfl ?_
          rintro _ w12 ⟨rfl, cD⟩
          refine WL.x (X.addS lc (lh) (by simp only [ByteArray.size_append, szl, size_bs, List.size_toArray, List.length_cons, List.length_nil, List.length_append]; omega)) rfl ?_
          refine WL.x (X.addS (jt2 rfl (lt rfl (lh))) (lh) (by simp only [ByteArray.size_append, szl, size_bs, List.size_toArray, List.length_cons, List.length_nil, List.length_append]; omega)) rfl ?_
          refine WL.x (X.asg (lh)) rfl ?_
          refine WL.e4 (Nx.blk Nx.thn) 3 65 66 67 (lh) (jt4 rfl (jt2 rfl (s65))) (jt4 rfl (jt2 rfl (s66))) (jt4 rfl (jt2 rfl (s67))) ?_
          intro σ52 s3 s65 s66 s67
          refine W.region ?_
          first | refine WL.x (X.add (s67) lc (by omega) (by omega)) rfl ?_ | refine WL.x (X.addw (s67) lc) rfl ?_
          refine WL.x (X.mv (lh)) rfl ?_
          refine WL.e4 Nx.thn 3 65 66 67 (jt2 rfl (s3)) (jt2 rfl (s65)) (jt2 rfl (s66)) (lh) ?_
          intro σ53 s3 s65 s66 s67
          refine ⟨j + 1, by omega, ⟨s65.trans qo7.symm, s66.trans qo8.symm, trivial⟩, _, s3, s67, (by rw [fm_take hjl]; simp [sb_app, sb_mk, sb_bs, hS, valT]), by omega, hcl.trans0 cD⟩
         ·
          have hSz := sb_len S
          rw [hS] at hSz
          simp only [List.length_append, List.length_cons, List.length_nil, sb_len] at hSz
          have hvl := vals_len hok j
          dsimp only at hvl
          refine W.exit (Nx.xthn (Nx.xthn (Nx.xblk Nx.thn))) ?_
          refine W.region ?_
          refine WL.x (X.mv (s3)) rfl ?_
          refine WL.x (X.addS (lh) lc (by simp only [ByteArray.size_append, szl, size_bs, List.size_toArray, List.length_cons, List.length_nil, List.length_append]; omega)) rfl ?_
          refine WL.x (X.asg (lh)) rfl ?_
          refine WL.e1 (Nx.blk Nx.thn) 3 (lh) ?_
          intro σ54 s3
          refine W.seq ?_
          refine W.region ?_
          refine WL.x (X.mv (s3)) rfl ?_
          refine WL.x (X.addS (lh) lc (by simp only [ByteArray.size_append, szl, size_bs, List.size_toArray, List.length_cons, List.length_nil, List.length_append]; omega)) rfl ?_
          refine WL.x (X.asg (lh)) rfl ?_
          refine WL.e1 Nx.thn 2 (lh) ?_
          intro σ55 s2
          refine W.ret1 Nx.f1 s2 ?_
          first
            | (have hmv := mid_val hm (by first | exact .inl q1 | exact .inr (.inl q3) | exact .inr (.inr ⟨q4, qh, by simpa using qn⟩)); exact ⟨by rw [opT1, hmv]; exact fin_str (by simp [sb_app, sb_mk, sb_bs, valT]), (cu0_0.trans0 (cdh1.trans0 cu1_0)).trans0 cD⟩)
            | (have hmv := mid_nil (x := (k, key, val, li, has, nl)) qn2; exact ⟨by rw [opT1, hmv]; exact fin_str (by simp [sb_app, sb_mk, sb_bs]), cu0_0.trans0 (cdh1.trans0 cu1_0)⟩)
            | (have hmv := mid_list hm q2 qh2; have hje : j = li.length := by omega
               rw [hje, List.take_length] at hS; exact ⟨by rw [opT1, hmv]; exact fin_str (by simp [sb_app, sb_mk, sb_bs, hS]), (cu0_0.trans0 (cdh1.trans0 cu1_0)).trans0 hcl⟩)
            | exact ⟨by rw [opT1, mid_non2 hm q1 q3 (by intro h9; simp_all) (by intro h9; simp_all)]; exact fin_str (by simp [sb_app, sb_mk, sb_bs]), cu0_0.trans0 (cdh1.trans0 cu1_0)⟩
            | skip
        ·
         refine W.skip (Nx.blk Nx.thn) ?_
         refine W.seq ?_
         refine W.region ?_
         refine WL.x (X.mv (s3)) rfl ?_
         refine WL.x (X.addS (lh) lc (by simp only [ByteArray.size_append, szl, size_bs, List.size_toArray, List.length_cons, List.length_nil, List.length_append]; omega)) rfl ?_
         refine WL.x (X.asg (lh)) rfl ?_
         refine WL.e1 Nx.thn 2 (lh) ?_
         intro σ56 s2
         refine W.ret1 Nx.f1 s2 ?_
         first
           | (have hmv := mid_val hm (by first | exact .inl q1 | exact .inr (.inl q3) | exact .inr (.inr ⟨q4, qh, by simpa using qn⟩)); exact ⟨by rw [opT1, hmv]; exact fin_str (by simp [sb_app, sb_mk, sb_bs, valT]), (cu0_0.trans0 (cdh1.trans0 cu1_0)).trans0 cD⟩)
           | (have hmv := mid_nil (x := (k, key, val, li, has, nl)) qn2; exact ⟨by rw [opT1, hmv]; exact fin_str (by simp [sb_app, sb_mk, sb_bs]), cu0_0.trans0 (cdh1.trans0 cu1_0)⟩)
           | (have hmv := mid_list hm q2 qh2; have hje : j = li.length := by omega
              rw [hje, List.take_length] at hS; exact ⟨by rw [opT1, hmv]; exact fin_str (by simp [sb_app, sb_mk, sb_bs, hS]), (cu0_0.trans0 (cdh1.trans0 cu1_0)).trans0 hcl⟩)
           | exact ⟨by rw [opT1, mid_non2 hm q1 q3 (by intro h9; simp_all) (by intro h9; simp_all)]; exact fin_str (by simp [sb_app, sb_mk, sb_bs]), cu0_0.trans0 (cdh1.trans0 cu1_0)⟩
           | skip
       ·
        refine WL.no rfl rfl (lh) (decide_eq_false q2) rfl ?_
        refine WL.no rfl rfl (lt rfl (lh)) (decide_eq_false q2) rfl ?_
        refine WL.x (X.pickF (jt2 rfl (lh)) (decide_eq_false q2) lc) rfl ?_
        refine WL.x (X.asg (lh)) rfl ?_
        refine WL.e3 Nx.thn 1 3 54 (jt8 rfl (s1)) (jt8 rfl (s3)) (lh) ?_
        intro σ57 s1 s3 s54
        refine W.cndF s54 ?_
        refine W.skip (Nx.blk Nx.thn) ?_
        refine W.seq ?_
        refine W.region ?_
        refine WL.x (X.mv (s3)) rfl ?_
        refine WL.x (X.addS (lh) lc (by simp only [ByteArray.size_append, szl, size_bs, List.size_toArray, List.length_cons, List.length_nil, List.length_append]; omega)) rfl ?_
        refine WL.x (X.asg (lh)) rfl ?_
        refine WL.e1 Nx.thn 2 (lh) ?_
        intro σ58 s2
        refine W.ret1 Nx.f1 s2 ?_
        first
          | (have hmv := mid_val hm (by first | exact .inl q1 | exact .inr (.inl q3) | exact .inr (.inr ⟨q4, qh, by simpa using qn⟩)); exact ⟨by rw [opT1, hmv]; exact fin_str (by simp [sb_app, sb_mk, sb_bs, valT]), (cu0_0.trans0 (cdh1.trans0 cu1_0)).trans0 cD⟩)
          | (have hmv := mid_nil (x := (k, key, val, li, has, nl)) qn2; exact ⟨by rw [opT1, hmv]; exact fin_str (by simp [sb_app, sb_mk, sb_bs]), cu0_0.trans0 (cdh1.trans0 cu1_0)⟩)
          | (have hmv := mid_list hm q2 qh2; have hje : j = li.length := by omega
             rw [hje, List.take_length] at hS; exact ⟨by rw [opT1, hmv]; exact fin_str (by simp [sb_app, sb_mk, sb_bs, hS]), (cu0_0.trans0 (cdh1.trans0 cu1_0)).trans0 hcl⟩)
          | exact ⟨by rw [opT1, mid_non2 hm q1 q3 (by intro h9; simp_all) (by intro h9; simp_all)]; exact fin_str (by simp [sb_app, sb_mk, sb_bs]), cu0_0.trans0 (cdh1.trans0 cu1_0)⟩
          | skip
     ·
      refine WL.no rfl rfl (lh) (decide_eq_false q4b) rfl ?_
      refine WL.no rfl rfl (lt rfl (lh)) (decide_eq_false q4b) rfl ?_
      refine WL.x (X.pickF (jt2 rfl (lh)) (decide_eq_false q4b) lc) rfl ?_
      refine WL.x (X.asg (lh)) rfl ?_
      refine WL.e3 Nx.thn 1 3 44 (jt8 rfl (s1)) (jt8 rfl (s3)) (lh) ?_
      intro σ59 s1 s3 s44
      refine W.cndF s44 ?_
      refine W.seq ?_
      refine W.region ?_
      refine WL.x (X.fieldAddr fd48_0 (s1)) rfl ?_
      refine WL.x (X.load pl3 (lh) (by first | assumption | exact hS.at (by assumption) (by intro hne; first | exact hne | ((try dsimp only at hne); omega)) | exact hS.at (cu0_0.at0 (by assumption)) (by intro hne; first | exact hne | ((try dsimp only at hne); omega))) (by first | rfl | assumption)) rfl ?_
      refine WL.x (X.eql (lh) lc) rfl ?_
      refine WL.x (X.mv (lh)) rfl ?_
      refine WL.splitp (lh) (fun q2 => ?_) (fun q2 => ?_)
      ·
       refine WL.yes rfl rfl (lh) (decide_eq_true q2) ?_
       refine WL.x (X.fieldAddr fd48_4 (jt4 rfl (s1))) rfl ?_
       refine WL.yes rfl rfl (lt rfl (lh)) (decide_eq_true q2) ?_
       refine WL.x (X.load pl4 (lh) (by first | assumption | exact hS.at (by assumption) (by intro hne; first | exact hne | ((try dsimp only at hne); omega)) | exact hS.at (cu0_0.at0 (by assumption)) (by intro hne; first | exact hne | ((try dsimp only at hne); omega))) (by first | rfl | assumption)) rfl ?_
       refine WL.x (X.pickT (jt2 rfl (lh)) (decide_eq_true q2) (lh)) rfl ?_
       refine WL.x (X.asg (lh)) rfl ?_
       refine WL.e3 Nx.thn 1 3 54 (jt8 rfl (s1)) (jt8 rfl (s3)) (lh) ?_
       intro σ60 s1 s3 s54
       refine W.cnd s54 (fun qh2 => ?_) (fun qh2 => ?_)
       ·
        refine W.seq ?_
        refine W.region ?_
        refine WL.x (X.mv (s3)) rfl ?_
        refine WL.x (X.addS (lh) lc (by simp only [ByteArray.size_append, szl, size_bs, List.size_toArray, List.length_cons, List.length_nil, List.length_append]; omega)) rfl ?_
        refine WL.x (X.asg (lh)) rfl ?_
        refine WL.e2 Nx.thn 1 3 (jt2 rfl (lt rfl (s1))) (lh) ?_
        intro σ61 s1 s3
        refine W.seq ?_
        refine W.seq ?_
        refine W.region ?_
        refine WL.x (X.fieldAddr fd48_3 (s1)) rfl ?_
        refine WL.x (v := .slice va li.length vc) (X.load pl46 (lh) (by first | assumption | exact hS.at (by assumption) (by intro hne; first | exact hne | ((try dsimp only at hne); omega)) | exact hS.at (cu0_0.at0 (by assumption)) (by intro hne; first | exact hne | ((try dsimp only at hne); omega))) rfl) rfl ?_
        refine WL.x (X.lenSl Tryd.underlying46 (lh)) rfl ?_
        refine WL.x (X.mv lc) rfl ?_
        refine WL.e4 Nx.thn 3 65 66 67 (jt4 rfl (s3)) (jt2 rfl (lh)) (lt rfl (lh)) (lh) ?_
        intro σ62 s3 s65 s66 s67
        refine W.block ?_
        have qo9 := s65
        have qo10 := s66
        -- loop 0: kept [65, 66], varied [3, 67]
        refine W.loop (G := Nat) (fun j σ' w' => (σ' 65 = σ62 65 ∧ σ' 66 = σ62 66 ∧ True) ∧ (∃ S, σ' 3 = .string S ∧ σ' 67 = .int .i64 (j : Int) ∧ sb S = ([91, 32] ++ (wordO k ++ [32]) ++ sb key ++ [32, 40]) ++ (li.take j).flatMap valT ∧ j ≤ li.length ∧ Ch0 w3 w')) (fun j => li.length - j) (0) ⟨⟨rfl, rfl, trivial⟩, _, s3, s67, (by simp [sb_app, sb_mk, sb_bs]), by omega, Ch.refl _ _⟩ ?_
        rintro j σ63 w13 ⟨⟨f65, f66, _⟩, S, s3, s67, hS, hj, hcl⟩
        have s65 := f65.trans qo9
        have s66 := f66.trans qo10
        refine W.seq ?_
        refine W.region ?_
        refine WL.x (X.lss (s67) (s66)) rfl ?_
        refine WL.e5 Nx.thn 3 65 66 67 68 (lt rfl (s3)) (lt rfl (s65)) (lt rfl (s66)) (lt rfl (s67)) (lh) ?_
        intro σ64 s3 s65 s66 s67 s68
        refine W.seq ?_
        refine W.cndp s68 (fun hlt => ?_) (fun hlt => ?_)
        ·
         obtain ⟨gb, og, csg, Tg, frg, rfl, hg1, hg2⟩ := hs.1.at (k := j) (by rw [List.length_map]; omega)
         have hSz := sb_len S
         rw [hS] at hSz
         simp only [List.length_append, List.length_cons, List.length_nil, sb_len] at hSz
         have hvl := vals_len hok j
         dsimp only at hvl
         have hjl : j < li.length := by omega
         have hzj := hok.2.2.2 li[j] (List.getElem_mem hjl)
         have hij := Lib.itoa_length_le li[j] hzj.1 hzj.2
         refine W.skip Nx.thn ?_
         refine W.seq ?_
         refine W.block ?_
         refine W.seq ?_
         refine W.region ?_
         refine WL.x (X.indexAddr Tryd.underlying46 el3 (s65) (s67) (by omega) (by omega)) rfl ?_
         refine WL.x (X.load pl3 (lh) ((cu0_0.trans0 (cdh1.trans0 cu1_0)).trans0 hcl |>.at0 hg1) (v := .int .i64 li[j]) (by rw [show og + (j : Int).toNat * 1 = og + j by omega, hg2 j (by rw [List.length_map]; omega), List.getElem?_map, List.getElem?_eq_getElem (by omega)]; rfl)) rfl ?_
         refine WL.x (X.asg (lh)) rfl ?_
         refine WL.e5 Nx.thn 3 5 65 66 67 (jt2 rfl (lt rfl (s3))) (lh) (jt2 rfl (lt rfl (s65))) (jt2 rfl (lt rfl (s66))) (jt2 rfl (lt rfl (s67))) ?_
         intro σ65 s3 s5 s65 s66 s67
         refine W.region ?_
         refine WL.x (X.mv (s3)) rfl ?_
         refine WL.x (X.mv (lt rfl (s5))) rfl ?_
         refine WL.call1 ce31 (lh) (decimal_ok li[j] w13 hzj.1 hzj.2) rfl ?_
         rintro _ w14 ⟨rfl, cD⟩
         refine WL.x (X.addS lc (lh) (by simp only [ByteArray.size_append, szl, size_bs, List.size_toArray, List.length_cons, List.length_nil, List.length_append]; omega)) rfl ?_
         refine WL.x (X.addS (jt2 rfl (lt rfl (lh))) (lh) (by simp only [ByteArray.size_append, szl, size_bs, List.size_toArray, List.length_cons, List.length_nil, List.length_append]; omega)) rfl ?_
         refine WL.x (X.asg (lh)) rfl ?_
         refine WL.e4 (Nx.blk Nx.thn) 3 65 66 67 (lh) (jt4 rfl (jt2 rfl (s65))) (jt4 rfl (jt2 rfl (s66))) (jt4 rfl (jt2 rfl (s67))) ?_
         intro σ66 s3 s65 s66 s67
         refine W.region ?_
         first | refine WL.x (X.add (s67) lc (by omega) (by omega)) rfl ?_ | refine WL.x (X.addw (s67) lc) rfl ?_
         refine WL.x (X.mv (lh)) rfl ?_
         refine WL.e4 Nx.thn 3 65 66 67 (jt2 rfl (s3)) (jt2 rfl (s65)) (jt2 rfl (s66)) (lh) ?_
         intro σ67 s3 s65 s66 s67
         refine ⟨j + 1, by omega, ⟨s65.trans qo9.symm, s66.trans qo10.symm, trivial⟩, _, s3, s67, (by rw [fm_take hjl]; simp [sb_app, sb_mk, sb_bs, hS, valT]), by omega, hcl.trans0 cD⟩
        ·
         have hSz := sb_len S
         rw [hS] at hSz
         simp only [List.length_append, List.length_cons, List.length_nil, sb_len] at hSz
         have hvl := vals_len hok j
         dsimp only at hvl
         refine W.exit (Nx.xthn (Nx.xthn (Nx.xblk Nx.thn))) ?_
         refine W.region ?_
         refine WL.x (X.mv (s3)) rfl ?_
         refine WL.x (X.addS (lh) lc (by simp only [ByteArray.size_append, szl, size_bs, List.size_toArray, List.length_cons, List.length_nil, List.length_append]; omega)) rfl ?_
         refine WL.x (X.asg (lh)) rfl ?_
         refine WL.e1 (Nx.blk Nx.thn) 3 (lh) ?_
         intro σ68 s3
         refine W.seq ?_
         refine W.region ?_
         refine WL.x (X.mv (s3)) rfl ?_
         refine WL.x (X.addS (lh) lc (by simp only [ByteArray.size_append, szl, size_bs, List.size_toArray, List.length_cons, List.length_nil, List.length_append]; omega)) rfl ?_
         refine WL.x (X.asg (lh)) rfl ?_
         refine WL.e1 Nx.thn 2 (lh) ?_
         intro σ69 s2
         refine W.ret1 Nx.f1 s2 ?_
         first
           | (have hmv := mid_val hm (by first | exact .inl q1 | exact .inr (.inl q3) | exact .inr (.inr ⟨q4, qh, by simpa using qn⟩)); exact ⟨by rw [opT1, hmv]; exact fin_str (by simp [sb_app, sb_mk, sb_bs, valT]), (cu0_0.trans0 (cdh1.trans0 cu1_0)).trans0 cD⟩)
           | (have hmv := mid_nil (x := (k, key, val, li, has, nl)) qn2; exact ⟨by rw [opT1, hmv]; exact fin_str (by simp [sb_app, sb_mk, sb_bs]), cu0_0.trans0 (cdh1.trans0 cu1_0)⟩)
           | (have hmv := mid_list hm q2 qh2; have hje : j = li.length := by omega
              rw [hje, List.take_length] at hS; exact ⟨by rw [opT1, hmv]; exact fin_str (by simp [sb_app, sb_mk, sb_bs, hS]), (cu0_0.trans0 (cdh1.trans0 cu1_0)).trans0 hcl⟩)
           | exact ⟨by rw [opT1, mid_non2 hm q1 q3 (by intro h9; simp_all) (by intro h9; simp_all)]; exact fin_str (by simp [sb_app, sb_mk, sb_bs]), cu0_0.trans0 (cdh1.trans0 cu1_0)⟩
           | skip
       ·
        refine W.skip (Nx.blk Nx.thn) ?_
        refine W.seq ?_
        refine W.region ?_
        refine WL.x (X.mv (s3)) rfl ?_
        refine WL.x (X.addS (lh) lc (by simp only [ByteArray.size_append, szl, size_bs, List.size_toArray, List.length_cons, List.length_nil, List.length_append]; omega)) rfl ?_
        refine WL.x (X.asg (lh)) rfl ?_
        refine WL.e1 Nx.thn 2 (lh) ?_
        intro σ70 s2
        refine W.ret1 Nx.f1 s2 ?_
        first
          | (have hmv := mid_val hm (by first | exact .inl q1 | exact .inr (.inl q3) | exact .inr (.inr ⟨q4, qh, by simpa using qn⟩)); exact ⟨by rw [opT1, hmv]; exact fin_str (by simp [sb_app, sb_mk, sb_bs, valT]), (cu0_0.trans0 (cdh1.trans0 cu1_0)).trans0 cD⟩)
          | (have hmv := mid_nil (x := (k, key, val, li, has, nl)) qn2; exact ⟨by rw [opT1, hmv]; exact fin_str (by simp [sb_app, sb_mk, sb_bs]), cu0_0.trans0 (cdh1.trans0 cu1_0)⟩)
          | (have hmv := mid_list hm q2 qh2; have hje : j = li.length := by omega
             rw [hje, List.take_length] at hS; exact ⟨by rw [opT1, hmv]; exact fin_str (by simp [sb_app, sb_mk, sb_bs, hS]), (cu0_0.trans0 (cdh1.trans0 cu1_0)).trans0 hcl⟩)
          | exact ⟨by rw [opT1, mid_non2 hm q1 q3 (by intro h9; simp_all) (by intro h9; simp_all)]; exact fin_str (by simp [sb_app, sb_mk, sb_bs]), cu0_0.trans0 (cdh1.trans0 cu1_0)⟩
          | skip
      ·
       refine WL.no rfl rfl (lh) (decide_eq_false q2) rfl ?_
       refine WL.no rfl rfl (lt rfl (lh)) (decide_eq_false q2) rfl ?_
       refine WL.x (X.pickF (jt2 rfl (lh)) (decide_eq_false q2) lc) rfl ?_
       refine WL.x (X.asg (lh)) rfl ?_
       refine WL.e3 Nx.thn 1 3 54 (jt8 rfl (s1)) (jt8 rfl (s3)) (lh) ?_
       intro σ71 s1 s3 s54
       refine W.cndF s54 ?_
       refine W.skip (Nx.blk Nx.thn) ?_
       refine W.seq ?_
       refine W.region ?_
       refine WL.x (X.mv (s3)) rfl ?_
       refine WL.x (X.addS (lh) lc (by simp only [ByteArray.size_append, szl, size_bs, List.size_toArray, List.length_cons, List.length_nil, List.length_append]; omega)) rfl ?_
       refine WL.x (X.asg (lh)) rfl ?_
       refine WL.e1 Nx.thn 2 (lh) ?_
       intro σ72 s2
       refine W.ret1 Nx.f1 s2 ?_
       first
         | (have hmv := mid_val hm (by first | exact .inl q1 | exact .inr (.inl q3) | exact .inr (.inr ⟨q4, qh, by simpa using qn⟩)); exact ⟨by rw [opT1, hmv]; exact fin_str (by simp [sb_app, sb_mk, sb_bs, valT]), (cu0_0.trans0 (cdh1.trans0 cu1_0)).trans0 cD⟩)
         | (have hmv := mid_nil (x := (k, key, val, li, has, nl)) qn2; exact ⟨by rw [opT1, hmv]; exact fin_str (by simp [sb_app, sb_mk, sb_bs]), cu0_0.trans0 (cdh1.trans0 cu1_0)⟩)
         | (have hmv := mid_list hm q2 qh2; have hje : j = li.length := by omega
            rw [hje, List.take_length] at hS; exact ⟨by rw [opT1, hmv]; exact fin_str (by simp [sb_app, sb_mk, sb_bs, hS]), (cu0_0.trans0 (cdh1.trans0 cu1_0)).trans0 hcl⟩)
         | exact ⟨by rw [opT1, mid_non2 hm q1 q3 (by intro h9; simp_all) (by intro h9; simp_all)]; exact fin_str (by simp [sb_app, sb_mk, sb_bs]), cu0_0.trans0 (cdh1.trans0 cu1_0)⟩
         | skip
   ·
    refine WL.no rfl rfl (lh) (decide_eq_false q4) rfl ?_
    refine WL.no rfl rfl (lt rfl (lh)) (decide_eq_false q4) rfl ?_
    refine WL.yes rfl rfl (jt4 rfl (jt2 rfl (lh))) (decide_eq_false q3) ?_
    refine WL.x (X.pickF (jt2 rfl (lh)) (decide_eq_false q4) lc) rfl ?_
    refine WL.yes rfl rfl (jt4 rfl (jt2 rfl (lt rfl (lh)))) (decide_eq_false q3) ?_
    refine WL.x (X.mv (lh)) rfl ?_
    refine WL.no rfl rfl (lh) rfl rfl ?_
    refine WL.no rfl rfl (lt rfl (lh)) rfl rfl ?_
    refine WL.no rfl rfl (jt2 rfl (lh)) rfl rfl ?_
    refine WL.yes rfl rfl (jt8 rfl (jt2 rfl (lt rfl (lh)))) (decide_eq_false q3) ?_
    refine WL.x (X.pickF (jt2 rfl (lt rfl (lh))) rfl lc) rfl ?_
    refine WL.x (X.pickF (jt8 rfl (jt4 rfl (lh))) (decide_eq_false q3) (lh)) rfl ?_
    refine WL.x (X.asg (lh)) rfl ?_
    refine WL.e3 Nx.thn 1 3 15 (jt8 rfl (jt8 rfl (jt4 rfl (jt2 rfl (lt rfl (s1)))))) (jt8 rfl (jt8 rfl (jt4 rfl (jt2 rfl (lt rfl (s3)))))) (lh) ?_
    intro σ73 s1 s3 s15
    refine W.cndF s15 ?_
    refine W.seq ?_
    refine W.region ?_
    refine WL.x (X.fieldAddr fd48_0 (s1)) rfl ?_
    refine WL.x (X.load pl3 (lh) (by first | assumption | exact hS.at (by assumption) (by intro hne; first | exact hne | ((try dsimp only at hne); omega)) | exact hS.at (cu0_0.at0 (by assumption)) (by intro hne; first | exact hne | ((try dsimp only at hne); omega))) (by first | rfl | assumption)) rfl ?_
    refine WL.x (X.eql (lh) lc) rfl ?_
    refine WL.x (X.mv (lh)) rfl ?_
    refine WL.splitp (lh) (fun q4b => ?_) (fun q4b => ?_)
    ·
     refine WL.yes rfl rfl (lh) (decide_eq_true q4b) ?_
     refine WL.x (X.fieldAddr fd48_5 (jt4 rfl (s1))) rfl ?_
     refine WL.yes rfl rfl (lt rfl (lh)) (decide_eq_true q4b) ?_
     refine WL.x (X.load pl4 (lh) (by first | assumption | exact hS.at (by assumption) (by intro hne; first | exact hne | ((try dsimp only at hne); omega)) | exact hS.at (cu0_0.at0 (by assumption)) (by intro hne; first | exact hne | ((try dsimp only at hne); omega))) (by first | rfl | assumption)) rfl ?_
     refine WL.x (X.pickT (jt2 rfl (lh)) (decide_eq_true q4b) (lh)) rfl ?_
     refine WL.x (X.asg (lh)) rfl ?_
     refine WL.e3 Nx.thn 1 3 44 (jt8 rfl (s1)) (jt8 rfl (s3)) (lh) ?_
     intro σ74 s1 s3 s44
     refine W.cnd s44 (fun qn2 => ?_) (fun qn2 => ?_)
     ·
      refine W.region ?_
      refine WL.x (X.mv (s3)) rfl ?_
      refine WL.x (X.addS (lh) lc (by simp only [ByteArray.size_append, szl, size_bs, List.size_toArray, List.length_cons, List.length_nil, List.length_append]; omega)) rfl ?_
      refine WL.x (X.asg (lh)) rfl ?_
      refine WL.e1 (Nx.blk Nx.thn) 3 (lh) ?_
      intro σ75 s3
      refine W.seq ?_
      refine W.region ?_
      refine WL.x (X.mv (s3)) rfl ?_
      refine WL.x (X.addS (lh) lc (by simp only [ByteArray.size_append, szl, size_bs, List.size_toArray, List.length_cons, List.length_nil, List.length_append]; omega)) rfl ?_
      refine WL.x (X.asg (lh)) rfl ?_
      refine WL.e1 Nx.thn 2 (lh) ?_
      intro σ76 s2
      refine W.ret1 Nx.f1 s2 ?_
      first
        | (have hmv := mid_val hm (by first | exact .inl q1 | exact .inr (.inl q3) | exact .inr (.inr ⟨q4, qh, by simpa using qn⟩)); exact ⟨by rw [opT1, hmv]; exact fin_str (by simp [sb_app, sb_mk, sb_bs, valT]), (cu0_0.trans0 (cdh1.trans0 cu1_0)).trans0 cD⟩)
        | (have hmv := mid_nil (x := (k, key, val, li, has, nl)) qn2; exact ⟨by rw [opT1, hmv]; exact fin_str (by simp [sb_app, sb_mk, sb_bs]), cu0_0.trans0 (cdh1.trans0 cu1_0)⟩)
        | (have hmv := mid_list hm q2 qh2; have hje : j = li.length := by omega
           rw [hje, List.take_length] at hS; exact ⟨by rw [opT1, hmv]; exact fin_str (by simp [sb_app, sb_mk, sb_bs, hS]), (cu0_0.trans0 (cdh1.trans0 cu1_0)).trans0 hcl⟩)
        | exact ⟨by rw [opT1, mid_non2 hm q1 q3 (by intro h9; simp_all) (by intro h9; simp_all)]; exact fin_str (by simp [sb_app, sb_mk, sb_bs]), cu0_0.trans0 (cdh1.trans0 cu1_0)⟩
        | skip
     ·
      refine W.seq ?_
      refine W.region ?_
      refine WL.x (X.fieldAddr fd48_0 (s1)) rfl ?_
      refine WL.x (X.load pl3 (lh) (by first | assumption | exact hS.at (by assumption) (by intro hne; first | exact hne | ((try dsimp only at hne); omega)) | exact hS.at (cu0_0.at0 (by assumption)) (by intro hne; first | exact hne | ((try dsimp only at hne); omega))) (by first | rfl | assumption)) rfl ?_
      refine WL.x (X.eql (lh) lc) rfl ?_
      refine WL.x (X.mv (lh)) rfl ?_
      refine WL.splitp (lh) (fun q2 => ?_) (fun q2 => ?_)
      ·
       refine WL.yes rfl rfl (lh) (decide_eq_true q2) ?_
       refine WL.x (X.fieldAddr fd48_4 (jt4 rfl (s1))) rfl ?_
       refine WL.yes rfl rfl (lt rfl (lh)) (decide_eq_true q2) ?_
       refine WL.x (X.load pl4 (lh) (by first | assumption | exact hS.at (by assumption) (by intro hne; first | exact hne | ((try dsimp only at hne); omega)) | exact hS.at (cu0_0.at0 (by assumption)) (by intro hne; first | exact hne | ((try dsimp only at hne); omega))) (by first | rfl | assumption)) rfl ?_
       refine WL.x (X.pickT (jt2 rfl (lh)) (decide_eq_true q2) (lh)) rfl ?_
       refine WL.x (X.asg (lh)) rfl ?_
       refine WL.e3 Nx.thn 1 3 54 (jt8 rfl (s1)) (jt8 rfl (s3)) (lh) ?_
       intro σ77 s1 s3 s54
       refine W.cnd s54 (fun qh2 => ?_) (fun qh2 => ?_)
       ·
        refine W.seq ?_
        refine W.region ?_
        refine WL.x (X.mv (s3)) rfl ?_
        refine WL.x (X.addS (lh) lc (by simp only [ByteArray.size_append, szl, size_bs, List.size_toArray, List.length_cons, List.length_nil, List.length_append]; omega)) rfl ?_
        refine WL.x (X.asg (lh)) rfl ?_
        refine WL.e2 Nx.thn 1 3 (jt2 rfl (lt rfl (s1))) (lh) ?_
        intro σ78 s1 s3
        refine W.seq ?_
        refine W.seq ?_
        refine W.region ?_
        refine WL.x (X.fieldAddr fd48_3 (s1)) rfl ?_
        refine WL.x (v := .slice va li.length vc) (X.load pl46 (lh) (by first | assumption | exact hS.at (by assumption) (by intro hne; first | exact hne | ((try dsimp only at hne); omega)) | exact hS.at (cu0_0.at0 (by assumption)) (by intro hne; first | exact hne | ((try dsimp only at hne); omega))) rfl) rfl ?_
        refine WL.x (X.lenSl Tryd.underlying46 (lh)) rfl ?_
        refine WL.x (X.mv lc) rfl ?_
        refine WL.e4 Nx.thn 3 65 66 67 (jt4 rfl (s3)) (jt2 rfl (lh)) (lt rfl (lh)) (lh) ?_
        intro σ79 s3 s65 s66 s67
        refine W.block ?_
        have qo11 := s65
        have qo12 := s66
        -- loop 0: kept [65, 66], varied [3, 67]
        refine W.loop (G := Nat) (fun j σ' w' => (σ' 65 = σ79 65 ∧ σ' 66 = σ79 66 ∧ True) ∧ (∃ S, σ' 3 = .string S ∧ σ' 67 = .int .i64 (j : Int) ∧ sb S = ([91, 32] ++ (wordO k ++ [32]) ++ sb key ++ [32, 40]) ++ (li.take j).flatMap valT ∧ j ≤ li.length ∧ Ch0 w3 w')) (fun j => li.length - j) (0) ⟨⟨rfl, rfl, trivial⟩, _, s3, s67, (by simp [sb_app, sb_mk, sb_bs]), by omega, Ch.refl _ _⟩ ?_
        rintro j σ80 w15 ⟨⟨f65, f66, _⟩, S, s3, s67, hS, hj, hcl⟩
        have s65 := f65.trans qo11
        have s66 := f66.trans qo12
        refine W.seq ?_
        refine W.region ?_
        refine WL.x (X.lss (s67) (s66)) rfl ?_
        refine WL.e5 Nx.thn 3 65 66 67 68 (lt rfl (s3)) (lt rfl (s65)) (lt rfl (s66)) (lt rfl (s67)) (lh) ?_
        intro σ81 s3 s65 s66 s67 s68
        refine W.seq ?_
        refine W.cndp s68 (fun hlt => ?_) (fun hlt => ?_)
        ·
         obtain ⟨gb, og, csg, Tg, frg, rfl, hg1, hg2⟩ := hs.1.at (k := j) (by rw [List.length_map]; omega)
         have hSz := sb_len S
         rw [hS] at hSz
         simp only [List.length_append, List.length_cons, List.length_nil, sb_len] at hSz
         have hvl := vals_len hok j
         dsimp only at hvl
         have hjl : j < li.length := by omega
         have hzj := hok.2.2.2 li[j] (List.getElem_mem hjl)
         have hij := Lib.itoa_length_le li[j] hzj.1 hzj.2
         refine W.skip Nx.thn ?_
         refine W.seq ?_
         refine W.block ?_
         refine W.seq ?_
         refine W.region ?_
         refine WL.x (X.indexAddr Tryd.underlying46 el3 (s65) (s67) (by omega) (by omega)) rfl ?_
         refine WL.x (X.load pl3 (lh) ((cu0_0.trans0 (cdh1.trans0 cu1_0)).trans0 hcl |>.at0 hg1) (v := .int .i64 li[j]) (by rw [show og + (j : Int).toNat * 1 = og + j by omega, hg2 j (by rw [List.length_map]; omega), List.getElem?_map, List.getElem?_eq_getElem (by omega)]; rfl)) rfl ?_
         refine WL.x (X.asg (lh)) rfl ?_
         refine WL.e5 Nx.thn 3 5 65 66 67 (jt2 rfl (lt rfl (s3))) (lh) (jt2 rfl (lt rfl (s65))) (jt2 rfl (lt rfl (s66))) (jt2 rfl (lt rfl (s67))) ?_
         intro σ82 s3 s5 s65 s66 s67
         refine W.region ?_
         refine WL.x (X.mv (s3)) rfl ?_
         refine WL.x (X.mv (lt rfl (s5))) rfl ?_
         refine WL.call1 ce31 (lh) (decimal_ok li[j] w15 hzj.1 hzj.2) rfl ?_
         rintro _ w16 ⟨rfl, cD⟩
         refine WL.x (X.addS lc (lh) (by simp only [ByteArray.size_append, szl, size_bs, List.size_toArray, List.length_cons, List.length_nil, List.length_append]; omega)) rfl ?_
         refine WL.x (X.addS (jt2 rfl (lt rfl (lh))) (lh) (by simp only [ByteArray.size_append, szl, size_bs, List.size_toArray, List.length_cons, List.length_nil, List.length_append]; omega)) rfl ?_
         refine WL.x (X.asg (lh)) rfl ?_
         refine WL.e4 (Nx.blk Nx.thn) 3 65 66 67 (lh) (jt4 rfl (jt2 rfl (s65))) (jt4 rfl (jt2 rfl (s66))) (jt4 rfl (jt2 rfl (s67))) ?_
         intro σ83 s3 s65 s66 s67
         refine W.region ?_
         first | refine WL.x (X.add (s67) lc (by omega) (by omega)) rfl ?_ | refine WL.x (X.addw (s67) lc) rfl ?_
         refine WL.x (X.mv (lh)) rfl ?_
         refine WL.e4 Nx.thn 3 65 66 67 (jt2 rfl (s3)) (jt2 rfl (s65)) (jt2 rfl (s66)) (lh) ?_
         intro σ84 s3 s65 s66 s67
         refine ⟨j + 1, by omega, ⟨s65.trans qo11.symm, s66.trans qo12.symm, trivial⟩, _, s3, s67, (by rw [fm_take hjl]; simp [sb_app, sb_mk, sb_bs, hS, valT]), by omega, hcl.trans0 cD⟩
        ·
         have hSz := sb_len S
         rw [hS] at hSz
         simp only [List.length_append, List.length_cons, List.length_nil, sb_len] at hSz
         have hvl := vals_len hok j
         dsimp only at hvl
         refine W.exit (Nx.xthn (Nx.xthn (Nx.xblk Nx.thn))) ?_
         refine W.region ?_
         refine WL.x (X.mv (s3)) rfl ?_
         refine WL.x (X.addS (lh) lc (by simp only [ByteArray.size_append, szl, size_bs, List.size_toArray, List.length_cons, List.length_nil, List.length_append]; omega)) rfl ?_
         refine WL.x (X.asg (lh)) rfl ?_
         refine WL.e1 (Nx.blk Nx.thn) 3 (lh) ?_
         intro σ85 s3
         refine W.seq ?_
         refine W.region ?_
         refine WL.x (X.mv (s3)) rfl ?_
         refine WL.x (X.addS (lh) lc (by simp only [ByteArray.size_append, szl, size_bs, List.size_toArray, List.length_cons, List.length_nil, List.length_append]; omega)) rfl ?_
         refine WL.x (X.asg (lh)) rfl ?_
         refine WL.e1 Nx.thn 2 (lh) ?_
         intro σ86 s2
         refine W.ret1 Nx.f1 s2 ?_
         first
           | (have hmv := mid_val hm (by first | exact .inl q1 | exact .inr (.inl q3) | exact .inr (.inr ⟨q4, qh, by simpa using qn⟩)); exact ⟨by rw [opT1, hmv]; exact fin_str (by simp [sb_app, sb_mk, sb_bs, valT]), (cu0_0.trans0 (cdh1.trans0 cu1_0)).trans0 cD⟩)
           | (have hmv := mid_nil (x := (k, key, val, li, has, nl)) qn2; exact ⟨by rw [opT1, hmv]; exact fin_str (by simp [sb_app, sb_mk, sb_bs]), cu0_0.trans0 (cdh1.trans0 cu1_0)⟩)
           | (have hmv := mid_list hm q2 qh2; have hje : j = li.length := by omega
              rw [hje, List.take_length] at hS; exact ⟨by rw [opT1, hmv]; exact fin_str (by simp [sb_app, sb_mk, sb_bs, hS]), (cu0_0.trans0 (cdh1.trans0 cu1_0)).trans0 hcl⟩)
           | exact ⟨by rw [opT1, mid_non2 hm q1 q3 (by intro h9; simp_all) (by intro h9; simp_all)]; exact fin_str (by simp [sb_app, sb_mk, sb_bs]), cu0_0.trans0 (cdh1.trans0 cu1_0)⟩
           | skip
       ·
        refine W.skip (Nx.blk Nx.thn) ?_
        refine W.seq ?_
        refine W.region ?_
        refine WL.x (X.mv (s3)) rfl ?_
        refine WL.x (X.addS (lh) lc (by simp only [ByteArray.size_append, szl, size_bs, List.size_toArray, List.length_cons, List.length_nil, List.length_append]; omega)) rfl ?_
        refine WL.x (X.asg (lh)) rfl ?_
        refine WL.e1 Nx.thn 2 (lh) ?_
        intro σ87 s2
        refine W.ret1 Nx.f1 s2 ?_
        first
          | (have hmv := mid_val hm (by first | exact .inl q1 | exact .inr (.inl q3) | exact .inr (.inr ⟨q4, qh, by simpa using qn⟩)); exact ⟨by rw [opT1, hmv]; exact fin_str (by simp [sb_app, sb_mk, sb_bs, valT]), (cu0_0.trans0 (cdh1.trans0 cu1_0)).trans0 cD⟩)
          | (have hmv := mid_nil (x := (k, key, val, li, has, nl)) qn2; exact ⟨by rw [opT1, hmv]; exact fin_str (by simp [sb_app, sb_mk, sb_bs]), cu0_0.trans0 (cdh1.trans0 cu1_0)⟩)
          | (have hmv := mid_list hm q2 qh2; have hje : j = li.length := by omega
             rw [hje, List.take_length] at hS; exact ⟨by rw [opT1, hmv]; exact fin_str (by simp [sb_app, sb_mk, sb_bs, hS]), (cu0_0.trans0 (cdh1.trans0 cu1_0)).trans0 hcl⟩)
          | exact ⟨by rw [opT1, mid_non2 hm q1 q3 (by intro h9; simp_all) (by intro h9; simp_all)]; exact fin_str (by simp [sb_app, sb_mk, sb_bs]), cu0_0.trans0 (cdh1.trans0 cu1_0)⟩
          | skip
      ·
       refine WL.no rfl rfl (lh) (decide_eq_false q2) rfl ?_
       refine WL.no rfl rfl (lt rfl (lh)) (decide_eq_false q2) rfl ?_
       refine WL.x (X.pickF (jt2 rfl (lh)) (decide_eq_false q2) lc) rfl ?_
       refine WL.x (X.asg (lh)) rfl ?_
       refine WL.e3 Nx.thn 1 3 54 (jt8 rfl (s1)) (jt8 rfl (s3)) (lh) ?_
       intro σ88 s1 s3 s54
       refine W.cndF s54 ?_
       refine W.skip (Nx.blk Nx.thn) ?_
       refine W.seq ?_
       refine W.region ?_
       refine WL.x (X.mv (s3)) rfl ?_
       refine WL.x (X.addS (lh) lc (by simp only [ByteArray.size_append, szl, size_bs, List.size_toArray, List.length_cons, List.length_nil, List.length_append]; omega)) rfl ?_
       refine WL.x (X.asg (lh)) rfl ?_
       refine WL.e1 Nx.thn 2 (lh) ?_
       intro σ89 s2
       refine W.ret1 Nx.f1 s2 ?_
       first
         | (have hmv := mid_val hm (by first | exact .inl q1 | exact .inr (.inl q3) | exact .inr (.inr ⟨q4, qh, by simpa using qn⟩)); exact ⟨by rw [opT1, hmv]; exact fin_str (by simp [sb_app, sb_mk, sb_bs, valT]), (cu0_0.trans0 (cdh1.trans0 cu1_0)).trans0 cD⟩)
         | (have hmv := mid_nil (x := (k, key, val, li, has, nl)) qn2; exact ⟨by rw [opT1, hmv]; exact fin_str (by simp [sb_app, sb_mk, sb_bs]), cu0_0.trans0 (cdh1.trans0 cu1_0)⟩)
         | (have hmv := mid_list hm q2 qh2; have hje : j = li.length := by omega
            rw [hje, List.take_length] at hS; exact ⟨by rw [opT1, hmv]; exact fin_str (by simp [sb_app, sb_mk, sb_bs, hS]), (cu0_0.trans0 (cdh1.trans0 cu1_0)).trans0 hcl⟩)
         | exact ⟨by rw [opT1, mid_non2 hm q1 q3 (by intro h9; simp_all) (by intro h9; simp_all)]; exact fin_str (by simp [sb_app, sb_mk, sb_bs]), cu0_0.trans0 (cdh1.trans0 cu1_0)⟩
         | skip
    ·
     refine WL.no rfl rfl (lh) (decide_eq_false q4b) rfl ?_
     refine WL.no rfl rfl (lt rfl (lh)) (decide_eq_false q4b) rfl ?_
     refine WL.x (X.pickF (jt2 rfl (lh)) (decide_eq_false q4b) lc) rfl ?_
     refine WL.x (X.asg (lh)) rfl ?_
     refine WL.e3 Nx.thn 1 3 44 (jt8 rfl (s1)) (jt8 rfl (s3)) (lh) ?_
     intro σ90 s1 s3 s44
     refine W.cndF s44 ?_
     refine W.seq ?_
     refine W.region ?_
     refine WL.x (X.fieldAddr fd48_0 (s1)) rfl ?_
     refine WL.x (X.load pl3 (lh) (by first | assumption | exact hS.at (by assumption) (by intro hne; first | exact hne | ((try dsimp only at hne); omega)) | exact hS.at (cu0_0.at0 (by assumption)) (by intro hne; first | exact hne | ((try dsimp only at hne); omega))) (by first | rfl | assumption)) rfl ?_
     refine WL.x (X.eql (lh) lc) rfl ?_
     refine WL.x (X.mv (lh)) rfl ?_
     refine WL.splitp (lh) (fun q2 => ?_) (fun q2 => ?_)
     ·
      refine WL.yes rfl rfl (lh) (decide_eq_true q2) ?_
      refine WL.x (X.fieldAddr fd48_4 (jt4 rfl (s1))) rfl ?_
      refine WL.yes rfl rfl (lt rfl (lh)) (decide_eq_true q2) ?_
      refine WL.x (X.load pl4 (lh) (by first | assumption | exact hS.at (by assumption) (by intro hne; first | exact hne | ((try dsimp only at hne); omega)) | exact hS.at (cu0_0.at0 (by assumption)) (by intro hne; first | exact hne | ((try dsimp only at hne); omega))) (by first | rfl | assumption)) rfl ?_
      refine WL.x (X.pickT (jt2 rfl (lh)) (decide_eq_true q2) (lh)) rfl ?_
      refine WL.x (X.asg (lh)) rfl ?_
      refine WL.e3 Nx.thn 1 3 54 (jt8 rfl (s1)) (jt8 rfl (s3)) (lh) ?_
      intro σ91 s1 s3 s54
      refine W.cnd s54 (fun qh2 => ?_) (fun qh2 => ?_)
      ·
       refine W.seq ?_
       refine W.region ?_
       refine WL.x (X.mv (s3)) rfl ?_
       refine WL.x (X.addS (lh) lc (by simp only [ByteArray.size_append, szl, size_bs, List.size_toArray, List.length_cons, List.length_nil, List.length_append]; omega)) rfl ?_
       refine WL.x (X.asg (lh)) rfl ?_
       refine WL.e2 Nx.thn 1 3 (jt2 rfl (lt rfl (s1))) (lh) ?_
       intro σ92 s1 s3
       refine W.seq ?_
       refine W.seq ?_
       refine W.region ?_
       refine WL.x (X.fieldAddr fd48_3 (s1)) rfl ?_
       refine WL.x (v := .slice va li.length vc) (X.load pl46 (lh) (by first | assumption | exact hS.at (by assumption) (by intro hne; first | exact hne | ((try dsimp only at hne); omega)) | exact hS.at (cu0_0.at0 (by assumption)) (by intro hne; first | exact hne | ((try dsimp only at hne); omega))) rfl) rfl ?_
       refine WL.x (X.lenSl Tryd.underlying46 (lh)) rfl ?_
       refine WL.x (X.mv lc) rfl ?_
       refine WL.e4 Nx.thn 3 65 66 67 (jt4 rfl (s3)) (jt2 rfl (lh)) (lt rfl (lh)) (lh) ?_
       intro σ93 s3 s65 s66 s67
       refine W.block ?_
       have qo13 := s65
       have qo14 := s66
       -- loop 0: kept [65, 66], varied [3, 67]
       refine W.loop (G := Nat) (fun j σ' w' => (σ' 65 = σ93 65 ∧ σ' 66 = σ93 66 ∧ True) ∧ (∃ S, σ' 3 = .string S ∧ σ' 67 = .int .i64 (j : Int) ∧ sb S = ([91, 32] ++ (wordO k ++ [32]) ++ sb key ++ [32, 40]) ++ (li.take j).flatMap valT ∧ j ≤ li.length ∧ Ch0 w3 w')) (fun j => li.length - j) (0) ⟨⟨rfl, rfl, trivial⟩, _, s3, s67, (by simp [sb_app, sb_mk, sb_bs]), by omega, Ch.refl _ _⟩ ?_
       rintro j σ94 w17 ⟨⟨f65, f66, _⟩, S, s3, s67, hS, hj, hcl⟩
       have s65 := f65.trans qo13
       have s66 := f66.trans qo14
       refine W.seq ?_
       refine W.region ?_
       refine WL.x (X.lss (s67) (s66)) rfl ?_
       refine WL.e5 Nx.thn 3 65 66 67 68 (lt rfl (s3)) (lt rfl (s65)) (lt rfl (s66)) (lt rfl (s67)) (lh) ?_
       intro σ95 s3 s65 s66 s67 s68
       refine W.seq ?_
       refine W.cndp s68 (fun hlt => ?_) (fun hlt => ?_)
       ·
        obtain ⟨gb, og, csg, Tg, frg, rfl, hg1, hg2⟩ := hs.1.at (k := j) (by rw [List.length_map]; omega)
        have hSz := sb_len S
        rw [hS] at hSz
        simp only [List.length_append, List.length_cons, List.length_nil, sb_len] at hSz
        have hvl := vals_len hok j
        dsimp only at hvl
        have hjl : j < li.length := by omega
        have hzj := hok.2.2.2 li[j] (List.getElem_mem hjl)
        have hij := Lib.itoa_length_le li[j] hzj.1 hzj.2
        refine W.skip Nx.thn ?_
        refine W.seq ?_
        refine W.block ?_
        refine W.seq ?_
        refine W.region ?_
        refine WL.x (X.indexAddr Tryd.underlying46 el3 (s65) (s67) (by omega) (by omega)) rfl ?_
        refine WL.x (X.load pl3 (lh) ((cu0_0.trans0 (cdh1.trans0 cu1_0)).trans0 hcl |>.at0 hg1) (v := .int .i64 li[j]) (by rw [show og + (j : Int).toNat * 1 = og + j by omega, hg2 j (by rw [List.length_map]; omega), List.getElem?_map, List.getElem?_eq_getElem (by omega)]; rfl)) rfl ?_
        refine WL.x (X.asg (lh)) rfl ?_
        refine WL.e5 Nx.thn 3 5 65 66 67 (jt2 rfl (lt rfl (s3))) (lh) (jt2 rfl (lt rfl (s65))) (jt2 rfl (lt rfl (s66))) (jt2 rfl (lt rfl (s67))) ?_
        intro σ96 s3 s5 s65 s66 s67
        refine W.region ?_
        refine WL.x (X.mv (s3)) rfl ?_
        refine WL.x (X.mv (lt rfl (s5))) rfl ?_
        refine WL.call1 ce31 (lh) (decimal_ok li[j] w17 hzj.1 hzj.2) rfl ?_
        rintro _ w18 ⟨rfl, cD⟩
        refine WL.x (X.addS lc (lh) (by simp only [ByteArray.size_append, szl, size_bs, List.size_toArray, List.length_cons, List.length_nil, List.length_append]; omega)) rfl ?_
        refine WL.x (X.addS (jt2 rfl (lt rfl (lh))) (lh) (by simp only [ByteArray.size_append, szl, size_bs, List.size_toArray, List.length_cons, List.length_nil, List.length_append]; omega)) rfl ?_
        refine WL.x (X.asg (lh)) rfl ?_
        refine WL.e4 (Nx.blk Nx.thn) 3 65 66 67 (lh) (jt4 rfl (jt2 rfl (s65))) (jt4 rfl (jt2 rfl (s66))) (jt4 rfl (jt2 rfl (s67))) ?_
        intro σ97 s3 s65 s66 s67
        refine W.region ?_
        first | refine WL.x (X.add (s67) lc (by omega) (by omega)) rfl ?_ | refine WL.x (X.addw (s67) lc) rfl ?_
        refine WL.x (X.mv (lh)) rfl ?_
        refine WL.e4 Nx.thn 3 65 66 67 (jt2 rfl (s3)) (jt2 rfl (s65)) (jt2 rfl (s66)) (lh) ?_
        intro σ98 s3 s65 s66 s67
        refine ⟨j + 1, by omega, ⟨s65.trans qo13.symm, s66.trans qo14.symm, trivial⟩, _, s3, s67, (by rw [fm_take hjl]; simp [sb_app, sb_mk, sb_bs, hS, valT]), by omega, hcl.trans0 cD⟩
       ·
        have hSz := sb_len S
        rw [hS] at hSz
        simp only [List.length_append, List.length_cons, List.length_nil, sb_len] at hSz
        have hvl := vals_len hok j
        dsimp only at hvl
        refine W.exit (Nx.xthn (Nx.xthn (Nx.xblk Nx.thn))) ?_
        refine W.region ?_
        refine WL.x (X.mv (s3)) rfl ?_
        refine WL.x (X.addS (lh) lc (by simp only [ByteArray.size_append, szl, size_bs, List.size_toArray, List.length_cons, List.length_nil, List.length_append]; omega)) rfl ?_
        refine WL.x (X.asg (lh)) rfl ?_
        refine WL.e1 (Nx.blk Nx.thn) 3 (lh) ?_
        intro σ99 s3
        refine W.seq ?_
        refine W.region ?_
        refine WL.x (X.mv (s3)) rfl ?_
        refine WL.x (X.addS (lh) lc (by simp only [ByteArray.size_append, szl, size_bs, List.size_toArray, List.length_cons, List.length_nil, List.length_append]; omega)) rfl ?_
        refine WL.x (X.asg (lh)) rfl ?_
        refine WL.e1 Nx.thn 2 (lh) ?_
        intro σ100 s2
        refine W.ret1 Nx.f1 s2 ?_
        first
          | (have hmv := mid_val hm (by first | exact .inl q1 | exact .inr (.inl q3) | exact .inr (.inr ⟨q4, qh, by simpa using qn⟩)); exact ⟨by rw [opT1, hmv]; exact fin_str (by simp [sb_app, sb_mk, sb_bs, valT]), (cu0_0.trans0 (cdh1.trans0 cu1_0)).trans0 cD⟩)
          | (have hmv := mid_nil (x := (k, key, val, li, has, nl)) qn2; exact ⟨by rw [opT1, hmv]; exact fin_str (by simp [sb_app, sb_mk, sb_bs]), cu0_0.trans0 (cdh1.trans0 cu1_0)⟩)
          | (have hmv := mid_list hm q2 qh2; have hje : j = li.length := by omega
             rw [hje, List.take_length] at hS; exact ⟨by rw [opT1, hmv]; exact fin_str (by simp [sb_app, sb_mk, sb_bs, hS]), (cu0_0.trans0 (cdh1.trans0 cu1_0)).trans0 hcl⟩)
          | exact ⟨by rw [opT1, mid_non2 hm q1 q3 (by intro h9; simp_all) (by intro h9; simp_all)]; exact fin_str (by simp [sb_app, sb_mk, sb_bs]), cu0_0.trans0 (cdh1.trans0 cu1_0)⟩
          | skip
      ·
       refine W.skip (Nx.blk Nx.thn) ?_
       refine W.seq ?_
       refine W.region ?_
       refine WL.x (X.mv (s3)) rfl ?_
       refine WL.x (X.addS (lh) lc (by simp only [ByteArray.size_append, szl, size_bs, List.size_toArray, List.length_cons, List.length_nil, List.length_append]; omega)) rfl ?_
       refine WL.x (X.asg (lh)) rfl ?_
       refine WL.e1 Nx.thn 2 (lh) ?_
       intro σ101 s2
       refine W.ret1 Nx.f1 s2 ?_
       first
         | (have hmv := mid_val hm (by first | exact .inl q1 | exact .inr (.inl q3) | exact .inr (.inr ⟨q4, qh, by simpa using qn⟩)); exact ⟨by rw [opT1, hmv]; exact fin_str (by simp [sb_app, sb_mk, sb_bs, valT]), (cu0_0.trans0 (cdh1.trans0 cu1_0)).trans0 cD⟩)
         | (have hmv := mid_nil (x := (k, key, val, li, has, nl)) qn2; exact ⟨by rw [opT1, hmv]; exact fin_str (by simp [sb_app, sb_mk, sb_bs]), cu0_0.trans0 (cdh1.trans0 cu1_0)⟩)
         | (have hmv := mid_list hm q2 qh2; have hje : j = li.length := by omega
            rw [hje, List.take_length] at hS; exact ⟨by rw [opT1, hmv]; exact fin_str (by simp [sb_app, sb_mk, sb_bs, hS]), (cu0_0.trans0 (cdh1.trans0 cu1_0)).trans0 hcl⟩)
         | exact ⟨by rw [opT1, mid_non2 hm q1 q3 (by intro h9; simp_all) (by intro h9; simp_all)]; exact fin_str (by simp [sb_app, sb_mk, sb_bs]), cu0_0.trans0 (cdh1.trans0 cu1_0)⟩
         | skip
     ·
      refine WL.no rfl rfl (lh) (decide_eq_false q2) rfl ?_
      refine WL.no rfl rfl (lt rfl (lh)) (decide_eq_false q2) rfl ?_
      refine WL.x (X.pickF (jt2 rfl (lh)) (decide_eq_false q2) lc) rfl ?_
      refine WL.x (X.asg (lh)) rfl ?_
      refine WL.e3 Nx.thn 1 3 54 (jt8 rfl (s1)) (jt8 rfl (s3)) (lh) ?_
      intro σ102 s1 s3 s54
      refine W.cndF s54 ?_
      refine W.skip (Nx.blk Nx.thn) ?_
      refine W.seq ?_
      refine W.region ?_
      refine WL.x (X.mv (s3)) rfl ?_
      refine WL.x (X.addS (lh) lc (by simp only [ByteArray.size_append, szl, size_bs, List.size_toArray, List.length_cons, List.length_nil, List.length_append]; omega)) rfl ?_
      refine WL.x (X.asg (lh)) rfl ?_
      refine WL.e1 Nx.thn 2 (lh) ?_
      intro σ103 s2
      refine W.ret1 Nx.f1 s2 ?_
      first
        | (have hmv := mid_val hm (by first | exact .inl q1 | exact .inr (.inl q3) | exact .inr (.inr ⟨q4, qh, by simpa using qn⟩)); exact ⟨by rw [opT1, hmv]; exact fin_str (by simp [sb_app, sb_mk, sb_bs, valT]), (cu0_0.trans0 (cdh1.trans0 cu1_0)).trans0 cD⟩)
        | (have hmv := mid_nil (x := (k, key, val, li, has, nl)) qn2; exact ⟨by rw [opT1, hmv]; exact fin_str (by simp [sb_app, sb_mk, sb_bs]), cu0_0.trans0 (cdh1.trans0 cu1_0)⟩)
        | (have hmv := mid_list hm q2 qh2; have hje : j = li.length := by omega
           rw [hje, List.take_length] at hS; exact ⟨by rw [opT1, hmv]; exact fin_str (by simp [sb_app, sb_mk, sb_bs, hS]), (cu0_0.trans0 (cdh1.trans0 cu1_0)).trans0 hcl⟩)
        | exact ⟨by rw [opT1, mid_non2 hm q1 q3 (by intro h9; simp_all) (by intro h9; simp_all)]; exact fin_str (by simp [sb_app, sb_mk, sb_bs]), cu0_0.trans0 (cdh1.trans0 cu1_0)⟩
        | skip

def prT (l : List GEv) : Bs := if canB l = true then l.flatMap evT else []
theorem ev_ok {A : Nat → Prop} {w : World} {es : List Value} {e : GEv} (h : REv A w es e) (hb : evB e = true) : okE e := by
  obtain ⟨h1, h2⟩ := evB_all hb
  obtain ⟨v, _, hs, _⟩ := h
  obtain ⟨va, vc, rfl⟩ := hs.len
  refine ⟨h1.2.2.1, h1.2.2.2.1, h1.2.2.2.2.2, fun x hx => ?_⟩
  obtain ⟨i, hi, rfl⟩ := List.mem_iff_getElem.1 hx
  obtain ⟨_, _, _, _, _, es2, _, _, _, _, hr2⟩ := hs.at (k := i) hi
  exact may_ok hr2 (h2 _ (List.getElem_mem hi))
theorem hist_ok {A : Nat → Prop} {w : World} {a : Option Addr} {c : Nat} {l : List GEv} (h : RSl 3 REv A w (.slice a l.length c) l) (hc : canB l = true) : l.length ≤ 300 ∧ ∀ e ∈ l, okE e := by
  obtain ⟨h1, h2⟩ := canB_all hc
  refine ⟨h1, fun e he => ?_⟩
  obtain ⟨i, hi, rfl⟩ := List.mem_iff_getElem.1 he
  obtain ⟨_, _, _, _, _, es2, _, _, _, _, hr2⟩ := h.at (k := i) hi
  exact ev_ok hr2 (h2 _ (List.getElem_mem hi))
set_option maxHeartbeats 3200000 in
theorem rprint_walk (A : Nat → Prop) (a : Option Addr) (c : Nat) (l : List GEv) (w : World) (h : RSl 3 REv A w (.slice a l.length c) l) (hl : l.length ≤ 140737488355328) :
  Sg.Ret Tryd.prog 11 #[.slice a l.length c] w fun v w' => v = .string (bs (prT l)) ∧ Ch0 w w' := by
 refine enter1 (n := 45) (l := [.slice a l.length c]) Tryd.func11 rfl rfl rfl rfl ?_
 refine W.g1 0 (v1 := .slice a l.length c) rfl ?_; intro σ s0
 refine W.seq ?_
 refine W.region ?_
 refine WL.x (X.asg lc) rfl ?_
 refine WL.e1 Nx.thn 0 (lt rfl (s0)) ?_
 intro σ1 s0
 refine W.seq ?_
 refine W.seq ?_
 refine W.region ?_
 refine WL.x (X.mv (s0)) rfl ?_
 refine WL.call1 ce9 (lh) (rcan_ok A _ l w h hl) rfl ?_
 rintro _ w1 ⟨rfl, c0⟩
 refine WL.x (X.not (lh)) rfl ?_
 refine WL.e2 Nx.thn 0 10 (jt2 rfl (lt rfl (s0))) (lh) ?_
 intro σ2 s0 s10
 refine W.cnd s10 (fun hc0 => ?_) (fun hc0 => ?_)
 ·
  refine W.seq ?_
  refine W.region ?_
  refine WL.x (X.asg lc) rfl ?_
  refine WL.e1 Nx.thn 2 (lh) ?_
  intro σ3 s2
  refine W.ret1 (Nx.rthn Nx.f1) s2 ?_
  first | exact ⟨by unfold prT; rw [if_neg (by simpa using hc0)]; rfl, c0⟩ | exact ⟨by unfold prT; rw [if_pos hcan]; exact fin_str (by rw [hSe, sb_bs, show k = l.length by omega, List.take_length]), hcl⟩
 ·
  have hcan : canB l = true := by simpa using hc0
  obtain ⟨hln, hev⟩ := hist_ok h hcan
  obtain ⟨-, hev2⟩ := canB_all hcan
  refine W.skip Nx.thn ?_
  refine W.seq ?_
  refine W.region ?_
  refine WL.x (X.asg lc) rfl ?_
  refine WL.e2 Nx.thn 0 3 (lt rfl (s0)) (lh) ?_
  intro σ4 s0 s3
  refine W.seq ?_
  refine W.seq ?_
  refine W.region ?_
  refine WL.x (X.mv (s0)) rfl ?_
  refine WL.x (X.lenSl Tryd.underlying22 (lh)) rfl ?_
  refine WL.x (X.mv lc) rfl ?_
  refine WL.e4 Nx.thn 3 11 12 13 (jt2 rfl (lt rfl (s3))) (jt2 rfl (lh)) (lt rfl (lh)) (lh) ?_
  intro σ5 s3 s11 s12 s13
  refine W.block ?_
  have qo1 := s11
  have qo2 := s12
  -- loop 0: kept [11, 12], varied [3, 13]
  refine W.loop (G := Nat) (fun k σ' w' => (σ' 11 = σ5 11 ∧ σ' 12 = σ5 12 ∧ True) ∧ (∃ S, σ' 3 = .string S ∧ σ' 13 = .int .i64 (k : Int) ∧ sb S = (l.take k).flatMap evT ∧ k ≤ l.length ∧ Ch0 w w')) (fun k => l.length - k) (0) ⟨⟨rfl, rfl, trivial⟩, _, s3, s13, (by simp [sb_mk]), by omega, c0⟩ ?_
  rintro k σ6 w2 ⟨⟨f11, f12, _⟩, S, s3, s13, hSe, hk, hcl⟩
  have s11 := f11.trans qo1
  have s12 := f12.trans qo2
  refine W.seq ?_
  refine W.region ?_
  refine WL.x (X.lss (s13) (s12)) rfl ?_
  refine WL.e5 Nx.thn 3 11 12 13 14 (lt rfl (s3)) (lt rfl (s11)) (lt rfl (s12)) (lt rfl (s13)) (lh) ?_
  intro σ7 s3 s11 s12 s13 s14
  refine W.seq ?_
  refine W.cndp s14 (fun hlt => ?_) (fun hlt => ?_)
  ·
   obtain ⟨b1, o1, cs1, T1, fr1, es1, rfl, hml1, hes1, hgl1, v1, rfl, hs1, hb1⟩ := (h.ch0 monEv hcl).at (k := k) (by omega)
   obtain ⟨va1, vc1, rfl⟩ := hs1.len
   have hkl : k < l.length := by omega
   have hoe := hev l[k] (List.getElem_mem hkl)
   obtain ⟨hek, hmo⟩ := evB_all (hev2 l[k] (List.getElem_mem hkl))
   have hit := Lib.itoa_length_le l[k].2.1 (by omega) (by omega)
   have hwe := wordE_len l[k].1
   have hhd := hdT_len hoe
   have hSz := sb_len S
   rw [hSe] at hSz
   have hpl := prT_len hln hev k
   refine W.skip Nx.thn ?_
   refine W.seq ?_
   refine W.block ?_
   refine W.seq ?_
   refine W.region ?_
   refine WL.x (X.indexAddr Tryd.underlying22 el44 (s11) (s13) (by omega) (by omega)) rfl ?_
   refine WL.x (X.loadS ag44 (lh) hml1 hes1 hgl1) rfl ?_
   refine WL.alloc el44 rfl ?_
   intro w3 u6_2; have hu6_2 := u6_2.at_; have cu6_2 := u6_2.ch; have zu6_2 := u6_2.size
   refine WL.storeS ag44 (lh) (lt rfl (lh)) rfl hes1 hu6_2 (by decide) ?_
   intro w4 us; have hu6_3 := us.at_; have cu6_3 := us.ch
   rw [show (Value.agg #[.int .i64 0, .int .i64 0, .slice none 0 0]).cells = (#[.int .i64 0, .int .i64 0, .slice none 0 0] : Array Value) from rfl, blit_all (by rfl)] at hu6_3
   have hclz := hcl.size
   have hc6 := cu6_2.trans cu6_3 (H := fun _ => False) (fun _ _ e => e) (fun q hq e => by (try dsimp only at e); omega)
   refine WL.e5 Nx.thn 3 5 11 12 13 (jt2 rfl (lt rfl (s3))) (lh) (jt2 rfl (lt rfl (s11))) (jt2 rfl (lt rfl (s12))) (jt2 rfl (lt rfl (s13))) ?_
   intro σ8 s3 s5 s11 s12 s13
   refine W.seq ?_
   refine W.held (fun w' => Ch (fun _ => False) w4 w') mo ?_
   intro w5 qhh3 qc4
   have hS : Ch (fun _ => False) w4 w5 := Ch.weak qc4
   have hzqc4 := qc4.size
   have cdh7 := qc4
   refine WH.take 0 rfl (by kernel_rfl) (by kernel_rfl) (by kernel_rfl) (fun _ _ _ h => h) Gd.none rfl (fun w' hS' => X.mv (s3)) hS ?_
   refine WH.take 2 rfl (by kernel_rfl) (by kernel_rfl) (by kernel_rfl) (fun _ _ _ h => h) Gd.none rfl (fun w' hS' => X.fieldAddr fd44_0 (lt rfl (s5))) hS ?_
   refine WH.take 3 rfl (by kernel_rfl) (by kernel_rfl) (by kernel_rfl) (fun _ _ _ h => h) Gd.none rfl (fun w' hS' => X.load pl3 (lh) (by first | assumption | exact hS'.at (by assumption) (by intro hne; first | exact hne | ((try dsimp only at hne); omega)) | exact hS'.at (cu6_3.at (by assumption) (by intro hne; first | exact hne | ((try dsimp only at hne); omega))) (by intro hne; first | exact hne | ((try dsimp only at hne); omega))) (by first | rfl | assumption)) hS ?_
   refine WH.take 6 rfl (by kernel_rfl) (by kernel_rfl) (by kernel_rfl) (fun _ _ _ h => h) Gd.none rfl (fun w' hS' => X.fieldAddr fd44_1 (jt2 rfl (lt rfl (s5)))) hS ?_
   refine WH.take 7 rfl (by kernel_rfl) (by kernel_rfl) (by kernel_rfl) (fun _ _ _ h => h) Gd.none rfl (fun w' hS' => X.load pl3 (lh) (by first | assumption | exact hS'.at (by assumption) (by intro hne; first | exact hne | ((try dsimp only at hne); omega)) | exact hS'.at (cu6_3.at (by assumption) (by intro hne; first | exact hne | ((try dsimp only at hne); omega))) (by intro hne; first | exact hne | ((try dsimp only at hne); omega))) (by first | rfl | assumption)) hS ?_
   refine WH.two 1 8 rfl rfl (by kernel_rfl) (fun _ _ h => h) ?_ ?_
   ·
    refine WL.bslice Tryd.underlying36 el9 rfl (pcons lc (pcons lc (pcons lc (pcons lc (pcons lc pnil))))) rfl (rfl : _ = [_, _, _, _, _]) rfl ?_
    intro w6 u7_1; have hu7_1 := u7_1.at_; have cu7_1 := u7_1.ch; have zu7_1 := u7_1.size
    have hS := hS.trans cu7_1 (fun _ _ => id) (by intro i hi hg; first | exact hg | exact False.elim hg | omega | ((try dsimp only at hg ⊢); omega))
    refine WL.nil Nx.thn ⟨hS, ?_⟩
    refine WH.take 4 rfl (by kernel_rfl) (by kernel_rfl) (by kernel_rfl) (fun _ _ _ h => h) Gd.none rfl (fun w' hS' => X.indexAddr Tryd.underlying36 el9 (lh) (jt2 rfl (lt rfl (lh))) (by omega) (by omega)) hS ?_
    refine WH.two 5 8 rfl rfl (by kernel_rfl) (fun _ _ h => h) ?_ ?_
    ·
     refine WL.x (X.load pl9 (lh) (by first | exact hu7_1 | exact cD.at0 hu7_1) (v := .string (bs (wordE l[k].1 ++ [32]))) (ewb hek.1 hek.2.1)) rfl ?_
     refine WL.nil Nx.thn ⟨hS, ?_⟩
     refine WH.one 8 rfl (by kernel_rfl) (fun _ _ h => h) ?_
     refine WL.call1 ce31 (jt2 rfl (lt rfl (lh))) (decimal_ok l[k].2.1 w6 (by omega) (by omega)) rfl ?_
     rintro _ w7 ⟨rfl, cD⟩
     have hS := hS.trans cD (fun _ _ => id) (by intro i hi hg; first | exact hg | exact False.elim hg | omega | ((try dsimp only at hg ⊢); omega))
     refine WL.nil Nx.thn ⟨hS, ?_⟩
     refine WH.take 9 rfl (by kernel_rfl) (by kernel_rfl) (by kernel_rfl) (fun _ _ _ h => h) Gd.none rfl (fun w' hS' => X.addS (lt rfl (lh)) (lh) (by simp only [ByteArray.size_append, szl, size_bs, List.size_toArray, List.length_cons, List.length_nil, List.length_append]; omega)) hS ?_
     refine WH.take 10 rfl (by kernel_rfl) (by kernel_rfl) (by kernel_rfl) (fun _ _ _ h => h) Gd.none rfl (fun w' hS' => X.addS (jt8 rfl (lt rfl (lh))) (lh) (by simp only [ByteArray.size_append, szl, size_bs, List.size_toArray, List.length_cons, List.length_nil, List.length_append]; omega)) hS ?_
     refine WH.take 11 rfl (by kernel_rfl) (by kernel_rfl) (by kernel_rfl) (fun _ _ _ h => h) Gd.none rfl (fun w' hS' => X.asg (lh)) hS ?_
     refine WH.done (by kernel_rfl) ?_
     refine WL.e5 Nx.thn 3 5 11 12 13 (lh) (jt8 rfl (jt4 rfl (s5))) (jt8 rfl (jt4 rfl (s11))) (jt8 rfl (jt4 rfl (s12))) (jt8 rfl (jt4 rfl (s13))) ?_
     intro σ9 s3 s5 s11 s12 s13
     refine W.seq ?_
     refine W.seq ?_
     refine W.region ?_
     refine WL.x (X.fieldAddr fd44_2 (s5)) rfl ?_
     refine WL.x (v := .slice va1 l[k].2.2.length vc1) (X.load pl42 (lh) (by first | assumption | exact hS.at (by assumption) (by intro hne; first | exact hne | ((try dsimp only at hne); omega)) | exact hS.at (cu6_3.at (by assumption) (by intro hne; first | exact hne | ((try dsimp only at hne); omega))) (by intro hne; first | exact hne | ((try dsimp only at hne); omega))) rfl) rfl ?_
     refine WL.x (X.lenSl Tryd.underlying42 (lh)) rfl ?_
     refine WL.x (X.mv lc) rfl ?_
     refine WL.e7 Nx.thn 3 11 12 13 29 30 31 (jt4 rfl (s3)) (jt4 rfl (s11)) (jt4 rfl (s12)) (jt4 rfl (s13)) (jt2 rfl (lh)) (lt rfl (lh)) (lh) ?_
     intro σ10 s3 s11 s12 s13 s29 s30 s31
     refine W.block ?_
     have qo5 := s11
     have qo6 := s12
     have qo7 := s13
     have qo8 := s29
     have qo9 := s30
     -- loop 1: kept [11, 12, 13, 29, 30], varied [3, 31]
     refine W.loop (G := Nat) (fun q σ' w' => (σ' 11 = σ10 11 ∧ σ' 12 = σ10 12 ∧ σ' 13 = σ10 13 ∧ σ' 29 = σ10 29 ∧ σ' 30 = σ10 30 ∧ True) ∧ (∃ S2, σ' 3 = .string S2 ∧ σ' 31 = .int .i64 (q : Int) ∧ sb S2 = ((l.take k).flatMap evT ++ hdT l[k]) ++ (l[k].2.2.take q).flatMap opT ∧ q ≤ l[k].2.2.length ∧ Ch0 w7 w')) (fun q => l[k].2.2.length - q) (0) ⟨⟨rfl, rfl, rfl, rfl, rfl, trivial⟩, _, s3, s31, (by simp [sb_app, sb_bs, hSe, hdT]), by omega, Ch.refl _ _⟩ ?_
     rintro q σ11 w8 ⟨⟨f11, f12, f13, f29, f30, _⟩, S2, s3, s31, hS2e, hqk, hcl2⟩
     have s11 := f11.trans qo5
     have s12 := f12.trans qo6
     have s13 := f13.trans qo7
     have s29 := f29.trans qo8
     have s30 := f30.trans qo9
     refine W.seq ?_
     refine W.region ?_
     refine WL.x (X.lss (s31) (s30)) rfl ?_
     refine WL.e8 Nx.thn 3 11 12 13 29 30 31 32 (lt rfl (s3)) (lt rfl (s11)) (lt rfl (s12)) (lt rfl (s13)) (lt rfl (s29)) (lt rfl (s30)) (lt rfl (s31)) (lh) ?_
     intro σ12 s3 s11 s12 s13 s29 s30 s31 s32
     refine W.seq ?_
     refine W.cndp s32 (fun hq => ?_) (fun hq => ?_)
     ·
      obtain ⟨b2, o2, cs2, T2, fr2, es2, rfl, hml2, hes2, hgl2, hr2⟩ := (hs1.ch0 monOp ((hc6.trans0 hS).trans0 hcl2)).at (k := q) (by omega)
      have hone2 : es2.all (·.oneCell') = true := ROp_one hr2
      have hbl2 : blit (#[.int .i64 0, .string ⟨#[]⟩, .int .i64 0, .slice none 0 0, .bool false, .bool false] : Array Value) 0 es2 = es2.toArray := blit_all hes2
      have hql : q < l[k].2.2.length := by omega
      have hxo := hoe.2.2.2 _ (List.getElem_mem hql)
      have hxl := opT_len hxo
      rw [opT_eq, List.length_cons] at hxl
      have hS2z := sb_len S2
      rw [hS2e] at hS2z
      simp only [List.length_append] at hS2z
      have hopl := ops_len hoe q
      refine W.skip Nx.thn ?_
      refine W.seq ?_
      refine W.block ?_
      refine W.seq ?_
      refine W.region ?_
      refine WL.x (X.indexAddr Tryd.underlying42 el48 (s29) (s31) (by omega) (by omega)) rfl ?_
      refine WL.x (X.loadS ag48 (lh) hml2 hes2 hgl2) rfl ?_
      refine WL.alloc el48 rfl ?_
      intro w9 u10_2; have hu10_2 := u10_2.at_; have cu10_2 := u10_2.ch; have zu10_2 := u10_2.size
      refine WL.storeS ag48 (lh) (lt rfl (lh)) hone2 hes2 hu10_2 (by decide) ?_
      intro w10 us; have hu10_3 := us.at_; have cu10_3 := us.ch
      rw [show (Value.agg #[.int .i64 0, .string ⟨#[]⟩, .int .i64 0, .slice none 0 0, .bool false, .bool false]).cells = (#[.int .i64 0, .string ⟨#[]⟩, .int .i64 0, .slice none 0 0, .bool false, .bool false] : Array Value) from rfl, hbl2] at hu10_3
      have hc10 := cu10_2.trans cu10_3 (H := fun _ => False) (fun _ _ e => e) (fun q hq e => by (try dsimp only at e); omega)
      refine WL.e8 Nx.thn 3 7 11 12 13 29 30 31 (jt2 rfl (lt rfl (s3))) (lh) (jt2 rfl (lt rfl (s11))) (jt2 rfl (lt rfl (s12))) (jt2 rfl (lt rfl (s13))) (jt2 rfl (lt rfl (s29))) (jt2 rfl (lt rfl (s30))) (jt2 rfl (lt rfl (s31))) ?_
      intro σ13 s3 s7 s11 s12 s13 s29 s30 s31
      refine W.region ?_
      refine WL.x (X.mv (s3)) rfl ?_
      refine WL.x (X.loadBox ag48 (lt rfl (s7)) hu10_3 hes2) rfl ?_
      refine WL.call1 ce32 (lh) (rop_ok A (l[k].2.2[q]'hql) es2 w10 (monOp _ _ _ _ _ _ _ hc10 (fun _ _ => id) (fun _ => id) hr2) (hmo _ (List.getElem_mem hql))) rfl ?_
      rintro _ w11 ⟨rfl, cO⟩
      refine WL.x (X.addS lc (lh) (by simp only [ByteArray.size_append, szl, size_bs, List.size_toArray, List.length_cons, List.length_nil, List.length_append]; omega)) rfl ?_
      refine WL.x (X.addS (jt2 rfl (lt rfl (lh))) (lh) (by simp only [ByteArray.size_append, szl, size_bs, List.size_toArray, List.length_cons, List.length_nil, List.length_append]; omega)) rfl ?_
      refine WL.x (X.asg (lh)) rfl ?_
      refine WL.e7 (Nx.blk Nx.thn) 3 11 12 13 29 30 31 (lh) (jt4 rfl (jt2 rfl (s11))) (jt4 rfl (jt2 rfl (s12))) (jt4 rfl (jt2 rfl (s13))) (jt4 rfl (jt2 rfl (s29))) (jt4 rfl (jt2 rfl (s30))) (jt4 rfl (jt2 rfl (s31))) ?_
      intro σ14 s3 s11 s12 s13 s29 s30 s31
      refine W.region ?_
      first | refine WL.x (X.add (s31) lc (by omega) (by omega)) rfl ?_ | refine WL.x (X.addw (s31) lc) rfl ?_
      refine WL.x (X.mv (lh)) rfl ?_
      refine WL.e7 Nx.thn 3 11 12 13 29 30 31 (jt2 rfl (s3)) (jt2 rfl (s11)) (jt2 rfl (s12)) (jt2 rfl (s13)) (jt2 rfl (s29)) (jt2 rfl (s30)) (lh) ?_
      intro σ15 s3 s11 s12 s13 s29 s30 s31
      refine ⟨q + 1, by omega, ⟨s11.trans qo5.symm, s12.trans qo6.symm, s13.trans qo7.symm, s29.trans qo8.symm, s30.trans qo9.symm, trivial⟩, _, s3, s31, (by rw [fm_take hql, sb_app, sb_app, hS2e, sb_bs, sb_mk, opT_eq]; simp only [List.append_assoc]; rfl), by omega, (hcl2.trans0 hc10).trans0 cO⟩
     ·
      have hS2z := sb_len S2
      rw [hS2e] at hS2z
      simp only [List.length_append] at hS2z
      have hopl := ops_len hoe q
      refine W.exit (Nx.xthn (Nx.xthn (Nx.xblk Nx.thn))) ?_
      refine W.region ?_
      refine WL.x (X.mv (s3)) rfl ?_
      refine WL.x (X.addS (lh) lc (by simp only [ByteArray.size_append, szl, size_bs, List.size_toArray, List.length_cons, List.length_nil, List.length_append]; omega)) rfl ?_
      refine WL.x (X.asg (lh)) rfl ?_
      refine WL.e4 (Nx.blk Nx.thn) 3 11 12 13 (lh) (jt2 rfl (lt rfl (s11))) (jt2 rfl (lt rfl (s12))) (jt2 rfl (lt rfl (s13))) ?_
      intro σ16 s3 s11 s12 s13
      refine W.region ?_
      first | refine WL.x (X.add (s13) lc (by omega) (by omega)) rfl ?_ | refine WL.x (X.addw (s13) lc) rfl ?_
      refine WL.x (X.mv (lh)) rfl ?_
      refine WL.e4 Nx.thn 3 11 12 13 (jt2 rfl (s3)) (jt2 rfl (s11)) (jt2 rfl (s12)) (lh) ?_
      intro σ17 s3 s11 s12 s13
      refine ⟨k + 1, by omega, ⟨s11.trans qo1.symm, s12.trans qo2.symm, trivial⟩, _, s3, s13, (by rw [fm_take hkl, sb_app, hS2e, sb_mk, show q = l[k].2.2.length by omega, List.take_length]; unfold evT; simp only [List.append_assoc]), by omega, ((hcl.trans0 hc6).trans0 hS).trans0 hcl2⟩
    ·
     refine WL.call1 ce31 (jt2 rfl (lh)) (decimal_ok l[k].2.1 w6 (by omega) (by omega)) rfl ?_
     rintro _ w12 ⟨rfl, cD⟩
     have hS := hS.trans cD (fun _ _ => id) (by intro i hi hg; first | exact hg | exact False.elim hg | omega | ((try dsimp only at hg ⊢); omega))
     refine WL.nil Nx.thn ⟨hS, ?_⟩
     refine WH.one 5 rfl (by kernel_rfl) (fun _ _ h => h) ?_
     refine WL.x (X.load pl9 (lt rfl (lh)) (by first | exact hu7_1 | exact cD.at0 hu7_1) (v := .string (bs (wordE l[k].1 ++ [32]))) (ewb hek.1 hek.2.1)) rfl ?_
     refine WL.nil Nx.thn ⟨hS, ?_⟩
     refine WH.take 9 rfl (by kernel_rfl) (by kernel_rfl) (by kernel_rfl) (fun _ _ _ h => h) Gd.none rfl (fun w' hS' => X.addS (lh) (lt rfl (lh)) (by simp only [ByteArray.size_append, szl, size_bs, List.size_toArray, List.length_cons, List.length_nil, List.length_append]; omega)) hS ?_
     refine WH.take 10 rfl (by kernel_rfl) (by kernel_rfl) (by kernel_rfl) (fun _ _ _ h => h) Gd.none rfl (fun w' hS' => X.addS (jt8 rfl (lt rfl (lh))) (lh) (by simp only [ByteArray.size_append, szl, size_bs, List.size_toArray, List.length_cons, List.length_nil, List.length_append]; omega)) hS ?_
     refine WH.take 11 rfl (by kernel_rfl) (by kernel_rfl) (by kernel_rfl) (fun _ _ _ h => h) Gd.none rfl (fun w' hS' => X.asg (lh)) hS ?_
     refine WH.done (by kernel_rfl) ?_
     refine WL.e5 Nx.thn 3 5 11 12 13 (lh) (jt8 rfl (jt4 rfl (s5))) (jt8 rfl (jt4 rfl (s11))) (jt8 rfl (jt4 rfl (s12))) (jt8 rfl (jt4 rfl (s13))) ?_
     intro σ18 s3 s5 s11 s12 s13
     refine W.seq ?_
     refine W.seq ?_
     refine W.region ?_
     refine WL.x (X.fieldAddr fd44_2 (s5)) rfl ?_
     refine WL.x (v := .slice va1 l[k].2.2.length vc1) (X.load pl42 (lh) (by first | assumption | exact hS.at (by assumption) (by intro hne; first | exact hne | ((try dsimp only at hne); omega)) | exact hS.at (cu6_3.at (by assumption) (by intro hne; first | exact hne | ((try dsimp only at hne); omega))) (by intro hne; first | exact hne | ((try dsimp only at hne); omega))) rfl) rfl ?_
     refine WL.x (X.lenSl Tryd.underlying42 (lh)) rfl ?_
     refine WL.x (X.mv lc) rfl ?_
     refine WL.e7 Nx.thn 3 11 12 13 29 30 31 (jt4 rfl (s3)) (jt4 rfl (s11)) (jt4 rfl (s12)) (jt4 rfl (s13)) (jt2 rfl (lh)) (lt rfl (lh)) (lh) ?_
     intro σ19 s3 s11 s12 s13 s29 s30 s31
     refine W.block ?_
     have qo10 := s11
     have qo11 := s12
     have qo12 := s13
     have qo13 := s29
     have qo14 := s30
     -- loop 1: kept [11, 12, 13, 29, 30], varied [3, 31]
     refine W.loop (G := Nat) (fun q σ' w' => (σ' 11 = σ19 11 ∧ σ' 12 = σ19 12 ∧ σ' 13 = σ19 13 ∧ σ' 29 = σ19 29 ∧ σ' 30 = σ19 30 ∧ True) ∧ (∃ S2, σ' 3 = .string S2 ∧ σ' 31 = .int .i64 (q : Int) ∧ sb S2 = ((l.take k).flatMap evT ++ hdT l[k]) ++ (l[k].2.2.take q).flatMap opT ∧ q ≤ l[k].2.2.length ∧ Ch0 w12 w')) (fun q => l[k].2.2.length - q) (0) ⟨⟨rfl, rfl, rfl, rfl, rfl, trivial⟩, _, s3, s31, (by simp [sb_app, sb_bs, hSe, hdT]), by omega, Ch.refl _ _⟩ ?_
     rintro q σ20 w13 ⟨⟨f11, f12, f13, f29, f30, _⟩, S2, s3, s31, hS2e, hqk, hcl2⟩
     have s11 := f11.trans qo10
     have s12 := f12.trans qo11
     have s13 := f13.trans qo12
     have s29 := f29.trans qo13
     have s30 := f30.trans qo14
     refine W.seq ?_
     refine W.region ?_
     refine WL.x (X.lss (s31) (s30)) rfl ?_
     refine WL.e8 Nx.thn 3 11 12 13 29 30 31 32 (lt rfl (s3)) (lt rfl (s11)) (lt rfl (s12)) (lt rfl (s13)) (lt rfl (s29)) (lt rfl (s30)) (lt rfl (s31)) (lh) ?_
     intro σ21 s3 s11 s12 s13 s29 s30 s31 s32
     refine W.seq ?_
     refine W.cndp s32 (fun hq => ?_) (fun hq => ?_)
     ·
      obtain ⟨b2, o2, cs2, T2, fr2, es2, rfl, hml2, hes2, hgl2, hr2⟩ := (hs1.ch0 monOp ((hc6.trans0 hS).trans0 hcl2)).at (k := q) (by omega)
      have hone2 : es2.all (·.oneCell') = true := ROp_one hr2
      have hbl2 : blit (#[.int .i64 0, .string ⟨#[]⟩, .int .i64 0, .slice none 0 0, .bool false, .bool false] : Array Value) 0 es2 = es2.toArray := blit_all hes2
      have hql : q < l[k].2.2.length := by omega
      have hxo := hoe.2.2.2 _ (List.getElem_mem hql)
      have hxl := opT_len hxo
      rw [opT_eq, List.length_cons] at hxl
      have hS2z := sb_len S2
      rw [hS2e] at hS2z
      simp only [List.length_append] at hS2z
      have hopl := ops_len hoe q
      refine W.skip Nx.thn ?_
      refine W.seq ?_
      refine W.block ?_
      refine W.seq ?_
      refine W.region ?_
      refine WL.x (X.indexAddr Tryd.underlying42 el48 (s29) (s31) (by omega) (by omega)) rfl ?_
      refine WL.x (X.loadS ag48 (lh) hml2 hes2 hgl2) rfl ?_
      refine WL.alloc el48 rfl ?_
      intro w14 u10_2; have hu10_2 := u10_2.at_; have cu10_2 := u10_2.ch; have zu10_2 := u10_2.size
      refine WL.storeS ag48 (lh) (lt rfl (lh)) hone2 hes2 hu10_2 (by decide) ?_
      intro w15 us; have hu10_3 := us.at_; have cu10_3 := us.ch
      rw [show (Value.agg #[.int .i64 0, .string ⟨#[]⟩, .int .i64 0, .slice none 0 0, .bool false, .bool false]).cells = (#[.int .i64 0, .string ⟨#[]⟩, .int .i64 0, .slice none 0 0, .bool false, .bool false] : Array Value) from rfl, hbl2] at hu10_3
      have hc10 := cu10_2.trans cu10_3 (H := fun _ => False) (fun _ _ e => e) (fun q hq e => by (try dsimp only at e); omega)
      refine WL.e8 Nx.thn 3 7 11 12 13 29 30 31 (jt2 rfl (lt rfl (s3))) (lh) (jt2 rfl (lt rfl (s11))) (jt2 rfl (lt rfl (s12))) (jt2 rfl (lt rfl (s13))) (jt2 rfl (lt rfl (s29))) (jt2 rfl (lt rfl (s30))) (jt2 rfl (lt rfl (s31))) ?_
      intro σ22 s3 s7 s11 s12 s13 s29 s30 s31
      refine W.region ?_
      refine WL.x (X.mv (s3)) rfl ?_
      refine WL.x (X.loadBox ag48 (lt rfl (s7)) hu10_3 hes2) rfl ?_
      refine WL.call1 ce32 (lh) (rop_ok A (l[k].2.2[q]'hql) es2 w15 (monOp _ _ _ _ _ _ _ hc10 (fun _ _ => id) (fun _ => id) hr2) (hmo _ (List.getElem_mem hql))) rfl ?_
      rintro _ w16 ⟨rfl, cO⟩
      refine WL.x (X.addS lc (lh) (by simp only [ByteArray.size_append, szl, size_bs, List.size_toArray, List.length_cons, List.length_nil, List.length_append]; omega)) rfl ?_
      refine WL.x (X.addS (jt2 rfl (lt rfl (lh))) (lh) (by simp only [ByteArray.size_append, szl, size_bs, List.size_toArray, List.length_cons, List.length_nil, List.length_append]; omega)) rfl ?_
      refine WL.x (X.asg (lh)) rfl ?_
      refine WL.e7 (Nx.blk Nx.thn) 3 11 12 13 29 30 31 (lh) (jt4 rfl (jt2 rfl (s11))) (jt4 rfl (jt2 rfl (s12))) (jt4 rfl (jt2 rfl (s13))) (jt4 rfl (jt2 rfl (s29))) (jt4 rfl (jt2 rfl (s30))) (jt4 rfl (jt2 rfl (s31))) ?_
      intro σ23 s3 s11 s12 s13 s29 s30 s31
      refine W.region ?_
      first | refine WL.x (X.add (s31) lc (by omega) (by omega)) rfl ?_ | refine WL.x (X.addw (s31) lc) rfl ?_
      refine WL.x (X.mv (lh)) rfl ?_
      refine WL.e7 Nx.thn 3 11 12 13 29 30 31 (jt2 rfl (s3)) (jt2 rfl (s11)) (jt2 rfl (s12)) (jt2 rfl (s13)) (jt2 rfl (s29)) (jt2 rfl (s30)) (lh) ?_
      intro σ24 s3 s11 s12 s13 s29 s30 s31
      refine ⟨q + 1, by omega, ⟨s11.trans qo10.symm, s12.trans qo11.symm, s13.trans qo12.symm, s29.trans qo13.symm, s30.trans qo14.symm, trivial⟩, _, s3, s31, (by rw [fm_take hql, sb_app, sb_app, hS2e, sb_bs, sb_mk, opT_eq]; simp only [List.append_assoc]; rfl), by omega, (hcl2.trans0 hc10).trans0 cO⟩
     ·
      have hS2z := sb_len S2
      rw [hS2e] at hS2z
      simp only [List.length_append] at hS2z
      have hopl := ops_len hoe q
      refine W.exit (Nx.xthn (Nx.xthn (Nx.xblk Nx.thn))) ?_
      refine W.region ?_
      refine WL.x (X.mv (s3)) rfl ?_
      refine WL.x (X.addS (lh) lc (by simp only [ByteArray.size_append, szl, size_bs, List.size_toArray, List.length_cons, List.length_nil, List.length_append]; omega)) rfl ?_
      refine WL.x (X.asg (lh)) rfl ?_
      refine WL.e4 (Nx.blk Nx.thn) 3 11 12 13 (lh) (jt2 rfl (lt rfl (s11))) (jt2 rfl (lt rfl (s12))) (jt2 rfl (lt rfl (s13))) ?_
      intro σ25 s3 s11 s12 s13
      refine W.region ?_
      first | refine WL.x (X.add (s13) lc (by omega) (by omega)) rfl ?_ | refine WL.x (X.addw (s13) lc) rfl ?_
      refine WL.x (X.mv (lh)) rfl ?_
      refine WL.e4 Nx.thn 3 11 12 13 (jt2 rfl (s3)) (jt2 rfl (s11)) (jt2 rfl (s12)) (lh) ?_
      intro σ26 s3 s11 s12 s13
      refine ⟨k + 1, by omega, ⟨s11.trans qo1.symm, s12.trans qo2.symm, trivial⟩, _, s3, s13, (by rw [fm_take hkl, sb_app, hS2e, sb_mk, show q = l[k].2.2.length by omega, List.take_length]; unfold evT; simp only [List.append_assoc]), by omega, ((hcl.trans0 hc6).trans0 hS).trans0 hcl2⟩
   ·
    refine WL.call1 ce31 (lh) (decimal_ok l[k].2.1 w5 (by omega) (by omega)) rfl ?_
    rintro _ w17 ⟨rfl, cD⟩
    have hS := hS.trans cD (fun _ _ => id) (by intro i hi hg; first | exact hg | exact False.elim hg | omega | ((try dsimp only at hg ⊢); omega))
    refine WL.nil Nx.thn ⟨hS, ?_⟩
    refine WH.one 1 rfl (by kernel_rfl) (fun _ _ h => h) ?_
    refine WL.bslice Tryd.underlying36 el9 rfl (pcons lc (pcons lc (pcons lc (pcons lc (pcons lc pnil))))) rfl (rfl : _ = [_, _, _, _, _]) rfl ?_
    intro w18 u7_1; have hu7_1 := u7_1.at_; have cu7_1 := u7_1.ch; have zu7_1 := u7_1.size
    have hS := hS.trans cu7_1 (fun _ _ => id) (by intro i hi hg; first | exact hg | exact False.elim hg | omega | ((try dsimp only at hg ⊢); omega))
    refine WL.nil Nx.thn ⟨hS, ?_⟩
    refine WH.take 4 rfl (by kernel_rfl) (by kernel_rfl) (by kernel_rfl) (fun _ _ _ h => h) Gd.none rfl (fun w' hS' => X.indexAddr Tryd.underlying36 el9 (lh) (jt4 rfl (lh)) (by omega) (by omega)) hS ?_
    refine WH.one 5 rfl (by kernel_rfl) (fun _ _ h => h) ?_
    refine WL.x (X.load pl9 (lh) (by first | exact hu7_1 | exact cD.at0 hu7_1) (v := .string (bs (wordE l[k].1 ++ [32]))) (ewb hek.1 hek.2.1)) rfl ?_
    refine WL.nil Nx.thn ⟨hS, ?_⟩
    refine WH.take 9 rfl (by kernel_rfl) (by kernel_rfl) (by kernel_rfl) (fun _ _ _ h => h) Gd.none rfl (fun w' hS' => X.addS (lh) (jt2 rfl (lt rfl (lh))) (by simp only [ByteArray.size_append, szl, size_bs, List.size_toArray, List.length_cons, List.length_nil, List.length_append]; omega)) hS ?_
    refine WH.take 10 rfl (by kernel_rfl) (by kernel_rfl) (by kernel_rfl) (fun _ _ _ h => h) Gd.none rfl (fun w' hS' => X.addS (jt8 rfl (lt rfl (lh))) (lh) (by simp only [ByteArray.size_append, szl, size_bs, List.size_toArray, List.length_cons, List.length_nil, List.length_append]; omega)) hS ?_
    refine WH.take 11 rfl (by kernel_rfl) (by kernel_rfl) (by kernel_rfl) (fun _ _ _ h => h) Gd.none rfl (fun w' hS' => X.asg (lh)) hS ?_
    refine WH.done (by kernel_rfl) ?_
    refine WL.e5 Nx.thn 3 5 11 12 13 (lh) (jt8 rfl (jt4 rfl (s5))) (jt8 rfl (jt4 rfl (s11))) (jt8 rfl (jt4 rfl (s12))) (jt8 rfl (jt4 rfl (s13))) ?_
    intro σ27 s3 s5 s11 s12 s13
    refine W.seq ?_
    refine W.seq ?_
    refine W.region ?_
    refine WL.x (X.fieldAddr fd44_2 (s5)) rfl ?_
    refine WL.x (v := .slice va1 l[k].2.2.length vc1) (X.load pl42 (lh) (by first | assumption | exact hS.at (by assumption) (by intro hne; first | exact hne | ((try dsimp only at hne); omega)) | exact hS.at (cu6_3.at (by assumption) (by intro hne; first | exact hne | ((try dsimp only at hne); omega))) (by intro hne; first | exact hne | ((try dsimp only at hne); omega))) rfl) rfl ?_
    refine WL.x (X.lenSl Tryd.underlying42 (lh)) rfl ?_
    refine WL.x (X.mv lc) rfl ?_
    refine WL.e7 Nx.thn 3 11 12 13 29 30 31 (jt4 rfl (s3)) (jt4 rfl (s11)) (jt4 rfl (s12)) (jt4 rfl (s13)) (jt2 rfl (lh)) (lt rfl (lh)) (lh) ?_
    intro σ28 s3 s11 s12 s13 s29 s30 s31
    refine W.block ?_
    have qo15 := s11
    have qo16 := s12
    have qo17 := s13
    have qo18 := s29
    have qo19 := s30
    -- loop 1: kept [11, 12, 13, 29, 30], varied [3, 31]
    refine W.loop (G := Nat) (fun q σ' w' => (σ' 11 = σ28 11 ∧ σ' 12 = σ28 12 ∧ σ' 13 = σ28 13 ∧ σ' 29 = σ28 29 ∧ σ' 30 = σ28 30 ∧ True) ∧ (∃ S2, σ' 3 = .string S2 ∧ σ' 31 = .int .i64 (q : Int) ∧ sb S2 = ((l.take k).flatMap evT ++ hdT l[k]) ++ (l[k].2.2.take q).flatMap opT ∧ q ≤ l[k].2.2.length ∧ Ch0 w18 w')) (fun q => l[k].2.2.length - q) (0) ⟨⟨rfl, rfl, rfl, rfl, rfl, trivial⟩, _, s3, s31, (by simp [sb_app, sb_bs, hSe, hdT]), by omega, Ch.refl _ _⟩ ?_
    rintro q σ29 w19 ⟨⟨f11, f12, f13, f29, f30, _⟩, S2, s3, s31, hS2e, hqk, hcl2⟩
    have s11 := f11.trans qo15
    have s12 := f12.trans qo16
    have s13 := f13.trans qo17
    have s29 := f29.trans qo18
    have s30 := f30.trans qo19
    refine W.seq ?_
    refine W.region ?_
    refine WL.x (X.lss (s31) (s30)) rfl ?_
    refine WL.e8 Nx.thn 3 11 12 13 29 30 31 32 (lt rfl (s3)) (lt rfl (s11)) (lt rfl (s12)) (lt rfl (s13)) (lt rfl (s29)) (lt rfl (s30)) (lt rfl (s31)) (lh) ?_
    intro σ30 s3 s11 s12 s13 s29 s30 s31 s32
    refine W.seq ?_
    refine W.cndp s32 (fun hq => ?_) (fun hq => ?_)
    ·
     obtain ⟨b2, o2, cs2, T2, fr2, es2, rfl, hml2, hes2, hgl2, hr2⟩ := (hs1.ch0 monOp ((hc6.trans0 hS).trans0 hcl2)).at (k := q) (by omega)
     have hone2 : es2.all (·.oneCell') = true := ROp_one hr2
     have hbl2 : blit (#[.int .i64 0, .string ⟨#[]⟩, .int .i64 0, .slice none 0 0, .bool false, .bool false] : Array Value) 0 es2 = es2.toArray := blit_all hes2
     have hql : q < l[k].2.2.length := by omega
     have hxo := hoe.2.2.2 _ (List.getElem_mem hql)
     have hxl := opT_len hxo
     rw [opT_eq, List.length_cons] at hxl
     have hS2z := sb_len S2
     rw [hS2e] at hS2z
     simp only [List.length_append] at hS2z
     have hopl := ops_len hoe q
     refine W.skip Nx.thn ?_
     refine W.seq ?_
     refine W.block ?_
     refine W.seq ?_
     refine W.region ?_
     refine WL.x (X.indexAddr Tryd.underlying42 el48 (s29) (s31) (by omega) (by omega)) rfl ?_
     refine WL.x (X.loadS ag48 (lh) hml2 hes2 hgl2) rfl ?_
     refine WL.alloc el48 rfl ?_
     intro w20 u10_2; have hu10_2 := u10_2.at_; have cu10_2 := u10_2.ch; have zu10_2 := u10_2.size
     refine WL.storeS ag48 (lh) (lt rfl (lh)) hone2 hes2 hu10_2 (by decide) ?_
     intro w21 us; have hu10_3 := us.at_; have cu10_3 := us.ch
     rw [show (Value.agg #[.int .i64 0, .string ⟨#[]⟩, .int .i64 0, .slice none 0 0, .bool false, .bool false]).cells = (#[.int .i64 0, .string ⟨#[]⟩, .int .i64 0, .slice none 0 0, .bool false, .bool false] : Array Value) from rfl, hbl2] at hu10_3
     have hc10 := cu10_2.trans cu10_3 (H := fun _ => False) (fun _ _ e => e) (fun q hq e => by (try dsimp only at e); omega)
     refine WL.e8 Nx.thn 3 7 11 12 13 29 30 31 (jt2 rfl (lt rfl (s3))) (lh) (jt2 rfl (lt rfl (s11))) (jt2 rfl (lt rfl (s12))) (jt2 rfl (lt rfl (s13))) (jt2 rfl (lt rfl (s29))) (jt2 rfl (lt rfl (s30))) (jt2 rfl (lt rfl (s31))) ?_
     intro σ31 s3 s7 s11 s12 s13 s29 s30 s31
     refine W.region ?_
     refine WL.x (X.mv (s3)) rfl ?_
     refine WL.x (X.loadBox ag48 (lt rfl (s7)) hu10_3 hes2) rfl ?_
     refine WL.call1 ce32 (lh) (rop_ok A (l[k].2.2[q]'hql) es2 w21 (monOp _ _ _ _ _ _ _ hc10 (fun _ _ => id) (fun _ => id) hr2) (hmo _ (List.getElem_mem hql))) rfl ?_
     rintro _ w22 ⟨rfl, cO⟩
     refine WL.x (X.addS lc (lh) (by simp only [ByteArray.size_append, szl, size_bs, List.size_toArray, List.length_cons, List.length_nil, List.length_append]; omega)) rfl ?_
     refine WL.x (X.addS (jt2 rfl (lt rfl (lh))) (lh) (by simp only [ByteArray.size_append, szl, size_bs, List.size_toArray, List.length_cons, List.length_nil, List.length_append]; omega)) rfl ?_
     refine WL.x (X.asg (lh)) rfl ?_
     refine WL.e7 (Nx.blk Nx.thn) 3 11 12 13 29 30 31 (lh) (jt4 rfl (jt2 rfl (s11))) (jt4 rfl (jt2 rfl (s12))) (jt4 rfl (jt2 rfl (s13))) (jt4 rfl (jt2 rfl (s29))) (jt4 rfl (jt2 rfl (s30))) (jt4 rfl (jt2 rfl (s31))) ?_
     intro σ32 s3 s11 s12 s13 s29 s30 s31
     refine W.region ?_
     first | refine WL.x (X.add (s31) lc (by omega) (by omega)) rfl ?_ | refine WL.x (X.addw (s31) lc) rfl ?_
     refine WL.x (X.mv (lh)) rfl ?_
     refine WL.e7 Nx.thn 3 11 12 13 29 30 31 (jt2 rfl (s3)) (jt2 rfl (s11)) (jt2 rfl (s12)) (jt2 rfl (s13)) (jt2 rfl (s29)) (jt2 rfl (s30)) (lh) ?_
     intro σ33 s3 s11 s12 s13 s29 s30 s31
     refine ⟨q + 1, by omega, ⟨s11.trans qo15.symm, s12.trans qo16.symm, s13.trans qo17.symm, s29.trans qo18.symm, s30.trans qo19.symm, trivial⟩, _, s3, s31, (by rw [fm_take hql, sb_app, sb_app, hS2e, sb_bs, sb_mk, opT_eq]; simp only [List.append_assoc]; rfl), by omega, (hcl2.trans0 hc10).trans0 cO⟩
    ·
     have hS2z := sb_len S2
     rw [hS2e] at hS2z
     simp only [List.length_append] at hS2z
     have hopl := ops_len hoe q
     refine W.exit (Nx.xthn (Nx.xthn (Nx.xblk Nx.thn))) ?_
     refine W.region ?_
     refine WL.x (X.mv (s3)) rfl ?_
     refine WL.x (X.addS (lh) lc (by simp only [ByteArray.size_append, szl, size_bs, List.size_toArray, List.length_cons, List.length_nil, List.length_append]; omega)) rfl ?_
     refine WL.x (X.asg (lh)) rfl ?_
     refine WL.e4 (Nx.blk Nx.thn) 3 11 12 13 (lh) (jt2 rfl (lt rfl (s11))) (jt2 rfl (lt rfl (s12))) (jt2 rfl (lt rfl (s13))) ?_
     intro σ34 s3 s11 s12 s13
     refine W.region ?_
     first | refine WL.x (X.add (s13) lc (by omega) (by omega)) rfl ?_ | refine WL.x (X.addw (s13) lc) rfl ?_
     refine WL.x (X.mv (lh)) rfl ?_
     refine WL.e4 Nx.thn 3 11 12 13 (jt2 rfl (s3)) (jt2 rfl (s11)) (jt2 rfl (s12)) (lh) ?_
     intro σ35 s3 s11 s12 s13
     refine ⟨k + 1, by omega, ⟨s11.trans qo1.symm, s12.trans qo2.symm, trivial⟩, _, s3, s13, (by rw [fm_take hkl, sb_app, hS2e, sb_mk, show q = l[k].2.2.length by omega, List.take_length]; unfold evT; simp only [List.append_assoc]), by omega, ((hcl.trans0 hc6).trans0 hS).trans0 hcl2⟩
  ·
   refine W.exit (Nx.xthn (Nx.xthn (Nx.xblk Nx.thn))) ?_
   refine W.seq ?_
   refine W.region ?_
   refine WL.x (X.mv (s3)) rfl ?_
   refine WL.x (X.asg (lh)) rfl ?_
   refine WL.e1 Nx.thn 2 (lh) ?_
   intro σ36 s2
   refine W.ret1 Nx.f1 s2 ?_
   first | exact ⟨by unfold prT; rw [if_neg (by simpa using hc0)]; rfl, c0⟩ | exact ⟨by unfold prT; rw [if_pos hcan]; exact fin_str (by rw [hSe, sb_bs, show k = l.length by omega, List.take_length]), hcl⟩
theorem rprint_ok (A : Nat → Prop) (v1 : Value) (l : List GEv) (w : World) (h : RSl 3 REv A w v1 l) (hl : l.length ≤ 140737488355328) : Sg.Ret Tryd.prog 11 #[v1] w fun v w' => v = .string (bs (prT l)) ∧ Ch0 w w' := by
  obtain ⟨a, c, rfl, h⟩ := h.at'
  exact rprint_walk A a c l w h hl

end Go.Proofs.YtjnkpjehpdlcbaaDoor
