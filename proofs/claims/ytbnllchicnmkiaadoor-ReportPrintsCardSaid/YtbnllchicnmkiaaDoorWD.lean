/-
  A part of the walk of the program.
-/
import Derived.Test.YtbnllchicnmkiaaDoorWP
import Derived.Test.YtbnllchicnmkiaaDoorSE
set_option linter.unusedVariables false
set_option linter.unusedSimpArgs false
set_option maxRecDepth 100000
namespace Go.Proofs.YtbnllchicnmkiaaDoor
open Go Go.RowKit Sg
theorem fd40_1 : Sg.Fld Tryd.prog 40 1 1 := ⟨_, _, _, rfl, rfl, rfl, rfl, by decide⟩
theorem fd40_2 : Sg.Fld Tryd.prog 40 2 2 := ⟨_, _, _, rfl, rfl, rfl, rfl, by decide⟩
theorem fd40_3 : Sg.Fld Tryd.prog 40 3 3 := ⟨_, _, _, rfl, rfl, rfl, rfl, by decide⟩
theorem fd40_5 : Sg.Fld Tryd.prog 40 5 5 := ⟨_, _, _, rfl, rfl, rfl, rfl, by decide⟩
theorem fd40_7 : Sg.Fld Tryd.prog 40 7 7 := ⟨_, _, _, rfl, rfl, rfl, rfl, by decide⟩
theorem fd45_0 : Sg.Fld Tryd.prog 45 0 0 := ⟨_, _, _, rfl, rfl, rfl, rfl, by decide⟩
theorem fd45_1 : Sg.Fld Tryd.prog 45 1 1 := ⟨_, _, _, rfl, rfl, rfl, rfl, by decide⟩
theorem fd45_4 : Sg.Fld Tryd.prog 45 4 4 := ⟨_, _, _, rfl, rfl, rfl, rfl, by decide⟩
theorem fd45_5 : Sg.Fld Tryd.prog 45 5 5 := ⟨_, _, _, rfl, rfl, rfl, rfl, by decide⟩
theorem fd45_6 : Sg.Fld Tryd.prog 45 6 6 := ⟨_, _, _, rfl, rfl, rfl, rfl, by decide⟩
theorem fd45_7 : Sg.Fld Tryd.prog 45 7 7 := ⟨_, _, _, rfl, rfl, rfl, rfl, by decide⟩
theorem ce42 : Sg.Callee Tryd.prog 42 := ⟨_, Tryd.func42, by decide, rfl⟩
theorem ce34 : Sg.Callee Tryd.prog 34 := ⟨_, Tryd.func34, by decide, rfl⟩
theorem ce30 : Sg.Callee Tryd.prog 30 := ⟨_, Tryd.func30, by decide, rfl⟩
theorem ce31 : Sg.Callee Tryd.prog 31 := ⟨_, Tryd.func31, by decide, rfl⟩
theorem ce16 : Sg.Callee Tryd.prog 16 := ⟨_, Tryd.func16, by decide, rfl⟩
theorem ce32 : Sg.Callee Tryd.prog 32 := ⟨_, Tryd.func32, by decide, rfl⟩
theorem ce17 : Sg.Callee Tryd.prog 17 := ⟨_, Tryd.func17, by decide, rfl⟩
theorem ce19 : Sg.Callee Tryd.prog 19 := ⟨_, Tryd.func19, by decide, rfl⟩

theorem dd_len {u : Nat} (h : u ≤ 9223372036854775808) : (Lib.decDigits u).length ≤ 21 := by
  by_cases h0 : u = 0
  · subst h0; rw [dd_zero]; decide
  · have := Lib.itoa_length_le (-(u : Int)) (by omega) (by omega)
    rw [Lib.itoa_neg u (by omega), List.length_cons] at this
    omega
theorem itoa_len {n : Int} (h1 : -9223372036854775808 ≤ n) (h2 : n ≤ 9223372036854775807) : (Lib.itoa n).length ≤ 21 := Lib.itoa_length_le n h1 h2
/-- What is left of the number, and what is written of it. -/
def DD (u m : Nat) (r : Bs) : Prop := (r = [] ∧ m = u) ∨ (r ≠ [] ∧ Lib.decDigits u = (if m = 0 then [] else Lib.decDigits m) ++ r)
theorem DD.len {u m : Nat} {r : Bs} (h : DD u m r) (hu : u ≤ 9223372036854775808) : r.length ≤ 21 ∧ m ≤ u ∨ r.length ≤ 21 := by
  rcases h with ⟨rfl, _⟩ | ⟨_, h⟩
  · exact .inr (by simp)
  · have h1 := dd_len hu
    rw [h, List.length_append] at h1
    exact .inr (by omega)
theorem DD.next {u m : Nat} {r : Bs} (h : DD u m r) (hm : m ≠ 0 ∨ r = []) : DD u (m / 10) (UInt8.ofNat (48 + m % 10) :: r) := by
  refine .inr ⟨by simp, ?_⟩
  have key : Lib.decDigits m = (if m / 10 = 0 then [] else Lib.decDigits (m / 10)) ++ [UInt8.ofNat (48 + m % 10)] := by
    by_cases h10 : m < 10
    · rw [if_pos (by omega), dd_small h10, Nat.mod_eq_of_lt h10]; rfl
    · rw [if_neg (by omega), dd_big h10]
  rcases h with ⟨rfl, rfl⟩ | ⟨h1, h2⟩
  · exact key
  · have hm' : m ≠ 0 := hm.resolve_right h1
    rw [h2, if_neg hm', key, List.append_assoc]; rfl
theorem DD.fin {u : Nat} {r : Bs} (h : DD u 0 r) (hr : r ≠ []) : r = Lib.decDigits u := by
  rcases h with ⟨h1, _⟩ | ⟨_, h2⟩
  · exact absurd h1 hr
  · rw [h2, if_pos rfl]; rfl

set_option maxHeartbeats 800000 in
theorem digits_ok (u : Nat) (w : World) (hu : u ≤ 9223372036854775808) :
  Sg.Ret Tryd.prog 42 #[.int .i64 (-(u : Int))] w fun v w' => v = .string (bs (Lib.decDigits u)) ∧ Ch0 w w' := by
 refine enter1 (n := 21) (l := [.int .i64 (-(u : Int))]) Tryd.func42 rfl rfl rfl rfl ?_
 refine W.g1 0 (v1 := .int .i64 (-(u : Int))) rfl ?_; intro σ s0
 refine W.seq ?_
 refine W.region ?_
 refine WL.x (X.asg lc) rfl ?_
 refine WL.e1 Nx.thn 0 (lt rfl (s0)) ?_
 intro σ1 s0
 refine W.seq ?_
 refine W.region ?_
 refine WL.x (X.asg lc) rfl ?_
 refine WL.e2 Nx.thn 0 3 (lt rfl (s0)) (lh) ?_
 intro σ2 s0 s3
 refine W.seq ?_
 refine W.block ?_
 -- loop 0: kept [], varied [0, 3]
 refine W.loop (G := Nat × Bs) (fun (m, r) σ' w' => (True) ∧ (σ' 0 = .int .i64 (-(m : Int)) ∧ σ' 3 = .string (bs r) ∧ DD u m r ∧ m ≤ u ∧ Ch0 w w')) (fun (m, r) => m + (if r = [] then 1 else 0)) ((u, [])) ⟨trivial, s0, s3, .inl ⟨rfl, rfl⟩, Nat.le_refl _, Ch.refl _ _⟩ ?_
 rintro ⟨m, r⟩ σ3 w1 ⟨⟨_⟩, s0, s3, hdd, hmu, hcl⟩
 have hrl : r.length ≤ 21 := by rcases hdd.len hu with h | h; (· exact h.1); (· exact h)
 refine W.seq ?_
 refine W.seq ?_
 refine W.region ?_
 refine WL.x (X.mv (s0)) rfl ?_
 refine WL.x (X.lss (lh) lc) rfl ?_
 refine WL.x (X.mv (lh)) rfl ?_
 refine WL.splitp (lh) (fun h0 => ?_) (fun h0 => ?_)
 ·
  refine WL.no rfl rfl (lh) (decide_eq_true h0) rfl ?_
  refine WL.no rfl rfl (lt rfl (lh)) (decide_eq_true h0) rfl ?_
  refine WL.x (X.pickT (jt2 rfl (lh)) (decide_eq_true h0) lc) rfl ?_
  refine WL.e3 Nx.thn 0 3 9 (jt4 rfl (jt2 rfl (s0))) (jt4 rfl (jt2 rfl (s3))) (lh) ?_
  intro σ4 s0 s3 s9
  refine W.cndT s9 ?_
  refine W.skip Nx.thn ?_
  refine W.block ?_
  refine W.seq ?_
  refine W.region ?_
  refine WL.x (X.mv (s0)) rfl ?_
  refine WL.x (X.neg_rem (lh) lc) rfl ?_
  first | refine WL.x (X.sub lc (lh) (by omega) (by omega)) rfl ?_ | refine WL.x (X.subw lc (lh)) rfl ?_
  first | refine WL.x (X.convi Tryd.underlying3 Tryd.underlying5 (lh) (wrap_u8_in (by omega) (by omega))) rfl ?_ | refine WL.x (X.conv Tryd.underlying3 Tryd.underlying5 (lh)) rfl ?_
  refine WL.bslice Tryd.underlying31 el5 rfl (pcons (lh) pnil) rfl (rfl : _ = [_]) rfl ?_
  intro w2 u3_4; have hu3_4 := u3_4.at_; have cu3_4 := u3_4.ch; have zu3_4 := u3_4.size
  refine WL.x (v := .string (bs [UInt8.ofNat (48 + m % 10)])) (by rw [show 48 + m % 10 = (48 - -((m % 10 : Nat) : Int)).toNat by omega]; exact X.b2s1 Tryd.underlying31 Tryd.underlying5 Tryd.underlying9 (lh) hu3_4) rfl ?_
  refine WL.x (X.mv (jt4 rfl (jt2 rfl (s3)))) rfl ?_
  refine WL.x (v := .string (bs (UInt8.ofNat (48 + m % 10) :: r))) (by rw [show bs (UInt8.ofNat (48 + m % 10) :: r) = bs [UInt8.ofNat (48 + m % 10)] ++ bs r by rw [app_bs]; rfl]; exact X.addS (lt rfl (lh)) (lh) (by rw [size_bs, size_bs]; simp only [List.length_cons, List.length_nil]; omega)) rfl ?_
  refine WL.x (X.asg (lh)) rfl ?_
  refine WL.e2 Nx.thn 0 3 (jt8 rfl (lt rfl (s0))) (lh) ?_
  intro σ5 s0 s3
  refine W.region ?_
  refine WL.x (X.mv (s0)) rfl ?_
  refine WL.x (X.neg_quo (lh) lc (by omega)) rfl ?_
  refine WL.x (X.asg (lh)) rfl ?_
  refine WL.e2 (Nx.blk Nx.thn) 0 3 (lh) (jt2 rfl (lt rfl (s3))) ?_
  intro σ6 s0 s3
  have hmr : m ≠ 0 ∨ r = [] := by first | exact .inl (by omega) | exact .inr (bs_inj hs)
  refine ⟨(m / 10, UInt8.ofNat (48 + m % 10) :: r), by (try dsimp only); rw [if_neg (by simp)]; rcases hmr with e | e; (· omega); (· rw [if_pos e]; omega), trivial, s0, s3, hdd.next hmr, by omega, hcl.trans0 cu3_4⟩
 ·
  refine WL.yes rfl rfl (lh) (decide_eq_false h0) ?_
  refine WL.x (X.mv (jt2 rfl (lt rfl (s3)))) rfl ?_
  refine WL.yes rfl rfl (lt rfl (lh)) (decide_eq_false h0) ?_
  refine WL.x (X.eqlS (lh) lc) rfl ?_
  refine WL.x (X.pickF (jt2 rfl (lh)) (decide_eq_false h0) (lh)) rfl ?_
  refine WL.e3 Nx.thn 0 3 9 (jt4 rfl (jt2 rfl (s0))) (jt4 rfl (jt2 rfl (s3))) (lh) ?_
  intro σ7 s0 s3 s9
  refine W.cndp s9 (fun hs => ?_) (fun hs => ?_)
  ·
   refine W.skip Nx.thn ?_
   refine W.block ?_
   refine W.seq ?_
   refine W.region ?_
   refine WL.x (X.mv (s0)) rfl ?_
   refine WL.x (X.neg_rem (lh) lc) rfl ?_
   first | refine WL.x (X.sub lc (lh) (by omega) (by omega)) rfl ?_ | refine WL.x (X.subw lc (lh)) rfl ?_
   first | refine WL.x (X.convi Tryd.underlying3 Tryd.underlying5 (lh) (wrap_u8_in (by omega) (by omega))) rfl ?_ | refine WL.x (X.conv Tryd.underlying3 Tryd.underlying5 (lh)) rfl ?_
   refine WL.bslice Tryd.underlying31 el5 rfl (pcons (lh) pnil) rfl (rfl : _ = [_]) rfl ?_
   intro w3 u3_4; have hu3_4 := u3_4.at_; have cu3_4 := u3_4.ch; have zu3_4 := u3_4.size
   refine WL.x (v := .string (bs [UInt8.ofNat (48 + m % 10)])) (by rw [show 48 + m % 10 = (48 - -((m % 10 : Nat) : Int)).toNat by omega]; exact X.b2s1 Tryd.underlying31 Tryd.underlying5 Tryd.underlying9 (lh) hu3_4) rfl ?_
   refine WL.x (X.mv (jt4 rfl (jt2 rfl (s3)))) rfl ?_
   refine WL.x (v := .string (bs (UInt8.ofNat (48 + m % 10) :: r))) (by rw [show bs (UInt8.ofNat (48 + m % 10) :: r) = bs [UInt8.ofNat (48 + m % 10)] ++ bs r by rw [app_bs]; rfl]; exact X.addS (lt rfl (lh)) (lh) (by rw [size_bs, size_bs]; simp only [List.length_cons, List.length_nil]; omega)) rfl ?_
   refine WL.x (X.asg (lh)) rfl ?_
   refine WL.e2 Nx.thn 0 3 (jt8 rfl (lt rfl (s0))) (lh) ?_
   intro σ8 s0 s3
   refine W.region ?_
   refine WL.x (X.mv (s0)) rfl ?_
   refine WL.x (X.neg_quo (lh) lc (by omega)) rfl ?_
   refine WL.x (X.asg (lh)) rfl ?_
   refine WL.e2 (Nx.blk Nx.thn) 0 3 (lh) (jt2 rfl (lt rfl (s3))) ?_
   intro σ9 s0 s3
   have hmr : m ≠ 0 ∨ r = [] := by first | exact .inl (by omega) | exact .inr (bs_inj hs)
   refine ⟨(m / 10, UInt8.ofNat (48 + m % 10) :: r), by (try dsimp only); rw [if_neg (by simp)]; rcases hmr with e | e; (· omega); (· rw [if_pos e]; omega), trivial, s0, s3, hdd.next hmr, by omega, hcl.trans0 cu3_4⟩
  ·
   refine W.exit (Nx.xthn (Nx.xthn (Nx.xblk Nx.thn))) ?_
   refine W.seq ?_
   refine W.region ?_
   refine WL.x (X.mv (s3)) rfl ?_
   refine WL.x (X.asg (lh)) rfl ?_
   refine WL.e1 Nx.thn 2 (lh) ?_
   intro σ10 s2
   refine W.ret1 Nx.f1 s2 ?_
   have hm0 : m = 0 := by omega
   subst hm0
   rw [← hdd.fin (fun e => hs (by rw [e]; rfl))]
   exact ⟨rfl, hcl⟩
theorem decimal_ok (n : Int) (w : World) (h1 : -9223372036854775808 ≤ n) (h2 : n ≤ 9223372036854775807) :
  Sg.Ret Tryd.prog 30 #[.int .i64 n] w fun v w' => v = .string (bs (Lib.itoa n)) ∧ Ch0 w w' := by
 refine enter1 (n := 11) (l := [.int .i64 n]) Tryd.func30 rfl rfl rfl rfl ?_
 refine W.g1 0 (v1 := .int .i64 n) rfl ?_; intro σ s0
 refine W.seq ?_
 refine W.region ?_
 refine WL.x (X.asg lc) rfl ?_
 refine WL.e1 Nx.thn 0 (lt rfl (s0)) ?_
 intro σ1 s0
 refine W.seq ?_
 refine W.seq ?_
 refine W.region ?_
 refine WL.x (X.mv (s0)) rfl ?_
 refine WL.x (X.geq (lh) lc) rfl ?_
 refine WL.e2 Nx.thn 0 4 (jt2 rfl (s0)) (lh) ?_
 intro σ2 s0 s4
 refine W.cndp s4 (fun hn => ?_) (fun hn => ?_)
 ·
  refine W.seq ?_
  refine W.region ?_
  refine WL.x (X.mv (s0)) rfl ?_
  refine WL.x (v := .int .i64 (-(n.toNat : Int))) (by rw [show (n.toNat : Int) = n by omega]; exact X.neg (lh) (by omega) (by omega)) rfl ?_
  refine WL.call1 ce42 (lh) (digits_ok n.toNat w (by omega)) rfl ?_
  rintro _ w1 ⟨rfl, c1⟩
  refine WL.x (X.asg (lh)) rfl ?_
  refine WL.e1 Nx.thn 2 (lh) ?_
  intro σ3 s2
  refine W.ret1 (Nx.rthn Nx.f1) s2 ?_
  exact ⟨by unfold Lib.itoa; rw [if_neg (by omega)], c1⟩
 ·
  refine W.skip Nx.thn ?_
  refine W.seq ?_
  refine W.region ?_
  refine WL.x (v := .int .i64 (-(n.natAbs : Int))) (by rw [show (-(n.natAbs : Int)) = n by omega]; exact X.mv s0) rfl ?_
  refine WL.call1 ce42 (lh) (digits_ok n.natAbs w (by omega)) rfl ?_
  rintro _ w2 ⟨rfl, c1⟩
  refine WL.x (v := .string (bs (45 :: Lib.decDigits n.natAbs))) (by rw [show bs (45 :: Lib.decDigits n.natAbs) = bs [45] ++ bs (Lib.decDigits n.natAbs) by rw [app_bs]; rfl]; exact X.addS lc (lh) (by rw [size_bs, size_bs]; have := dd_len (u := n.natAbs) (by omega); simp only [List.length_cons, List.length_nil]; omega)) rfl ?_
  refine WL.x (X.asg (lh)) rfl ?_
  refine WL.e1 Nx.thn 2 (lh) ?_
  intro σ4 s2
  refine W.ret1 Nx.f1 s2 ?_
  exact ⟨by unfold Lib.itoa; rw [if_pos (by omega)], c1⟩

theorem szl (l : Array UInt8) : (⟨l⟩ : ByteArray).size = l.size := rfl
theorem sb_mk (a : Array UInt8) : sb ⟨a⟩ = a.toList := rfl
theorem sb_inj {a b : ByteArray} (h : sb a = sb b) : a = b := by rw [← bs_sb a, ← bs_sb b, h]
theorem sb_app (a b : ByteArray) : sb (a ++ b) = sb a ++ sb b := by rw [app_bs, sb_bs]
theorem fin_str {a b : ByteArray} (h : sb a = sb b) : Value.string a = .string b := by rw [sb_inj h]
theorem keyT_no : keyT no = [32, 40, 32, 41] := by unfold keyT; rw [if_pos rfl]; rfl
theorem keyT_go {k : ByteArray} (h : k ≠ no) : keyT k = [32, 40, 32] ++ (sb k ++ [32, 41]) := by unfold keyT; rw [if_neg h]; unfold wT; rfl
theorem sb_real (x : Bool) : sb (bsel x ⟨#[32, 114, 101, 97, 108, 32]⟩ ⟨#[32, 112, 108, 97, 105, 110, 32]⟩) = wT (bsel x wReal wPlain) ++ [32] := by cases x <;> rfl
theorem sb_nil_ (x : Bool) : sb (bsel x ⟨#[32, 110, 105, 108]⟩ ⟨#[32, 118, 97, 108, 117, 101]⟩) = wT (bsel x wNil wValue) := by cases x <;> rfl
theorem sb_cond (x : Bool) : sb (bsel x ⟨#[32, 99, 111, 110, 100]⟩ ⟨#[32, 115, 117, 114, 101]⟩) = wT (bsel x wCond wSure) := by cases x <;> rfl
theorem sz_real (x : Bool) : (bsel x ⟨#[32, 114, 101, 97, 108, 32]⟩ ⟨#[32, 112, 108, 97, 105, 110, 32]⟩).size ≤ 7 := by cases x <;> decide
theorem sz_nil (x : Bool) : (bsel x ⟨#[32, 110, 105, 108]⟩ ⟨#[32, 118, 97, 108, 117, 101]⟩).size ≤ 6 := by cases x <;> decide
theorem sz_cond (x : Bool) : (bsel x ⟨#[32, 99, 111, 110, 100]⟩ ⟨#[32, 115, 117, 114, 101]⟩).size ≤ 5 := by cases x <;> decide
theorem sz_yes (x : Bool) : (bsel x wYes wNo).size ≤ 3 := by cases x <;> decide
theorem lvl_sz (n : Int) : (levelN n).size ≤ 7 := nameW_len (l := VWS) (B := 7) (by decide) n
theorem kind_sz (n : Int) : (kindN n).size ≤ 8 := nameW_len (l := no :: KWS) (B := 8) (by decide) n
theorem ans_sz (n : Int) : (answerN n).size ≤ 7 := nameW_len (l := AWS) (B := 7) (by decide) n
theorem lbl_sz (n : Int) : (labelN n).size ≤ 2 := by unfold labelN; split; · decide
                                                     split; · decide
                                                     split; · decide
                                                     split <;> decide
theorem kindW_at {k : Int} (h : 1 ≤ k ∧ k ≤ 11) : (KWS.map Value.string).toArray[0 + (k - 1).toNat * 1]? = some (.string (kindN k)) := by
  have : k = 1 ∨ k = 2 ∨ k = 3 ∨ k = 4 ∨ k = 5 ∨ k = 6 ∨ k = 7 ∨ k = 8 ∨ k = 9 ∨ k = 10 ∨ k = 11 := by omega
  rcases this with rfl | rfl | rfl | rfl | rfl | rfl | rfl | rfl | rfl | rfl | rfl <;> rfl
theorem levelW_at {k : Int} (h : 0 ≤ k ∧ k ≤ 5) : (VWS.map Value.string).toArray[0 + k.toNat * 1]? = some (.string (levelN k)) := by
  have : k = 0 ∨ k = 1 ∨ k = 2 ∨ k = 3 ∨ k = 4 ∨ k = 5 := by omega
  rcases this with rfl | rfl | rfl | rfl | rfl | rfl <;> rfl
theorem answerW_at {k : Int} (h : 0 ≤ k ∧ k ≤ 3) : (AWS.map Value.string).toArray[0 + k.toNat * 1]? = some (.string (answerN k)) := by
  have : k = 0 ∨ k = 1 ∨ k = 2 ∨ k = 3 := by omega
  rcases this with rfl | rfl | rfl | rfl <;> rfl

theorem rkinds_ok (w : World) :
  Sg.Ret Tryd.prog 31 #[] w fun v w' => ∃ g, v = .slice (some ⟨g, 0, none⟩) 11 11 ∧ w'.heap[g]? = some (.cells (KWS.map Value.string).toArray 9 (0, 0)) ∧ w.heap.size ≤ g ∧ Ch0 w w' := by
 refine enter1 (n := 2) (l := []) Tryd.func31 rfl rfl rfl rfl ?_
 refine W.g0 ?_; intro σ
 refine W.seq ?_
 refine W.region ?_
 refine WL.x (X.asg lc) rfl ?_
 refine WL.e0 Nx.thn  ?_
 intro σ1 
 refine W.seq ?_
 refine W.region ?_
 refine WL.bslice Tryd.underlying50 el9 rfl (pcons lc (pcons lc (pcons lc (pcons lc (pcons lc (pcons lc (pcons lc (pcons lc (pcons lc (pcons lc (pcons lc pnil))))))))))) rfl (rfl : _ = [_, _, _, _, _, _, _, _, _, _, _]) rfl ?_
 intro w1 u1_0; have hu1_0 := u1_0.at_; have cu1_0 := u1_0.ch; have zu1_0 := u1_0.size
 refine WL.x (X.asg (lh)) rfl ?_
 refine WL.e1 Nx.thn 0 (lh) ?_
 intro σ2 s0
 refine W.ret1 Nx.f1 s0 ?_
 exact ⟨_, rfl, hu1_0, Nat.le_refl _, cu1_0⟩
theorem rnames_ok (w : World) :
  Sg.Ret Tryd.prog 34 #[] w fun v w' => ∃ g, v = .slice (some ⟨g, 0, none⟩) 6 6 ∧ w'.heap[g]? = some (.cells (VWS.map Value.string).toArray 9 (0, 0)) ∧ w.heap.size ≤ g ∧ Ch0 w w' := by
 refine enter1 (n := 2) (l := []) Tryd.func34 rfl rfl rfl rfl ?_
 refine W.g0 ?_; intro σ
 refine W.seq ?_
 refine W.region ?_
 refine WL.x (X.asg lc) rfl ?_
 refine WL.e0 Nx.thn  ?_
 intro σ1 
 refine W.seq ?_
 refine W.region ?_
 refine WL.bslice Tryd.underlying50 el9 rfl (pcons lc (pcons lc (pcons lc (pcons lc (pcons lc (pcons lc pnil)))))) rfl (rfl : _ = [_, _, _, _, _, _]) rfl ?_
 intro w1 u1_0; have hu1_0 := u1_0.at_; have cu1_0 := u1_0.ch; have zu1_0 := u1_0.size
 refine WL.x (X.asg (lh)) rfl ?_
 refine WL.e1 Nx.thn 0 (lh) ?_
 intro σ2 s0
 refine W.ret1 Nx.f1 s0 ?_
 exact ⟨_, rfl, hu1_0, Nat.le_refl _, cu1_0⟩
theorem rname_ok (a : Int) (w : World) :
  Sg.Ret Tryd.prog 19 #[.int .i64 a] w fun v w' => v = .string (levelN a) ∧ Ch0 w w' := by
 refine enter1 (n := 13) (l := [.int .i64 a]) Tryd.func19 rfl rfl rfl rfl ?_
 refine W.g1 0 (v1 := .int .i64 a) rfl ?_; intro σ s0
 refine W.seq ?_
 refine W.region ?_
 refine WL.x (X.asg lc) rfl ?_
 refine WL.e1 Nx.thn 0 (lt rfl (s0)) ?_
 intro σ1 s0
 refine W.seq ?_
 refine W.seq ?_
 refine W.region ?_
 refine WL.x (X.mv (s0)) rfl ?_
 refine WL.x (X.lss (lh) lc) rfl ?_
 refine WL.x (X.mv (lh)) rfl ?_
 refine WL.splitp (lh) (fun qb1 => ?_) (fun qb1 => ?_)
 ·
  refine WL.no rfl rfl (lh) (decide_eq_true qb1) rfl ?_
  refine WL.no rfl rfl (lt rfl (lh)) (decide_eq_true qb1) rfl ?_
  refine WL.x (X.pickT (jt2 rfl (lh)) (decide_eq_true qb1) lc) rfl ?_
  refine WL.e2 Nx.thn 0 8 (jt4 rfl (jt2 rfl (s0))) (lh) ?_
  intro σ2 s0 s8
  refine W.cndT s8 ?_
  refine W.seq ?_
  refine W.region ?_
  refine WL.x (X.asg lc) rfl ?_
  refine WL.e1 Nx.thn 2 (lh) ?_
  intro σ3 s2
  refine W.ret1 (Nx.rthn Nx.f1) s2 ?_
  first | exact ⟨rfl, c1⟩ | exact ⟨by rw [levelN_out (by first | omega | (have h9 := h1; simp at h9; omega))]; rfl, Ch.refl _ _⟩
 ·
  refine WL.yes rfl rfl (lh) (decide_eq_false qb1) ?_
  refine WL.x (X.mv (jt2 rfl (lt rfl (s0)))) rfl ?_
  refine WL.yes rfl rfl (lt rfl (lh)) (decide_eq_false qb1) ?_
  refine WL.x (X.gtr (lh) lc) rfl ?_
  refine WL.x (X.pickF (jt2 rfl (lh)) (decide_eq_false qb1) (lh)) rfl ?_
  refine WL.e2 Nx.thn 0 8 (jt4 rfl (jt2 rfl (s0))) (lh) ?_
  intro σ4 s0 s8
  refine W.cndp s8 (fun h1 => ?_) (fun h1 => ?_)
  ·
   refine W.seq ?_
   refine W.region ?_
   refine WL.x (X.asg lc) rfl ?_
   refine WL.e1 Nx.thn 2 (lh) ?_
   intro σ5 s2
   refine W.ret1 (Nx.rthn Nx.f1) s2 ?_
   first | exact ⟨rfl, c1⟩ | exact ⟨by rw [levelN_out (by first | omega | (have h9 := h1; simp at h9; omega))]; rfl, Ch.refl _ _⟩
  ·
   refine W.skip Nx.thn ?_
   refine W.seq ?_
   refine W.region ?_
   refine WL.call0 ce34  (rnames_ok w) rfl ?_
   rintro _ w1 ⟨g, rfl, hg, hgz, c1⟩
   refine WL.x (X.mv (lt rfl (s0))) rfl ?_
   refine WL.x (X.indexAddr Tryd.underlying50 el9 (lt rfl (lh)) (lh) (by omega) (by omega)) rfl ?_
   have hin : 0 ≤ a ∧ a ≤ 5 := by first | omega | (have h9 := h1; simp only [decide_eq_false_iff_not, Bool.or_eq_false_iff] at h9; omega)
   refine WL.x (X.load pl9 (lh) hg (v := .string (levelN a)) (levelW_at hin)) rfl ?_
   refine WL.x (X.asg (lh)) rfl ?_
   refine WL.e1 Nx.thn 2 (lh) ?_
   intro σ6 s2
   refine W.ret1 Nx.f1 s2 ?_
   first | exact ⟨rfl, c1⟩ | exact ⟨by rw [levelN_out (by first | omega | (have h9 := h1; simp at h9; omega))]; rfl, Ch.refl _ _⟩
theorem rnum_ok (n : Int) (w : World) (h : in64 n) :
  Sg.Ret Tryd.prog 16 #[.int .i64 n] w fun v w' => v = .string (bs (valT n)) ∧ Ch0 w w' := by
 refine enter1 (n := 6) (l := [.int .i64 n]) Tryd.func16 rfl rfl rfl rfl ?_
 refine W.g1 0 (v1 := .int .i64 n) rfl ?_; intro σ s0
 refine W.seq ?_
 refine W.region ?_
 refine WL.x (X.asg lc) rfl ?_
 refine WL.e1 Nx.thn 0 (lt rfl (s0)) ?_
 intro σ1 s0
 refine W.seq ?_
 refine W.region ?_
 refine WL.x (X.mv (s0)) rfl ?_
 refine WL.call1 ce30 (lh) (decimal_ok n w h.1 h.2) rfl ?_
 rintro _ w1 ⟨rfl, c1⟩
 have hi := Lib.itoa_length_le n h.1 h.2
 refine WL.x (X.addS lc (lh) (by simp only [ByteArray.size_append, szl, size_bs, List.size_toArray, List.length_cons, List.length_nil, List.length_append]; omega)) rfl ?_
 refine WL.x (X.asg (lh)) rfl ?_
 refine WL.e1 Nx.thn 2 (lh) ?_
 intro σ2 s2
 refine W.ret1 Nx.f1 s2 ?_
 exact ⟨fin_str (by rw [sb_app, sb_bs, sb_bs]; rfl), c1⟩
theorem rkeyt_ok (s : ByteArray) (w : World) (hs : s.size ≤ 6) :
  Sg.Ret Tryd.prog 32 #[.string s] w fun v w' => v = .string (bs (keyT s)) ∧ w = w' := by
 refine enter1 (n := 8) (l := [.string s]) Tryd.func32 rfl rfl rfl rfl ?_
 refine W.g1 0 (v1 := .string s) rfl ?_; intro σ s0
 refine W.seq ?_
 refine W.region ?_
 refine WL.x (X.asg lc) rfl ?_
 refine WL.e1 Nx.thn 0 (lt rfl (s0)) ?_
 intro σ1 s0
 refine W.seq ?_
 refine W.seq ?_
 refine W.region ?_
 refine WL.x (X.mv (s0)) rfl ?_
 refine WL.x (X.eqlS (lh) lc) rfl ?_
 refine WL.e2 Nx.thn 0 4 (jt2 rfl (s0)) (lh) ?_
 intro σ2 s0 s4
 refine W.cndp s4 (fun h1 => ?_) (fun h1 => ?_)
 ·
  refine W.seq ?_
  refine W.region ?_
  refine WL.x (X.asg lc) rfl ?_
  refine WL.e1 Nx.thn 2 (lh) ?_
  intro σ3 s2
  refine W.ret1 (Nx.rthn Nx.f1) s2 ?_
  first | exact ⟨by rw [show s = no from h1, keyT_no]; rfl, rfl⟩ | exact ⟨fin_str (by rw [keyT_go h1]; simp only [sb_app, sb_mk, sb_bs, List.append_assoc]), rfl⟩
 ·
  refine W.skip Nx.thn ?_
  refine W.seq ?_
  refine W.region ?_
  refine WL.x (X.mv (s0)) rfl ?_
  refine WL.x (X.addS lc (lh) (by simp only [ByteArray.size_append, szl, size_bs, List.size_toArray, List.length_cons, List.length_nil, List.length_append]; omega)) rfl ?_
  refine WL.x (X.addS (lh) lc (by simp only [ByteArray.size_append, szl, size_bs, List.size_toArray, List.length_cons, List.length_nil, List.length_append]; omega)) rfl ?_
  refine WL.x (X.asg (lh)) rfl ?_
  refine WL.e1 Nx.thn 2 (lh) ?_
  intro σ4 s2
  refine W.ret1 Nx.f1 s2 ?_
  first | exact ⟨by rw [show s = no from h1, keyT_no]; rfl, rfl⟩ | exact ⟨fin_str (by rw [keyT_go h1]; simp only [sb_app, sb_mk, sb_bs, List.append_assoc]), rfl⟩
set_option maxHeartbeats 6400000 in
theorem ranom_ok (A : Nat → Prop) (x : GAn) (es : List Value) (w : World) (h : RAn A w es x) (hma : mayA keyE x = true) :
  Sg.Ret Tryd.prog 18 #[.agg es.toArray] w fun v w' => v = .string (bs (anT x)) ∧ Ch0 w w' := by
 have hna := ran_num h
 obtain ⟨v, rfl, hs, hb⟩ := h
 obtain ⟨va, vc, rfl⟩ := hs.len
 obtain ⟨hla1, hla2, hla3⟩ := an_len hma hna
 obtain ⟨ma1, ma2, ma3, ma4, ma5⟩ := mayA_of hma
 have hkz := keyE_len ma2
 have hlq := fun q => fm_take_len (f := whyT) (M := 300) (B := 150) q hla2 ma4
 have z1 := valT_len hna.1
 have z2 := valT_len hna.2.1
 have z3 := valT_len hna.2.2.1
 have z4 := valT_len hna.2.2.2.1
 have z5 := keyT_len hkz
 have z6 := sz_real x.2.2.2.2.2.2.2.1
 have z7 := lvl_sz x.2.2.2.2.2.2.2.2
 have z8 := kind_sz x.1
 refine enter1 (n := 87) (l := [.agg #[.int .i64 x.1, .int .i64 x.2.1, .int .i64 x.2.2.1, .int .i64 x.2.2.2.1, .string x.2.2.2.2.1, .int .i64 x.2.2.2.2.2.1, .slice va x.2.2.2.2.2.2.1.length vc, .bool x.2.2.2.2.2.2.2.1, .int .i64 x.2.2.2.2.2.2.2.2]]) Tryd.func18 rfl rfl rfl rfl ?_
 refine W.g1 0 (v1 := .agg #[.int .i64 x.1, .int .i64 x.2.1, .int .i64 x.2.2.1, .int .i64 x.2.2.2.1, .string x.2.2.2.2.1, .int .i64 x.2.2.2.2.2.1, .slice va x.2.2.2.2.2.2.1.length vc, .bool x.2.2.2.2.2.2.2.1, .int .i64 x.2.2.2.2.2.2.2.2]) rfl ?_; intro σ s0
 refine W.seq ?_
 refine W.region ?_
 refine WL.box (s0) rfl ?_
 intro w1 u0_0; have hu0_0 := u0_0.at_; have cu0_0 := u0_0.ch; have zu0_0 := u0_0.size
 refine WL.x (X.asg lc) rfl ?_
 refine WL.e1 Nx.thn 1 (lt rfl (lh)) ?_
 intro σ1 s1
 refine W.seq ?_
 refine W.held (fun w' => Ch (fun _ => False) w1 w') mo ?_
 intro w2 qhh1 qc2
 have hS : Ch (fun _ => False) w1 w2 := Ch.weak qc2
 have hzqc2 := qc2.size
 have cdh1 := qc2
 refine WH.take 1 rfl (by kernel_rfl) (by kernel_rfl) (by kernel_rfl) (fun _ _ _ h => h) Gd.none rfl (fun w' hS' => X.fieldAddr fd40_0 (s1)) hS ?_
 refine WH.take 2 rfl (by kernel_rfl) (by kernel_rfl) (by kernel_rfl) (fun _ _ _ h => h) Gd.none rfl (fun w' hS' => X.load pl3 (lh) (by first | assumption | exact hS'.at (by assumption) (by intro hne; first | exact hne | ((try dsimp only at hne); omega)) | exact hS'.at (cu0_0.at0 (by assumption)) (by intro hne; first | exact hne | ((try dsimp only at hne); omega))) (by first | rfl | assumption)) hS ?_
 first | refine WH.take 3 rfl (by kernel_rfl) (by kernel_rfl) (by kernel_rfl) (fun _ _ _ h => h) Gd.none rfl (fun w' hS' => X.sub (lh) lc (by omega) (by omega)) hS ?_ | refine WH.take 3 rfl (by kernel_rfl) (by kernel_rfl) (by kernel_rfl) (fun _ _ _ h => h) Gd.none rfl (fun w' hS' => X.subw (lh) lc) hS ?_
 refine WH.take 7 rfl (by kernel_rfl) (by kernel_rfl) (by kernel_rfl) (fun _ _ _ h => h) Gd.none rfl (fun w' hS' => X.fieldAddr fd40_1 (jt2 rfl (lt rfl (s1)))) hS ?_
 refine WH.take 8 rfl (by kernel_rfl) (by kernel_rfl) (by kernel_rfl) (fun _ _ _ h => h) Gd.none rfl (fun w' hS' => X.load pl3 (lh) (by first | assumption | exact hS'.at (by assumption) (by intro hne; first | exact hne | ((try dsimp only at hne); omega)) | exact hS'.at (cu0_0.at0 (by assumption)) (by intro hne; first | exact hne | ((try dsimp only at hne); omega))) (by first | rfl | assumption)) hS ?_
 refine WH.take 11 rfl (by kernel_rfl) (by kernel_rfl) (by kernel_rfl) (fun _ _ _ h => h) Gd.none rfl (fun w' hS' => X.fieldAddr fd40_2 (jt4 rfl (lt rfl (s1)))) hS ?_
 refine WH.take 12 rfl (by kernel_rfl) (by kernel_rfl) (by kernel_rfl) (fun _ _ _ h => h) Gd.none rfl (fun w' hS' => X.load pl3 (lh) (by first | assumption | exact hS'.at (by assumption) (by intro hne; first | exact hne | ((try dsimp only at hne); omega)) | exact hS'.at (cu0_0.at0 (by assumption)) (by intro hne; first | exact hne | ((try dsimp only at hne); omega))) (by first | rfl | assumption)) hS ?_
 refine WH.take 15 rfl (by kernel_rfl) (by kernel_rfl) (by kernel_rfl) (fun _ _ _ h => h) Gd.none rfl (fun w' hS' => X.fieldAddr fd40_3 (jt4 rfl (jt2 rfl (lt rfl (s1))))) hS ?_
 refine WH.take 16 rfl (by kernel_rfl) (by kernel_rfl) (by kernel_rfl) (fun _ _ _ h => h) Gd.none rfl (fun w' hS' => X.load pl3 (lh) (by first | assumption | exact hS'.at (by assumption) (by intro hne; first | exact hne | ((try dsimp only at hne); omega)) | exact hS'.at (cu0_0.at0 (by assumption)) (by intro hne; first | exact hne | ((try dsimp only at hne); omega))) (by first | rfl | assumption)) hS ?_
 refine WH.take 19 rfl (by kernel_rfl) (by kernel_rfl) (by kernel_rfl) (fun _ _ _ h => h) Gd.none rfl (fun w' hS' => X.fieldAddr fd40_4 (jt8 rfl (lt rfl (s1)))) hS ?_
 refine WH.take 20 rfl (by kernel_rfl) (by kernel_rfl) (by kernel_rfl) (fun _ _ _ h => h) Gd.none rfl (fun w' hS' => X.load pl9 (lh) (by first | assumption | exact hS'.at (by assumption) (by intro hne; first | exact hne | ((try dsimp only at hne); omega)) | exact hS'.at (cu0_0.at0 (by assumption)) (by intro hne; first | exact hne | ((try dsimp only at hne); omega))) (by first | rfl | assumption)) hS ?_
 refine WH.take 23 rfl (by kernel_rfl) (by kernel_rfl) (by kernel_rfl) (fun _ _ _ h => h) Gd.none rfl (fun w' hS' => X.fieldAddr fd40_5 (jt8 rfl (jt2 rfl (lt rfl (s1))))) hS ?_
 refine WH.take 24 rfl (by kernel_rfl) (by kernel_rfl) (by kernel_rfl) (fun _ _ _ h => h) Gd.none rfl (fun w' hS' => X.load pl3 (lh) (by first | assumption | exact hS'.at (by assumption) (by intro hne; first | exact hne | ((try dsimp only at hne); omega)) | exact hS'.at (cu0_0.at0 (by assumption)) (by intro hne; first | exact hne | ((try dsimp only at hne); omega))) (by first | rfl | assumption)) hS ?_
 refine WH.take 27 rfl (by kernel_rfl) (by kernel_rfl) (by kernel_rfl) (fun _ _ _ h => h) Gd.none rfl (fun w' hS' => X.fieldAddr fd40_7 (jt8 rfl (jt4 rfl (lt rfl (s1))))) hS ?_
 refine WH.take 28 rfl (by kernel_rfl) (by kernel_rfl) (by kernel_rfl) (fun _ _ _ h => h) Gd.none rfl (fun w' hS' => X.load pl4 (lh) (by first | assumption | exact hS'.at (by assumption) (by intro hne; first | exact hne | ((try dsimp only at hne); omega)) | exact hS'.at (cu0_0.at0 (by assumption)) (by intro hne; first | exact hne | ((try dsimp only at hne); omega))) (by first | rfl | assumption)) hS ?_
 refine WH.take 31 rfl (by kernel_rfl) (by kernel_rfl) (by kernel_rfl) (fun _ _ _ h => h) Gd.none rfl (fun w' hS' => X.fieldAddr fd40_8 (jt8 rfl (jt4 rfl (jt2 rfl (lt rfl (s1)))))) hS ?_
 refine WH.take 32 rfl (by kernel_rfl) (by kernel_rfl) (by kernel_rfl) (fun _ _ _ h => h) Gd.none rfl (fun w' hS' => X.load pl3 (lh) (by first | assumption | exact hS'.at (by assumption) (by intro hne; first | exact hne | ((try dsimp only at hne); omega)) | exact hS'.at (cu0_0.at0 (by assumption)) (by intro hne; first | exact hne | ((try dsimp only at hne); omega))) (by first | rfl | assumption)) hS ?_
 refine WH.one 0 rfl (by kernel_rfl) (fun _ _ h => h) ?_
 refine WL.call0 ce31  (rkinds_ok w2) rfl ?_
 rintro _ w3 ⟨g, rfl, hE, hgz, ck⟩
 have hS := hS.trans ck (fun _ _ => id) (by intro i hi hg; first | exact hg | exact False.elim hg | omega | ((try dsimp only at hg ⊢); omega))
 refine WL.nil Nx.thn ⟨hS, ?_⟩
 refine WH.grow (S' := fun w' => Ch (fun _ => False) w1 w' ∧ w'.heap[g]? = some (.cells (KWS.map Value.string).toArray 9 (0, 0))) (fun _ h => h.1) ?_
 refine WH.take 4 rfl (by kernel_rfl) (by kernel_rfl) (by kernel_rfl) (fun _ _ _ h => h) Gd.none rfl (fun w' ⟨hS', hE'⟩ => X.indexAddr Tryd.underlying50 el9 (lh) (jt8 rfl (jt4 rfl (jt2 rfl (lt rfl (lh))))) (by omega) (by omega)) ⟨hS, hE⟩ ?_
 refine WH.take 5 rfl (by kernel_rfl) (by kernel_rfl) (by kernel_rfl) (fun _ _ _ h => h) Gd.none rfl (fun w' ⟨hS', hE'⟩ => X.load pl9 (lh) hE' (v := .string (kindN x.1)) (kindW_at ma1)) ⟨hS, hE⟩ ?_
 refine WH.take 6 rfl (by kernel_rfl) (by kernel_rfl) (by kernel_rfl) (fun _ _ _ h => h) Gd.none rfl (fun w' ⟨hS', hE'⟩ => X.addS lc (lh) (by simp only [ByteArray.size_append, szl, size_bs, List.size_toArray, List.length_cons, List.length_nil, List.length_append]; omega)) ⟨hS, hE⟩ ?_
 refine WH.one 9 rfl (by kernel_rfl) (fun _ _ h => h) ?_
 refine WL.call1 ce16 (jt8 rfl (jt8 rfl (lh))) (rnum_ok x.2.1 w3 hna.1) rfl ?_
 rintro _ w4 ⟨rfl, c1⟩
 have hS := hS.trans c1 (fun _ _ => id) (by intro i hi hg; first | exact hg | exact False.elim hg | omega | ((try dsimp only at hg ⊢); omega))
 replace hE := c1.at0 hE
 refine WL.nil Nx.thn ⟨⟨hS, hE⟩, ?_⟩
 refine WH.take 10 rfl (by kernel_rfl) (by kernel_rfl) (by kernel_rfl) (fun _ _ _ h => h) Gd.none rfl (fun w' ⟨hS', hE'⟩ => X.addS (lt rfl (lh)) (lh) (by simp only [ByteArray.size_append, szl, size_bs, List.size_toArray, List.length_cons, List.length_nil, List.length_append]; omega)) ⟨hS, hE⟩ ?_
 refine WH.one 13 rfl (by kernel_rfl) (fun _ _ h => h) ?_
 refine WL.call1 ce16 (jt8 rfl (jt8 rfl (lh))) (rnum_ok x.2.2.1 w4 hna.2.1) rfl ?_
 rintro _ w5 ⟨rfl, c2⟩
 have hS := hS.trans c2 (fun _ _ => id) (by intro i hi hg; first | exact hg | exact False.elim hg | omega | ((try dsimp only at hg ⊢); omega))
 replace hE := c2.at0 hE
 refine WL.nil Nx.thn ⟨⟨hS, hE⟩, ?_⟩
 refine WH.take 14 rfl (by kernel_rfl) (by kernel_rfl) (by kernel_rfl) (fun _ _ _ h => h) Gd.none rfl (fun w' ⟨hS', hE'⟩ => X.addS (lt rfl (lh)) (lh) (by simp only [ByteArray.size_append, szl, size_bs, List.size_toArray, List.length_cons, List.length_nil, List.length_append]; omega)) ⟨hS, hE⟩ ?_
 refine WH.one 17 rfl (by kernel_rfl) (fun _ _ h => h) ?_
 refine WL.call1 ce16 (jt8 rfl (jt8 rfl (lh))) (rnum_ok x.2.2.2.1 w5 hna.2.2.1) rfl ?_
 rintro _ w6 ⟨rfl, c3⟩
 have hS := hS.trans c3 (fun _ _ => id) (by intro i hi hg; first | exact hg | exact False.elim hg | omega | ((try dsimp only at hg ⊢); omega))
 replace hE := c3.at0 hE
 refine WL.nil Nx.thn ⟨⟨hS, hE⟩, ?_⟩
 refine WH.take 18 rfl (by kernel_rfl) (by kernel_rfl) (by kernel_rfl) (fun _ _ _ h => h) Gd.none rfl (fun w' ⟨hS', hE'⟩ => X.addS (lt rfl (lh)) (lh) (by simp only [ByteArray.size_append, szl, size_bs, List.size_toArray, List.length_cons, List.length_nil, List.length_append]; omega)) ⟨hS, hE⟩ ?_
 refine WH.one 21 rfl (by kernel_rfl) (fun _ _ h => h) ?_
 refine WL.call1 ce32 (jt8 rfl (jt8 rfl (lh))) (rkeyt_ok x.2.2.2.2.1 w6 hkz) rfl ?_
 rintro _ _ ⟨rfl, rfl⟩
 refine WL.nil Nx.thn ⟨⟨hS, hE⟩, ?_⟩
 refine WH.take 22 rfl (by kernel_rfl) (by kernel_rfl) (by kernel_rfl) (fun _ _ _ h => h) Gd.none rfl (fun w' ⟨hS', hE'⟩ => X.addS (lt rfl (lh)) (lh) (by simp only [ByteArray.size_append, szl, size_bs, List.size_toArray, List.length_cons, List.length_nil, List.length_append]; omega)) ⟨hS, hE⟩ ?_
 refine WH.one 25 rfl (by kernel_rfl) (fun _ _ h => h) ?_
 refine WL.call1 ce16 (jt8 rfl (jt8 rfl (lh))) (rnum_ok x.2.2.2.2.2.1 w6 hna.2.2.2.1) rfl ?_
 rintro _ w7 ⟨rfl, c4⟩
 have hS := hS.trans c4 (fun _ _ => id) (by intro i hi hg; first | exact hg | exact False.elim hg | omega | ((try dsimp only at hg ⊢); omega))
 replace hE := c4.at0 hE
 refine WL.nil Nx.thn ⟨⟨hS, hE⟩, ?_⟩
 refine WH.take 26 rfl (by kernel_rfl) (by kernel_rfl) (by kernel_rfl) (fun _ _ _ h => h) Gd.none rfl (fun w' ⟨hS', hE'⟩ => X.addS (lt rfl (lh)) (lh) (by simp only [ByteArray.size_append, szl, size_bs, List.size_toArray, List.length_cons, List.length_nil, List.length_append]; omega)) ⟨hS, hE⟩ ?_
 refine WH.one 29 rfl (by kernel_rfl) (fun _ _ h => h) ?_
 refine WL.call3 ce17 (jt8 rfl (jt8 rfl (lh))) lc lc (reither_ok x.2.2.2.2.2.2.2.1 ⟨#[32, 114, 101, 97, 108, 32]⟩ ⟨#[32, 112, 108, 97, 105, 110, 32]⟩ w7) rfl ?_
 rintro _ _ ⟨rfl, rfl⟩
 refine WL.nil Nx.thn ⟨⟨hS, hE⟩, ?_⟩
 refine WH.take 30 rfl (by kernel_rfl) (by kernel_rfl) (by kernel_rfl) (fun _ _ _ h => h) Gd.none rfl (fun w' ⟨hS', hE'⟩ => X.addS (lt rfl (lh)) (lh) (by simp only [ByteArray.size_append, szl, size_bs, List.size_toArray, List.length_cons, List.length_nil, List.length_append]; omega)) ⟨hS, hE⟩ ?_
 refine WH.one 33 rfl (by kernel_rfl) (fun _ _ h => h) ?_
 refine WL.call1 ce19 (jt8 rfl (jt8 rfl (lh))) (rname_ok x.2.2.2.2.2.2.2.2 w7) rfl ?_
 rintro _ w8 ⟨rfl, c5⟩
 have hS := hS.trans c5 (fun _ _ => id) (by intro i hi hg; first | exact hg | exact False.elim hg | omega | ((try dsimp only at hg ⊢); omega))
 replace hE := c5.at0 hE
 refine WL.nil Nx.thn ⟨⟨hS, hE⟩, ?_⟩
 refine WH.take 34 rfl (by kernel_rfl) (by kernel_rfl) (by kernel_rfl) (fun _ _ _ h => h) Gd.none rfl (fun w' ⟨hS', hE'⟩ => X.addS (lt rfl (lh)) (lh) (by simp only [ByteArray.size_append, szl, size_bs, List.size_toArray, List.length_cons, List.length_nil, List.length_append]; omega)) ⟨hS, hE⟩ ?_
 refine WH.take 35 rfl (by kernel_rfl) (by kernel_rfl) (by kernel_rfl) (fun _ _ _ h => h) Gd.none rfl (fun w' ⟨hS', hE'⟩ => X.asg (lh)) ⟨hS, hE⟩ ?_
 refine WH.done (by kernel_rfl) ?_
 refine WL.e2 Nx.thn 1 3 (jt8 rfl (jt8 rfl (jt8 rfl (jt8 rfl (jt4 rfl (s1)))))) (lh) ?_
 intro σ2 s1 s3
 refine W.seq ?_
 refine W.seq ?_
 refine W.region ?_
 refine WL.x (X.fieldAddr fd40_6 (s1)) rfl ?_
 refine WL.x (X.load pl38 (lh) (by first | assumption | exact hS.at (by assumption) (by intro hne; first | exact hne | ((try dsimp only at hne); omega)) | exact hS.at (cu0_0.at0 (by assumption)) (by intro hne; first | exact hne | ((try dsimp only at hne); omega))) (v := .slice va x.2.2.2.2.2.2.1.length vc) rfl) rfl ?_
 refine WL.x (X.lenSl Tryd.underlying38 (lh)) rfl ?_
 refine WL.x (X.mv lc) rfl ?_
 refine WL.e4 Nx.thn 3 42 43 44 (jt4 rfl (s3)) (jt2 rfl (lh)) (lt rfl (lh)) (lh) ?_
 intro σ3 s3 s42 s43 s44
 refine W.block ?_
 have qo3 := s42
 have qo4 := s43
 -- loop 0: kept [42, 43], varied [3, 44]
 refine W.loop (G := Nat) (fun k σ' w' => (σ' 42 = σ3 42 ∧ σ' 43 = σ3 43 ∧ True) ∧ (∃ S, σ' 3 = .string S ∧ σ' 44 = .int .i64 (k : Int) ∧ sb S = anH x ++ (x.2.2.2.2.2.2.1.take k).flatMap whyT ∧ k ≤ x.2.2.2.2.2.2.1.length ∧ Ch0 w w')) (fun k => x.2.2.2.2.2.2.1.length - k) (0) ⟨⟨rfl, rfl, trivial⟩, _, s3, s44, (by simp only [sb_app, sb_bs, sb_mk, sb_real, List.take_zero, List.flatMap_nil, List.append_nil]; unfold anH; simp only [List.append_assoc]; rfl), by omega, cu0_0.trans0 hS⟩ ?_
 rintro k σ4 w9 ⟨⟨f42, f43, _⟩, S, s3, s44, hSe, hk9, hcl⟩
 have s42 := f42.trans qo3
 have s43 := f43.trans qo4
 refine W.seq ?_
 refine W.region ?_
 refine WL.x (X.lss (s44) (s43)) rfl ?_
 refine WL.e5 Nx.thn 3 42 43 44 45 (lt rfl (s3)) (lt rfl (s42)) (lt rfl (s43)) (lt rfl (s44)) (lh) ?_
 intro σ5 s3 s42 s43 s44 s45
 refine W.seq ?_
 refine W.cndp s45 (fun hlt => ?_) (fun hlt => ?_)
 ·
  have hql : k < x.2.2.2.2.2.2.1.length := by omega
  obtain ⟨b2, o2, cs2, T2, fr2, es2, hva2, hml2, hes2, hgl2, hr2⟩ := (hs.ch0 monWhy hcl).at (k := k) hql
  subst hva2
  have hlq9 := hlq k
  have hmy := ma5 _ (List.getElem_mem hql)
  have hny := hna.2.2.2.2 _ (List.getElem_mem hql)
  have htq : (x.2.2.2.2.2.2.1.take (k + 1)).flatMap whyT = (x.2.2.2.2.2.2.1.take k).flatMap whyT ++ whyT x.2.2.2.2.2.2.1[k] := fm_take hql
  have hly := hla2 _ (List.getElem_mem hql)
  obtain ⟨y, hy⟩ : ∃ y, y = x.2.2.2.2.2.2.1[k] := ⟨_, rfl⟩
  rw [← hy] at hr2 hmy hny htq hly
  obtain ⟨rfl, -, -⟩ := hr2
  have hSz := sb_len S
  rw [hSe] at hSz
  simp only [List.length_append] at hSz
  have y1 := valT_len hny.1
  have y2 := valT_len hny.2.1
  have y3 := valT_len hny.2.2.1
  have y4 := valT_len hny.2.2.2
  have y5 := keyT_len (keyE_len (mayW_of hmy).2)
  have y6 := sz_nil y.2.2.2.2.2.2.1
  have y7 := sz_cond y.2.2.2.2.2.2.2
  have y8 := lbl_sz y.2.2.1
  refine W.skip Nx.thn ?_
  refine W.seq ?_
  refine W.block ?_
  refine W.seq ?_
  refine W.region ?_
  refine WL.x (X.indexAddr Tryd.underlying38 el45 (s42) (s44) (by omega) (by omega)) rfl ?_
  refine WL.x (X.loadS ag45 (lh) hml2 hes2 hgl2) rfl ?_
  refine WL.alloc el45 rfl ?_
  intro w10 u4_2; have hu4_2 := u4_2.at_; have cu4_2 := u4_2.ch; have zu4_2 := u4_2.size
  refine WL.storeS (vs := whyCells y) ag45 (lh) (lt rfl (lh)) rfl hes2 hu4_2 (by decide) ?_
  intro w11 us
  have hwv : w11.heap[(_ : Nat)]? = some (Obj.cells (whyCells y).toArray 45 (0, 0)) := us.at_
  have cs4 := us.ch
  have zcl := hcl.size
  have hc4 := cu4_2.trans cs4 (H := fun _ => False) (fun _ _ e => e) (fun q hq e => by (try dsimp only at e); omega)
  replace hcl := hcl.trans0 hc4
  refine WL.e5 Nx.thn 3 5 42 43 44 (jt2 rfl (lt rfl (s3))) (lh) (jt2 rfl (lt rfl (s42))) (jt2 rfl (lt rfl (s43))) (jt2 rfl (lt rfl (s44))) ?_
  intro σ6 s3 s5 s42 s43 s44
  refine W.held (fun w' => Ch (fun _ => False) w11 w') mo ?_
  intro w12 qhh5 qc6
  have hS : Ch (fun _ => False) w11 w12 := Ch.weak qc6
  have hzqc6 := qc6.size
  have cdh5 := qc6
  refine WH.take 0 rfl (by kernel_rfl) (by kernel_rfl) (by kernel_rfl) (fun _ _ _ h => h) Gd.none rfl (fun w' hS' => X.mv (s3)) hS ?_
  refine WH.take 1 rfl (by kernel_rfl) (by kernel_rfl) (by kernel_rfl) (fun _ _ _ h => h) Gd.none rfl (fun w' hS' => X.fieldAddr fd45_0 (lt rfl (s5))) hS ?_
  refine WH.take 2 rfl (by kernel_rfl) (by kernel_rfl) (by kernel_rfl) (fun _ _ _ h => h) Gd.none rfl (fun w' hS' => X.load pl3 (lh) (by first | assumption | exact hS'.at (by assumption) (by intro hne; first | exact hne | ((try dsimp only at hne); omega)) | exact hS'.at (cs4.at (by assumption) (by intro hne; first | exact hne | ((try dsimp only at hne); omega))) (by intro hne; first | exact hne | ((try dsimp only at hne); omega))) (by first | rfl | assumption)) hS ?_
  refine WH.take 6 rfl (by kernel_rfl) (by kernel_rfl) (by kernel_rfl) (fun _ _ _ h => h) Gd.none rfl (fun w' hS' => X.fieldAddr fd45_2 (jt2 rfl (lt rfl (s5)))) hS ?_
  refine WH.take 7 rfl (by kernel_rfl) (by kernel_rfl) (by kernel_rfl) (fun _ _ _ h => h) Gd.none rfl (fun w' hS' => X.load pl3 (lh) (by first | assumption | exact hS'.at (by assumption) (by intro hne; first | exact hne | ((try dsimp only at hne); omega)) | exact hS'.at (cs4.at (by assumption) (by intro hne; first | exact hne | ((try dsimp only at hne); omega))) (by intro hne; first | exact hne | ((try dsimp only at hne); omega))) (by first | rfl | assumption)) hS ?_
  refine WH.take 10 rfl (by kernel_rfl) (by kernel_rfl) (by kernel_rfl) (fun _ _ _ h => h) Gd.none rfl (fun w' hS' => X.fieldAddr fd45_1 (jt4 rfl (lt rfl (s5)))) hS ?_
  refine WH.take 11 rfl (by kernel_rfl) (by kernel_rfl) (by kernel_rfl) (fun _ _ _ h => h) Gd.none rfl (fun w' hS' => X.load pl3 (lh) (by first | assumption | exact hS'.at (by assumption) (by intro hne; first | exact hne | ((try dsimp only at hne); omega)) | exact hS'.at (cs4.at (by assumption) (by intro hne; first | exact hne | ((try dsimp only at hne); omega))) (by intro hne; first | exact hne | ((try dsimp only at hne); omega))) (by first | rfl | assumption)) hS ?_
  refine WH.take 14 rfl (by kernel_rfl) (by kernel_rfl) (by kernel_rfl) (fun _ _ _ h => h) Gd.none rfl (fun w' hS' => X.fieldAddr fd45_3 (jt4 rfl (jt2 rfl (lt rfl (s5))))) hS ?_
  refine WH.take 15 rfl (by kernel_rfl) (by kernel_rfl) (by kernel_rfl) (fun _ _ _ h => h) Gd.none rfl (fun w' hS' => X.load pl9 (lh) (by first | assumption | exact hS'.at (by assumption) (by intro hne; first | exact hne | ((try dsimp only at hne); omega)) | exact hS'.at (cs4.at (by assumption) (by intro hne; first | exact hne | ((try dsimp only at hne); omega))) (by intro hne; first | exact hne | ((try dsimp only at hne); omega))) (by first | rfl | assumption)) hS ?_
  refine WH.take 18 rfl (by kernel_rfl) (by kernel_rfl) (by kernel_rfl) (fun _ _ _ h => h) Gd.none rfl (fun w' hS' => X.fieldAddr fd45_4 (jt8 rfl (lt rfl (s5)))) hS ?_
  refine WH.take 19 rfl (by kernel_rfl) (by kernel_rfl) (by kernel_rfl) (fun _ _ _ h => h) Gd.none rfl (fun w' hS' => X.load pl3 (lh) (by first | assumption | exact hS'.at (by assumption) (by intro hne; first | exact hne | ((try dsimp only at hne); omega)) | exact hS'.at (cs4.at (by assumption) (by intro hne; first | exact hne | ((try dsimp only at hne); omega))) (by intro hne; first | exact hne | ((try dsimp only at hne); omega))) (by first | rfl | assumption)) hS ?_
  refine WH.take 22 rfl (by kernel_rfl) (by kernel_rfl) (by kernel_rfl) (fun _ _ _ h => h) Gd.none rfl (fun w' hS' => X.fieldAddr fd45_5 (jt8 rfl (jt2 rfl (lt rfl (s5))))) hS ?_
  refine WH.take 23 rfl (by kernel_rfl) (by kernel_rfl) (by kernel_rfl) (fun _ _ _ h => h) Gd.none rfl (fun w' hS' => X.load pl3 (lh) (by first | assumption | exact hS'.at (by assumption) (by intro hne; first | exact hne | ((try dsimp only at hne); omega)) | exact hS'.at (cs4.at (by assumption) (by intro hne; first | exact hne | ((try dsimp only at hne); omega))) (by intro hne; first | exact hne | ((try dsimp only at hne); omega))) (by first | rfl | assumption)) hS ?_
  refine WH.take 26 rfl (by kernel_rfl) (by kernel_rfl) (by kernel_rfl) (fun _ _ _ h => h) Gd.none rfl (fun w' hS' => X.fieldAddr fd45_6 (jt8 rfl (jt4 rfl (lt rfl (s5))))) hS ?_
  refine WH.take 27 rfl (by kernel_rfl) (by kernel_rfl) (by kernel_rfl) (fun _ _ _ h => h) Gd.none rfl (fun w' hS' => X.load pl4 (lh) (by first | assumption | exact hS'.at (by assumption) (by intro hne; first | exact hne | ((try dsimp only at hne); omega)) | exact hS'.at (cs4.at (by assumption) (by intro hne; first | exact hne | ((try dsimp only at hne); omega))) (by intro hne; first | exact hne | ((try dsimp only at hne); omega))) (by first | rfl | assumption)) hS ?_
  refine WH.take 30 rfl (by kernel_rfl) (by kernel_rfl) (by kernel_rfl) (fun _ _ _ h => h) Gd.none rfl (fun w' hS' => X.fieldAddr fd45_7 (jt8 rfl (jt4 rfl (jt2 rfl (lt rfl (s5)))))) hS ?_
  refine WH.take 31 rfl (by kernel_rfl) (by kernel_rfl) (by kernel_rfl) (fun _ _ _ h => h) Gd.none rfl (fun w' hS' => X.load pl4 (lh) (by first | assumption | exact hS'.at (by assumption) (by intro hne; first | exact hne | ((try dsimp only at hne); omega)) | exact hS'.at (cs4.at (by assumption) (by intro hne; first | exact hne | ((try dsimp only at hne); omega))) (by intro hne; first | exact hne | ((try dsimp only at hne); omega))) (by first | rfl | assumption)) hS ?_
  refine WH.one 3 rfl (by kernel_rfl) (fun _ _ h => h) ?_
  refine WL.call1 ce16 (jt8 rfl (jt4 rfl (jt2 rfl (lh)))) (rnum_ok y.1 w12 hny.1) rfl ?_
  rintro _ w13 ⟨rfl, c1⟩
  have hS := hS.trans c1 (fun _ _ => id) (by intro i hi hg; first | exact hg | exact False.elim hg | omega | ((try dsimp only at hg ⊢); omega))
  refine WL.nil Nx.thn ⟨hS, ?_⟩
  refine WH.take 4 rfl (by kernel_rfl) (by kernel_rfl) (by kernel_rfl) (fun _ _ _ h => h) Gd.none rfl (fun w' hS' => X.addS lc (lh) (by simp only [ByteArray.size_append, szl, size_bs, List.size_toArray, List.length_cons, List.length_nil, List.length_append]; omega)) hS ?_
  refine WH.take 5 rfl (by kernel_rfl) (by kernel_rfl) (by kernel_rfl) (fun _ _ _ h => h) Gd.none rfl (fun w' hS' => X.addS (lh) lc (by simp only [ByteArray.size_append, szl, size_bs, List.size_toArray, List.length_cons, List.length_nil, List.length_append]; omega)) hS ?_
  refine WH.one 8 rfl (by kernel_rfl) (fun _ _ h => h) ?_
  refine WL.call1 ce33 (jt8 rfl (jt4 rfl (jt2 rfl (lt rfl (lh))))) (rlabel_ok y.2.2.1 w13) rfl ?_
  rintro _ _ ⟨rfl, rfl⟩
  refine WL.nil Nx.thn ⟨hS, ?_⟩
  refine WH.take 9 rfl (by kernel_rfl) (by kernel_rfl) (by kernel_rfl) (fun _ _ _ h => h) Gd.none rfl (fun w' hS' => X.addS (lt rfl (lh)) (lh) (by simp only [ByteArray.size_append, szl, size_bs, List.size_toArray, List.length_cons, List.length_nil, List.length_append]; omega)) hS ?_
  refine WH.one 12 rfl (by kernel_rfl) (fun _ _ h => h) ?_
  refine WL.call1 ce16 (jt8 rfl (jt4 rfl (jt2 rfl (lt rfl (lh))))) (rnum_ok y.2.1 w13 hny.2.1) rfl ?_
  rintro _ w14 ⟨rfl, c2⟩
  have hS := hS.trans c2 (fun _ _ => id) (by intro i hi hg; first | exact hg | exact False.elim hg | omega | ((try dsimp only at hg ⊢); omega))
  refine WL.nil Nx.thn ⟨hS, ?_⟩
  refine WH.take 13 rfl (by kernel_rfl) (by kernel_rfl) (by kernel_rfl) (fun _ _ _ h => h) Gd.none rfl (fun w' hS' => X.addS (lt rfl (lh)) (lh) (by simp only [ByteArray.size_append, szl, size_bs, List.size_toArray, List.length_cons, List.length_nil, List.length_append]; omega)) hS ?_
  refine WH.one 16 rfl (by kernel_rfl) (fun _ _ h => h) ?_
  refine WL.call1 ce32 (jt8 rfl (jt4 rfl (jt2 rfl (lt rfl (lh))))) (rkeyt_ok y.2.2.2.1 w14 (keyE_len (mayW_of hmy).2)) rfl ?_
  rintro _ _ ⟨rfl, rfl⟩
  refine WL.nil Nx.thn ⟨hS, ?_⟩
  refine WH.take 17 rfl (by kernel_rfl) (by kernel_rfl) (by kernel_rfl) (fun _ _ _ h => h) Gd.none rfl (fun w' hS' => X.addS (lt rfl (lh)) (lh) (by simp only [ByteArray.size_append, szl, size_bs, List.size_toArray, List.length_cons, List.length_nil, List.length_append]; omega)) hS ?_
  refine WH.one 20 rfl (by kernel_rfl) (fun _ _ h => h) ?_
  refine WL.call1 ce16 (jt8 rfl (jt4 rfl (jt2 rfl (lt rfl (lh))))) (rnum_ok y.2.2.2.2.1 w14 hny.2.2.1) rfl ?_
  rintro _ w15 ⟨rfl, c3⟩
  have hS := hS.trans c3 (fun _ _ => id) (by intro i hi hg; first | exact hg | exact False.elim hg | omega | ((try dsimp only at hg ⊢); omega))
  refine WL.nil Nx.thn ⟨hS, ?_⟩
  refine WH.take 21 rfl (by kernel_rfl) (by kernel_rfl) (by kernel_rfl) (fun _ _ _ h => h) Gd.none rfl (fun w' hS' => X.addS (lt rfl (lh)) (lh) (by simp only [ByteArray.size_append, szl, size_bs, List.size_toArray, List.length_cons, List.length_nil, List.length_append]; omega)) hS ?_
  refine WH.one 24 rfl (by kernel_rfl) (fun _ _ h => h) ?_
  refine WL.call1 ce16 (jt8 rfl (jt4 rfl (jt2 rfl (lt rfl (lh))))) (rnum_ok y.2.2.2.2.2.1 w15 hny.2.2.2) rfl ?_
  rintro _ w16 ⟨rfl, c4⟩
  have hS := hS.trans c4 (fun _ _ => id) (by intro i hi hg; first | exact hg | exact False.elim hg | omega | ((try dsimp only at hg ⊢); omega))
  refine WL.nil Nx.thn ⟨hS, ?_⟩
  refine WH.take 25 rfl (by kernel_rfl) (by kernel_rfl) (by kernel_rfl) (fun _ _ _ h => h) Gd.none rfl (fun w' hS' => X.addS (lt rfl (lh)) (lh) (by simp only [ByteArray.size_append, szl, size_bs, List.size_toArray, List.length_cons, List.length_nil, List.length_append]; omega)) hS ?_
  refine WH.one 28 rfl (by kernel_rfl) (fun _ _ h => h) ?_
  refine WL.call3 ce17 (jt8 rfl (jt4 rfl (jt2 rfl (lt rfl (lh))))) lc lc (reither_ok y.2.2.2.2.2.2.1 ⟨#[32, 110, 105, 108]⟩ ⟨#[32, 118, 97, 108, 117, 101]⟩ w16) rfl ?_
  rintro _ _ ⟨rfl, rfl⟩
  refine WL.nil Nx.thn ⟨hS, ?_⟩
  refine WH.take 29 rfl (by kernel_rfl) (by kernel_rfl) (by kernel_rfl) (fun _ _ _ h => h) Gd.none rfl (fun w' hS' => X.addS (lt rfl (lh)) (lh) (by simp only [ByteArray.size_append, szl, size_bs, List.size_toArray, List.length_cons, List.length_nil, List.length_append]; omega)) hS ?_
  refine WH.one 32 rfl (by kernel_rfl) (fun _ _ h => h) ?_
  refine WL.call3 ce17 (jt8 rfl (jt4 rfl (jt2 rfl (lt rfl (lh))))) lc lc (reither_ok y.2.2.2.2.2.2.2 ⟨#[32, 99, 111, 110, 100]⟩ ⟨#[32, 115, 117, 114, 101]⟩ w16) rfl ?_
  rintro _ _ ⟨rfl, rfl⟩
  refine WL.nil Nx.thn ⟨hS, ?_⟩
  refine WH.take 33 rfl (by kernel_rfl) (by kernel_rfl) (by kernel_rfl) (fun _ _ _ h => h) Gd.none rfl (fun w' hS' => X.addS (lt rfl (lh)) (lh) (by simp only [ByteArray.size_append, szl, size_bs, List.size_toArray, List.length_cons, List.length_nil, List.length_append]; omega)) hS ?_
  refine WH.take 34 rfl (by kernel_rfl) (by kernel_rfl) (by kernel_rfl) (fun _ _ _ h => h) Gd.none rfl (fun w' hS' => X.addS (lh) lc (by simp only [ByteArray.size_append, szl, size_bs, List.size_toArray, List.length_cons, List.length_nil, List.length_append]; omega)) hS ?_
  refine WH.take 35 rfl (by kernel_rfl) (by kernel_rfl) (by kernel_rfl) (fun _ _ _ h => h) Gd.none rfl (fun w' hS' => X.addS (jt8 rfl (jt8 rfl (jt8 rfl (jt8 rfl (jt2 rfl (lh)))))) (lh) (by simp only [ByteArray.size_append, szl, size_bs, List.size_toArray, List.length_cons, List.length_nil, List.length_append]; omega)) hS ?_
  refine WH.take 36 rfl (by kernel_rfl) (by kernel_rfl) (by kernel_rfl) (fun _ _ _ h => h) Gd.none rfl (fun w' hS' => X.asg (lh)) hS ?_
  refine WH.done (by kernel_rfl) ?_
  refine WL.e4 (Nx.blk Nx.thn) 3 42 43 44 (lh) (jt8 rfl (jt8 rfl (jt8 rfl (jt8 rfl (jt4 rfl (lt rfl (s42))))))) (jt8 rfl (jt8 rfl (jt8 rfl (jt8 rfl (jt4 rfl (lt rfl (s43))))))) (jt8 rfl (jt8 rfl (jt8 rfl (jt8 rfl (jt4 rfl (lt rfl (s44))))))) ?_
  intro σ7 s3 s42 s43 s44
  refine W.region ?_
  first | refine WL.x (X.add (s44) lc (by omega) (by omega)) rfl ?_ | refine WL.x (X.addw (s44) lc) rfl ?_
  refine WL.x (X.mv (lh)) rfl ?_
  refine WL.e4 Nx.thn 3 42 43 44 (jt2 rfl (s3)) (jt2 rfl (s42)) (jt2 rfl (s43)) (lh) ?_
  intro σ8 s3 s42 s43 s44
  refine ⟨k + 1, by omega, ⟨s42.trans qo3.symm, s43.trans qo4.symm, trivial⟩, _, s3, s44, (by rw [htq]; simp only [sb_app, sb_bs, sb_mk, sb_nil_, sb_cond, hSe]; unfold whyT wT; simp only [List.append_assoc, List.cons_append, List.nil_append]), by omega, hcl.trans0 hS⟩
 ·
  have hSz := sb_len S
  rw [hSe] at hSz
  simp only [List.length_append] at hSz
  have hlq9 := hlq k
  refine W.exit (Nx.xthn (Nx.xthn (Nx.xblk Nx.thn))) ?_
  refine W.seq ?_
  refine W.region ?_
  refine WL.x (X.mv (s3)) rfl ?_
  refine WL.x (X.addS (lh) lc (by simp only [ByteArray.size_append, szl, size_bs, List.size_toArray, List.length_cons, List.length_nil, List.length_append]; omega)) rfl ?_
  refine WL.x (X.asg (lh)) rfl ?_
  refine WL.e1 Nx.thn 2 (lh) ?_
  intro σ9 s2
  refine W.ret1 Nx.f1 s2 ?_
  exact ⟨fin_str (by rw [anT_eq]; rw [show k = x.2.2.2.2.2.2.1.length by omega, List.take_length] at hSe; simp only [sb_app, sb_bs, sb_mk, hSe, List.append_assoc]), hcl⟩
end Go.Proofs.YtbnllchicnmkiaaDoor
