/-
  A part of the walk of the program. | A part of the walk of the program.
-/
import Derived.Test.YtbnllchicnmkiaaGreatDoorPb10
section
set_option linter.unusedVariables false
set_option linter.unusedSimpArgs false
set_option maxRecDepth 100000
namespace Go.Proofs.YtbnllchicnmkiaaGreatDoor
open Go Go.RowKit Sg
theorem ce106 : Sg.Callee Tryz.prog 106 := ⟨_, Tryz.func106, by decide, rfl⟩
theorem ce85 : Sg.Callee Tryz.prog 85 := ⟨_, Tryz.func85, by decide, rfl⟩
theorem ce82 : Sg.Callee Tryz.prog 82 := ⟨_, Tryz.func82, by decide, rfl⟩
theorem ce41 : Sg.Callee Tryz.prog 41 := ⟨_, Tryz.func41, by decide, rfl⟩
theorem ce83 : Sg.Callee Tryz.prog 83 := ⟨_, Tryz.func83, by decide, rfl⟩
theorem ce42 : Sg.Callee Tryz.prog 42 := ⟨_, Tryz.func42, by decide, rfl⟩
theorem ce44 : Sg.Callee Tryz.prog 44 := ⟨_, Tryz.func44, by decide, rfl⟩

theorem dd_len {u : Nat} (h : u ≤ 9223372036854775808) : (Lib.decDigits u).length ≤ 21 := by
  by_cases h0 : u = 0
  · subst h0; rw [dd_zero]; decide
  · have := Lib.itoa_length_le (-(u : Int)) (by omega) (by omega)
    rw [Lib.itoa_neg u (by omega), List.length_cons] at this
    omega
/-- What is left of the number, and what is written of it. -/
def DD (u m : Nat) (r : Bs) : Prop := (r = [] ∧ m = u) ∨ (r ≠ [] ∧ Lib.decDigits u = (if m = 0 then [] else Lib.decDigits m) ++ r)
theorem DD.len {u m : Nat} {r : Bs} (h : DD u m r) (hu : u ≤ 9223372036854775808) : r.length ≤ 21 ∧ m ≤ u ∨ r.length ≤ 21 := by
  rcases h with ⟨rfl, _⟩ | ⟨_, h⟩
  · exact .inr (by simp)
  · have h1 := dd_len hu
    rw [h, List.length_append] at h1
    exact .inr (by omega)
theorem DD.next {u m : Nat} {r : Bs} (h : DD u m r) (hm : m ≠ 0 ∨ r = []) : DD u (m / 10) (UInt8.ofNat (48 + m % 10) :: r) := by
  refine .inr ⟨by simp, ?_⟩
  have key : Lib.decDigits m = (if m / 10 = 0 then [] else Lib.decDigits (m / 10)) ++ [UInt8.ofNat (48 + m % 10)] := by
    by_cases h10 : m < 10
    · rw [if_pos (by omega), dd_small h10, Nat.mod_eq_of_lt h10]; rfl
    · rw [if_neg (by omega), dd_big h10]
  rcases h with ⟨rfl, rfl⟩ | ⟨h1, h2⟩
  · exact key
  · have hm' : m ≠ 0 := hm.resolve_right h1
    rw [h2, if_neg hm', key, List.append_assoc]; rfl
theorem DD.fin {u : Nat} {r : Bs} (h : DD u 0 r) (hr : r ≠ []) : r = Lib.decDigits u := by
  rcases h with ⟨h1, _⟩ | ⟨_, h2⟩
  · exact absurd h1 hr
  · rw [h2, if_pos rfl]; rfl

set_option maxHeartbeats 800000 in
theorem digits_ok (u : Nat) (w : World) (hu : u ≤ 9223372036854775808) :
  Sg.Ret Tryz.prog 106 #[.int .i64 (-(u : Int))] w fun v w' => v = .string (bs (Lib.decDigits u)) ∧ Ch0 w w' := by
 refine enter1 (n := 21) (l := [.int .i64 (-(u : Int))]) Tryz.func106 rfl rfl rfl rfl ?_
 refine W.g1 0 (v1 := .int .i64 (-(u : Int))) rfl ?_; intro σ s0
 refine W.seq ?_
 refine W.region ?_
 refine WL.x (X.asg lc) rfl ?_
 refine WL.e1 Nx.thn 0 (lt rfl (s0)) ?_
 intro σ1 s0
 refine W.seq ?_
 refine W.region ?_
 refine WL.x (X.asg lc) rfl ?_
 refine WL.e2 Nx.thn 0 3 (lt rfl (s0)) (lh) ?_
 intro σ2 s0 s3
 refine W.seq ?_
 refine W.block ?_
 -- loop 0: kept [], varied [0, 3]
 refine W.loop (G := Nat × Bs) (fun (m, r) σ' w' => (True) ∧ (σ' 0 = .int .i64 (-(m : Int)) ∧ σ' 3 = .string (bs r) ∧ DD u m r ∧ m ≤ u ∧ Ch0 w w')) (fun (m, r) => m + (if r = [] then 1 else 0)) ((u, [])) ⟨trivial, s0, s3, .inl ⟨rfl, rfl⟩, Nat.le_refl _, Ch.refl _ _⟩ ?_
 rintro ⟨m, r⟩ σ3 w1 ⟨⟨_⟩, s0, s3, hdd, hmu, hcl⟩
 have hrl : r.length ≤ 21 := by rcases hdd.len hu with h | h; (· exact h.1); (· exact h)
 refine W.seq ?_
 refine W.seq ?_
 refine W.region ?_
 refine WL.x (X.mv (s0)) rfl ?_
 refine WL.x (X.lss (lh) lc) rfl ?_
 refine WL.x (X.mv (lh)) rfl ?_
 refine WL.splitp (lh) (fun h0 => ?_) (fun h0 => ?_)
 ·
  refine WL.no rfl rfl (lh) (decide_eq_true h0) rfl ?_
  refine WL.no rfl rfl (lt rfl (lh)) (decide_eq_true h0) rfl ?_
  refine WL.x (X.pickT (jt2 rfl (lh)) (decide_eq_true h0) lc) rfl ?_
  refine WL.e3 Nx.thn 0 3 9 (jt4 rfl (jt2 rfl (s0))) (jt4 rfl (jt2 rfl (s3))) (lh) ?_
  intro σ4 s0 s3 s9
  refine W.cndT s9 ?_
  refine W.skip Nx.thn ?_
  refine W.block ?_
  refine W.seq ?_
  refine W.region ?_
  refine WL.x (X.mv (s0)) rfl ?_
  refine WL.x (X.neg_rem (lh) lc) rfl ?_
  refine WL.x (X.sub lc (lh) (by omega) (by omega)) rfl ?_
  refine WL.x (X.convi Tryz.underlying3 Tryz.underlying5 (lh) (wrap_u8_in (by omega) (by omega))) rfl ?_
  refine WL.bslice Tryz.underlying74 el5 rfl (pcons (lh) pnil) rfl (rfl : _ = [_]) rfl ?_
  intro w2 u3_4; have hu3_4 := u3_4.at_; have cu3_4 := u3_4.ch; have zu3_4 := u3_4.size
  refine WL.x (v := .string (bs [UInt8.ofNat (48 + m % 10)])) (by rw [show 48 + m % 10 = (48 - -((m % 10 : Nat) : Int)).toNat by omega]; exact X.b2s1 Tryz.underlying74 Tryz.underlying5 Tryz.underlying9 (lh) hu3_4) rfl ?_
  refine WL.x (X.mv (jt4 rfl (jt2 rfl (s3)))) rfl ?_
  refine WL.x (v := .string (bs (UInt8.ofNat (48 + m % 10) :: r))) (by rw [show bs (UInt8.ofNat (48 + m % 10) :: r) = bs [UInt8.ofNat (48 + m % 10)] ++ bs r by rw [app_bs]; rfl]; exact X.addS (lt rfl (lh)) (lh) (by rw [size_bs, size_bs]; simp only [List.length_cons, List.length_nil]; omega)) rfl ?_
  refine WL.x (X.asg (lh)) rfl ?_
  refine WL.e2 Nx.thn 0 3 (jt8 rfl (lt rfl (s0))) (lh) ?_
  intro σ5 s0 s3
  refine W.region ?_
  refine WL.x (X.mv (s0)) rfl ?_
  refine WL.x (X.neg_quo (lh) lc (by omega)) rfl ?_
  refine WL.x (X.asg (lh)) rfl ?_
  refine WL.e2 (Nx.blk Nx.thn) 0 3 (lh) (jt2 rfl (lt rfl (s3))) ?_
  intro σ6 s0 s3
  have hmr : m ≠ 0 ∨ r = [] := by exact .inl (by omega)
  refine ⟨(m / 10, UInt8.ofNat (48 + m % 10) :: r), by (try dsimp only); rw [if_neg (by simp)]; rcases hmr with e | e; (· omega); (· rw [if_pos e]; omega), trivial, s0, s3, hdd.next hmr, by omega, hcl.trans0 cu3_4⟩
 ·
  refine WL.yes rfl rfl (lh) (decide_eq_false h0) ?_
  refine WL.x (X.mv (jt2 rfl (lt rfl (s3)))) rfl ?_
  refine WL.yes rfl rfl (lt rfl (lh)) (decide_eq_false h0) ?_
  refine WL.x (X.eqlS (lh) lc) rfl ?_
  refine WL.x (X.pickF (jt2 rfl (lh)) (decide_eq_false h0) (lh)) rfl ?_
  refine WL.e3 Nx.thn 0 3 9 (jt4 rfl (jt2 rfl (s0))) (jt4 rfl (jt2 rfl (s3))) (lh) ?_
  intro σ7 s0 s3 s9
  refine W.cndp s9 (fun hs => ?_) (fun hs => ?_)
  ·
   refine W.skip Nx.thn ?_
   refine W.block ?_
   refine W.seq ?_
   refine W.region ?_
   refine WL.x (X.mv (s0)) rfl ?_
   refine WL.x (X.neg_rem (lh) lc) rfl ?_
   refine WL.x (X.sub lc (lh) (by omega) (by omega)) rfl ?_
   refine WL.x (X.convi Tryz.underlying3 Tryz.underlying5 (lh) (wrap_u8_in (by omega) (by omega))) rfl ?_
   refine WL.bslice Tryz.underlying74 el5 rfl (pcons (lh) pnil) rfl (rfl : _ = [_]) rfl ?_
   intro w3 u3_4; have hu3_4 := u3_4.at_; have cu3_4 := u3_4.ch; have zu3_4 := u3_4.size
   refine WL.x (v := .string (bs [UInt8.ofNat (48 + m % 10)])) (by rw [show 48 + m % 10 = (48 - -((m % 10 : Nat) : Int)).toNat by omega]; exact X.b2s1 Tryz.underlying74 Tryz.underlying5 Tryz.underlying9 (lh) hu3_4) rfl ?_
   refine WL.x (X.mv (jt4 rfl (jt2 rfl (s3)))) rfl ?_
   refine WL.x (v := .string (bs (UInt8.ofNat (48 + m % 10) :: r))) (by rw [show bs (UInt8.ofNat (48 + m % 10) :: r) = bs [UInt8.ofNat (48 + m % 10)] ++ bs r by rw [app_bs]; rfl]; exact X.addS (lt rfl (lh)) (lh) (by rw [size_bs, size_bs]; simp only [List.length_cons, List.length_nil]; omega)) rfl ?_
   refine WL.x (X.asg (lh)) rfl ?_
   refine WL.e2 Nx.thn 0 3 (jt8 rfl (lt rfl (s0))) (lh) ?_
   intro σ8 s0 s3
   refine W.region ?_
   refine WL.x (X.mv (s0)) rfl ?_
   refine WL.x (X.neg_quo (lh) lc (by omega)) rfl ?_
   refine WL.x (X.asg (lh)) rfl ?_
   refine WL.e2 (Nx.blk Nx.thn) 0 3 (lh) (jt2 rfl (lt rfl (s3))) ?_
   intro σ9 s0 s3
   have hmr : m ≠ 0 ∨ r = [] := by exact .inr (bs_inj hs)
   refine ⟨(m / 10, UInt8.ofNat (48 + m % 10) :: r), by (try dsimp only); rw [if_neg (by simp)]; rcases hmr with e | e; (· omega); (· rw [if_pos e]; omega), trivial, s0, s3, hdd.next hmr, by omega, hcl.trans0 cu3_4⟩
  ·
   refine W.exit (Nx.xthn (Nx.xthn (Nx.xblk Nx.thn))) ?_
   refine W.seq ?_
   refine W.region ?_
   refine WL.x (X.mv (s3)) rfl ?_
   refine WL.x (X.asg (lh)) rfl ?_
   refine WL.e1 Nx.thn 2 (lh) ?_
   intro σ10 s2
   refine W.ret1 Nx.f1 s2 ?_
   have hm0 : m = 0 := by omega
   subst hm0
   rw [← hdd.fin (fun e => hs (by rw [e]; rfl))]
   exact ⟨rfl, hcl⟩
theorem decimal_ok (n : Int) (w : World) (h1 : -9223372036854775808 ≤ n) (h2 : n ≤ 9223372036854775807) :
  Sg.Ret Tryz.prog 82 #[.int .i64 n] w fun v w' => v = .string (bs (Lib.itoa n)) ∧ Ch0 w w' := by
 refine enter1 (n := 11) (l := [.int .i64 n]) Tryz.func82 rfl rfl rfl rfl ?_
 refine W.g1 0 (v1 := .int .i64 n) rfl ?_; intro σ s0
 refine W.seq ?_
 refine W.region ?_
 refine WL.x (X.asg lc) rfl ?_
 refine WL.e1 Nx.thn 0 (lt rfl (s0)) ?_
 intro σ1 s0
 refine W.seq ?_
 refine W.seq ?_
 refine W.region ?_
 refine WL.x (X.mv (s0)) rfl ?_
 refine WL.x (X.geq (lh) lc) rfl ?_
 refine WL.e2 Nx.thn 0 4 (jt2 rfl (s0)) (lh) ?_
 intro σ2 s0 s4
 refine W.cndp s4 (fun hn => ?_) (fun hn => ?_)
 ·
  refine W.seq ?_
  refine W.region ?_
  refine WL.x (X.mv (s0)) rfl ?_
  refine WL.x (v := .int .i64 (-(n.toNat : Int))) (by rw [show (n.toNat : Int) = n by omega]; exact X.neg (lh) (by omega) (by omega)) rfl ?_
  refine WL.call1 ce106 (lh) (digits_ok n.toNat w (by omega)) rfl ?_
  rintro _ w1 ⟨rfl, c1⟩
  refine WL.x (X.asg (lh)) rfl ?_
  refine WL.e1 Nx.thn 2 (lh) ?_
  intro σ3 s2
  refine W.ret1 (Nx.rthn Nx.f1) s2 ?_
  exact ⟨by unfold Lib.itoa; rw [if_neg (by omega)], c1⟩
 ·
  refine W.skip Nx.thn ?_
  refine W.seq ?_
  refine W.region ?_
  refine WL.x (v := .int .i64 (-(n.natAbs : Int))) (by rw [show (-(n.natAbs : Int)) = n by omega]; exact X.mv s0) rfl ?_
  refine WL.call1 ce106 (lh) (digits_ok n.natAbs w (by omega)) rfl ?_
  rintro _ w2 ⟨rfl, c1⟩
  refine WL.x (v := .string (bs (45 :: Lib.decDigits n.natAbs))) (by rw [show bs (45 :: Lib.decDigits n.natAbs) = bs [45] ++ bs (Lib.decDigits n.natAbs) by rw [app_bs]; rfl]; exact X.addS lc (lh) (by rw [size_bs, size_bs]; have := dd_len (u := n.natAbs) (by omega); simp only [List.length_cons, List.length_nil]; omega)) rfl ?_
  refine WL.x (X.asg (lh)) rfl ?_
  refine WL.e1 Nx.thn 2 (lh) ?_
  intro σ4 s2
  refine W.ret1 Nx.f1 s2 ?_
  exact ⟨by unfold Lib.itoa; rw [if_pos (by omega)], c1⟩

theorem szl (l : Array UInt8) : (⟨l⟩ : ByteArray).size = l.size := rfl
theorem sb_mk (a : Array UInt8) : sb ⟨a⟩ = a.toList := rfl
theorem sb_inj {a b : ByteArray} (h : sb a = sb b) : a = b := by rw [← bs_sb a, ← bs_sb b, h]
theorem sb_app (a b : ByteArray) : sb (a ++ b) = sb a ++ sb b := by rw [app_bs, sb_bs]
theorem fin_str {a b : ByteArray} (h : sb a = sb b) : Value.string a = .string b := by rw [sb_inj h]
theorem keyT_no : keyT no = [32, 40, 32, 41] := by unfold keyT; rw [if_pos rfl]; rfl
theorem keyT_go {k : ByteArray} (h : k ≠ no) : keyT k = [32, 40, 32] ++ (sb k ++ [32, 41]) := by unfold keyT; rw [if_neg h]; unfold wT; rfl
theorem sb_real (x : Bool) : sb (bsel x ⟨#[32, 114, 101, 97, 108, 32]⟩ ⟨#[32, 112, 108, 97, 105, 110, 32]⟩) = wT (bsel x wReal wPlain) ++ [32] := by cases x <;> rfl
theorem sb_nil_ (x : Bool) : sb (bsel x ⟨#[32, 110, 105, 108]⟩ ⟨#[32, 118, 97, 108, 117, 101]⟩) = wT (bsel x wNil wValue) := by cases x <;> rfl
theorem sb_cond (x : Bool) : sb (bsel x ⟨#[32, 99, 111, 110, 100]⟩ ⟨#[32, 115, 117, 114, 101]⟩) = wT (bsel x wCond wSure) := by cases x <;> rfl
theorem sz_real (x : Bool) : (bsel x ⟨#[32, 114, 101, 97, 108, 32]⟩ ⟨#[32, 112, 108, 97, 105, 110, 32]⟩).size ≤ 7 := by cases x <;> decide
theorem sz_nil (x : Bool) : (bsel x ⟨#[32, 110, 105, 108]⟩ ⟨#[32, 118, 97, 108, 117, 101]⟩).size ≤ 6 := by cases x <;> decide
theorem sz_cond (x : Bool) : (bsel x ⟨#[32, 99, 111, 110, 100]⟩ ⟨#[32, 115, 117, 114, 101]⟩).size ≤ 5 := by cases x <;> decide
theorem sz_yes (x : Bool) : (bsel x wYes wNo).size ≤ 3 := by cases x <;> decide
theorem lvl_sz (n : Int) : (levelN n).size ≤ 7 := nameW_len (l := VWS) (B := 7) (by decide) n
theorem kind_sz (n : Int) : (kindN n).size ≤ 8 := nameW_len (l := no :: KWS) (B := 8) (by decide) n
theorem ans_sz (n : Int) : (answerN n).size ≤ 7 := nameW_len (l := AWS) (B := 7) (by decide) n
theorem lbl_sz (n : Int) : (labelN n).size ≤ 2 := by unfold labelN; split; · decide
                                                     split; · decide
                                                     split; · decide
                                                     split <;> decide
theorem kindW_at {k : Int} (h : 1 ≤ k ∧ k ≤ 11) : (KWS.map Value.string).toArray[0 + (k - 1).toNat * 1]? = some (.string (kindN k)) := by
  have : k = 1 ∨ k = 2 ∨ k = 3 ∨ k = 4 ∨ k = 5 ∨ k = 6 ∨ k = 7 ∨ k = 8 ∨ k = 9 ∨ k = 10 ∨ k = 11 := by omega
  rcases this with rfl | rfl | rfl | rfl | rfl | rfl | rfl | rfl | rfl | rfl | rfl <;> rfl
theorem levelW_at {k : Int} (h : 0 ≤ k ∧ k ≤ 5) : (VWS.map Value.string).toArray[0 + k.toNat * 1]? = some (.string (levelN k)) := by
  have : k = 0 ∨ k = 1 ∨ k = 2 ∨ k = 3 ∨ k = 4 ∨ k = 5 := by omega
  rcases this with rfl | rfl | rfl | rfl | rfl | rfl <;> rfl
theorem answerW_at {k : Int} (h : 0 ≤ k ∧ k ≤ 3) : (AWS.map Value.string).toArray[0 + k.toNat * 1]? = some (.string (answerN k)) := by
  have : k = 0 ∨ k = 1 ∨ k = 2 ∨ k = 3 := by omega
  rcases this with rfl | rfl | rfl | rfl <;> rfl

theorem rkindst_ok (w : World) :
  Sg.Ret Tryz.prog 72 #[] w fun v w' => ∃ g, v = .slice (some ⟨g, 0, none⟩) 11 11 ∧ w'.heap[g]? = some (.cells (KWS.map Value.string).toArray 9 (0, 0)) ∧ w.heap.size ≤ g ∧ Ch0 w w' := by
 refine enter1 (n := 2) (l := []) Tryz.func72 rfl rfl rfl rfl ?_
 refine W.g0 ?_; intro σ
 refine W.seq ?_
 refine W.region ?_
 refine WL.x (X.asg lc) rfl ?_
 refine WL.e0 Nx.thn  ?_
 intro σ1 
 refine W.seq ?_
 refine W.region ?_
 refine WL.bslice Tryz.underlying39 el9 rfl (pcons lc (pcons lc (pcons lc (pcons lc (pcons lc (pcons lc (pcons lc (pcons lc (pcons lc (pcons lc (pcons lc pnil))))))))))) rfl (rfl : _ = [_, _, _, _, _, _, _, _, _, _, _]) rfl ?_
 intro w1 u1_0; have hu1_0 := u1_0.at_; have cu1_0 := u1_0.ch; have zu1_0 := u1_0.size
 refine WL.x (X.asg (lh)) rfl ?_
 refine WL.e1 Nx.thn 0 (lh) ?_
 intro σ2 s0
 refine W.ret1 Nx.f1 s0 ?_
 exact ⟨_, rfl, hu1_0, Nat.le_refl _, cu1_0⟩
theorem rnames_ok (w : World) :
  Sg.Ret Tryz.prog 85 #[] w fun v w' => ∃ g, v = .slice (some ⟨g, 0, none⟩) 6 6 ∧ w'.heap[g]? = some (.cells (VWS.map Value.string).toArray 9 (0, 0)) ∧ w.heap.size ≤ g ∧ Ch0 w w' := by
 refine enter1 (n := 2) (l := []) Tryz.func85 rfl rfl rfl rfl ?_
 refine W.g0 ?_; intro σ
 refine W.seq ?_
 refine W.region ?_
 refine WL.x (X.asg lc) rfl ?_
 refine WL.e0 Nx.thn  ?_
 intro σ1 
 refine W.seq ?_
 refine W.region ?_
 refine WL.bslice Tryz.underlying39 el9 rfl (pcons lc (pcons lc (pcons lc (pcons lc (pcons lc (pcons lc pnil)))))) rfl (rfl : _ = [_, _, _, _, _, _]) rfl ?_
 intro w1 u1_0; have hu1_0 := u1_0.at_; have cu1_0 := u1_0.ch; have zu1_0 := u1_0.size
 refine WL.x (X.asg (lh)) rfl ?_
 refine WL.e1 Nx.thn 0 (lh) ?_
 intro σ2 s0
 refine W.ret1 Nx.f1 s0 ?_
 exact ⟨_, rfl, hu1_0, Nat.le_refl _, cu1_0⟩
theorem rname_ok (a : Int) (w : World) :
  Sg.Ret Tryz.prog 44 #[.int .i64 a] w fun v w' => v = .string (levelN a) ∧ Ch0 w w' := by
 refine enter1 (n := 13) (l := [.int .i64 a]) Tryz.func44 rfl rfl rfl rfl ?_
 refine W.g1 0 (v1 := .int .i64 a) rfl ?_; intro σ s0
 refine W.seq ?_
 refine W.region ?_
 refine WL.x (X.asg lc) rfl ?_
 refine WL.e1 Nx.thn 0 (lt rfl (s0)) ?_
 intro σ1 s0
 refine W.seq ?_
 refine W.seq ?_
 refine W.region ?_
 refine WL.x (X.mv (s0)) rfl ?_
 refine WL.x (X.lss (lh) lc) rfl ?_
 refine WL.x (X.mv (lh)) rfl ?_
 refine WL.splitp (lh) (fun qb1 => ?_) (fun qb1 => ?_)
 ·
  refine WL.no rfl rfl (lh) (decide_eq_true qb1) rfl ?_
  refine WL.no rfl rfl (lt rfl (lh)) (decide_eq_true qb1) rfl ?_
  refine WL.x (X.pickT (jt2 rfl (lh)) (decide_eq_true qb1) lc) rfl ?_
  refine WL.e2 Nx.thn 0 8 (jt4 rfl (jt2 rfl (s0))) (lh) ?_
  intro σ2 s0 s8
  refine W.cndT s8 ?_
  refine W.seq ?_
  refine W.region ?_
  refine WL.x (X.asg lc) rfl ?_
  refine WL.e1 Nx.thn 2 (lh) ?_
  intro σ3 s2
  refine W.ret1 (Nx.rthn Nx.f1) s2 ?_
  exact ⟨by rw [levelN_out (by omega)]; rfl, Ch.refl _ _⟩
 ·
  refine WL.yes rfl rfl (lh) (decide_eq_false qb1) ?_
  refine WL.x (X.mv (jt2 rfl (lt rfl (s0)))) rfl ?_
  refine WL.yes rfl rfl (lt rfl (lh)) (decide_eq_false qb1) ?_
  refine WL.x (X.gtr (lh) lc) rfl ?_
  refine WL.x (X.pickF (jt2 rfl (lh)) (decide_eq_false qb1) (lh)) rfl ?_
  refine WL.e2 Nx.thn 0 8 (jt4 rfl (jt2 rfl (s0))) (lh) ?_
  intro σ4 s0 s8
  refine W.cndp s8 (fun h1 => ?_) (fun h1 => ?_)
  ·
   refine W.seq ?_
   refine W.region ?_
   refine WL.x (X.asg lc) rfl ?_
   refine WL.e1 Nx.thn 2 (lh) ?_
   intro σ5 s2
   refine W.ret1 (Nx.rthn Nx.f1) s2 ?_
   exact ⟨by rw [levelN_out (by omega)]; rfl, Ch.refl _ _⟩
  ·
   refine W.skip Nx.thn ?_
   refine W.seq ?_
   refine W.region ?_
   refine WL.call0 ce85  (rnames_ok w) rfl ?_
   rintro _ w1 ⟨g, rfl, hg, hgz, c1⟩
   refine WL.x (X.mv (lt rfl (s0))) rfl ?_
   refine WL.x (X.indexAddr Tryz.underlying39 el9 (lt rfl (lh)) (lh) (by omega) (by omega)) rfl ?_
   have hin : 0 ≤ a ∧ a ≤ 5 := by omega
   refine WL.x (X.load pl9 (lh) hg (v := .string (levelN a)) (levelW_at hin)) rfl ?_
   refine WL.x (X.asg (lh)) rfl ?_
   refine WL.e1 Nx.thn 2 (lh) ?_
   intro σ6 s2
   refine W.ret1 Nx.f1 s2 ?_
   exact ⟨rfl, c1⟩
theorem rnumt_ok (n : Int) (w : World) (h : in64 n) :
  Sg.Ret Tryz.prog 41 #[.int .i64 n] w fun v w' => v = .string (bs (valT n)) ∧ Ch0 w w' := by
 refine enter1 (n := 6) (l := [.int .i64 n]) Tryz.func41 rfl rfl rfl rfl ?_
 refine W.g1 0 (v1 := .int .i64 n) rfl ?_; intro σ s0
 refine W.seq ?_
 refine W.region ?_
 refine WL.x (X.asg lc) rfl ?_
 refine WL.e1 Nx.thn 0 (lt rfl (s0)) ?_
 intro σ1 s0
 refine W.seq ?_
 refine W.region ?_
 refine WL.x (X.mv (s0)) rfl ?_
 refine WL.call1 ce82 (lh) (decimal_ok n w h.1 h.2) rfl ?_
 rintro _ w1 ⟨rfl, c1⟩
 have hi := Lib.itoa_length_le n h.1 h.2
 refine WL.x (X.addS lc (lh) (by simp only [ByteArray.size_append, szl, size_bs, List.size_toArray, List.length_cons, List.length_nil, List.length_append]; omega)) rfl ?_
 refine WL.x (X.asg (lh)) rfl ?_
 refine WL.e1 Nx.thn 2 (lh) ?_
 intro σ2 s2
 refine W.ret1 Nx.f1 s2 ?_
 exact ⟨fin_str (by rw [sb_app, sb_bs, sb_bs]; rfl), c1⟩
theorem rkeyt_ok (s : ByteArray) (w : World) (hs : s.size ≤ 6) :
  Sg.Ret Tryz.prog 83 #[.string s] w fun v w' => v = .string (bs (keyT s)) ∧ w = w' := by
 refine enter1 (n := 8) (l := [.string s]) Tryz.func83 rfl rfl rfl rfl ?_
 refine W.g1 0 (v1 := .string s) rfl ?_; intro σ s0
 refine W.seq ?_
 refine W.region ?_
 refine WL.x (X.asg lc) rfl ?_
 refine WL.e1 Nx.thn 0 (lt rfl (s0)) ?_
 intro σ1 s0
 refine W.seq ?_
 refine W.seq ?_
 refine W.region ?_
 refine WL.x (X.mv (s0)) rfl ?_
 refine WL.x (X.eqlS (lh) lc) rfl ?_
 refine WL.e2 Nx.thn 0 4 (jt2 rfl (s0)) (lh) ?_
 intro σ2 s0 s4
 refine W.cndp s4 (fun h1 => ?_) (fun h1 => ?_)
 ·
  refine W.seq ?_
  refine W.region ?_
  refine WL.x (X.asg lc) rfl ?_
  refine WL.e1 Nx.thn 2 (lh) ?_
  intro σ3 s2
  refine W.ret1 (Nx.rthn Nx.f1) s2 ?_
  exact ⟨by rw [show s = no from h1, keyT_no]; rfl, rfl⟩
 ·
  refine W.skip Nx.thn ?_
  refine W.seq ?_
  refine W.region ?_
  refine WL.x (X.mv (s0)) rfl ?_
  refine WL.x (X.addS lc (lh) (by simp only [ByteArray.size_append, szl, size_bs, List.size_toArray, List.length_cons, List.length_nil, List.length_append]; omega)) rfl ?_
  refine WL.x (X.addS (lh) lc (by simp only [ByteArray.size_append, szl, size_bs, List.size_toArray, List.length_cons, List.length_nil, List.length_append]; omega)) rfl ?_
  refine WL.x (X.asg (lh)) rfl ?_
  refine WL.e1 Nx.thn 2 (lh) ?_
  intro σ4 s2
  refine W.ret1 Nx.f1 s2 ?_
  exact ⟨fin_str (by rw [keyT_go h1]; simp only [sb_app, sb_mk, sb_bs, List.append_assoc]), rfl⟩
set_option maxHeartbeats 6400000 in
theorem ranom_ok (A : Nat → Prop) (x : GAn) (es : List Value) (w : World) (h : RAn A w es x) (hma : mayA keyE x = true) :
  Sg.Ret Tryz.prog 43 #[.agg es.toArray] w fun v w' => v = .string (bs (anT x)) ∧ Ch0 w w' := by
 have hna := ran_num h
 obtain ⟨v, rfl, hs, hb⟩ := h
 obtain ⟨va, vc, rfl⟩ := hs.len
 obtain ⟨hla1, hla2, hla3⟩ := an_len hma hna
 obtain ⟨ma1, ma2, ma3, ma4, ma5⟩ := mayA_of hma
 have hkz := keyE_len ma2
 have hlq := fun q => fm_take_len (f := whyT) (M := 300) (B := 150) q hla2 ma4
 have z1 := valT_len hna.1
 have z2 := valT_len hna.2.1
 have z3 := valT_len hna.2.2.1
 have z4 := valT_len hna.2.2.2.1
 have z5 := keyT_len hkz
 have z6 := sz_real x.2.2.2.2.2.2.2.1
 have z7 := lvl_sz x.2.2.2.2.2.2.2.2
 have z8 := kind_sz x.1
 refine enter1 (n := 87) (l := [.agg #[.int .i64 x.1, .int .i64 x.2.1, .int .i64 x.2.2.1, .int .i64 x.2.2.2.1, .string x.2.2.2.2.1, .int .i64 x.2.2.2.2.2.1, .slice va x.2.2.2.2.2.2.1.length vc, .bool x.2.2.2.2.2.2.2.1, .int .i64 x.2.2.2.2.2.2.2.2]]) Tryz.func43 rfl rfl rfl rfl ?_
 refine W.g1 0 (v1 := .agg #[.int .i64 x.1, .int .i64 x.2.1, .int .i64 x.2.2.1, .int .i64 x.2.2.2.1, .string x.2.2.2.2.1, .int .i64 x.2.2.2.2.2.1, .slice va x.2.2.2.2.2.2.1.length vc, .bool x.2.2.2.2.2.2.2.1, .int .i64 x.2.2.2.2.2.2.2.2]) rfl ?_; intro σ s0
 refine W.seq ?_
 refine W.region ?_
 refine WL.box (s0) rfl ?_
 intro w1 u0_0; have hu0_0 := u0_0.at_; have cu0_0 := u0_0.ch; have zu0_0 := u0_0.size
 refine WL.x (X.asg lc) rfl ?_
 refine WL.e1 Nx.thn 1 (lt rfl (lh)) ?_
 intro σ1 s1
 refine W.seq ?_
 refine W.held (fun w' => Ch (fun _ => False) w1 w') mo ?_
 intro w2 qhh1 qc2
 have hS : Ch (fun _ => False) w1 w2 := Ch.weak qc2
 have hzqc2 := qc2.size
 have cdh1 := qc2
 refine WH.take 1 rfl (by kernel_rfl) (by kernel_rfl) (by kernel_rfl) (fun _ _ _ h => h) Gd.none rfl (fun w' hS' => X.fieldAddr fd67_0 (s1)) hS ?_
 refine WH.take 2 rfl (by kernel_rfl) (by kernel_rfl) (by kernel_rfl) (fun _ _ _ h => h) Gd.none rfl (fun w' hS' => X.load pl3 (lh) (by exact hS'.at (by assumption) (by intro hne; exact hne)) (by rfl)) hS ?_
 refine WH.take 3 rfl (by kernel_rfl) (by kernel_rfl) (by kernel_rfl) (fun _ _ _ h => h) Gd.none rfl (fun w' hS' => X.sub (lh) lc (by omega) (by omega)) hS ?_
 refine WH.take 7 rfl (by kernel_rfl) (by kernel_rfl) (by kernel_rfl) (fun _ _ _ h => h) Gd.none rfl (fun w' hS' => X.fieldAddr fd67_1 (jt2 rfl (lt rfl (s1)))) hS ?_
 refine WH.take 8 rfl (by kernel_rfl) (by kernel_rfl) (by kernel_rfl) (fun _ _ _ h => h) Gd.none rfl (fun w' hS' => X.load pl3 (lh) (by exact hS'.at (by assumption) (by intro hne; exact hne)) (by rfl)) hS ?_
 refine WH.take 11 rfl (by kernel_rfl) (by kernel_rfl) (by kernel_rfl) (fun _ _ _ h => h) Gd.none rfl (fun w' hS' => X.fieldAddr fd67_2 (jt4 rfl (lt rfl (s1)))) hS ?_
 refine WH.take 12 rfl (by kernel_rfl) (by kernel_rfl) (by kernel_rfl) (fun _ _ _ h => h) Gd.none rfl (fun w' hS' => X.load pl3 (lh) (by exact hS'.at (by assumption) (by intro hne; exact hne)) (by rfl)) hS ?_
 refine WH.take 15 rfl (by kernel_rfl) (by kernel_rfl) (by kernel_rfl) (fun _ _ _ h => h) Gd.none rfl (fun w' hS' => X.fieldAddr fd67_3 (jt4 rfl (jt2 rfl (lt rfl (s1))))) hS ?_
 refine WH.take 16 rfl (by kernel_rfl) (by kernel_rfl) (by kernel_rfl) (fun _ _ _ h => h) Gd.none rfl (fun w' hS' => X.load pl3 (lh) (by exact hS'.at (by assumption) (by intro hne; exact hne)) (by rfl)) hS ?_
 refine WH.take 19 rfl (by kernel_rfl) (by kernel_rfl) (by kernel_rfl) (fun _ _ _ h => h) Gd.none rfl (fun w' hS' => X.fieldAddr fd67_4 (jt8 rfl (lt rfl (s1)))) hS ?_
 refine WH.take 20 rfl (by kernel_rfl) (by kernel_rfl) (by kernel_rfl) (fun _ _ _ h => h) Gd.none rfl (fun w' hS' => X.load pl9 (lh) (by exact hS'.at (by assumption) (by intro hne; exact hne)) (by rfl)) hS ?_
 refine WH.take 23 rfl (by kernel_rfl) (by kernel_rfl) (by kernel_rfl) (fun _ _ _ h => h) Gd.none rfl (fun w' hS' => X.fieldAddr fd67_5 (jt8 rfl (jt2 rfl (lt rfl (s1))))) hS ?_
 refine WH.take 24 rfl (by kernel_rfl) (by kernel_rfl) (by kernel_rfl) (fun _ _ _ h => h) Gd.none rfl (fun w' hS' => X.load pl3 (lh) (by exact hS'.at (by assumption) (by intro hne; exact hne)) (by rfl)) hS ?_
 refine WH.take 27 rfl (by kernel_rfl) (by kernel_rfl) (by kernel_rfl) (fun _ _ _ h => h) Gd.none rfl (fun w' hS' => X.fieldAddr fd67_7 (jt8 rfl (jt4 rfl (lt rfl (s1))))) hS ?_
 refine WH.take 28 rfl (by kernel_rfl) (by kernel_rfl) (by kernel_rfl) (fun _ _ _ h => h) Gd.none rfl (fun w' hS' => X.load pl4 (lh) (by exact hS'.at (by assumption) (by intro hne; exact hne)) (by rfl)) hS ?_
 refine WH.take 31 rfl (by kernel_rfl) (by kernel_rfl) (by kernel_rfl) (fun _ _ _ h => h) Gd.none rfl (fun w' hS' => X.fieldAddr fd67_8 (jt8 rfl (jt4 rfl (jt2 rfl (lt rfl (s1)))))) hS ?_
 refine WH.take 32 rfl (by kernel_rfl) (by kernel_rfl) (by kernel_rfl) (fun _ _ _ h => h) Gd.none rfl (fun w' hS' => X.load pl3 (lh) (by exact hS'.at (by assumption) (by intro hne; exact hne)) (by rfl)) hS ?_
 refine WH.one 0 rfl (by kernel_rfl) (fun _ _ h => h) ?_
 refine WL.call0 ce72  (rkindst_ok w2) rfl ?_
 rintro _ w3 ⟨g, rfl, hE, hgz, ck⟩
 have hS := hS.trans ck (fun _ _ => id) (by intro i hi hg; exact hg)
 refine WL.nil Nx.thn ⟨hS, ?_⟩
 refine WH.grow (S' := fun w' => Ch (fun _ => False) w1 w' ∧ w'.heap[g]? = some (.cells (KWS.map Value.string).toArray 9 (0, 0))) (fun _ h => h.1) ?_
 refine WH.take 4 rfl (by kernel_rfl) (by kernel_rfl) (by kernel_rfl) (fun _ _ _ h => h) Gd.none rfl (fun w' ⟨hS', hE'⟩ => X.indexAddr Tryz.underlying39 el9 (lh) (jt8 rfl (jt4 rfl (jt2 rfl (lt rfl (lh))))) (by omega) (by omega)) ⟨hS, hE⟩ ?_
 refine WH.take 5 rfl (by kernel_rfl) (by kernel_rfl) (by kernel_rfl) (fun _ _ _ h => h) Gd.none rfl (fun w' ⟨hS', hE'⟩ => X.load pl9 (lh) hE' (v := .string (kindN x.1)) (kindW_at ma1)) ⟨hS, hE⟩ ?_
 refine WH.take 6 rfl (by kernel_rfl) (by kernel_rfl) (by kernel_rfl) (fun _ _ _ h => h) Gd.none rfl (fun w' ⟨hS', hE'⟩ => X.addS lc (lh) (by simp only [ByteArray.size_append, szl, size_bs, List.size_toArray, List.length_cons, List.length_nil, List.length_append]; omega)) ⟨hS, hE⟩ ?_
 refine WH.one 9 rfl (by kernel_rfl) (fun _ _ h => h) ?_
 refine WL.call1 ce41 (jt8 rfl (jt8 rfl (lh))) (rnumt_ok x.2.1 w3 hna.1) rfl ?_
 rintro _ w4 ⟨rfl, c1⟩
 have hS := hS.trans c1 (fun _ _ => id) (by intro i hi hg; exact hg)
 replace hE := c1.at0 hE
 refine WL.nil Nx.thn ⟨⟨hS, hE⟩, ?_⟩
 refine WH.take 10 rfl (by kernel_rfl) (by kernel_rfl) (by kernel_rfl) (fun _ _ _ h => h) Gd.none rfl (fun w' ⟨hS', hE'⟩ => X.addS (lt rfl (lh)) (lh) (by simp only [ByteArray.size_append, szl, size_bs, List.size_toArray, List.length_cons, List.length_nil, List.length_append]; omega)) ⟨hS, hE⟩ ?_
 refine WH.one 13 rfl (by kernel_rfl) (fun _ _ h => h) ?_
 refine WL.call1 ce41 (jt8 rfl (jt8 rfl (lh))) (rnumt_ok x.2.2.1 w4 hna.2.1) rfl ?_
 rintro _ w5 ⟨rfl, c2⟩
 have hS := hS.trans c2 (fun _ _ => id) (by intro i hi hg; exact hg)
 replace hE := c2.at0 hE
 refine WL.nil Nx.thn ⟨⟨hS, hE⟩, ?_⟩
 refine WH.take 14 rfl (by kernel_rfl) (by kernel_rfl) (by kernel_rfl) (fun _ _ _ h => h) Gd.none rfl (fun w' ⟨hS', hE'⟩ => X.addS (lt rfl (lh)) (lh) (by simp only [ByteArray.size_append, szl, size_bs, List.size_toArray, List.length_cons, List.length_nil, List.length_append]; omega)) ⟨hS, hE⟩ ?_
 refine WH.one 17 rfl (by kernel_rfl) (fun _ _ h => h) ?_
 refine WL.call1 ce41 (jt8 rfl (jt8 rfl (lh))) (rnumt_ok x.2.2.2.1 w5 hna.2.2.1) rfl ?_
 rintro _ w6 ⟨rfl, c3⟩
 have hS := hS.trans c3 (fun _ _ => id) (by intro i hi hg; exact hg)
 replace hE := c3.at0 hE
 refine WL.nil Nx.thn ⟨⟨hS, hE⟩, ?_⟩
 refine WH.take 18 rfl (by kernel_rfl) (by kernel_rfl) (by kernel_rfl) (fun _ _ _ h => h) Gd.none rfl (fun w' ⟨hS', hE'⟩ => X.addS (lt rfl (lh)) (lh) (by simp only [ByteArray.size_append, szl, size_bs, List.size_toArray, List.length_cons, List.length_nil, List.length_append]; omega)) ⟨hS, hE⟩ ?_
 refine WH.one 21 rfl (by kernel_rfl) (fun _ _ h => h) ?_
 refine WL.call1 ce83 (jt8 rfl (jt8 rfl (lh))) (rkeyt_ok x.2.2.2.2.1 w6 hkz) rfl ?_
 rintro _ _ ⟨rfl, rfl⟩
 refine WL.nil Nx.thn ⟨⟨hS, hE⟩, ?_⟩
 refine WH.take 22 rfl (by kernel_rfl) (by kernel_rfl) (by kernel_rfl) (fun _ _ _ h => h) Gd.none rfl (fun w' ⟨hS', hE'⟩ => X.addS (lt rfl (lh)) (lh) (by simp only [ByteArray.size_append, szl, size_bs, List.size_toArray, List.length_cons, List.length_nil, List.length_append]; omega)) ⟨hS, hE⟩ ?_
 refine WH.one 25 rfl (by kernel_rfl) (fun _ _ h => h) ?_
 refine WL.call1 ce41 (jt8 rfl (jt8 rfl (lh))) (rnumt_ok x.2.2.2.2.2.1 w6 hna.2.2.2.1) rfl ?_
 rintro _ w7 ⟨rfl, c4⟩
 have hS := hS.trans c4 (fun _ _ => id) (by intro i hi hg; exact hg)
 replace hE := c4.at0 hE
 refine WL.nil Nx.thn ⟨⟨hS, hE⟩, ?_⟩
 refine WH.take 26 rfl (by kernel_rfl) (by kernel_rfl) (by kernel_rfl) (fun _ _ _ h => h) Gd.none rfl (fun w' ⟨hS', hE'⟩ => X.addS (lt rfl (lh)) (lh) (by simp only [ByteArray.size_append, szl, size_bs, List.size_toArray, List.length_cons, List.length_nil, List.length_append]; omega)) ⟨hS, hE⟩ ?_
 refine WH.one 29 rfl (by kernel_rfl) (fun _ _ h => h) ?_
 refine WL.call3 ce42 (jt8 rfl (jt8 rfl (lh))) lc lc (reither_ok x.2.2.2.2.2.2.2.1 ⟨#[32, 114, 101, 97, 108, 32]⟩ ⟨#[32, 112, 108, 97, 105, 110, 32]⟩ w7) rfl ?_
 rintro _ _ ⟨rfl, rfl⟩
 refine WL.nil Nx.thn ⟨⟨hS, hE⟩, ?_⟩
 refine WH.take 30 rfl (by kernel_rfl) (by kernel_rfl) (by kernel_rfl) (fun _ _ _ h => h) Gd.none rfl (fun w' ⟨hS', hE'⟩ => X.addS (lt rfl (lh)) (lh) (by simp only [ByteArray.size_append, szl, size_bs, List.size_toArray, List.length_cons, List.length_nil, List.length_append]; omega)) ⟨hS, hE⟩ ?_
 refine WH.one 33 rfl (by kernel_rfl) (fun _ _ h => h) ?_
 refine WL.call1 ce44 (jt8 rfl (jt8 rfl (lh))) (rname_ok x.2.2.2.2.2.2.2.2 w7) rfl ?_
 rintro _ w8 ⟨rfl, c5⟩
 have hS := hS.trans c5 (fun _ _ => id) (by intro i hi hg; exact hg)
 replace hE := c5.at0 hE
 refine WL.nil Nx.thn ⟨⟨hS, hE⟩, ?_⟩
 refine WH.take 34 rfl (by kernel_rfl) (by kernel_rfl) (by kernel_rfl) (fun _ _ _ h => h) Gd.none rfl (fun w' ⟨hS', hE'⟩ => X.addS (lt rfl (lh)) (lh) (by simp only [ByteArray.size_append, szl, size_bs, List.size_toArray, List.length_cons, List.length_nil, List.length_append]; omega)) ⟨hS, hE⟩ ?_
 refine WH.take 35 rfl (by kernel_rfl) (by kernel_rfl) (by kernel_rfl) (fun _ _ _ h => h) Gd.none rfl (fun w' ⟨hS', hE'⟩ => X.asg (lh)) ⟨hS, hE⟩ ?_
 refine WH.done (by kernel_rfl) ?_
 refine WL.e2 Nx.thn 1 3 (jt8 rfl (jt8 rfl (jt8 rfl (jt8 rfl (jt4 rfl (s1)))))) (lh) ?_
 intro σ2 s1 s3
 refine W.seq ?_
 refine W.seq ?_
 refine W.region ?_
 refine WL.x (X.fieldAddr fd67_6 (s1)) rfl ?_
 refine WL.x (X.load pl65 (lh) (by exact hS.at (by assumption) (by intro hne; exact hne)) (v := .slice va x.2.2.2.2.2.2.1.length vc) rfl) rfl ?_
 refine WL.x (X.lenSl Tryz.underlying65 (lh)) rfl ?_
 refine WL.x (X.mv lc) rfl ?_
 refine WL.e4 Nx.thn 3 42 43 44 (jt4 rfl (s3)) (jt2 rfl (lh)) (lt rfl (lh)) (lh) ?_
 intro σ3 s3 s42 s43 s44
 refine W.block ?_
 have qo3 := s42
 have qo4 := s43
 -- loop 0: kept [42, 43], varied [3, 44]
 refine W.loop (G := Nat) (fun k σ' w' => (σ' 42 = σ3 42 ∧ σ' 43 = σ3 43 ∧ True) ∧ (∃ S, σ' 3 = .string S ∧ σ' 44 = .int .i64 (k : Int) ∧ sb S = anH x ++ (x.2.2.2.2.2.2.1.take k).flatMap whyT ∧ k ≤ x.2.2.2.2.2.2.1.length ∧ Ch0 w w')) (fun k => x.2.2.2.2.2.2.1.length - k) (0) ⟨⟨rfl, rfl, trivial⟩, _, s3, s44, (by simp only [sb_app, sb_bs, sb_mk, sb_real, List.take_zero, List.flatMap_nil, List.append_nil]; unfold anH; simp only [List.append_assoc]; rfl), by omega, cu0_0.trans0 hS⟩ ?_
 rintro k σ4 w9 ⟨⟨f42, f43, _⟩, S, s3, s44, hSe, hk9, hcl⟩
 have s42 := f42.trans qo3
 have s43 := f43.trans qo4
 refine W.seq ?_
 refine W.region ?_
 refine WL.x (X.lss (s44) (s43)) rfl ?_
 refine WL.e5 Nx.thn 3 42 43 44 45 (lt rfl (s3)) (lt rfl (s42)) (lt rfl (s43)) (lt rfl (s44)) (lh) ?_
 intro σ5 s3 s42 s43 s44 s45
 refine W.seq ?_
 refine W.cndp s45 (fun hlt => ?_) (fun hlt => ?_)
 ·
  have hql : k < x.2.2.2.2.2.2.1.length := by omega
  obtain ⟨b2, o2, cs2, T2, fr2, es2, hva2, hml2, hes2, hgl2, hr2⟩ := (hs.ch0 monWhy hcl).at (k := k) hql
  subst hva2
  have hlq9 := hlq k
  have hmy := ma5 _ (List.getElem_mem hql)
  have hny := hna.2.2.2.2 _ (List.getElem_mem hql)
  have htq : (x.2.2.2.2.2.2.1.take (k + 1)).flatMap whyT = (x.2.2.2.2.2.2.1.take k).flatMap whyT ++ whyT x.2.2.2.2.2.2.1[k] := fm_take hql
  have hly := hla2 _ (List.getElem_mem hql)
  obtain ⟨y, hy⟩ : ∃ y, y = x.2.2.2.2.2.2.1[k] := ⟨_, rfl⟩
  rw [← hy] at hr2 hmy hny htq hly
  obtain ⟨rfl, -, -⟩ := hr2
  have hSz := sb_len S
  rw [hSe] at hSz
  simp only [List.length_append] at hSz
  have y1 := valT_len hny.1
  have y2 := valT_len hny.2.1
  have y3 := valT_len hny.2.2.1
  have y4 := valT_len hny.2.2.2
  have y5 := keyT_len (keyE_len (mayW_of hmy).2)
  have y6 := sz_nil y.2.2.2.2.2.2.1
  have y7 := sz_cond y.2.2.2.2.2.2.2
  have y8 := lbl_sz y.2.2.1
  refine W.skip Nx.thn ?_
  refine W.seq ?_
  refine W.block ?_
  refine W.seq ?_
  refine W.region ?_
  refine WL.x (X.indexAddr Tryz.underlying65 el85 (s42) (s44) (by omega) (by omega)) rfl ?_
  refine WL.x (X.loadS ag85 (lh) hml2 hes2 hgl2) rfl ?_
  refine WL.alloc el85 rfl ?_
  intro w10 u4_2; have hu4_2 := u4_2.at_; have cu4_2 := u4_2.ch; have zu4_2 := u4_2.size
  refine WL.storeS (vs := whyCells y) ag85 (lh) (lt rfl (lh)) rfl hes2 hu4_2 (by decide) ?_
  intro w11 us
  have hwv : w11.heap[(_ : Nat)]? = some (Obj.cells (whyCells y).toArray 85 (0, 0)) := us.at_
  have cs4 := us.ch
  have zcl := hcl.size
  have hc4 := cu4_2.trans cs4 (H := fun _ => False) (fun _ _ e => e) (fun q hq e => by (try dsimp only at e); omega)
  replace hcl := hcl.trans0 hc4
  refine WL.e5 Nx.thn 3 5 42 43 44 (jt2 rfl (lt rfl (s3))) (lh) (jt2 rfl (lt rfl (s42))) (jt2 rfl (lt rfl (s43))) (jt2 rfl (lt rfl (s44))) ?_
  intro σ6 s3 s5 s42 s43 s44
  refine W.held (fun w' => Ch (fun _ => False) w11 w') mo ?_
  intro w12 qhh5 qc6
  have hS : Ch (fun _ => False) w11 w12 := Ch.weak qc6
  have hzqc6 := qc6.size
  have cdh5 := qc6
  refine WH.take 0 rfl (by kernel_rfl) (by kernel_rfl) (by kernel_rfl) (fun _ _ _ h => h) Gd.none rfl (fun w' hS' => X.mv (s3)) hS ?_
  refine WH.take 1 rfl (by kernel_rfl) (by kernel_rfl) (by kernel_rfl) (fun _ _ _ h => h) Gd.none rfl (fun w' hS' => X.fieldAddr fd85_0 (lt rfl (s5))) hS ?_
  refine WH.take 2 rfl (by kernel_rfl) (by kernel_rfl) (by kernel_rfl) (fun _ _ _ h => h) Gd.none rfl (fun w' hS' => X.load pl3 (lh) (by exact hS'.at (by assumption) (by intro hne; exact hne)) (by rfl)) hS ?_
  refine WH.take 6 rfl (by kernel_rfl) (by kernel_rfl) (by kernel_rfl) (fun _ _ _ h => h) Gd.none rfl (fun w' hS' => X.fieldAddr fd85_2 (jt2 rfl (lt rfl (s5)))) hS ?_
  refine WH.take 7 rfl (by kernel_rfl) (by kernel_rfl) (by kernel_rfl) (fun _ _ _ h => h) Gd.none rfl (fun w' hS' => X.load pl3 (lh) (by exact hS'.at (by assumption) (by intro hne; exact hne)) (by rfl)) hS ?_
  refine WH.take 10 rfl (by kernel_rfl) (by kernel_rfl) (by kernel_rfl) (fun _ _ _ h => h) Gd.none rfl (fun w' hS' => X.fieldAddr fd85_1 (jt4 rfl (lt rfl (s5)))) hS ?_
  refine WH.take 11 rfl (by kernel_rfl) (by kernel_rfl) (by kernel_rfl) (fun _ _ _ h => h) Gd.none rfl (fun w' hS' => X.load pl3 (lh) (by exact hS'.at (by assumption) (by intro hne; exact hne)) (by rfl)) hS ?_
  refine WH.take 14 rfl (by kernel_rfl) (by kernel_rfl) (by kernel_rfl) (fun _ _ _ h => h) Gd.none rfl (fun w' hS' => X.fieldAddr fd85_3 (jt4 rfl (jt2 rfl (lt rfl (s5))))) hS ?_
  refine WH.take 15 rfl (by kernel_rfl) (by kernel_rfl) (by kernel_rfl) (fun _ _ _ h => h) Gd.none rfl (fun w' hS' => X.load pl9 (lh) (by exact hS'.at (by assumption) (by intro hne; exact hne)) (by rfl)) hS ?_
  refine WH.take 18 rfl (by kernel_rfl) (by kernel_rfl) (by kernel_rfl) (fun _ _ _ h => h) Gd.none rfl (fun w' hS' => X.fieldAddr fd85_4 (jt8 rfl (lt rfl (s5)))) hS ?_
  refine WH.take 19 rfl (by kernel_rfl) (by kernel_rfl) (by kernel_rfl) (fun _ _ _ h => h) Gd.none rfl (fun w' hS' => X.load pl3 (lh) (by exact hS'.at (by assumption) (by intro hne; exact hne)) (by rfl)) hS ?_
  refine WH.take 22 rfl (by kernel_rfl) (by kernel_rfl) (by kernel_rfl) (fun _ _ _ h => h) Gd.none rfl (fun w' hS' => X.fieldAddr fd85_5 (jt8 rfl (jt2 rfl (lt rfl (s5))))) hS ?_
  refine WH.take 23 rfl (by kernel_rfl) (by kernel_rfl) (by kernel_rfl) (fun _ _ _ h => h) Gd.none rfl (fun w' hS' => X.load pl3 (lh) (by exact hS'.at (by assumption) (by intro hne; exact hne)) (by rfl)) hS ?_
  refine WH.take 26 rfl (by kernel_rfl) (by kernel_rfl) (by kernel_rfl) (fun _ _ _ h => h) Gd.none rfl (fun w' hS' => X.fieldAddr fd85_6 (jt8 rfl (jt4 rfl (lt rfl (s5))))) hS ?_
  refine WH.take 27 rfl (by kernel_rfl) (by kernel_rfl) (by kernel_rfl) (fun _ _ _ h => h) Gd.none rfl (fun w' hS' => X.load pl4 (lh) (by exact hS'.at (by assumption) (by intro hne; exact hne)) (by rfl)) hS ?_
  refine WH.take 30 rfl (by kernel_rfl) (by kernel_rfl) (by kernel_rfl) (fun _ _ _ h => h) Gd.none rfl (fun w' hS' => X.fieldAddr fd85_7 (jt8 rfl (jt4 rfl (jt2 rfl (lt rfl (s5)))))) hS ?_
  refine WH.take 31 rfl (by kernel_rfl) (by kernel_rfl) (by kernel_rfl) (fun _ _ _ h => h) Gd.none rfl (fun w' hS' => X.load pl4 (lh) (by exact hS'.at (by assumption) (by intro hne; exact hne)) (by rfl)) hS ?_
  refine WH.one 3 rfl (by kernel_rfl) (fun _ _ h => h) ?_
  refine WL.call1 ce41 (jt8 rfl (jt4 rfl (jt2 rfl (lh)))) (rnumt_ok y.1 w12 hny.1) rfl ?_
  rintro _ w13 ⟨rfl, c1⟩
  have hS := hS.trans c1 (fun _ _ => id) (by intro i hi hg; exact hg)
  refine WL.nil Nx.thn ⟨hS, ?_⟩
  refine WH.take 4 rfl (by kernel_rfl) (by kernel_rfl) (by kernel_rfl) (fun _ _ _ h => h) Gd.none rfl (fun w' hS' => X.addS lc (lh) (by simp only [ByteArray.size_append, szl, size_bs, List.size_toArray, List.length_cons, List.length_nil, List.length_append]; omega)) hS ?_
  refine WH.take 5 rfl (by kernel_rfl) (by kernel_rfl) (by kernel_rfl) (fun _ _ _ h => h) Gd.none rfl (fun w' hS' => X.addS (lh) lc (by simp only [ByteArray.size_append, szl, size_bs, List.size_toArray, List.length_cons, List.length_nil, List.length_append]; omega)) hS ?_
  refine WH.one 8 rfl (by kernel_rfl) (fun _ _ h => h) ?_
  refine WL.call1 ce84 (jt8 rfl (jt4 rfl (jt2 rfl (lt rfl (lh))))) (rlabel_ok y.2.2.1 w13) rfl ?_
  rintro _ _ ⟨rfl, rfl⟩
  refine WL.nil Nx.thn ⟨hS, ?_⟩
  refine WH.take 9 rfl (by kernel_rfl) (by kernel_rfl) (by kernel_rfl) (fun _ _ _ h => h) Gd.none rfl (fun w' hS' => X.addS (lt rfl (lh)) (lh) (by simp only [ByteArray.size_append, szl, size_bs, List.size_toArray, List.length_cons, List.length_nil, List.length_append]; omega)) hS ?_
  refine WH.one 12 rfl (by kernel_rfl) (fun _ _ h => h) ?_
  refine WL.call1 ce41 (jt8 rfl (jt4 rfl (jt2 rfl (lt rfl (lh))))) (rnumt_ok y.2.1 w13 hny.2.1) rfl ?_
  rintro _ w14 ⟨rfl, c2⟩
  have hS := hS.trans c2 (fun _ _ => id) (by intro i hi hg; exact hg)
  refine WL.nil Nx.thn ⟨hS, ?_⟩
  refine WH.take 13 rfl (by kernel_rfl) (by kernel_rfl) (by kernel_rfl) (fun _ _ _ h => h) Gd.none rfl (fun w' hS' => X.addS (lt rfl (lh)) (lh) (by simp only [ByteArray.size_append, szl, size_bs, List.size_toArray, List.length_cons, List.length_nil, List.length_append]; omega)) hS ?_
  refine WH.one 16 rfl (by kernel_rfl) (fun _ _ h => h) ?_
  refine WL.call1 ce83 (jt8 rfl (jt4 rfl (jt2 rfl (lt rfl (lh))))) (rkeyt_ok y.2.2.2.1 w14 (keyE_len (mayW_of hmy).2)) rfl ?_
  rintro _ _ ⟨rfl, rfl⟩
  refine WL.nil Nx.thn ⟨hS, ?_⟩
  refine WH.take 17 rfl (by kernel_rfl) (by kernel_rfl) (by kernel_rfl) (fun _ _ _ h => h) Gd.none rfl (fun w' hS' => X.addS (lt rfl (lh)) (lh) (by simp only [ByteArray.size_append, szl, size_bs, List.size_toArray, List.length_cons, List.length_nil, List.length_append]; omega)) hS ?_
  refine WH.one 20 rfl (by kernel_rfl) (fun _ _ h => h) ?_
  refine WL.call1 ce41 (jt8 rfl (jt4 rfl (jt2 rfl (lt rfl (lh))))) (rnumt_ok y.2.2.2.2.1 w14 hny.2.2.1) rfl ?_
  rintro _ w15 ⟨rfl, c3⟩
  have hS := hS.trans c3 (fun _ _ => id) (by intro i hi hg; exact hg)
  refine WL.nil Nx.thn ⟨hS, ?_⟩
  refine WH.take 21 rfl (by kernel_rfl) (by kernel_rfl) (by kernel_rfl) (fun _ _ _ h => h) Gd.none rfl (fun w' hS' => X.addS (lt rfl (lh)) (lh) (by simp only [ByteArray.size_append, szl, size_bs, List.size_toArray, List.length_cons, List.length_nil, List.length_append]; omega)) hS ?_
  refine WH.one 24 rfl (by kernel_rfl) (fun _ _ h => h) ?_
  refine WL.call1 ce41 (jt8 rfl (jt4 rfl (jt2 rfl (lt rfl (lh))))) (rnumt_ok y.2.2.2.2.2.1 w15 hny.2.2.2) rfl ?_
  rintro _ w16 ⟨rfl, c4⟩
  have hS := hS.trans c4 (fun _ _ => id) (by intro i hi hg; exact hg)
  refine WL.nil Nx.thn ⟨hS, ?_⟩
  refine WH.take 25 rfl (by kernel_rfl) (by kernel_rfl) (by kernel_rfl) (fun _ _ _ h => h) Gd.none rfl (fun w' hS' => X.addS (lt rfl (lh)) (lh) (by simp only [ByteArray.size_append, szl, size_bs, List.size_toArray, List.length_cons, List.length_nil, List.length_append]; omega)) hS ?_
  refine WH.one 28 rfl (by kernel_rfl) (fun _ _ h => h) ?_
  refine WL.call3 ce42 (jt8 rfl (jt4 rfl (jt2 rfl (lt rfl (lh))))) lc lc (reither_ok y.2.2.2.2.2.2.1 ⟨#[32, 110, 105, 108]⟩ ⟨#[32, 118, 97, 108, 117, 101]⟩ w16) rfl ?_
  rintro _ _ ⟨rfl, rfl⟩
  refine WL.nil Nx.thn ⟨hS, ?_⟩
  refine WH.take 29 rfl (by kernel_rfl) (by kernel_rfl) (by kernel_rfl) (fun _ _ _ h => h) Gd.none rfl (fun w' hS' => X.addS (lt rfl (lh)) (lh) (by simp only [ByteArray.size_append, szl, size_bs, List.size_toArray, List.length_cons, List.length_nil, List.length_append]; omega)) hS ?_
  refine WH.one 32 rfl (by kernel_rfl) (fun _ _ h => h) ?_
  refine WL.call3 ce42 (jt8 rfl (jt4 rfl (jt2 rfl (lt rfl (lh))))) lc lc (reither_ok y.2.2.2.2.2.2.2 ⟨#[32, 99, 111, 110, 100]⟩ ⟨#[32, 115, 117, 114, 101]⟩ w16) rfl ?_
  rintro _ _ ⟨rfl, rfl⟩
  refine WL.nil Nx.thn ⟨hS, ?_⟩
  refine WH.take 33 rfl (by kernel_rfl) (by kernel_rfl) (by kernel_rfl) (fun _ _ _ h => h) Gd.none rfl (fun w' hS' => X.addS (lt rfl (lh)) (lh) (by simp only [ByteArray.size_append, szl, size_bs, List.size_toArray, List.length_cons, List.length_nil, List.length_append]; omega)) hS ?_
  refine WH.take 34 rfl (by kernel_rfl) (by kernel_rfl) (by kernel_rfl) (fun _ _ _ h => h) Gd.none rfl (fun w' hS' => X.addS (lh) lc (by simp only [ByteArray.size_append, szl, size_bs, List.size_toArray, List.length_cons, List.length_nil, List.length_append]; omega)) hS ?_
  refine WH.take 35 rfl (by kernel_rfl) (by kernel_rfl) (by kernel_rfl) (fun _ _ _ h => h) Gd.none rfl (fun w' hS' => X.addS (jt8 rfl (jt8 rfl (jt8 rfl (jt8 rfl (jt2 rfl (lh)))))) (lh) (by simp only [ByteArray.size_append, szl, size_bs, List.size_toArray, List.length_cons, List.length_nil, List.length_append]; omega)) hS ?_
  refine WH.take 36 rfl (by kernel_rfl) (by kernel_rfl) (by kernel_rfl) (fun _ _ _ h => h) Gd.none rfl (fun w' hS' => X.asg (lh)) hS ?_
  refine WH.done (by kernel_rfl) ?_
  refine WL.e4 (Nx.blk Nx.thn) 3 42 43 44 (lh) (jt8 rfl (jt8 rfl (jt8 rfl (jt8 rfl (jt4 rfl (lt rfl (s42))))))) (jt8 rfl (jt8 rfl (jt8 rfl (jt8 rfl (jt4 rfl (lt rfl (s43))))))) (jt8 rfl (jt8 rfl (jt8 rfl (jt8 rfl (jt4 rfl (lt rfl (s44))))))) ?_
  intro σ7 s3 s42 s43 s44
  refine W.region ?_
  refine WL.x (X.add (s44) lc (by omega) (by omega)) rfl ?_
  refine WL.x (X.mv (lh)) rfl ?_
  refine WL.e4 Nx.thn 3 42 43 44 (jt2 rfl (s3)) (jt2 rfl (s42)) (jt2 rfl (s43)) (lh) ?_
  intro σ8 s3 s42 s43 s44
  refine ⟨k + 1, by omega, ⟨s42.trans qo3.symm, s43.trans qo4.symm, trivial⟩, _, s3, s44, (by rw [htq]; simp only [sb_app, sb_bs, sb_mk, sb_nil_, sb_cond, hSe]; unfold whyT wT; simp only [List.append_assoc, List.cons_append, List.nil_append]), by omega, hcl.trans0 hS⟩
 ·
  have hSz := sb_len S
  rw [hSe] at hSz
  simp only [List.length_append] at hSz
  have hlq9 := hlq k
  refine W.exit (Nx.xthn (Nx.xthn (Nx.xblk Nx.thn))) ?_
  refine W.seq ?_
  refine W.region ?_
  refine WL.x (X.mv (s3)) rfl ?_
  refine WL.x (X.addS (lh) lc (by simp only [ByteArray.size_append, szl, size_bs, List.size_toArray, List.length_cons, List.length_nil, List.length_append]; omega)) rfl ?_
  refine WL.x (X.asg (lh)) rfl ?_
  refine WL.e1 Nx.thn 2 (lh) ?_
  intro σ9 s2
  refine W.ret1 Nx.f1 s2 ?_
  exact ⟨fin_str (by rw [anT_eq]; rw [show k = x.2.2.2.2.2.2.1.length by omega, List.take_length] at hSe; simp only [sb_app, sb_bs, sb_mk, hSe, List.append_assoc]), hcl⟩
end Go.Proofs.YtbnllchicnmkiaaGreatDoor
end

section
set_option linter.unusedVariables false
set_option linter.unusedSimpArgs false
set_option maxRecDepth 100000
namespace Go.Proofs.YtbnllchicnmkiaaGreatDoor
open Go Go.RowKit Sg
theorem el78 : Sg.Elem Tryz.prog 78 3 (.agg #[.pointer none, .slice none 0 0, .bool false]) 40 := ⟨_, rfl, rfl, rfl, rfl⟩
theorem ce33 : Sg.Callee Tryz.prog 33 := ⟨_, Tryz.func33, by decide, rfl⟩
theorem ce34 : Sg.Callee Tryz.prog 34 := ⟨_, Tryz.func34, by decide, rfl⟩
theorem ce35 : Sg.Callee Tryz.prog 35 := ⟨_, Tryz.func35, by decide, rfl⟩
theorem ce40 : Sg.Callee Tryz.prog 40 := ⟨_, Tryz.func40, by decide, rfl⟩
set_option maxHeartbeats 6400000 in
theorem print_ok (A : Nat → Prop) (x : GRep) (es : List Value) (w : World) (h : RRep A w es x) (hTab : Tab w) :
  Sg.Ret Tryz.prog 11 #[.agg es.toArray] w fun v w' => v = .tuple #[.string (bs (prQ x)), .int .i64 (prE x)] ∧ Ch0 w w' := by
 have hh := h
 have hnum := rrep_num h
 obtain ⟨v, u, rfl, hs, ho, hb⟩ := h
 obtain ⟨va, vc, rfl⟩ := hs.len
 obtain ⟨ua, uc, hu⟩ := ho.1.len
 rw [List.length_map] at hu
 subst hu
 refine enter2 (n := 152) (l := [.agg #[.int .i64 x.1, .bool x.2.1, .slice va x.2.2.1.length vc, .int .i64 x.2.2.2.1, .int .i64 x.2.2.2.2.1, .slice ua x.2.2.2.2.2.length uc]]) Tryz.func11 rfl rfl rfl rfl ?_
 refine W.g1 0 (v1 := .agg #[.int .i64 x.1, .bool x.2.1, .slice va x.2.2.1.length vc, .int .i64 x.2.2.2.1, .int .i64 x.2.2.2.2.1, .slice ua x.2.2.2.2.2.length uc]) rfl ?_; intro σ s0
 refine W.seq ?_
 refine W.region ?_
 refine WL.box (s0) rfl ?_
 intro w1 u0_0; have hu0_0 := u0_0.at_; have cu0_0 := u0_0.ch; have zu0_0 := u0_0.size
 refine WL.x (X.asg lc) rfl ?_
 refine WL.x (X.asg lc) rfl ?_
 refine WL.e1 Nx.thn 1 (jt2 rfl (lh)) ?_
 intro σ1 s1
 refine W.seq ?_
 refine W.seq ?_
 refine W.region ?_
 obtain ⟨xb, hxb⟩ : ∃ xb, xb = w.heap.size := ⟨_, rfl⟩
 have hbx : w1.heap[w.heap.size]? = some (.cells #[.int .i64 x.1, .bool x.2.1, .slice va x.2.2.1.length vc, .int .i64 x.2.2.2.1, .int .i64 x.2.2.2.2.1, .slice ua x.2.2.2.2.2.length uc] 25 (0, 0)) := hu0_0
 rw [← hxb] at hbx s1
 obtain ⟨RC, hRC⟩ : ∃ RC : Array Value, RC = #[.int .i64 x.1, .bool x.2.1, .slice va x.2.2.1.length vc, .int .i64 x.2.2.2.1, .int .i64 x.2.2.2.2.1, .slice ua x.2.2.2.2.2.length uc] := ⟨_, rfl⟩
 have hbx9 := hbx
 rw [← hRC] at hbx
 refine WL.x (X.loadBox (vs := [.int .i64 x.1, .bool x.2.1, .slice va x.2.2.1.length vc, .int .i64 x.2.2.2.1, .int .i64 x.2.2.2.2.1, .slice ua x.2.2.2.2.2.length uc]) ag25 (s1) hbx9 rfl) rfl ?_
 refine WL.call1 ce19 (lh) (can_ok A x _ w1 (monRep _ _ _ _ _ _ _ cu0_0 (fun _ _ => id) (fun _ => id) hh)) rfl ?_
 rintro _ w2 ⟨rfl, c0⟩
 replace hbx := c0.at0 hbx
 refine WL.x (X.not (lh)) rfl ?_
 refine WL.e2 Nx.thn 1 13 (jt2 rfl (lt rfl (s1))) (lh) ?_
 intro σ2 s1 s13
 refine W.cnd s13 (fun hcan => ?_) (fun hcan => ?_)
 ·
  refine W.seq ?_
  refine W.region ?_
  refine WL.x (X.asg lc) rfl ?_
  refine WL.x (X.asg lc) rfl ?_
  refine WL.e2 Nx.thn 2 3 (lt rfl (lh)) (lh) ?_
  intro σ3 s2 s3
  refine W.ret2 (Nx.rthn Nx.f2) s2 s3 ?_
  have hmn : mayR keyE x = false := by simpa using hcan
  exact ⟨by rw [(prQ_no hmn).1, (prQ_no hmn).2]; rfl, cu0_0.trans0 c0⟩
 ·
  have hmay : mayR keyE x = true := by simpa using hcan
  have hok : PrOk x := ⟨hmay, hnum⟩
  obtain ⟨ml1, ml2, ml3, ml4, ml5, ml6⟩ := hok.lens
  obtain ⟨mm1, mm2, mm3, mm4, mm5, mm6, -⟩ := mayR_of hmay
  refine W.skip Nx.thn ?_
  refine W.seq ?_
  refine W.region ?_
  refine WL.alloc el78 rfl ?_
  intro w3 u9
  obtain ⟨bw, hbw⟩ : ∃ bw, bw = w2.heap.size := ⟨_, rfl⟩
  rw [← hbw]
  have hwc : w3.heap[bw]? = some (.cells #[.pointer none, .slice none 0 0, .bool false] 78 (0, 0)) := by rw [hbw]; exact u9.at_
  have cal := u9.ch
  have hw : IsW bw bw [] false w3 := ⟨Nat.le_refl _, none, _, .inl rfl, hwc, World.ownsRow_nil _ _ _ _⟩
  have zbx := lt_of_blk hbx
  replace hbx := cal.at0 hbx
  have hcl := (cu0_0.trans0 c0).trans0 cal
  have hbwz : w.heap.size ≤ xb ∧ xb < bw := by omega
  refine WL.e2 Nx.thn 1 4 (lt rfl (s1)) (lh) ?_
  intro σ4 s1 s4
  refine W.seq ?_
  refine W.region ?_
  refine WL.x (X.iface Tryz.underlying9 trivial lc) rfl ?_
  refine WL.x (X.fieldAddr fd25_0 (lt rfl (s1))) rfl ?_
  refine WL.x (X.load pl3 (lh) hbx (v := .int .i64 x.1) (by rw [hRC]; rfl)) rfl ?_
  refine WL.x (X.iface Tryz.underlying3 trivial (lh)) rfl ?_
  refine WL.bslice Tryz.underlying115 el20 rfl (pcons (jt2 rfl (lt rfl (lh))) (pcons (lh) pnil)) rfl (rfl : _ = [_, _]) rfl ?_
  intro w4 u4_4; have hu4_4 := u4_4.at_; have cu4_4 := u4_4.ch; have zu4_4 := u4_4.size
  have hPT : putF false [.s wTxns, .n x.1] = (repA x, true) := pt_A x
  have zw9 := hw.lt
  refine WL.call2 ce33 (jt4 rfl (lt rfl (s4))) (lh) (put_ok bw bw _ 2 2 [.s wTxns, .n x.1] ([]) false w4 rfl hu4_4 (by have h9 := hw.lt; omega) (hw.ch0 cu4_4) (by have h9 := hw.lt; have h8 := cu4_4.size; omega) (by rw [hPT]; dsimp only; simp only [List.length_append, List.length_cons, List.length_nil]; omega) (by show 2 ≤ 100; omega) (fun w9 c9 => tab_ch0 hTab ((hcl.trans0 cu4_4).trans c9 (H := fun _ => False) (fun _ _ e => e) (fun j hj e => by (try dsimp only at e); omega))) (pin_s (pin_n hnum.1 pin_nil))) rfl ?_
  rintro _ w5 ⟨hw, cp, hk⟩
  rw [hPT] at hw
  replace hw : IsW bw bw ([] ++ repA x) true w5 := hw
  replace hcl := hcl.trans0 cu4_4
  replace hbx := cu4_4.at0 hbx
  replace hcl := hcl.trans cp (H := fun _ => False) (fun _ _ e => e) (fun j hj e => by (try dsimp only at e); omega)
  replace hbx := hk _ _ _ _ hbx (by decide) (by omega)
  refine WL.e2 Nx.thn 1 4 (jt4 rfl (jt2 rfl (s1))) (jt4 rfl (jt2 rfl (s4))) ?_
  intro σ5 s1 s4
  refine W.seq ?_
  refine W.region ?_
  refine WL.call1 ce34 (s4) (line_ok bw bw ([] ++ repA x) true w5 hw (by simp only [List.length_append, List.length_cons, List.length_nil]; omega) (Nat.le_of_lt hw.lt)) rfl ?_
  rintro _ w6 ⟨hw, cp, hk⟩
  replace hcl := hcl.trans cp (H := fun _ => False) (fun _ _ e => e) (fun j hj e => by (try dsimp only at e); omega)
  replace hbx := hk _ _ _ _ hbx (by decide) (by omega)
  refine WL.e2 Nx.thn 1 4 (lt rfl (s1)) (lt rfl (s4)) ?_
  intro σ6 s1 s4
  refine W.seq ?_
  refine W.region ?_
  refine WL.x (X.iface Tryz.underlying9 trivial lc) rfl ?_
  refine WL.x (X.fieldAddr fd25_1 (lt rfl (s1))) rfl ?_
  refine WL.x (X.load pl4 (lh) hbx (v := .bool x.2.1) (by rw [hRC]; rfl)) rfl ?_
  refine WL.call3 ce35 (lh) lc lc (either_ok x.2.1 wYes wNo w6) rfl ?_
  rintro _ _ ⟨rfl, rfl⟩
  refine WL.x (X.iface Tryz.underlying9 trivial (lh)) rfl ?_
  refine WL.bslice Tryz.underlying115 el20 rfl (pcons (jt4 rfl (lh)) (pcons (lh) pnil)) rfl (rfl : _ = [_, _]) rfl ?_
  intro w7 u6_5; have hu6_5 := u6_5.at_; have cu6_5 := u6_5.ch; have zu6_5 := u6_5.size
  have hPT : putF false [.s wUnique, .s (bsel x.2.1 wYes wNo)] = (repB x, true) := pt_B x
  have zw9 := hw.lt
  refine WL.call2 ce33 (jt4 rfl (jt2 rfl (s4))) (lh) (put_ok bw bw _ 2 2 [.s wUnique, .s (bsel x.2.1 wYes wNo)] ([] ++ repA x ++ [10]) false w7 rfl hu6_5 (by have h9 := hw.lt; omega) (hw.ch0 cu6_5) (by have h9 := hw.lt; have h8 := cu6_5.size; omega) (by rw [hPT]; dsimp only; simp only [List.length_append, List.length_cons, List.length_nil]; omega) (by show 2 ≤ 100; omega) (fun w9 c9 => tab_ch0 hTab ((hcl.trans0 cu6_5).trans c9 (H := fun _ => False) (fun _ _ e => e) (fun j hj e => by (try dsimp only at e); omega))) (pin_s (pin_s pin_nil))) rfl ?_
  rintro _ w8 ⟨hw, cp, hk⟩
  rw [hPT] at hw
  replace hw : IsW bw bw ([] ++ repA x ++ [10] ++ repB x) true w8 := hw
  replace hcl := hcl.trans0 cu6_5
  replace hbx := cu6_5.at0 hbx
  replace hcl := hcl.trans cp (H := fun _ => False) (fun _ _ e => e) (fun j hj e => by (try dsimp only at e); omega)
  replace hbx := hk _ _ _ _ hbx (by decide) (by omega)
  refine WL.e2 Nx.thn 1 4 (jt4 rfl (jt2 rfl (lt rfl (s1)))) (jt4 rfl (jt2 rfl (lt rfl (s4)))) ?_
  intro σ7 s1 s4
  refine W.seq ?_
  refine W.region ?_
  refine WL.call1 ce34 (s4) (line_ok bw bw ([] ++ repA x ++ [10] ++ repB x) true w8 hw (by simp only [List.length_append, List.length_cons, List.length_nil]; omega) (Nat.le_of_lt hw.lt)) rfl ?_
  rintro _ w9 ⟨hw, cp, hk⟩
  replace hcl := hcl.trans cp (H := fun _ => False) (fun _ _ e => e) (fun j hj e => by (try dsimp only at e); omega)
  replace hbx := hk _ _ _ _ hbx (by decide) (by omega)
  refine WL.e2 Nx.thn 1 4 (lt rfl (s1)) (lt rfl (s4)) ?_
  intro σ8 s1 s4
  refine W.seq ?_
  refine W.seq ?_
  refine W.region ?_
  refine WL.x (X.fieldAddr fd25_2 (s1)) rfl ?_
  refine WL.x (X.load pl22 (lh) hbx (v := .slice va x.2.2.1.length vc) (by rw [hRC]; rfl)) rfl ?_
  refine WL.x (X.lenSl Tryz.underlying22 (lh)) rfl ?_
  refine WL.x (X.mv lc) rfl ?_
  refine WL.e5 Nx.thn 1 4 30 31 32 (jt4 rfl (s1)) (jt4 rfl (s4)) (jt2 rfl (lh)) (lt rfl (lh)) (lh) ?_
  intro σ9 s1 s4 s30 s31 s32
  refine W.block ?_
  have qo1 := s1
  have qo2 := s4
  have qo3 := s30
  have qo4 := s31
  -- loop 0: kept [1, 4, 30, 31], varied [32]
  refine W.loop (G := Nat) (fun k σ' w' => (σ' 1 = σ9 1 ∧ σ' 4 = σ9 4 ∧ σ' 30 = σ9 30 ∧ σ' 31 = σ9 31 ∧ True) ∧ (σ' 32 = .int .i64 (k : Int) ∧ k ≤ x.2.2.1.length ∧ IsW bw bw ((repA x ++ [10] ++ repB x ++ [10]) ++ (x.2.2.1.take k).flatMap anT) false w' ∧ w'.heap[xb]? = some (.cells RC 25 (0, 0)) ∧ Ch0 w w')) (fun k => x.2.2.1.length - k) (0) ⟨⟨rfl, rfl, rfl, rfl, trivial⟩, s32, by omega, (by simpa using hw), hbx, hcl⟩ ?_
  rintro k σ10 w10 ⟨⟨f1, f4, f30, f31, _⟩, s32, hk9, hw, hbx, hcl⟩
  have s1 := f1.trans qo1
  have s4 := f4.trans qo2
  have s30 := f30.trans qo3
  have s31 := f31.trans qo4
  refine W.seq ?_
  refine W.region ?_
  refine WL.x (X.lss (s32) (s31)) rfl ?_
  refine WL.e6 Nx.thn 1 4 30 31 32 33 (lt rfl (s1)) (lt rfl (s4)) (lt rfl (s30)) (lt rfl (s31)) (lt rfl (s32)) (lh) ?_
  intro σ11 s1 s4 s30 s31 s32 s33
  refine W.seq ?_
  refine W.cndp s33 (fun hlt => ?_) (fun hlt => ?_)
  ·
   have hkl : k < x.2.2.1.length := by omega
   have hl5 := ml5 k
   obtain ⟨b1, o1, cs1, T1, fr1, es1, hva, hml1, hes1, hgl1, hr1⟩ := hs.at (k := k) hkl
   subst hva
   obtain ⟨hma, hna⟩ := hok.an (List.getElem_mem hkl)
   have htk : (x.2.2.1.take (k + 1)).flatMap anT = (x.2.2.1.take k).flatMap anT ++ anT x.2.2.1[k] := fm_take hkl
   obtain ⟨a, ha⟩ : ∃ a, a = x.2.2.1[k] := ⟨_, rfl⟩
   rw [← ha] at hr1 hma hna htk
   obtain ⟨hla1, hla2, hla3⟩ := an_len hma hna
   obtain ⟨ma1, ma2, ma3, ma4, ma5⟩ := mayA_of hma
   obtain ⟨v3, rfl, hs3, hb3⟩ := hr1
   obtain ⟨va3, vc3, rfl⟩ := hs3.len
   have hlq := fun q => fm_take_len (f := whyT) (M := 300) (B := 150) q hla2 ma4
   refine W.skip Nx.thn ?_
   refine W.seq ?_
   refine W.block ?_
   refine W.seq ?_
   refine W.region ?_
   refine WL.x (X.indexAddr Tryz.underlying22 el67 (s30) (s32) (by omega) (by omega)) rfl ?_
   refine WL.x (X.loadS ag67 (lh) (hcl.at0 hml1) hes1 hgl1) rfl ?_
   refine WL.alloc el67 rfl ?_
   intro w11 u9
   obtain ⟨ab, hab⟩ : ∃ ab, ab = w10.heap.size := ⟨_, rfl⟩
   rw [← hab]
   have hE := u9.at_
   rw [← hab] at hE
   have cal := u9.ch
   have hwl := hw.lt
   have hab9 : bw < ab := by omega
   replace hw := hw.ch0 cal
   replace hcl := hcl.trans0 cal
   replace hbx := cal.at0 hbx
   
   have hE0 := hE
   refine WL.storeS (vs := [.int .i64 a.1, .int .i64 a.2.1, .int .i64 a.2.2.1, .int .i64 a.2.2.2.1, .string a.2.2.2.2.1, .int .i64 a.2.2.2.2.2.1, .slice va3 a.2.2.2.2.2.2.1.length vc3, .bool a.2.2.2.2.2.2.2.1, .int .i64 a.2.2.2.2.2.2.2.2]) ag67 (lh) (lt rfl (lh)) rfl hes1 hE (by decide) ?_
   intro w12 us
   replace hE : w12.heap[ab]? = some (.cells #[.int .i64 a.1, .int .i64 a.2.1, .int .i64 a.2.2.1, .int .i64 a.2.2.2.1, .string a.2.2.2.2.1, .int .i64 a.2.2.2.2.2.1, .slice va3 a.2.2.2.2.2.2.1.length vc3, .bool a.2.2.2.2.2.2.2.1, .int .i64 a.2.2.2.2.2.2.2.2] 67 (0, 0)) := us.at_
   have cs := us.ch
   replace hw := hw.step us.ch (fun e => by (try dsimp only at e); omega) (fun j e => ⟨_, _, _, (by have e : j = ab := e; subst e; exact hE0), by decide⟩)
   replace hcl := hcl.trans us.ch (H := fun _ => False) (fun _ _ e => e) (fun j hj e => by (try dsimp only at e); omega)
   replace hbx := us.ch.at hbx (fun e => by (try dsimp only at e); omega)
   refine WL.e6 Nx.thn 1 4 6 30 31 32 (jt2 rfl (lt rfl (s1))) (jt2 rfl (lt rfl (s4))) (lh) (jt2 rfl (lt rfl (s30))) (jt2 rfl (lt rfl (s31))) (jt2 rfl (lt rfl (s32))) ?_
   intro σ12 s1 s4 s6 s30 s31 s32
   refine W.seq ?_
   refine W.held (fun w' => Ch (fun j => bw ≤ j) w12 w' ∧ w'.heap[ab]? = some (.cells #[.int .i64 a.1, .int .i64 a.2.1, .int .i64 a.2.2.1, .int .i64 a.2.2.2.1, .string a.2.2.2.2.1, .int .i64 a.2.2.2.2.2.1, .slice va3 a.2.2.2.2.2.2.1.length vc3, .bool a.2.2.2.2.2.2.2.1, .int .i64 a.2.2.2.2.2.2.2.2] 67 (0, 0))) mo ?_
   intro w13 qhh5 qc6
   have hS : Ch (fun j => bw ≤ j) w12 w13 := Ch.weak qc6
   have hzqc6 := qc6.size
   have cdh11 := qc6
   have hE := cdh11.at0 hE
   replace hw := hw.ch0 cdh11
   replace hcl := hcl.trans0 cdh11
   replace hbx := cdh11.at0 hbx
   refine WH.take 0 rfl (by kernel_rfl) (by kernel_rfl) (by kernel_rfl) (fun _ _ _ h => h) Gd.none rfl (fun w' ⟨hS', hE'⟩ => X.iface Tryz.underlying9 trivial lc) ⟨hS, hE⟩ ?_
   refine WH.take 2 rfl (by kernel_rfl) (by kernel_rfl) (by kernel_rfl) (fun _ _ _ h => h) Gd.none rfl (fun w' ⟨hS', hE'⟩ => X.fieldAddr fd67_0 (lt rfl (s6))) ⟨hS, hE⟩ ?_
   refine WH.take 3 rfl (by kernel_rfl) (by kernel_rfl) (by kernel_rfl) (fun _ _ _ h => h) Gd.none rfl (fun w' ⟨hS', hE'⟩ => X.load pl3 (lh) hE' (v := .int .i64 a.1) rfl) ⟨hS, hE⟩ ?_
   refine WH.take 6 rfl (by kernel_rfl) (by kernel_rfl) (by kernel_rfl) (fun _ _ _ h => h) Gd.none rfl (fun w' ⟨hS', hE'⟩ => X.fieldAddr fd67_1 (jt2 rfl (lt rfl (s6)))) ⟨hS, hE⟩ ?_
   refine WH.take 7 rfl (by kernel_rfl) (by kernel_rfl) (by kernel_rfl) (fun _ _ _ h => h) Gd.none rfl (fun w' ⟨hS', hE'⟩ => X.load pl3 (lh) hE' (v := .int .i64 a.2.1) rfl) ⟨hS, hE⟩ ?_
   refine WH.take 8 rfl (by kernel_rfl) (by kernel_rfl) (by kernel_rfl) (fun _ _ _ h => h) Gd.none rfl (fun w' ⟨hS', hE'⟩ => X.iface Tryz.underlying3 trivial (lh)) ⟨hS, hE⟩ ?_
   refine WH.take 9 rfl (by kernel_rfl) (by kernel_rfl) (by kernel_rfl) (fun _ _ _ h => h) Gd.none rfl (fun w' ⟨hS', hE'⟩ => X.fieldAddr fd67_2 (jt4 rfl (jt2 rfl (s6)))) ⟨hS, hE⟩ ?_
   refine WH.take 10 rfl (by kernel_rfl) (by kernel_rfl) (by kernel_rfl) (fun _ _ _ h => h) Gd.none rfl (fun w' ⟨hS', hE'⟩ => X.load pl3 (lh) hE' (v := .int .i64 a.2.2.1) rfl) ⟨hS, hE⟩ ?_
   refine WH.take 11 rfl (by kernel_rfl) (by kernel_rfl) (by kernel_rfl) (fun _ _ _ h => h) Gd.none rfl (fun w' ⟨hS', hE'⟩ => X.iface Tryz.underlying3 trivial (lh)) ⟨hS, hE⟩ ?_
   refine WH.take 12 rfl (by kernel_rfl) (by kernel_rfl) (by kernel_rfl) (fun _ _ _ h => h) Gd.none rfl (fun w' ⟨hS', hE'⟩ => X.fieldAddr fd67_3 (jt8 rfl (lt rfl (s6)))) ⟨hS, hE⟩ ?_
   refine WH.take 13 rfl (by kernel_rfl) (by kernel_rfl) (by kernel_rfl) (fun _ _ _ h => h) Gd.none rfl (fun w' ⟨hS', hE'⟩ => X.load pl3 (lh) hE' (v := .int .i64 a.2.2.2.1) rfl) ⟨hS, hE⟩ ?_
   refine WH.take 14 rfl (by kernel_rfl) (by kernel_rfl) (by kernel_rfl) (fun _ _ _ h => h) Gd.none rfl (fun w' ⟨hS', hE'⟩ => X.iface Tryz.underlying3 trivial (lh)) ⟨hS, hE⟩ ?_
   refine WH.take 15 rfl (by kernel_rfl) (by kernel_rfl) (by kernel_rfl) (fun _ _ _ h => h) Gd.none rfl (fun w' ⟨hS', hE'⟩ => X.iface Tryz.underlying9 trivial lc) ⟨hS, hE⟩ ?_
   refine WH.take 16 rfl (by kernel_rfl) (by kernel_rfl) (by kernel_rfl) (fun _ _ _ h => h) Gd.none rfl (fun w' ⟨hS', hE'⟩ => X.fieldAddr fd67_4 (jt8 rfl (jt4 rfl (lt rfl (s6))))) ⟨hS, hE⟩ ?_
   refine WH.take 17 rfl (by kernel_rfl) (by kernel_rfl) (by kernel_rfl) (fun _ _ _ h => h) Gd.none rfl (fun w' ⟨hS', hE'⟩ => X.load pl9 (lh) hE' (v := .string a.2.2.2.2.1) rfl) ⟨hS, hE⟩ ?_
   refine WH.take 18 rfl (by kernel_rfl) (by kernel_rfl) (by kernel_rfl) (fun _ _ _ h => h) Gd.none rfl (fun w' ⟨hS', hE'⟩ => X.iface Tryz.underlying9 trivial (lh)) ⟨hS, hE⟩ ?_
   refine WH.take 19 rfl (by kernel_rfl) (by kernel_rfl) (by kernel_rfl) (fun _ _ _ h => h) Gd.none rfl (fun w' ⟨hS', hE'⟩ => X.iface Tryz.underlying9 trivial lc) ⟨hS, hE⟩ ?_
   refine WH.take 20 rfl (by kernel_rfl) (by kernel_rfl) (by kernel_rfl) (fun _ _ _ h => h) Gd.none rfl (fun w' ⟨hS', hE'⟩ => X.fieldAddr fd67_5 (jt8 rfl (jt8 rfl (lt rfl (s6))))) ⟨hS, hE⟩ ?_
   refine WH.take 21 rfl (by kernel_rfl) (by kernel_rfl) (by kernel_rfl) (fun _ _ _ h => h) Gd.none rfl (fun w' ⟨hS', hE'⟩ => X.load pl3 (lh) hE' (v := .int .i64 a.2.2.2.2.2.1) rfl) ⟨hS, hE⟩ ?_
   refine WH.take 22 rfl (by kernel_rfl) (by kernel_rfl) (by kernel_rfl) (fun _ _ _ h => h) Gd.none rfl (fun w' ⟨hS', hE'⟩ => X.iface Tryz.underlying3 trivial (lh)) ⟨hS, hE⟩ ?_
   refine WH.take 23 rfl (by kernel_rfl) (by kernel_rfl) (by kernel_rfl) (fun _ _ _ h => h) Gd.none rfl (fun w' ⟨hS', hE'⟩ => X.fieldAddr fd67_7 (jt8 rfl (jt8 rfl (jt4 rfl (s6))))) ⟨hS, hE⟩ ?_
   refine WH.take 24 rfl (by kernel_rfl) (by kernel_rfl) (by kernel_rfl) (fun _ _ _ h => h) Gd.none rfl (fun w' ⟨hS', hE'⟩ => X.load pl4 (lh) hE' (v := .bool a.2.2.2.2.2.2.2.1) rfl) ⟨hS, hE⟩ ?_
   refine WH.take 27 rfl (by kernel_rfl) (by kernel_rfl) (by kernel_rfl) (fun _ _ _ h => h) Gd.none rfl (fun w' ⟨hS', hE'⟩ => X.fieldAddr fd67_8 (jt8 rfl (jt8 rfl (jt4 rfl (jt2 rfl (s6)))))) ⟨hS, hE⟩ ?_
   refine WH.take 28 rfl (by kernel_rfl) (by kernel_rfl) (by kernel_rfl) (fun _ _ _ h => h) Gd.none rfl (fun w' ⟨hS', hE'⟩ => X.load pl3 (lh) hE' (v := .int .i64 a.2.2.2.2.2.2.2.2) rfl) ⟨hS, hE⟩ ?_
   refine WH.one 1 rfl (by kernel_rfl) (fun _ _ h => h) ?_
   refine WL.call0 ce36  (kinds_ok w13) rfl ?_
   rintro _ w14 ⟨rfl, ck⟩
   replace hw := hw.ch0 ck
   replace hcl := hcl.trans0 ck
   replace hbx := ck.at0 hbx
   replace hE := ck.at0 hE
   have hS := hS.trans ck (fun _ _ => id) (by intro i hi hg; exact False.elim hg)
   refine WL.nil Nx.thn ⟨⟨hS, hE⟩, ?_⟩
   refine WH.take 4 rfl (by kernel_rfl) (by kernel_rfl) (by kernel_rfl) (fun _ _ _ h => h) Gd.none rfl (fun w' ⟨hS', hE'⟩ => X.indexA Tryz.underlying81 pl9 el9 (lh) (jt8 rfl (jt8 rfl (jt4 rfl (jt2 rfl (lh))))) (by omega) (by omega) (kindN_at ma1)) ⟨hS, hE⟩ ?_
   refine WH.take 5 rfl (by kernel_rfl) (by kernel_rfl) (by kernel_rfl) (fun _ _ _ h => h) Gd.none rfl (fun w' ⟨hS', hE'⟩ => X.iface Tryz.underlying9 trivial (lh)) ⟨hS, hE⟩ ?_
   refine WH.one 25 rfl (by kernel_rfl) (fun _ _ h => h) ?_
   refine WL.call3 ce35 (jt4 rfl (lt rfl (lh))) lc lc (either_ok a.2.2.2.2.2.2.2.1 wReal wPlain w14) rfl ?_
   rintro _ _ ⟨rfl, rfl⟩
   refine WL.nil Nx.thn ⟨⟨hS, hE⟩, ?_⟩
   refine WH.take 26 rfl (by kernel_rfl) (by kernel_rfl) (by kernel_rfl) (fun _ _ _ h => h) Gd.none rfl (fun w' ⟨hS', hE'⟩ => X.iface Tryz.underlying9 trivial (lh)) ⟨hS, hE⟩ ?_
   refine WH.one 29 rfl (by kernel_rfl) (fun _ _ h => h) ?_
   refine WL.call1 ce37 (jt4 rfl (lt rfl (lh))) (name_ok a.2.2.2.2.2.2.2.2 w14) rfl ?_
   rintro _ w15 ⟨rfl, cn⟩
   replace hw := hw.ch0 cn
   replace hcl := hcl.trans0 cn
   replace hbx := cn.at0 hbx
   replace hE := cn.at0 hE
   have hS := hS.trans cn (fun _ _ => id) (by intro i hi hg; exact False.elim hg)
   refine WL.nil Nx.thn ⟨⟨hS, hE⟩, ?_⟩
   refine WH.take 30 rfl (by kernel_rfl) (by kernel_rfl) (by kernel_rfl) (fun _ _ _ h => h) Gd.none rfl (fun w' ⟨hS', hE'⟩ => X.iface Tryz.underlying9 trivial (lh)) ⟨hS, hE⟩ ?_
   refine WH.one 31 rfl (by kernel_rfl) (fun _ _ h => h) ?_
   refine WL.bslice Tryz.underlying115 el20 rfl (pcons (jt8 rfl (jt8 rfl (jt8 rfl (jt4 rfl (jt2 rfl (lh)))))) (pcons (jt4 rfl (lh)) (pcons (jt8 rfl (jt8 rfl (jt8 rfl (lt rfl (lh))))) (pcons (jt8 rfl (jt8 rfl (jt4 rfl (jt2 rfl (lh))))) (pcons (jt8 rfl (jt8 rfl (jt2 rfl (lt rfl (lh))))) (pcons (jt8 rfl (jt8 rfl (jt2 rfl (lh)))) (pcons (jt8 rfl (jt4 rfl (jt2 rfl (lt rfl (lh))))) (pcons (jt8 rfl (jt4 rfl (jt2 rfl (lh)))) (pcons (jt8 rfl (jt2 rfl (lt rfl (lh)))) (pcons (jt2 rfl (lh)) (pcons (lh) pnil))))))))))) rfl (rfl : _ = [_, _, _, _, _, _, _, _, _, _, _]) rfl ?_
   intro w16 us; have hu11_31 := us.at_; have cu11_31 := us.ch
   replace hE := us.ch.at0 hE
   have hS := hS.trans cu11_31 (fun _ _ => id) (by intro i hi hg; exact False.elim hg)
   refine WL.nil Nx.thn ⟨⟨hS, hE⟩, ?_⟩
   refine WH.one 32 rfl (by kernel_rfl) (fun _ _ h => h) ?_
   have hPT : putF false [.s wAnomaly, .s (kindN a.1), .n a.2.1, .n a.2.2.1, .n a.2.2.2.1, .s ⟨#[40]⟩, .s a.2.2.2.2.1, .s ⟨#[41]⟩, .n a.2.2.2.2.2.1, .s (bsel a.2.2.2.2.2.2.2.1 wReal wPlain), .s (levelN a.2.2.2.2.2.2.2.2)] = (anH a, true) := pt_an ma1 ma3
   have zw9 := hw.lt
   refine WL.call2 ce33 (jt8 rfl (jt8 rfl (jt8 rfl (jt8 rfl (s4))))) (lh) (put_ok bw bw _ 11 11 [.s wAnomaly, .s (kindN a.1), .n a.2.1, .n a.2.2.1, .n a.2.2.2.1, .s ⟨#[40]⟩, .s a.2.2.2.2.1, .s ⟨#[41]⟩, .n a.2.2.2.2.2.1, .s (bsel a.2.2.2.2.2.2.2.1 wReal wPlain), .s (levelN a.2.2.2.2.2.2.2.2)] ((repA x ++ [10] ++ repB x ++ [10]) ++ (x.2.2.1.take k).flatMap anT) false w16 rfl hu11_31 (by have h9 := hw.lt; omega) (hw.ch0 cu11_31) (by have h9 := hw.lt; have h8 := cu11_31.size; omega) (by rw [hPT]; dsimp only; simp only [List.length_append, List.length_cons, List.length_nil]; omega) (by show 11 ≤ 100; omega) (fun w9 c9 => tab_ch0 hTab ((hcl.trans0 cu11_31).trans c9 (H := fun _ => False) (fun _ _ e => e) (fun j hj e => by (try dsimp only at e); omega))) (pin_s (pin_s (pin_n hna.1 (pin_n hna.2.1 (pin_n hna.2.2.1 (pin_s (pin_s (pin_s (pin_n hna.2.2.2.1 (pin_s (pin_s pin_nil)))))))))))) rfl ?_
   rintro _ w17 ⟨hw, cp, hk⟩
   rw [hPT] at hw
   replace hw : IsW bw bw ((repA x ++ [10] ++ repB x ++ [10]) ++ (x.2.2.1.take k).flatMap anT ++ anH a) true w17 := hw
   replace hcl := hcl.trans0 cu11_31
   replace hbx := cu11_31.at0 hbx
   replace hcl := hcl.trans cp (H := fun _ => False) (fun _ _ e => e) (fun j hj e => by (try dsimp only at e); omega)
   replace hbx := hk _ _ _ _ hbx (by decide) (by omega)
   replace hE := hk _ _ _ _ hE (by decide) (by omega)
   have hS := hS.trans cp (fun _ _ => id) (by intro i hi hg; exact hg)
   refine WL.nil Nx.thn ⟨⟨hS, hE⟩, ?_⟩
   refine WH.done (by kernel_rfl) ?_
   refine WL.e6 Nx.thn 1 4 6 30 31 32 (jt8 rfl (jt8 rfl (jt8 rfl (jt8 rfl (lt rfl (s1)))))) (jt8 rfl (jt8 rfl (jt8 rfl (jt8 rfl (lt rfl (s4)))))) (jt8 rfl (jt8 rfl (jt8 rfl (jt8 rfl (lt rfl (s6)))))) (jt8 rfl (jt8 rfl (jt8 rfl (jt8 rfl (lt rfl (s30)))))) (jt8 rfl (jt8 rfl (jt8 rfl (jt8 rfl (lt rfl (s31)))))) (jt8 rfl (jt8 rfl (jt8 rfl (jt8 rfl (lt rfl (s32)))))) ?_
   intro σ13 s1 s4 s6 s30 s31 s32
   refine W.seq ?_
   refine W.seq ?_
   refine W.region ?_
   refine WL.x (X.fieldAddr fd67_6 (s6)) rfl ?_
   refine WL.x (X.load pl65 (lh) hE (v := .slice va3 a.2.2.2.2.2.2.1.length vc3) rfl) rfl ?_
   refine WL.x (X.lenSl Tryz.underlying65 (lh)) rfl ?_
   refine WL.x (X.mv lc) rfl ?_
   refine WL.e8 Nx.thn 1 4 30 31 32 70 71 72 (jt4 rfl (s1)) (jt4 rfl (s4)) (jt4 rfl (s30)) (jt4 rfl (s31)) (jt4 rfl (s32)) (jt2 rfl (lh)) (lt rfl (lh)) (lh) ?_
   intro σ14 s1 s4 s30 s31 s32 s70 s71 s72
   refine W.block ?_
   have qo7 := s1
   have qo8 := s4
   have qo9 := s30
   have qo10 := s31
   have qo11 := s32
   have qo12 := s70
   have qo13 := s71
   -- loop 1: kept [1, 4, 30, 31, 32, 70, 71], varied [72]
   refine W.loop (G := Nat) (fun q σ' w' => (σ' 1 = σ14 1 ∧ σ' 4 = σ14 4 ∧ σ' 30 = σ14 30 ∧ σ' 31 = σ14 31 ∧ σ' 32 = σ14 32 ∧ σ' 70 = σ14 70 ∧ σ' 71 = σ14 71 ∧ True) ∧ (σ' 72 = .int .i64 (q : Int) ∧ q ≤ a.2.2.2.2.2.2.1.length ∧ IsW bw bw ((repA x ++ [10] ++ repB x ++ [10]) ++ (x.2.2.1.take k).flatMap anT ++ anH a ++ (a.2.2.2.2.2.2.1.take q).flatMap whyT) true w' ∧ w'.heap[xb]? = some (.cells RC 25 (0, 0)) ∧ Ch0 w w')) (fun q => a.2.2.2.2.2.2.1.length - q) (0) ⟨⟨rfl, rfl, rfl, rfl, rfl, rfl, rfl, trivial⟩, s72, by omega, (by simpa using hw), hbx, hcl⟩ ?_
   rintro q σ15 w18 ⟨⟨f1, f4, f30, f31, f32, f70, f71, _⟩, s72, hq9, hw, hbx, hcl⟩
   have s1 := f1.trans qo7
   have s4 := f4.trans qo8
   have s30 := f30.trans qo9
   have s31 := f31.trans qo10
   have s32 := f32.trans qo11
   have s70 := f70.trans qo12
   have s71 := f71.trans qo13
   refine W.seq ?_
   refine W.region ?_
   refine WL.x (X.lss (s72) (s71)) rfl ?_
   refine WL.e9 Nx.thn 1 4 30 31 32 70 71 72 73 (lt rfl (s1)) (lt rfl (s4)) (lt rfl (s30)) (lt rfl (s31)) (lt rfl (s32)) (lt rfl (s70)) (lt rfl (s71)) (lt rfl (s72)) (lh) ?_
   intro σ16 s1 s4 s30 s31 s32 s70 s71 s72 s73
   refine W.seq ?_
   refine W.cndp s73 (fun hltq => ?_) (fun hltq => ?_)
   ·
    have hql : q < a.2.2.2.2.2.2.1.length := by omega
    have hlq9 := hlq q
    obtain ⟨b2, o2, cs2, T2, fr2, es2, hva2, hml2, hes2, hgl2, hr2⟩ := hs3.at (k := q) hql
    subst hva2
    have hmy := ma5 _ (List.getElem_mem hql)
    have hny := hna.2.2.2.2 _ (List.getElem_mem hql)
    have htq : (a.2.2.2.2.2.2.1.take (q + 1)).flatMap whyT = (a.2.2.2.2.2.2.1.take q).flatMap whyT ++ whyT a.2.2.2.2.2.2.1[q] := fm_take hql
    have hly := hla2 _ (List.getElem_mem hql)
    obtain ⟨y, hy⟩ : ∃ y, y = a.2.2.2.2.2.2.1[q] := ⟨_, rfl⟩
    rw [← hy] at hr2 hmy hny htq hly
    obtain ⟨rfl, -, -⟩ := hr2
    have hlab := (mayW_of hmy).1
    refine W.skip Nx.thn ?_
    refine W.seq ?_
    refine W.block ?_
    refine W.seq ?_
    refine W.region ?_
    refine WL.x (X.indexAddr Tryz.underlying65 el85 (s70) (s72) (by omega) (by omega)) rfl ?_
    refine WL.x (X.loadS ag85 (lh) (hcl.at0 hml2) hes2 hgl2) rfl ?_
    refine WL.alloc el85 rfl ?_
    intro w19 u9
    obtain ⟨yb, hyb⟩ : ∃ yb, yb = w18.heap.size := ⟨_, rfl⟩
    rw [← hyb]
    have hE := u9.at_
    rw [← hyb] at hE
    have cal := u9.ch
    have hwl := hw.lt
    have hyb9 : bw < yb := by omega
    replace hw := hw.ch0 cal
    replace hcl := hcl.trans0 cal
    replace hbx := cal.at0 hbx
    
    have hE0 := hE
    refine WL.storeS (vs := whyCells y) ag85 (lh) (lt rfl (lh)) rfl hes2 hE (by decide) ?_
    intro w20 us
    replace hE : w20.heap[yb]? = some (.cells (whyCells y).toArray 85 (0, 0)) := us.at_
    have cs := us.ch
    replace hw := hw.step us.ch (fun e => by (try dsimp only at e); omega) (fun j e => ⟨_, _, _, (by have e : j = yb := e; subst e; exact hE0), by decide⟩)
    replace hcl := hcl.trans us.ch (H := fun _ => False) (fun _ _ e => e) (fun j hj e => by (try dsimp only at e); omega)
    replace hbx := us.ch.at hbx (fun e => by (try dsimp only at e); omega)
    refine WL.e9 Nx.thn 1 4 8 30 31 32 70 71 72 (jt2 rfl (lt rfl (s1))) (jt2 rfl (lt rfl (s4))) (lh) (jt2 rfl (lt rfl (s30))) (jt2 rfl (lt rfl (s31))) (jt2 rfl (lt rfl (s32))) (jt2 rfl (lt rfl (s70))) (jt2 rfl (lt rfl (s71))) (jt2 rfl (lt rfl (s72))) ?_
    intro σ17 s1 s4 s8 s30 s31 s32 s70 s71 s72
    refine W.held (fun w' => Ch (fun j => bw ≤ j) w20 w' ∧ w'.heap[yb]? = some (.cells (whyCells y).toArray 85 (0, 0))) mo ?_
    intro w21 qhh14 qc15
    have hS : Ch (fun j => bw ≤ j) w20 w21 := Ch.weak qc15
    have hzqc15 := qc15.size
    have cdh15 := qc15
    have hE := cdh15.at0 hE
    replace hw := hw.ch0 cdh15
    replace hcl := hcl.trans0 cdh15
    replace hbx := cdh15.at0 hbx
    refine WH.take 0 rfl (by kernel_rfl) (by kernel_rfl) (by kernel_rfl) (fun _ _ _ h => h) Gd.none rfl (fun w' ⟨hS', hE'⟩ => X.iface Tryz.underlying9 trivial lc) ⟨hS, hE⟩ ?_
    refine WH.take 1 rfl (by kernel_rfl) (by kernel_rfl) (by kernel_rfl) (fun _ _ _ h => h) Gd.none rfl (fun w' ⟨hS', hE'⟩ => X.fieldAddr fd85_0 (lt rfl (s8))) ⟨hS, hE⟩ ?_
    refine WH.take 2 rfl (by kernel_rfl) (by kernel_rfl) (by kernel_rfl) (fun _ _ _ h => h) Gd.none rfl (fun w' ⟨hS', hE'⟩ => X.load pl3 (lh) hE' (v := .int .i64 y.1) rfl) ⟨hS, hE⟩ ?_
    refine WH.take 3 rfl (by kernel_rfl) (by kernel_rfl) (by kernel_rfl) (fun _ _ _ h => h) Gd.none rfl (fun w' ⟨hS', hE'⟩ => X.iface Tryz.underlying3 trivial (lh)) ⟨hS, hE⟩ ?_
    refine WH.take 4 rfl (by kernel_rfl) (by kernel_rfl) (by kernel_rfl) (fun _ _ _ h => h) Gd.none rfl (fun w' ⟨hS', hE'⟩ => X.fieldAddr fd85_2 (jt4 rfl (s8))) ⟨hS, hE⟩ ?_
    refine WH.take 5 rfl (by kernel_rfl) (by kernel_rfl) (by kernel_rfl) (fun _ _ _ h => h) Gd.none rfl (fun w' ⟨hS', hE'⟩ => X.load pl3 (lh) hE' (v := .int .i64 y.2.2.1) rfl) ⟨hS, hE⟩ ?_
    refine WH.take 8 rfl (by kernel_rfl) (by kernel_rfl) (by kernel_rfl) (fun _ _ _ h => h) Gd.none rfl (fun w' ⟨hS', hE'⟩ => X.fieldAddr fd85_1 (jt4 rfl (jt2 rfl (s8)))) ⟨hS, hE⟩ ?_
    refine WH.take 9 rfl (by kernel_rfl) (by kernel_rfl) (by kernel_rfl) (fun _ _ _ h => h) Gd.none rfl (fun w' ⟨hS', hE'⟩ => X.load pl3 (lh) hE' (v := .int .i64 y.2.1) rfl) ⟨hS, hE⟩ ?_
    refine WH.take 10 rfl (by kernel_rfl) (by kernel_rfl) (by kernel_rfl) (fun _ _ _ h => h) Gd.none rfl (fun w' ⟨hS', hE'⟩ => X.iface Tryz.underlying3 trivial (lh)) ⟨hS, hE⟩ ?_
    refine WH.take 11 rfl (by kernel_rfl) (by kernel_rfl) (by kernel_rfl) (fun _ _ _ h => h) Gd.none rfl (fun w' ⟨hS', hE'⟩ => X.iface Tryz.underlying9 trivial lc) ⟨hS, hE⟩ ?_
    refine WH.take 12 rfl (by kernel_rfl) (by kernel_rfl) (by kernel_rfl) (fun _ _ _ h => h) Gd.none rfl (fun w' ⟨hS', hE'⟩ => X.fieldAddr fd85_3 (jt8 rfl (jt2 rfl (s8)))) ⟨hS, hE⟩ ?_
    refine WH.take 13 rfl (by kernel_rfl) (by kernel_rfl) (by kernel_rfl) (fun _ _ _ h => h) Gd.none rfl (fun w' ⟨hS', hE'⟩ => X.load pl9 (lh) hE' (v := .string y.2.2.2.1) rfl) ⟨hS, hE⟩ ?_
    refine WH.take 14 rfl (by kernel_rfl) (by kernel_rfl) (by kernel_rfl) (fun _ _ _ h => h) Gd.none rfl (fun w' ⟨hS', hE'⟩ => X.iface Tryz.underlying9 trivial (lh)) ⟨hS, hE⟩ ?_
    refine WH.take 15 rfl (by kernel_rfl) (by kernel_rfl) (by kernel_rfl) (fun _ _ _ h => h) Gd.none rfl (fun w' ⟨hS', hE'⟩ => X.iface Tryz.underlying9 trivial lc) ⟨hS, hE⟩ ?_
    refine WH.take 16 rfl (by kernel_rfl) (by kernel_rfl) (by kernel_rfl) (fun _ _ _ h => h) Gd.none rfl (fun w' ⟨hS', hE'⟩ => X.fieldAddr fd85_4 (jt8 rfl (jt4 rfl (jt2 rfl (s8))))) ⟨hS, hE⟩ ?_
    refine WH.take 17 rfl (by kernel_rfl) (by kernel_rfl) (by kernel_rfl) (fun _ _ _ h => h) Gd.none rfl (fun w' ⟨hS', hE'⟩ => X.load pl3 (lh) hE' (v := .int .i64 y.2.2.2.2.1) rfl) ⟨hS, hE⟩ ?_
    refine WH.take 18 rfl (by kernel_rfl) (by kernel_rfl) (by kernel_rfl) (fun _ _ _ h => h) Gd.none rfl (fun w' ⟨hS', hE'⟩ => X.iface Tryz.underlying3 trivial (lh)) ⟨hS, hE⟩ ?_
    refine WH.take 19 rfl (by kernel_rfl) (by kernel_rfl) (by kernel_rfl) (fun _ _ _ h => h) Gd.none rfl (fun w' ⟨hS', hE'⟩ => X.fieldAddr fd85_5 (jt8 rfl (jt8 rfl (lt rfl (s8))))) ⟨hS, hE⟩ ?_
    refine WH.take 20 rfl (by kernel_rfl) (by kernel_rfl) (by kernel_rfl) (fun _ _ _ h => h) Gd.none rfl (fun w' ⟨hS', hE'⟩ => X.load pl3 (lh) hE' (v := .int .i64 y.2.2.2.2.2.1) rfl) ⟨hS, hE⟩ ?_
    refine WH.take 21 rfl (by kernel_rfl) (by kernel_rfl) (by kernel_rfl) (fun _ _ _ h => h) Gd.none rfl (fun w' ⟨hS', hE'⟩ => X.iface Tryz.underlying3 trivial (lh)) ⟨hS, hE⟩ ?_
    refine WH.take 22 rfl (by kernel_rfl) (by kernel_rfl) (by kernel_rfl) (fun _ _ _ h => h) Gd.none rfl (fun w' ⟨hS', hE'⟩ => X.fieldAddr fd85_6 (jt8 rfl (jt8 rfl (jt4 rfl (s8))))) ⟨hS, hE⟩ ?_
    refine WH.take 23 rfl (by kernel_rfl) (by kernel_rfl) (by kernel_rfl) (fun _ _ _ h => h) Gd.none rfl (fun w' ⟨hS', hE'⟩ => X.load pl4 (lh) hE' (v := .bool y.2.2.2.2.2.2.1) rfl) ⟨hS, hE⟩ ?_
    refine WH.take 26 rfl (by kernel_rfl) (by kernel_rfl) (by kernel_rfl) (fun _ _ _ h => h) Gd.none rfl (fun w' ⟨hS', hE'⟩ => X.fieldAddr fd85_7 (jt8 rfl (jt8 rfl (jt4 rfl (jt2 rfl (s8)))))) ⟨hS, hE⟩ ?_
    refine WH.take 27 rfl (by kernel_rfl) (by kernel_rfl) (by kernel_rfl) (fun _ _ _ h => h) Gd.none rfl (fun w' ⟨hS', hE'⟩ => X.load pl4 (lh) hE' (v := .bool y.2.2.2.2.2.2.2) rfl) ⟨hS, hE⟩ ?_
    refine WH.take 30 rfl (by kernel_rfl) (by kernel_rfl) (by kernel_rfl) (fun _ _ _ h => h) Gd.none rfl (fun w' ⟨hS', hE'⟩ => X.iface Tryz.underlying9 trivial lc) ⟨hS, hE⟩ ?_
    refine WH.one 6 rfl (by kernel_rfl) (fun _ _ h => h) ?_
    refine WL.call1 ce38 (jt8 rfl (jt8 rfl (jt2 rfl (lt rfl (lh))))) (label_ok y.2.2.1 w21) rfl ?_
    rintro _ w22 ⟨rfl, cn⟩
    replace hw := hw.ch0 cn
    replace hcl := hcl.trans0 cn
    replace hbx := cn.at0 hbx
    replace hE := cn.at0 hE
    have hS := hS.trans cn (fun _ _ => id) (by intro i hi hg; exact False.elim hg)
    refine WL.nil Nx.thn ⟨⟨hS, hE⟩, ?_⟩
    refine WH.take 7 rfl (by kernel_rfl) (by kernel_rfl) (by kernel_rfl) (fun _ _ _ h => h) Gd.none rfl (fun w' ⟨hS', hE'⟩ => X.iface Tryz.underlying9 trivial (lh)) ⟨hS, hE⟩ ?_
    refine WH.one 24 rfl (by kernel_rfl) (fun _ _ h => h) ?_
    refine WL.call3 ce35 (jt4 rfl (lt rfl (lh))) lc lc (either_ok y.2.2.2.2.2.2.1 wNil wValue w22) rfl ?_
    rintro _ _ ⟨rfl, rfl⟩
    refine WL.nil Nx.thn ⟨⟨hS, hE⟩, ?_⟩
    refine WH.take 25 rfl (by kernel_rfl) (by kernel_rfl) (by kernel_rfl) (fun _ _ _ h => h) Gd.none rfl (fun w' ⟨hS', hE'⟩ => X.iface Tryz.underlying9 trivial (lh)) ⟨hS, hE⟩ ?_
    refine WH.one 28 rfl (by kernel_rfl) (fun _ _ h => h) ?_
    refine WL.call3 ce35 (jt4 rfl (lt rfl (lh))) lc lc (either_ok y.2.2.2.2.2.2.2 wCond wSure w22) rfl ?_
    rintro _ _ ⟨rfl, rfl⟩
    refine WL.nil Nx.thn ⟨⟨hS, hE⟩, ?_⟩
    refine WH.take 29 rfl (by kernel_rfl) (by kernel_rfl) (by kernel_rfl) (fun _ _ _ h => h) Gd.none rfl (fun w' ⟨hS', hE'⟩ => X.iface Tryz.underlying9 trivial (lh)) ⟨hS, hE⟩ ?_
    refine WH.one 31 rfl (by kernel_rfl) (fun _ _ h => h) ?_
    refine WL.bslice Tryz.underlying115 el20 rfl (pcons (jt8 rfl (jt8 rfl (jt8 rfl (jt4 rfl (jt2 rfl (lh)))))) (pcons (jt8 rfl (jt8 rfl (jt8 rfl (jt2 rfl (lt rfl (lh)))))) (pcons (jt4 rfl (lh)) (pcons (jt8 rfl (jt8 rfl (jt4 rfl (jt2 rfl (lh))))) (pcons (jt8 rfl (jt8 rfl (jt4 rfl (lt rfl (lh))))) (pcons (jt8 rfl (jt8 rfl (jt2 rfl (lh)))) (pcons (jt8 rfl (jt8 rfl (lt rfl (lh)))) (pcons (jt8 rfl (jt4 rfl (jt2 rfl (lh)))) (pcons (jt8 rfl (jt2 rfl (lt rfl (lh)))) (pcons (jt2 rfl (lh)) (pcons (lh) (pcons (jt4 rfl (jt2 rfl (lh))) pnil)))))))))))) rfl (rfl : _ = [_, _, _, _, _, _, _, _, _, _, _, _]) rfl ?_
    intro w23 us; have hu15_31 := us.at_; have cu15_31 := us.ch
    replace hE := us.ch.at0 hE
    have hS := hS.trans cu15_31 (fun _ _ => id) (by intro i hi hg; exact False.elim hg)
    refine WL.nil Nx.thn ⟨⟨hS, hE⟩, ?_⟩
    refine WH.one 32 rfl (by kernel_rfl) (fun _ _ h => h) ?_
    have hPT : putF true [.s ⟨#[91]⟩, .n y.1, .s (labelN y.2.2.1), .n y.2.1, .s ⟨#[40]⟩, .s y.2.2.2.1, .s ⟨#[41]⟩, .n y.2.2.2.2.1, .n y.2.2.2.2.2.1, .s (bsel y.2.2.2.2.2.2.1 wNil wValue), .s (bsel y.2.2.2.2.2.2.2 wCond wSure), .s ⟨#[93]⟩] = (whyT y, true) := pt_why hlab
    have zw9 := hw.lt
    refine WL.call2 ce33 (jt8 rfl (jt8 rfl (jt8 rfl (jt8 rfl (s4))))) (lh) (put_ok bw bw _ 12 12 [.s ⟨#[91]⟩, .n y.1, .s (labelN y.2.2.1), .n y.2.1, .s ⟨#[40]⟩, .s y.2.2.2.1, .s ⟨#[41]⟩, .n y.2.2.2.2.1, .n y.2.2.2.2.2.1, .s (bsel y.2.2.2.2.2.2.1 wNil wValue), .s (bsel y.2.2.2.2.2.2.2 wCond wSure), .s ⟨#[93]⟩] ((repA x ++ [10] ++ repB x ++ [10]) ++ (x.2.2.1.take k).flatMap anT ++ anH a ++ (a.2.2.2.2.2.2.1.take q).flatMap whyT) true w23 rfl hu15_31 (by have h9 := hw.lt; omega) (hw.ch0 cu15_31) (by have h9 := hw.lt; have h8 := cu15_31.size; omega) (by rw [hPT]; dsimp only; simp only [List.length_append, List.length_cons, List.length_nil]; omega) (by show 12 ≤ 100; omega) (fun w9 c9 => tab_ch0 hTab ((hcl.trans0 cu15_31).trans c9 (H := fun _ => False) (fun _ _ e => e) (fun j hj e => by (try dsimp only at e); omega))) (pin_s (pin_n hny.1 (pin_s (pin_n hny.2.1 (pin_s (pin_s (pin_s (pin_n hny.2.2.1 (pin_n hny.2.2.2 (pin_s (pin_s (pin_s pin_nil))))))))))))) rfl ?_
    rintro _ w24 ⟨hw, cp, hk⟩
    rw [hPT] at hw
    replace hw : IsW bw bw ((repA x ++ [10] ++ repB x ++ [10]) ++ (x.2.2.1.take k).flatMap anT ++ anH a ++ (a.2.2.2.2.2.2.1.take q).flatMap whyT ++ whyT y) true w24 := hw
    replace hcl := hcl.trans0 cu15_31
    replace hbx := cu15_31.at0 hbx
    replace hcl := hcl.trans cp (H := fun _ => False) (fun _ _ e => e) (fun j hj e => by (try dsimp only at e); omega)
    replace hbx := hk _ _ _ _ hbx (by decide) (by omega)
    replace hE := hk _ _ _ _ hE (by decide) (by omega)
    have hS := hS.trans cp (fun _ _ => id) (by intro i hi hg; exact hg)
    refine WL.nil Nx.thn ⟨⟨hS, hE⟩, ?_⟩
    refine WH.done (by kernel_rfl) ?_
    refine WL.e8 (Nx.blk Nx.thn) 1 4 30 31 32 70 71 72 (jt8 rfl (jt8 rfl (jt8 rfl (jt8 rfl (lt rfl (s1)))))) (jt8 rfl (jt8 rfl (jt8 rfl (jt8 rfl (lt rfl (s4)))))) (jt8 rfl (jt8 rfl (jt8 rfl (jt8 rfl (lt rfl (s30)))))) (jt8 rfl (jt8 rfl (jt8 rfl (jt8 rfl (lt rfl (s31)))))) (jt8 rfl (jt8 rfl (jt8 rfl (jt8 rfl (lt rfl (s32)))))) (jt8 rfl (jt8 rfl (jt8 rfl (jt8 rfl (lt rfl (s70)))))) (jt8 rfl (jt8 rfl (jt8 rfl (jt8 rfl (lt rfl (s71)))))) (jt8 rfl (jt8 rfl (jt8 rfl (jt8 rfl (lt rfl (s72)))))) ?_
    intro σ18 s1 s4 s30 s31 s32 s70 s71 s72
    refine W.region ?_
    refine WL.x (X.add (s72) lc (by omega) (by omega)) rfl ?_
    refine WL.x (X.mv (lh)) rfl ?_
    refine WL.e8 Nx.thn 1 4 30 31 32 70 71 72 (jt2 rfl (s1)) (jt2 rfl (s4)) (jt2 rfl (s30)) (jt2 rfl (s31)) (jt2 rfl (s32)) (jt2 rfl (s70)) (jt2 rfl (s71)) (lh) ?_
    intro σ19 s1 s4 s30 s31 s32 s70 s71 s72
    refine ⟨q + 1, by omega, ⟨s1.trans qo7.symm, s4.trans qo8.symm, s30.trans qo9.symm, s31.trans qo10.symm, s32.trans qo11.symm, s70.trans qo12.symm, s71.trans qo13.symm, trivial⟩, s72, by omega, (by rw [htq, ← List.append_assoc]; exact hw), hbx, hcl⟩
   ·
    have hlq9 := hlq q
    refine W.exit (Nx.xthn (Nx.xthn (Nx.xblk Nx.thn))) ?_
    refine W.region ?_
    refine WL.call1 ce34 (s4) (line_ok bw bw ((repA x ++ [10] ++ repB x ++ [10]) ++ (x.2.2.1.take k).flatMap anT ++ anH a ++ (a.2.2.2.2.2.2.1.take q).flatMap whyT) true w18 hw (by simp only [List.length_append, List.length_cons, List.length_nil]; omega) (Nat.le_of_lt hw.lt)) rfl ?_
    rintro _ w25 ⟨hw, cp, hk⟩
    replace hcl := hcl.trans cp (H := fun _ => False) (fun _ _ e => e) (fun j hj e => by (try dsimp only at e); omega)
    replace hbx := hk _ _ _ _ hbx (by decide) (by omega)
    refine WL.e5 (Nx.blk Nx.thn) 1 4 30 31 32 (lt rfl (s1)) (lt rfl (s4)) (lt rfl (s30)) (lt rfl (s31)) (lt rfl (s32)) ?_
    intro σ20 s1 s4 s30 s31 s32
    refine W.region ?_
    refine WL.x (X.add (s32) lc (by omega) (by omega)) rfl ?_
    refine WL.x (X.mv (lh)) rfl ?_
    refine WL.e5 Nx.thn 1 4 30 31 32 (jt2 rfl (s1)) (jt2 rfl (s4)) (jt2 rfl (s30)) (jt2 rfl (s31)) (lh) ?_
    intro σ21 s1 s4 s30 s31 s32
    refine ⟨k + 1, by omega, ⟨s1.trans qo1.symm, s4.trans qo2.symm, s30.trans qo3.symm, s31.trans qo4.symm, trivial⟩, s32, by omega, (by rw [htk, anT_eq]; rw [show q = a.2.2.2.2.2.2.1.length by omega, List.take_length] at hw; simpa only [List.append_assoc] using hw), hbx, hcl⟩
  ·
   have hl5 := ml5 x.2.2.1.length
   rw [List.take_length] at hl5
   replace hw : IsW bw bw ((repA x ++ [10] ++ repB x ++ [10]) ++ x.2.2.1.flatMap anT) false w10 := by rw [show k = x.2.2.1.length by omega, List.take_length] at hw; exact hw
   refine W.exit (Nx.xthn (Nx.xthn (Nx.xblk Nx.thn))) ?_
   refine W.seq ?_
   refine W.region ?_
   refine WL.x (X.iface Tryz.underlying9 trivial lc) rfl ?_
   refine WL.x (X.fieldAddr fd25_3 (lt rfl (s1))) rfl ?_
   refine WL.x (X.load pl3 (lh) hbx (v := .int .i64 x.2.2.2.1) (by rw [hRC]; rfl)) rfl ?_
   refine WL.call1 ce37 (lh) (name_ok x.2.2.2.1 w10) rfl ?_
   rintro _ w26 ⟨rfl, cn⟩
   replace hw := hw.ch0 cn
   replace hcl := hcl.trans0 cn
   replace hbx := cn.at0 hbx
   refine WL.x (X.iface Tryz.underlying9 trivial (lh)) rfl ?_
   refine WL.bslice Tryz.underlying115 el20 rfl (pcons (jt4 rfl (lh)) (pcons (lh) pnil)) rfl (rfl : _ = [_, _]) rfl ?_
   intro w27 u19_5; have hu19_5 := u19_5.at_; have cu19_5 := u19_5.ch; have zu19_5 := u19_5.size
   have hPT : putF false [.s wLevel, .s (levelN x.2.2.2.1)] = (repL x, true) := pt_L mm3
   have zw9 := hw.lt
   refine WL.call2 ce33 (jt4 rfl (jt2 rfl (s4))) (lh) (put_ok bw bw _ 2 2 [.s wLevel, .s (levelN x.2.2.2.1)] ((repA x ++ [10] ++ repB x ++ [10]) ++ x.2.2.1.flatMap anT) false w27 rfl hu19_5 (by have h9 := hw.lt; omega) (hw.ch0 cu19_5) (by have h9 := hw.lt; have h8 := cu19_5.size; omega) (by rw [hPT]; dsimp only; simp only [List.length_append, List.length_cons, List.length_nil]; omega) (by show 2 ≤ 100; omega) (fun w9 c9 => tab_ch0 hTab ((hcl.trans0 cu19_5).trans c9 (H := fun _ => False) (fun _ _ e => e) (fun j hj e => by (try dsimp only at e); omega))) (pin_s (pin_s pin_nil))) rfl ?_
   rintro _ w28 ⟨hw, cp, hk⟩
   rw [hPT] at hw
   replace hw : IsW bw bw ((repA x ++ [10] ++ repB x ++ [10]) ++ x.2.2.1.flatMap anT ++ repL x) true w28 := hw
   replace hcl := hcl.trans0 cu19_5
   replace hbx := cu19_5.at0 hbx
   replace hcl := hcl.trans cp (H := fun _ => False) (fun _ _ e => e) (fun j hj e => by (try dsimp only at e); omega)
   replace hbx := hk _ _ _ _ hbx (by decide) (by omega)
   refine WL.e2 Nx.thn 1 4 (jt4 rfl (jt2 rfl (lt rfl (s1)))) (jt4 rfl (jt2 rfl (lt rfl (s4)))) ?_
   intro σ22 s1 s4
   refine W.seq ?_
   refine W.region ?_
   refine WL.call1 ce34 (s4) (line_ok bw bw ((repA x ++ [10] ++ repB x ++ [10]) ++ x.2.2.1.flatMap anT ++ repL x) true w28 hw (by simp only [List.length_append, List.length_cons, List.length_nil]; omega) (Nat.le_of_lt hw.lt)) rfl ?_
   rintro _ w29 ⟨hw, cp, hk⟩
   replace hcl := hcl.trans cp (H := fun _ => False) (fun _ _ e => e) (fun j hj e => by (try dsimp only at e); omega)
   replace hbx := hk _ _ _ _ hbx (by decide) (by omega)
   refine WL.e2 Nx.thn 1 4 (lt rfl (s1)) (lt rfl (s4)) ?_
   intro σ23 s1 s4
   refine W.seq ?_
   refine W.held (fun w' => Ch (fun j => bw ≤ j) w29 w' ∧ w'.heap[xb]? = some (.cells RC 25 (0, 0))) mo ?_
   intro w30 qhh16 qc17
   have hS : Ch (fun j => bw ≤ j) w29 w30 := Ch.weak qc17
   have hzqc17 := qc17.size
   have cdh21 := qc17
   replace hw := hw.ch0 cdh21
   replace hcl := hcl.trans0 cdh21
   replace hbx := cdh21.at0 hbx
   have hE := hbx
   refine WH.take 0 rfl (by kernel_rfl) (by kernel_rfl) (by kernel_rfl) (fun _ _ _ h => h) Gd.none rfl (fun w' ⟨hS', hE'⟩ => X.iface Tryz.underlying9 trivial lc) ⟨hS, hE⟩ ?_
   refine WH.take 2 rfl (by kernel_rfl) (by kernel_rfl) (by kernel_rfl) (fun _ _ _ h => h) Gd.none rfl (fun w' ⟨hS', hE'⟩ => X.fieldAddr fd25_4 (lt rfl (s1))) ⟨hS, hE⟩ ?_
   refine WH.take 3 rfl (by kernel_rfl) (by kernel_rfl) (by kernel_rfl) (fun _ _ _ h => h) Gd.none rfl (fun w' ⟨hS', hE'⟩ => X.load pl3 (lh) hE' (v := .int .i64 x.2.2.2.2.1) (by rw [hRC]; rfl)) ⟨hS, hE⟩ ?_
   refine WH.one 1 rfl (by kernel_rfl) (fun _ _ h => h) ?_
   refine WL.call0 ce39  (answers_ok w30) rfl ?_
   rintro _ w31 ⟨rfl, ck⟩
   replace hw := hw.ch0 ck
   replace hcl := hcl.trans0 ck
   replace hbx := ck.at0 hbx
   replace hE := ck.at0 hE
   have hS := hS.trans ck (fun _ _ => id) (by intro i hi hg; exact False.elim hg)
   refine WL.nil Nx.thn ⟨⟨hS, hE⟩, ?_⟩
   refine WH.take 4 rfl (by kernel_rfl) (by kernel_rfl) (by kernel_rfl) (fun _ _ _ h => h) Gd.none rfl (fun w' ⟨hS', hE'⟩ => X.indexA Tryz.underlying86 pl9 el9 (lh) (lt rfl (lh)) (by omega) (by omega) (answerN_at mm4)) ⟨hS, hE⟩ ?_
   refine WH.take 5 rfl (by kernel_rfl) (by kernel_rfl) (by kernel_rfl) (fun _ _ _ h => h) Gd.none rfl (fun w' ⟨hS', hE'⟩ => X.iface Tryz.underlying9 trivial (lh)) ⟨hS, hE⟩ ?_
   refine WH.one 6 rfl (by kernel_rfl) (fun _ _ h => h) ?_
   refine WL.bslice Tryz.underlying115 el20 rfl (pcons (jt4 rfl (lt rfl (lh))) (pcons (lh) pnil)) rfl (rfl : _ = [_, _]) rfl ?_
   intro w32 us; have hu21_6 := us.at_; have cu21_6 := us.ch
   replace hE := us.ch.at0 hE
   have hS := hS.trans cu21_6 (fun _ _ => id) (by intro i hi hg; exact False.elim hg)
   refine WL.nil Nx.thn ⟨⟨hS, hE⟩, ?_⟩
   refine WH.one 7 rfl (by kernel_rfl) (fun _ _ h => h) ?_
   have hPT : putF false [.s wAnswer, .s (answerN x.2.2.2.2.1)] = (repW x, true) := pt_W mm4
   have zw9 := hw.lt
   refine WL.call2 ce33 (jt4 rfl (jt2 rfl (lt rfl (s4)))) (lh) (put_ok bw bw _ 2 2 [.s wAnswer, .s (answerN x.2.2.2.2.1)] ((repA x ++ [10] ++ repB x ++ [10]) ++ x.2.2.1.flatMap anT ++ repL x ++ [10]) false w32 rfl hu21_6 (by have h9 := hw.lt; omega) (hw.ch0 cu21_6) (by have h9 := hw.lt; have h8 := cu21_6.size; omega) (by rw [hPT]; dsimp only; simp only [List.length_append, List.length_cons, List.length_nil]; omega) (by show 2 ≤ 100; omega) (fun w9 c9 => tab_ch0 hTab ((hcl.trans0 cu21_6).trans c9 (H := fun _ => False) (fun _ _ e => e) (fun j hj e => by (try dsimp only at e); omega))) (pin_s (pin_s pin_nil))) rfl ?_
   rintro _ w33 ⟨hw, cp, hk⟩
   rw [hPT] at hw
   replace hw : IsW bw bw ((repA x ++ [10] ++ repB x ++ [10]) ++ x.2.2.1.flatMap anT ++ repL x ++ [10] ++ repW x) true w33 := hw
   replace hcl := hcl.trans0 cu21_6
   replace hbx := cu21_6.at0 hbx
   replace hcl := hcl.trans cp (H := fun _ => False) (fun _ _ e => e) (fun j hj e => by (try dsimp only at e); omega)
   replace hbx := hk _ _ _ _ hbx (by decide) (by omega)
   replace hE := hk _ _ _ _ hE (by decide) (by omega)
   have hS := hS.trans cp (fun _ _ => id) (by intro i hi hg; exact hg)
   refine WL.nil Nx.thn ⟨⟨hS, hE⟩, ?_⟩
   refine WH.done (by kernel_rfl) ?_
   refine WL.e2 Nx.thn 1 4 (jt8 rfl (s1)) (jt8 rfl (s4)) ?_
   intro σ24 s1 s4
   have qo18 := s4
   refine W.seqJ (fun σ' w' => (σ' 4 = σ24 4 ∧ True) ∧ IsW bw bw ((repA x ++ [10] ++ repB x ++ [10]) ++ x.2.2.1.flatMap anT ++ repL x ++ [10] ++ repW x ++ ordT x.2.2.2.2.1 x.2.2.2.2.2) true w' ∧ w'.heap[xb]? = some (.cells RC 25 (0, 0)) ∧ Ch0 w w' ∧ (ordT x.2.2.2.2.1 x.2.2.2.2.2).length ≤ 6700) ?_ ?_
   ·
    refine W.seq ?_
    refine W.region ?_
    refine WL.x (X.fieldAddr fd25_4 (s1)) rfl ?_
    refine WL.x (X.load pl3 (lh) hbx (v := .int .i64 x.2.2.2.2.1) (by rw [hRC]; rfl)) rfl ?_
    refine WL.x (X.eql (lh) lc) rfl ?_
    refine WL.e3 Nx.thn 1 4 130 (jt2 rfl (lt rfl (s1))) (jt2 rfl (lt rfl (s4))) (lh) ?_
    intro σ25 s1 s4 s130
    refine W.cndp s130 (fun hyes => ?_) (fun hyes => ?_)
    ·
     refine W.seq ?_
     refine W.region ?_
     refine WL.x (X.iface Tryz.underlying9 trivial lc) rfl ?_
     refine WL.bslice Tryz.underlying115 el20 rfl (pcons (lh) pnil) rfl (rfl : _ = [_]) rfl ?_
     intro w34 u23_1; have hu23_1 := u23_1.at_; have cu23_1 := u23_1.ch; have zu23_1 := u23_1.size
     have hPT : putF true [.s ⟨#[40]⟩] = ([32, 40], true) := pt_o
     have zw9 := hw.lt
     refine WL.call2 ce33 (jt2 rfl (s4)) (lh) (put_ok bw bw _ 1 1 [.s ⟨#[40]⟩] ((repA x ++ [10] ++ repB x ++ [10]) ++ x.2.2.1.flatMap anT ++ repL x ++ [10] ++ repW x) true w34 rfl hu23_1 (by have h9 := hw.lt; omega) (hw.ch0 cu23_1) (by have h9 := hw.lt; have h8 := cu23_1.size; omega) (by rw [hPT]; dsimp only; simp only [List.length_append, List.length_cons, List.length_nil]; omega) (by show 1 ≤ 100; omega) (fun w9 c9 => tab_ch0 hTab ((hcl.trans0 cu23_1).trans c9 (H := fun _ => False) (fun _ _ e => e) (fun j hj e => by (try dsimp only at e); omega))) (pin_s pin_nil)) rfl ?_
     rintro _ w35 ⟨hw, cp, hk⟩
     rw [hPT] at hw
     replace hw : IsW bw bw ((repA x ++ [10] ++ repB x ++ [10]) ++ x.2.2.1.flatMap anT ++ repL x ++ [10] ++ repW x ++ [32, 40]) true w35 := hw
     replace hcl := hcl.trans0 cu23_1
     replace hbx := cu23_1.at0 hbx
     replace hcl := hcl.trans cp (H := fun _ => False) (fun _ _ e => e) (fun j hj e => by (try dsimp only at e); omega)
     replace hbx := hk _ _ _ _ hbx (by decide) (by omega)
     refine WL.e2 Nx.thn 1 4 (jt2 rfl (lt rfl (s1))) (jt2 rfl (lt rfl (s4))) ?_
     intro σ26 s1 s4
     refine W.seq ?_
     refine W.seq ?_
     refine W.region ?_
     refine WL.x (X.fieldAddr fd25_5 (s1)) rfl ?_
     refine WL.x (X.load pl23 (lh) hbx (v := .slice ua x.2.2.2.2.2.length uc) (by rw [hRC]; rfl)) rfl ?_
     refine WL.x (X.lenSl Tryz.underlying23 (lh)) rfl ?_
     refine WL.x (X.mv lc) rfl ?_
     refine WL.e4 Nx.thn 4 135 136 137 (jt4 rfl (s4)) (jt2 rfl (lh)) (lt rfl (lh)) (lh) ?_
     intro σ27 s4 s135 s136 s137
     refine W.block ?_
     have qo19 := s4
     have qo20 := s135
     have qo21 := s136
     -- loop 2: kept [4, 135, 136], varied [137]
     refine W.loop (G := Nat) (fun j σ' w' => (σ' 4 = σ27 4 ∧ σ' 135 = σ27 135 ∧ σ' 136 = σ27 136 ∧ True) ∧ (σ' 137 = .int .i64 (j : Int) ∧ j ≤ x.2.2.2.2.2.length ∧ IsW bw bw ((repA x ++ [10] ++ repB x ++ [10]) ++ x.2.2.1.flatMap anT ++ repL x ++ [10] ++ repW x ++ [32, 40] ++ (x.2.2.2.2.2.take j).flatMap valT) true w' ∧ w'.heap[xb]? = some (.cells RC 25 (0, 0)) ∧ Ch0 w w')) (fun j => x.2.2.2.2.2.length - j) (0) ⟨⟨rfl, rfl, rfl, trivial⟩, s137, by omega, (by simpa using hw), hbx, hcl⟩ ?_
     rintro j σ28 w36 ⟨⟨f4, f135, f136, _⟩, s137, hj9, hw, hbx, hcl⟩
     have s4 := f4.trans qo19
     have s135 := f135.trans qo20
     have s136 := f136.trans qo21
     refine W.seq ?_
     refine W.region ?_
     refine WL.x (X.lss (s137) (s136)) rfl ?_
     refine WL.e5 Nx.thn 4 135 136 137 138 (lt rfl (s4)) (lt rfl (s135)) (lt rfl (s136)) (lt rfl (s137)) (lh) ?_
     intro σ29 s4 s135 s136 s137 s138
     refine W.seq ?_
     refine W.cndp s138 (fun hltj => ?_) (fun hltj => ?_)
     ·
      have hjl : j < x.2.2.2.2.2.length := by omega
      have hl6 := ml6 j
      obtain ⟨gb, og, csg, Tg, frg, hgv, hg1, hg2⟩ := ho.1.at (k := j) (by rw [List.length_map]; omega)
      subst hgv
      have hzj := hnum.2.2 x.2.2.2.2.2[j] (List.getElem_mem hjl)
      have hvj := valT_len hzj
      have htj : (x.2.2.2.2.2.take (j + 1)).flatMap valT = (x.2.2.2.2.2.take j).flatMap valT ++ valT x.2.2.2.2.2[j] := fm_take hjl
      refine W.skip Nx.thn ?_
      refine W.seq ?_
      refine W.block ?_
      refine W.seq ?_
      refine W.region ?_
      refine WL.x (X.indexAddr Tryz.underlying23 el3 (s135) (s137) (by omega) (by omega)) rfl ?_
      refine WL.x (X.load pl3 (lh) (hcl.at0 hg1) (v := .int .i64 x.2.2.2.2.2[j]) (by rw [show og + (j : Int).toNat * 1 = og + j by omega, hg2 j (by rw [List.length_map]; omega), List.getElem?_map, List.getElem?_eq_getElem (by omega)]; rfl)) rfl ?_
      refine WL.x (X.asg (lh)) rfl ?_
      refine WL.e5 Nx.thn 4 10 135 136 137 (jt2 rfl (lt rfl (s4))) (lh) (jt2 rfl (lt rfl (s135))) (jt2 rfl (lt rfl (s136))) (jt2 rfl (lt rfl (s137))) ?_
      intro σ30 s4 s10 s135 s136 s137
      refine W.region ?_
      refine WL.x (X.mv (s10)) rfl ?_
      refine WL.x (X.iface Tryz.underlying3 trivial (lh)) rfl ?_
      refine WL.bslice Tryz.underlying115 el20 rfl (pcons (lh) pnil) rfl (rfl : _ = [_]) rfl ?_
      intro w37 u27_2; have hu27_2 := u27_2.at_; have cu27_2 := u27_2.ch; have zu27_2 := u27_2.size
      have hPT : putF true [.n x.2.2.2.2.2[j]] = (valT x.2.2.2.2.2[j], true) := pt_n _
      have zw9 := hw.lt
      refine WL.call2 ce33 (jt2 rfl (lt rfl (s4))) (lh) (put_ok bw bw _ 1 1 [.n x.2.2.2.2.2[j]] ((repA x ++ [10] ++ repB x ++ [10]) ++ x.2.2.1.flatMap anT ++ repL x ++ [10] ++ repW x ++ [32, 40] ++ (x.2.2.2.2.2.take j).flatMap valT) true w37 rfl hu27_2 (by have h9 := hw.lt; omega) (hw.ch0 cu27_2) (by have h9 := hw.lt; have h8 := cu27_2.size; omega) (by rw [hPT]; dsimp only; simp only [List.length_append, List.length_cons, List.length_nil]; omega) (by show 1 ≤ 100; omega) (fun w9 c9 => tab_ch0 hTab ((hcl.trans0 cu27_2).trans c9 (H := fun _ => False) (fun _ _ e => e) (fun j hj e => by (try dsimp only at e); omega))) (pin_n hzj pin_nil)) rfl ?_
      rintro _ w38 ⟨hw, cp, hk⟩
      rw [hPT] at hw
      replace hw : IsW bw bw ((repA x ++ [10] ++ repB x ++ [10]) ++ x.2.2.1.flatMap anT ++ repL x ++ [10] ++ repW x ++ [32, 40] ++ (x.2.2.2.2.2.take j).flatMap valT ++ valT x.2.2.2.2.2[j]) true w38 := hw
      replace hcl := hcl.trans0 cu27_2
      replace hbx := cu27_2.at0 hbx
      replace hcl := hcl.trans cp (H := fun _ => False) (fun _ _ e => e) (fun j hj e => by (try dsimp only at e); omega)
      replace hbx := hk _ _ _ _ hbx (by decide) (by omega)
      refine WL.e4 (Nx.blk Nx.thn) 4 135 136 137 (jt4 rfl (s4)) (jt4 rfl (s135)) (jt4 rfl (s136)) (jt4 rfl (s137)) ?_
      intro σ31 s4 s135 s136 s137
      refine W.region ?_
      refine WL.x (X.add (s137) lc (by omega) (by omega)) rfl ?_
      refine WL.x (X.mv (lh)) rfl ?_
      refine WL.e4 Nx.thn 4 135 136 137 (jt2 rfl (s4)) (jt2 rfl (s135)) (jt2 rfl (s136)) (lh) ?_
      intro σ32 s4 s135 s136 s137
      refine ⟨j + 1, by omega, ⟨s4.trans qo19.symm, s135.trans qo20.symm, s136.trans qo21.symm, trivial⟩, s137, by omega, (by rw [htj, ← List.append_assoc]; exact hw), hbx, hcl⟩
     ·
      have hl6 := ml6 j
      refine W.exit (Nx.xthn (Nx.xthn (Nx.xblk Nx.thn))) ?_
      refine W.region ?_
      refine WL.x (X.iface Tryz.underlying9 trivial lc) rfl ?_
      refine WL.bslice Tryz.underlying115 el20 rfl (pcons (lh) pnil) rfl (rfl : _ = [_]) rfl ?_
      intro w39 u29_1; have hu29_1 := u29_1.at_; have cu29_1 := u29_1.ch; have zu29_1 := u29_1.size
      have hPT : putF true [.s ⟨#[41]⟩] = ([32, 41], true) := pt_c
      have zw9 := hw.lt
      refine WL.call2 ce33 (jt2 rfl (s4)) (lh) (put_ok bw bw _ 1 1 [.s ⟨#[41]⟩] ((repA x ++ [10] ++ repB x ++ [10]) ++ x.2.2.1.flatMap anT ++ repL x ++ [10] ++ repW x ++ [32, 40] ++ (x.2.2.2.2.2.take j).flatMap valT) true w39 rfl hu29_1 (by have h9 := hw.lt; omega) (hw.ch0 cu29_1) (by have h9 := hw.lt; have h8 := cu29_1.size; omega) (by rw [hPT]; dsimp only; simp only [List.length_append, List.length_cons, List.length_nil]; omega) (by show 1 ≤ 100; omega) (fun w9 c9 => tab_ch0 hTab ((hcl.trans0 cu29_1).trans c9 (H := fun _ => False) (fun _ _ e => e) (fun j hj e => by (try dsimp only at e); omega))) (pin_s pin_nil)) rfl ?_
      rintro _ w40 ⟨hw, cp, hk⟩
      rw [hPT] at hw
      replace hw : IsW bw bw ((repA x ++ [10] ++ repB x ++ [10]) ++ x.2.2.1.flatMap anT ++ repL x ++ [10] ++ repW x ++ [32, 40] ++ (x.2.2.2.2.2.take j).flatMap valT ++ [32, 41]) true w40 := hw
      replace hcl := hcl.trans0 cu29_1
      replace hbx := cu29_1.at0 hbx
      replace hcl := hcl.trans cp (H := fun _ => False) (fun _ _ e => e) (fun j hj e => by (try dsimp only at e); omega)
      replace hbx := hk _ _ _ _ hbx (by decide) (by omega)
      refine WL.e1 Nx.thn 4 (jt2 rfl (lt rfl (s4))) ?_
      intro σ33 s4
      refine ⟨⟨s4.trans qo18.symm, trivial⟩, (by rw [ordT_yes hyes]; rw [show j = x.2.2.2.2.2.length by omega, List.take_length] at hw; simpa only [List.append_assoc] using hw), hbx, hcl, (by rw [ordT_yes hyes]; have h9 := ml6 x.2.2.2.2.2.length; rw [List.take_length] at h9; simp only [List.length_append, List.length_cons, List.length_nil]; omega)⟩
    ·
     refine W.skip Nx.thn ?_
     refine ⟨⟨s4.trans qo18.symm, trivial⟩, (by rw [ordT_no hyes, List.append_nil]; exact hw), hbx, hcl, (by rw [ordT_no hyes]; exact Nat.zero_le _)⟩
   ·
    rintro σ34 w41 ⟨⟨f4, _⟩, hw, hbx, hcl, hlo⟩
    have s4 := f4.trans qo18
    refine W.seq ?_
    refine W.region ?_
    refine WL.call1 ce34 (s4) (line_ok bw bw ((repA x ++ [10] ++ repB x ++ [10]) ++ x.2.2.1.flatMap anT ++ repL x ++ [10] ++ repW x ++ ordT x.2.2.2.2.1 x.2.2.2.2.2) true w41 hw (by simp only [List.length_append, List.length_cons, List.length_nil]; omega) (Nat.le_of_lt hw.lt)) rfl ?_
    rintro _ w42 ⟨hw, cp, hk⟩
    replace hcl := hcl.trans cp (H := fun _ => False) (fun _ _ e => e) (fun j hj e => by (try dsimp only at e); omega)
    replace hbx := hk _ _ _ _ hbx (by decide) (by omega)
    refine WL.e1 Nx.thn 4 (lt rfl (s4)) ?_
    intro σ35 s4
    refine W.seq ?_
    refine W.region ?_
    refine WL.x (X.fieldAddr fd78_0 (s4)) rfl ?_
    refine WL.call1 ce40 (lh) (wst_ok bw bw _ false w42 hw (by simp)) rfl ?_
    rintro _ w43 ⟨rfl, cs⟩
    replace hcl := hcl.trans cs (H := fun _ => False) (fun _ _ e => e) (fun j hj e => by (try dsimp only at e); omega)
    refine WL.x (X.asg (lh)) rfl ?_
    refine WL.x (X.asg lc) rfl ?_
    refine WL.e2 Nx.thn 2 3 (lt rfl (lh)) (lh) ?_
    intro σ36 s2 s3
    refine W.ret2 Nx.f2 s2 s3 ?_
    exact ⟨by rw [(prQ_yes hmay).1, (prQ_yes hmay).2, repT_eq]; unfold repH; rfl, hcl⟩
end Go.Proofs.YtbnllchicnmkiaaGreatDoor
end
