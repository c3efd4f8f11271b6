/-
  A part of the walk of the program. | A part of the walk of the program. | A part of the walk of the program. | Pairs, and what is reached by way of them. | Rows that are read from somewhere in them: what was cut off in front plays no part (queues). | A part of the walk of the program. | A part of the walk of the program.
-/
import Derived.Test.YtnfkblboimkcjaaDoorPr2
import Derived.ArgAppend
section
set_option linter.unusedVariables false
set_option linter.unusedSimpArgs false
set_option maxRecDepth 100000
namespace Go.Proofs.YtnfkblboimkcjaaDoor
open Go Go.RowKit Sg

theorem tz_ok (x : BV) (w : World) (hx : x ≠ 0) (htab : Tab w) :
  Sg.Ret Tryd.prog 87 #[bcell x] w fun v w' => ∃ k : Nat, v = .int .i64 (k : Int) ∧ k < 64 ∧ x.getLsbD k = true ∧ (∀ i, i < k → x.getLsbD i = false) ∧ w = w' := by
 have hb : bcell x = .int .u64 (x.toNat : Int) := rfl
 rw [hb]
 have hx0 : ¬ (x.toNat : Int) = 0 := fun e => hx (BitVec.eq_of_toNat_eq (by simpa using e))
 obtain ⟨TT, fr, htb⟩ := htab
 obtain ⟨k, hk, hk1, hk2, hk3⟩ := lowest x hx
 have hlt := x.isLt
 have htz := tz_pure x.toNat k (by omega) hlt hk3
 obtain ⟨htl, htv⟩ := tz_tab k hk
 refine enter1 (n := 14) (l := [bcell x]) Tryd.func87 rfl rfl rfl rfl ?_
 refine W.g1 0 (v1 := bcell x) rfl ?_; intro σ s0
 refine W.seq ?_
 refine W.region ?_
 refine WL.x (X.asg lc) rfl ?_
 refine WL.e1 Nx.thn 0 (lt rfl (s0)) ?_
 intro σ1 s0
 refine W.seq ?_
 refine W.seq ?_
 refine W.region ?_
 refine WL.x (X.mv (s0)) rfl ?_
 refine WL.x (X.eql (lh) lc) rfl ?_
 refine WL.e2 Nx.thn 0 4 (jt2 rfl (s0)) (lh) ?_
 intro σ2 s0 s4
 refine W.cndN s4 (hx0) ?_
 refine W.skip Nx.thn ?_
 refine W.seq ?_
 refine W.region ?_
 refine WL.x (X.mv (s0)) rfl ?_
 refine WL.x (X.mv (lt rfl (s0))) rfl ?_
 refine WL.x (X.negw (lh)) rfl ?_
 refine WL.x (X.and (jt2 rfl (lh)) (lh)) rfl ?_
 refine WL.x (X.mulw (lh) lc) rfl ?_
 refine WL.x (v := .int .u64 (tzAt k : Int)) (htz ▸ X.shr (lh) lc (by omega)) rfl ?_
 refine WL.x (X.indexAddrA Tryd.underlying134 el5 lg (lh) (by omega) (by omega)) rfl ?_
 refine WL.x (X.load pl5 (lh) htb (v := .int .u8 (k : Int)) (by rw [show 0 + (tzAt k : Int).toNat * 1 = tzAt k by omega]; exact htv)) rfl ?_
 refine WL.x (X.convi Tryd.underlying5 Tryd.underlying3 (lh) (wrap_i64 (by omega) (by omega))) rfl ?_
 refine WL.x (X.asg (lh)) rfl ?_
 refine WL.e1 Nx.thn 2 (lh) ?_
 intro σ3 s2
 refine W.ret1 Nx.f1 s2 ?_
 exact ⟨k, rfl, hk, hk1, hk2, rfl⟩

/-- What Next tells of a set, from i on. -/
def IsNext (p : Nat → Bool) (i : Int) (v : Value) : Prop :=
  (∃ j : Nat, v = .tuple #[.int .i64 (j : Int), .bool true] ∧ p j = true ∧ i ≤ j ∧ ∀ m : Nat, m < j → i ≤ m → p m = false) ∨ (v = .tuple #[.int .i64 0, .bool false] ∧ ∀ m : Nat, i ≤ m → p m = false)
theorem IsNext.same {p : Nat → Bool} {i : Int} {v v' : Value} (h : IsNext p i v) (h' : IsNext p i v') : v = v' := by
  rcases h with ⟨j, rfl, h1, h2, h3⟩ | ⟨rfl, h1⟩ <;> rcases h' with ⟨j', rfl, h1', h2', h3'⟩ | ⟨rfl, h1'⟩
  · rcases Nat.lt_trichotomy j j' with h | h | h
    · rw [h3' j h h2] at h1; cases h1
    · rw [h]
    · rw [h3 j' h h2'] at h1'; cases h1'
  · rw [h1' j h2] at h1; cases h1
  · rw [h1 j' h2'] at h1'; cases h1'
  · rfl
def NextIs (p : Nat → Bool) (i : Int) (x : Int) (c : Bool) : Prop :=
  (∃ j : Nat, x = j ∧ c = true ∧ p j = true ∧ i ≤ j ∧ ∀ m : Nat, m < j → i ≤ m → p m = false) ∨ (x = 0 ∧ c = false ∧ ∀ m : Nat, i ≤ m → p m = false)
theorem IsNext.pair {p : Nat → Bool} {i : Int} {v : Value} (h : IsNext p i v) : ∃ x c, v = .tuple #[.int .i64 x, .bool c] ∧ NextIs p i x c := by
  rcases h with ⟨j, rfl, h1, h2, h3⟩ | ⟨rfl, h1⟩
  · exact ⟨_, _, rfl, .inl ⟨j, rfl, rfl, h1, h2, h3⟩⟩
  · exact ⟨_, _, rfl, .inr ⟨rfl, rfl, h1⟩⟩
theorem mask_bits (x : BV) (m : Nat) (h : m < 64) : bitop .and .u64 (x.toNat : Int) (IntKind.u64.wrap (18446744073709551615 * 2 ^ (min m IntKind.u64.bits))) = ((x &&& (BitVec.allOnes 64 <<< m)).toNat : Int) := by
  rw [show IntKind.u64.bits = 64 by rfl, shl_ones m h, bitop_and]

theorem next_ok (b wb n : Nat) (ws : List BV) (i : Int) (w : World) (h : IsSet w b wb n ws) (htab : Tab w) (hi : i ≤ 9223372036854775807) :
  Sg.Ret Tryd.prog 73 #[.pointer (some ⟨b, 0, none⟩), .int .i64 i] w fun v w' => IsNext (mem ws) i v ∧ w = w' := by
 have hd := h.hd; have hlen := h.len; have hle := h.le; have hwd := h.wd
 have hmx : (if i < 0 then 0 else i) = (i.toNat : Int) := by split <;> omega
 generalize hi2 : i.toNat = i2 at *
 refine enter2 (n := 46) (l := [.pointer (some ⟨b, 0, none⟩), .int .i64 i]) Tryd.func73 rfl rfl rfl rfl ?_
 refine W.g2 0 1 (v1 := .pointer (some ⟨b, 0, none⟩)) (v2 := .int .i64 i) rfl rfl ?_; intro σ s0 s1
 refine W.seq ?_
 refine W.region ?_
 refine WL.x (X.asg lc) rfl ?_
 refine WL.x (X.asg lc) rfl ?_
 refine WL.e2 Nx.thn 0 1 (jt2 rfl (s0)) (jt2 rfl (s1)) ?_
 intro σ1 s0 s1
 refine W.seq ?_
 refine W.seq ?_
 refine W.region ?_
 refine WL.x (X.mv (s0)) rfl ?_
 refine WL.call1 ce70 (lh) (none_made b wb n ws w h) rfl ?_
 rintro _ _ ⟨rfl, rfl⟩
 refine WL.e3 Nx.thn 0 1 9 (jt2 rfl (s0)) (jt2 rfl (s1)) (lh) ?_
 intro σ2 s0 s1 s9
 refine W.cndBF s9 (rfl) ?_
 refine W.skip Nx.thn ?_
 refine W.seq ?_
 refine W.region ?_
 refine WL.x (X.mv (s1)) rfl ?_
 refine WL.x (v := .int .i64 (i2 : Int)) (hmx ▸ X.max (lh) lc) rfl ?_
 refine WL.x (X.asg (lh)) rfl ?_
 refine WL.e2 Nx.thn 0 1 (jt2 rfl (lt rfl (s0))) (lh) ?_
 intro σ3 s0 s1
 refine W.seq ?_
 refine W.seq ?_
 refine W.region ?_
 refine WL.x (X.mv (s1)) rfl ?_
 refine WL.x (X.quo (lh) lc (by omega) (by omega) (wrap_i64 (by omega) (by omega))) rfl ?_
 refine WL.x (X.asg (lh)) rfl ?_
 refine WL.e3 Nx.thn 0 1 6 (jt2 rfl (lt rfl (s0))) (jt2 rfl (lt rfl (s1))) (lh) ?_
 intro σ4 s0 s1 s6
 refine W.block ?_
 have qo1 := s0
 have qo2 := s1
 -- loop 0: kept [0, 1], varied [6]
 refine W.loop (G := Nat) (fun k σ' w' => (σ' 0 = σ4 0 ∧ σ' 1 = σ4 1 ∧ True) ∧ w = w' ∧ (σ' 6 = .int .i64 (k : Int) ∧ i2 / 64 ≤ k ∧ ∀ j, i2 ≤ j → j / 64 < k → mem ws j = false)) (fun k => ws.length - k) (i2 / 64) ⟨⟨rfl, rfl, trivial⟩, rfl, by simpa using s6, by omega, fun j h1 h2 => absurd h2 (by omega)⟩ ?_
 rintro k σ5 w1 ⟨⟨f0, f1, _⟩, rfl, s6, hk, hno⟩
 have s0 := f0.trans qo1
 have s1 := f1.trans qo2
 refine W.seq ?_
 refine W.seq ?_
 refine W.region ?_
 refine WL.x (X.mv (s6)) rfl ?_
 refine WL.x (X.mv (lt rfl (s0))) rfl ?_
 refine WL.x (X.nilck (lh)) rfl ?_
 refine WL.x (X.fieldAddr fd123_0 (lh)) rfl ?_
 refine WL.x (X.load pl121 (lh) (by assumption) (by rfl)) rfl ?_
 refine WL.x (X.lenSl Tryd.underlying121 (lh)) rfl ?_
 refine WL.x (X.lss (jt4 rfl (lt rfl (lh))) (lh)) rfl ?_
 refine WL.e4 Nx.thn 0 1 6 20 (jt4 rfl (jt2 rfl (lt rfl (s0)))) (jt4 rfl (jt2 rfl (lt rfl (s1)))) (jt4 rfl (jt2 rfl (lt rfl (s6)))) (lh) ?_
 intro σ6 s0 s1 s6 s20
 refine W.cndp s20 (fun hlt => ?_) (fun hlt => ?_)
 ·
  refine W.skip Nx.thn ?_
  refine W.seq ?_
  refine W.block ?_
  refine W.seq ?_
  refine W.region ?_
  refine WL.x (X.mv (s0)) rfl ?_
  refine WL.x (X.nilck (lh)) rfl ?_
  refine WL.x (X.fieldAddr fd123_0 (lh)) rfl ?_
  refine WL.x (X.load pl121 (lh) (by assumption) (by rfl)) rfl ?_
  refine WL.x (X.mv (jt4 rfl (s6))) rfl ?_
  refine WL.x (X.indexAddr Tryd.underlying121 el97 (lt rfl (lh)) (lh) (by omega) (by omega)) rfl ?_
  refine WL.x (X.load pl97 (lh) hwd (v := bcell (ws.getD k 0)) (by rw [show 0 + (k : Int).toNat * 1 = k by omega]; exact wcells_get ws k (by omega))) rfl ?_
  refine WL.x (X.asg (lh)) rfl ?_
  refine WL.e4 Nx.thn 0 1 6 7 (jt8 rfl (s0)) (jt8 rfl (s1)) (jt8 rfl (s6)) (lh) ?_
  intro σ7 s0 s1 s6 s7
  have qo3 := s0
  have qo4 := s1
  have qo5 := s6
  refine W.seqJ (fun σ' w' => (σ' 0 = σ7 0 ∧ σ' 1 = σ7 1 ∧ σ' 6 = σ7 6 ∧ True) ∧ ∃ y : BV, σ' 7 = bcell y ∧ (∀ j, j < 64 → y.getLsbD j = ((ws.getD k 0).getLsbD j && decide (i2 ≤ 64 * k + j))) ∧ w = w') ?_ ?_
  ·
   refine W.seq ?_
   refine W.region ?_
   refine WL.x (X.mv (s6)) rfl ?_
   refine WL.x (X.mv (lt rfl (s1))) rfl ?_
   refine WL.x (X.quo (lh) lc (by omega) (by omega) (wrap_i64 (by omega) (by omega))) rfl ?_
   refine WL.x (X.eql (jt2 rfl (lh)) (lh)) rfl ?_
   refine WL.e5 Nx.thn 0 1 6 7 33 (jt4 rfl (s0)) (jt4 rfl (s1)) (jt4 rfl (s6)) (jt4 rfl (s7)) (lh) ?_
   intro σ8 s0 s1 s6 s7 s33
   refine W.cndp s33 (fun heq => ?_) (fun heq => ?_)
   ·
    refine W.region ?_
    refine WL.x (X.mv (s7)) rfl ?_
    refine WL.x (X.mv (lt rfl (s1))) rfl ?_
    refine WL.x (X.rem (lh) lc (by omega) (by omega)) rfl ?_
    refine WL.x (X.shl lc (lh) (by omega)) rfl ?_
    refine WL.x (X.and (jt2 rfl (lt rfl (lh))) (lh)) rfl ?_
    refine WL.x (X.asg (lh)) rfl ?_
    refine WL.e4 Nx.thn 0 1 6 7 (jt4 rfl (jt2 rfl (s0))) (jt4 rfl (jt2 rfl (s1))) (jt4 rfl (jt2 rfl (s6))) (lh) ?_
    intro σ9 s0 s1 s6 s7
    refine ⟨⟨s0.trans qo3.symm, s1.trans qo4.symm, s6.trans qo5.symm, trivial⟩, ws.getD k 0 &&& (BitVec.allOnes 64 <<< (i2 % 64)), by rw [s7]; unfold bcell; exact congrArg _ (by have := mask_bits (ws.getD k 0) (i2 % 64) (by omega); rw [show ((i2 : Int) % 64).toNat = i2 % 64 by omega]; exact this), fun j hj => by rw [BitVec.getLsbD_and, ones_bit _ _ hj]; congr 1; exact decide_eq_decide.2 (by omega), rfl⟩
   ·
    refine W.skip Nx.thn ?_
    refine ⟨⟨s0.trans qo3.symm, s1.trans qo4.symm, s6.trans qo5.symm, trivial⟩, ws.getD k 0, s7, fun j hj => by rw [decide_eq_true (by omega)]; simp, rfl⟩
  ·
   rintro σ10 w2 ⟨⟨f0, f1, f6, _⟩, y, s7, hy, rfl⟩
   have s0 := f0.trans qo3
   have s1 := f1.trans qo4
   have s6 := f6.trans qo5
   refine W.seq ?_
   refine W.region ?_
   refine WL.x (X.mv (s7)) rfl ?_
   refine WL.x (X.neq (lh) lc) rfl ?_
   refine WL.e5 Nx.thn 0 1 6 7 40 (jt2 rfl (s0)) (jt2 rfl (s1)) (jt2 rfl (s6)) (jt2 rfl (s7)) (lh) ?_
   intro σ11 s0 s1 s6 s7 s40
   refine W.cndp s40 (fun hy0 => ?_) (fun hy0 => ?_)
   ·
    refine W.seq ?_
    refine W.region ?_
    refine WL.x (X.mv (s6)) rfl ?_
    refine WL.x (X.mul (lh) lc (by omega) (by omega)) rfl ?_
    refine WL.x (X.mv (jt2 rfl (s7))) rfl ?_
    refine WL.call1 ce87 (lh) (tz_ok y w (fun e => hy0 (by rw [e]; rfl)) htab) rfl ?_
    rintro _ _ ⟨q, rfl, hq, hq1, hq2, rfl⟩
    refine WL.x (X.add (jt2 rfl (lh)) (lh) (by omega) (by omega)) rfl ?_
    refine WL.x (X.asg (lh)) rfl ?_
    refine WL.x (X.asg lc) rfl ?_
    refine WL.e2 Nx.thn 4 5 (lt rfl (lh)) (lh) ?_
    intro σ12 s4 s5
    refine W.ret2 (Nx.rblk (Nx.rthn (Nx.rthn (Nx.rblk (Nx.rthn Nx.f2))))) s4 s5 ?_
    have hq3 := hy q hq
    rw [hq1] at hq3
    have hq4 := Bool.and_eq_true_iff.1 hq3.symm
    have hq5 : i2 ≤ 64 * k + q := of_decide_eq_true hq4.2
    refine ⟨.inl ⟨64 * k + q, by rw [show ((64 * k + q : Nat) : Int) = (k : Int) * 64 + q by omega], ?_, by omega, fun m hm hmi => ?_⟩, rfl⟩
    · unfold mem
      rw [show (64 * k + q) / 64 = k by omega, show (64 * k + q) % 64 = q by omega]
      exact hq4.1
    · by_cases e : m / 64 < k
      · exact hno m (by omega) e
      · have h1 := hy (m % 64) (by omega)
        rw [hq2 (m % 64) (by omega), decide_eq_true (show i2 ≤ 64 * k + m % 64 by omega), Bool.and_true] at h1
        unfold mem
        rw [show m / 64 = k by omega]; exact h1.symm
   ·
    refine W.skip (Nx.blk Nx.thn) ?_
    refine W.region ?_
    refine WL.x (X.mv (s6)) rfl ?_
    refine WL.x (X.add (lh) lc (by omega) (by omega)) rfl ?_
    refine WL.x (X.asg (lh)) rfl ?_
    refine WL.e3 Nx.thn 0 1 6 (jt2 rfl (lt rfl (s0))) (jt2 rfl (lt rfl (s1))) (lh) ?_
    intro σ13 s0 s1 s6
    refine ⟨k + 1, by omega, ⟨s0.trans qo1.symm, s1.trans qo2.symm, trivial⟩, rfl, s6, by omega, fun j h1 h2 => by
      by_cases e : j / 64 = k
      · have hj := hy (j % 64) (by omega)
        have hyz : y = 0 := BitVec.eq_of_toNat_eq (by simpa using (show (y.toNat : Int) = 0 by omega))
        rw [hyz] at hj
        have hle : i2 ≤ 64 * k + j % 64 := by omega
        simp only [hle, decide_true, Bool.and_true] at hj
        unfold mem; rw [e, ← hj]; simp
      · exact hno j h1 (by omega)⟩
 ·
  refine W.exit (Nx.xthn (Nx.xthn (Nx.xblk Nx.thn))) ?_
  refine W.seq ?_
  refine W.region ?_
  refine WL.x (X.asg lc) rfl ?_
  refine WL.x (X.asg lc) rfl ?_
  refine WL.e2 Nx.thn 4 5 (lt rfl (lh)) (lh) ?_
  intro σ14 s4 s5
  refine W.ret2 Nx.f2 s4 s5 ?_
  refine ⟨.inr ⟨rfl, fun m hm => ?_⟩, rfl⟩
  by_cases e : m / 64 < k
  · exact hno m (by omega) e
  · exact mem_out (by omega)
/-- The members below m, rising, as Go's numbers. -/
def elv (p : Nat → Bool) (m : Nat) : List Value := ((List.range m).filter p).map fun (j : Nat) => Value.int .i64 (j : Int)
theorem elv_succ_yes {p : Nat → Bool} {i j : Nat} (hij : i ≤ j) (hj : p j = true) (hno : ∀ m, m < j → i ≤ m → p m = false) : elv p (j + 1) = elv p i ++ [.int .i64 (j : Int)] := by
  unfold elv
  rw [List.range_succ, List.filter_append, List.map_append]
  congr 1
  · rw [filter_range_lt hij hno]
  · simp [hj]
theorem elv_len (p : Nat → Bool) (m : Nat) : (elv p m).length ≤ m := by
  unfold elv; rw [List.length_map]; exact Nat.le_trans (List.length_filter_le _ _) (by simp)
theorem elv_end {p : Nat → Bool} {i n : Nat} (hin : i ≤ n) (hno : ∀ m, i ≤ m → p m = false) : elv p n = elv p i := by
  unfold elv; rw [filter_range_le hin hno]
theorem list_ok (b wb n : Nat) (ws : List BV) (w : World) (h : IsSet w b wb n ws) (htab : Tab w) (hb0 : 0 < w.heap.size) :
  Sg.Ret Tryd.prog 62 #[.pointer (some ⟨b, 0, none⟩)] w fun v w' => w'.ownsRow w.heap.size 3 1 v (elv (mem ws) n).length (elv (mem ws) n) ∧ Ch0 w w' := by
 have hd := h.hd; have hlen := h.len; have hle := h.le; have hlb := h.ltb; have hlw := h.ltw
 refine enter1 (n := 24) (l := [.pointer (some ⟨b, 0, none⟩)]) Tryd.func62 rfl rfl rfl rfl ?_
 refine W.g1 0 (v1 := .pointer (some ⟨b, 0, none⟩)) rfl ?_; intro σ s0
 refine W.seq ?_
 refine W.region ?_
 refine WL.x (X.asg lc) rfl ?_
 refine WL.e1 Nx.thn 0 (lt rfl (s0)) ?_
 intro σ1 s0
 refine W.seq ?_
 refine W.region ?_
 refine WL.x (X.asg lc) rfl ?_
 refine WL.e2 Nx.thn 0 3 (lt rfl (s0)) (lh) ?_
 intro σ2 s0 s3
 refine W.seq ?_
 refine W.seq ?_
 refine W.region ?_
 refine WL.x (X.mv (s0)) rfl ?_
 refine WL.call2 ce73 (lh) lc (next_ok b wb n ws 0 w h htab (by omega)) rfl ?_
 rintro v1 _ ⟨hnx, rfl⟩
 obtain ⟨x1, k1, rfl, hx1⟩ := hnx.pair
 refine WL.x (X.mv (lh)) rfl ?_
 refine WL.x (X.ex2_0 (lh)) rfl ?_
 refine WL.x (X.ex2_1 (lt rfl (lh))) rfl ?_
 refine WL.x (X.asg (lt rfl (lh))) rfl ?_
 refine WL.x (X.asg (lt rfl (lh))) rfl ?_
 refine WL.e4 Nx.thn 0 3 4 5 (jt4 rfl (jt2 rfl (lt rfl (s0)))) (jt4 rfl (jt2 rfl (lt rfl (s3)))) (lt rfl (lh)) (lh) ?_
 intro σ3 s0 s3 s4 s5
 refine W.block ?_
 have qo1 := s0
 -- loop 0: kept [0], varied [3, 4, 5]
 refine W.loop (G := Nat) (fun p0 σ' w' => (σ' 0 = σ3 0 ∧ True) ∧ (∃ lv x c, σ' 3 = lv ∧ σ' 4 = .int .i64 x ∧ σ' 5 = .bool c ∧ w'.ownsRow w.heap.size 3 1 lv (elv (mem ws) p0).length (elv (mem ws) p0) ∧ NextIs (mem ws) p0 x c ∧ p0 ≤ n ∧ Ch0 w w')) (fun p0 => n - p0) (0) ⟨⟨rfl, trivial⟩, _, _, _, s3, s4, s5, World.ownsRow_nil _ _ _ _, hx1, by omega, Ch.refl _ _⟩ ?_
 rintro p0 σ4 w1 ⟨⟨f0, _⟩, lv, x, c, s3, s4, s5, hown, hx, hp0, hcl⟩
 have s0 := f0.trans qo1
 have hel := elv_len (mem ws) p0
 have hsz := hcl.size
 refine W.seq ?_
 refine W.seq ?_
 refine W.region ?_
 refine WL.x (X.mv (s5)) rfl ?_
 refine WL.e4 Nx.thn 0 3 4 11 (lt rfl (s0)) (lt rfl (s3)) (lt rfl (s4)) (lh) ?_
 intro σ5 s0 s3 s4 s11
 refine W.cnd s11 (fun hc => ?_) (fun hc => ?_)
 ·
  obtain ⟨j, rfl, -, hj, hij, hno⟩ : ∃ j : Nat, x = j ∧ c = true ∧ mem ws j = true ∧ p0 ≤ j ∧ ∀ m, m < j → p0 ≤ m → mem ws m = false := by
    rcases hx with ⟨j, h1, h2, h3, h4, h5⟩ | ⟨_, h2, _⟩
    · exact ⟨j, h1, h2, h3, by omega, fun m hm hm2 => h5 m hm (by omega)⟩
    · rw [hc] at h2; cases h2
  have hjn : j < n := by
    rcases Nat.lt_or_ge j n with h' | h'
    · exact h'
    · rw [h.clean j h'] at hj; cases hj
  refine W.skip Nx.thn ?_
  refine W.seq ?_
  refine W.block ?_
  refine W.region ?_
  refine WL.x (X.mv (s3)) rfl ?_
  refine WL.x (X.mv (lt rfl (s4))) rfl ?_
  refine WL.bslice Tryd.underlying40 el3 rfl (pcons (lh) pnil) rfl (rfl : _ = [_]) rfl ?_
  intro w2 u5_2; have hu5_2 := u5_2.at_; have cu5_2 := u5_2.ch; have zu5_2 := u5_2.size
  refine WL.append Tryd.underlying40 el3 rfl (by decide) (jt2 rfl (lh)) (lh) (own_ch hown cu5_2 (fun _ _ => id)) (by assumption) rfl (by simp [Value.oneCell']) (by unfold maxLen; omega) (by omega) (by omega) rfl ?_
  intro va5_3 w3 ho5_3 ca5_3
  have hcn := hcl.trans (cu5_2.trans ca5_3 (F := fun _ => False) (H := fun k => w.heap.size ≤ k) (fun _ _ e => e.elim) (fun i hi e => (own_lt hown e).1)) (fun _ _ e => e) (fun i hi e => absurd hi (by omega))
  refine WL.x (X.asg (lh)) rfl ?_
  refine WL.e3 (Nx.blk Nx.thn) 0 3 4 (jt4 rfl (lt rfl (s0))) (lh) (jt4 rfl (lt rfl (s4))) ?_
  intro σ6 s0 s3 s4
  refine W.region ?_
  refine WL.x (X.mv (s0)) rfl ?_
  refine WL.x (X.mv (lt rfl (s4))) rfl ?_
  refine WL.x (X.add (lh) lc (by omega) (by omega)) rfl ?_
  refine WL.call2 ce73 (jt2 rfl (lh)) (lh) (next_ok b wb n ws _ _ (h.ch0 hcn) (htab.ch0 hcn) (by omega)) rfl ?_
  rintro v2 _ ⟨hnx2, rfl⟩
  obtain ⟨x2, k2, rfl, hx2⟩ := hnx2.pair
  refine WL.x (X.mv (lh)) rfl ?_
  refine WL.x (X.ex2_0 (lh)) rfl ?_
  refine WL.x (X.ex2_1 (lt rfl (lh))) rfl ?_
  refine WL.x (X.asg (lt rfl (lh))) rfl ?_
  refine WL.x (X.asg (lt rfl (lh))) rfl ?_
  refine WL.e4 Nx.thn 0 3 4 5 (jt8 rfl (lt rfl (s0))) (jt8 rfl (lt rfl (s3))) (lt rfl (lh)) (lh) ?_
  intro σ7 s0 s3 s4 s5
  refine ⟨j + 1, by omega, ⟨s0.trans qo1.symm, trivial⟩, _, _, _, s3, s4, s5, by rw [elv_succ_yes hij hj hno, List.length_append]; exact ho5_3, hx2, by omega, hcn⟩
 ·
  have hend : ∀ m, p0 ≤ m → mem ws m = false := by
    rcases hx with ⟨j, h1, h2, _⟩ | ⟨_, _, h3⟩
    · rw [hc] at h2; cases h2
    · exact fun m hm => h3 m (by omega)
  refine W.exit (Nx.xthn (Nx.xthn (Nx.xblk Nx.thn))) ?_
  refine W.seq ?_
  refine W.region ?_
  refine WL.x (X.mv (s3)) rfl ?_
  refine WL.x (X.asg (lh)) rfl ?_
  refine WL.e1 Nx.thn 2 (lh) ?_
  intro σ8 s2
  refine W.ret1 Nx.f1 s2 ?_
  exact ⟨by rw [elv_end hp0 hend]; exact hown, hcl⟩
end Go.Proofs.YtnfkblboimkcjaaDoor
end

section
set_option linter.unusedVariables false
set_option linter.unusedSimpArgs false
set_option maxRecDepth 100000
namespace Go.Proofs.YtnfkblboimkcjaaDoor
open Go Go.RowKit Sg
theorem or_fn (x y : BV) (w : World) :
  Sg.Ret Tryd.prog 72 #[bcell x, bcell y] w fun v w' => v = bcell (x ||| y) ∧ w = w' := by
 have hb : ∀ z : BV, bcell z = .int .u64 (z.toNat : Int) := fun _ => rfl
 rw [hb, hb, hb]
 refine enter1 (n := 8) (l := [bcell x, bcell y]) Tryd.func72 rfl rfl rfl rfl ?_
 refine W.g2 0 1 (v1 := bcell x) (v2 := bcell y) rfl rfl ?_; intro σ s0 s1
 refine W.seq ?_
 refine W.region ?_
 refine WL.x (X.asg lc) rfl ?_
 refine WL.e2 Nx.thn 0 1 (lt rfl (s0)) (lt rfl (s1)) ?_
 intro σ1 s0 s1
 refine W.seq ?_
 refine W.region ?_
 refine WL.x (X.mv (s0)) rfl ?_
 refine WL.x (X.mv (lt rfl (s1))) rfl ?_
 refine WL.x (X.or (lt rfl (lh)) (lh)) rfl ?_
 refine WL.x (X.asg (lh)) rfl ?_
 refine WL.e1 Nx.thn 4 (lh) ?_
 intro σ2 s4
 refine W.ret1 Nx.f1 s4 ?_
 exact ⟨congrArg _ (bitop_or x y), rfl⟩
/-- The words so far: k of them done. -/
def zipTo (g : BV → BV → BV) (ws vs : List BV) (k : Nat) : List BV := (List.zipWith g ws vs).take k ++ ws.drop k
theorem zipTo_len {g : BV → BV → BV} {ws vs : List BV} (h : ws.length = vs.length) (k : Nat) : (zipTo g ws vs k).length = ws.length := by
  unfold zipTo; simp [List.length_zipWith]; omega
theorem zipTo_at {g : BV → BV → BV} {ws vs : List BV} (h : ws.length = vs.length) {k : Nat} (hk : k < ws.length) : (zipTo g ws vs k).getD k 0 = ws.getD k 0 := by
  unfold zipTo
  have hl : ((List.zipWith g ws vs).take k).length = k := by simp [List.length_zipWith]; omega
  rw [List.getD_eq_getElem?_getD, List.getD_eq_getElem?_getD, List.getElem?_append_right (by omega), hl]
  simp
theorem zipTo_next {g : BV → BV → BV} {ws vs : List BV} (h : ws.length = vs.length) {k : Nat} (hk : k < ws.length) : (zipTo g ws vs k).set k (g (ws.getD k 0) (vs.getD k 0)) = zipTo g ws vs (k + 1) := by
  unfold zipTo
  have hl : ((List.zipWith g ws vs).take k).length = k := by simp [List.length_zipWith]; omega
  have hz : k < (List.zipWith g ws vs).length := by simp [List.length_zipWith]; omega
  rw [List.set_append_right _ _ (by omega), hl, Nat.sub_self, List.drop_eq_getElem_cons hk, List.set_cons_zero, List.take_succ_eq_append_getElem hz]
  simp [List.getD_eq_getElem?_getD, List.getElem?_eq_getElem hk, List.getElem?_eq_getElem (show k < vs.length by omega)]
theorem zipTo_all {g : BV → BV → BV} {ws vs : List BV} (h : ws.length = vs.length) : zipTo g ws vs ws.length = List.zipWith g ws vs := by
  unfold zipTo
  rw [List.take_of_length_le (by simp [List.length_zipWith]; omega), List.drop_of_length_le (Nat.le_refl _), List.append_nil]
theorem zipTo_zero {g : BV → BV → BV} {ws vs : List BV} : zipTo g ws vs 0 = ws := by simp [zipTo]
theorem cell_ne {x y : BV} : ((x.toNat : Int) ≠ (y.toNat : Int)) ↔ x ≠ y := by
  constructor
  · intro h e; exact h (by rw [e])
  · intro h e; exact h (BitVec.eq_of_toNat_eq (by omega))
/-- Whether one of the words so far is other than it was. -/
def chg (g : BV → BV → BV) (ws vs : List BV) (k : Nat) : Bool := (List.range k).any fun i => decide (g (ws.getD i 0) (vs.getD i 0) ≠ ws.getD i 0)
theorem chg_succ (g : BV → BV → BV) (ws vs : List BV) (k : Nat) : chg g ws vs (k + 1) = (chg g ws vs k || decide (g (ws.getD k 0) (vs.getD k 0) ≠ ws.getD k 0)) := by
  unfold chg; rw [List.range_succ, List.any_append]; simp
theorem with_ok (b wb n : Nat) (ws : List BV) (b2 wb2 m : Nat) (vs : List BV) (f : Nat) (g : BV → BV → BV) (hcal : Sg.Callee Tryd.prog f) (hf : ∀ x y w, Sg.Ret Tryd.prog f #[bcell x, bcell y] w fun v w' => v = bcell (g x y) ∧ w = w') (w : World) (h : IsSet w b wb n ws) (h2 : IsSet w b2 wb2 m vs) (hnm : n = m) (hne : b2 ≠ wb) (hal : wb ≠ wb2 ∨ (wb = wb2 ∧ ws = vs)) :
  Sg.Ret Tryd.prog 71 #[.pointer (some ⟨b, 0, none⟩), .pointer (some ⟨b2, 0, none⟩), .func (.func f) #[] #[]] w fun v w' => v = .tuple #[.bool (chg g ws vs ws.length), .int .i64 0] ∧ Ch (fun k => k = wb) w w' ∧ w'.heap[wb]? = some (.cells (wcells (List.zipWith g ws vs)) 97 (0, 0)) := by
 have hd := h.hd; have hlen := h.len; have hle := h.le; have hwd := h.wd; have hd2 := h2.hd; have hlen2 := h2.len; have hwd2 := h2.wd; have hbw := h.ne
 have hll : ws.length = vs.length := by omega
 refine enter2 (n := 68) (l := [.pointer (some ⟨b, 0, none⟩), .pointer (some ⟨b2, 0, none⟩), .func (.func f) #[] #[]]) Tryd.func71 rfl rfl rfl rfl ?_
 refine W.g3 0 1 2 (v1 := .pointer (some ⟨b, 0, none⟩)) (v2 := .pointer (some ⟨b2, 0, none⟩)) (v3 := .func (.func f) #[] #[]) rfl rfl rfl ?_; intro σ s0 s1 s2
 refine W.seq ?_
 refine W.region ?_
 refine WL.x (X.asg lc) rfl ?_
 refine WL.x (X.asg lc) rfl ?_
 refine WL.e3 Nx.thn 0 1 2 (jt2 rfl (s0)) (jt2 rfl (s1)) (jt2 rfl (s2)) ?_
 intro σ1 s0 s1 s2
 refine W.seq ?_
 refine W.block ?_
 refine W.seq ?_
 refine W.region ?_
 refine WL.x (X.mv (s0)) rfl ?_
 refine WL.call1 ce70 (lh) (none_made b wb n ws w h) rfl ?_
 rintro _ _ ⟨rfl, rfl⟩
 refine WL.x (X.mv (lh)) rfl ?_
 refine WL.yes rfl rfl (lh) (rfl) ?_
 refine WL.x (X.mv (jt2 rfl (lt rfl (s1)))) rfl ?_
 refine WL.yes rfl rfl (lt rfl (lh)) (rfl) ?_
 refine WL.call1 ce70 (lh) (none_made b2 wb2 m vs w h2) rfl ?_
 rintro _ _ ⟨rfl, rfl⟩
 refine WL.x (X.pickF (jt2 rfl (lh)) (rfl) (lh)) rfl ?_
 refine WL.x (X.asg (lh)) rfl ?_
 refine WL.e4 Nx.thn 0 1 2 11 (jt4 rfl (jt2 rfl (lt rfl (s0)))) (jt4 rfl (jt2 rfl (lt rfl (s1)))) (jt4 rfl (jt2 rfl (lt rfl (s2)))) (lh) ?_
 intro σ2 s0 s1 s2 s11
 refine W.cndBF s11 (rfl) ?_
 refine W.seq ?_
 refine W.draw mo (by kernel_rfl) Nx.thn ?_
 refine WQ.x (fun _ => X.mv (s0)) rfl ?_
 refine WQ.x (fun _ => X.nilck (lh)) rfl ?_
 refine WQ.x (fun _ => X.fieldAddr fd123_1 (lh)) rfl ?_
 refine WQ.x (fun _ => X.load pl3 (lh) (by assumption) (by rfl)) rfl ?_
 refine WQ.x (fun _ => X.mv (jt4 rfl (s1))) rfl ?_
 refine WQ.x (fun _ => X.nilck (lh)) rfl ?_
 refine WQ.x (fun _ => X.fieldAddr fd123_1 (lh)) rfl ?_
 refine WQ.x (fun _ => X.load pl3 (lh) (by assumption) (by rfl)) rfl ?_
 refine WQ.x (fun _ => X.neq (jt4 rfl (lh)) (lh)) rfl ?_
 refine WQ.x (fun _ => X.asg (lh)) rfl ?_
 refine WQ.e4 0 1 2 18 (jt8 rfl (jt2 rfl (s0))) (jt8 rfl (jt2 rfl (s1))) (jt8 rfl (jt2 rfl (s2))) (lh) ?_
 intro σ3 s0 s1 s2 s18
 intro _; refine gdrew ?_; intro w1 hh3 cd3 dr3
 refine W.cndN s18 (by omega) ?_
 refine W.skip (Nx.blk Nx.thn) ?_
 refine W.seq ?_
 refine W.region ?_
 refine WL.x (X.asg lc) rfl ?_
 refine WL.e4 Nx.thn 0 1 2 8 (lt rfl (s0)) (lt rfl (s1)) (lt rfl (s2)) (lh) ?_
 intro σ4 s0 s1 s2 s8
 refine W.seq ?_
 refine W.seq ?_
 refine W.region ?_
 refine WL.x (X.mv (s0)) rfl ?_
 refine WL.x (X.nilck (lh)) rfl ?_
 refine WL.x (X.fieldAddr fd123_0 (lh)) rfl ?_
 refine WL.x (X.load pl121 (lh) (by exact cd3.at0 (by assumption)) (by rfl)) rfl ?_
 refine WL.x (X.lenSl Tryd.underlying121 (lh)) rfl ?_
 refine WL.x (X.mv lc) rfl ?_
 refine WL.e7 Nx.thn 0 1 2 8 31 32 33 (jt4 rfl (jt2 rfl (s0))) (jt4 rfl (jt2 rfl (s1))) (jt4 rfl (jt2 rfl (s2))) (jt4 rfl (jt2 rfl (s8))) (jt2 rfl (lh)) (lt rfl (lh)) (lh) ?_
 intro σ5 s0 s1 s2 s8 s31 s32 s33
 refine W.block ?_
 have qo2 := s0
 have qo3 := s1
 have qo4 := s2
 have qo5 := s31
 have qo6 := s32
 -- loop 0: kept [0, 1, 2, 31, 32], varied [8, 33]
 refine W.loop (G := Nat) (fun k σ' w' => (σ' 0 = σ5 0 ∧ σ' 1 = σ5 1 ∧ σ' 2 = σ5 2 ∧ σ' 31 = σ5 31 ∧ σ' 32 = σ5 32 ∧ True) ∧ (σ' 33 = .int .i64 (k : Int) ∧ σ' 8 = .bool (chg g ws vs k) ∧ k ≤ ws.length ∧ Ch (fun j => j = wb) w w' ∧ w'.heap[wb]? = some (.cells (wcells (zipTo g ws vs k)) 97 (0, 0)))) (fun k => ws.length - k) (0) ⟨⟨rfl, rfl, rfl, rfl, rfl, trivial⟩, s33, s8, by omega, Ch.weak cd3, by rw [zipTo_zero]; exact cd3.at0 hwd⟩ ?_
 rintro k σ6 w2 ⟨⟨f0, f1, f2, f31, f32, _⟩, s33, s8, hk, hcl, hwk⟩
 have s0 := f0.trans qo2
 have s1 := f1.trans qo3
 have s2 := f2.trans qo4
 have s31 := f31.trans qo5
 have s32 := f32.trans qo6
 have hho : k < ws.length → ∃ cs2, w2.heap[wb2]? = some (.cells cs2 97 (0, 0)) ∧ cs2[k]? = some (bcell (vs.getD k 0)) := fun hkk => by
   rcases hal with hal | ⟨e1, e2⟩
   · exact ⟨_, hcl.at hwd2 (fun e => hal e.symm), wcells_get _ _ (by omega)⟩
   · subst e1; subst e2
     exact ⟨_, hwk, by rw [wcells_get _ _ (by rw [zipTo_len hll]; omega), zipTo_at hll hkk]⟩
 refine W.seq ?_
 refine W.region ?_
 refine WL.x (X.lss (s33) (s32)) rfl ?_
 refine WL.e8 Nx.thn 0 1 2 8 31 32 33 34 (lt rfl (s0)) (lt rfl (s1)) (lt rfl (s2)) (lt rfl (s8)) (lt rfl (s31)) (lt rfl (s32)) (lt rfl (s33)) (lh) ?_
 intro σ7 s0 s1 s2 s8 s31 s32 s33 s34
 refine W.seq ?_
 refine W.cndp s34 (fun hlt => ?_) (fun hlt => ?_)
 ·
  obtain ⟨cs2, ho, hok⟩ := hho (by omega)
  refine W.skip Nx.thn ?_
  refine W.seq ?_
  refine W.block ?_
  refine W.seq ?_
  refine W.region ?_
  refine WL.x (X.mv (s33)) rfl ?_
  refine WL.x (X.indexAddr Tryd.underlying121 el97 (lt rfl (s31)) (lt rfl (s33)) (by omega) (by omega)) rfl ?_
  refine WL.x (X.load pl97 (lh) hwk (v := bcell (ws.getD k 0)) (by rw [show 0 + (k : Int).toNat * 1 = k by omega, wcells_get _ _ (by rw [zipTo_len hll]; omega), zipTo_at hll (by omega)])) rfl ?_
  refine WL.x (X.asg (jt2 rfl (lh))) rfl ?_
  refine WL.x (X.asg (lt rfl (lh))) rfl ?_
  refine WL.e9 Nx.thn 0 1 2 8 9 10 31 32 33 (jt4 rfl (lt rfl (s0))) (jt4 rfl (lt rfl (s1))) (jt4 rfl (lt rfl (s2))) (jt4 rfl (lt rfl (s8))) (lt rfl (lh)) (lh) (jt4 rfl (lt rfl (s31))) (jt4 rfl (lt rfl (s32))) (jt4 rfl (lt rfl (s33))) ?_
  intro σ8 s0 s1 s2 s8 s9 s10 s31 s32 s33
  refine W.seq ?_
  refine W.tail 16 mo (by kernel_rfl) ?_
  intro w3 hh9 cd9 dr9
  refine WS.x (X.mv (s0)) rfl ?_
  refine WS.x (X.nilck (lh)) rfl ?_
  refine WS.x (X.fieldAddr fd123_0 (lh)) rfl ?_
  refine WS.x (X.load pl121 (lh) (by exact cd9.at0 (hcl.at (by assumption) (by intro hne; ((try dsimp only at hne); omega)))) (by rfl)) rfl ?_
  refine WS.x (X.mv (jt4 rfl (s9))) rfl ?_
  refine WS.x (X.mv (jt4 rfl (lt rfl (s2)))) rfl ?_
  refine WS.x (X.mv (jt4 rfl (jt2 rfl (s10)))) rfl ?_
  refine WS.x (X.mv (jt4 rfl (jt2 rfl (lt rfl (s1))))) rfl ?_
  refine WS.x (X.nilck (lh)) rfl ?_
  refine WS.x (X.fieldAddr fd123_0 (lh)) rfl ?_
  refine WS.x (X.load pl121 (lh) (by exact cd9.at0 (hcl.at (by assumption) (by intro hne; ((try dsimp only at hne); omega)))) (by rfl)) rfl ?_
  refine WS.x (X.mv (jt8 rfl (jt2 rfl (lt rfl (s9))))) rfl ?_
  refine WS.x (X.indexAddr Tryd.underlying121 el97 (lt rfl (lh)) (lh) (by omega) (by omega)) rfl ?_
  refine WS.x (X.load pl97 (lh) (cd9.at0 ho) (v := bcell (vs.getD k 0)) (by rw [show 0 + (k : Int).toNat * 1 = k by omega]; exact hok)) rfl ?_
  refine WS.callv2 (caps := []) hcal (jt8 rfl (lh)) (jt4 rfl (jt2 rfl (lt rfl (lh)))) (lh) (hf _ _ _) rfl ?_
  refine WS.x (X.indexAddr Tryd.underlying121 el97 (jt8 rfl (jt2 rfl (lt rfl (lh)))) (jt8 rfl (jt2 rfl (lh))) (by omega) (by omega)) rfl ?_
  refine WS.nil ?_
  show WL _ _ _ _ _ _ _
  refine WL.store el97 (lh) (lt rfl (lh)) rfl (cd9.at0 hwk) (by rw [wcells_size, zipTo_len hll]; omega) ?_
  intro w4 us; have hs := us.at_; have cs := us.ch
  have hs : w4.heap[wb]? = some (Obj.cells (wcells (zipTo g ws vs (k + 1))) 97 (0, 0)) := by rw [hs, show 0 + (k : Int).toNat * 1 = k by omega, wcells_set, zipTo_next hll (by omega)]
  refine WL.e9 Nx.thn 0 1 2 8 9 10 31 32 33 (jt8 rfl (jt8 rfl (s0))) (jt8 rfl (jt8 rfl (s1))) (jt8 rfl (jt8 rfl (s2))) (jt8 rfl (jt8 rfl (s8))) (jt8 rfl (jt8 rfl (s9))) (jt8 rfl (jt8 rfl (s10))) (jt8 rfl (jt8 rfl (s31))) (jt8 rfl (jt8 rfl (s32))) (jt8 rfl (jt8 rfl (s33))) ?_
  intro σ9 s0 s1 s2 s8 s9 s10 s31 s32 s33
  refine W.region ?_
  refine WL.x (X.mv (s8)) rfl ?_
  refine WL.x (X.mv (lh)) rfl ?_
  refine WL.split (lh) (fun hch => ?_) (fun hch => ?_)
  ·
   refine WL.no rfl rfl (lh) (hch) rfl ?_
   refine WL.no rfl rfl (lt rfl (lh)) (hch) rfl ?_
   refine WL.no rfl rfl (jt2 rfl (lh)) (hch) rfl ?_
   refine WL.no rfl rfl (jt2 rfl (lt rfl (lh))) (hch) rfl ?_
   refine WL.no rfl rfl (jt4 rfl (lh)) (hch) rfl ?_
   refine WL.no rfl rfl (jt4 rfl (lt rfl (lh))) (hch) rfl ?_
   refine WL.no rfl rfl (jt4 rfl (jt2 rfl (lh))) (hch) rfl ?_
   refine WL.no rfl rfl (jt4 rfl (jt2 rfl (lt rfl (lh)))) (hch) rfl ?_
   refine WL.no rfl rfl (jt8 rfl (lh)) (hch) rfl ?_
   refine WL.x (X.pickT (jt8 rfl (lt rfl (lh))) (hch) lc) rfl ?_
   refine WL.x (X.asg (lh)) rfl ?_
   refine WL.e7 (Nx.blk Nx.thn) 0 1 2 8 31 32 33 (jt8 rfl (jt4 rfl (lt rfl (s0)))) (jt8 rfl (jt4 rfl (lt rfl (s1)))) (jt8 rfl (jt4 rfl (lt rfl (s2)))) (lh) (jt8 rfl (jt4 rfl (lt rfl (s31)))) (jt8 rfl (jt4 rfl (lt rfl (s32)))) (jt8 rfl (jt4 rfl (lt rfl (s33)))) ?_
   intro σ10 s0 s1 s2 s8 s31 s32 s33
   refine W.region ?_
   refine WL.x (X.add (s33) lc (by omega) (by omega)) rfl ?_
   refine WL.x (X.mv (lh)) rfl ?_
   refine WL.e7 Nx.thn 0 1 2 8 31 32 33 (jt2 rfl (s0)) (jt2 rfl (s1)) (jt2 rfl (s2)) (jt2 rfl (s8)) (jt2 rfl (s31)) (jt2 rfl (s32)) (lh) ?_
   intro σ11 s0 s1 s2 s8 s31 s32 s33
   refine ⟨k + 1, by omega, ⟨s0.trans qo2.symm, s1.trans qo3.symm, s2.trans qo4.symm, s31.trans qo5.symm, s32.trans qo6.symm, trivial⟩, s33, by rw [chg_succ, hch]; exact s8, by omega, (hcl.trans cd9 (fun _ _ => id) (fun _ _ e => e.elim)).trans cs (fun _ _ => id) (fun _ _ => id), hs⟩
  ·
   refine WL.yes rfl rfl (lh) (hch) ?_
   refine WL.x (X.mv (jt2 rfl (s0))) rfl ?_
   refine WL.yes rfl rfl (lt rfl (lh)) (hch) ?_
   refine WL.x (X.nilck (lh)) rfl ?_
   refine WL.yes rfl rfl (jt2 rfl (lh)) (hch) ?_
   refine WL.x (X.fieldAddr fd123_0 (lh)) rfl ?_
   refine WL.yes rfl rfl (jt2 rfl (lt rfl (lh))) (hch) ?_
   refine WL.x (X.load pl121 (lh) (by exact cs.at (cd9.at0 (hcl.at (by assumption) (by intro hne; ((try dsimp only at hne); omega)))) (by intro hne; ((try dsimp only at hne); omega))) (by rfl)) rfl ?_
   refine WL.yes rfl rfl (jt4 rfl (lh)) (hch) ?_
   refine WL.x (X.mv (jt4 rfl (jt2 rfl (s9)))) rfl ?_
   refine WL.yes rfl rfl (jt4 rfl (lt rfl (lh))) (hch) ?_
   refine WL.x (X.indexAddr Tryd.underlying121 el97 (lt rfl (lh)) (lh) (by omega) (by omega)) rfl ?_
   refine WL.yes rfl rfl (jt4 rfl (jt2 rfl (lh))) (hch) ?_
   refine WL.x (X.load pl97 (lh) hs (v := bcell (g (ws.getD k 0) (vs.getD k 0))) (by rw [show 0 + (k : Int).toNat * 1 = k by omega, wcells_get _ _ (by rw [zipTo_len hll]; omega), ← zipTo_next hll (by omega), getD_set (by rw [zipTo_len hll]; omega), if_pos rfl])) rfl ?_
   refine WL.yes rfl rfl (jt4 rfl (jt2 rfl (lt rfl (lh)))) (hch) ?_
   refine WL.x (X.mv (jt8 rfl (lt rfl (s10)))) rfl ?_
   refine WL.yes rfl rfl (jt8 rfl (lh)) (hch) ?_
   refine WL.x (X.neq (lt rfl (lh)) (lh)) rfl ?_
   refine WL.x (X.pickF (jt8 rfl (lt rfl (lh))) (hch) (lh)) rfl ?_
   refine WL.x (X.asg (lh)) rfl ?_
   refine WL.e7 (Nx.blk Nx.thn) 0 1 2 8 31 32 33 (jt8 rfl (jt4 rfl (lt rfl (s0)))) (jt8 rfl (jt4 rfl (lt rfl (s1)))) (jt8 rfl (jt4 rfl (lt rfl (s2)))) (lh) (jt8 rfl (jt4 rfl (lt rfl (s31)))) (jt8 rfl (jt4 rfl (lt rfl (s32)))) (jt8 rfl (jt4 rfl (lt rfl (s33)))) ?_
   intro σ12 s0 s1 s2 s8 s31 s32 s33
   refine W.region ?_
   refine WL.x (X.add (s33) lc (by omega) (by omega)) rfl ?_
   refine WL.x (X.mv (lh)) rfl ?_
   refine WL.e7 Nx.thn 0 1 2 8 31 32 33 (jt2 rfl (s0)) (jt2 rfl (s1)) (jt2 rfl (s2)) (jt2 rfl (s8)) (jt2 rfl (s31)) (jt2 rfl (s32)) (lh) ?_
   intro σ13 s0 s1 s2 s8 s31 s32 s33
   refine ⟨k + 1, by omega, ⟨s0.trans qo2.symm, s1.trans qo3.symm, s2.trans qo4.symm, s31.trans qo5.symm, s32.trans qo6.symm, trivial⟩, s33, by rw [chg_succ, hch, Bool.false_or, ← decide_eq_decide.2 cell_ne]; exact s8, by omega, (hcl.trans cd9 (fun _ _ => id) (fun _ _ e => e.elim)).trans cs (fun _ _ => id) (fun _ _ => id), hs⟩
 ·
  refine W.exit (Nx.xthn (Nx.xthn (Nx.xblk Nx.thn))) ?_
  refine W.seq ?_
  refine W.region ?_
  refine WL.x (X.mv (s8)) rfl ?_
  refine WL.x (X.asg (lh)) rfl ?_
  refine WL.x (X.asg lc) rfl ?_
  refine WL.e2 Nx.thn 6 7 (lt rfl (lh)) (lh) ?_
  intro σ14 s6 s7
  refine W.ret2 Nx.f2 s6 s7 ?_
  have hke : k = ws.length := by omega
  subst hke
  exact ⟨rfl, hcl, by rw [← zipTo_all hll]; exact hwk⟩
theorem zipw_get {g : BV → BV → BV} {ws vs : List BV} (h : ws.length = vs.length) (hg : g 0 0 = 0) (i : Nat) : (List.zipWith g ws vs).getD i 0 = g (ws.getD i 0) (vs.getD i 0) := by
  simp only [List.getD_eq_getElem?_getD]
  by_cases hi : i < ws.length
  · rw [List.getElem?_eq_getElem (show i < (List.zipWith g ws vs).length by simp; omega), List.getElem?_eq_getElem hi, List.getElem?_eq_getElem (show i < vs.length by omega)]
    simp
  · rw [List.getElem?_eq_none (by simp; omega), List.getElem?_eq_none (by omega), List.getElem?_eq_none (by omega)]
    exact hg.symm
theorem zip_set {w w' : World} {b wb n b2 wb2 : Nat} {ws vs : List BV} {g : BV → BV → BV} (p : Bool → Bool → Bool) (hg : ∀ x y j, (g x y).getLsbD j = p (x.getLsbD j) (y.getLsbD j)) (hp : p false false = false) (h00 : g 0 0 = 0)
    (h : IsSet w b wb n ws) (h2 : IsSet w b2 wb2 n vs) (c : Ch (fun k => k = wb) w w') (hc : w'.heap[wb]? = some (.cells (wcells (List.zipWith g ws vs)) 97 (0, 0))) :
    IsSet w' b wb n (List.zipWith g ws vs) ∧ ∀ j, mem (List.zipWith g ws vs) j = p (mem ws j) (mem vs j) := by
  have hll : ws.length = vs.length := by rw [h.len, h2.len]
  have hm : ∀ j, mem (List.zipWith g ws vs) j = p (mem ws j) (mem vs j) := fun j => by
    unfold mem; rw [zipw_get hll h00, hg]
  have hlen : (List.zipWith g ws vs).length = ws.length := by simp; omega
  refine ⟨⟨by rw [hlen]; exact c.at h.hd h.ne, hc, by rw [hlen]; exact h.len, h.le, fun i hi => by rw [hm, h.clean i hi, h2.clean i hi, hp]⟩, hm⟩
theorem chg_all {g : BV → BV → BV} {ws vs : List BV} (h : ws.length = vs.length) : chg g ws vs ws.length = decide (List.zipWith g ws vs ≠ ws) := by
  rw [Bool.eq_iff_iff, decide_eq_true_iff]
  unfold chg
  rw [List.any_eq_true]
  constructor
  · rintro ⟨i, hi, hne⟩ e
    have hi := List.mem_range.1 hi
    have := of_decide_eq_true hne
    refine this ?_
    have h1 : (List.zipWith g ws vs)[i]? = ws[i]? := by rw [e]
    rw [List.getElem?_eq_getElem (show i < (List.zipWith g ws vs).length by simp; omega), List.getElem?_eq_getElem hi] at h1
    simp only [List.getElem_zipWith, Option.some.injEq] at h1
    simp only [List.getD_eq_getElem?_getD, List.getElem?_eq_getElem hi, List.getElem?_eq_getElem (show i < vs.length by omega), Option.getD_some]
    exact h1
  · intro e
    refine Classical.byContradiction fun hno => e ?_
    refine List.ext_getElem (by simp; omega) fun i h1 h2 => ?_
    refine Classical.byContradiction fun hne => hno ⟨i, List.mem_range.2 h2, ?_⟩
    refine decide_eq_true ?_
    simp only [List.getElem_zipWith] at hne
    simp only [List.getD_eq_getElem?_getD, List.getElem?_eq_getElem h2, List.getElem?_eq_getElem (show i < vs.length by omega), Option.getD_some]
    exact hne

theorem or_any (b wb n : Nat) (ws : List BV) (b2 wb2 : Nat) (vs : List BV) (w : World) (h : IsSet w b wb n ws) (h2 : IsSet w b2 wb2 n vs) (hne : b2 ≠ wb) (hal : wb ≠ wb2 ∨ (wb = wb2 ∧ ws = vs)) :
  Sg.Ret Tryd.prog 61 #[.pointer (some ⟨b, 0, none⟩), .pointer (some ⟨b2, 0, none⟩)] w fun v w' => ∃ ws', v = .tuple #[.bool (decide (ws' ≠ ws)), .int .i64 0] ∧ IsSet w' b wb n ws' ∧ (∀ j, mem ws' j = (mem ws j || mem vs j)) ∧ Ch (fun k => k = wb) w w' := by
 have hll : ws.length = vs.length := by rw [h.len, h2.len]
 refine enter2 (n := 11) (l := [.pointer (some ⟨b, 0, none⟩), .pointer (some ⟨b2, 0, none⟩)]) Tryd.func61 rfl rfl rfl rfl ?_
 refine W.g2 0 1 (v1 := .pointer (some ⟨b, 0, none⟩)) (v2 := .pointer (some ⟨b2, 0, none⟩)) rfl rfl ?_; intro σ s0 s1
 refine W.seq ?_
 refine W.region ?_
 refine WL.x (X.asg lc) rfl ?_
 refine WL.x (X.asg lc) rfl ?_
 refine WL.e2 Nx.thn 0 1 (jt2 rfl (s0)) (jt2 rfl (s1)) ?_
 intro σ1 s0 s1
 refine W.seq ?_
 refine W.region ?_
 refine WL.x (X.mv (s0)) rfl ?_
 refine WL.x (X.mv (lt rfl (s1))) rfl ?_
 refine WL.call3 ce71 (lt rfl (lh)) (lh) lf (with_ok b wb n ws b2 wb2 n vs 72 (fun x y => x ||| y) ce72 (fun x y w => or_fn x y w) w h h2 rfl hne hal) rfl ?_
 rintro _ w1 ⟨rfl, cw, hcw⟩
 rw [chg_all hll]
 refine WL.x (X.ex2_0 (lh)) rfl ?_
 refine WL.x (X.ex2_1 (lt rfl (lh))) rfl ?_
 refine WL.x (X.asg (lt rfl (lh))) rfl ?_
 refine WL.x (X.asg (lt rfl (lh))) rfl ?_
 refine WL.e2 Nx.thn 4 5 (lt rfl (lh)) (lh) ?_
 intro σ2 s4 s5
 refine W.ret2 Nx.f2 s4 s5 ?_
 have hz := zip_set (fun x y => x || y) (fun x y j => BitVec.getLsbD_or) rfl rfl h h2 cw hcw
 exact ⟨_, rfl, hz.1, hz.2, cw⟩
end Go.Proofs.YtnfkblboimkcjaaDoor
end

section
set_option linter.unusedVariables false
set_option linter.unusedSimpArgs false
set_option maxRecDepth 100000
namespace Go.Proofs.YtnfkblboimkcjaaDoor
open Go Go.RowKit Sg

abbrev ptrs (bs : List (Nat × Nat)) : List Value := bs.map fun b => .pointer (some ⟨b.1, 0, none⟩)
/-- A set, told by who is in it. -/
def Row1 (w : World) (n : Nat) (b : Nat × Nat) (p : Nat → Bool) : Prop := ∃ ws, IsSet w b.1 b.2 n ws ∧ ∀ j, mem ws j = p j
/-- Sets, all apart. -/
structure Fam (w : World) (base n : Nat) (bs : List (Nat × Nat)) (M : Nat → Nat → Bool) : Prop where
  row : ∀ i (h : i < bs.length), Row1 w n bs[i] (M i)
  ne : (bs.map (·.2)).Nodup
  lo : ∀ b ∈ bs, base ≤ b.1 ∧ base ≤ b.2
theorem Row1.ch {F : Nat → Prop} {w w' : World} {n : Nat} {b : Nat × Nat} {p : Nat → Bool} (h : Row1 w n b p) (c : Ch F w w') (h1 : ¬ F b.1) (h2 : ¬ F b.2) : Row1 w' n b p := by
  obtain ⟨ws, hs, hm⟩ := h
  exact ⟨ws, hs.ch c h1 h2, hm⟩
theorem Row1.clean {w : World} {n : Nat} {b : Nat × Nat} {p : Nat → Bool} (h : Row1 w n b p) {j : Nat} (hj : n ≤ j) : p j = false := by
  obtain ⟨ws, hs, hm⟩ := h
  rw [← hm, hs.clean j hj]
theorem Row1.le {w : World} {n : Nat} {b : Nat × Nat} {p : Nat → Bool} (h : Row1 w n b p) : n ≤ 4096 := by
  obtain ⟨ws, hs, hm⟩ := h; exact hs.le
theorem Row1.lt {w : World} {n : Nat} {b : Nat × Nat} {p : Nat → Bool} (h : Row1 w n b p) : b.1 < w.heap.size ∧ b.2 < w.heap.size := by
  obtain ⟨ws, hs, hm⟩ := h; exact ⟨hs.ltb, hs.ltw⟩
theorem Row1.ty {w : World} {n : Nat} {b : Nat × Nat} {p : Nat → Bool} (h : Row1 w n b p) : (∃ cs, w.heap[b.1]? = some (.cells cs 123 (0, 0))) ∧ ∃ cs, w.heap[b.2]? = some (.cells cs 97 (0, 0)) := by
  obtain ⟨ws, hs, hm⟩ := h; exact ⟨⟨_, hs.hd⟩, ⟨_, hs.wd⟩⟩
/-- Blocks of words, and no others. -/
theorem Row1.ne {w : World} {n m : Nat} {b c : Nat × Nat} {p q : Nat → Bool} (h : Row1 w n b p) (k : Row1 w m c q) : b.1 ≠ c.2 := by
  obtain ⟨cs, h1⟩ := h.ty.1
  obtain ⟨cs', h2⟩ := k.ty.2
  intro e
  rw [e, h2] at h1
  exact absurd (Obj.cells.inj (Option.some.inj h1)).2.1 (by decide)
theorem Fam.ch {F : Nat → Prop} {w w' : World} {base n : Nat} {bs : List (Nat × Nat)} {M : Nat → Nat → Bool} (h : Fam w base n bs M) (c : Ch F w w') (h1 : ∀ b ∈ bs, ¬ F b.1 ∧ ¬ F b.2) : Fam w' base n bs M :=
  ⟨fun i hi => (h.row i hi).ch c (h1 _ (List.getElem_mem hi)).1 (h1 _ (List.getElem_mem hi)).2, h.ne, h.lo⟩
theorem Fam.ch0 {w w' : World} {base n : Nat} {bs : List (Nat × Nat)} {M : Nat → Nat → Bool} (h : Fam w base n bs M) (c : Ch0 w w') : Fam w' base n bs M := h.ch c (fun _ _ => ⟨id, id⟩)
theorem Fam.at {w : World} {base n : Nat} {bs : List (Nat × Nat)} {M : Nat → Nat → Bool} (h : Fam w base n bs M) {b : Nat × Nat} (hb : b ∈ bs) : ∃ p, Row1 w n b p := by
  obtain ⟨i, hi, rfl⟩ := List.mem_iff_getElem.1 hb
  exact ⟨_, h.row i hi⟩
theorem Fam.eq {w : World} {base n : Nat} {bs : List (Nat × Nat)} {M M' : Nat → Nat → Bool} (h : Fam w base n bs M) (e : ∀ i j, i < bs.length → M i j = M' i j) : Fam w base n bs M' :=
  ⟨fun i hi => by
    obtain ⟨ws, hs, hm⟩ := h.row i hi
    exact ⟨ws, hs, fun j => (hm j).trans (e i j hi)⟩, h.ne, h.lo⟩
theorem nodup_at {bs : List (Nat × Nat)} (h : (bs.map (·.2)).Nodup) {i j : Nat} (hi : i < bs.length) (hj : j < bs.length) (hij : i ≠ j) : bs[i].2 ≠ bs[j].2 := by
  intro e
  have h1 := (List.getElem_inj (i := i) (j := j) (h₀ := by simpa using hi) (h₁ := by simpa using hj) h).1 (by simpa using e)
  exact hij h1
/-- One row anew. -/
theorem Fam.put {w w' : World} {base n : Nat} {bs : List (Nat × Nat)} {M : Nat → Nat → Bool} (h : Fam w base n bs M) {i : Nat} (hi : i < bs.length) {p : Nat → Bool} (c : Ch (fun k => k = bs[i].2) w w') (hp : Row1 w' n bs[i] p) :
    Fam w' base n bs (fun x y => if x = i then p y else M x y) := by
  refine ⟨fun x hx => ?_, h.ne, h.lo⟩
  by_cases e : x = i
  · subst e
    have : (fun y => if x = x then p y else M x y) = p := funext fun y => if_pos rfl
    rw [this]; exact hp
  · have : (fun y => if x = i then p y else M x y) = M x := funext fun y => if_neg e
    rw [this]
    exact (h.row x hx).ch c ((h.row x hx).ne (h.row i hi)) (nodup_at h.ne hx hi e)
theorem Fam.push {w : World} {base n : Nat} {bs : List (Nat × Nat)} {M : Nat → Nat → Bool} (h : Fam w base n bs M) {b : Nat × Nat} (hb : Row1 w n b (M bs.length)) (hne : ∀ c ∈ bs, c.2 ≠ b.2) (hlo : base ≤ b.1 ∧ base ≤ b.2) : Fam w base n (bs ++ [b]) M := by
  refine ⟨fun i hi => ?_, ?_, fun c hc => ?_⟩
  · by_cases e : i < bs.length
    · rw [List.getElem_append_left e]; exact h.row i e
    · have : i = bs.length := by simp at hi; omega
      subst this
      rw [List.getElem_append_right (Nat.le_refl _)]; simpa using hb
  · rw [List.map_append, List.nodup_append]
    refine ⟨h.ne, by simp, fun x hx y hy => ?_⟩
    obtain ⟨c, hc, rfl⟩ := List.mem_map.1 hx
    simp at hy
    subst hy
    exact hne c hc
  · rcases List.mem_append.1 hc with hc | hc
    · exact h.lo c hc
    · rw [List.mem_singleton.1 hc]; exact hlo
def inB (bs : List (Nat × Nat)) (k : Nat) : Prop := ∃ b ∈ bs, k = b.2
theorem Fam.lt {w : World} {base n : Nat} {bs : List (Nat × Nat)} {M : Nat → Nat → Bool} (h : Fam w base n bs M) {k : Nat} (hk : inB bs k) : base ≤ k ∧ k < w.heap.size := by
  obtain ⟨b, hb, rfl⟩ := hk
  obtain ⟨p, hp⟩ := h.at hb
  exact ⟨(h.lo b hb).2, hp.lt.2⟩
theorem Fam.ty {w : World} {base n : Nat} {bs : List (Nat × Nat)} {M : Nat → Nat → Bool} (h : Fam w base n bs M) {k : Nat} (hk : inB bs k) : ∃ cs, w.heap[k]? = some (.cells cs 97 (0, 0)) := by
  obtain ⟨b, hb, rfl⟩ := hk
  obtain ⟨p, hp⟩ := h.at hb
  exact hp.ty.2
theorem ptr_at {w : World} {v : Value} {bs : List (Nat × Nat)} (h : Sl w v (ptrs bs)) {k : Nat} (hk : k < bs.length) :
    ∃ b o c cs T fr, v = .slice (some ⟨b, o, none⟩) bs.length c ∧ w.heap[b]? = some (.cells cs T fr) ∧ cs[o + (k : Int).toNat * 1]? = some (.pointer (some ⟨bs[k].1, 0, none⟩)) := by
  obtain ⟨a, c, e⟩ := h.len
  rw [List.length_map] at e
  subst e
  have h' := h
  rw [show bs.length = (ptrs bs).length by simp] at h'
  obtain ⟨b, o, cs, T, fr, rfl, h1, h2⟩ := h'.at (k := k) (by simpa using hk)
  refine ⟨b, o, c, cs, T, fr, rfl, h1, ?_⟩
  rw [show o + (k : Int).toNat * 1 = o + k by omega, h2 k (by simpa using hk), List.getElem?_map, List.getElem?_eq_getElem hk]
  rfl

theorem add_row (base n : Nat) (bs : List (Nat × Nat)) (M : Nat → Nat → Bool) (w : World) (h : Fam w base n bs M) (i : Nat) (hi : i < bs.length) (b : Int) (h0 : 0 ≤ b) (h1 : b < n) : Sg.Ret Tryd.prog 58 #[.pointer (some ⟨bs[i].1, 0, none⟩), .int .i64 b] w fun v w' =>
    v = .int .i64 0 ∧ Fam w' base n bs (fun x y => if x = i then (M i y || decide (y = b.toNat)) else M x y) ∧ Ch (fun k => k = bs[i].2) w w' := by
  obtain ⟨ws, hs, hm⟩ := h.row i hi
  refine Ret.mono (add_in _ _ n ws b w hs h0 h1) fun v w' hh => ⟨hh.1, h.put hi hh.2.1 ⟨_, hh.2.2, fun j => ?_⟩, hh.2.1⟩
  rw [mem_addW _ _ _ (hs.slot (by omega)), hm, Bool.or_comm]
theorem has_row (base n : Nat) (bs : List (Nat × Nat)) (M : Nat → Nat → Bool) (w : World) (h : Fam w base n bs M) (i : Nat) (hi : i < bs.length) (b : Int) : Sg.Ret Tryd.prog 41 #[.pointer (some ⟨bs[i].1, 0, none⟩), .int .i64 b] w fun v w' => v = .bool (decide (0 ≤ b) && M i b.toNat) ∧ Dr w w' := by
  obtain ⟨ws, hs, hm⟩ := h.row i hi
  refine Ret.mono (has_ok _ _ n ws b w hs) fun v w' hh => ⟨hh.1.trans ?_, hh.2⟩
  unfold hasB; rw [hm]
end Go.Proofs.YtnfkblboimkcjaaDoor
end

section
namespace Sg

/-- Reached by one pair or more. -/
def Via (l : List (Nat × Nat)) : Nat → Nat → Prop := Relation.TransGen (fun a b => (a, b) ∈ l)
theorem Via.one {l : List (Nat × Nat)} {a b : Nat} (h : (a, b) ∈ l) : Via l a b := .single h
theorem Via.snoc {l : List (Nat × Nat)} {a b c : Nat} (h : Via l a b) (k : (b, c) ∈ l) : Via l a c := .tail h k
theorem Via.trans {l : List (Nat × Nat)} {a b c : Nat} (h : Via l a b) (k : Via l b c) : Via l a c := by
  induction k with
  | single k => exact h.snoc k
  | tail _ k ih => exact ih.snoc k
theorem Via.mono {l l' : List (Nat × Nat)} (hl : ∀ p, p ∈ l → p ∈ l') {a b : Nat} (h : Via l a b) : Via l' a b := by
  induction h with
  | single k => exact .one (hl _ k)
  | tail _ k ih => exact ih.snoc (hl _ k)
theorem Via.ind {l : List (Nat × Nat)} {a : Nat} {p : Nat → Prop} (h1 : ∀ b, (a, b) ∈ l → p b) (h2 : ∀ b c, p b → (b, c) ∈ l → p c) {b : Nat} (h : Via l a b) : p b := by
  induction h with
  | single k => exact h1 _ k
  | tail _ k ih => exact h2 _ _ ih k
open Classical in
noncomputable def viaB (l : List (Nat × Nat)) (x y : Nat) : Bool := decide (Via l x y)
theorem viaB_iff {l : List (Nat × Nat)} {x y : Nat} : viaB l x y = true ↔ Via l x y := by unfold viaB; simp
theorem Via.congr {l l' : List (Nat × Nat)} (hl : ∀ p, p ∈ l ↔ p ∈ l') {a b : Nat} : Via l a b ↔ Via l' a b :=
  ⟨Via.mono fun p => (hl p).1, Via.mono fun p => (hl p).2⟩
theorem Via.right {l : List (Nat × Nat)} {a b : Nat} (h : Via l a b) : ∃ c, (c, b) ∈ l := by
  induction h with
  | single k => exact ⟨_, k⟩
  | tail _ k _ => exact ⟨_, k⟩
theorem Via.left {l : List (Nat × Nat)} {a b : Nat} (h : Via l a b) : ∃ c, (a, c) ∈ l := by
  induction h with
  | single k => exact ⟨_, k⟩
  | tail _ _ ih => exact ih

structure Bfs (l : List (Nat × Nat)) (a : Nat) (M : Nat → Bool) (q : List Nat) : Prop where
  snd : ∀ y, M y = true → Via l a y
  inq : ∀ x, x ∈ q → x = a ∨ M x = true
  cls : ∀ x, (x = a ∨ M x = true) → x ∈ q ∨ ∀ y, (x, y) ∈ l → M y = true
/-- x was taken off the queue; of the pairs those of l1 were looked at. -/
structure BfsIn (l : List (Nat × Nat)) (a x : Nat) (l1 : List (Nat × Nat)) (M : Nat → Bool) (q : List Nat) : Prop where
  snd : ∀ y, M y = true → Via l a y
  inq : ∀ x, x ∈ q → x = a ∨ M x = true
  hx : x = a ∨ M x = true
  cls : ∀ z, (z = a ∨ M z = true) → z ∈ q ∨ z = x ∨ ∀ y, (z, y) ∈ l → M y = true
  pre : ∀ y, (x, y) ∈ l1 → M y = true
theorem Bfs.pop {l : List (Nat × Nat)} {a x : Nat} {M : Nat → Bool} {q : List Nat} (h : Bfs l a M (x :: q)) : BfsIn l a x [] M q :=
  ⟨h.snd, fun y hy => h.inq y (List.mem_cons_of_mem _ hy), h.inq x (List.mem_cons_self ..), fun z hz => by
    rcases h.cls z hz with h1 | h1
    · rcases List.mem_cons.1 h1 with h2 | h2
      · exact .inr (.inl h2)
      · exact .inl h2
    · exact .inr (.inr h1), fun y hy => by cases hy⟩
theorem BfsIn.skip {l l1 : List (Nat × Nat)} {a x c d : Nat} {M : Nat → Bool} {q : List Nat} (h : BfsIn l a x l1 M q) (hs : c = x → M d = true) : BfsIn l a x (l1 ++ [(c, d)]) M q :=
  by
  refine ⟨h.snd, h.inq, h.hx, h.cls, fun y hy => ?_⟩
  rcases List.mem_append.1 hy with h1 | h1
  · exact h.pre y h1
  · obtain ⟨e1, rfl⟩ := Prod.mk.inj (List.mem_singleton.1 h1)
    exact hs e1.symm
theorem BfsIn.push {l l1 : List (Nat × Nat)} {a x d : Nat} {M M' : Nat → Bool} {q : List Nat} (h : BfsIn l a x l1 M q) (hl : (x, d) ∈ l) (hM : ∀ y, M' y = (M y || decide (y = d))) : BfsIn l a x (l1 ++ [(x, d)]) M' (q ++ [d]) := by
  have hxd : Via l a d := by
    rcases h.hx with rfl | hx
    · exact .one hl
    · exact (h.snd x hx).snoc hl
  have up : ∀ y, M y = true → M' y = true := fun y hy => by rw [hM, hy]; rfl
  have dn : ∀ y, M' y = true → M y = true ∨ y = d := fun y hy => by rw [hM] at hy; simpa using hy
  refine ⟨fun y hy => ?_, fun y hy => ?_, ?_, fun z hz => ?_, fun y hy => ?_⟩
  · rcases dn y hy with h1 | rfl
    · exact h.snd y h1
    · exact hxd
  · rcases List.mem_append.1 hy with h1 | h1
    · exact (h.inq y h1).imp id (up y)
    · rw [List.mem_singleton.1 h1, hM]; simp
  · exact h.hx.imp id (up x)
  · have key : (z = a ∨ M z = true) → z ∈ q ++ [d] ∨ z = x ∨ ∀ y, (z, y) ∈ l → M' y = true := fun hz => by
      rcases h.cls z hz with h1 | h1 | h1
      · exact .inl (List.mem_append.2 (.inl h1))
      · exact .inr (.inl h1)
      · exact .inr (.inr fun y hy => up y (h1 y hy))
    rcases hz with hz | hz
    · exact key (.inl hz)
    · rcases dn z hz with h1 | rfl
      · exact key (.inr h1)
      · exact .inl (by simp)
  · rcases List.mem_append.1 hy with h1 | h1
    · exact up y (h.pre y h1)
    · obtain ⟨_, rfl⟩ := Prod.mk.inj (List.mem_singleton.1 h1)
      rw [hM]; simp
theorem BfsIn.done {l : List (Nat × Nat)} {a x : Nat} {M : Nat → Bool} {q : List Nat} (h : BfsIn l a x l M q) : Bfs l a M q :=
  ⟨h.snd, h.inq, fun z hz => by
    rcases h.cls z hz with h1 | h1 | h1
    · exact .inl h1
    · subst h1; exact .inr h.pre
    · exact .inr h1⟩
theorem Bfs.fin {l : List (Nat × Nat)} {a : Nat} {M : Nat → Bool} (h : Bfs l a M []) (y : Nat) : M y = viaB l a y := by
  rw [Bool.eq_iff_iff, viaB_iff]
  refine ⟨h.snd y, fun hv => ?_⟩
  refine Via.ind (p := fun y => M y = true) (fun b hb => ?_) (fun b c hb hc => ?_) hv
  · rcases h.cls a (.inl rfl) with h1 | h1
    · cases h1
    · exact h1 b hb
  · rcases h.cls b (.inr hb) with h1 | h1
    · cases h1
    · exact h1 c hc
end Sg
end

section
namespace Sg
open Go Go.RowKit

def QRow (w : World) (base : Nat) (e : TypeId) (v : Value) (xs : List Value) : Prop :=
  (v = .slice none 0 0 ∧ xs = []) ∨ ∃ g o cap cur, v = .slice (some ⟨g, o, none⟩) xs.length cap ∧ base ≤ g ∧ w.heap[g]? = some (.cells cur e (0, 0)) ∧ xs.length ≤ cap ∧ cap ≤ maxLen ∧ o + cap ≤ cur.size ∧ ∀ j, j < xs.length → cur[o + j]? = xs[j]?
theorem QRow.nil {w : World} {base : Nat} {e : TypeId} : QRow w base e (.slice none 0 0) [] := .inl ⟨rfl, rfl⟩
theorem QRow.own {w : World} {base m : Nat} {e : TypeId} {v : Value} {xs : List Value} (h : w.ownsRow base e 1 v m xs) : QRow w base e v xs := by
  obtain ⟨hl, h⟩ := h
  rcases h with ⟨rfl, rfl⟩ | ⟨g, cap, cur, rfl, hb, hg, hc, hm, hs, ht⟩
  · exact .inl ⟨rfl, List.eq_nil_of_length_eq_zero (by simpa using hl)⟩
  · have hm' : xs.length = m := by omega
    subst hm'
    refine .inr ⟨g, 0, cap, cur, rfl, hb, hg, hc, hm, by omega, fun j hj => ?_⟩
    rw [← ht, List.getElem?_take, if_pos (by omega)]
    simp
theorem QRow.sl {w : World} {base : Nat} {e : TypeId} {v : Value} {xs : List Value} (h : QRow w base e v xs) : Sl w v xs := by
  rcases h with ⟨rfl, rfl⟩ | ⟨g, o, cap, cur, rfl, _, hg, hc, _, _, ht⟩
  · exact .inl ⟨rfl, _, 0, rfl⟩
  · exact .inr ⟨g, o, cap, cur, e, (0, 0), rfl, hc, hg, ht⟩
theorem QRow.lt {w : World} {base : Nat} {e : TypeId} {v : Value} {xs : List Value} (h : QRow w base e v xs) {k : Nat} (hk : slBlk v k) : base ≤ k ∧ k < w.heap.size := by
  rcases h with ⟨rfl, _⟩ | ⟨g, o, cap, cur, rfl, hb, hg, _⟩
  · exact hk.elim
  · have : k = g := hk
    subst this
    exact ⟨hb, lt_of_blk hg⟩
theorem QRow.ch {F : Nat → Prop} {w w' : World} {base : Nat} {e : TypeId} {v : Value} {xs : List Value} (h : QRow w base e v xs) (c : Ch F w w') (hn : ∀ k, slBlk v k → ¬ F k) : QRow w' base e v xs := by
  rcases h with h | ⟨g, o, cap, cur, rfl, hb, hg, rest⟩
  · exact .inl h
  · exact .inr ⟨g, o, cap, cur, rfl, hb, c.at hg (hn g rfl), rest⟩
theorem QRow.ch0 {w w' : World} {base : Nat} {e : TypeId} {v : Value} {xs : List Value} (h : QRow w base e v xs) (c : Ch0 w w') : QRow w' base e v xs := h.ch c (fun _ _ => id)
theorem QRow.len {w : World} {base : Nat} {e : TypeId} {v : Value} {xs : List Value} (h : QRow w base e v xs) : ∃ a cap, v = .slice a xs.length cap := h.sl.len
theorem QRow.base {w : World} {base b2 : Nat} {e : TypeId} {v : Value} {xs : List Value} (h : QRow w base e v xs) (hb : b2 ≤ base) : QRow w b2 e v xs := by
  rcases h with h | ⟨g, o, cap, cur, rfl, hb', rest⟩
  · exact .inl h
  · exact .inr ⟨g, o, cap, cur, rfl, by omega, rest⟩
theorem QRow.head {w : World} {base : Nat} {e : TypeId} {v u : Value} {us : List Value} (h : QRow w base e v (u :: us)) : ∃ g o cap cs, v = .slice (some ⟨g, o, none⟩) (us.length + 1) cap ∧ w.heap[g]? = some (.cells cs e (0, 0)) ∧ cs[o]? = some u := by
  rcases h with ⟨_, h0⟩ | ⟨g, o, cap, cur, rfl, hb, hg, hc, hm, hs', ht⟩
  · cases h0
  · exact ⟨g, o, cap, cur, rfl, hg, by have := ht 0 (by simp); simpa using this⟩
/-- The block is of this element type. -/
theorem QRow.ty {w : World} {base : Nat} {e : TypeId} {v : Value} {xs : List Value} (h : QRow w base e v xs) {k : Nat} (hk : slBlk v k) : ∃ cs, w.heap[k]? = some (.cells cs e (0, 0)) := by
  rcases h with ⟨rfl, _⟩ | ⟨g, o, cap, cur, rfl, hb, hg, _⟩
  · exact hk.elim
  · have : k = g := hk
    subst this
    exact ⟨_, hg⟩

section
variable {P : Program} {n : Nat} {Q : Post} {σ : Env} {w : World} {ops : Array Oper} {rest : List Oper}
variable {d : Nat} {t xt yt : TypeId} {pos : String} {af : Array Edge} {v : Value} {x y : Operand} {b o : Nat} {cs : Array Value} {T : TypeId} {fr : Nat × Nat}

/-- x[l:] -/
theorem X.slL {e : TypeId} {z : Value} {bytes size len cap : Nat} {a : Addr} {kl : IntKind} {l : Int} {lo : Operand} (hs : P.underlying xt = some (.slice e)) (he : Elem P e size z bytes) (hx : ev σ x = .slice (some a) len cap)
    (h1 : ev σ lo = .int kl l) (g0 : 0 ≤ l) (g1 : l ≤ len) : X P σ w (.slice xt x (some lo) none none) t (.slice (some (if (cap : Int) = l then a else a.add (l.toNat * size))) (len - l).toNat (cap - l).toNat) := fun _ _ _ _ => by
  obtain ⟨i, hi', rfl, _⟩ := he
  have hb : (Instr.sliceBounds true len cap (some (.int kl l)) none none).run P w = .ok (l.toNat, len, cap) w := by
    simp [Instr.sliceBounds, run_sliceBound (P := P) w kl l len _ (by omega) (by omega)]
  have e1 : len - l.toNat = (len - l).toNat := by omega
  have e2 : cap - l.toNat = (cap - l).toNat := by omega
  have e3 : (cap = l.toNat) ↔ (cap : Int) = l := by omega
  simp [execOp, hx, h1, Instr.sliceAt, Instr.slice, run_underlying hs, hb, Go.sizeOf, typeInfo, hi', e1, e2, e3]
  split <;> rfl
/-- The first one is cut off. -/
theorem WL.popQ {e : TypeId} {z u : Value} {bytes base : Nat} {kl : IntKind} {lo : Operand} {us : List Value} (hs : P.underlying xt = some (.slice e)) (he : Elem P e 1 z bytes) (hx : ev σ x = v) (h1 : ev σ lo = .int kl 1)
    (hq : QRow w base e v (u :: us)) (hn : Nat.blt d n = true) (h : ∀ v', QRow w base e v' us → (∀ k, slBlk v' k → slBlk v k) → WL P n ops Q rest (up σ d v') w) : WL P n ops Q (⟨some d, .slice xt x (some lo) none none, t, pos, af, none⟩ :: rest) σ w := by
  rcases hq with ⟨_, h0⟩ | ⟨g, o, cap, cur, rfl, hb, hg, hc, hm, hs', ht⟩
  · cases h0
  · simp only [List.length_cons] at *
    refine WL.x (X.slL (w := w) (t := t) hs he hx h1 (by omega) (by omega)) hn ?_
    have e1 : (((us.length + 1 : Nat) : Int) - 1).toNat = us.length := by omega
    have e2 : ((cap : Int) - 1).toNat = cap - 1 := by omega
    rw [e1, e2]
    by_cases h1 : (cap : Int) = 1
    · rw [if_pos h1]
      refine h _ (.inr ⟨g, o, cap - 1, cur, rfl, hb, hg, by omega, by omega, by omega, fun j hj => absurd hj (by omega)⟩) (fun k hk => hk)
    · rw [if_neg h1]
      have hadd : (⟨g, o, none⟩ : Addr).add ((1 : Int).toNat * 1) = ⟨g, o + 1, none⟩ := by unfold Addr.add; split <;> simp_all
      rw [hadd]
      refine h _ (.inr ⟨g, o + 1, cap - 1, cur, rfl, hb, hg, by omega, by omega, by omega, fun j hj => ?_⟩) (fun k hk => hk)
      have := ht (j + 1) (by omega)
      rw [show o + 1 + j = o + (j + 1) by omega, this]
      simp

theorem WL.pushQ {s : Operand} {ty : TypeId} {e : TypeId} {bytes base c : Nat} {z vs u : Value} {xs : List Value} (hs : P.underlying xt = some (.slice e)) (he : Elem P e 1 z bytes) (hz : z.cells.size = 1)
    (h1 : ev σ s = vs) (h2 : ev σ x = .slice (some ⟨b, 0, none⟩) 1 c) (hq : QRow w base e vs xs) (hm : w.heap[b]? = some (.cells #[u] T fr)) (hu : u.oneCell' = true)
    (g1 : xs.length + 1 ≤ maxLen) (g2 : (xs.length + 1) * bytes ≤ 140737488355328) (g3 : base ≤ w.heap.size) (hn : Nat.blt d n = true)
    (h : ∀ v' w', QRow w' base e v' (xs ++ [u]) → Ch (slBlk vs) w w' → (∀ k, slBlk v' k → slBlk vs k ∨ w.heap.size ≤ k) → WL P n ops Q rest (up σ d v') w') :
    WL P n ops Q (⟨some d, .call ⟨.builtin .append, #[s, x], #[xt, xt]⟩, ty, pos, af, none⟩ :: rest) σ w := by
  obtain ⟨i, hi, hi1, hzz, hby⟩ := he
  have hnews : ∀ j q, ([u] : List Value)[j]? = some q → w.cell? ((⟨b, 0, none⟩ : Addr).add j) = some q := by
    intro j q hq
    match j with
    | 0 => simp at hq; subst hq; exact cell_of hm rfl
    | j + 1 => simp at hq
  have hone : ∀ q ∈ ([u] : List Value), q.oneCell' = true := by intro q hq; rw [List.mem_singleton.1 hq]; exact hu
  have fin : ∀ {v' : Value} {w' : World}, (Builtin.append_ #[xt, xt] ty #[vs, .slice (some ⟨b, 0, none⟩) 1 c]).run P w = .ok v' w' → WL P n ops Q rest (up σ d v') w' → WL P n ops Q (⟨some d, .call ⟨.builtin .append, #[s, x], #[xt, xt]⟩, ty, pos, af, none⟩ :: rest) σ w := by
    intro v' w' hr hk
    refine WL.step (w' := w') rfl rfl hn ?_ hk
    simp [execOp, resolve, invoke, builtin, h1, h2, hr]
  rcases hq with ⟨rfl, rfl⟩ | ⟨g, o, cap, cur, rfl, hb, hg, hc, hmx, hs', ht⟩
  · obtain ⟨v', w', hr, h3, h4, _⟩ := run_append_own (P := P) w w.heap.size xt ty e i z 1 bytes hs hi hzz hi1 hby hz (by omega) (.slice none 0 0) 0 [] (World.ownsRow_nil _ _ _ _) ⟨b, 0, none⟩ 1 c [u] rfl hnews hone (by simpa using g1) (by simpa using g2) (Nat.le_refl _)
    refine fin hr (h v' w' ((QRow.own h3).base g3) ?_ fun k hk => .inr (own_lt h3 hk).1)
    exact ⟨h4.os, h4.tape, h4.output, h4.size, fun k hk hn => h4.block k hk (by simp [Value.ownBlock])⟩
  · by_cases hroom : xs.length + 1 ≤ cap
    · have hlt : o + xs.length < cur.size := by omega
      have hr := run_append_room_cells (P := P) w xt ty e i hs hi g o xs.length cap ⟨b, 0, none⟩ 1 c [u] (by simp [hi1]) hnews hone hroom
        (fun j hj => by
          have : j = 0 := by simpa using hj
          subst this
          rw [hi1, Nat.mul_one, Nat.add_zero, cell_of hg (Array.getElem?_eq_getElem hlt)]; rfl) (fun j hj => frozen_of hg)
      have hst := st_setCell (i := o + xs.length * i.size) hg u
      refine fin hr (h _ _ (.inr ⟨g, o, cap, _, by simp, hb, hst.at_, by simp; omega, hmx, by simpa using hs', fun j hj => ?_⟩) ?_ fun k hk => .inl hk)
      · rw [hi1, Nat.mul_one, Array.getElem?_setIfInBounds]
        by_cases e : j = xs.length
        · subst e
          rw [if_pos rfl, if_pos hlt]
          simp
        · have hj' : j < xs.length := by simp at hj; omega
          rw [if_neg (by omega), ht j hj', List.getElem?_append_left hj']
      · exact hst.ch
    · have holds : ∀ j q, xs[j]? = some q → w.cell? ((⟨g, o, none⟩ : Addr).add j) = some q := by
        intro j q hq
        have hj : j < xs.length := (List.getElem?_eq_some_iff.1 hq).1
        have hadd : (⟨g, o, none⟩ : Addr).add j = ⟨g, o + j, none⟩ := by unfold Addr.add; split <;> simp_all
        rw [hadd]
        exact cell_of hg ((ht j hj).trans hq)
      obtain ⟨v', w', hr, h3, h4⟩ := run_append_arg_grows (P := P) w xt ty e i z 1 bytes hs hi hzz hi1 hby hz (by omega) ⟨g, o, none⟩ xs.length cap xs (by simp) holds ⟨b, 0, none⟩ 1 c [u] rfl hnews (by omega) g1 g2
      exact fin hr (h v' w' ((QRow.own h3).base g3) ⟨h4.os, h4.tape, h4.output, h4.size, fun k hk hn => h4.block k hk (by simp)⟩ fun k hk => .inr (own_lt h3 hk).1)
end
end Sg
end

section
set_option linter.unusedVariables false
set_option linter.unusedSimpArgs false
set_option maxRecDepth 100000
namespace Go.Proofs.YtnfkblboimkcjaaDoor
open Go Go.RowKit Sg

theorem q_len {w : World} {base : Nat} {e : TypeId} {v : Value} {bs : List (Nat × Nat)} (h : QRow w base e v (ptrs bs)) : ∃ a c, v = .slice a bs.length c := by
  obtain ⟨a, c, e⟩ := h.len
  rw [List.length_map] at e
  exact ⟨a, c, e⟩
theorem ty_ne {w : World} {a b : Nat} {Ta Tb : TypeId} (ha : ∃ cs, w.heap[a]? = some (.cells cs Ta (0, 0))) (hb : ∃ cs, w.heap[b]? = some (.cells cs Tb (0, 0))) (h : Ta ≠ Tb) : a ≠ b := by
  obtain ⟨cs, ha⟩ := ha
  obtain ⟨cs', hb⟩ := hb
  intro e
  subst e
  rw [ha] at hb
  exact h (Obj.cells.inj (Option.some.inj hb)).2.1
theorem mine_not {w : World} {ts : List TypeId} {base k : Nat} {T : TypeId} (h : ∃ cs, w.heap[k]? = some (.cells cs T (0, 0))) (hT : T ∉ ts) : ¬ Mine ts base w k := by
  rintro ⟨_, cs', T', hT', h'⟩
  obtain ⟨cs, h⟩ := h
  rw [h] at h'
  have := (Obj.cells.inj (Option.some.inj h')).2.1
  exact hT (this ▸ hT')
/-- Sets behind a slice that the call has made. -/
structure Rws (w : World) (base n : Nat) (v : Value) (bs : List (Nat × Nat)) (M : Nat → Nat → Bool) : Prop where
  fam : Fam w base n bs M
  sl : QRow w base 75 v (ptrs bs)
theorem Rws.ch {F : Nat → Prop} {w w' : World} {base n : Nat} {v : Value} {bs : List (Nat × Nat)} {M : Nat → Nat → Bool} (h : Rws w base n v bs M) (c : Ch F w w') (h1 : ∀ b ∈ bs, ¬ F b.1 ∧ ¬ F b.2) (h2 : ∀ k, slBlk v k → ¬ F k) : Rws w' base n v bs M :=
  ⟨h.fam.ch c h1, h.sl.ch c h2⟩
theorem Rws.ch0 {w w' : World} {base n : Nat} {v : Value} {bs : List (Nat × Nat)} {M : Nat → Nat → Bool} (h : Rws w base n v bs M) (c : Ch0 w w') : Rws w' base n v bs M := h.ch c (fun _ _ => ⟨id, id⟩) (fun _ _ => id)
theorem Rws.keep {ts : List TypeId} {b : Nat} {w w' : World} {base n : Nat} {v : Value} {bs : List (Nat × Nat)} {M : Nat → Nat → Bool} (h : Rws w base n v bs M) (c : Ch (Mine ts b w) w w') (hts : 75 ∉ ts ∧ 123 ∉ ts ∧ 97 ∉ ts) : Rws w' base n v bs M :=
  h.ch c (fun b hb => by
    obtain ⟨p, hp⟩ := h.fam.at hb
    exact ⟨mine_not hp.ty.1 hts.2.1, mine_not hp.ty.2 hts.2.2⟩) (fun k hk => mine_not (h.sl.ty hk) hts.1)
theorem ptr_of {w : World} {a : Option Addr} {c : Nat} {bs : List (Nat × Nat)} (h : Sl w (.slice a bs.length c) (ptrs bs)) {k : Nat} (hk : k < bs.length) :
    ∃ b o cs T fr, a = some ⟨b, o, none⟩ ∧ w.heap[b]? = some (.cells cs T fr) ∧ cs[o + (k : Int).toNat * 1]? = some (.pointer (some ⟨bs[k].1, 0, none⟩)) := by
  obtain ⟨b, o, c, cs, T, fr, e, h1, h2⟩ := ptr_at h hk
  simp only [Value.slice.injEq, true_and] at e
  exact ⟨b, o, cs, T, fr, e.1, h1, h2⟩
theorem slot_of {w : World} {a : Option Addr} {c : Nat} {bs : List (Nat × Nat)} (h : Sl w (.slice a bs.length c) (ptrs bs)) {k : Int} (h0 : 0 ≤ k) (hk : k < bs.length) :
    ∃ b o cs T fr, a = some ⟨b, o, none⟩ ∧ w.heap[b]? = some (.cells cs T fr) ∧ cs[o + k.toNat * 1]? = some (.pointer (some ⟨(bs[k.toNat]'(by omega)).1, 0, none⟩)) := by
  obtain ⟨b, o, cs, T, fr, e, h1, h2⟩ := ptr_of h (k := k.toNat) (by omega)
  exact ⟨b, o, cs, T, fr, e, h1, by rw [show ((k.toNat : Nat) : Int).toNat = k.toNat by omega] at h2; exact h2⟩


theorem fam_nil {w : World} {base n : Nat} {M : Nat → Nat → Bool} : Fam w base n [] M := ⟨fun i hi => absurd hi (by simp), by simp, fun b hb => by cases hb⟩
/-- Families of sets, all apart. -/
structure FamK (w : World) (base n K : Nat) (bss : Nat → List (Nat × Nat)) (vs : Nat → Value) (M : Nat → Nat → Nat → Bool) : Prop where
  r : ∀ f, f < K → Rws w base n (vs f) (bss f) (M f)
  ap : ∀ f g, f < K → g < K → f ≠ g → ∀ b ∈ bss f, ∀ c ∈ bss g, b.2 ≠ c.2
  ap2 : ∀ f g, f < K → g < K → f ≠ g → ∀ k, slBlk (vs f) k → ¬ slBlk (vs g) k
section
variable {w w' : World} {base n K : Nat} {bss : Nat → List (Nat × Nat)} {vs : Nat → Value} {M : Nat → Nat → Nat → Bool}
theorem FamK.ch {F : Nat → Prop} (h : FamK w base n K bss vs M) (c : Ch F w w') (h1 : ∀ f, f < K → ∀ b ∈ bss f, ¬ F b.1 ∧ ¬ F b.2) (h2 : ∀ f, f < K → ∀ k, slBlk (vs f) k → ¬ F k) : FamK w' base n K bss vs M :=
  ⟨fun f hf => (h.r f hf).ch c (h1 f hf) (h2 f hf), h.ap, h.ap2⟩
theorem FamK.ch0 (h : FamK w base n K bss vs M) (c : Ch0 w w') : FamK w' base n K bss vs M := h.ch c (fun _ _ _ _ => ⟨id, id⟩) (fun _ _ _ _ => id)
theorem FamK.keep {ts : List TypeId} {b : Nat} (h : FamK w base n K bss vs M) (c : Ch (Mine ts b w) w w') (hts : 75 ∉ ts ∧ 123 ∉ ts ∧ 97 ∉ ts) : FamK w' base n K bss vs M :=
  ⟨fun f hf => (h.r f hf).keep c hts, h.ap, h.ap2⟩
theorem FamK.store {o : Nat} (h : FamK w base n K bss vs M) (ho : ∃ cs, w.heap[o]? = some (.cells cs 77 (0, 0))) (c : Ch (fun k => k = o) w w') : FamK w' base n K bss vs M :=
  h.ch c (fun f hf b hb => by
    obtain ⟨p, hp⟩ := (h.r f hf).fam.at hb
    exact ⟨ty_ne hp.ty.1 ho (by decide), ty_ne hp.ty.2 ho (by decide)⟩) (fun f hf k hk => ty_ne ((h.r f hf).sl.ty hk) ho (by decide))
theorem FamK.eq {M' : Nat → Nat → Nat → Bool} (h : FamK w base n K bss vs M) (e : ∀ f i j, f < K → i < (bss f).length → M f i j = M' f i j) : FamK w base n K bss vs M' :=
  ⟨fun f hf => ⟨(h.r f hf).fam.eq fun i j hi => e f i j hf hi, (h.r f hf).sl⟩, h.ap, h.ap2⟩
theorem FamK.len (h : FamK w base n K bss vs M) {f : Nat} (hf : f < K) {c : Nat × Nat} (hc : c ∈ bss f) : c.1 < w.heap.size ∧ c.2 < w.heap.size := by
  obtain ⟨p, hp⟩ := (h.r f hf).fam.at hc
  exact hp.lt
theorem FamK.push (h : FamK w base n K bss vs M) {q : Nat} (hq : q < K) {b : Nat × Nat} (hb : Row1 w n b (M q (bss q).length)) (hfr : ∀ f, f < K → ∀ c ∈ bss f, c.2 ≠ b.2) (hlo : base ≤ b.1 ∧ base ≤ b.2) {v' : Value}
    (ho : QRow w' base 75 v' (ptrs (bss q) ++ [.pointer (some ⟨b.1, 0, none⟩)])) (c : Ch (slBlk (vs q)) w w') (hbk : ∀ k, slBlk v' k → slBlk (vs q) k ∨ w.heap.size ≤ k) :
    FamK w' base n K (fun f => if f = q then bss f ++ [b] else bss f) (fun f => if f = q then v' else vs f) M := by
  have hno : ∀ {p : Nat → Bool} {x : Nat × Nat}, Row1 w n x p → ¬ slBlk (vs q) x.1 ∧ ¬ slBlk (vs q) x.2 := fun hp =>
    ⟨fun hk => ty_ne hp.ty.1 ((h.r q hq).sl.ty hk) (by decide) rfl, fun hk => ty_ne hp.ty.2 ((h.r q hq).sl.ty hk) (by decide) rfl⟩
  refine ⟨fun f hf => ?_, fun f g hf hg hne x hx y hy => ?_, fun f g hf hg hne k hx hy => ?_⟩
  · by_cases e : f = q
    · subst e
      simp only [if_pos]
      refine ⟨((h.r f hf).fam.ch c fun x hx => ?_).push (hb.ch c (hno hb).1 (hno hb).2) (hfr f hf) hlo, by rw [show ptrs (bss f ++ [b]) = ptrs (bss f) ++ [.pointer (some ⟨b.1, 0, none⟩)] by simp [ptrs]]; exact ho⟩
      obtain ⟨p, hp⟩ := (h.r f hf).fam.at hx
      exact hno hp
    · simp only [if_neg e]
      refine (h.r f hf).ch c (fun x hx => ?_) fun k hk hk2 => h.ap2 f q hf hq e k hk hk2
      obtain ⟨p, hp⟩ := (h.r f hf).fam.at hx
      exact hno hp
  · (try dsimp only at hx hy)
    by_cases ef : f = q
    · subst ef
      rw [if_pos rfl] at hx
      rw [if_neg (fun e => hne e.symm)] at hy
      rcases List.mem_append.1 hx with hx | hx
      · exact h.ap f g hf hg hne x hx y hy
      · rw [List.mem_singleton.1 hx]; exact (hfr g hg y hy).symm
    · rw [if_neg ef] at hx
      by_cases eg : g = q
      · subst eg
        rw [if_pos rfl] at hy
        rcases List.mem_append.1 hy with hy | hy
        · exact h.ap f g hf hg hne x hx y hy
        · rw [List.mem_singleton.1 hy]; exact hfr f hf x hx
      · rw [if_neg eg] at hy
        exact h.ap f g hf hg hne x hx y hy
  · (try dsimp only at hx hy)
    by_cases ef : f = q
    · subst ef
      rw [if_pos rfl] at hx
      rw [if_neg (fun e => hne e.symm)] at hy
      rcases hbk k hx with h1 | h1
      · exact h.ap2 f g hf hg hne k h1 hy
      · have := ((h.r g hg).sl.lt hy).2; omega
    · rw [if_neg ef] at hx
      by_cases eg : g = q
      · subst eg
        rw [if_pos rfl] at hy
        rcases hbk k hy with h1 | h1
        · exact h.ap2 f g hf hg hne k hx h1
        · have := ((h.r f hf).sl.lt hx).2; omega
      · rw [if_neg eg] at hy
        exact h.ap2 f g hf hg hne k hx hy
/-- One row of one family anew. -/
theorem FamK.row (h : FamK w base n K bss vs M) {q i : Nat} (hq : q < K) (hi : i < (bss q).length) {M' : Nat → Nat → Bool} (hf' : Fam w' base n (bss q) M') (c : Ch (fun k => k = (bss q)[i].2) w w') : FamK w' base n K bss vs (fun f => if f = q then M' else M f) := by
  have hrow := (h.r q hq).fam.row i hi
  refine ⟨fun f hf => ?_, h.ap, h.ap2⟩
  have hsl : ∀ k, slBlk (vs f) k → k ≠ (bss q)[i].2 := fun k hk => ty_ne ((h.r f hf).sl.ty hk) hrow.ty.2 (by decide)
  by_cases e : f = q
  · subst e
    simp only [if_pos]
    exact ⟨hf', (h.r f hf).sl.ch c hsl⟩
  · simp only [if_neg e]
    refine (h.r f hf).ch c (fun x hx => ?_) hsl
    obtain ⟨p, hp⟩ := (h.r f hf).fam.at hx
    exact ⟨ty_ne hp.ty.1 hrow.ty.2 (by decide), h.ap f q hf hq e x hx _ (List.getElem_mem hi)⟩
end


/-- Labels between two nodes, of n of them. -/
structure LbOk (n : Nat) (Lb : Nat → Nat → Nat) : Prop where
  lt : ∀ a b, Lb a b < 16
  diag : ∀ a, Lb a a = 0
  off : ∀ a b, n ≤ a ∨ n ≤ b → Lb a b = 0
abbrev GE := Int × Int × Int
def inE (n : Nat) (e : GE) : Prop := 0 ≤ e.1 ∧ e.1 < n ∧ 0 ≤ e.2.1 ∧ e.2.1 < n
def okE (e : GE) : Prop := 1 ≤ e.2.2 ∧ e.2.2 ≤ 15 ∧ e.1 ≠ e.2.1
instance (n : Nat) (e : GE) : Decidable (inE n e) := by unfold inE; infer_instance
instance (e : GE) : Decidable (okE e) := by unfold okE; infer_instance
def errE (n : Nat) (e : GE) : Int := if inE n e then if okE e then 0 else 1 else 60
def addE (n : Nat) (Lb : Nat → Nat → Nat) (e : GE) : Nat → Nat → Nat := fun x y => if inE n e ∧ okE e ∧ x = e.1.toNat ∧ y = e.2.1.toNat then Lb x y ||| e.2.2.toNat else Lb x y
theorem or_lt16 : ∀ {a b : Nat}, a < 16 → b < 16 → a ||| b < 16 := fun ha hb => Nat.or_lt_two_pow (n := 4) ha hb
theorem LbOk.zero (n : Nat) : LbOk n (fun _ _ => 0) := ⟨fun _ _ => by decide, fun _ => rfl, fun _ _ _ => rfl⟩
theorem LbOk.add {n : Nat} {Lb : Nat → Nat → Nat} (h : LbOk n Lb) (e : GE) : LbOk n (addE n Lb e) := by
  refine ⟨fun a b => ?_, fun a => ?_, fun a b hab => ?_⟩
  · unfold addE
    split
    · rename_i hc
      have := hc.2.1
      unfold okE at this
      exact or_lt16 (h.lt a b) (by omega)
    · exact h.lt a b
  · unfold addE
    rw [if_neg, h.diag]
    rintro ⟨h1, h2, h3, h4⟩
    unfold inE at h1
    unfold okE at h2
    omega
  · unfold addE
    rw [if_neg, h.off a b hab]
    rintro ⟨h1, h2, h3, h4⟩
    unfold inE at h1
    omega
def ofm (o : Int) : Nat := (o % 16).toNat
theorem ofm_lt (o : Int) : ofm o < 16 := by unfold ofm; omega
theorem ofm_in {o : Int} (h0 : 0 ≤ o) (h1 : o ≤ 15) : ofm o = o.toNat := by unfold ofm; rw [Int.emod_eq_of_lt h0 (by omega)]
theorem bit_one (x : Int) : bitop .and .i64 x 1 = x % 2 := by
  show IntKind.i64.wrap (((BitVec.ofInt 64 x &&& BitVec.ofInt 64 1).toNat : Nat) : Int) = _
  have h1 : (BitVec.ofInt 64 x &&& BitVec.ofInt 64 1).toNat = (x % 2).toNat := by
    rw [BitVec.toNat_and, show (BitVec.ofInt 64 1).toNat = 1 by decide, Nat.and_one_is_mod, BitVec.toNat_ofInt]
    omega
  rw [h1, wrap_i64 (by omega) (by omega)]
  omega
theorem shr_bit (o : Int) {k : Nat} (hk : k < 4) : bitop .and .i64 (o.fdiv (2 ^ (min ((k : Int)).toNat (IntKind.bits .i64)))) 1 = if (ofm o).testBit k then 1 else 0 := by
  rw [bit_one, show min ((k : Int)).toNat (IntKind.bits .i64) = k by rw [show IntKind.bits .i64 = 64 from rfl]; omega, Int.fdiv_eq_ediv_of_nonneg _ (by exact Int.le_of_lt (Int.pow_pos (by decide)))]
  unfold ofm Nat.testBit
  rw [Nat.shiftRight_eq_div_pow]
  rcases (show k = 0 ∨ k = 1 ∨ k = 2 ∨ k = 3 by omega) with rfl | rfl | rfl | rfl <;> (simp only [Nat.one_and_eq_mod_two]; (split <;> simp_all <;> omega))
theorem and_ofm {L : Nat} (hL : L < 16) (o : Int) : bitop .and .i64 (L : Int) o = ((L &&& ofm o : Nat) : Int) := by
  show IntKind.i64.wrap (((BitVec.ofInt 64 (L : Int) &&& BitVec.ofInt 64 o).toNat : Nat) : Int) = _
  have h1 : (BitVec.ofInt 64 (L : Int) &&& BitVec.ofInt 64 o).toNat = L &&& ofm o := by
    rw [BitVec.toNat_and, BitVec.toNat_ofInt, BitVec.toNat_ofInt]
    have e1 : ((L : Int) % ((2 ^ 64 : Nat) : Int)).toNat = L := by omega
    rw [e1]
    have h2 : L &&& (o % ((2 ^ 64 : Nat) : Int)).toNat < 16 := Nat.lt_of_le_of_lt Nat.and_le_left hL
    have h3 : (L &&& (o % ((2 ^ 64 : Nat) : Int)).toNat) % 2 ^ 4 = L % 2 ^ 4 &&& (o % ((2 ^ 64 : Nat) : Int)).toNat % 2 ^ 4 := Nat.and_mod_two_pow
    rw [Nat.mod_eq_of_lt (by omega), Nat.mod_eq_of_lt (by omega)] at h3
    rw [h3]
    congr 1
    unfold ofm
    omega
  rw [h1]
  have h4 : L &&& ofm o < 16 := Nat.lt_of_le_of_lt Nat.and_le_left hL
  rw [wrap_i64 (by omega) (by omega)]
theorem or_nat {a b : Nat} (ha : a < 16) (hb : b < 16) : bitop .or .i64 (a : Int) (b : Int) = ((a ||| b : Nat) : Int) := by
  show IntKind.i64.wrap (((BitVec.ofInt 64 (a : Int) ||| BitVec.ofInt 64 (b : Int)).toNat : Nat) : Int) = _
  have h1 : (BitVec.ofInt 64 (a : Int) ||| BitVec.ofInt 64 (b : Int)).toNat = a ||| b := by
    rw [BitVec.toNat_or, BitVec.toNat_ofInt, BitVec.toNat_ofInt]
    congr 1 <;> omega
  have := or_lt16 ha hb
  rw [h1, wrap_i64 (by omega) (by omega)]
theorem shl_pow {k : Nat} (hk : k < 4) : IntKind.i64.wrap (1 * 2 ^ (min ((k : Int)).toNat 64)) = ((2 ^ k : Nat) : Int) := by
  rcases (show k = 0 ∨ k = 1 ∨ k = 2 ∨ k = 3 by omega) with rfl | rfl | rfl | rfl <;> rfl
theorem low_next : ∀ {L : Nat}, L < 16 → ∀ {k : Nat}, k < 4 → (L.testBit k = true → L % 2 ^ k ||| 2 ^ k = L % 2 ^ (k + 1)) ∧ (L.testBit k = false → L % 2 ^ k = L % 2 ^ (k + 1)) := by decide
def outK (k L o : Nat) : Bool := decide ((L &&& o) % 2 ^ k ≠ 0)
theorem outK_zero (L o : Nat) : outK 0 L o = false := by simp [outK, Nat.mod_one]
theorem outK_next : ∀ {L : Nat}, L < 16 → ∀ {o : Nat}, o < 16 → ∀ {k : Nat}, k < 4 → outK (k + 1) L o = (outK k L o || (o.testBit k && L.testBit k)) := by decide
theorem outK_all : ∀ {L : Nat}, L < 16 → ∀ {o : Nat}, o < 16 → outK 4 L o = decide (L &&& o ≠ 0) := by decide
def bitM (Lb : Nat → Nat → Nat) (f a b : Nat) : Bool := (Lb a b).testBit f
def midL (Lb : Nat → Nat → Nat) (o fr to k f a b : Nat) : Bool := (Lb a b).testBit f || (decide (f < k) && o.testBit f && decide (a = fr) && decide (b = to))
def lbv (Lb : Nat → Nat → Nat) (a b : Int) : Nat := if 0 ≤ a ∧ 0 ≤ b then Lb a.toNat b.toNat else 0

theorem or_row1 {w : World} {n : Nat} {c b : Nat × Nat} {p q : Nat → Bool} (h : Row1 w n c p) (k : Row1 w n b q) (hne : c.2 ≠ b.2) : Sg.Ret Tryd.prog 61 #[.pointer (some ⟨c.1, 0, none⟩), .pointer (some ⟨b.1, 0, none⟩)] w fun v w' =>
    (∃ z, v = .tuple #[.bool z, .int .i64 0]) ∧ Row1 w' n c (fun j => p j || q j) ∧ Ch (fun k => k = c.2) w w' := by
  have hty := k.ne h
  obtain ⟨ws, hs, hm⟩ := h
  obtain ⟨vs, hv, hm2⟩ := k
  refine Ret.mono (or_any _ _ n ws _ _ vs w hs hv hty (.inl hne)) fun v w' hh => ?_
  obtain ⟨ws', e1, e2, e3, e4⟩ := hh
  exact ⟨⟨_, e1⟩, ⟨ws', e2, fun j => by rw [e3, hm, hm2]⟩, e4⟩
/-- A graph of the program with n nodes. -/
structure IsG (w : World) (base g n : Nat) (Lb : Nat → Nat → Nat) : Prop where
  ex : ∃ bss vs, FamK w base n 4 bss vs (bitM Lb) ∧ (∀ f, f < 4 → (bss f).length = n) ∧ w.heap[g]? = some (.cells #[.int .i64 (n : Int), vs 0, vs 1, vs 2, vs 3, .bool true] 77 (0, 0))
  lo : base ≤ g
  le : n ≤ 300
  ok : LbOk n Lb
theorem IsG.ch0 {w w' : World} {base g n : Nat} {Lb : Nat → Nat → Nat} (h : IsG w base g n Lb) (c : Ch0 w w') : IsG w' base g n Lb := by
  obtain ⟨bss, vs, h1, h2, h3⟩ := h.ex
  exact ⟨⟨bss, vs, h1.ch0 c, h2, c.at0 h3⟩, h.lo, h.le, h.ok⟩
theorem IsG.keep {ts : List TypeId} {b : Nat} {w w' : World} {base g n : Nat} {Lb : Nat → Nat → Nat} (h : IsG w base g n Lb) (c : Ch (Mine ts b w) w w') (hts : 77 ∉ ts ∧ 75 ∉ ts ∧ 123 ∉ ts ∧ 97 ∉ ts) : IsG w' base g n Lb := by
  obtain ⟨bss, vs, h1, h2, h3⟩ := h.ex
  exact ⟨⟨bss, vs, h1.keep c hts.2, h2, c.at h3 (mine_not ⟨_, h3⟩ hts.1)⟩, h.lo, h.le, h.ok⟩
theorem vs_at {n : Int} {vs : Nat → Value} {k : Nat} (hk : k < 4) : (#[.int .i64 n, vs 0, vs 1, vs 2, vs 3, .bool true] : Array Value)[k + 1]? = some (vs k) := by
  rcases (show k = 0 ∨ k = 1 ∨ k = 2 ∨ k = 3 by omega) with rfl | rfl | rfl | rfl <;> rfl
theorem inB_mine {w : World} {base n : Nat} {bs : List (Nat × Nat)} {M : Nat → Nat → Bool} (f : Fam w base n bs M) {i : Nat} (hi : i < bs.length) : Mine [97] base w (bs[i].2) := by
  obtain ⟨cs, h⟩ := f.ty ⟨_, List.getElem_mem hi, rfl⟩
  exact ⟨(f.lt ⟨_, List.getElem_mem hi, rfl⟩).1, cs, 97, by simp, h⟩
end Go.Proofs.YtnfkblboimkcjaaDoor
end

section
set_option linter.unusedVariables false
set_option linter.unusedSimpArgs false
set_option maxRecDepth 100000
namespace Go.Proofs.YtnfkblboimkcjaaDoor
open Go Go.RowKit Sg

theorem lbv_lt {n : Nat} {Lb : Nat → Nat → Nat} (h : LbOk n Lb) (a b : Int) : lbv Lb a b < 16 := by
  unfold lbv; split
  · exact h.lt _ _
  · decide
theorem lbv_off {n : Nat} {Lb : Nat → Nat → Nat} (h : LbOk n Lb) {a b : Int} (ha : ¬ (0 ≤ a ∧ a < (n : Int))) : lbv Lb a b = 0 := by
  unfold lbv; split
  · exact h.off _ _ (.inl (by omega))
  · rfl
theorem lbv_bit {Lb : Nat → Nat → Nat} {a b : Int} (ha : 0 ≤ a) (k : Nat) : (decide (0 ≤ b) && bitM Lb k a.toNat b.toNat) = (lbv Lb a b).testBit k := by
  unfold lbv bitM
  by_cases hb : 0 ≤ b
  · rw [if_pos ⟨ha, hb⟩, decide_eq_true hb, Bool.true_and]
  · rw [if_neg (fun e => hb e.2), decide_eq_false hb]; simp
theorem ghas_ok (base g n : Nat) (Lb : Nat → Nat → Nat) (w : World) (h : IsG w base g n Lb) (i : Int) :
  Sg.Ret Tryd.prog 40 #[.pointer (some ⟨g, 0, none⟩), .int .i64 i] w fun v w' => v = .bool (decide (0 ≤ i ∧ i < (n : Int))) ∧ w = w' := by
 obtain ⟨bss, vs, hfk, hbl, hd⟩ := h.ex
 have hle := h.le
 have hok := h.ok
 refine enter1 (n := 15) (l := [.pointer (some ⟨g, 0, none⟩), .int .i64 i]) Tryd.func40 rfl rfl rfl rfl ?_
 refine W.g2 0 1 (v1 := .pointer (some ⟨g, 0, none⟩)) (v2 := .int .i64 i) rfl rfl ?_; intro σ s0 s1
 refine W.seq ?_
 refine W.region ?_
 refine WL.x (X.asg lc) rfl ?_
 refine WL.e2 Nx.thn 0 1 (lt rfl (s0)) (lt rfl (s1)) ?_
 intro σ1 s0 s1
 refine W.seq ?_
 refine W.region ?_
 refine WL.x (X.mv (s1)) rfl ?_
 refine WL.x (X.geq (lh) lc) rfl ?_
 refine WL.x (X.mv (lh)) rfl ?_
 refine WL.splitp (lh) (fun h0 => ?_) (fun h0 => ?_)
 ·
  refine WL.yes rfl rfl (lh) (decide_eq_true h0) ?_
  refine WL.x (X.mv (jt2 rfl (lt rfl (s1)))) rfl ?_
  refine WL.yes rfl rfl (lt rfl (lh)) (decide_eq_true h0) ?_
  refine WL.x (X.mv (jt4 rfl (s0))) rfl ?_
  refine WL.yes rfl rfl (jt2 rfl (lh)) (decide_eq_true h0) ?_
  refine WL.x (X.nilck (lh)) rfl ?_
  refine WL.yes rfl rfl (jt2 rfl (lt rfl (lh))) (decide_eq_true h0) ?_
  refine WL.x (X.fieldAddr fd77_0 (lh)) rfl ?_
  refine WL.yes rfl rfl (jt4 rfl (lh)) (decide_eq_true h0) ?_
  refine WL.x (X.load pl3 (lh) (by assumption) (by rfl)) rfl ?_
  refine WL.yes rfl rfl (jt4 rfl (lt rfl (lh))) (decide_eq_true h0) ?_
  refine WL.x (X.lss (jt4 rfl (lh)) (lh)) rfl ?_
  refine WL.x (X.pickT (jt4 rfl (jt2 rfl (lh))) (decide_eq_true h0) (lh)) rfl ?_
  refine WL.x (X.asg (lh)) rfl ?_
  refine WL.e1 Nx.thn 4 (lh) ?_
  intro σ2 s4
  refine W.ret1 Nx.f1 s4 ?_
  exact ⟨congrArg Value.bool (decide_eq_decide.2 ⟨fun e => ⟨h0, e⟩, fun e => e.2⟩), rfl⟩
 ·
  refine WL.no rfl rfl (lh) (decide_eq_false h0) rfl ?_
  refine WL.no rfl rfl (lt rfl (lh)) (decide_eq_false h0) rfl ?_
  refine WL.no rfl rfl (jt2 rfl (lh)) (decide_eq_false h0) rfl ?_
  refine WL.no rfl rfl (jt2 rfl (lt rfl (lh))) (decide_eq_false h0) rfl ?_
  refine WL.no rfl rfl (jt4 rfl (lh)) (decide_eq_false h0) rfl ?_
  refine WL.no rfl rfl (jt4 rfl (lt rfl (lh))) (decide_eq_false h0) rfl ?_
  refine WL.x (X.pickF (jt4 rfl (jt2 rfl (lh))) (decide_eq_false h0) lc) rfl ?_
  refine WL.x (X.asg (lh)) rfl ?_
  refine WL.e1 Nx.thn 4 (lh) ?_
  intro σ3 s4
  refine W.ret1 Nx.f1 s4 ?_
  exact ⟨congrArg Value.bool (decide_eq_false (fun e => h0 e.1)).symm, rfl⟩
theorem gnodes_ok (base g n : Nat) (Lb : Nat → Nat → Nat) (w : World) (h : IsG w base g n Lb)  :
  Sg.Ret Tryd.prog 42 #[.pointer (some ⟨g, 0, none⟩)] w fun v w' => v = .int .i64 (n : Int) ∧ w = w' := by
 obtain ⟨bss, vs, hfk, hbl, hd⟩ := h.ex
 have hle := h.le
 have hok := h.ok
 refine enter1 (n := 9) (l := [.pointer (some ⟨g, 0, none⟩)]) Tryd.func42 rfl rfl rfl rfl ?_
 refine W.g1 0 (v1 := .pointer (some ⟨g, 0, none⟩)) rfl ?_; intro σ s0
 refine W.seq ?_
 refine W.region ?_
 refine WL.x (X.asg lc) rfl ?_
 refine WL.e1 Nx.thn 0 (lt rfl (s0)) ?_
 intro σ1 s0
 refine W.seq ?_
 refine W.seq ?_
 refine W.region ?_
 refine WL.x (X.mv (s0)) rfl ?_
 refine WL.x (X.eqlN Tryd.underlying47 (lh) lc) rfl ?_
 refine WL.e2 Nx.thn 0 4 (jt2 rfl (s0)) (lh) ?_
 intro σ2 s0 s4
 refine W.cndBF s4 (rfl) ?_
 refine W.skip Nx.thn ?_
 refine W.seq ?_
 refine W.region ?_
 refine WL.x (X.mv (s0)) rfl ?_
 refine WL.x (X.nilck (lh)) rfl ?_
 refine WL.x (X.fieldAddr fd77_0 (lh)) rfl ?_
 refine WL.x (X.load pl3 (lh) (by assumption) (by rfl)) rfl ?_
 refine WL.x (X.asg (lh)) rfl ?_
 refine WL.e1 Nx.thn 2 (lh) ?_
 intro σ3 s2
 refine W.ret1 Nx.f1 s2 ?_
 exact ⟨rfl, rfl⟩
theorem gmade_ok (base g n : Nat) (Lb : Nat → Nat → Nat) (w : World) (h : IsG w base g n Lb)  :
  Sg.Ret Tryd.prog 39 #[.pointer (some ⟨g, 0, none⟩)] w fun v w' => v = .bool true ∧ w = w' := by
 obtain ⟨bss, vs, hfk, hbl, hd⟩ := h.ex
 have hle := h.le
 have hok := h.ok
 refine enter1 (n := 11) (l := [.pointer (some ⟨g, 0, none⟩)]) Tryd.func39 rfl rfl rfl rfl ?_
 refine W.g1 0 (v1 := .pointer (some ⟨g, 0, none⟩)) rfl ?_; intro σ s0
 refine W.seq ?_
 refine W.region ?_
 refine WL.x (X.asg lc) rfl ?_
 refine WL.e1 Nx.thn 0 (lt rfl (s0)) ?_
 intro σ1 s0
 refine W.seq ?_
 refine W.region ?_
 refine WL.x (X.mv (s0)) rfl ?_
 refine WL.x (X.neqN Tryd.underlying47 (lh) lc) rfl ?_
 refine WL.x (X.mv (lh)) rfl ?_
 refine WL.yes rfl rfl (lh) (rfl) ?_
 refine WL.x (X.mv (jt2 rfl (lt rfl (s0)))) rfl ?_
 refine WL.yes rfl rfl (lt rfl (lh)) (rfl) ?_
 refine WL.x (X.nilck (lh)) rfl ?_
 refine WL.yes rfl rfl (jt2 rfl (lh)) (rfl) ?_
 refine WL.x (X.fieldAddr fd77_2 (lh)) rfl ?_
 refine WL.yes rfl rfl (jt2 rfl (lt rfl (lh))) (rfl) ?_
 refine WL.x (X.load pl4 (lh) (by assumption) (by rfl)) rfl ?_
 refine WL.x (X.pickT (jt4 rfl (lh)) (rfl) (lh)) rfl ?_
 refine WL.x (X.asg (lh)) rfl ?_
 refine WL.e1 Nx.thn 2 (lh) ?_
 intro σ2 s2
 refine W.ret1 Nx.f1 s2 ?_
 exact ⟨rfl, rfl⟩
theorem glab_ok (base g n : Nat) (Lb : Nat → Nat → Nat) (w : World) (h : IsG w base g n Lb) (a b : Int) :
  Sg.Ret Tryd.prog 20 #[.pointer (some ⟨g, 0, none⟩), .int .i64 a, .int .i64 b] w fun v w' => v = .int .i64 (lbv Lb a b : Int) ∧ Dr w w' := by
 obtain ⟨bss, vs, hfk, hbl, hd⟩ := h.ex
 have hle := h.le
 have hok := h.ok
 refine enter1 (n := 37) (l := [.pointer (some ⟨g, 0, none⟩), .int .i64 a, .int .i64 b]) Tryd.func20 rfl rfl rfl rfl ?_
 refine W.g3 0 1 2 (v1 := .pointer (some ⟨g, 0, none⟩)) (v2 := .int .i64 a) (v3 := .int .i64 b) rfl rfl rfl ?_; intro σ s0 s1 s2
 refine W.seq ?_
 refine W.region ?_
 refine WL.x (X.asg lc) rfl ?_
 refine WL.e3 Nx.thn 0 1 2 (lt rfl (s0)) (lt rfl (s1)) (lt rfl (s2)) ?_
 intro σ1 s0 s1 s2
 refine W.seq ?_
 refine W.region ?_
 refine WL.x (X.asg lc) rfl ?_
 refine WL.e4 Nx.thn 0 1 2 7 (lt rfl (s0)) (lt rfl (s1)) (lt rfl (s2)) (lh) ?_
 intro σ2 s0 s1 s2 s7
 refine W.seq ?_
 refine W.seq ?_
 refine W.region ?_
 refine WL.x (X.mv (s0)) rfl ?_
 refine WL.x (X.eqlN Tryd.underlying47 (lh) lc) rfl ?_
 refine WL.x (X.mv (lh)) rfl ?_
 refine WL.yes rfl rfl (lh) (rfl) ?_
 refine WL.x (X.mv (jt2 rfl (lt rfl (s0)))) rfl ?_
 refine WL.yes rfl rfl (lt rfl (lh)) (rfl) ?_
 refine WL.x (X.mv (jt4 rfl (s1))) rfl ?_
 refine WL.yes rfl rfl (jt2 rfl (lh)) (rfl) ?_
 refine WL.call2 ce40 (lt rfl (lh)) (lh) (ghas_ok base g n Lb w h a) rfl ?_
 rintro _ _ ⟨rfl, rfl⟩
 refine WL.yes rfl rfl (jt2 rfl (lt rfl (lh))) (rfl) ?_
 refine WL.x (X.notp (lh)) rfl ?_
 refine WL.x (X.pickF (jt4 rfl (lh)) (rfl) (lh)) rfl ?_
 refine WL.e5 Nx.thn 0 1 2 7 16 (jt8 rfl (s0)) (jt8 rfl (s1)) (jt8 rfl (s2)) (jt8 rfl (s7)) (lh) ?_
 intro σ3 s0 s1 s2 s7 s16
 refine W.cndp s16 (fun hin => ?_) (fun hin => ?_)
 ·
  refine W.seq ?_
  refine W.region ?_
  refine WL.x (X.asg lc) rfl ?_
  refine WL.e1 Nx.thn 6 (lh) ?_
  intro σ4 s6
  refine W.ret1 (Nx.rthn Nx.f1) s6 ?_
  exact ⟨by rw [lbv_off hok hin]; rfl, Dr.refl _⟩
 ·
  have hin : 0 ≤ a ∧ a < (n : Int) := Classical.not_not.1 hin
  refine W.skip Nx.thn ?_
  refine W.seq ?_
  refine W.seq ?_
  refine W.region ?_
  refine WL.x (X.mv lc) rfl ?_
  refine WL.e5 Nx.thn 0 1 2 7 17 (lt rfl (s0)) (lt rfl (s1)) (lt rfl (s2)) (lt rfl (s7)) (lh) ?_
  intro σ5 s0 s1 s2 s7 s17
  refine W.block ?_
  have qo2 := s0
  have qo3 := s1
  have qo4 := s2
  -- loop 0: kept [0, 1, 2], varied [7, 17]
  refine W.loop (G := Nat) (fun k σ' w' => (σ' 0 = σ5 0 ∧ σ' 1 = σ5 1 ∧ σ' 2 = σ5 2 ∧ True) ∧ (σ' 17 = .int .i64 (k : Int) ∧ k ≤ 4 ∧ σ' 7 = .int .i64 ((lbv Lb a b % 2 ^ k : Nat) : Int) ∧ Dr w w')) (fun k => 4 - k) (0) ⟨⟨rfl, rfl, rfl, trivial⟩, s17, by omega, s7.trans (by simp [Nat.mod_one]), Dr.refl _⟩ ?_
  rintro k σ6 w1 ⟨⟨f0, f1, f2, _⟩, s17, hk, s7, hdr⟩
  have s0 := f0.trans qo2
  have s1 := f1.trans qo3
  have s2 := f2.trans qo4
  have hlv := lbv_lt hok a b
  refine W.seq ?_
  refine W.region ?_
  refine WL.x (X.lss (s17) lc) rfl ?_
  refine WL.e6 Nx.thn 0 1 2 7 17 18 (lt rfl (s0)) (lt rfl (s1)) (lt rfl (s2)) (lt rfl (s7)) (lt rfl (s17)) (lh) ?_
  intro σ7 s0 s1 s2 s7 s17 s18
  refine W.seq ?_
  refine W.cndp s18 (fun hlt => ?_) (fun hlt => ?_)
  ·
   have hbk := hbl k (by omega)
   obtain ⟨va, vc, hvk⟩ := q_len (hfk.r k (by omega)).sl
   have hslk := (hfk.r k (by omega)).sl.sl
   rw [hvk] at hslk
   obtain ⟨gb, og, csg, Tg, frg, rfl, hg1, hg2⟩ := slot_of hslk (k := a) (by omega) (by rw [hbl k (by omega)]; omega)
   refine W.skip Nx.thn ?_
   refine W.seq ?_
   refine W.block ?_
   refine W.seq ?_
   refine W.region ?_
   refine WL.x (X.mv (s17)) rfl ?_
   refine WL.x (X.asg (lh)) rfl ?_
   refine WL.e6 Nx.thn 0 1 2 7 8 17 (jt2 rfl (s0)) (jt2 rfl (s1)) (jt2 rfl (s2)) (jt2 rfl (s7)) (lh) (jt2 rfl (s17)) ?_
   intro σ8 s0 s1 s2 s7 s8 s17
   refine W.seq ?_
   refine W.region ?_
   refine WL.x (X.mv (s0)) rfl ?_
   refine WL.x (X.mv (lt rfl (s8))) rfl ?_
   refine WL.x (X.nilck (lt rfl (lh))) rfl ?_
   refine WL.x (X.fieldAddr fd77_1 (lh)) rfl ?_
   refine WL.x (X.indexAddrA Tryd.underlying74 el73 (lh) (jt2 rfl (lh)) (by omega) (by omega)) rfl ?_
   refine WL.x (X.load pl73 (lh) (hdr.ch0.at0 hd) (v := .slice (some ⟨gb, og, none⟩) (bss k).length vc) (by rw [show 0 + 1 + (k : Int).toNat * 1 = k + 1 by omega, vs_at (by omega), hvk])) rfl ?_
   refine WL.x (X.mv (jt4 rfl (jt2 rfl (s1)))) rfl ?_
   refine WL.x (X.indexAddr Tryd.underlying73 el75 (lt rfl (lh)) (lh) (by omega) (by omega)) rfl ?_
   refine WL.x (X.load pl75 (lh) (hdr.ch0.at0 hg1) hg2) rfl ?_
   refine WL.x (X.mv (jt8 rfl (lt rfl (s2)))) rfl ?_
   refine WL.call2 ce41 (lt rfl (lh)) (lh) (has_row base n (bss k) _ w1 ((hfk.r k (by omega)).fam.ch0 hdr.ch0) a.toNat (by rw [hbl k (by omega)]; omega) b) rfl ?_
   rintro _ w2 ⟨rfl, hdq⟩
   have chdq := hdq.ch0
   refine WL.e7 Nx.thn 0 1 2 7 8 17 30 (jt8 rfl (jt2 rfl (lt rfl (s0)))) (jt8 rfl (jt2 rfl (lt rfl (s1)))) (jt8 rfl (jt2 rfl (lt rfl (s2)))) (jt8 rfl (jt2 rfl (lt rfl (s7)))) (jt8 rfl (jt2 rfl (lt rfl (s8)))) (jt8 rfl (jt2 rfl (lt rfl (s17)))) (lh) ?_
   intro σ9 s0 s1 s2 s7 s8 s17 s30
   refine W.cnd s30 (fun hb => ?_) (fun hb => ?_)
   ·
    have hnx := low_next (lbv_lt hok a b) (k := k) (by omega)
    have hbt : (lbv Lb a b).testBit k = true := by rw [← lbv_bit hin.1]; exact hb
    refine W.region ?_
    refine WL.x (X.mv (s7)) rfl ?_
    refine WL.x (X.mv (lt rfl (s8))) rfl ?_
    refine WL.x (v := .int .i64 ((2 ^ k : Nat) : Int)) (shl_pow (show k < 4 by omega) ▸ X.shl lc (lh) (by omega)) rfl ?_
    refine WL.x (v := .int .i64 ((lbv Lb a b % 2 ^ (k + 1) : Nat) : Int)) (by have h1 := hnx.1 hbt; have h2 := or_nat (show lbv Lb a b % 2 ^ k < 16 from Nat.lt_of_le_of_lt (Nat.mod_le _ _) hlv) (show 2 ^ k < 16 from Nat.pow_lt_pow_right (by decide) (show k < 4 by omega)); rw [← h1, ← h2]; exact X.or (jt2 rfl (lh)) (lh)) rfl ?_
    refine WL.x (X.asg (lh)) rfl ?_
    refine WL.e5 (Nx.blk Nx.thn) 0 1 2 7 17 (jt4 rfl (lt rfl (s0))) (jt4 rfl (lt rfl (s1))) (jt4 rfl (lt rfl (s2))) (lh) (jt4 rfl (lt rfl (s17))) ?_
    intro σ10 s0 s1 s2 s7 s17
    refine W.region ?_
    refine WL.x (X.add (s17) lc (by omega) (by omega)) rfl ?_
    refine WL.x (X.mv (lh)) rfl ?_
    refine WL.e5 Nx.thn 0 1 2 7 17 (jt2 rfl (s0)) (jt2 rfl (s1)) (jt2 rfl (s2)) (jt2 rfl (s7)) (lh) ?_
    intro σ11 s0 s1 s2 s7 s17
    refine ⟨k + 1, by omega, ⟨s0.trans qo2.symm, s1.trans qo3.symm, s2.trans qo4.symm, trivial⟩, s17, by omega, s7, hdr.trans hdq⟩
   ·
    have hnx := low_next (lbv_lt hok a b) (k := k) (by omega)
    have hbt : (lbv Lb a b).testBit k = false := by rw [← lbv_bit hin.1]; exact hb
    refine W.skip (Nx.blk Nx.thn) ?_
    refine W.region ?_
    refine WL.x (X.add (s17) lc (by omega) (by omega)) rfl ?_
    refine WL.x (X.mv (lh)) rfl ?_
    refine WL.e5 Nx.thn 0 1 2 7 17 (jt2 rfl (s0)) (jt2 rfl (s1)) (jt2 rfl (s2)) (jt2 rfl (s7)) (lh) ?_
    intro σ12 s0 s1 s2 s7 s17
    refine ⟨k + 1, by omega, ⟨s0.trans qo2.symm, s1.trans qo3.symm, s2.trans qo4.symm, trivial⟩, s17, by omega, s7.trans (by rw [hnx.2 hbt]), hdr.trans hdq⟩
  ·
   refine W.exit (Nx.xthn (Nx.xthn (Nx.xblk Nx.thn))) ?_
   refine W.seq ?_
   refine W.region ?_
   refine WL.x (X.mv (s7)) rfl ?_
   refine WL.x (X.asg (lh)) rfl ?_
   refine WL.e1 Nx.thn 6 (lh) ?_
   intro σ13 s6
   refine W.ret1 Nx.f1 s6 ?_
   have hke : k = 4 := by omega
   subst hke
   exact ⟨by rw [Nat.mod_eq_of_lt (show lbv Lb a b < 2 ^ 4 from lbv_lt hok a b)], hdr⟩
end Go.Proofs.YtnfkblboimkcjaaDoor
end
