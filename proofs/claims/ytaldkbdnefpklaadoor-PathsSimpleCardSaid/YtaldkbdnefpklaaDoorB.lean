/-
  A part of the walk of the program.
-/
import Derived.Test.YtaldkbdnefpklaaDoorA
set_option linter.unusedVariables false
set_option linter.unusedSimpArgs false
set_option maxRecDepth 100000
namespace Go.Proofs.YtaldkbdnefpklaaDoor
open Go Go.RowKit Sg

theorem words_sl {w : World} {b wb n : Nat} {ws : List BV} (h : IsSet w b wb n ws) : Sl w (.slice (some ⟨wb, 0, none⟩) ws.length ws.length) (ws.map bcell) := by
  refine .inr ⟨wb, 0, ws.length, wcells ws, _, _, by simp, by simp, h.wd, fun j hj => ?_⟩
  simp [wcells]
theorem words_sl' {w : World} {b wb n : Nat} {ws : List BV} (h : IsSet w b wb n ws) : Sl w (.slice (some ⟨wb, 0, none⟩) ws.length ws.length) ((ws.map fun x => (x.toNat : Int)).map (Value.int .u64)) := by
  rw [List.map_map]
  exact words_sl h
theorem words_inj {ws vs : List BV} : (ws.map fun x => (x.toNat : Int)) = (vs.map fun x => (x.toNat : Int)) ↔ ws = vs := by
  constructor
  · intro h
    exact (List.map_inj_right (fun x y hxy => BitVec.eq_of_toNat_eq (by omega))).1 h
  · intro h; rw [h]
theorem same_iff {n m : Nat} {ws vs : List BV} (hw : ws.length = (n + 63) / 64) (hv : vs.length = (m + 63) / 64) : True := trivial

theorem tz_ok (x : BV) (w : World) (hx : x ≠ 0) (htab : Tab w) :
    Sg.Ret Tryd.prog 51 #[bcell x] w fun v w' => ∃ k : Nat, v = .int .i64 (k : Int) ∧ k < 64 ∧ x.getLsbD k = true ∧ (∀ i, i < k → x.getLsbD i = false) ∧ w = w' := by
  have hb : bcell x = .int .u64 (x.toNat : Int) := rfl
  rw [hb]
  have hx0 : ¬ (x.toNat : Int) = 0 := fun e => hx (BitVec.eq_of_toNat_eq (by simpa using e))
  obtain ⟨TT, fr, htb⟩ := htab
  obtain ⟨k, hk, hk1, hk2, hk3⟩ := lowest x hx
  have hlt := x.isLt
  have htz := tz_pure x.toNat k (by omega) hlt hk3
  obtain ⟨htl, htv⟩ := tz_tab k hk
  refine enter1 (n := 14) (l := [bcell x]) Tryd.func51 rfl rfl rfl rfl ?_
  refine W.g1 0 (v1 := bcell x) rfl ?_; intro σ s0
  refine W.seq ?_
  refine W.region ?_
  refine WL.x (X.asg lc) rfl ?_
  refine WL.e1 Nx.thn 0 (lt rfl (s0)) ?_
  intro σ1 s0
  refine W.seq ?_
  refine W.seq ?_
  refine W.region ?_
  refine WL.x (X.mv (s0)) rfl ?_
  refine WL.x (X.eql (lh) lc) rfl ?_
  refine WL.e2 Nx.thn 0 4 (lt rfl (lt rfl (s0))) (lh) ?_
  intro σ2 s0 s4
  refine W.cndN s4 (hx0) ?_
  refine W.skip Nx.thn ?_
  refine W.seq ?_
  refine W.region ?_
  refine WL.x (X.mv (s0)) rfl ?_
  refine WL.x (X.mv (lt rfl (s0))) rfl ?_
  first | refine WL.x (X.neg (lh) (by omega) (by omega)) rfl ?_ | refine WL.x (X.negw (lh)) rfl ?_
  refine WL.x (X.and (lt rfl (lt rfl (lh))) (lh)) rfl ?_
  refine WL.x (X.mulw (lh) lc) rfl ?_
  refine WL.x (v := .int .u64 (tzAt k : Int)) (htz ▸ X.shr (lh) lc (by omega)) rfl ?_
  refine WL.x (X.indexAddrA Tryd.underlying92 el5 lg (lh) (by omega) (by omega)) rfl ?_
  refine WL.x (X.load pl5 (lh) htb (v := .int .u8 (k : Int)) (by rw [show 0 + (tzAt k : Int).toNat * 1 = tzAt k by omega]; exact htv)) rfl ?_
  first | refine WL.x (X.convi Tryd.underlying5 Tryd.underlying3 (lh) (wrap_i64 (by omega) (by omega))) rfl ?_ | refine WL.x (X.conv Tryd.underlying5 Tryd.underlying3 (lh)) rfl ?_
  refine WL.x (X.asg (lh)) rfl ?_
  refine WL.e1 Nx.thn 2 (lh) ?_
  intro σ3 s2
  refine W.ret1 Nx.f1 s2 ?_
  exact ⟨k, rfl, hk, hk1, hk2, rfl⟩

/-- What Next tells of a set, from i on. -/
def IsNext (p : Nat → Bool) (i : Int) (v : Value) : Prop :=
  (∃ j : Nat, v = .tuple #[.int .i64 (j : Int), .bool true] ∧ p j = true ∧ i ≤ j ∧ ∀ m : Nat, m < j → i ≤ m → p m = false) ∨ (v = .tuple #[.int .i64 0, .bool false] ∧ ∀ m : Nat, i ≤ m → p m = false)
theorem IsNext.same {p : Nat → Bool} {i : Int} {v v' : Value} (h : IsNext p i v) (h' : IsNext p i v') : v = v' := by
  rcases h with ⟨j, rfl, h1, h2, h3⟩ | ⟨rfl, h1⟩ <;> rcases h' with ⟨j', rfl, h1', h2', h3'⟩ | ⟨rfl, h1'⟩
  · rcases Nat.lt_trichotomy j j' with h | h | h
    · rw [h3' j h h2] at h1; cases h1
    · rw [h]
    · rw [h3 j' h h2'] at h1'; cases h1'
  · rw [h1' j h2] at h1; cases h1
  · rw [h1 j' h2'] at h1'; cases h1'
  · rfl
def NextIs (p : Nat → Bool) (i : Int) (x : Int) (c : Bool) : Prop :=
  (∃ j : Nat, x = j ∧ c = true ∧ p j = true ∧ i ≤ j ∧ ∀ m : Nat, m < j → i ≤ m → p m = false) ∨ (x = 0 ∧ c = false ∧ ∀ m : Nat, i ≤ m → p m = false)
theorem IsNext.pair {p : Nat → Bool} {i : Int} {v : Value} (h : IsNext p i v) : ∃ x c, v = .tuple #[.int .i64 x, .bool c] ∧ NextIs p i x c := by
  rcases h with ⟨j, rfl, h1, h2, h3⟩ | ⟨rfl, h1⟩
  · exact ⟨_, _, rfl, .inl ⟨j, rfl, rfl, h1, h2, h3⟩⟩
  · exact ⟨_, _, rfl, .inr ⟨rfl, rfl, h1⟩⟩
theorem mask_bits (x : BV) (m : Nat) (h : m < 64) : bitop .and .u64 (x.toNat : Int) (IntKind.u64.wrap (18446744073709551615 * 2 ^ (min m IntKind.u64.bits))) = ((x &&& (BitVec.allOnes 64 <<< m)).toNat : Int) := by
  rw [show IntKind.u64.bits = 64 by rfl, shl_ones m h, bitop_and]

theorem next_ok (b wb n : Nat) (ws : List BV) (i : Int) (w : World) (h : IsSet w b wb n ws) (htab : Tab w) (hi : i ≤ 9223372036854775807) :
    Sg.Ret Tryd.prog 50 #[.pointer (some ⟨b, 0, none⟩), .int .i64 i] w fun v w' => IsNext (mem ws) i v ∧ w = w' := by
  have hd := h.hd; have hlen := h.len; have hle := h.le; have hwd := h.wd
  have hmx : (if i < 0 then 0 else i) = (i.toNat : Int) := by split <;> omega
  generalize hi2 : i.toNat = i2 at *
  refine enter2 (n := 46) (l := [.pointer (some ⟨b, 0, none⟩), .int .i64 i]) Tryd.func50 rfl rfl rfl rfl ?_
  refine W.g2 0 1 (v1 := .pointer (some ⟨b, 0, none⟩)) (v2 := .int .i64 i) rfl rfl ?_; intro σ s0 s1
  refine W.seq ?_
  refine W.region ?_
  refine WL.x (X.asg lc) rfl ?_
  refine WL.x (X.asg lc) rfl ?_
  refine WL.e2 Nx.thn 0 1 (lt rfl (lt rfl (s0))) (lt rfl (lt rfl (s1))) ?_
  intro σ1 s0 s1
  refine W.seq ?_
  refine W.seq ?_
  refine W.region ?_
  refine WL.x (X.mv (s0)) rfl ?_
  refine WL.call1 ce33 (lh) (none_made b wb n ws w h) rfl ?_
  rintro _ _ ⟨rfl, rfl⟩
  refine WL.e3 Nx.thn 0 1 9 (lt rfl (lt rfl (s0))) (lt rfl (lt rfl (s1))) (lh) ?_
  intro σ2 s0 s1 s9
  refine W.cndBF s9 (rfl) ?_
  refine W.skip Nx.thn ?_
  refine W.seq ?_
  refine W.region ?_
  refine WL.x (X.mv (s1)) rfl ?_
  refine WL.x (v := .int .i64 (i2 : Int)) (hmx ▸ X.max (lh) lc) rfl ?_
  refine WL.x (X.asg (lh)) rfl ?_
  refine WL.e2 Nx.thn 0 1 (lt rfl (lt rfl (lt rfl (s0)))) (lh) ?_
  intro σ3 s0 s1
  refine W.seq ?_
  refine W.seq ?_
  refine W.region ?_
  refine WL.x (X.mv (s1)) rfl ?_
  first | refine WL.x (X.quo (lh) lc (by omega) (by omega) (wrap_i64 (by omega) (by omega))) rfl ?_ | refine WL.x (X.quow (lh) lc (by omega)) rfl ?_
  refine WL.x (X.asg (lh)) rfl ?_
  refine WL.e3 Nx.thn 0 1 6 (lt rfl (lt rfl (lt rfl (s0)))) (lt rfl (lt rfl (lt rfl (s1)))) (lh) ?_
  intro σ4 s0 s1 s6
  refine W.block ?_
  have qo1 := s0
  have qo2 := s1
  -- loop 0: kept [0, 1], varied [6]
  refine W.loop (G := Nat) (fun k σ' w' => (σ' 0 = σ4 0 ∧ σ' 1 = σ4 1 ∧ True) ∧ w = w' ∧ (σ' 6 = .int .i64 (k : Int) ∧ i2 / 64 ≤ k ∧ ∀ j, i2 ≤ j → j / 64 < k → mem ws j = false)) (fun k => ws.length - k) (i2 / 64) ⟨⟨rfl, rfl, trivial⟩, rfl, by simpa using s6, by omega, fun j h1 h2 => absurd h2 (by omega)⟩ ?_
  rintro k σ5 w1 ⟨⟨f0, f1, _⟩, rfl, s6, hk, hno⟩
  have s0 := f0.trans qo1
  have s1 := f1.trans qo2
  refine W.seq ?_
  refine W.seq ?_
  refine W.region ?_
  refine WL.x (X.mv (s6)) rfl ?_
  refine WL.x (X.mv (lt rfl (s0))) rfl ?_
  refine WL.x (X.nilck (lh)) rfl ?_
  refine WL.x (X.fieldAddr fd67_0 (lh)) rfl ?_
  refine WL.x (X.load pl65 (lh) (by first | assumption) (by first | rfl | assumption)) rfl ?_
  refine WL.x (X.lenSl Tryd.underlying65 (lh)) rfl ?_
  refine WL.x (X.lss (lt rfl (lt rfl (lt rfl (lt rfl (lt rfl (lh)))))) (lh)) rfl ?_
  refine WL.e4 Nx.thn 0 1 6 20 (lt rfl (lt rfl (lt rfl (lt rfl (lt rfl (lt rfl (lt rfl (s0)))))))) (lt rfl (lt rfl (lt rfl (lt rfl (lt rfl (lt rfl (lt rfl (s1)))))))) (lt rfl (lt rfl (lt rfl (lt rfl (lt rfl (lt rfl (lt rfl (s6)))))))) (lh) ?_
  intro σ6 s0 s1 s6 s20
  refine W.cndp s20 (fun hlt => ?_) (fun hlt => ?_)
  · refine W.skip Nx.thn ?_
    refine W.seq ?_
    refine W.block ?_
    refine W.seq ?_
    refine W.region ?_
    refine WL.x (X.mv (s0)) rfl ?_
    refine WL.x (X.nilck (lh)) rfl ?_
    refine WL.x (X.fieldAddr fd67_0 (lh)) rfl ?_
    refine WL.x (X.load pl65 (lh) (by first | assumption) (by first | rfl | assumption)) rfl ?_
    refine WL.x (X.mv (lt rfl (lt rfl (lt rfl (lt rfl (s6)))))) rfl ?_
    refine WL.x (X.indexAddr Tryd.underlying65 el70 (lt rfl (lh)) (lh) (by omega) (by omega)) rfl ?_
    refine WL.x (X.load pl70 (lh) hwd (v := bcell (ws.getD k 0)) (by rw [show 0 + (k : Int).toNat * 1 = k by omega]; exact wcells_get ws k (by omega))) rfl ?_
    refine WL.x (X.asg (lh)) rfl ?_
    refine WL.e4 Nx.thn 0 1 6 7 (lt rfl (lt rfl (lt rfl (lt rfl (lt rfl (lt rfl (lt rfl (lt rfl (s0))))))))) (lt rfl (lt rfl (lt rfl (lt rfl (lt rfl (lt rfl (lt rfl (lt rfl (s1))))))))) (lt rfl (lt rfl (lt rfl (lt rfl (lt rfl (lt rfl (lt rfl (lt rfl (s6))))))))) (lh) ?_
    intro σ7 s0 s1 s6 s7
    have qo3 := s0
    have qo4 := s1
    have qo5 := s6
    refine W.seqJ (fun σ' w' => (σ' 0 = σ7 0 ∧ σ' 1 = σ7 1 ∧ σ' 6 = σ7 6 ∧ True) ∧ ∃ y : BV, σ' 7 = bcell y ∧ (∀ j, j < 64 → y.getLsbD j = ((ws.getD k 0).getLsbD j && decide (i2 ≤ 64 * k + j))) ∧ w = w') ?_ ?_
    · refine W.seq ?_
      refine W.region ?_
      refine WL.x (X.mv (s6)) rfl ?_
      refine WL.x (X.mv (lt rfl (s1))) rfl ?_
      first | refine WL.x (X.quo (lh) lc (by omega) (by omega) (wrap_i64 (by omega) (by omega))) rfl ?_ | refine WL.x (X.quow (lh) lc (by omega)) rfl ?_
      refine WL.x (X.eql (lt rfl (lt rfl (lh))) (lh)) rfl ?_
      refine WL.e5 Nx.thn 0 1 6 7 33 (lt rfl (lt rfl (lt rfl (lt rfl (s0))))) (lt rfl (lt rfl (lt rfl (lt rfl (s1))))) (lt rfl (lt rfl (lt rfl (lt rfl (s6))))) (lt rfl (lt rfl (lt rfl (lt rfl (s7))))) (lh) ?_
      intro σ8 s0 s1 s6 s7 s33
      refine W.cndp s33 (fun heq => ?_) (fun heq => ?_)
      · refine W.region ?_
        refine WL.x (X.mv (s7)) rfl ?_
        refine WL.x (X.mv (lt rfl (s1))) rfl ?_
        first | refine WL.x (X.rem (lh) lc (by omega) (by omega)) rfl ?_ | refine WL.x (X.remw (lh) lc (by omega)) rfl ?_
        refine WL.x (X.shl lc (lh) (by omega)) rfl ?_
        refine WL.x (X.and (lt rfl (lt rfl (lt rfl (lh)))) (lh)) rfl ?_
        refine WL.x (X.asg (lh)) rfl ?_
        refine WL.e4 Nx.thn 0 1 6 7 (lt rfl (lt rfl (lt rfl (lt rfl (lt rfl (lt rfl (s0))))))) (lt rfl (lt rfl (lt rfl (lt rfl (lt rfl (lt rfl (s1))))))) (lt rfl (lt rfl (lt rfl (lt rfl (lt rfl (lt rfl (s6))))))) (lh) ?_
        intro σ9 s0 s1 s6 s7
        refine ⟨⟨s0.trans qo3.symm, s1.trans qo4.symm, s6.trans qo5.symm, trivial⟩, ws.getD k 0 &&& (BitVec.allOnes 64 <<< (i2 % 64)), by rw [s7]; unfold bcell; exact congrArg _ (by have := mask_bits (ws.getD k 0) (i2 % 64) (by omega); rw [show ((i2 : Int) % 64).toNat = i2 % 64 by omega]; exact this), fun j hj => by rw [BitVec.getLsbD_and, ones_bit _ _ hj]; congr 1; exact decide_eq_decide.2 (by omega), rfl⟩
      · refine W.skip Nx.thn ?_
        refine ⟨⟨s0.trans qo3.symm, s1.trans qo4.symm, s6.trans qo5.symm, trivial⟩, ws.getD k 0, s7, fun j hj => by rw [decide_eq_true (by omega)]; simp, rfl⟩
    · rintro σ10 w2 ⟨⟨f0, f1, f6, _⟩, y, s7, hy, rfl⟩
      have s0 := f0.trans qo3
      have s1 := f1.trans qo4
      have s6 := f6.trans qo5
      refine W.seq ?_
      refine W.region ?_
      refine WL.x (X.mv (s7)) rfl ?_
      refine WL.x (X.neq (lh) lc) rfl ?_
      refine WL.e5 Nx.thn 0 1 6 7 40 (lt rfl (lt rfl (s0))) (lt rfl (lt rfl (s1))) (lt rfl (lt rfl (s6))) (lt rfl (lt rfl (s7))) (lh) ?_
      intro σ11 s0 s1 s6 s7 s40
      refine W.cndp s40 (fun hy0 => ?_) (fun hy0 => ?_)
      · refine W.seq ?_
        refine W.region ?_
        refine WL.x (X.mv (s6)) rfl ?_
        first | refine WL.x (X.mul (lh) lc (by omega) (by omega)) rfl ?_ | refine WL.x (X.mulw (lh) lc) rfl ?_
        refine WL.x (X.mv (lt rfl (lt rfl (s7)))) rfl ?_
        refine WL.call1 ce51 (lh) (tz_ok y w (fun e => hy0 (by rw [e]; rfl)) htab) rfl ?_
        rintro _ _ ⟨q, rfl, hq, hq1, hq2, rfl⟩
        first | refine WL.x (X.add (lt rfl (lt rfl (lh))) (lh) (by omega) (by omega)) rfl ?_ | refine WL.x (X.addw (lt rfl (lt rfl (lh))) (lh)) rfl ?_
        refine WL.x (X.asg (lh)) rfl ?_
        refine WL.x (X.asg lc) rfl ?_
        refine WL.e2 Nx.thn 4 5 (lt rfl (lh)) (lh) ?_
        intro σ12 s4 s5
        refine W.ret2 (Nx.rblk (Nx.rthn (Nx.rthn (Nx.rblk (Nx.rthn Nx.f2))))) s4 s5 ?_
        have hq3 := hy q hq
        rw [hq1] at hq3
        have hq4 := Bool.and_eq_true_iff.1 hq3.symm
        have hq5 : i2 ≤ 64 * k + q := of_decide_eq_true hq4.2
        refine ⟨.inl ⟨64 * k + q, by rw [show ((64 * k + q : Nat) : Int) = (k : Int) * 64 + q by omega], ?_, by omega, fun m hm hmi => ?_⟩, rfl⟩
        · unfold mem
          rw [show (64 * k + q) / 64 = k by omega, show (64 * k + q) % 64 = q by omega]
          exact hq4.1
        · by_cases e : m / 64 < k
          · exact hno m (by omega) e
          · have h1 := hy (m % 64) (by omega)
            rw [hq2 (m % 64) (by omega), decide_eq_true (show i2 ≤ 64 * k + m % 64 by omega), Bool.and_true] at h1
            unfold mem
            rw [show m / 64 = k by omega]; exact h1.symm
      · refine W.skip (Nx.blk Nx.thn) ?_
        refine W.region ?_
        refine WL.x (X.mv (s6)) rfl ?_
        first | refine WL.x (X.add (lh) lc (by omega) (by omega)) rfl ?_ | refine WL.x (X.addw (lh) lc) rfl ?_
        refine WL.x (X.asg (lh)) rfl ?_
        refine WL.e3 Nx.thn 0 1 6 (lt rfl (lt rfl (lt rfl (s0)))) (lt rfl (lt rfl (lt rfl (s1)))) (lh) ?_
        intro σ13 s0 s1 s6
        refine ⟨k + 1, by first | omega | (dsimp only; omega), ⟨s0.trans qo1.symm, s1.trans qo2.symm, trivial⟩, rfl, s6, by omega, fun j h1 h2 => by
      by_cases e : j / 64 = k
      · have hj := hy (j % 64) (by omega)
        have hyz : y = 0 := BitVec.eq_of_toNat_eq (by simpa using (show (y.toNat : Int) = 0 by omega))
        rw [hyz] at hj
        have hle : i2 ≤ 64 * k + j % 64 := by omega
        simp only [hle, decide_true, Bool.and_true] at hj
        unfold mem; rw [e, ← hj]; simp
      · exact hno j h1 (by omega)⟩
  · refine W.exit (Nx.xthn (Nx.xthn (Nx.xblk Nx.thn))) ?_
    refine W.seq ?_
    refine W.region ?_
    refine WL.x (X.asg lc) rfl ?_
    refine WL.x (X.asg lc) rfl ?_
    refine WL.e2 Nx.thn 4 5 (lt rfl (lh)) (lh) ?_
    intro σ14 s4 s5
    refine W.ret2 Nx.f2 s4 s5 ?_
    refine ⟨.inr ⟨rfl, fun m hm => ?_⟩, rfl⟩
    by_cases e : m / 64 < k
    · exact hno m (by omega) e
    · exact mem_out (by omega)
theorem next_nobody (w : World) (s : Value) (hs : ∀ w', Ch0 w w' → Sg.Ret Tryd.prog 33 #[s] w' fun v w'' => v = .bool true ∧ w' = w'') (i : Int) :
    Sg.Ret Tryd.prog 50 #[s, .int .i64 i] w fun v w' => v = .tuple #[.int .i64 0, .bool false] ∧ w = w' := by
  refine enter2 (n := 46) (l := [s, .int .i64 i]) Tryd.func50 rfl rfl rfl rfl ?_
  refine W.g2 0 1 (v1 := s) (v2 := .int .i64 i) rfl rfl ?_; intro σ s0 s1
  refine W.seq ?_
  refine W.region ?_
  refine WL.x (X.asg lc) rfl ?_
  refine WL.x (X.asg lc) rfl ?_
  refine WL.e2 Nx.thn 0 1 (lt rfl (lt rfl (s0))) (lt rfl (lt rfl (s1))) ?_
  intro σ1 s0 s1
  refine W.seq ?_
  refine W.seq ?_
  refine W.region ?_
  refine WL.x (X.mv (s0)) rfl ?_
  refine WL.call1 ce33 (lh) (hs _ (Ch.refl _ _)) rfl ?_
  rintro _ _ ⟨rfl, rfl⟩
  refine WL.e3 Nx.thn 0 1 9 (lt rfl (lt rfl (s0))) (lt rfl (lt rfl (s1))) (lh) ?_
  intro σ2 s0 s1 s9
  refine W.cndBT s9 (rfl) ?_
  refine W.seq ?_
  refine W.region ?_
  refine WL.x (X.asg lc) rfl ?_
  refine WL.x (X.asg lc) rfl ?_
  refine WL.e2 Nx.thn 4 5 (lt rfl (lh)) (lh) ?_
  intro σ3 s4 s5
  refine W.ret2 (Nx.rthn Nx.f2) s4 s5 ?_
  exact ⟨rfl, rfl⟩

/-- The members below m, rising, as Go's numbers. -/
def elv (p : Nat → Bool) (m : Nat) : List Value := ((List.range m).filter p).map fun (j : Nat) => Value.int .i64 (j : Int)
theorem elv_succ_yes {p : Nat → Bool} {i j : Nat} (hij : i ≤ j) (hj : p j = true) (hno : ∀ m, m < j → i ≤ m → p m = false) : elv p (j + 1) = elv p i ++ [.int .i64 (j : Int)] := by
  unfold elv
  rw [List.range_succ, List.filter_append, List.map_append]
  congr 1
  · rw [filter_range_lt hij hno]
  · simp [hj]
theorem elv_len (p : Nat → Bool) (m : Nat) : (elv p m).length ≤ m := by
  unfold elv; rw [List.length_map]; exact Nat.le_trans (List.length_filter_le _ _) (by simp)
theorem elv_end {p : Nat → Bool} {i n : Nat} (hin : i ≤ n) (hno : ∀ m, i ≤ m → p m = false) : elv p n = elv p i := by
  unfold elv; rw [filter_range_le hin hno]
theorem list_ok (b wb n : Nat) (ws : List BV) (w : World) (h : IsSet w b wb n ws) (htab : Tab w) (hb0 : 0 < w.heap.size) :
    Sg.Ret Tryd.prog 46 #[.pointer (some ⟨b, 0, none⟩)] w fun v w' => w'.ownsRow w.heap.size 3 1 v (elv (mem ws) n).length (elv (mem ws) n) ∧ Ch0 w w' := by
  have hd := h.hd; have hlen := h.len; have hle := h.le; have hlb := h.ltb; have hlw := h.ltw
  refine enter1 (n := 24) (l := [.pointer (some ⟨b, 0, none⟩)]) Tryd.func46 rfl rfl rfl rfl ?_
  refine W.g1 0 (v1 := .pointer (some ⟨b, 0, none⟩)) rfl ?_; intro σ s0
  refine W.seq ?_
  refine W.region ?_
  refine WL.x (X.asg lc) rfl ?_
  refine WL.e1 Nx.thn 0 (lt rfl (s0)) ?_
  intro σ1 s0
  refine W.seq ?_
  refine W.region ?_
  refine WL.x (X.asg lc) rfl ?_
  refine WL.e2 Nx.thn 0 3 (lt rfl (s0)) (lh) ?_
  intro σ2 s0 s3
  refine W.seq ?_
  refine W.seq ?_
  refine W.region ?_
  refine WL.x (X.mv (s0)) rfl ?_
  refine WL.call2 ce50 (lh) lc (next_ok b wb n ws 0 w h htab (by omega)) rfl ?_
  rintro v1 _ ⟨hnx, rfl⟩
  obtain ⟨x1, k1, rfl, hx1⟩ := hnx.pair
  refine WL.x (X.mv (lh)) rfl ?_
  refine WL.x (X.ex2_0 (lh)) rfl ?_
  refine WL.x (X.ex2_1 (lt rfl (lh))) rfl ?_
  refine WL.x (X.asg (lt rfl (lh))) rfl ?_
  refine WL.x (X.asg (lt rfl (lh))) rfl ?_
  refine WL.e4 Nx.thn 0 3 4 5 (lt rfl (lt rfl (lt rfl (lt rfl (lt rfl (lt rfl (lt rfl (s0)))))))) (lt rfl (lt rfl (lt rfl (lt rfl (lt rfl (lt rfl (lt rfl (s3)))))))) (lt rfl (lh)) (lh) ?_
  intro σ3 s0 s3 s4 s5
  refine W.block ?_
  have qo1 := s0
  -- loop 0: kept [0], varied [3, 4, 5]
  refine W.loop (G := Nat) (fun p0 σ' w' => (σ' 0 = σ3 0 ∧ True) ∧ (∃ lv x c, σ' 3 = lv ∧ σ' 4 = .int .i64 x ∧ σ' 5 = .bool c ∧ w'.ownsRow w.heap.size 3 1 lv (elv (mem ws) p0).length (elv (mem ws) p0) ∧ NextIs (mem ws) p0 x c ∧ p0 ≤ n ∧ Ch0 w w')) (fun p0 => n - p0) (0) ⟨⟨rfl, trivial⟩, _, _, _, s3, s4, s5, World.ownsRow_nil _ _ _ _, hx1, by omega, Ch.refl _ _⟩ ?_
  rintro p0 σ4 w1 ⟨⟨f0, _⟩, lv, x, c, s3, s4, s5, hown, hx, hp0, hcl⟩
  have s0 := f0.trans qo1
  have hel := elv_len (mem ws) p0
  have hsz := hcl.size
  refine W.seq ?_
  refine W.seq ?_
  refine W.region ?_
  refine WL.x (X.mv (s5)) rfl ?_
  refine WL.e4 Nx.thn 0 3 4 11 (lt rfl (s0)) (lt rfl (s3)) (lt rfl (s4)) (lh) ?_
  intro σ5 s0 s3 s4 s11
  refine W.cnd s11 (fun hc => ?_) (fun hc => ?_)
  · obtain ⟨j, rfl, -, hj, hij, hno⟩ : ∃ j : Nat, x = j ∧ c = true ∧ mem ws j = true ∧ p0 ≤ j ∧ ∀ m, m < j → p0 ≤ m → mem ws m = false := by
      rcases hx with ⟨j, h1, h2, h3, h4, h5⟩ | ⟨_, h2, _⟩
      · exact ⟨j, h1, h2, h3, by omega, fun m hm hm2 => h5 m hm (by omega)⟩
      · rw [hc] at h2; cases h2
    have hjn : j < n := by
      rcases Nat.lt_or_ge j n with h' | h'
      · exact h'
      · rw [h.clean j h'] at hj; cases hj
    refine W.skip Nx.thn ?_
    refine W.seq ?_
    refine W.block ?_
    refine W.region ?_
    refine WL.x (X.mv (s3)) rfl ?_
    refine WL.x (X.mv (lt rfl (s4))) rfl ?_
    refine WL.bslice Tryd.underlying44 el3 rfl (pcons (lh) pnil) rfl (rfl : _ = [_]) rfl ?_
    intro w2 u5_2; have hu5_2 := u5_2.at_; have cu5_2 := u5_2.ch; have zu5_2 := u5_2.size
    refine WL.append Tryd.underlying44 el3 rfl (by decide) (lt rfl (lt rfl (lh))) (lh) (own_ch hown cu5_2 (fun _ _ => id)) (by first | assumption | exact cu5_2.at0 (by assumption) | exact cu5_2.at0 (hcl.at0 (by assumption))) rfl (by simp [Value.oneCell']) (by unfold maxLen; omega) (by omega) (by omega) rfl ?_
    intro va5_3 w3 ho5_3 ca5_3
    have hcn := hcl.trans (cu5_2.trans ca5_3 (F := fun _ => False) (H := fun k => w.heap.size ≤ k) (fun _ _ e => e.elim) (fun i hi e => (own_lt hown e).1)) (fun _ _ e => e) (fun i hi e => absurd hi (by omega))
    refine WL.x (X.asg (lh)) rfl ?_
    refine WL.e3 (Nx.blk Nx.thn) 0 3 4 (lt rfl (lt rfl (lt rfl (lt rfl (lt rfl (s0)))))) (lh) (lt rfl (lt rfl (lt rfl (lt rfl (lt rfl (s4)))))) ?_
    intro σ6 s0 s3 s4
    refine W.region ?_
    refine WL.x (X.mv (s0)) rfl ?_
    refine WL.x (X.mv (lt rfl (s4))) rfl ?_
    first | refine WL.x (X.add (lh) lc (by omega) (by omega)) rfl ?_ | refine WL.x (X.addw (lh) lc) rfl ?_
    refine WL.call2 ce50 (lt rfl (lt rfl (lh))) (lh) (next_ok b wb n ws _ _ (h.ch0 hcn) (htab.ch0 hcn) (by omega)) rfl ?_
    rintro v2 _ ⟨hnx2, rfl⟩
    obtain ⟨x2, k2, rfl, hx2⟩ := hnx2.pair
    refine WL.x (X.mv (lh)) rfl ?_
    refine WL.x (X.ex2_0 (lh)) rfl ?_
    refine WL.x (X.ex2_1 (lt rfl (lh))) rfl ?_
    refine WL.x (X.asg (lt rfl (lh))) rfl ?_
    refine WL.x (X.asg (lt rfl (lh))) rfl ?_
    refine WL.e4 Nx.thn 0 3 4 5 (lt rfl (lt rfl (lt rfl (lt rfl (lt rfl (lt rfl (lt rfl (lt rfl (lt rfl (s0)))))))))) (lt rfl (lt rfl (lt rfl (lt rfl (lt rfl (lt rfl (lt rfl (lt rfl (lt rfl (s3)))))))))) (lt rfl (lh)) (lh) ?_
    intro σ7 s0 s3 s4 s5
    refine ⟨j + 1, by first | omega | (dsimp only; omega), ⟨s0.trans qo1.symm, trivial⟩, _, _, _, s3, s4, s5, by rw [elv_succ_yes hij hj hno, List.length_append]; exact ho5_3, hx2, by omega, hcn⟩
  · have hend : ∀ m, p0 ≤ m → mem ws m = false := by
      rcases hx with ⟨j, h1, h2, _⟩ | ⟨_, _, h3⟩
      · rw [hc] at h2; cases h2
      · exact fun m hm => h3 m (by omega)
    refine W.exit (Nx.xthn (Nx.xthn (Nx.xblk Nx.thn))) ?_
    refine W.seq ?_
    refine W.region ?_
    refine WL.x (X.mv (s3)) rfl ?_
    refine WL.x (X.asg (lh)) rfl ?_
    refine WL.e1 Nx.thn 2 (lh) ?_
    intro σ8 s2
    refine W.ret1 Nx.f1 s2 ?_
    exact ⟨by rw [elv_end hp0 hend]; exact hown, hcl⟩
theorem list_nobody (w : World) (s : Value) (hs : ∀ w', Ch0 w w' → Sg.Ret Tryd.prog 33 #[s] w' fun v w'' => v = .bool true ∧ w' = w'')  :
    Sg.Ret Tryd.prog 46 #[s] w fun v w' => v = .slice none 0 0 ∧ w = w' := by
  refine enter1 (n := 24) (l := [s]) Tryd.func46 rfl rfl rfl rfl ?_
  refine W.g1 0 (v1 := s) rfl ?_; intro σ s0
  refine W.seq ?_
  refine W.region ?_
  refine WL.x (X.asg lc) rfl ?_
  refine WL.e1 Nx.thn 0 (lt rfl (s0)) ?_
  intro σ1 s0
  refine W.seq ?_
  refine W.region ?_
  refine WL.x (X.asg lc) rfl ?_
  refine WL.e2 Nx.thn 0 3 (lt rfl (s0)) (lh) ?_
  intro σ2 s0 s3
  refine W.seq ?_
  refine W.seq ?_
  refine W.region ?_
  refine WL.x (X.mv (s0)) rfl ?_
  refine WL.call2 ce50 (lh) lc (next_nobody w s hs 0) rfl ?_
  rintro _ _ ⟨rfl, rfl⟩
  refine WL.x (X.mv (lh)) rfl ?_
  refine WL.x (X.ex2_0 (lh)) rfl ?_
  refine WL.x (X.ex2_1 (lt rfl (lh))) rfl ?_
  refine WL.x (X.asg (lt rfl (lh))) rfl ?_
  refine WL.x (X.asg (lt rfl (lh))) rfl ?_
  refine WL.e4 Nx.thn 0 3 4 5 (lt rfl (lt rfl (lt rfl (lt rfl (lt rfl (lt rfl (lt rfl (s0)))))))) (lt rfl (lt rfl (lt rfl (lt rfl (lt rfl (lt rfl (lt rfl (s3)))))))) (lt rfl (lh)) (lh) ?_
  intro σ3 s0 s3 s4 s5
  refine W.block ?_
  have qo1 := s0
  -- loop 0: kept [0], varied [3, 4, 5]
  refine W.loop (G := Unit) (fun _ σ' w' => (σ' 0 = σ3 0 ∧ True) ∧ w = w' ∧ (σ' 3 = .slice none 0 0 ∧ σ' 5 = .bool false ∧ σ' 4 = .int .i64 0)) (fun _ => 0) (()) ⟨⟨rfl, trivial⟩, rfl, s3, s5, s4⟩ ?_
  rintro _ σ4 w1 ⟨⟨f0, _⟩, rfl, s3, s5, s4⟩
  have s0 := f0.trans qo1
  refine W.seq ?_
  refine W.seq ?_
  refine W.region ?_
  refine WL.x (X.mv (s5)) rfl ?_
  refine WL.e4 Nx.thn 0 3 4 11 (lt rfl (s0)) (lt rfl (s3)) (lt rfl (s4)) (lh) ?_
  intro σ5 s0 s3 s4 s11
  refine W.cndF s11 ?_
  refine W.exit (Nx.xthn (Nx.xthn (Nx.xblk Nx.thn))) ?_
  refine W.seq ?_
  refine W.region ?_
  refine WL.x (X.mv (s3)) rfl ?_
  refine WL.x (X.asg (lh)) rfl ?_
  refine WL.e1 Nx.thn 2 (lh) ?_
  intro σ6 s2
  refine W.ret1 Nx.f1 s2 ?_
  exact ⟨rfl, rfl⟩
end Go.Proofs.YtaldkbdnefpklaaDoor
