/-
  A part of the walk of the program.
-/
import Derived.Test.YtaldkbdnefpklaaDoorI
import Derived.Test.YtaldkbdnefpklaaDoorK
set_option linter.unusedVariables false
set_option linter.unusedSimpArgs false
set_option maxRecDepth 100000
namespace Go.Proofs.YtaldkbdnefpklaaDoor
open Go Go.RowKit Sg
theorem eqi_walk (a1 a2 : Option Addr) (c1 c2 : Nat) (l1 l2 : List Int) (w : World) (h1 : Sl w (.slice a1 l1.length c1) (l1.map (Value.int .i64))) (h2 : Sl w (.slice a2 l2.length c2) (l2.map (Value.int .i64))) (hl : l1.length ≤ 140737488355328) :
    Sg.Ret Tryd.prog 22 #[.slice a1 l1.length c1, .slice a2 l2.length c2] w fun v w' => v = .bool (decide (l1 = l2)) ∧ Dr w w' := by
  refine enter1 (n := 26) (l := [.slice a1 l1.length c1, .slice a2 l2.length c2]) Tryd.func22 rfl rfl rfl rfl ?_
  refine W.g2 0 1 (v1 := .slice a1 l1.length c1) (v2 := .slice a2 l2.length c2) rfl rfl ?_; intro σ s0 s1
  refine W.seq ?_
  refine W.region ?_
  refine WL.x (X.asg lc) rfl ?_
  refine WL.e2 Nx.thn 0 1 (lt rfl (s0)) (lt rfl (s1)) ?_
  intro σ1 s0 s1
  refine W.seq ?_
  refine W.seq ?_
  refine W.region ?_
  refine WL.x (X.mv (s0)) rfl ?_
  refine WL.x (X.lenSl Tryd.underlying44 (lh)) rfl ?_
  refine WL.x (X.mv (lt rfl (lt rfl (s1)))) rfl ?_
  refine WL.x (X.lenSl Tryd.underlying44 (lh)) rfl ?_
  refine WL.x (X.neq (lt rfl (lt rfl (lh))) (lh)) rfl ?_
  refine WL.e3 Nx.thn 0 1 10 (lt rfl (lt rfl (lt rfl (lt rfl (lt rfl (s0)))))) (lt rfl (lt rfl (lt rfl (lt rfl (lt rfl (s1)))))) (lh) ?_
  intro σ2 s0 s1 s10
  refine W.cndp s10 (fun hlen => ?_) (fun hlen => ?_)
  · refine W.seq ?_
    refine W.region ?_
    refine WL.x (X.asg lc) rfl ?_
    refine WL.e1 Nx.thn 4 (lh) ?_
    intro σ3 s4
    refine W.ret1 (Nx.rthn Nx.f1) s4 ?_
    exact ⟨by rw [decide_eq_false (fun e => hlen (by rw [e]))], Dr.refl _⟩
  · have hlen : l1.length = l2.length := by omega
    refine W.skip Nx.thn ?_
    refine W.seq ?_
    refine W.seq ?_
    refine W.region ?_
    refine WL.x (X.mv (s0)) rfl ?_
    refine WL.x (X.lenSl Tryd.underlying44 (lh)) rfl ?_
    refine WL.x (X.mv lc) rfl ?_
    refine WL.e4 Nx.thn 0 1 12 13 (lt rfl (lt rfl (lt rfl (s0)))) (lt rfl (lt rfl (lt rfl (s1)))) (lt rfl (lh)) (lh) ?_
    intro σ4 s0 s1 s12 s13
    refine W.block ?_
    have qo1 := s0
    have qo2 := s1
    have qo3 := s12
    -- loop 0: kept [0, 1, 12], varied [13]
    refine W.loop (G := Nat) (fun k σ' w' => (σ' 0 = σ4 0 ∧ σ' 1 = σ4 1 ∧ σ' 12 = σ4 12 ∧ True) ∧ (σ' 13 = .int .i64 (k : Int) ∧ k ≤ l1.length ∧ Dr w w' ∧ ∀ i, i < k → l1[i]? = l2[i]?)) (fun k => l1.length - k) (0) ⟨⟨rfl, rfl, rfl, trivial⟩, s13, by omega, Dr.refl _, fun i hi => absurd hi (by omega)⟩ ?_
    rintro k σ5 w1 ⟨⟨f0, f1, f12, _⟩, s13, hk, hdr, heq⟩
    have s0 := f0.trans qo1
    have s1 := f1.trans qo2
    have s12 := f12.trans qo3
    refine W.seq ?_
    refine W.region ?_
    refine WL.x (X.lss (s13) (s12)) rfl ?_
    refine WL.e5 Nx.thn 0 1 12 13 14 (lt rfl (s0)) (lt rfl (s1)) (lt rfl (s12)) (lt rfl (s13)) (lh) ?_
    intro σ6 s0 s1 s12 s13 s14
    refine W.seq ?_
    refine W.cndp s14 (fun hlt => ?_) (fun hlt => ?_)
    · obtain ⟨b1, o1, cs1, T1, fr1, rfl, hm1, hc1⟩ := h1.at (k := k) (by simp; omega)
      obtain ⟨b2, o2, cs2, T2, fr2, rfl, hm2, hc2⟩ := h2.at (k := k) (by simp; omega)
      have hm1 := hdr.ch0.at0 hm1
      have hm2 := hdr.ch0.at0 hm2
      have hg1 : cs1[o1 + (k : Int).toNat * 1]? = some (.int .i64 (l1.getD k 0)) := by rw [show (k : Int).toNat * 1 = k by omega, hc1 k (by simp; omega)]; simp [List.getD_eq_getElem?_getD, List.getElem?_eq_getElem (show k < l1.length by omega)]
      have hg2 : cs2[o2 + (k : Int).toNat * 1]? = some (.int .i64 (l2.getD k 0)) := by rw [show (k : Int).toNat * 1 = k by omega, hc2 k (by simp; omega)]; simp [List.getD_eq_getElem?_getD, List.getElem?_eq_getElem (show k < l2.length by omega)]
      refine W.skip Nx.thn ?_
      refine W.seq ?_
      refine W.block ?_
      refine W.seq ?_
      refine W.region ?_
      refine WL.x (X.mv (s13)) rfl ?_
      refine WL.x (X.asg (lh)) rfl ?_
      refine WL.e5 Nx.thn 0 1 5 12 13 (lt rfl (lt rfl (s0))) (lt rfl (lt rfl (s1))) (lh) (lt rfl (lt rfl (s12))) (lt rfl (lt rfl (s13))) ?_
      intro σ7 s0 s1 s5 s12 s13
      refine W.seq ?_
      refine W.draw mo (by kernel_rfl) Nx.thn ?_
      refine WQ.x (fun _ => X.mv (s0)) rfl ?_
      refine WQ.x (fun _ => X.mv (lt rfl (s5))) rfl ?_
      refine WQ.x (fun _ => X.indexAddr Tryd.underlying44 el3 (lt rfl (lh)) (lh) (by omega) (by omega)) rfl ?_
      refine WQ.x (fun m => X.load pl3 (lh) hm1 hg1) rfl ?_
      refine WQ.x (fun _ => X.mv (lt rfl (lt rfl (lt rfl (lt rfl (s1)))))) rfl ?_
      refine WQ.x (fun _ => X.mv (lt rfl (lt rfl (lt rfl (lt rfl (lt rfl (s5))))))) rfl ?_
      refine WQ.x (fun _ => X.indexAddr Tryd.underlying44 el3 (lt rfl (lh)) (lh) (by omega) (by omega)) rfl ?_
      refine WQ.x (fun m => X.load pl3 (lh) hm2 hg2) rfl ?_
      refine WQ.x (fun _ => X.neq (lt rfl (lt rfl (lt rfl (lt rfl (lh))))) (lh)) rfl ?_
      refine WQ.e5 0 1 12 13 24 (lt rfl (lt rfl (lt rfl (lt rfl (lt rfl (lt rfl (lt rfl (lt rfl (lt rfl (s0)))))))))) (lt rfl (lt rfl (lt rfl (lt rfl (lt rfl (lt rfl (lt rfl (lt rfl (lt rfl (s1)))))))))) (lt rfl (lt rfl (lt rfl (lt rfl (lt rfl (lt rfl (lt rfl (lt rfl (lt rfl (s12)))))))))) (lt rfl (lt rfl (lt rfl (lt rfl (lt rfl (lt rfl (lt rfl (lt rfl (lt rfl (s13)))))))))) (lh) ?_
      intro σ8 s0 s1 s12 s13 s24
      intro _; refine gdrew ?_; intro w2 hh6 cd6 dr6
      refine W.cndp s24 (fun hq => ?_) (fun hq => ?_)
      · refine W.seq ?_
        refine W.region ?_
        refine WL.x (X.asg lc) rfl ?_
        refine WL.e1 Nx.thn 4 (lh) ?_
        intro σ9 s4
        refine W.ret1 (Nx.rblk (Nx.rthn (Nx.rthn (Nx.rblk (Nx.rthn Nx.f1))))) s4 ?_
        exact ⟨by rw [decide_eq_false (fun e => hq (by rw [e]))], hdr.trans dr6⟩
      · refine W.skip (Nx.blk Nx.thn) ?_
        refine W.region ?_
        first | refine WL.x (X.add (s13) lc (by omega) (by omega)) rfl ?_ | refine WL.x (X.addw (s13) lc) rfl ?_
        refine WL.x (X.mv (lh)) rfl ?_
        refine WL.e4 Nx.thn 0 1 12 13 (lt rfl (lt rfl (s0))) (lt rfl (lt rfl (s1))) (lt rfl (lt rfl (s12))) (lh) ?_
        intro σ10 s0 s1 s12 s13
        have hq : l1.getD k 0 = l2.getD k 0 := Classical.not_not.1 hq
        refine ⟨k + 1, by first | omega | (dsimp only; omega), ⟨s0.trans qo1.symm, s1.trans qo2.symm, s12.trans qo3.symm, trivial⟩, s13, by omega, hdr.trans dr6, fun i hi => by by_cases e : i = k; (· subst e; simp only [List.getD_eq_getElem?_getD, List.getElem?_eq_getElem (show i < l1.length by omega), List.getElem?_eq_getElem (show i < l2.length by omega), Option.getD_some] at hq ⊢; rw [hq]); (· exact heq i (by omega))⟩
    · refine W.exit (Nx.xthn (Nx.xthn (Nx.xblk Nx.thn))) ?_
      refine W.seq ?_
      refine W.region ?_
      refine WL.x (X.asg lc) rfl ?_
      refine WL.e1 Nx.thn 4 (lh) ?_
      intro σ11 s4
      refine W.ret1 Nx.f1 s4 ?_
      exact ⟨by rw [decide_eq_true (List.ext_getElem? fun i => by by_cases h : i < l1.length; (· exact heq i (by omega)); (· rw [List.getElem?_eq_none (by omega), List.getElem?_eq_none (by omega)]))], hdr⟩
theorem eqi_ok (v1 v2 : Value) (l1 l2 : List Int) (w : World) (h1 : Sl w v1 (l1.map (Value.int .i64))) (h2 : Sl w v2 (l2.map (Value.int .i64))) (hl : l1.length ≤ 140737488355328) :
    Sg.Ret Tryd.prog 22 #[v1, v2] w fun v w' => v = .bool (decide (l1 = l2)) ∧ Dr w w' := by
  obtain ⟨a1, c1, e1⟩ := h1.len
  obtain ⟨a2, c2, e2⟩ := h2.len
  simp only [List.length_map] at e1 e2
  subst e1; subst e2
  exact eqi_walk a1 a2 c1 c2 l1 l2 w h1 h2 hl

theorem own_ch0 {w w' : World} {base m size : Nat} {e : TypeId} {v : Value} {xs : List Value} (h : w.ownsRow base e size v m xs) (c : Ch0 w w') : w'.ownsRow base e size v m xs := own_ch h c (fun _ _ => id)
theorem eqi_own {b1 b2 : Nat} (p : Nat → Bool) (n : Nat) (v1 v2 : Value) (w : World) (h1 : w.ownsRow b1 3 1 v1 (elv p n).length (elv p n)) (h2 : w.ownsRow b2 3 1 v2 (elv p n).length (elv p n)) (hl : (elv p n).length ≤ 140737488355328) : Sg.Ret Tryd.prog 22 #[v1, v2] w fun v w' => v = .bool true ∧ Dr w w' := by
  obtain ⟨l, hle⟩ : ∃ l : List Int, elv p n = l.map (Value.int .i64) := ⟨((List.range n).filter p).map (fun (j : Nat) => (j : Int)), by unfold elv; rw [List.map_map]; rfl⟩
  have s1 := (QRow.own h1).sl
  have s2 := (QRow.own h2).sl
  rw [hle] at s1 s2 hl
  rw [List.length_map] at hl
  exact Ret.mono (eqi_ok v1 v2 l l w s1 s2 hl) fun v w' k => ⟨k.1.trans (congrArg Value.bool (decide_eq_true rfl)), k.2⟩


theorem foldl_bit (n : Nat) (l : List GE) (Lb : Nat → Nat → Nat) (x y i : Nat) : (l.foldl (addE n) Lb x y).testBit i = true ↔ (Lb x y).testBit i = true ∨ ∃ e ∈ l, inE n e ∧ okE e ∧ x = e.1.toNat ∧ y = e.2.1.toNat ∧ e.2.2.toNat.testBit i = true := by
  induction l generalizing Lb with
  | nil => simp
  | cons e r ih =>
    rw [List.foldl_cons, ih]
    unfold addE
    by_cases h : inE n e ∧ okE e ∧ x = e.1.toNat ∧ y = e.2.1.toNat
    · rw [if_pos h, Nat.testBit_or, Bool.or_eq_true]
      constructor
      · rintro ((h1 | h1) | ⟨q, hq, k⟩)
        · exact .inl h1
        · exact .inr ⟨e, List.mem_cons_self .., h.1, h.2.1, h.2.2.1, h.2.2.2, h1⟩
        · exact .inr ⟨q, List.mem_cons_of_mem _ hq, k⟩
      · rintro (h1 | ⟨q, hq, k⟩)
        · exact .inl (.inl h1)
        · rcases List.mem_cons.1 hq with rfl | hq
          · exact .inl (.inr k.2.2.2.2)
          · exact .inr ⟨q, hq, k⟩
    · rw [if_neg h]
      constructor
      · rintro (h1 | ⟨q, hq, k⟩)
        · exact .inl h1
        · exact .inr ⟨q, List.mem_cons_of_mem _ hq, k⟩
      · rintro (h1 | ⟨q, hq, k⟩)
        · exact .inl h1
        · rcases List.mem_cons.1 hq with rfl | hq
          · exact absurd ⟨k.1, k.2.1, k.2.2.1, k.2.2.2.1⟩ h
          · exact .inr ⟨q, hq, k⟩
theorem fold_bit (n : Nat) (l : List GE) (x y i : Nat) : (foldE n l x y).testBit i = true ↔ ∃ e ∈ l, inE n e ∧ okE e ∧ x = e.1.toNat ∧ y = e.2.1.toNat ∧ e.2.2.toNat.testBit i = true := by
  unfold foldE
  rw [foldl_bit]
  simp
theorem fold_same {n : Nat} {l m : List GE} (h : ∀ e, e ∈ l ↔ e ∈ m) : foldE n l = foldE n m := by
  funext x y
  refine Nat.eq_of_testBit_eq fun i => Bool.eq_iff_iff.2 ?_
  rw [fold_bit, fold_bit]
  simp only [h]
theorem mem_ed {n : Nat} {Lb : Nat → Nat → Nat} {e : GE} : e ∈ edL n Lb n ↔ ∃ a b, a < n ∧ b < n ∧ Lb a b ≠ 0 ∧ e = ((a : Int), (b : Int), (Lb a b : Int)) := by
  unfold edL rowE
  simp only [List.mem_flatMap, List.mem_map, List.mem_filter, List.mem_range, decide_eq_true_eq]
  constructor
  · rintro ⟨a, ha, b, ⟨hb, hl⟩, rfl⟩; exact ⟨a, b, ha, hb, hl, rfl⟩
  · rintro ⟨a, b, ha, hb, hl, rfl⟩; exact ⟨a, ha, b, ⟨hb, hl⟩, rfl⟩
theorem fold_turn {n : Nat} {Lb : Nat → Nat → Nat} (h : LbOk n Lb) : foldE n ((edL n Lb n).map trT) = fun x y => Lb y x := by
  funext x y
  refine Nat.eq_of_testBit_eq fun i => Bool.eq_iff_iff.2 ?_
  rw [fold_bit]
  constructor
  · rintro ⟨e, he, h1, h2, rfl, rfl, h5⟩
    obtain ⟨q, hq, rfl⟩ := List.mem_map.1 he
    obtain ⟨a, b, ha, hb, hl, rfl⟩ := mem_ed.1 hq
    exact h5
  · intro hb
    have hne : Lb y x ≠ 0 := fun e => by rw [e] at hb; simp at hb
    have hy : y < n := Classical.byContradiction fun k => hne (h.off _ _ (.inl (by omega)))
    have hx : x < n := Classical.byContradiction fun k => hne (h.off _ _ (.inr (by omega)))
    have hd : x ≠ y := fun e => hne (by rw [e]; exact h.diag _)
    have hlt := h.lt y x
    exact ⟨_, List.mem_map.2 ⟨_, mem_ed.2 ⟨y, x, hy, hx, hne, rfl⟩, rfl⟩, by unfold inE trT; (try dsimp only); omega, by unfold okE trT; (try dsimp only); omega, rfl, rfl, hb⟩
theorem fold_only {n : Nat} {Lb : Nat → Nat → Nat} (h : LbOk n Lb) (o : Int) : foldE n ((edL n Lb n).map (trO o)) = fun x y => Lb x y &&& ofm o := by
  funext x y
  refine Nat.eq_of_testBit_eq fun i => Bool.eq_iff_iff.2 ?_
  rw [fold_bit]
  constructor
  · rintro ⟨e, he, h1, h2, rfl, rfl, h5⟩
    obtain ⟨q, hq, rfl⟩ := List.mem_map.1 he
    obtain ⟨a, b, ha, hb, hl, rfl⟩ := mem_ed.1 hq
    unfold trO at h5 ⊢
    (try dsimp only at h5 ⊢)
    rw [and_ofm (h.lt a b)] at h5
    exact h5
  · intro hb
    have hne : Lb x y &&& ofm o ≠ 0 := fun e => by rw [e] at hb; simp at hb
    have hne2 : Lb x y ≠ 0 := fun e => hne (by rw [e]; simp)
    have hx : x < n := Classical.byContradiction fun k => hne2 (h.off _ _ (.inl (by omega)))
    have hy : y < n := Classical.byContradiction fun k => hne2 (h.off _ _ (.inr (by omega)))
    have hd : x ≠ y := fun e => hne2 (by rw [e]; exact h.diag _)
    have hlt := h.lt x y
    have hle : Lb x y &&& ofm o ≤ Lb x y := Nat.and_le_left
    refine ⟨_, List.mem_map.2 ⟨_, mem_ed.2 ⟨x, y, hx, hy, hne2, rfl⟩, rfl⟩, by unfold inE trO; (try dsimp only); omega, ?_, rfl, rfl, ?_⟩
    · unfold okE trO; (try dsimp only); rw [and_ofm hlt]; omega
    · unfold trO; (try dsimp only); rw [and_ofm hlt]; exact hb
theorem ofm_and (a b : Int) : ofm (bitop .and .i64 a b) = ofm a &&& ofm b := by
  have hw : ∀ z : Int, ofm (IntKind.i64.wrap z) = ofm z := fun z => by
    have key : ∀ (c : Prop) [Decidable c] (u v : Int), u % 16 = z % 16 → v % 16 = z % 16 → ((if c then u else v) % 16).toNat = (z % 16).toNat := by intro c _ u v h1 h2; split <;> omega
    have e9 : (2 : Int) ^ 64 = 18446744073709551616 := by decide
    unfold ofm IntKind.wrap
    exact key _ _ _ (by simp only [IntKind.bits]; omega) (by simp only [IntKind.bits]; omega)
  show ofm (IntKind.i64.wrap (((BitVec.ofInt 64 a &&& BitVec.ofInt 64 b).toNat : Nat) : Int)) = _
  rw [hw, BitVec.toNat_and, BitVec.toNat_ofInt, BitVec.toNat_ofInt]
  unfold ofm
  have h1 : ∀ z : Nat, (((z : Nat) : Int) % 16).toNat = z % 2 ^ 4 := fun z => by omega
  rw [h1, Nat.and_mod_two_pow]
  congr 1 <;> omega
theorem ed_none {n : Nat} {Lb : Nat → Nat → Nat} (h : ∀ a b, Lb a b = 0) : edL n Lb n = [] := by
  refine List.eq_nil_iff_forall_not_mem.2 fun e he => ?_
  obtain ⟨a, b, _, _, hl, _⟩ := mem_ed.1 he
  exact hl (h a b)

end Go.Proofs.YtaldkbdnefpklaaDoor
