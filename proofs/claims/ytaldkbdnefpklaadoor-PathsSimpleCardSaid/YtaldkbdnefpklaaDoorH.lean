/-
  A part of the walk of the program.
-/
import Derived.Test.YtaldkbdnefpklaaDoorG
import Derived.Test.YtaldkbdnefpklaaDoorPlain
set_option linter.unusedVariables false
set_option linter.unusedSimpArgs false
set_option maxRecDepth 100000
namespace Go.Proofs.YtaldkbdnefpklaaDoor
open Go Go.RowKit Sg

theorem vs_set {n : Int} {vs : Nat → Value} {k : Nat} {v : Value} (hk : k < 4) : (#[.int .i64 n, vs 0, vs 1, vs 2, vs 3, .bool true] : Array Value).setIfInBounds (k + 1) v = #[.int .i64 n, if 0 = k then v else vs 0, if 1 = k then v else vs 1, if 2 = k then v else vs 2, if 3 = k then v else vs 3, .bool true] := by
  rcases (show k = 0 ∨ k = 1 ∨ k = 2 ∨ k = 3 by omega) with rfl | rfl | rfl | rfl <;> rfl
set_option maxHeartbeats 1600000 in
theorem gnew_ok (n : Int) (w : World) :
    Sg.Ret Tryd.prog 20 #[.int .i64 n] w fun v w' => Ch0 w w' ∧ (if 0 ≤ n ∧ n ≤ 300 then ∃ g, v = .tuple #[.pointer (some ⟨g, 0, none⟩), .int .i64 0] ∧ IsG w' w.heap.size g n.toNat (fun _ _ => 0) else v = .tuple #[.pointer none, .int .i64 1]) := by
  refine enter2 (n := 48) (l := [.int .i64 n]) Tryd.func20 rfl rfl rfl rfl ?_
  refine W.g1 0 (v1 := .int .i64 n) rfl ?_; intro σ s0
  refine W.seq ?_
  refine W.region ?_
  refine WL.x (X.asg lc) rfl ?_
  refine WL.x (X.asg lc) rfl ?_
  refine WL.e1 Nx.thn 0 (lt rfl (lt rfl (s0))) ?_
  intro σ1 s0
  refine W.seq ?_
  refine W.seq ?_
  refine W.region ?_
  refine WL.x (X.mv (s0)) rfl ?_
  refine WL.x (X.lss (lh) lc) rfl ?_
  refine WL.x (X.mv (lh)) rfl ?_
  refine WL.splitp (lh) (fun q1 => ?_) (fun q1 => ?_)
  · refine WL.no rfl rfl (lh) (decide_eq_true q1) rfl ?_
    refine WL.no rfl rfl (lt rfl (lh)) (decide_eq_true q1) rfl ?_
    refine WL.x (X.pickT (lt rfl (lt rfl (lh))) (decide_eq_true q1) lc) rfl ?_
    refine WL.e2 Nx.thn 0 13 (lt rfl (lt rfl (lt rfl (lt rfl (lt rfl (lt rfl (s0))))))) (lh) ?_
    intro σ2 s0 s13
    refine W.cndT s13 ?_
    refine W.seq ?_
    refine W.region ?_
    refine WL.x (X.asg lc) rfl ?_
    refine WL.x (X.asg lc) rfl ?_
    refine WL.e2 Nx.thn 2 3 (lt rfl (lh)) (lh) ?_
    intro σ3 s2 s3
    refine W.ret2 (Nx.rthn Nx.f2) s2 s3 ?_
    exact ⟨Ch.refl _ _, by rw [if_neg (by omega)]⟩
  · refine WL.yes rfl rfl (lh) (decide_eq_false q1) ?_
    refine WL.x (X.mv (lt rfl (lt rfl (lt rfl (s0))))) rfl ?_
    refine WL.yes rfl rfl (lt rfl (lh)) (decide_eq_false q1) ?_
    refine WL.x (X.gtr (lh) lc) rfl ?_
    refine WL.x (X.pickF (lt rfl (lt rfl (lh))) (decide_eq_false q1) (lh)) rfl ?_
    refine WL.e2 Nx.thn 0 13 (lt rfl (lt rfl (lt rfl (lt rfl (lt rfl (lt rfl (s0))))))) (lh) ?_
    intro σ4 s0 s13
    refine W.cndp s13 (fun q2 => ?_) (fun q2 => ?_)
    · refine W.seq ?_
      refine W.region ?_
      refine WL.x (X.asg lc) rfl ?_
      refine WL.x (X.asg lc) rfl ?_
      refine WL.e2 Nx.thn 2 3 (lt rfl (lh)) (lh) ?_
      intro σ5 s2 s3
      refine W.ret2 (Nx.rthn Nx.f2) s2 s3 ?_
      exact ⟨Ch.refl _ _, by rw [if_neg (by omega)]⟩
    · refine W.skip Nx.thn ?_
      refine W.seq ?_
      refine W.region ?_
      refine WL.x (X.mv (s0)) rfl ?_
      refine WL.x (X.build2 bdw81 (pcons (lh) (pcons lc pnil)) rfl (rfl : _ = [_, _, _, _, _, _])) rfl ?_
      refine WL.box (lh) rfl ?_
      intro w1 u3_2; have hu3_2 := u3_2.at_; have cu3_2 := u3_2.ch; have zu3_2 := u3_2.size
      refine WL.x (X.asg (lh)) rfl ?_
      refine WL.e2 Nx.thn 0 4 (lt rfl (lt rfl (lt rfl (lt rfl (s0))))) (lh) ?_
      intro σ6 s0 s4
      refine W.seq ?_
      refine W.seq ?_
      refine W.region ?_
      refine WL.x (X.mv lc) rfl ?_
      refine WL.e3 Nx.thn 0 4 17 (lt rfl (s0)) (lt rfl (s4)) (lh) ?_
      intro σ7 s0 s4 s17
      refine W.block ?_
      have qo1 := s0
      have qo2 := s4
      -- loop 0: kept [0, 4], varied [17]
      refine W.loop (G := Nat) (fun i σ' w' => (σ' 0 = σ7 0 ∧ σ' 4 = σ7 4 ∧ True) ∧ (∃ bss vs, σ' 17 = .int .i64 (i : Int) ∧ i ≤ 4 ∧ FamK w' w.heap.size n.toNat 4 bss vs (fun _ _ _ => false) ∧ (∀ f, f < 4 → (bss f).length = if f < i then n.toNat else 0) ∧ w'.heap[w.heap.size]? = some (.cells #[.int .i64 n, vs 0, vs 1, vs 2, vs 3, .bool true] 81 (0, 0)) ∧ Ch0 w w')) (fun i => 4 - i) (0) ⟨⟨rfl, rfl, trivial⟩, fun _ => [], fun _ => .slice none 0 0, s17, by omega, ⟨fun f _ => ⟨fam_nil, QRow.nil⟩, (fun f g _ _ _ b hb => by cases hb), fun f g _ _ _ k hk => hk.elim⟩, fun f _ => by simp, hu3_2, cu3_2⟩ ?_
      rintro i σ8 w2 ⟨⟨f0, f4, _⟩, bss, vs, s17, hi, htw, hbl, hod, hcl⟩
      have s0 := f0.trans qo1
      have s4 := f4.trans qo2
      have hzc := hcl.size
      have hzo := lt_of_blk hod
      refine W.seq ?_
      refine W.region ?_
      refine WL.x (X.lss (s17) lc) rfl ?_
      refine WL.e4 Nx.thn 0 4 17 18 (lt rfl (s0)) (lt rfl (s4)) (lt rfl (s17)) (lh) ?_
      intro σ9 s0 s4 s17 s18
      refine W.seq ?_
      refine W.cndp s18 (fun hlt => ?_) (fun hlt => ?_)
      · refine W.skip Nx.thn ?_
        refine W.seq ?_
        refine W.block ?_
        refine W.seq ?_
        refine W.region ?_
        refine WL.x (X.mv (s17)) rfl ?_
        refine WL.x (X.asg (lh)) rfl ?_
        refine WL.e4 Nx.thn 0 4 5 17 (lt rfl (lt rfl (s0))) (lt rfl (lt rfl (s4))) (lh) (lt rfl (lt rfl (s17))) ?_
        intro σ10 s0 s4 s5 s17
        refine W.seq ?_
        refine W.region ?_
        refine WL.x (X.mv (s0)) rfl ?_
        refine WL.x (X.mv lc) rfl ?_
        refine WL.e6 Nx.thn 0 4 5 17 20 21 (lt rfl (lt rfl (s0))) (lt rfl (lt rfl (s4))) (lt rfl (lt rfl (s5))) (lt rfl (lt rfl (s17))) (lt rfl (lh)) (lh) ?_
        intro σ11 s0 s4 s5 s17 s20 s21
        refine W.block ?_
        have qo3 := s0
        have qo4 := s4
        have qo5 := s5
        have qo6 := s17
        have qo7 := s20
        -- loop 1: kept [0, 4, 5, 17, 20], varied [21]
        refine W.loop (G := Nat) (fun q σ' w' => (σ' 0 = σ11 0 ∧ σ' 4 = σ11 4 ∧ σ' 5 = σ11 5 ∧ σ' 17 = σ11 17 ∧ σ' 20 = σ11 20 ∧ True) ∧ (∃ bss vs, σ' 21 = .int .i64 (q : Int) ∧ q ≤ n.toNat ∧ FamK w' w.heap.size n.toNat 4 bss vs (fun _ _ _ => false) ∧ (∀ f, f < 4 → (bss f).length = if f < i then n.toNat else if f = i then q else 0) ∧ w'.heap[w.heap.size]? = some (.cells #[.int .i64 n, vs 0, vs 1, vs 2, vs 3, .bool true] 81 (0, 0)) ∧ Ch0 w w')) (fun q => n.toNat - q) (0) ⟨⟨rfl, rfl, rfl, rfl, rfl, trivial⟩, bss, vs, s21, by omega, htw, fun f hf => by rw [hbl f hf]; simp, hod, hcl⟩ ?_
        rintro q σ12 w3 ⟨⟨f0, f4, f5, f17, f20, _⟩, bss2, vs2, s21, hq, htw2, hbl2, hod2, hcl2⟩
        have s0 := f0.trans qo3
        have s4 := f4.trans qo4
        have s5 := f5.trans qo5
        have s17 := f17.trans qo6
        have s20 := f20.trans qo7
        have hzc2 := hcl2.size
        have hzo2 := lt_of_blk hod2
        refine W.seq ?_
        refine W.region ?_
        refine WL.x (X.lss (s21) (s20)) rfl ?_
        refine WL.e7 Nx.thn 0 4 5 17 20 21 22 (lt rfl (s0)) (lt rfl (s4)) (lt rfl (s5)) (lt rfl (s17)) (lt rfl (s20)) (lt rfl (s21)) (lh) ?_
        intro σ13 s0 s4 s5 s17 s20 s21 s22
        refine W.seq ?_
        refine W.cndp s22 (fun hlt2 => ?_) (fun hlt2 => ?_)
        · skip
          refine W.skip Nx.thn ?_
          refine W.seq ?_
          refine W.block ?_
          refine W.seq ?_
          refine W.region ?_
          refine WL.x (X.mv (s0)) rfl ?_
          refine WL.call1 ce30 (lh) (new_ok n w3) rfl ?_
          rintro v9 w4 ⟨kN, hv⟩
          rw [if_pos ⟨by omega, by omega⟩] at hv
          obtain ⟨b, wb, rfl, hset, hb1, hb2⟩ := hv
          have hzN := kN.size
          have htwN := htw2.ch0 kN
          have hodN := kN.at0 hod2
          obtain ⟨va, vc, hvk⟩ := q_len (htw2.r i (by omega)).sl
          have hlq : (bss2 i).length = q := by rw [hbl2 i (by omega), if_neg (by omega), if_pos rfl]
          have hfr : ∀ f, f < 4 → ∀ c ∈ bss2 f, c.2 ≠ wb := fun f hf c hc => by have := (htw2.len hf hc).2; omega
          refine WL.x (X.mv (lh)) rfl ?_
          refine WL.x (X.ex2_0 (lh)) rfl ?_
          refine WL.x (X.ex2_1 (lt rfl (lh))) rfl ?_
          refine WL.x (X.asg (lt rfl (lh))) rfl ?_
          refine WL.x (X.asg (lt rfl (lh))) rfl ?_
          refine WL.e8 Nx.thn 0 4 5 6 7 17 20 21 (lt rfl (lt rfl (lt rfl (lt rfl (lt rfl (lt rfl (lt rfl (s0)))))))) (lt rfl (lt rfl (lt rfl (lt rfl (lt rfl (lt rfl (lt rfl (s4)))))))) (lt rfl (lt rfl (lt rfl (lt rfl (lt rfl (lt rfl (lt rfl (s5)))))))) (lt rfl (lh)) (lh) (lt rfl (lt rfl (lt rfl (lt rfl (lt rfl (lt rfl (lt rfl (s17)))))))) (lt rfl (lt rfl (lt rfl (lt rfl (lt rfl (lt rfl (lt rfl (s20)))))))) (lt rfl (lt rfl (lt rfl (lt rfl (lt rfl (lt rfl (lt rfl (s21)))))))) ?_
          intro σ14 s0 s4 s5 s6 s7 s17 s20 s21
          refine W.seq ?_
          refine W.seq ?_
          refine W.region ?_
          refine WL.x (X.mv (s7)) rfl ?_
          refine WL.x (X.neq (lh) lc) rfl ?_
          refine WL.e9 Nx.thn 0 4 5 6 7 17 20 21 29 (lt rfl (lt rfl (s0))) (lt rfl (lt rfl (s4))) (lt rfl (lt rfl (s5))) (lt rfl (lt rfl (s6))) (lt rfl (lt rfl (s7))) (lt rfl (lt rfl (s17))) (lt rfl (lt rfl (s20))) (lt rfl (lt rfl (s21))) (lh) ?_
          intro σ15 s0 s4 s5 s6 s7 s17 s20 s21 s29
          refine W.cndN s29 (fun h => h rfl) ?_
          refine W.skip Nx.thn ?_
          refine W.held (fun w' => Ch (fun j => w.heap.size ≤ j) w4 w') mo ?_
          intro w5 qhh8 qc9
          have hS : Ch (fun j => w.heap.size ≤ j) w4 w5 := Ch.weak qc9
          have hzqc9 := qc9.size
          have cdh12 := qc9
          refine WH.take 0 rfl (by kernel_rfl) (by kernel_rfl) (by kernel_rfl) (fun _ _ _ h => h) Gd.none rfl (fun w' hS' => X.mv (s4)) hS ?_
          refine WH.take 1 rfl (by kernel_rfl) (by kernel_rfl) (by kernel_rfl) (fun _ _ _ h => h) Gd.none rfl (fun w' hS' => X.mv (lt rfl (s5))) hS ?_
          refine WH.take 2 rfl (by kernel_rfl) (by kernel_rfl) (by kernel_rfl) (fun _ _ _ h => h) Gd.none rfl (fun w' hS' => X.mv (lt rfl (lt rfl (s4)))) hS ?_
          refine WH.take 3 rfl (by kernel_rfl) (by kernel_rfl) (by kernel_rfl) (fun _ _ _ h => h) Gd.none rfl (fun w' hS' => X.mv (lt rfl (lt rfl (lt rfl (s5))))) hS ?_
          refine WH.take 4 rfl (by kernel_rfl) (by kernel_rfl) (by kernel_rfl) (fun _ _ _ h => h) Gd.none rfl (fun w' hS' => X.nilck (lt rfl (lh))) hS ?_
          refine WH.take 5 rfl (by kernel_rfl) (by kernel_rfl) (by kernel_rfl) (fun _ _ _ h => h) Gd.none rfl (fun w' hS' => X.fieldAddr fd81_1 (lh)) hS ?_
          refine WH.take 6 rfl (by kernel_rfl) (by kernel_rfl) (by kernel_rfl) (fun _ _ _ h => h) Gd.none rfl (fun w' hS' => X.indexAddrA Tryd.underlying79 el78 (lh) (lt rfl (lt rfl (lh))) (by omega) (by omega)) hS ?_
          refine WH.take 8 rfl (by kernel_rfl) (by kernel_rfl) (by kernel_rfl) (fun _ _ _ h => h) Gd.none rfl (fun w' hS' => X.mv (lt rfl (lt rfl (lt rfl (lt rfl (lt rfl (lt rfl (lt rfl (s6))))))))) hS ?_
          refine WH.take 11 rfl (by kernel_rfl) (by kernel_rfl) (by kernel_rfl) (fun _ _ _ h => h) Gd.none rfl (fun w' hS' => X.nilck (lt rfl (lt rfl (lt rfl (lt rfl (lt rfl (lt rfl (lt rfl (lh))))))))) hS ?_
          refine WH.take 12 rfl (by kernel_rfl) (by kernel_rfl) (by kernel_rfl) (fun _ _ _ h => h) Gd.none rfl (fun w' hS' => X.fieldAddr fd81_1 (lh)) hS ?_
          refine WH.two 7 9 rfl rfl (by kernel_rfl) (fun _ _ h => h) ?_ ?_
          · refine WL.x (X.load pl78 (lt rfl (lt rfl (lt rfl (lh)))) (by first | exact cdh12.at0 hodN | exact cu12_9.at0 (cdh12.at0 hodN)) (v := vs2 i) (by rw [show 0 + 1 + (i : Int).toNat * 1 = i + 1 by omega, vs_at (by omega)])) rfl ?_
            refine WL.nil Nx.thn ⟨hS, ?_⟩
            refine WH.one 9 rfl (by kernel_rfl) (fun _ _ h => h) ?_
            refine WL.bslice Tryd.underlying78 el30 rfl (pcons (lt rfl (lt rfl (lt rfl (lh)))) pnil) rfl (rfl : _ = [_]) rfl ?_
            intro w6 u12_9; have hu12_9 := u12_9.at_; have cu12_9 := u12_9.ch; have zu12_9 := u12_9.size
            have htwB := (htwN.ch0 cdh12).ch0 cu12_9
            have hS := hS.trans cu12_9 (fun _ _ => id) (by intro i hi hg; first | exact hg | exact False.elim hg | omega | ((try dsimp only at hg ⊢); omega))
            refine WL.nil Nx.thn ⟨hS, ?_⟩
            refine WH.one 10 rfl (by kernel_rfl) (fun _ _ h => h) ?_
            refine WL.pushQ Tryd.underlying78 el30 rfl (lt rfl (lh)) (lh) ((htwB.r i (by omega)).sl) (by first | assumption | exact hS.at (by assumption) (by intro hne; first | exact hne | ((try dsimp only at hne); omega)) | exact hS.at (kN.at0 (by assumption)) (by intro hne; first | exact hne | ((try dsimp only at hne); omega)) | exact hS.at (kN.at0 (hcl.at0 (by assumption))) (by intro hne; first | exact hne | ((try dsimp only at hne); omega)) | exact hS.at (kN.at0 (hcl.at0 (cu3_2.at0 (by assumption)))) (by intro hne; first | exact hne | ((try dsimp only at hne); omega))) rfl (by rw [List.length_map]; unfold maxLen; omega) (by rw [List.length_map]; omega) (by have := cu12_9.size; have := cdh12.size; omega) rfl ?_
            intro va12_10 w7 ho12_10 ca12_10 hb12_10
            have hodC : w7.heap[w.heap.size]? = some (.cells #[.int .i64 n, vs2 0, vs2 1, vs2 2, vs2 3, .bool true] 81 (0, 0)) := ca12_10.at (cu12_9.at0 (cdh12.at0 hodN)) (fun hk => ty_ne ((htwB.r i (by omega)).sl.ty hk) ⟨_, cu12_9.at0 (cdh12.at0 hodN)⟩ (by decide) rfl)
            have hoQ := ho12_10
            obtain ⟨a1, c1, e9⟩ := ho12_10.len
            rw [List.length_append, List.length_map] at e9
            subst e9
            have htwP := htwB.push (show i < 4 by omega) (b := (b, wb)) ⟨_, (hset.ch0 cdh12).ch0 cu12_9, fun j => mem_replicate _ j⟩ hfr ⟨by omega, by omega⟩ hoQ ca12_10 hb12_10
            have hS := hS.trans ca12_10 (fun _ _ => id) (fun i9 hi9 hg9 => ((htwB.r i (by omega)).sl.lt hg9).1)
            refine WL.nil Nx.thn ⟨hS, ?_⟩
            refine WH.take 13 rfl (by kernel_rfl) (by kernel_rfl) (by kernel_rfl) (fun _ _ _ h => h) Gd.none rfl (fun w' hS' => X.indexAddrA Tryd.underlying79 el78 (lt rfl (lt rfl (lt rfl (lh)))) (lt rfl (lt rfl (lt rfl (lt rfl (lt rfl (lt rfl (lt rfl (lt rfl (lt rfl (lt rfl (lt rfl (lh)))))))))))) (by omega) (by omega)) hS ?_
            refine WH.one 14 rfl (by kernel_rfl) (fun _ _ h => h) ?_
            refine WL.store el78 (lh) (lt rfl (lh)) rfl hodC (by simp; omega) ?_
            intro w8 us; have cst := us.ch
            have hodX := us.at_
            rw [show 0 + 1 + (i : Int).toNat * 1 = i + 1 by omega, vs_set (by omega)] at hodX
            have htwX := htwP.store ⟨_, hodC⟩ cst
            have hS := hS.trans cst (fun _ _ => id) (fun i9 hi9 hg9 => by rw [show i9 = w.heap.size from hg9]; exact Nat.le_refl _)
            refine WL.nil Nx.thn ⟨hS, ?_⟩
            refine WH.done (by kernel_rfl) ?_
            refine WL.e6 (Nx.blk Nx.thn) 0 4 5 17 20 21 (lt rfl (lt rfl (lt rfl (lt rfl (lt rfl (lt rfl (lt rfl (lt rfl (lt rfl (lt rfl (lt rfl (lt rfl (lt rfl (lt rfl (s0))))))))))))))) (lt rfl (lt rfl (lt rfl (lt rfl (lt rfl (lt rfl (lt rfl (lt rfl (lt rfl (lt rfl (lt rfl (lt rfl (lt rfl (lt rfl (s4))))))))))))))) (lt rfl (lt rfl (lt rfl (lt rfl (lt rfl (lt rfl (lt rfl (lt rfl (lt rfl (lt rfl (lt rfl (lt rfl (lt rfl (lt rfl (s5))))))))))))))) (lt rfl (lt rfl (lt rfl (lt rfl (lt rfl (lt rfl (lt rfl (lt rfl (lt rfl (lt rfl (lt rfl (lt rfl (lt rfl (lt rfl (s17))))))))))))))) (lt rfl (lt rfl (lt rfl (lt rfl (lt rfl (lt rfl (lt rfl (lt rfl (lt rfl (lt rfl (lt rfl (lt rfl (lt rfl (lt rfl (s20))))))))))))))) (lt rfl (lt rfl (lt rfl (lt rfl (lt rfl (lt rfl (lt rfl (lt rfl (lt rfl (lt rfl (lt rfl (lt rfl (lt rfl (lt rfl (s21))))))))))))))) ?_
            intro σ16 s0 s4 s5 s17 s20 s21
            refine W.region ?_
            first | refine WL.x (X.add (s21) lc (by omega) (by omega)) rfl ?_ | refine WL.x (X.addw (s21) lc) rfl ?_
            refine WL.x (X.mv (lh)) rfl ?_
            refine WL.e6 Nx.thn 0 4 5 17 20 21 (lt rfl (lt rfl (s0))) (lt rfl (lt rfl (s4))) (lt rfl (lt rfl (s5))) (lt rfl (lt rfl (s17))) (lt rfl (lt rfl (s20))) (lh) ?_
            intro σ17 s0 s4 s5 s17 s20 s21
            have hblN : ∀ f, f < 4 → (if f = i then bss2 f ++ [(b, wb)] else bss2 f).length = if f < i then n.toNat else if f = i then q + 1 else 0 := fun f hf => by
              have := hbl2 f hf
              by_cases e : f = i
              · subst e
                rw [if_pos rfl, if_neg (by omega), if_pos rfl, List.length_append, hlq]; rfl
              · rw [if_neg e, this, if_neg e]; by_cases e2 : f < i <;> simp [e2, e]
            have hclN := (hcl2.trans0 kN).trans hS (H := fun _ => False) (fun _ _ e => e) (fun i9 hi9 e => by have := e; (try dsimp only at this); omega)
            refine ⟨q + 1, by first | omega | (dsimp only; omega), ⟨s0.trans qo3.symm, s4.trans qo4.symm, s5.trans qo5.symm, s17.trans qo6.symm, s20.trans qo7.symm, trivial⟩, _, _, s21, by omega, htwX, hblN, hodX, hclN⟩
          · refine WL.bslice Tryd.underlying78 el30 rfl (pcons (lt rfl (lt rfl (lh))) pnil) rfl (rfl : _ = [_]) rfl ?_
            intro w9 u12_9; have hu12_9 := u12_9.at_; have cu12_9 := u12_9.ch; have zu12_9 := u12_9.size
            have htwB := (htwN.ch0 cdh12).ch0 cu12_9
            have hS := hS.trans cu12_9 (fun _ _ => id) (by intro i hi hg; first | exact hg | exact False.elim hg | omega | ((try dsimp only at hg ⊢); omega))
            refine WL.nil Nx.thn ⟨hS, ?_⟩
            refine WH.one 7 rfl (by kernel_rfl) (fun _ _ h => h) ?_
            refine WL.x (X.load pl78 (lt rfl (lt rfl (lt rfl (lt rfl (lh))))) (by first | exact cdh12.at0 hodN | exact cu12_9.at0 (cdh12.at0 hodN)) (v := vs2 i) (by rw [show 0 + 1 + (i : Int).toNat * 1 = i + 1 by omega, vs_at (by omega)])) rfl ?_
            refine WL.nil Nx.thn ⟨hS, ?_⟩
            refine WH.one 10 rfl (by kernel_rfl) (fun _ _ h => h) ?_
            refine WL.pushQ Tryd.underlying78 el30 rfl (lh) (lt rfl (lh)) ((htwB.r i (by omega)).sl) (by first | assumption | exact hS.at (by assumption) (by intro hne; first | exact hne | ((try dsimp only at hne); omega)) | exact hS.at (kN.at0 (by assumption)) (by intro hne; first | exact hne | ((try dsimp only at hne); omega)) | exact hS.at (kN.at0 (hcl.at0 (by assumption))) (by intro hne; first | exact hne | ((try dsimp only at hne); omega)) | exact hS.at (kN.at0 (hcl.at0 (cu3_2.at0 (by assumption)))) (by intro hne; first | exact hne | ((try dsimp only at hne); omega))) rfl (by rw [List.length_map]; unfold maxLen; omega) (by rw [List.length_map]; omega) (by have := cu12_9.size; have := cdh12.size; omega) rfl ?_
            intro va12_10 w10 ho12_10 ca12_10 hb12_10
            have hodC : w10.heap[w.heap.size]? = some (.cells #[.int .i64 n, vs2 0, vs2 1, vs2 2, vs2 3, .bool true] 81 (0, 0)) := ca12_10.at (cu12_9.at0 (cdh12.at0 hodN)) (fun hk => ty_ne ((htwB.r i (by omega)).sl.ty hk) ⟨_, cu12_9.at0 (cdh12.at0 hodN)⟩ (by decide) rfl)
            have hoQ := ho12_10
            obtain ⟨a1, c1, e9⟩ := ho12_10.len
            rw [List.length_append, List.length_map] at e9
            subst e9
            have htwP := htwB.push (show i < 4 by omega) (b := (b, wb)) ⟨_, (hset.ch0 cdh12).ch0 cu12_9, fun j => mem_replicate _ j⟩ hfr ⟨by omega, by omega⟩ hoQ ca12_10 hb12_10
            have hS := hS.trans ca12_10 (fun _ _ => id) (fun i9 hi9 hg9 => ((htwB.r i (by omega)).sl.lt hg9).1)
            refine WL.nil Nx.thn ⟨hS, ?_⟩
            refine WH.take 13 rfl (by kernel_rfl) (by kernel_rfl) (by kernel_rfl) (fun _ _ _ h => h) Gd.none rfl (fun w' hS' => X.indexAddrA Tryd.underlying79 el78 (lt rfl (lt rfl (lt rfl (lh)))) (lt rfl (lt rfl (lt rfl (lt rfl (lt rfl (lt rfl (lt rfl (lt rfl (lt rfl (lt rfl (lt rfl (lh)))))))))))) (by omega) (by omega)) hS ?_
            refine WH.one 14 rfl (by kernel_rfl) (fun _ _ h => h) ?_
            refine WL.store el78 (lh) (lt rfl (lh)) rfl hodC (by simp; omega) ?_
            intro w11 us; have cst := us.ch
            have hodX := us.at_
            rw [show 0 + 1 + (i : Int).toNat * 1 = i + 1 by omega, vs_set (by omega)] at hodX
            have htwX := htwP.store ⟨_, hodC⟩ cst
            have hS := hS.trans cst (fun _ _ => id) (fun i9 hi9 hg9 => by rw [show i9 = w.heap.size from hg9]; exact Nat.le_refl _)
            refine WL.nil Nx.thn ⟨hS, ?_⟩
            refine WH.done (by kernel_rfl) ?_
            refine WL.e6 (Nx.blk Nx.thn) 0 4 5 17 20 21 (lt rfl (lt rfl (lt rfl (lt rfl (lt rfl (lt rfl (lt rfl (lt rfl (lt rfl (lt rfl (lt rfl (lt rfl (lt rfl (lt rfl (s0))))))))))))))) (lt rfl (lt rfl (lt rfl (lt rfl (lt rfl (lt rfl (lt rfl (lt rfl (lt rfl (lt rfl (lt rfl (lt rfl (lt rfl (lt rfl (s4))))))))))))))) (lt rfl (lt rfl (lt rfl (lt rfl (lt rfl (lt rfl (lt rfl (lt rfl (lt rfl (lt rfl (lt rfl (lt rfl (lt rfl (lt rfl (s5))))))))))))))) (lt rfl (lt rfl (lt rfl (lt rfl (lt rfl (lt rfl (lt rfl (lt rfl (lt rfl (lt rfl (lt rfl (lt rfl (lt rfl (lt rfl (s17))))))))))))))) (lt rfl (lt rfl (lt rfl (lt rfl (lt rfl (lt rfl (lt rfl (lt rfl (lt rfl (lt rfl (lt rfl (lt rfl (lt rfl (lt rfl (s20))))))))))))))) (lt rfl (lt rfl (lt rfl (lt rfl (lt rfl (lt rfl (lt rfl (lt rfl (lt rfl (lt rfl (lt rfl (lt rfl (lt rfl (lt rfl (s21))))))))))))))) ?_
            intro σ18 s0 s4 s5 s17 s20 s21
            refine W.region ?_
            first | refine WL.x (X.add (s21) lc (by omega) (by omega)) rfl ?_ | refine WL.x (X.addw (s21) lc) rfl ?_
            refine WL.x (X.mv (lh)) rfl ?_
            refine WL.e6 Nx.thn 0 4 5 17 20 21 (lt rfl (lt rfl (s0))) (lt rfl (lt rfl (s4))) (lt rfl (lt rfl (s5))) (lt rfl (lt rfl (s17))) (lt rfl (lt rfl (s20))) (lh) ?_
            intro σ19 s0 s4 s5 s17 s20 s21
            have hblN : ∀ f, f < 4 → (if f = i then bss2 f ++ [(b, wb)] else bss2 f).length = if f < i then n.toNat else if f = i then q + 1 else 0 := fun f hf => by
              have := hbl2 f hf
              by_cases e : f = i
              · subst e
                rw [if_pos rfl, if_neg (by omega), if_pos rfl, List.length_append, hlq]; rfl
              · rw [if_neg e, this, if_neg e]; by_cases e2 : f < i <;> simp [e2, e]
            have hclN := (hcl2.trans0 kN).trans hS (H := fun _ => False) (fun _ _ e => e) (fun i9 hi9 e => by have := e; (try dsimp only at this); omega)
            refine ⟨q + 1, by first | omega | (dsimp only; omega), ⟨s0.trans qo3.symm, s4.trans qo4.symm, s5.trans qo5.symm, s17.trans qo6.symm, s20.trans qo7.symm, trivial⟩, _, _, s21, by omega, htwX, hblN, hodX, hclN⟩
        · refine W.exit (Nx.xthn (Nx.xthn (Nx.xblk (Nx.blk Nx.thn)))) ?_
          refine W.region ?_
          first | refine WL.x (X.add (s17) lc (by omega) (by omega)) rfl ?_ | refine WL.x (X.addw (s17) lc) rfl ?_
          refine WL.x (X.mv (lh)) rfl ?_
          refine WL.e3 Nx.thn 0 4 17 (lt rfl (lt rfl (s0))) (lt rfl (lt rfl (s4))) (lh) ?_
          intro σ20 s0 s4 s17
          refine ⟨i + 1, by first | omega | (dsimp only; omega), ⟨s0.trans qo1.symm, s4.trans qo2.symm, trivial⟩, bss2, vs2, s17, by omega, htw2, fun f hf => by rw [hbl2 f hf]; by_cases e : f < i; (· rw [if_pos e, if_pos (by omega)]); (· rw [if_neg e]; by_cases e2 : f = i; (· rw [if_pos e2, if_pos (by omega)]; omega); (· rw [if_neg e2, if_neg (by omega)])), hod2, hcl2⟩
      · refine W.exit (Nx.xthn (Nx.xthn (Nx.xblk Nx.thn))) ?_
        refine W.seq ?_
        refine W.region ?_
        refine WL.x (X.mv (s4)) rfl ?_
        refine WL.x (X.asg (lh)) rfl ?_
        refine WL.x (X.asg lc) rfl ?_
        refine WL.e2 Nx.thn 2 3 (lt rfl (lh)) (lh) ?_
        intro σ21 s2 s3
        refine W.ret2 Nx.f2 s2 s3 ?_
        have hke : i = 4 := by omega
        subst hke
        refine ⟨hcl, ?_⟩
        rw [if_pos ⟨by omega, by omega⟩]
        exact ⟨_, rfl, ⟨bss, vs, htw.eq (fun f i j _ _ => by simp [bitM]), fun f hf => by rw [hbl f hf, if_pos hf], by rw [show ((n.toNat : Nat) : Int) = n by omega]; exact hod⟩, Nat.le_refl _, by omega, LbOk.zero _⟩

abbrev Ged := Int × Int × Int
def fed (x : Ged) : List Value := [.int .i64 (x.1), .int .i64 (x.2.1), .int .i64 (x.2.2)]
theorem fed_len : ∀ x, (fed x).length = 3 := fun _ => rfl
theorem fed_one : ∀ x, ∀ u ∈ fed x, u.oneCell' = true := fun x u hu => by
  unfold fed at hu
  simp only [List.mem_cons, List.not_mem_nil, or_false] at hu
  rcases hu with rfl | rfl | rfl <;> rfl
theorem cmp_ed (x y : Ged) : ∃ fs, Tryd.prog.underlying 58 = some (.struct fs) ∧ CmpAll Tryd.prog #[.int .i64 (x.1), .int .i64 (x.2.1), .int .i64 (x.2.2)] #[.int .i64 (y.1), .int .i64 (y.2.1), .int .i64 (y.2.2)] fs.toList [decide (x.1 = y.1), decide (x.2.1 = y.2.1), decide (x.2.2 = y.2.2)] := ⟨_, Tryd.underlying58, ⟨by decide, ⟨_, _, rfl, rfl, .inl ⟨_, _, _, Tryd.underlying3, rfl, rfl, rfl⟩⟩, ⟨by decide, ⟨_, _, rfl, rfl, .inl ⟨_, _, _, Tryd.underlying3, rfl, rfl, rfl⟩⟩, ⟨by decide, ⟨_, _, rfl, rfl, .inl ⟨_, _, _, Tryd.underlying3, rfl, rfl, rfl⟩⟩, trivial⟩⟩⟩⟩
theorem cmpv_ed (x y : Ged) : (!(([decide (x.1 = y.1), decide (x.2.1 = y.2.1), decide (x.2.2 = y.2.2)] : List Bool).all id)) = decide (x ≠ y) := by
  rw [Bool.eq_iff_iff]
  simp [Prod.ext_iff]
theorem hp_ed : Tryd.prog.stoodInHeld 58 = false := by kernel_rfl
theorem hg_ed : Tryd.prog.eqGuardType Tryd.prog.depth 58 = false := by kernel_rfl


def rowE (n : Nat) (Lb : Nat → Nat → Nat) (a : Nat) : List Nat := (List.range n).filter fun b => decide (Lb a b ≠ 0)
/-- The edges out of the first k nodes, in order. -/
def edL (n : Nat) (Lb : Nat → Nat → Nat) (k : Nat) : List GE := (List.range k).flatMap fun a => (rowE n Lb a).map fun (b : Nat) => ((a : Int), (b : Int), (Lb a b : Int))
theorem rowE_len (n : Nat) (Lb : Nat → Nat → Nat) (a : Nat) : (rowE n Lb a).length ≤ n := Nat.le_trans (List.length_filter_le _ _) (by simp)
theorem and15 : ∀ {L : Nat}, L < 16 → L &&& ofm 15 = L := by decide
theorem rowE_elv {n : Nat} {Lb : Nat → Nat → Nat} (h : LbOk n Lb) (a : Nat) : elv (outP Lb (a : Int) 15) n = (rowE n Lb a).map fun (j : Nat) => Value.int .i64 (j : Int) := by
  unfold elv rowE
  congr 1
  refine List.filter_congr fun b _ => ?_
  unfold outP lbv
  rw [if_pos ⟨by omega, by omega⟩]
  rw [show ((a : Nat) : Int).toNat = a by omega, show ((b : Nat) : Int).toNat = b by omega, and15 (h.lt a b)]
theorem edL_succ (n : Nat) (Lb : Nat → Nat → Nat) (k : Nat) : edL n Lb (k + 1) = edL n Lb k ++ (rowE n Lb k).map fun (b : Nat) => ((k : Int), (b : Int), (Lb k b : Int)) := by
  unfold edL; rw [List.range_succ, List.flatMap_append]; simp
theorem edL_len {n : Nat} (hn : n ≤ 300) (Lb : Nat → Nat → Nat) (k : Nat) : (edL n Lb k).length ≤ 300 * k := by
  induction k with
  | zero => simp [edL]
  | succ k ih => rw [edL_succ, List.length_append, List.length_map]; have := rowE_len n Lb k; omega
theorem ed_next {n : Nat} {Lb : Nat → Nat → Nat} {k j : Nat} (hj : j < (rowE n Lb k).length) {P : List GE} :
    (P ++ ((rowE n Lb k).take j).map fun (b : Nat) => ((k : Int), (b : Int), (Lb k b : Int))) ++ [((k : Int), (((rowE n Lb k)[j] : Nat) : Int), (Lb k (rowE n Lb k)[j] : Int))] = P ++ ((rowE n Lb k).take (j + 1)).map fun (b : Nat) => ((k : Int), (b : Int), (Lb k b : Int)) := by
  rw [List.take_succ_eq_append_getElem hj, List.map_append, List.append_assoc]; rfl
def foldE (n : Nat) (l : List GE) : Nat → Nat → Nat := l.foldl (addE n) (fun _ _ => 0)
theorem foldE_snoc (n : Nat) (l : List GE) (e : GE) : foldE n (l ++ [e]) = addE n (foldE n l) e := by unfold foldE; rw [List.foldl_append]; rfl
theorem foldE_take {n : Nat} {l : List GE} {k : Nat} (hk : k < l.length) : foldE n (l.take (k + 1)) = addE n (foldE n (l.take k)) l[k] := by rw [List.take_succ_eq_append_getElem hk, foldE_snoc]
theorem foldE_ok (n : Nat) (l : List GE) : LbOk n (foldE n l) := by
  unfold foldE
  suffices ∀ Lb, LbOk n Lb → LbOk n (l.foldl (addE n) Lb) from this _ (LbOk.zero n)
  induction l with
  | nil => exact fun _ h => h
  | cons e r ih => exact fun Lb h => ih _ (h.add e)
def trT (e : GE) : GE := (e.2.1, e.1, e.2.2)
def trO (o : Int) (e : GE) : GE := (e.1, e.2.1, bitop .and .i64 e.2.2 o)

set_option maxHeartbeats 800000 in
theorem gedges_ok (base g n : Nat) (Lb : Nat → Nat → Nat) (w : World) (h : IsG w base g n Lb) (htab : Tab w) (hb0 : 0 < w.heap.size) :
    Sg.Ret Tryd.prog 44 #[.pointer (some ⟨g, 0, none⟩)] w fun v w' => OwnF 3 fed w' w.heap.size 58 v (edL n Lb n) ∧ Ch0 w w' := by
  obtain ⟨bss, vs, hfk, hbl, hd⟩ := h.ex
  have hle := h.le
  have hok := h.ok
  refine enter1 (n := 33) (l := [.pointer (some ⟨g, 0, none⟩)]) Tryd.func44 rfl rfl rfl rfl ?_
  refine W.g1 0 (v1 := .pointer (some ⟨g, 0, none⟩)) rfl ?_; intro σ s0
  refine W.seq ?_
  refine W.region ?_
  refine WL.x (X.asg lc) rfl ?_
  refine WL.e1 Nx.thn 0 (lt rfl (s0)) ?_
  intro σ1 s0
  refine W.seq ?_
  refine W.region ?_
  refine WL.x (X.asg lc) rfl ?_
  refine WL.e2 Nx.thn 0 3 (lt rfl (s0)) (lh) ?_
  intro σ2 s0 s3
  refine W.seq ?_
  refine W.seq ?_
  refine W.region ?_
  refine WL.x (X.mv (s0)) rfl ?_
  refine WL.call1 ce31 (lh) (gnodes_ok base g n Lb w h) rfl ?_
  rintro _ _ ⟨rfl, rfl⟩
  refine WL.x (X.mv lc) rfl ?_
  refine WL.e4 Nx.thn 0 3 8 9 (lt rfl (lt rfl (lt rfl (s0)))) (lt rfl (lt rfl (lt rfl (s3)))) (lt rfl (lh)) (lh) ?_
  intro σ3 s0 s3 s8 s9
  refine W.block ?_
  have qo1 := s0
  have qo2 := s8
  -- loop 0: kept [0, 8], varied [3, 9]
  refine W.loop (G := Nat) (fun k σ' w' => (σ' 0 = σ3 0 ∧ σ' 8 = σ3 8 ∧ True) ∧ (∃ lv, σ' 9 = .int .i64 (k : Int) ∧ k ≤ n ∧ σ' 3 = lv ∧ OwnF 3 fed w' w.heap.size 58 lv (edL n Lb k) ∧ Ch0 w w')) (fun k => n - k) (0) ⟨⟨rfl, rfl, trivial⟩, _, s9, by omega, s3, OwnF.nil, Ch.refl _ _⟩ ?_
  rintro k σ4 w1 ⟨⟨f0, f8, _⟩, lv, s9, hk, s3, hown, hcl⟩
  have s0 := f0.trans qo1
  have s8 := f8.trans qo2
  have hzc := hcl.size
  have hpl := edL_len hle Lb k
  have hrl := rowE_len n Lb k
  refine W.seq ?_
  refine W.region ?_
  refine WL.x (X.lss (s9) (s8)) rfl ?_
  refine WL.e5 Nx.thn 0 3 8 9 10 (lt rfl (s0)) (lt rfl (s3)) (lt rfl (s8)) (lt rfl (s9)) (lh) ?_
  intro σ5 s0 s3 s8 s9 s10
  refine W.seq ?_
  refine W.cndp s10 (fun hlt => ?_) (fun hlt => ?_)
  · refine W.skip Nx.thn ?_
    refine W.seq ?_
    refine W.block ?_
    refine W.seq ?_
    refine W.region ?_
    refine WL.x (X.mv (s9)) rfl ?_
    refine WL.x (X.asg (lh)) rfl ?_
    refine WL.e5 Nx.thn 0 3 4 8 9 (lt rfl (lt rfl (s0))) (lt rfl (lt rfl (s3))) (lh) (lt rfl (lt rfl (s8))) (lt rfl (lt rfl (s9))) ?_
    intro σ6 s0 s3 s4 s8 s9
    refine W.seq ?_
    refine W.region ?_
    refine WL.x (X.mv (s0)) rfl ?_
    refine WL.x (X.mv (lt rfl (s4))) rfl ?_
    refine WL.call3 ce39 (lt rfl (lh)) (lh) lc (gout_ok base g n Lb w1 (h.ch0 hcl) k 15 (htab.ch0 hcl) (by have := hcl.size; omega)) rfl ?_
    rintro v8 w2 ⟨hownL, cls⟩
    rw [rowE_elv hok] at hownL
    have hqr0 := (QRow.own hownL).base hcl.size
    obtain ⟨qa, qc, rfl⟩ : ∃ a c, v8 = .slice a (rowE n Lb k).length c := by
      obtain ⟨a, c, e⟩ := hqr0.len
      rw [List.length_map] at e
      exact ⟨a, c, e⟩
    refine WL.x (X.lenSl Tryd.underlying44 (lh)) rfl ?_
    refine WL.x (X.mv lc) rfl ?_
    refine WL.e8 Nx.thn 0 3 4 8 9 14 15 16 (lt rfl (lt rfl (lt rfl (lt rfl (lt rfl (s0)))))) (lt rfl (lt rfl (lt rfl (lt rfl (lt rfl (s3)))))) (lt rfl (lt rfl (lt rfl (lt rfl (lt rfl (s4)))))) (lt rfl (lt rfl (lt rfl (lt rfl (lt rfl (s8)))))) (lt rfl (lt rfl (lt rfl (lt rfl (lt rfl (s9)))))) (lt rfl (lt rfl (lh))) (lt rfl (lh)) (lh) ?_
    intro σ7 s0 s3 s4 s8 s9 s14 s15 s16
    refine W.block ?_
    have qo3 := s0
    have qo4 := s4
    have qo5 := s8
    have qo6 := s9
    have qo7 := s14
    have qo8 := s15
    -- loop 1: kept [0, 4, 8, 9, 14, 15], varied [3, 16]
    refine W.loop (G := Nat) (fun j σ' w' => (σ' 0 = σ7 0 ∧ σ' 4 = σ7 4 ∧ σ' 8 = σ7 8 ∧ σ' 9 = σ7 9 ∧ σ' 14 = σ7 14 ∧ σ' 15 = σ7 15 ∧ True) ∧ (∃ lv, σ' 16 = .int .i64 (j : Int) ∧ j ≤ (rowE n Lb k).length ∧ σ' 3 = lv ∧ OwnF 3 fed w' w.heap.size 58 lv (edL n Lb k ++ ((rowE n Lb k).take j).map fun (b : Nat) => ((k : Int), (b : Int), (Lb k b : Int))) ∧ QRow w' w.heap.size 3 (.slice qa (rowE n Lb k).length qc) ((rowE n Lb k).map fun (j : Nat) => Value.int .i64 (j : Int)) ∧ Ch0 w w')) (fun j => (rowE n Lb k).length - j) (0) ⟨⟨rfl, rfl, rfl, rfl, rfl, rfl, trivial⟩, _, s16, by omega, s3, by simpa using hown.ch0 cls, hqr0, hcl.trans0 cls⟩ ?_
    rintro j σ8 w3 ⟨⟨f0, f4, f8, f9, f14, f15, _⟩, lv2, s16, hj, s3, hown2, hqr, hcl2⟩
    have s0 := f0.trans qo3
    have s4 := f4.trans qo4
    have s8 := f8.trans qo5
    have s9 := f9.trans qo6
    have s14 := f14.trans qo7
    have s15 := f15.trans qo8
    have hzc2 := hcl2.size
    refine W.seq ?_
    refine W.region ?_
    refine WL.x (X.lss (s16) (s15)) rfl ?_
    refine WL.e9 Nx.thn 0 3 4 8 9 14 15 16 17 (lt rfl (s0)) (lt rfl (s3)) (lt rfl (s4)) (lt rfl (s8)) (lt rfl (s9)) (lt rfl (s14)) (lt rfl (s15)) (lt rfl (s16)) (lh) ?_
    intro σ9 s0 s3 s4 s8 s9 s14 s15 s16 s17
    refine W.seq ?_
    refine W.cndp s17 (fun hlt2 => ?_) (fun hlt2 => ?_)
    · obtain ⟨gr, gor, csr, Tr, frr, rfl, hr1, hr2⟩ := hqr.sl.at (k := j) (by rw [List.length_map]; omega)
      obtain ⟨to, hto⟩ : ∃ to : Nat, (rowE n Lb k)[j]'(by omega) = to := ⟨_, rfl⟩
      refine W.skip Nx.thn ?_
      refine W.seq ?_
      refine W.block ?_
      refine W.seq ?_
      refine W.region ?_
      refine WL.x (X.indexAddr Tryd.underlying44 el3 (s14) (s16) (by omega) (by omega)) rfl ?_
      refine WL.x (X.load pl3 (lh) hr1 (v := .int .i64 (to : Int)) (by rw [show gor + (j : Int).toNat * 1 = gor + j by omega, hr2 j (by rw [List.length_map]; omega), List.getElem?_map, List.getElem?_eq_getElem (by omega), hto]; rfl)) rfl ?_
      refine WL.x (X.asg (lh)) rfl ?_
      refine WL.e9 Nx.thn 0 3 4 6 8 9 14 15 16 (lt rfl (lt rfl (lt rfl (s0)))) (lt rfl (lt rfl (lt rfl (s3)))) (lt rfl (lt rfl (lt rfl (s4)))) (lh) (lt rfl (lt rfl (lt rfl (s8)))) (lt rfl (lt rfl (lt rfl (s9)))) (lt rfl (lt rfl (lt rfl (s14)))) (lt rfl (lt rfl (lt rfl (s15)))) (lt rfl (lt rfl (lt rfl (s16)))) ?_
      intro σ10 s0 s3 s4 s6 s8 s9 s14 s15 s16
      refine W.region ?_
      refine WL.x (X.mv (s3)) rfl ?_
      refine WL.x (X.mv (lt rfl (s4))) rfl ?_
      refine WL.x (X.mv (lt rfl (lt rfl (s6)))) rfl ?_
      refine WL.x (X.mv (lt rfl (lt rfl (lt rfl (s0))))) rfl ?_
      refine WL.x (X.mv (lt rfl (lt rfl (lt rfl (lt rfl (s4)))))) rfl ?_
      refine WL.x (X.mv (lt rfl (lt rfl (lt rfl (lt rfl (lt rfl (s6))))))) rfl ?_
      refine WL.call3 ce47 (lt rfl (lt rfl (lh))) (lt rfl (lh)) (lh) (glab_ok base g n Lb w3 (h.ch0 hcl2) k to) rfl ?_
      rintro _ w4 ⟨rfl, hdl⟩
      have chdl := hdl.ch0
      have hown2 := hown2.ch0 chdl
      have hqr := hqr.ch0 chdl
      have hcl2 := hcl2.trans0 chdl
      refine WL.x (X.build bd58 (pcons (lt rfl (lt rfl (lt rfl (lt rfl (lt rfl (lh)))))) (pcons (lt rfl (lt rfl (lt rfl (lt rfl (lh))))) (pcons (lh) pnil))) rfl (rfl : _ = [_, _, _])) rfl ?_
      refine WL.bsliceR (vs := [_]) Tryd.underlying22 el58 (by decide) (pcons (lh) pnil) rfl (fun u hu => by rw [List.mem_singleton.1 hu]; rfl) (show 1 * 3 ≤ 16777216 by decide) rfl ?_
      intro w6 u8_8; have hu8_8 := u8_8.at_; have cu8_8 := u8_8.ch; have zu8_8 := u8_8.size
      refine WL.appendF Tryd.underlying22 el58 rfl (by decide) fed_len fed_one (lt rfl (lt rfl (lt rfl (lt rfl (lt rfl (lt rfl (lt rfl (lt rfl (lh))))))))) (lh) (hown2.ch0 cu8_8) (rsl_one (x := ((k : Int), (to : Int), (Lb k to : Int))) (A := all) fed_len hu8_8 (by rw [show lbv Lb k to = Lb k to by unfold lbv; rw [if_pos ⟨by omega, by omega⟩, show ((k : Nat) : Int).toNat = k by omega, show ((to : Nat) : Int).toNat = to by omega]]; rfl) trivial) (by rw [List.length_append, List.length_map, List.length_take]; unfold maxLen; simp only [List.length_cons, List.length_nil]; omega) (by rw [List.length_append, List.length_map, List.length_take]; simp only [List.length_cons, List.length_nil]; omega) (by have := cu8_8.size; have := hcl2.size; omega) rfl ?_
      intro va8_9 w7 ho8_9 ca8_9
      have hclN := (hcl2.trans0 cu8_8).trans ca8_9 (H := fun _ => False) (fun _ _ e => e) (fun i hi e => by have := (hown2.lt e).1; omega)
      have hqrN := (hqr.ch0 cu8_8).ch ca8_9 (fun i hi e => ty_ne ((hqr.ch0 cu8_8).ty hi) ((hown2.ch0 cu8_8).ty e) (by decide) rfl)
      subst hto
      rw [ed_next (by omega)] at ho8_9
      refine WL.x (X.asg (lh)) rfl ?_
      refine WL.e8 (Nx.blk Nx.thn) 0 3 4 8 9 14 15 16 (lt rfl (lt rfl (lt rfl (lt rfl (lt rfl (lt rfl (lt rfl (lt rfl (lt rfl (lt rfl (lt rfl (s0)))))))))))) (lh) (lt rfl (lt rfl (lt rfl (lt rfl (lt rfl (lt rfl (lt rfl (lt rfl (lt rfl (lt rfl (lt rfl (s4)))))))))))) (lt rfl (lt rfl (lt rfl (lt rfl (lt rfl (lt rfl (lt rfl (lt rfl (lt rfl (lt rfl (lt rfl (s8)))))))))))) (lt rfl (lt rfl (lt rfl (lt rfl (lt rfl (lt rfl (lt rfl (lt rfl (lt rfl (lt rfl (lt rfl (s9)))))))))))) (lt rfl (lt rfl (lt rfl (lt rfl (lt rfl (lt rfl (lt rfl (lt rfl (lt rfl (lt rfl (lt rfl (s14)))))))))))) (lt rfl (lt rfl (lt rfl (lt rfl (lt rfl (lt rfl (lt rfl (lt rfl (lt rfl (lt rfl (lt rfl (s15)))))))))))) (lt rfl (lt rfl (lt rfl (lt rfl (lt rfl (lt rfl (lt rfl (lt rfl (lt rfl (lt rfl (lt rfl (s16)))))))))))) ?_
      intro σ11 s0 s3 s4 s8 s9 s14 s15 s16
      refine W.region ?_
      first | refine WL.x (X.add (s16) lc (by omega) (by omega)) rfl ?_ | refine WL.x (X.addw (s16) lc) rfl ?_
      refine WL.x (X.mv (lh)) rfl ?_
      refine WL.e8 Nx.thn 0 3 4 8 9 14 15 16 (lt rfl (lt rfl (s0))) (lt rfl (lt rfl (s3))) (lt rfl (lt rfl (s4))) (lt rfl (lt rfl (s8))) (lt rfl (lt rfl (s9))) (lt rfl (lt rfl (s14))) (lt rfl (lt rfl (s15))) (lh) ?_
      intro σ12 s0 s3 s4 s8 s9 s14 s15 s16
      refine ⟨j + 1, by first | omega | (dsimp only; omega), ⟨s0.trans qo3.symm, s4.trans qo4.symm, s8.trans qo5.symm, s9.trans qo6.symm, s14.trans qo7.symm, s15.trans qo8.symm, trivial⟩, _, s16, by omega, s3, ho8_9, hqrN, hclN⟩
    · refine W.exit (Nx.xthn (Nx.xthn (Nx.xblk (Nx.blk Nx.thn)))) ?_
      refine W.region ?_
      first | refine WL.x (X.add (s9) lc (by omega) (by omega)) rfl ?_ | refine WL.x (X.addw (s9) lc) rfl ?_
      refine WL.x (X.mv (lh)) rfl ?_
      refine WL.e4 Nx.thn 0 3 8 9 (lt rfl (lt rfl (s0))) (lt rfl (lt rfl (s3))) (lt rfl (lt rfl (s8))) (lh) ?_
      intro σ13 s0 s3 s8 s9
      refine ⟨k + 1, by first | omega | (dsimp only; omega), ⟨s0.trans qo1.symm, s8.trans qo2.symm, trivial⟩, _, s9, by omega, s3, by rw [edL_succ]; have h9 := hown2; rw [List.take_of_length_le (by omega)] at h9; exact h9, hcl2⟩
  · refine W.exit (Nx.xthn (Nx.xthn (Nx.xblk Nx.thn))) ?_
    refine W.seq ?_
    refine W.region ?_
    refine WL.x (X.mv (s3)) rfl ?_
    refine WL.x (X.asg (lh)) rfl ?_
    refine WL.e1 Nx.thn 2 (lh) ?_
    intro σ14 s2
    refine W.ret1 Nx.f1 s2 ?_
    have hke : k = n := by omega
    subst hke
    exact ⟨hown, hcl⟩
end Go.Proofs.YtaldkbdnefpklaaDoor
