/-
  BitsLives: the row and its card.
-/
import Derived.Test.YtbnnogbmmbkedaaDoorRows
import Derived.Test.YtbnnogbmmbkedaaDoorCards
import Derived.Test.YtbnnogbmmbkedaaDoorTie
import Derived.Test.YtbnnogbmmbkedaaDoorOpen
import Derived.Test.YtbnnogbmmbkedaaDoorP
import Derived.Test.YtbnnogbmmbkedaaDoorO
import Derived.Test.YtbnnogbmmbkedaaDoorZ
import Derived.WalkKit
import Derived.ProofKit
import Derived.OpenShut
import Derived.ShutString
import Derived.ChangeOld
import Derived.Below
import Derived.SizedLaws
import Derived.Stop.Joined
import Derived.SevenTiedAt
set_option linter.unusedVariables false
set_option linter.unusedSimpArgs false
set_option linter.unnecessarySimpa false
namespace Go.Proofs.YtbnnogbmmbkedaaDoor.bitsLives
open Go Go.ChangeShapes Go.WideShapes Go.ChangeAt Go.RowKit Sg
open Go.ChangeMaps (open_string shut_string)
theorem own : ownKnob Tryd.prog.godebug = none := by kernel_rfl
theorem laidOut : laidOutB Tryd.prog = true := by kernel_rfl
set_option maxRecDepth 100000 in
theorem lifted (os : Os) (started : os.Started) (H : Type) (enc : TypeId × Value → H) :
    ReturnsInHanded {} Tryd.checked os 5 .any (fun w args => (Rows.bitsLivesSpec.pre enc Tryd.prog Tryd.f5 [] false w args ∧ laidMetH Tryd.prog Rows.bitsLivesRow.laid w) ∧ sizedMet enc Tryd.prog Tryd.f5 (OpenSpec.ofChange Rows.bitsLivesSpec) false w args) (Rows.bitsLivesSpec.post enc Tryd.prog Tryd.f5 false true false false) := by
  refine returnsInHanded_of_change_and (C := Tryd.checked) (X := fun w _ => laidMetH Tryd.prog Rows.bitsLivesRow.laid w) (fun _ _ _ hh h => h.of_heap hh) own started (by kernel_rfl) Tryd.func5
    (ChangeSpec.witness_shaped (enc := enc) (C := Tryd.checked) (os := os) (X := fun w _ => laidMetH Tryd.prog Rows.bitsLivesRow.laid w) false (World.laidAll Tryd.prog os Rows.bitsLivesRow.laid) #[.int .i64 0, .int .i64 0, .slice none 0 0] 8 (World.laidAll_os _ _ _)
      (World.shaped_of_ZipB (by kernel_rfl) (by kernel_rfl)) (by kernel_rfl) (by kernel_rfl) (by kernel_rfl)
      (by rw [MakeChecks.laidMetH_plain _ _ _ (by kernel_rfl)]; exact laidMet_laidAll _ (by kernel_rfl) (by kernel_rfl))) ?_
  intro W base args ds gs before hval0 hW _ hsz0 hL _
  rw [MakeChecks.laidMetH_plain _ _ _ (by kernel_rfl)] at hL
  have hval : ∀ (j : Nat) t v, Tryd.f5.params[j]? = some t → args[j]? = some v → Value.okWide Tryd.prog W .any base t v := hval0
  have hsz : (DataW.weightsEach Tryd.prog (Tryd.f5.params.toList ++ Rows.bitsLivesSpec.plain.varTypes Tryd.prog) (ds ++ gs)).all (· ≤ reachBytes) = true := hsz0
  have hW' := hW
  obtain ⟨p, q, hA0, hV, rfl, hfz, hnd⟩ := hW
  have hA : DataW.TrodAll enc Tryd.prog W 0 (fun _ => true) true Tryd.f5.params.toList args.toList ds p := hA0
  rw [Tryd.params5] at hA hval hsz
  have hAk := hA
  obtain ⟨v0, vs0, d0, ds0, p0, q0, hargs, rfl, rfl, h0, r0⟩ := trodAll_cons hA
  obtain ⟨v1, vs1, d1, ds1, p1, q1, rfl, rfl, rfl, h1, r1⟩ := trodAll_cons r0
  obtain ⟨v2, vs2, d2, ds2, p2, q2, rfl, rfl, rfl, h2, r2⟩ := trodAll_cons r1
  obtain ⟨rfl, rfl, rfl⟩ := trodAll_nil r2
  obtain rfl : args = #[v0, v1, v2] := by cases args; simp_all
  obtain ⟨rfl, rfl⟩ := trodVars_none hV
  simp only [List.append_nil] at hW'
  obtain ⟨a0, rfl, rfl, rfl, w0⟩ := open_int Tryd.underlying3 (hval 0 3 v0 rfl rfl) h0
  obtain ⟨a1, rfl, rfl, rfl, w1⟩ := open_int Tryd.underlying3 (hval 1 3 v1 rfl rfl) h1
  obtain ⟨x2, m2, c2, rfl⟩ := okWide_slice Tryd.underlying37 (hval 2 37 v2 rfl rfl)
  obtain ⟨l2, rfl, hs2, hm2⟩ := open_arg Tryd.underlying37 (show Tryd.prog.cellsOf 42 = 2 by kernel_rfl) (by decide) (show Tryd.prog.bytesOf 42 = 16 by kernel_rfl) opn_do h2 (weightsEach_at hsz 2 37 d2 rfl rfl)
  clear hA0 hval0 hsz0
  have hTab := tab_of_laid hL
  have hb0 : 0 < W.heap.size := by obtain ⟨TT, fr, h⟩ := hTab; exact lt_of_blk h
  have hwalk : Sg.Ret Tryd.prog 5 #[.int .i64 a0, .int .i64 a1, .slice x2 l2.length c2] W (fun v w' => v = .bool true ∧ Ch0 W w') := lives_ok a0 a1 x2 c2 l2 W hs2 (by omega) hTab hb0
  refine Calls.mono hwalk fun e W' hh => ?_
  obtain ⟨vv, he, hvv, hch⟩ := hh
  subst hvv; subst he
  exact ⟨_, rfl, _, _, _, [], _, [], hW', trodAll_mk1 (shut_bool Tryd.underlying4 _), trodAll_carry laidOut (Ch.below hch) (by kernel_rfl) hAk (fun x hx => by simpa using hW'.lt x (by simpa using hx)), rfl, (Ch.below hch).frame _, fun h => by cases h⟩
theorem over : Rows.bitsLivesRow.holds Tryd.pinned (OpenSpec.ofChange Rows.bitsLivesSpec) :=
  OpenClaim.holds_of_wide 5 Tryd.f5 rfl rfl rfl rfl rfl rfl rfl ⟨rfl, rfl, rfl, rfl, rfl⟩ rfl rfl rfl rfl rfl (by kernel_rfl) Tryd.func5 (by kernel_rfl)
    (of_decide_eq_true (by kernel_rfl)) (by unfold Func.isWrapper; first | (rw [if_pos (by decide +kernel)]; kernel_rfl) | (rw [if_neg (by decide +kernel)]; exact ⟨rfl, rfl⟩))
    (fun os started H enc _ => lifted os started H enc)
end Go.Proofs.YtbnnogbmmbkedaaDoor.bitsLives
namespace Go.Proofs.YtbnnogbmmbkedaaDoor
open Go

theorem bitsLives_row : Rows.BitsLivesSaid := bitsLives.over
theorem bitsLives_holds : Rows.BitsLivesCardSaid :=
  Claim7.holds_tied_plain_at .later [] [.data] true (true, "55ff6fdde3d0c63801de8fc36db1bd54cd3dae54498bf36a6216eafbbfd547d5") false
    bitsLives_row (fun _ h => by cases h) (by kernel_rfl) (fun _ h => by cases h) bitsLives_row_tie rfl ⟨rfl, rfl⟩ (by kernel_rfl) rfl
    (fun f fn hf hfn => by
      obtain rfl : f = 5 := Option.some.inj ((show Tryd.prog.funcNamed "assayer/assayerlaw05.BitsLives" = some 5 by kernel_rfl).symm.trans hf) |>.symm
      obtain rfl : fn = Tryd.f5 := (Option.some.inj (Tryd.func5.symm.trans hfn)).symm
      exact ⟨by kernel_rfl, fun j t ht => by
        rw [Tryd.params5] at ht
        have hm : t ∈ [3, 37] := by
          have := Array.mem_of_getElem? ht
          simp at this ⊢; omega
        have hall : ([3, 37].all fun u => !Tryd.prog.wantsStandIn u) = true := by kernel_rfl
        exact (show Tryd.prog.wantsStandIn t = false by simpa using List.all_eq_true.1 hall t hm)⟩)
    (by kernel_rfl)
#print axioms bitsLives_holds
end Go.Proofs.YtbnnogbmmbkedaaDoor
