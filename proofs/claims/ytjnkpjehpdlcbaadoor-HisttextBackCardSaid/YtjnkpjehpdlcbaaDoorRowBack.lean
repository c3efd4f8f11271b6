/-
  HisttextBack: the row and its card.
-/
import Derived.Test.YtjnkpjehpdlcbaaDoorRows
import Derived.Test.YtjnkpjehpdlcbaaDoorCards
import Derived.Test.YtjnkpjehpdlcbaaDoorTie
import Derived.Test.YtjnkpjehpdlcbaaDoorOpen
import Derived.Test.YtjnkpjehpdlcbaaDoorQK
import Derived.Test.YtjnkpjehpdlcbaaDoorX
import Derived.Test.YtjnkpjehpdlcbaaDoorZ
import Derived.Test.YtjnkpjehpdlcbaaDoorZR
import Derived.WalkKit
import Derived.ProofKit
import Derived.OpenShut
import Derived.ShutString
import Derived.ChangeOld
import Derived.Below
import Derived.SizedLaws
import Derived.Stop.Joined
import Derived.SevenTiedAt
set_option linter.unusedVariables false
set_option linter.unusedSimpArgs false
set_option linter.unnecessarySimpa false
namespace Go.Proofs.YtjnkpjehpdlcbaaDoor.histtextBack
open Go Go.ChangeShapes Go.WideShapes Go.ChangeAt Go.RowKit Sg
open Go.ChangeMaps (open_string shut_string)
theorem own : ownKnob Tryd.prog.godebug = none := by kernel_rfl
theorem laidOut : laidOutB Tryd.prog = true := by kernel_rfl
set_option maxRecDepth 100000 in
theorem lifted (os : Os) (started : os.Started) (H : Type) (enc : TypeId × Value → H) :
    ReturnsInHanded {} Tryd.checked os 5 .any (fun w args => (Rows.histtextBackSpec.pre enc Tryd.prog Tryd.f5 [] false w args ∧ laidMetH Tryd.prog Rows.histtextBackRow.laid w) ∧ sizedMet enc Tryd.prog Tryd.f5 (OpenSpec.ofChange Rows.histtextBackSpec) false w args) (Rows.histtextBackSpec.post enc Tryd.prog Tryd.f5 false true false false) := by
  refine returnsInHanded_of_change_and (C := Tryd.checked) (X := fun w _ => laidMetH Tryd.prog Rows.histtextBackRow.laid w) (fun _ _ _ hh h => h.of_heap hh) own started (by kernel_rfl) Tryd.func5
    (ChangeSpec.witness_shaped (enc := enc) (C := Tryd.checked) (os := os) (X := fun w _ => laidMetH Tryd.prog Rows.histtextBackRow.laid w) false (World.laidAll Tryd.prog os Rows.histtextBackRow.laid) #[.slice none 0 0] 8 (World.laidAll_os _ _ _)
      (World.shaped_of_ZipB (by kernel_rfl) (by kernel_rfl)) (by kernel_rfl) (by kernel_rfl) (by kernel_rfl)
      (by rw [MakeChecks.laidMetH_plain _ _ _ (by kernel_rfl)]; exact laidMet_laidAll _ (by kernel_rfl) (by kernel_rfl))) ?_
  intro W base args ds gs before hval0 hW _ hsz0 hL _
  rw [MakeChecks.laidMetH_plain _ _ _ (by kernel_rfl)] at hL
  have hval : ∀ (j : Nat) t v, Tryd.f5.params[j]? = some t → args[j]? = some v → Value.okWide Tryd.prog W .any base t v := hval0
  have hsz : (DataW.weightsEach Tryd.prog (Tryd.f5.params.toList ++ Rows.histtextBackSpec.plain.varTypes Tryd.prog) (ds ++ gs)).all (· ≤ reachBytes) = true := hsz0
  have hW' := hW
  obtain ⟨p, q, hA0, hV, rfl, hfz, hnd⟩ := hW
  have hA : DataW.TrodAll enc Tryd.prog W 0 (fun _ => true) true Tryd.f5.params.toList args.toList ds p := hA0
  rw [Tryd.params5] at hA hval hsz
  have hAk := hA
  obtain ⟨v0, vs0, d0, ds0, p0, q0, hargs, rfl, rfl, h0, r0⟩ := trodAll_cons hA
  obtain ⟨rfl, rfl, rfl⟩ := trodAll_nil r0
  obtain rfl : args = #[v0] := by cases args; simp_all
  obtain ⟨rfl, rfl⟩ := trodVars_none hV
  simp only [List.append_nil] at hW'
  obtain ⟨x0, m0, c0, rfl⟩ := okWide_slice Tryd.underlying22 (hval 0 22 v0 rfl rfl)
  obtain ⟨l0, rfl, hs0, hm0⟩ := open_arg Tryd.underlying22 (show Tryd.prog.cellsOf 44 = 3 by kernel_rfl) (by decide) (show Tryd.prog.bytesOf 44 = 40 by kernel_rfl) opn_ev h0 (weightsEach_at hsz 0 22 d0 rfl rfl)
  clear hA0 hval0 hsz0
  have hER := er_of hL.tail.tail.tail
  have hb0 : 0 < W.heap.size := by obtain ⟨_, _, _, _, h⟩ := hER; have := lt_of_blk h; omega
  have hTab := tab_of hL.tail.tail
  have hwalk : Sg.Ret Tryd.prog 5 #[.slice x0 l0.length c0] W (fun v w' => v = .bool true ∧ Ch0 W w') := hback_ok x0 c0 l0 W hs0 hm0 hER hTab
  refine Calls.mono hwalk fun e W' hh => ?_
  obtain ⟨vv, he, hvv, hch⟩ := hh
  subst hvv; subst he
  exact ⟨_, rfl, _, _, _, [], _, [], hW', trodAll_mk1 (shut_bool Tryd.underlying4 _), trodAll_carry laidOut (Ch.below hch) (by kernel_rfl) hAk (fun x hx => by simpa using hW'.lt x (by simpa using hx)), rfl, (Ch.below hch).frame _, fun h => by cases h⟩
theorem over : Rows.histtextBackRow.holds Tryd.pinned (OpenSpec.ofChange Rows.histtextBackSpec) :=
  OpenClaim.holds_of_wide 5 Tryd.f5 rfl rfl rfl rfl rfl rfl rfl ⟨rfl, rfl, rfl, rfl, rfl⟩ rfl rfl rfl rfl rfl (by kernel_rfl) Tryd.func5 (by kernel_rfl)
    (of_decide_eq_true (by kernel_rfl)) (by unfold Func.isWrapper; first | (rw [if_pos (by decide +kernel)]; kernel_rfl) | (rw [if_neg (by decide +kernel)]; exact ⟨rfl, rfl⟩))
    (fun os started H enc _ => lifted os started H enc)
end Go.Proofs.YtjnkpjehpdlcbaaDoor.histtextBack
namespace Go.Proofs.YtjnkpjehpdlcbaaDoor
open Go

theorem histtextBack_row : Rows.HisttextBackSaid := histtextBack.over
theorem histtextBack_holds : Rows.HisttextBackCardSaid :=
  Claim7.holds_tied_plain_at .later [] [.data, .data, .data, .sentinel, .sentinel] true (true, "39a31f88daa751e055b63fd53fc6c93f25ba4c56a6b0e69c3f60f99cc5dd8f24") true
    histtextBack_row (fun _ h => by cases h) (by kernel_rfl) (fun _ h => by cases h) histtextBack_row_tie rfl ⟨rfl, rfl⟩ (by kernel_rfl) rfl
    (fun f fn hf hfn => by
      obtain rfl : f = 5 := Option.some.inj ((show Tryd.prog.funcNamed "assayer/assayerlaw02.HisttextBack" = some 5 by kernel_rfl).symm.trans hf) |>.symm
      obtain rfl : fn = Tryd.f5 := (Option.some.inj (Tryd.func5.symm.trans hfn)).symm
      exact ⟨by kernel_rfl, fun j t ht => by
        rw [Tryd.params5] at ht
        have hm : t ∈ [22] := by
          have h1 := Array.mem_of_getElem? ht
          have h2 : t ∈ ([22] : List Nat) := by simpa using h1
          exact of_decide_eq_true (List.all_eq_true.1 (show (([22] : List Nat).all fun u => decide (u ∈ ([22] : List Nat))) = true by decide) t h2)
        have hall : ([22].all fun u => !Tryd.prog.wantsStandIn u) = true := by kernel_rfl
        exact (show Tryd.prog.wantsStandIn t = false by simpa using List.all_eq_true.1 hall t hm)⟩)
    (by kernel_rfl)
#print axioms histtextBack_holds
end Go.Proofs.YtjnkpjehpdlcbaaDoor
