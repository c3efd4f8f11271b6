/-
  A part of the walk of the program. | A part of the walk of the program. | A part of the walk of the program. | A part of the walk of the program. | A part of the walk of the program. | A part of the walk of the program.
-/
import Derived.Test.YtbnllchicnmkiaaGreatDoorPl14
import Derived.Test.YtbnllchicnmkiaaGreatDoorRows
import Derived.Stop.LaidErr
section
set_option linter.unusedVariables false
set_option linter.unusedSimpArgs false
set_option maxRecDepth 100000
namespace Go.Proofs.YtbnllchicnmkiaaGreatDoor
open Go Go.RowKit Sg
theorem el78 : Sg.Elem Tryz.prog 78 3 (.agg #[.pointer none, .slice none 0 0, .bool false]) 40 := ⟨_, rfl, rfl, rfl, rfl⟩
theorem ce33 : Sg.Callee Tryz.prog 33 := ⟨_, Tryz.func33, by decide, rfl⟩
theorem ce34 : Sg.Callee Tryz.prog 34 := ⟨_, Tryz.func34, by decide, rfl⟩
theorem ce35 : Sg.Callee Tryz.prog 35 := ⟨_, Tryz.func35, by decide, rfl⟩
theorem ce40 : Sg.Callee Tryz.prog 40 := ⟨_, Tryz.func40, by decide, rfl⟩
set_option maxHeartbeats 6400000 in
theorem print_ok (A : Nat → Prop) (x : GRep) (es : List Value) (w : World) (h : RRep A w es x) (hTab : Tab w) :
  Sg.Ret Tryz.prog 11 #[.agg es.toArray] w fun v w' => v = .tuple #[.string (bs (prQ x)), .int .i64 (prE x)] ∧ Ch0 w w' := by
 have hh := h
 have hnum := rrep_num h
 obtain ⟨v, u, rfl, hs, ho, hb⟩ := h
 obtain ⟨va, vc, rfl⟩ := hs.len
 obtain ⟨ua, uc, hu⟩ := ho.1.len
 rw [List.length_map] at hu
 subst hu
 refine enter2 (n := 152) (l := [.agg #[.int .i64 x.1, .bool x.2.1, .slice va x.2.2.1.length vc, .int .i64 x.2.2.2.1, .int .i64 x.2.2.2.2.1, .slice ua x.2.2.2.2.2.length uc]]) Tryz.func11 rfl rfl rfl rfl ?_
 refine W.g1 0 (v1 := .agg #[.int .i64 x.1, .bool x.2.1, .slice va x.2.2.1.length vc, .int .i64 x.2.2.2.1, .int .i64 x.2.2.2.2.1, .slice ua x.2.2.2.2.2.length uc]) rfl ?_; intro σ s0
 refine W.seq ?_
 refine W.region ?_
 refine WL.box (s0) rfl ?_
 intro w1 u0_0; have hu0_0 := u0_0.at_; have cu0_0 := u0_0.ch; have zu0_0 := u0_0.size
 refine WL.x (X.asg lc) rfl ?_
 refine WL.x (X.asg lc) rfl ?_
 refine WL.e1 Nx.thn 1 (jt2 rfl (lh)) ?_
 intro σ1 s1
 refine W.seq ?_
 refine W.seq ?_
 refine W.region ?_
 obtain ⟨xb, hxb⟩ : ∃ xb, xb = w.heap.size := ⟨_, rfl⟩
 have hbx : w1.heap[w.heap.size]? = some (.cells #[.int .i64 x.1, .bool x.2.1, .slice va x.2.2.1.length vc, .int .i64 x.2.2.2.1, .int .i64 x.2.2.2.2.1, .slice ua x.2.2.2.2.2.length uc] 25 (0, 0)) := hu0_0
 rw [← hxb] at hbx s1
 obtain ⟨RC, hRC⟩ : ∃ RC : Array Value, RC = #[.int .i64 x.1, .bool x.2.1, .slice va x.2.2.1.length vc, .int .i64 x.2.2.2.1, .int .i64 x.2.2.2.2.1, .slice ua x.2.2.2.2.2.length uc] := ⟨_, rfl⟩
 have hbx9 := hbx
 rw [← hRC] at hbx
 refine WL.x (X.loadBox (vs := [.int .i64 x.1, .bool x.2.1, .slice va x.2.2.1.length vc, .int .i64 x.2.2.2.1, .int .i64 x.2.2.2.2.1, .slice ua x.2.2.2.2.2.length uc]) ag25 (s1) hbx9 rfl) rfl ?_
 refine WL.call1 ce19 (lh) (can_ok A x _ w1 (monRep _ _ _ _ _ _ _ cu0_0 (fun _ _ => id) (fun _ => id) hh)) rfl ?_
 rintro _ w2 ⟨rfl, c0⟩
 replace hbx := c0.at0 hbx
 refine WL.x (X.not (lh)) rfl ?_
 refine WL.e2 Nx.thn 1 13 (jt2 rfl (lt rfl (s1))) (lh) ?_
 intro σ2 s1 s13
 refine W.cnd s13 (fun hcan => ?_) (fun hcan => ?_)
 ·
  refine W.seq ?_
  refine W.region ?_
  refine WL.x (X.asg lc) rfl ?_
  refine WL.x (X.asg lc) rfl ?_
  refine WL.e2 Nx.thn 2 3 (lt rfl (lh)) (lh) ?_
  intro σ3 s2 s3
  refine W.ret2 (Nx.rthn Nx.f2) s2 s3 ?_
  have hmn : mayR keyE x = false := by simpa using hcan
  exact ⟨by rw [(prQ_no hmn).1, (prQ_no hmn).2]; rfl, cu0_0.trans0 c0⟩
 ·
  have hmay : mayR keyE x = true := by simpa using hcan
  have hok : PrOk x := ⟨hmay, hnum⟩
  obtain ⟨ml1, ml2, ml3, ml4, ml5, ml6⟩ := hok.lens
  obtain ⟨mm1, mm2, mm3, mm4, mm5, mm6, -⟩ := mayR_of hmay
  refine W.skip Nx.thn ?_
  refine W.seq ?_
  refine W.region ?_
  refine WL.alloc el78 rfl ?_
  intro w3 u9
  obtain ⟨bw, hbw⟩ : ∃ bw, bw = w2.heap.size := ⟨_, rfl⟩
  rw [← hbw]
  have hwc : w3.heap[bw]? = some (.cells #[.pointer none, .slice none 0 0, .bool false] 78 (0, 0)) := by rw [hbw]; exact u9.at_
  have cal := u9.ch
  have hw : IsW bw bw [] false w3 := ⟨Nat.le_refl _, none, _, .inl rfl, hwc, World.ownsRow_nil _ _ _ _⟩
  have zbx := lt_of_blk hbx
  replace hbx := cal.at0 hbx
  have hcl := (cu0_0.trans0 c0).trans0 cal
  have hbwz : w.heap.size ≤ xb ∧ xb < bw := by omega
  refine WL.e2 Nx.thn 1 4 (lt rfl (s1)) (lh) ?_
  intro σ4 s1 s4
  refine W.seq ?_
  refine W.region ?_
  refine WL.x (X.iface Tryz.underlying9 trivial lc) rfl ?_
  refine WL.x (X.fieldAddr fd25_0 (lt rfl (s1))) rfl ?_
  refine WL.x (X.load pl3 (lh) hbx (v := .int .i64 x.1) (by rw [hRC]; rfl)) rfl ?_
  refine WL.x (X.iface Tryz.underlying3 trivial (lh)) rfl ?_
  refine WL.bslice Tryz.underlying115 el20 rfl (pcons (jt2 rfl (lt rfl (lh))) (pcons (lh) pnil)) rfl (rfl : _ = [_, _]) rfl ?_
  intro w4 u4_4; have hu4_4 := u4_4.at_; have cu4_4 := u4_4.ch; have zu4_4 := u4_4.size
  have hPT : putF false [.s wTxns, .n x.1] = (repA x, true) := pt_A x
  have zw9 := hw.lt
  refine WL.call2 ce33 (jt4 rfl (lt rfl (s4))) (lh) (put_ok bw bw _ 2 2 [.s wTxns, .n x.1] ([]) false w4 rfl hu4_4 (by have h9 := hw.lt; omega) (hw.ch0 cu4_4) (by have h9 := hw.lt; have h8 := cu4_4.size; omega) (by rw [hPT]; dsimp only; simp only [List.length_append, List.length_cons, List.length_nil]; omega) (by show 2 ≤ 100; omega) (fun w9 c9 => tab_ch0 hTab ((hcl.trans0 cu4_4).trans c9 (H := fun _ => False) (fun _ _ e => e) (fun j hj e => by (try dsimp only at e); omega))) (pin_s (pin_n hnum.1 pin_nil))) rfl ?_
  rintro _ w5 ⟨hw, cp, hk⟩
  rw [hPT] at hw
  replace hw : IsW bw bw ([] ++ repA x) true w5 := hw
  replace hcl := hcl.trans0 cu4_4
  replace hbx := cu4_4.at0 hbx
  replace hcl := hcl.trans cp (H := fun _ => False) (fun _ _ e => e) (fun j hj e => by (try dsimp only at e); omega)
  replace hbx := hk _ _ _ _ hbx (by decide) (by omega)
  refine WL.e2 Nx.thn 1 4 (jt4 rfl (jt2 rfl (s1))) (jt4 rfl (jt2 rfl (s4))) ?_
  intro σ5 s1 s4
  refine W.seq ?_
  refine W.region ?_
  refine WL.call1 ce34 (s4) (line_ok bw bw ([] ++ repA x) true w5 hw (by simp only [List.length_append, List.length_cons, List.length_nil]; omega) (Nat.le_of_lt hw.lt)) rfl ?_
  rintro _ w6 ⟨hw, cp, hk⟩
  replace hcl := hcl.trans cp (H := fun _ => False) (fun _ _ e => e) (fun j hj e => by (try dsimp only at e); omega)
  replace hbx := hk _ _ _ _ hbx (by decide) (by omega)
  refine WL.e2 Nx.thn 1 4 (lt rfl (s1)) (lt rfl (s4)) ?_
  intro σ6 s1 s4
  refine W.seq ?_
  refine W.region ?_
  refine WL.x (X.iface Tryz.underlying9 trivial lc) rfl ?_
  refine WL.x (X.fieldAddr fd25_1 (lt rfl (s1))) rfl ?_
  refine WL.x (X.load pl4 (lh) hbx (v := .bool x.2.1) (by rw [hRC]; rfl)) rfl ?_
  refine WL.call3 ce35 (lh) lc lc (either_ok x.2.1 wYes wNo w6) rfl ?_
  rintro _ _ ⟨rfl, rfl⟩
  refine WL.x (X.iface Tryz.underlying9 trivial (lh)) rfl ?_
  refine WL.bslice Tryz.underlying115 el20 rfl (pcons (jt4 rfl (lh)) (pcons (lh) pnil)) rfl (rfl : _ = [_, _]) rfl ?_
  intro w7 u6_5; have hu6_5 := u6_5.at_; have cu6_5 := u6_5.ch; have zu6_5 := u6_5.size
  have hPT : putF false [.s wUnique, .s (bsel x.2.1 wYes wNo)] = (repB x, true) := pt_B x
  have zw9 := hw.lt
  refine WL.call2 ce33 (jt4 rfl (jt2 rfl (s4))) (lh) (put_ok bw bw _ 2 2 [.s wUnique, .s (bsel x.2.1 wYes wNo)] ([] ++ repA x ++ [10]) false w7 rfl hu6_5 (by have h9 := hw.lt; omega) (hw.ch0 cu6_5) (by have h9 := hw.lt; have h8 := cu6_5.size; omega) (by rw [hPT]; dsimp only; simp only [List.length_append, List.length_cons, List.length_nil]; omega) (by show 2 ≤ 100; omega) (fun w9 c9 => tab_ch0 hTab ((hcl.trans0 cu6_5).trans c9 (H := fun _ => False) (fun _ _ e => e) (fun j hj e => by (try dsimp only at e); omega))) (pin_s (pin_s pin_nil))) rfl ?_
  rintro _ w8 ⟨hw, cp, hk⟩
  rw [hPT] at hw
  replace hw : IsW bw bw ([] ++ repA x ++ [10] ++ repB x) true w8 := hw
  replace hcl := hcl.trans0 cu6_5
  replace hbx := cu6_5.at0 hbx
  replace hcl := hcl.trans cp (H := fun _ => False) (fun _ _ e => e) (fun j hj e => by (try dsimp only at e); omega)
  replace hbx := hk _ _ _ _ hbx (by decide) (by omega)
  refine WL.e2 Nx.thn 1 4 (jt4 rfl (jt2 rfl (lt rfl (s1)))) (jt4 rfl (jt2 rfl (lt rfl (s4)))) ?_
  intro σ7 s1 s4
  refine W.seq ?_
  refine W.region ?_
  refine WL.call1 ce34 (s4) (line_ok bw bw ([] ++ repA x ++ [10] ++ repB x) true w8 hw (by simp only [List.length_append, List.length_cons, List.length_nil]; omega) (Nat.le_of_lt hw.lt)) rfl ?_
  rintro _ w9 ⟨hw, cp, hk⟩
  replace hcl := hcl.trans cp (H := fun _ => False) (fun _ _ e => e) (fun j hj e => by (try dsimp only at e); omega)
  replace hbx := hk _ _ _ _ hbx (by decide) (by omega)
  refine WL.e2 Nx.thn 1 4 (lt rfl (s1)) (lt rfl (s4)) ?_
  intro σ8 s1 s4
  refine W.seq ?_
  refine W.seq ?_
  refine W.region ?_
  refine WL.x (X.fieldAddr fd25_2 (s1)) rfl ?_
  refine WL.x (X.load pl22 (lh) hbx (v := .slice va x.2.2.1.length vc) (by rw [hRC]; rfl)) rfl ?_
  refine WL.x (X.lenSl Tryz.underlying22 (lh)) rfl ?_
  refine WL.x (X.mv lc) rfl ?_
  refine WL.e5 Nx.thn 1 4 30 31 32 (jt4 rfl (s1)) (jt4 rfl (s4)) (jt2 rfl (lh)) (lt rfl (lh)) (lh) ?_
  intro σ9 s1 s4 s30 s31 s32
  refine W.block ?_
  have qo1 := s1
  have qo2 := s4
  have qo3 := s30
  have qo4 := s31
  -- loop 0: kept [1, 4, 30, 31], varied [32]
  refine W.loop (G := Nat) (fun k σ' w' => (σ' 1 = σ9 1 ∧ σ' 4 = σ9 4 ∧ σ' 30 = σ9 30 ∧ σ' 31 = σ9 31 ∧ True) ∧ (σ' 32 = .int .i64 (k : Int) ∧ k ≤ x.2.2.1.length ∧ IsW bw bw ((repA x ++ [10] ++ repB x ++ [10]) ++ (x.2.2.1.take k).flatMap anT) false w' ∧ w'.heap[xb]? = some (.cells RC 25 (0, 0)) ∧ Ch0 w w')) (fun k => x.2.2.1.length - k) (0) ⟨⟨rfl, rfl, rfl, rfl, trivial⟩, s32, by omega, (by simpa using hw), hbx, hcl⟩ ?_
  rintro k σ10 w10 ⟨⟨f1, f4, f30, f31, _⟩, s32, hk9, hw, hbx, hcl⟩
  have s1 := f1.trans qo1
  have s4 := f4.trans qo2
  have s30 := f30.trans qo3
  have s31 := f31.trans qo4
  refine W.seq ?_
  refine W.region ?_
  refine WL.x (X.lss (s32) (s31)) rfl ?_
  refine WL.e6 Nx.thn 1 4 30 31 32 33 (lt rfl (s1)) (lt rfl (s4)) (lt rfl (s30)) (lt rfl (s31)) (lt rfl (s32)) (lh) ?_
  intro σ11 s1 s4 s30 s31 s32 s33
  refine W.seq ?_
  refine W.cndp s33 (fun hlt => ?_) (fun hlt => ?_)
  ·
   have hkl : k < x.2.2.1.length := by omega
   have hl5 := ml5 k
   obtain ⟨b1, o1, cs1, T1, fr1, es1, hva, hml1, hes1, hgl1, hr1⟩ := hs.at (k := k) hkl
   subst hva
   obtain ⟨hma, hna⟩ := hok.an (List.getElem_mem hkl)
   have htk : (x.2.2.1.take (k + 1)).flatMap anT = (x.2.2.1.take k).flatMap anT ++ anT x.2.2.1[k] := fm_take hkl
   obtain ⟨a, ha⟩ : ∃ a, a = x.2.2.1[k] := ⟨_, rfl⟩
   rw [← ha] at hr1 hma hna htk
   obtain ⟨hla1, hla2, hla3⟩ := an_len hma hna
   obtain ⟨ma1, ma2, ma3, ma4, ma5⟩ := mayA_of hma
   obtain ⟨v3, rfl, hs3, hb3⟩ := hr1
   obtain ⟨va3, vc3, rfl⟩ := hs3.len
   have hlq := fun q => fm_take_len (f := whyT) (M := 300) (B := 150) q hla2 ma4
   refine W.skip Nx.thn ?_
   refine W.seq ?_
   refine W.block ?_
   refine W.seq ?_
   refine W.region ?_
   refine WL.x (X.indexAddr Tryz.underlying22 el67 (s30) (s32) (by omega) (by omega)) rfl ?_
   refine WL.x (X.loadS ag67 (lh) (hcl.at0 hml1) hes1 hgl1) rfl ?_
   refine WL.alloc el67 rfl ?_
   intro w11 u9
   obtain ⟨ab, hab⟩ : ∃ ab, ab = w10.heap.size := ⟨_, rfl⟩
   rw [← hab]
   have hE := u9.at_
   rw [← hab] at hE
   have cal := u9.ch
   have hwl := hw.lt
   have hab9 : bw < ab := by omega
   replace hw := hw.ch0 cal
   replace hcl := hcl.trans0 cal
   replace hbx := cal.at0 hbx
   
   have hE0 := hE
   refine WL.storeS (vs := [.int .i64 a.1, .int .i64 a.2.1, .int .i64 a.2.2.1, .int .i64 a.2.2.2.1, .string a.2.2.2.2.1, .int .i64 a.2.2.2.2.2.1, .slice va3 a.2.2.2.2.2.2.1.length vc3, .bool a.2.2.2.2.2.2.2.1, .int .i64 a.2.2.2.2.2.2.2.2]) ag67 (lh) (lt rfl (lh)) rfl hes1 hE (by decide) ?_
   intro w12 us
   replace hE : w12.heap[ab]? = some (.cells #[.int .i64 a.1, .int .i64 a.2.1, .int .i64 a.2.2.1, .int .i64 a.2.2.2.1, .string a.2.2.2.2.1, .int .i64 a.2.2.2.2.2.1, .slice va3 a.2.2.2.2.2.2.1.length vc3, .bool a.2.2.2.2.2.2.2.1, .int .i64 a.2.2.2.2.2.2.2.2] 67 (0, 0)) := us.at_
   have cs := us.ch
   replace hw := hw.step us.ch (fun e => by (try dsimp only at e); omega) (fun j e => ⟨_, _, _, (by have e : j = ab := e; subst e; exact hE0), by decide⟩)
   replace hcl := hcl.trans us.ch (H := fun _ => False) (fun _ _ e => e) (fun j hj e => by (try dsimp only at e); omega)
   replace hbx := us.ch.at hbx (fun e => by (try dsimp only at e); omega)
   refine WL.e6 Nx.thn 1 4 6 30 31 32 (jt2 rfl (lt rfl (s1))) (jt2 rfl (lt rfl (s4))) (lh) (jt2 rfl (lt rfl (s30))) (jt2 rfl (lt rfl (s31))) (jt2 rfl (lt rfl (s32))) ?_
   intro σ12 s1 s4 s6 s30 s31 s32
   refine W.seq ?_
   refine W.held (fun w' => Ch (fun j => bw ≤ j) w12 w' ∧ w'.heap[ab]? = some (.cells #[.int .i64 a.1, .int .i64 a.2.1, .int .i64 a.2.2.1, .int .i64 a.2.2.2.1, .string a.2.2.2.2.1, .int .i64 a.2.2.2.2.2.1, .slice va3 a.2.2.2.2.2.2.1.length vc3, .bool a.2.2.2.2.2.2.2.1, .int .i64 a.2.2.2.2.2.2.2.2] 67 (0, 0))) mo ?_
   intro w13 qhh5 qc6
   have hS : Ch (fun j => bw ≤ j) w12 w13 := Ch.weak qc6
   have hzqc6 := qc6.size
   have cdh11 := qc6
   have hE := cdh11.at0 hE
   replace hw := hw.ch0 cdh11
   replace hcl := hcl.trans0 cdh11
   replace hbx := cdh11.at0 hbx
   refine WH.take 0 rfl (by kernel_rfl) (by kernel_rfl) (by kernel_rfl) (fun _ _ _ h => h) Gd.none rfl (fun w' ⟨hS', hE'⟩ => X.iface Tryz.underlying9 trivial lc) ⟨hS, hE⟩ ?_
   refine WH.take 2 rfl (by kernel_rfl) (by kernel_rfl) (by kernel_rfl) (fun _ _ _ h => h) Gd.none rfl (fun w' ⟨hS', hE'⟩ => X.fieldAddr fd67_0 (lt rfl (s6))) ⟨hS, hE⟩ ?_
   refine WH.take 3 rfl (by kernel_rfl) (by kernel_rfl) (by kernel_rfl) (fun _ _ _ h => h) Gd.none rfl (fun w' ⟨hS', hE'⟩ => X.load pl3 (lh) hE' (v := .int .i64 a.1) rfl) ⟨hS, hE⟩ ?_
   refine WH.take 6 rfl (by kernel_rfl) (by kernel_rfl) (by kernel_rfl) (fun _ _ _ h => h) Gd.none rfl (fun w' ⟨hS', hE'⟩ => X.fieldAddr fd67_1 (jt2 rfl (lt rfl (s6)))) ⟨hS, hE⟩ ?_
   refine WH.take 7 rfl (by kernel_rfl) (by kernel_rfl) (by kernel_rfl) (fun _ _ _ h => h) Gd.none rfl (fun w' ⟨hS', hE'⟩ => X.load pl3 (lh) hE' (v := .int .i64 a.2.1) rfl) ⟨hS, hE⟩ ?_
   refine WH.take 8 rfl (by kernel_rfl) (by kernel_rfl) (by kernel_rfl) (fun _ _ _ h => h) Gd.none rfl (fun w' ⟨hS', hE'⟩ => X.iface Tryz.underlying3 trivial (lh)) ⟨hS, hE⟩ ?_
   refine WH.take 9 rfl (by kernel_rfl) (by kernel_rfl) (by kernel_rfl) (fun _ _ _ h => h) Gd.none rfl (fun w' ⟨hS', hE'⟩ => X.fieldAddr fd67_2 (jt4 rfl (jt2 rfl (s6)))) ⟨hS, hE⟩ ?_
   refine WH.take 10 rfl (by kernel_rfl) (by kernel_rfl) (by kernel_rfl) (fun _ _ _ h => h) Gd.none rfl (fun w' ⟨hS', hE'⟩ => X.load pl3 (lh) hE' (v := .int .i64 a.2.2.1) rfl) ⟨hS, hE⟩ ?_
   refine WH.take 11 rfl (by kernel_rfl) (by kernel_rfl) (by kernel_rfl) (fun _ _ _ h => h) Gd.none rfl (fun w' ⟨hS', hE'⟩ => X.iface Tryz.underlying3 trivial (lh)) ⟨hS, hE⟩ ?_
   refine WH.take 12 rfl (by kernel_rfl) (by kernel_rfl) (by kernel_rfl) (fun _ _ _ h => h) Gd.none rfl (fun w' ⟨hS', hE'⟩ => X.fieldAddr fd67_3 (jt8 rfl (lt rfl (s6)))) ⟨hS, hE⟩ ?_
   refine WH.take 13 rfl (by kernel_rfl) (by kernel_rfl) (by kernel_rfl) (fun _ _ _ h => h) Gd.none rfl (fun w' ⟨hS', hE'⟩ => X.load pl3 (lh) hE' (v := .int .i64 a.2.2.2.1) rfl) ⟨hS, hE⟩ ?_
   refine WH.take 14 rfl (by kernel_rfl) (by kernel_rfl) (by kernel_rfl) (fun _ _ _ h => h) Gd.none rfl (fun w' ⟨hS', hE'⟩ => X.iface Tryz.underlying3 trivial (lh)) ⟨hS, hE⟩ ?_
   refine WH.take 15 rfl (by kernel_rfl) (by kernel_rfl) (by kernel_rfl) (fun _ _ _ h => h) Gd.none rfl (fun w' ⟨hS', hE'⟩ => X.iface Tryz.underlying9 trivial lc) ⟨hS, hE⟩ ?_
   refine WH.take 16 rfl (by kernel_rfl) (by kernel_rfl) (by kernel_rfl) (fun _ _ _ h => h) Gd.none rfl (fun w' ⟨hS', hE'⟩ => X.fieldAddr fd67_4 (jt8 rfl (jt4 rfl (lt rfl (s6))))) ⟨hS, hE⟩ ?_
   refine WH.take 17 rfl (by kernel_rfl) (by kernel_rfl) (by kernel_rfl) (fun _ _ _ h => h) Gd.none rfl (fun w' ⟨hS', hE'⟩ => X.load pl9 (lh) hE' (v := .string a.2.2.2.2.1) rfl) ⟨hS, hE⟩ ?_
   refine WH.take 18 rfl (by kernel_rfl) (by kernel_rfl) (by kernel_rfl) (fun _ _ _ h => h) Gd.none rfl (fun w' ⟨hS', hE'⟩ => X.iface Tryz.underlying9 trivial (lh)) ⟨hS, hE⟩ ?_
   refine WH.take 19 rfl (by kernel_rfl) (by kernel_rfl) (by kernel_rfl) (fun _ _ _ h => h) Gd.none rfl (fun w' ⟨hS', hE'⟩ => X.iface Tryz.underlying9 trivial lc) ⟨hS, hE⟩ ?_
   refine WH.take 20 rfl (by kernel_rfl) (by kernel_rfl) (by kernel_rfl) (fun _ _ _ h => h) Gd.none rfl (fun w' ⟨hS', hE'⟩ => X.fieldAddr fd67_5 (jt8 rfl (jt8 rfl (lt rfl (s6))))) ⟨hS, hE⟩ ?_
   refine WH.take 21 rfl (by kernel_rfl) (by kernel_rfl) (by kernel_rfl) (fun _ _ _ h => h) Gd.none rfl (fun w' ⟨hS', hE'⟩ => X.load pl3 (lh) hE' (v := .int .i64 a.2.2.2.2.2.1) rfl) ⟨hS, hE⟩ ?_
   refine WH.take 22 rfl (by kernel_rfl) (by kernel_rfl) (by kernel_rfl) (fun _ _ _ h => h) Gd.none rfl (fun w' ⟨hS', hE'⟩ => X.iface Tryz.underlying3 trivial (lh)) ⟨hS, hE⟩ ?_
   refine WH.take 23 rfl (by kernel_rfl) (by kernel_rfl) (by kernel_rfl) (fun _ _ _ h => h) Gd.none rfl (fun w' ⟨hS', hE'⟩ => X.fieldAddr fd67_7 (jt8 rfl (jt8 rfl (jt4 rfl (s6))))) ⟨hS, hE⟩ ?_
   refine WH.take 24 rfl (by kernel_rfl) (by kernel_rfl) (by kernel_rfl) (fun _ _ _ h => h) Gd.none rfl (fun w' ⟨hS', hE'⟩ => X.load pl4 (lh) hE' (v := .bool a.2.2.2.2.2.2.2.1) rfl) ⟨hS, hE⟩ ?_
   refine WH.take 27 rfl (by kernel_rfl) (by kernel_rfl) (by kernel_rfl) (fun _ _ _ h => h) Gd.none rfl (fun w' ⟨hS', hE'⟩ => X.fieldAddr fd67_8 (jt8 rfl (jt8 rfl (jt4 rfl (jt2 rfl (s6)))))) ⟨hS, hE⟩ ?_
   refine WH.take 28 rfl (by kernel_rfl) (by kernel_rfl) (by kernel_rfl) (fun _ _ _ h => h) Gd.none rfl (fun w' ⟨hS', hE'⟩ => X.load pl3 (lh) hE' (v := .int .i64 a.2.2.2.2.2.2.2.2) rfl) ⟨hS, hE⟩ ?_
   refine WH.one 1 rfl (by kernel_rfl) (fun _ _ h => h) ?_
   refine WL.call0 ce36  (kinds_ok w13) rfl ?_
   rintro _ w14 ⟨rfl, ck⟩
   replace hw := hw.ch0 ck
   replace hcl := hcl.trans0 ck
   replace hbx := ck.at0 hbx
   replace hE := ck.at0 hE
   have hS := hS.trans ck (fun _ _ => id) (by intro i hi hg; exact False.elim hg)
   refine WL.nil Nx.thn ⟨⟨hS, hE⟩, ?_⟩
   refine WH.take 4 rfl (by kernel_rfl) (by kernel_rfl) (by kernel_rfl) (fun _ _ _ h => h) Gd.none rfl (fun w' ⟨hS', hE'⟩ => X.indexA Tryz.underlying81 pl9 el9 (lh) (jt8 rfl (jt8 rfl (jt4 rfl (jt2 rfl (lh))))) (by omega) (by omega) (kindN_at ma1)) ⟨hS, hE⟩ ?_
   refine WH.take 5 rfl (by kernel_rfl) (by kernel_rfl) (by kernel_rfl) (fun _ _ _ h => h) Gd.none rfl (fun w' ⟨hS', hE'⟩ => X.iface Tryz.underlying9 trivial (lh)) ⟨hS, hE⟩ ?_
   refine WH.one 25 rfl (by kernel_rfl) (fun _ _ h => h) ?_
   refine WL.call3 ce35 (jt4 rfl (lt rfl (lh))) lc lc (either_ok a.2.2.2.2.2.2.2.1 wReal wPlain w14) rfl ?_
   rintro _ _ ⟨rfl, rfl⟩
   refine WL.nil Nx.thn ⟨⟨hS, hE⟩, ?_⟩
   refine WH.take 26 rfl (by kernel_rfl) (by kernel_rfl) (by kernel_rfl) (fun _ _ _ h => h) Gd.none rfl (fun w' ⟨hS', hE'⟩ => X.iface Tryz.underlying9 trivial (lh)) ⟨hS, hE⟩ ?_
   refine WH.one 29 rfl (by kernel_rfl) (fun _ _ h => h) ?_
   refine WL.call1 ce37 (jt4 rfl (lt rfl (lh))) (name_ok a.2.2.2.2.2.2.2.2 w14) rfl ?_
   rintro _ w15 ⟨rfl, cn⟩
   replace hw := hw.ch0 cn
   replace hcl := hcl.trans0 cn
   replace hbx := cn.at0 hbx
   replace hE := cn.at0 hE
   have hS := hS.trans cn (fun _ _ => id) (by intro i hi hg; exact False.elim hg)
   refine WL.nil Nx.thn ⟨⟨hS, hE⟩, ?_⟩
   refine WH.take 30 rfl (by kernel_rfl) (by kernel_rfl) (by kernel_rfl) (fun _ _ _ h => h) Gd.none rfl (fun w' ⟨hS', hE'⟩ => X.iface Tryz.underlying9 trivial (lh)) ⟨hS, hE⟩ ?_
   refine WH.one 31 rfl (by kernel_rfl) (fun _ _ h => h) ?_
   refine WL.bslice Tryz.underlying115 el20 rfl (pcons (jt8 rfl (jt8 rfl (jt8 rfl (jt4 rfl (jt2 rfl (lh)))))) (pcons (jt4 rfl (lh)) (pcons (jt8 rfl (jt8 rfl (jt8 rfl (lt rfl (lh))))) (pcons (jt8 rfl (jt8 rfl (jt4 rfl (jt2 rfl (lh))))) (pcons (jt8 rfl (jt8 rfl (jt2 rfl (lt rfl (lh))))) (pcons (jt8 rfl (jt8 rfl (jt2 rfl (lh)))) (pcons (jt8 rfl (jt4 rfl (jt2 rfl (lt rfl (lh))))) (pcons (jt8 rfl (jt4 rfl (jt2 rfl (lh)))) (pcons (jt8 rfl (jt2 rfl (lt rfl (lh)))) (pcons (jt2 rfl (lh)) (pcons (lh) pnil))))))))))) rfl (rfl : _ = [_, _, _, _, _, _, _, _, _, _, _]) rfl ?_
   intro w16 us; have hu11_31 := us.at_; have cu11_31 := us.ch
   replace hE := us.ch.at0 hE
   have hS := hS.trans cu11_31 (fun _ _ => id) (by intro i hi hg; exact False.elim hg)
   refine WL.nil Nx.thn ⟨⟨hS, hE⟩, ?_⟩
   refine WH.one 32 rfl (by kernel_rfl) (fun _ _ h => h) ?_
   have hPT : putF false [.s wAnomaly, .s (kindN a.1), .n a.2.1, .n a.2.2.1, .n a.2.2.2.1, .s ⟨#[40]⟩, .s a.2.2.2.2.1, .s ⟨#[41]⟩, .n a.2.2.2.2.2.1, .s (bsel a.2.2.2.2.2.2.2.1 wReal wPlain), .s (levelN a.2.2.2.2.2.2.2.2)] = (anH a, true) := pt_an ma1 ma3
   have zw9 := hw.lt
   refine WL.call2 ce33 (jt8 rfl (jt8 rfl (jt8 rfl (jt8 rfl (s4))))) (lh) (put_ok bw bw _ 11 11 [.s wAnomaly, .s (kindN a.1), .n a.2.1, .n a.2.2.1, .n a.2.2.2.1, .s ⟨#[40]⟩, .s a.2.2.2.2.1, .s ⟨#[41]⟩, .n a.2.2.2.2.2.1, .s (bsel a.2.2.2.2.2.2.2.1 wReal wPlain), .s (levelN a.2.2.2.2.2.2.2.2)] ((repA x ++ [10] ++ repB x ++ [10]) ++ (x.2.2.1.take k).flatMap anT) false w16 rfl hu11_31 (by have h9 := hw.lt; omega) (hw.ch0 cu11_31) (by have h9 := hw.lt; have h8 := cu11_31.size; omega) (by rw [hPT]; dsimp only; simp only [List.length_append, List.length_cons, List.length_nil]; omega) (by show 11 ≤ 100; omega) (fun w9 c9 => tab_ch0 hTab ((hcl.trans0 cu11_31).trans c9 (H := fun _ => False) (fun _ _ e => e) (fun j hj e => by (try dsimp only at e); omega))) (pin_s (pin_s (pin_n hna.1 (pin_n hna.2.1 (pin_n hna.2.2.1 (pin_s (pin_s (pin_s (pin_n hna.2.2.2.1 (pin_s (pin_s pin_nil)))))))))))) rfl ?_
   rintro _ w17 ⟨hw, cp, hk⟩
   rw [hPT] at hw
   replace hw : IsW bw bw ((repA x ++ [10] ++ repB x ++ [10]) ++ (x.2.2.1.take k).flatMap anT ++ anH a) true w17 := hw
   replace hcl := hcl.trans0 cu11_31
   replace hbx := cu11_31.at0 hbx
   replace hcl := hcl.trans cp (H := fun _ => False) (fun _ _ e => e) (fun j hj e => by (try dsimp only at e); omega)
   replace hbx := hk _ _ _ _ hbx (by decide) (by omega)
   replace hE := hk _ _ _ _ hE (by decide) (by omega)
   have hS := hS.trans cp (fun _ _ => id) (by intro i hi hg; exact hg)
   refine WL.nil Nx.thn ⟨⟨hS, hE⟩, ?_⟩
   refine WH.done (by kernel_rfl) ?_
   refine WL.e6 Nx.thn 1 4 6 30 31 32 (jt8 rfl (jt8 rfl (jt8 rfl (jt8 rfl (lt rfl (s1)))))) (jt8 rfl (jt8 rfl (jt8 rfl (jt8 rfl (lt rfl (s4)))))) (jt8 rfl (jt8 rfl (jt8 rfl (jt8 rfl (lt rfl (s6)))))) (jt8 rfl (jt8 rfl (jt8 rfl (jt8 rfl (lt rfl (s30)))))) (jt8 rfl (jt8 rfl (jt8 rfl (jt8 rfl (lt rfl (s31)))))) (jt8 rfl (jt8 rfl (jt8 rfl (jt8 rfl (lt rfl (s32)))))) ?_
   intro σ13 s1 s4 s6 s30 s31 s32
   refine W.seq ?_
   refine W.seq ?_
   refine W.region ?_
   refine WL.x (X.fieldAddr fd67_6 (s6)) rfl ?_
   refine WL.x (X.load pl65 (lh) hE (v := .slice va3 a.2.2.2.2.2.2.1.length vc3) rfl) rfl ?_
   refine WL.x (X.lenSl Tryz.underlying65 (lh)) rfl ?_
   refine WL.x (X.mv lc) rfl ?_
   refine WL.e8 Nx.thn 1 4 30 31 32 70 71 72 (jt4 rfl (s1)) (jt4 rfl (s4)) (jt4 rfl (s30)) (jt4 rfl (s31)) (jt4 rfl (s32)) (jt2 rfl (lh)) (lt rfl (lh)) (lh) ?_
   intro σ14 s1 s4 s30 s31 s32 s70 s71 s72
   refine W.block ?_
   have qo7 := s1
   have qo8 := s4
   have qo9 := s30
   have qo10 := s31
   have qo11 := s32
   have qo12 := s70
   have qo13 := s71
   -- loop 1: kept [1, 4, 30, 31, 32, 70, 71], varied [72]
   refine W.loop (G := Nat) (fun q σ' w' => (σ' 1 = σ14 1 ∧ σ' 4 = σ14 4 ∧ σ' 30 = σ14 30 ∧ σ' 31 = σ14 31 ∧ σ' 32 = σ14 32 ∧ σ' 70 = σ14 70 ∧ σ' 71 = σ14 71 ∧ True) ∧ (σ' 72 = .int .i64 (q : Int) ∧ q ≤ a.2.2.2.2.2.2.1.length ∧ IsW bw bw ((repA x ++ [10] ++ repB x ++ [10]) ++ (x.2.2.1.take k).flatMap anT ++ anH a ++ (a.2.2.2.2.2.2.1.take q).flatMap whyT) true w' ∧ w'.heap[xb]? = some (.cells RC 25 (0, 0)) ∧ Ch0 w w')) (fun q => a.2.2.2.2.2.2.1.length - q) (0) ⟨⟨rfl, rfl, rfl, rfl, rfl, rfl, rfl, trivial⟩, s72, by omega, (by simpa using hw), hbx, hcl⟩ ?_
   rintro q σ15 w18 ⟨⟨f1, f4, f30, f31, f32, f70, f71, _⟩, s72, hq9, hw, hbx, hcl⟩
   have s1 := f1.trans qo7
   have s4 := f4.trans qo8
   have s30 := f30.trans qo9
   have s31 := f31.trans qo10
   have s32 := f32.trans qo11
   have s70 := f70.trans qo12
   have s71 := f71.trans qo13
   refine W.seq ?_
   refine W.region ?_
   refine WL.x (X.lss (s72) (s71)) rfl ?_
   refine WL.e9 Nx.thn 1 4 30 31 32 70 71 72 73 (lt rfl (s1)) (lt rfl (s4)) (lt rfl (s30)) (lt rfl (s31)) (lt rfl (s32)) (lt rfl (s70)) (lt rfl (s71)) (lt rfl (s72)) (lh) ?_
   intro σ16 s1 s4 s30 s31 s32 s70 s71 s72 s73
   refine W.seq ?_
   refine W.cndp s73 (fun hltq => ?_) (fun hltq => ?_)
   ·
    have hql : q < a.2.2.2.2.2.2.1.length := by omega
    have hlq9 := hlq q
    obtain ⟨b2, o2, cs2, T2, fr2, es2, hva2, hml2, hes2, hgl2, hr2⟩ := hs3.at (k := q) hql
    subst hva2
    have hmy := ma5 _ (List.getElem_mem hql)
    have hny := hna.2.2.2.2 _ (List.getElem_mem hql)
    have htq : (a.2.2.2.2.2.2.1.take (q + 1)).flatMap whyT = (a.2.2.2.2.2.2.1.take q).flatMap whyT ++ whyT a.2.2.2.2.2.2.1[q] := fm_take hql
    have hly := hla2 _ (List.getElem_mem hql)
    obtain ⟨y, hy⟩ : ∃ y, y = a.2.2.2.2.2.2.1[q] := ⟨_, rfl⟩
    rw [← hy] at hr2 hmy hny htq hly
    obtain ⟨rfl, -, -⟩ := hr2
    have hlab := (mayW_of hmy).1
    refine W.skip Nx.thn ?_
    refine W.seq ?_
    refine W.block ?_
    refine W.seq ?_
    refine W.region ?_
    refine WL.x (X.indexAddr Tryz.underlying65 el85 (s70) (s72) (by omega) (by omega)) rfl ?_
    refine WL.x (X.loadS ag85 (lh) (hcl.at0 hml2) hes2 hgl2) rfl ?_
    refine WL.alloc el85 rfl ?_
    intro w19 u9
    obtain ⟨yb, hyb⟩ : ∃ yb, yb = w18.heap.size := ⟨_, rfl⟩
    rw [← hyb]
    have hE := u9.at_
    rw [← hyb] at hE
    have cal := u9.ch
    have hwl := hw.lt
    have hyb9 : bw < yb := by omega
    replace hw := hw.ch0 cal
    replace hcl := hcl.trans0 cal
    replace hbx := cal.at0 hbx
    
    have hE0 := hE
    refine WL.storeS (vs := whyCells y) ag85 (lh) (lt rfl (lh)) rfl hes2 hE (by decide) ?_
    intro w20 us
    replace hE : w20.heap[yb]? = some (.cells (whyCells y).toArray 85 (0, 0)) := us.at_
    have cs := us.ch
    replace hw := hw.step us.ch (fun e => by (try dsimp only at e); omega) (fun j e => ⟨_, _, _, (by have e : j = yb := e; subst e; exact hE0), by decide⟩)
    replace hcl := hcl.trans us.ch (H := fun _ => False) (fun _ _ e => e) (fun j hj e => by (try dsimp only at e); omega)
    replace hbx := us.ch.at hbx (fun e => by (try dsimp only at e); omega)
    refine WL.e9 Nx.thn 1 4 8 30 31 32 70 71 72 (jt2 rfl (lt rfl (s1))) (jt2 rfl (lt rfl (s4))) (lh) (jt2 rfl (lt rfl (s30))) (jt2 rfl (lt rfl (s31))) (jt2 rfl (lt rfl (s32))) (jt2 rfl (lt rfl (s70))) (jt2 rfl (lt rfl (s71))) (jt2 rfl (lt rfl (s72))) ?_
    intro σ17 s1 s4 s8 s30 s31 s32 s70 s71 s72
    refine W.held (fun w' => Ch (fun j => bw ≤ j) w20 w' ∧ w'.heap[yb]? = some (.cells (whyCells y).toArray 85 (0, 0))) mo ?_
    intro w21 qhh14 qc15
    have hS : Ch (fun j => bw ≤ j) w20 w21 := Ch.weak qc15
    have hzqc15 := qc15.size
    have cdh15 := qc15
    have hE := cdh15.at0 hE
    replace hw := hw.ch0 cdh15
    replace hcl := hcl.trans0 cdh15
    replace hbx := cdh15.at0 hbx
    refine WH.take 0 rfl (by kernel_rfl) (by kernel_rfl) (by kernel_rfl) (fun _ _ _ h => h) Gd.none rfl (fun w' ⟨hS', hE'⟩ => X.iface Tryz.underlying9 trivial lc) ⟨hS, hE⟩ ?_
    refine WH.take 1 rfl (by kernel_rfl) (by kernel_rfl) (by kernel_rfl) (fun _ _ _ h => h) Gd.none rfl (fun w' ⟨hS', hE'⟩ => X.fieldAddr fd85_0 (lt rfl (s8))) ⟨hS, hE⟩ ?_
    refine WH.take 2 rfl (by kernel_rfl) (by kernel_rfl) (by kernel_rfl) (fun _ _ _ h => h) Gd.none rfl (fun w' ⟨hS', hE'⟩ => X.load pl3 (lh) hE' (v := .int .i64 y.1) rfl) ⟨hS, hE⟩ ?_
    refine WH.take 3 rfl (by kernel_rfl) (by kernel_rfl) (by kernel_rfl) (fun _ _ _ h => h) Gd.none rfl (fun w' ⟨hS', hE'⟩ => X.iface Tryz.underlying3 trivial (lh)) ⟨hS, hE⟩ ?_
    refine WH.take 4 rfl (by kernel_rfl) (by kernel_rfl) (by kernel_rfl) (fun _ _ _ h => h) Gd.none rfl (fun w' ⟨hS', hE'⟩ => X.fieldAddr fd85_2 (jt4 rfl (s8))) ⟨hS, hE⟩ ?_
    refine WH.take 5 rfl (by kernel_rfl) (by kernel_rfl) (by kernel_rfl) (fun _ _ _ h => h) Gd.none rfl (fun w' ⟨hS', hE'⟩ => X.load pl3 (lh) hE' (v := .int .i64 y.2.2.1) rfl) ⟨hS, hE⟩ ?_
    refine WH.take 8 rfl (by kernel_rfl) (by kernel_rfl) (by kernel_rfl) (fun _ _ _ h => h) Gd.none rfl (fun w' ⟨hS', hE'⟩ => X.fieldAddr fd85_1 (jt4 rfl (jt2 rfl (s8)))) ⟨hS, hE⟩ ?_
    refine WH.take 9 rfl (by kernel_rfl) (by kernel_rfl) (by kernel_rfl) (fun _ _ _ h => h) Gd.none rfl (fun w' ⟨hS', hE'⟩ => X.load pl3 (lh) hE' (v := .int .i64 y.2.1) rfl) ⟨hS, hE⟩ ?_
    refine WH.take 10 rfl (by kernel_rfl) (by kernel_rfl) (by kernel_rfl) (fun _ _ _ h => h) Gd.none rfl (fun w' ⟨hS', hE'⟩ => X.iface Tryz.underlying3 trivial (lh)) ⟨hS, hE⟩ ?_
    refine WH.take 11 rfl (by kernel_rfl) (by kernel_rfl) (by kernel_rfl) (fun _ _ _ h => h) Gd.none rfl (fun w' ⟨hS', hE'⟩ => X.iface Tryz.underlying9 trivial lc) ⟨hS, hE⟩ ?_
    refine WH.take 12 rfl (by kernel_rfl) (by kernel_rfl) (by kernel_rfl) (fun _ _ _ h => h) Gd.none rfl (fun w' ⟨hS', hE'⟩ => X.fieldAddr fd85_3 (jt8 rfl (jt2 rfl (s8)))) ⟨hS, hE⟩ ?_
    refine WH.take 13 rfl (by kernel_rfl) (by kernel_rfl) (by kernel_rfl) (fun _ _ _ h => h) Gd.none rfl (fun w' ⟨hS', hE'⟩ => X.load pl9 (lh) hE' (v := .string y.2.2.2.1) rfl) ⟨hS, hE⟩ ?_
    refine WH.take 14 rfl (by kernel_rfl) (by kernel_rfl) (by kernel_rfl) (fun _ _ _ h => h) Gd.none rfl (fun w' ⟨hS', hE'⟩ => X.iface Tryz.underlying9 trivial (lh)) ⟨hS, hE⟩ ?_
    refine WH.take 15 rfl (by kernel_rfl) (by kernel_rfl) (by kernel_rfl) (fun _ _ _ h => h) Gd.none rfl (fun w' ⟨hS', hE'⟩ => X.iface Tryz.underlying9 trivial lc) ⟨hS, hE⟩ ?_
    refine WH.take 16 rfl (by kernel_rfl) (by kernel_rfl) (by kernel_rfl) (fun _ _ _ h => h) Gd.none rfl (fun w' ⟨hS', hE'⟩ => X.fieldAddr fd85_4 (jt8 rfl (jt4 rfl (jt2 rfl (s8))))) ⟨hS, hE⟩ ?_
    refine WH.take 17 rfl (by kernel_rfl) (by kernel_rfl) (by kernel_rfl) (fun _ _ _ h => h) Gd.none rfl (fun w' ⟨hS', hE'⟩ => X.load pl3 (lh) hE' (v := .int .i64 y.2.2.2.2.1) rfl) ⟨hS, hE⟩ ?_
    refine WH.take 18 rfl (by kernel_rfl) (by kernel_rfl) (by kernel_rfl) (fun _ _ _ h => h) Gd.none rfl (fun w' ⟨hS', hE'⟩ => X.iface Tryz.underlying3 trivial (lh)) ⟨hS, hE⟩ ?_
    refine WH.take 19 rfl (by kernel_rfl) (by kernel_rfl) (by kernel_rfl) (fun _ _ _ h => h) Gd.none rfl (fun w' ⟨hS', hE'⟩ => X.fieldAddr fd85_5 (jt8 rfl (jt8 rfl (lt rfl (s8))))) ⟨hS, hE⟩ ?_
    refine WH.take 20 rfl (by kernel_rfl) (by kernel_rfl) (by kernel_rfl) (fun _ _ _ h => h) Gd.none rfl (fun w' ⟨hS', hE'⟩ => X.load pl3 (lh) hE' (v := .int .i64 y.2.2.2.2.2.1) rfl) ⟨hS, hE⟩ ?_
    refine WH.take 21 rfl (by kernel_rfl) (by kernel_rfl) (by kernel_rfl) (fun _ _ _ h => h) Gd.none rfl (fun w' ⟨hS', hE'⟩ => X.iface Tryz.underlying3 trivial (lh)) ⟨hS, hE⟩ ?_
    refine WH.take 22 rfl (by kernel_rfl) (by kernel_rfl) (by kernel_rfl) (fun _ _ _ h => h) Gd.none rfl (fun w' ⟨hS', hE'⟩ => X.fieldAddr fd85_6 (jt8 rfl (jt8 rfl (jt4 rfl (s8))))) ⟨hS, hE⟩ ?_
    refine WH.take 23 rfl (by kernel_rfl) (by kernel_rfl) (by kernel_rfl) (fun _ _ _ h => h) Gd.none rfl (fun w' ⟨hS', hE'⟩ => X.load pl4 (lh) hE' (v := .bool y.2.2.2.2.2.2.1) rfl) ⟨hS, hE⟩ ?_
    refine WH.take 26 rfl (by kernel_rfl) (by kernel_rfl) (by kernel_rfl) (fun _ _ _ h => h) Gd.none rfl (fun w' ⟨hS', hE'⟩ => X.fieldAddr fd85_7 (jt8 rfl (jt8 rfl (jt4 rfl (jt2 rfl (s8)))))) ⟨hS, hE⟩ ?_
    refine WH.take 27 rfl (by kernel_rfl) (by kernel_rfl) (by kernel_rfl) (fun _ _ _ h => h) Gd.none rfl (fun w' ⟨hS', hE'⟩ => X.load pl4 (lh) hE' (v := .bool y.2.2.2.2.2.2.2) rfl) ⟨hS, hE⟩ ?_
    refine WH.take 30 rfl (by kernel_rfl) (by kernel_rfl) (by kernel_rfl) (fun _ _ _ h => h) Gd.none rfl (fun w' ⟨hS', hE'⟩ => X.iface Tryz.underlying9 trivial lc) ⟨hS, hE⟩ ?_
    refine WH.one 6 rfl (by kernel_rfl) (fun _ _ h => h) ?_
    refine WL.call1 ce38 (jt8 rfl (jt8 rfl (jt2 rfl (lt rfl (lh))))) (label_ok y.2.2.1 w21) rfl ?_
    rintro _ w22 ⟨rfl, cn⟩
    replace hw := hw.ch0 cn
    replace hcl := hcl.trans0 cn
    replace hbx := cn.at0 hbx
    replace hE := cn.at0 hE
    have hS := hS.trans cn (fun _ _ => id) (by intro i hi hg; exact False.elim hg)
    refine WL.nil Nx.thn ⟨⟨hS, hE⟩, ?_⟩
    refine WH.take 7 rfl (by kernel_rfl) (by kernel_rfl) (by kernel_rfl) (fun _ _ _ h => h) Gd.none rfl (fun w' ⟨hS', hE'⟩ => X.iface Tryz.underlying9 trivial (lh)) ⟨hS, hE⟩ ?_
    refine WH.one 24 rfl (by kernel_rfl) (fun _ _ h => h) ?_
    refine WL.call3 ce35 (jt4 rfl (lt rfl (lh))) lc lc (either_ok y.2.2.2.2.2.2.1 wNil wValue w22) rfl ?_
    rintro _ _ ⟨rfl, rfl⟩
    refine WL.nil Nx.thn ⟨⟨hS, hE⟩, ?_⟩
    refine WH.take 25 rfl (by kernel_rfl) (by kernel_rfl) (by kernel_rfl) (fun _ _ _ h => h) Gd.none rfl (fun w' ⟨hS', hE'⟩ => X.iface Tryz.underlying9 trivial (lh)) ⟨hS, hE⟩ ?_
    refine WH.one 28 rfl (by kernel_rfl) (fun _ _ h => h) ?_
    refine WL.call3 ce35 (jt4 rfl (lt rfl (lh))) lc lc (either_ok y.2.2.2.2.2.2.2 wCond wSure w22) rfl ?_
    rintro _ _ ⟨rfl, rfl⟩
    refine WL.nil Nx.thn ⟨⟨hS, hE⟩, ?_⟩
    refine WH.take 29 rfl (by kernel_rfl) (by kernel_rfl) (by kernel_rfl) (fun _ _ _ h => h) Gd.none rfl (fun w' ⟨hS', hE'⟩ => X.iface Tryz.underlying9 trivial (lh)) ⟨hS, hE⟩ ?_
    refine WH.one 31 rfl (by kernel_rfl) (fun _ _ h => h) ?_
    refine WL.bslice Tryz.underlying115 el20 rfl (pcons (jt8 rfl (jt8 rfl (jt8 rfl (jt4 rfl (jt2 rfl (lh)))))) (pcons (jt8 rfl (jt8 rfl (jt8 rfl (jt2 rfl (lt rfl (lh)))))) (pcons (jt4 rfl (lh)) (pcons (jt8 rfl (jt8 rfl (jt4 rfl (jt2 rfl (lh))))) (pcons (jt8 rfl (jt8 rfl (jt4 rfl (lt rfl (lh))))) (pcons (jt8 rfl (jt8 rfl (jt2 rfl (lh)))) (pcons (jt8 rfl (jt8 rfl (lt rfl (lh)))) (pcons (jt8 rfl (jt4 rfl (jt2 rfl (lh)))) (pcons (jt8 rfl (jt2 rfl (lt rfl (lh)))) (pcons (jt2 rfl (lh)) (pcons (lh) (pcons (jt4 rfl (jt2 rfl (lh))) pnil)))))))))))) rfl (rfl : _ = [_, _, _, _, _, _, _, _, _, _, _, _]) rfl ?_
    intro w23 us; have hu15_31 := us.at_; have cu15_31 := us.ch
    replace hE := us.ch.at0 hE
    have hS := hS.trans cu15_31 (fun _ _ => id) (by intro i hi hg; exact False.elim hg)
    refine WL.nil Nx.thn ⟨⟨hS, hE⟩, ?_⟩
    refine WH.one 32 rfl (by kernel_rfl) (fun _ _ h => h) ?_
    have hPT : putF true [.s ⟨#[91]⟩, .n y.1, .s (labelN y.2.2.1), .n y.2.1, .s ⟨#[40]⟩, .s y.2.2.2.1, .s ⟨#[41]⟩, .n y.2.2.2.2.1, .n y.2.2.2.2.2.1, .s (bsel y.2.2.2.2.2.2.1 wNil wValue), .s (bsel y.2.2.2.2.2.2.2 wCond wSure), .s ⟨#[93]⟩] = (whyT y, true) := pt_why hlab
    have zw9 := hw.lt
    refine WL.call2 ce33 (jt8 rfl (jt8 rfl (jt8 rfl (jt8 rfl (s4))))) (lh) (put_ok bw bw _ 12 12 [.s ⟨#[91]⟩, .n y.1, .s (labelN y.2.2.1), .n y.2.1, .s ⟨#[40]⟩, .s y.2.2.2.1, .s ⟨#[41]⟩, .n y.2.2.2.2.1, .n y.2.2.2.2.2.1, .s (bsel y.2.2.2.2.2.2.1 wNil wValue), .s (bsel y.2.2.2.2.2.2.2 wCond wSure), .s ⟨#[93]⟩] ((repA x ++ [10] ++ repB x ++ [10]) ++ (x.2.2.1.take k).flatMap anT ++ anH a ++ (a.2.2.2.2.2.2.1.take q).flatMap whyT) true w23 rfl hu15_31 (by have h9 := hw.lt; omega) (hw.ch0 cu15_31) (by have h9 := hw.lt; have h8 := cu15_31.size; omega) (by rw [hPT]; dsimp only; simp only [List.length_append, List.length_cons, List.length_nil]; omega) (by show 12 ≤ 100; omega) (fun w9 c9 => tab_ch0 hTab ((hcl.trans0 cu15_31).trans c9 (H := fun _ => False) (fun _ _ e => e) (fun j hj e => by (try dsimp only at e); omega))) (pin_s (pin_n hny.1 (pin_s (pin_n hny.2.1 (pin_s (pin_s (pin_s (pin_n hny.2.2.1 (pin_n hny.2.2.2 (pin_s (pin_s (pin_s pin_nil))))))))))))) rfl ?_
    rintro _ w24 ⟨hw, cp, hk⟩
    rw [hPT] at hw
    replace hw : IsW bw bw ((repA x ++ [10] ++ repB x ++ [10]) ++ (x.2.2.1.take k).flatMap anT ++ anH a ++ (a.2.2.2.2.2.2.1.take q).flatMap whyT ++ whyT y) true w24 := hw
    replace hcl := hcl.trans0 cu15_31
    replace hbx := cu15_31.at0 hbx
    replace hcl := hcl.trans cp (H := fun _ => False) (fun _ _ e => e) (fun j hj e => by (try dsimp only at e); omega)
    replace hbx := hk _ _ _ _ hbx (by decide) (by omega)
    replace hE := hk _ _ _ _ hE (by decide) (by omega)
    have hS := hS.trans cp (fun _ _ => id) (by intro i hi hg; exact hg)
    refine WL.nil Nx.thn ⟨⟨hS, hE⟩, ?_⟩
    refine WH.done (by kernel_rfl) ?_
    refine WL.e8 (Nx.blk Nx.thn) 1 4 30 31 32 70 71 72 (jt8 rfl (jt8 rfl (jt8 rfl (jt8 rfl (lt rfl (s1)))))) (jt8 rfl (jt8 rfl (jt8 rfl (jt8 rfl (lt rfl (s4)))))) (jt8 rfl (jt8 rfl (jt8 rfl (jt8 rfl (lt rfl (s30)))))) (jt8 rfl (jt8 rfl (jt8 rfl (jt8 rfl (lt rfl (s31)))))) (jt8 rfl (jt8 rfl (jt8 rfl (jt8 rfl (lt rfl (s32)))))) (jt8 rfl (jt8 rfl (jt8 rfl (jt8 rfl (lt rfl (s70)))))) (jt8 rfl (jt8 rfl (jt8 rfl (jt8 rfl (lt rfl (s71)))))) (jt8 rfl (jt8 rfl (jt8 rfl (jt8 rfl (lt rfl (s72)))))) ?_
    intro σ18 s1 s4 s30 s31 s32 s70 s71 s72
    refine W.region ?_
    refine WL.x (X.add (s72) lc (by omega) (by omega)) rfl ?_
    refine WL.x (X.mv (lh)) rfl ?_
    refine WL.e8 Nx.thn 1 4 30 31 32 70 71 72 (jt2 rfl (s1)) (jt2 rfl (s4)) (jt2 rfl (s30)) (jt2 rfl (s31)) (jt2 rfl (s32)) (jt2 rfl (s70)) (jt2 rfl (s71)) (lh) ?_
    intro σ19 s1 s4 s30 s31 s32 s70 s71 s72
    refine ⟨q + 1, by omega, ⟨s1.trans qo7.symm, s4.trans qo8.symm, s30.trans qo9.symm, s31.trans qo10.symm, s32.trans qo11.symm, s70.trans qo12.symm, s71.trans qo13.symm, trivial⟩, s72, by omega, (by rw [htq, ← List.append_assoc]; exact hw), hbx, hcl⟩
   ·
    have hlq9 := hlq q
    refine W.exit (Nx.xthn (Nx.xthn (Nx.xblk Nx.thn))) ?_
    refine W.region ?_
    refine WL.call1 ce34 (s4) (line_ok bw bw ((repA x ++ [10] ++ repB x ++ [10]) ++ (x.2.2.1.take k).flatMap anT ++ anH a ++ (a.2.2.2.2.2.2.1.take q).flatMap whyT) true w18 hw (by simp only [List.length_append, List.length_cons, List.length_nil]; omega) (Nat.le_of_lt hw.lt)) rfl ?_
    rintro _ w25 ⟨hw, cp, hk⟩
    replace hcl := hcl.trans cp (H := fun _ => False) (fun _ _ e => e) (fun j hj e => by (try dsimp only at e); omega)
    replace hbx := hk _ _ _ _ hbx (by decide) (by omega)
    refine WL.e5 (Nx.blk Nx.thn) 1 4 30 31 32 (lt rfl (s1)) (lt rfl (s4)) (lt rfl (s30)) (lt rfl (s31)) (lt rfl (s32)) ?_
    intro σ20 s1 s4 s30 s31 s32
    refine W.region ?_
    refine WL.x (X.add (s32) lc (by omega) (by omega)) rfl ?_
    refine WL.x (X.mv (lh)) rfl ?_
    refine WL.e5 Nx.thn 1 4 30 31 32 (jt2 rfl (s1)) (jt2 rfl (s4)) (jt2 rfl (s30)) (jt2 rfl (s31)) (lh) ?_
    intro σ21 s1 s4 s30 s31 s32
    refine ⟨k + 1, by omega, ⟨s1.trans qo1.symm, s4.trans qo2.symm, s30.trans qo3.symm, s31.trans qo4.symm, trivial⟩, s32, by omega, (by rw [htk, anT_eq]; rw [show q = a.2.2.2.2.2.2.1.length by omega, List.take_length] at hw; simpa only [List.append_assoc] using hw), hbx, hcl⟩
  ·
   have hl5 := ml5 x.2.2.1.length
   rw [List.take_length] at hl5
   replace hw : IsW bw bw ((repA x ++ [10] ++ repB x ++ [10]) ++ x.2.2.1.flatMap anT) false w10 := by rw [show k = x.2.2.1.length by omega, List.take_length] at hw; exact hw
   refine W.exit (Nx.xthn (Nx.xthn (Nx.xblk Nx.thn))) ?_
   refine W.seq ?_
   refine W.region ?_
   refine WL.x (X.iface Tryz.underlying9 trivial lc) rfl ?_
   refine WL.x (X.fieldAddr fd25_3 (lt rfl (s1))) rfl ?_
   refine WL.x (X.load pl3 (lh) hbx (v := .int .i64 x.2.2.2.1) (by rw [hRC]; rfl)) rfl ?_
   refine WL.call1 ce37 (lh) (name_ok x.2.2.2.1 w10) rfl ?_
   rintro _ w26 ⟨rfl, cn⟩
   replace hw := hw.ch0 cn
   replace hcl := hcl.trans0 cn
   replace hbx := cn.at0 hbx
   refine WL.x (X.iface Tryz.underlying9 trivial (lh)) rfl ?_
   refine WL.bslice Tryz.underlying115 el20 rfl (pcons (jt4 rfl (lh)) (pcons (lh) pnil)) rfl (rfl : _ = [_, _]) rfl ?_
   intro w27 u19_5; have hu19_5 := u19_5.at_; have cu19_5 := u19_5.ch; have zu19_5 := u19_5.size
   have hPT : putF false [.s wLevel, .s (levelN x.2.2.2.1)] = (repL x, true) := pt_L mm3
   have zw9 := hw.lt
   refine WL.call2 ce33 (jt4 rfl (jt2 rfl (s4))) (lh) (put_ok bw bw _ 2 2 [.s wLevel, .s (levelN x.2.2.2.1)] ((repA x ++ [10] ++ repB x ++ [10]) ++ x.2.2.1.flatMap anT) false w27 rfl hu19_5 (by have h9 := hw.lt; omega) (hw.ch0 cu19_5) (by have h9 := hw.lt; have h8 := cu19_5.size; omega) (by rw [hPT]; dsimp only; simp only [List.length_append, List.length_cons, List.length_nil]; omega) (by show 2 ≤ 100; omega) (fun w9 c9 => tab_ch0 hTab ((hcl.trans0 cu19_5).trans c9 (H := fun _ => False) (fun _ _ e => e) (fun j hj e => by (try dsimp only at e); omega))) (pin_s (pin_s pin_nil))) rfl ?_
   rintro _ w28 ⟨hw, cp, hk⟩
   rw [hPT] at hw
   replace hw : IsW bw bw ((repA x ++ [10] ++ repB x ++ [10]) ++ x.2.2.1.flatMap anT ++ repL x) true w28 := hw
   replace hcl := hcl.trans0 cu19_5
   replace hbx := cu19_5.at0 hbx
   replace hcl := hcl.trans cp (H := fun _ => False) (fun _ _ e => e) (fun j hj e => by (try dsimp only at e); omega)
   replace hbx := hk _ _ _ _ hbx (by decide) (by omega)
   refine WL.e2 Nx.thn 1 4 (jt4 rfl (jt2 rfl (lt rfl (s1)))) (jt4 rfl (jt2 rfl (lt rfl (s4)))) ?_
   intro σ22 s1 s4
   refine W.seq ?_
   refine W.region ?_
   refine WL.call1 ce34 (s4) (line_ok bw bw ((repA x ++ [10] ++ repB x ++ [10]) ++ x.2.2.1.flatMap anT ++ repL x) true w28 hw (by simp only [List.length_append, List.length_cons, List.length_nil]; omega) (Nat.le_of_lt hw.lt)) rfl ?_
   rintro _ w29 ⟨hw, cp, hk⟩
   replace hcl := hcl.trans cp (H := fun _ => False) (fun _ _ e => e) (fun j hj e => by (try dsimp only at e); omega)
   replace hbx := hk _ _ _ _ hbx (by decide) (by omega)
   refine WL.e2 Nx.thn 1 4 (lt rfl (s1)) (lt rfl (s4)) ?_
   intro σ23 s1 s4
   refine W.seq ?_
   refine W.held (fun w' => Ch (fun j => bw ≤ j) w29 w' ∧ w'.heap[xb]? = some (.cells RC 25 (0, 0))) mo ?_
   intro w30 qhh16 qc17
   have hS : Ch (fun j => bw ≤ j) w29 w30 := Ch.weak qc17
   have hzqc17 := qc17.size
   have cdh21 := qc17
   replace hw := hw.ch0 cdh21
   replace hcl := hcl.trans0 cdh21
   replace hbx := cdh21.at0 hbx
   have hE := hbx
   refine WH.take 0 rfl (by kernel_rfl) (by kernel_rfl) (by kernel_rfl) (fun _ _ _ h => h) Gd.none rfl (fun w' ⟨hS', hE'⟩ => X.iface Tryz.underlying9 trivial lc) ⟨hS, hE⟩ ?_
   refine WH.take 2 rfl (by kernel_rfl) (by kernel_rfl) (by kernel_rfl) (fun _ _ _ h => h) Gd.none rfl (fun w' ⟨hS', hE'⟩ => X.fieldAddr fd25_4 (lt rfl (s1))) ⟨hS, hE⟩ ?_
   refine WH.take 3 rfl (by kernel_rfl) (by kernel_rfl) (by kernel_rfl) (fun _ _ _ h => h) Gd.none rfl (fun w' ⟨hS', hE'⟩ => X.load pl3 (lh) hE' (v := .int .i64 x.2.2.2.2.1) (by rw [hRC]; rfl)) ⟨hS, hE⟩ ?_
   refine WH.one 1 rfl (by kernel_rfl) (fun _ _ h => h) ?_
   refine WL.call0 ce39  (answers_ok w30) rfl ?_
   rintro _ w31 ⟨rfl, ck⟩
   replace hw := hw.ch0 ck
   replace hcl := hcl.trans0 ck
   replace hbx := ck.at0 hbx
   replace hE := ck.at0 hE
   have hS := hS.trans ck (fun _ _ => id) (by intro i hi hg; exact False.elim hg)
   refine WL.nil Nx.thn ⟨⟨hS, hE⟩, ?_⟩
   refine WH.take 4 rfl (by kernel_rfl) (by kernel_rfl) (by kernel_rfl) (fun _ _ _ h => h) Gd.none rfl (fun w' ⟨hS', hE'⟩ => X.indexA Tryz.underlying86 pl9 el9 (lh) (lt rfl (lh)) (by omega) (by omega) (answerN_at mm4)) ⟨hS, hE⟩ ?_
   refine WH.take 5 rfl (by kernel_rfl) (by kernel_rfl) (by kernel_rfl) (fun _ _ _ h => h) Gd.none rfl (fun w' ⟨hS', hE'⟩ => X.iface Tryz.underlying9 trivial (lh)) ⟨hS, hE⟩ ?_
   refine WH.one 6 rfl (by kernel_rfl) (fun _ _ h => h) ?_
   refine WL.bslice Tryz.underlying115 el20 rfl (pcons (jt4 rfl (lt rfl (lh))) (pcons (lh) pnil)) rfl (rfl : _ = [_, _]) rfl ?_
   intro w32 us; have hu21_6 := us.at_; have cu21_6 := us.ch
   replace hE := us.ch.at0 hE
   have hS := hS.trans cu21_6 (fun _ _ => id) (by intro i hi hg; exact False.elim hg)
   refine WL.nil Nx.thn ⟨⟨hS, hE⟩, ?_⟩
   refine WH.one 7 rfl (by kernel_rfl) (fun _ _ h => h) ?_
   have hPT : putF false [.s wAnswer, .s (answerN x.2.2.2.2.1)] = (repW x, true) := pt_W mm4
   have zw9 := hw.lt
   refine WL.call2 ce33 (jt4 rfl (jt2 rfl (lt rfl (s4)))) (lh) (put_ok bw bw _ 2 2 [.s wAnswer, .s (answerN x.2.2.2.2.1)] ((repA x ++ [10] ++ repB x ++ [10]) ++ x.2.2.1.flatMap anT ++ repL x ++ [10]) false w32 rfl hu21_6 (by have h9 := hw.lt; omega) (hw.ch0 cu21_6) (by have h9 := hw.lt; have h8 := cu21_6.size; omega) (by rw [hPT]; dsimp only; simp only [List.length_append, List.length_cons, List.length_nil]; omega) (by show 2 ≤ 100; omega) (fun w9 c9 => tab_ch0 hTab ((hcl.trans0 cu21_6).trans c9 (H := fun _ => False) (fun _ _ e => e) (fun j hj e => by (try dsimp only at e); omega))) (pin_s (pin_s pin_nil))) rfl ?_
   rintro _ w33 ⟨hw, cp, hk⟩
   rw [hPT] at hw
   replace hw : IsW bw bw ((repA x ++ [10] ++ repB x ++ [10]) ++ x.2.2.1.flatMap anT ++ repL x ++ [10] ++ repW x) true w33 := hw
   replace hcl := hcl.trans0 cu21_6
   replace hbx := cu21_6.at0 hbx
   replace hcl := hcl.trans cp (H := fun _ => False) (fun _ _ e => e) (fun j hj e => by (try dsimp only at e); omega)
   replace hbx := hk _ _ _ _ hbx (by decide) (by omega)
   replace hE := hk _ _ _ _ hE (by decide) (by omega)
   have hS := hS.trans cp (fun _ _ => id) (by intro i hi hg; exact hg)
   refine WL.nil Nx.thn ⟨⟨hS, hE⟩, ?_⟩
   refine WH.done (by kernel_rfl) ?_
   refine WL.e2 Nx.thn 1 4 (jt8 rfl (s1)) (jt8 rfl (s4)) ?_
   intro σ24 s1 s4
   have qo18 := s4
   refine W.seqJ (fun σ' w' => (σ' 4 = σ24 4 ∧ True) ∧ IsW bw bw ((repA x ++ [10] ++ repB x ++ [10]) ++ x.2.2.1.flatMap anT ++ repL x ++ [10] ++ repW x ++ ordT x.2.2.2.2.1 x.2.2.2.2.2) true w' ∧ w'.heap[xb]? = some (.cells RC 25 (0, 0)) ∧ Ch0 w w' ∧ (ordT x.2.2.2.2.1 x.2.2.2.2.2).length ≤ 6700) ?_ ?_
   ·
    refine W.seq ?_
    refine W.region ?_
    refine WL.x (X.fieldAddr fd25_4 (s1)) rfl ?_
    refine WL.x (X.load pl3 (lh) hbx (v := .int .i64 x.2.2.2.2.1) (by rw [hRC]; rfl)) rfl ?_
    refine WL.x (X.eql (lh) lc) rfl ?_
    refine WL.e3 Nx.thn 1 4 130 (jt2 rfl (lt rfl (s1))) (jt2 rfl (lt rfl (s4))) (lh) ?_
    intro σ25 s1 s4 s130
    refine W.cndp s130 (fun hyes => ?_) (fun hyes => ?_)
    ·
     refine W.seq ?_
     refine W.region ?_
     refine WL.x (X.iface Tryz.underlying9 trivial lc) rfl ?_
     refine WL.bslice Tryz.underlying115 el20 rfl (pcons (lh) pnil) rfl (rfl : _ = [_]) rfl ?_
     intro w34 u23_1; have hu23_1 := u23_1.at_; have cu23_1 := u23_1.ch; have zu23_1 := u23_1.size
     have hPT : putF true [.s ⟨#[40]⟩] = ([32, 40], true) := pt_o
     have zw9 := hw.lt
     refine WL.call2 ce33 (jt2 rfl (s4)) (lh) (put_ok bw bw _ 1 1 [.s ⟨#[40]⟩] ((repA x ++ [10] ++ repB x ++ [10]) ++ x.2.2.1.flatMap anT ++ repL x ++ [10] ++ repW x) true w34 rfl hu23_1 (by have h9 := hw.lt; omega) (hw.ch0 cu23_1) (by have h9 := hw.lt; have h8 := cu23_1.size; omega) (by rw [hPT]; dsimp only; simp only [List.length_append, List.length_cons, List.length_nil]; omega) (by show 1 ≤ 100; omega) (fun w9 c9 => tab_ch0 hTab ((hcl.trans0 cu23_1).trans c9 (H := fun _ => False) (fun _ _ e => e) (fun j hj e => by (try dsimp only at e); omega))) (pin_s pin_nil)) rfl ?_
     rintro _ w35 ⟨hw, cp, hk⟩
     rw [hPT] at hw
     replace hw : IsW bw bw ((repA x ++ [10] ++ repB x ++ [10]) ++ x.2.2.1.flatMap anT ++ repL x ++ [10] ++ repW x ++ [32, 40]) true w35 := hw
     replace hcl := hcl.trans0 cu23_1
     replace hbx := cu23_1.at0 hbx
     replace hcl := hcl.trans cp (H := fun _ => False) (fun _ _ e => e) (fun j hj e => by (try dsimp only at e); omega)
     replace hbx := hk _ _ _ _ hbx (by decide) (by omega)
     refine WL.e2 Nx.thn 1 4 (jt2 rfl (lt rfl (s1))) (jt2 rfl (lt rfl (s4))) ?_
     intro σ26 s1 s4
     refine W.seq ?_
     refine W.seq ?_
     refine W.region ?_
     refine WL.x (X.fieldAddr fd25_5 (s1)) rfl ?_
     refine WL.x (X.load pl23 (lh) hbx (v := .slice ua x.2.2.2.2.2.length uc) (by rw [hRC]; rfl)) rfl ?_
     refine WL.x (X.lenSl Tryz.underlying23 (lh)) rfl ?_
     refine WL.x (X.mv lc) rfl ?_
     refine WL.e4 Nx.thn 4 135 136 137 (jt4 rfl (s4)) (jt2 rfl (lh)) (lt rfl (lh)) (lh) ?_
     intro σ27 s4 s135 s136 s137
     refine W.block ?_
     have qo19 := s4
     have qo20 := s135
     have qo21 := s136
     -- loop 2: kept [4, 135, 136], varied [137]
     refine W.loop (G := Nat) (fun j σ' w' => (σ' 4 = σ27 4 ∧ σ' 135 = σ27 135 ∧ σ' 136 = σ27 136 ∧ True) ∧ (σ' 137 = .int .i64 (j : Int) ∧ j ≤ x.2.2.2.2.2.length ∧ IsW bw bw ((repA x ++ [10] ++ repB x ++ [10]) ++ x.2.2.1.flatMap anT ++ repL x ++ [10] ++ repW x ++ [32, 40] ++ (x.2.2.2.2.2.take j).flatMap valT) true w' ∧ w'.heap[xb]? = some (.cells RC 25 (0, 0)) ∧ Ch0 w w')) (fun j => x.2.2.2.2.2.length - j) (0) ⟨⟨rfl, rfl, rfl, trivial⟩, s137, by omega, (by simpa using hw), hbx, hcl⟩ ?_
     rintro j σ28 w36 ⟨⟨f4, f135, f136, _⟩, s137, hj9, hw, hbx, hcl⟩
     have s4 := f4.trans qo19
     have s135 := f135.trans qo20
     have s136 := f136.trans qo21
     refine W.seq ?_
     refine W.region ?_
     refine WL.x (X.lss (s137) (s136)) rfl ?_
     refine WL.e5 Nx.thn 4 135 136 137 138 (lt rfl (s4)) (lt rfl (s135)) (lt rfl (s136)) (lt rfl (s137)) (lh) ?_
     intro σ29 s4 s135 s136 s137 s138
     refine W.seq ?_
     refine W.cndp s138 (fun hltj => ?_) (fun hltj => ?_)
     ·
      have hjl : j < x.2.2.2.2.2.length := by omega
      have hl6 := ml6 j
      obtain ⟨gb, og, csg, Tg, frg, hgv, hg1, hg2⟩ := ho.1.at (k := j) (by rw [List.length_map]; omega)
      subst hgv
      have hzj := hnum.2.2 x.2.2.2.2.2[j] (List.getElem_mem hjl)
      have hvj := valT_len hzj
      have htj : (x.2.2.2.2.2.take (j + 1)).flatMap valT = (x.2.2.2.2.2.take j).flatMap valT ++ valT x.2.2.2.2.2[j] := fm_take hjl
      refine W.skip Nx.thn ?_
      refine W.seq ?_
      refine W.block ?_
      refine W.seq ?_
      refine W.region ?_
      refine WL.x (X.indexAddr Tryz.underlying23 el3 (s135) (s137) (by omega) (by omega)) rfl ?_
      refine WL.x (X.load pl3 (lh) (hcl.at0 hg1) (v := .int .i64 x.2.2.2.2.2[j]) (by rw [show og + (j : Int).toNat * 1 = og + j by omega, hg2 j (by rw [List.length_map]; omega), List.getElem?_map, List.getElem?_eq_getElem (by omega)]; rfl)) rfl ?_
      refine WL.x (X.asg (lh)) rfl ?_
      refine WL.e5 Nx.thn 4 10 135 136 137 (jt2 rfl (lt rfl (s4))) (lh) (jt2 rfl (lt rfl (s135))) (jt2 rfl (lt rfl (s136))) (jt2 rfl (lt rfl (s137))) ?_
      intro σ30 s4 s10 s135 s136 s137
      refine W.region ?_
      refine WL.x (X.mv (s10)) rfl ?_
      refine WL.x (X.iface Tryz.underlying3 trivial (lh)) rfl ?_
      refine WL.bslice Tryz.underlying115 el20 rfl (pcons (lh) pnil) rfl (rfl : _ = [_]) rfl ?_
      intro w37 u27_2; have hu27_2 := u27_2.at_; have cu27_2 := u27_2.ch; have zu27_2 := u27_2.size
      have hPT : putF true [.n x.2.2.2.2.2[j]] = (valT x.2.2.2.2.2[j], true) := pt_n _
      have zw9 := hw.lt
      refine WL.call2 ce33 (jt2 rfl (lt rfl (s4))) (lh) (put_ok bw bw _ 1 1 [.n x.2.2.2.2.2[j]] ((repA x ++ [10] ++ repB x ++ [10]) ++ x.2.2.1.flatMap anT ++ repL x ++ [10] ++ repW x ++ [32, 40] ++ (x.2.2.2.2.2.take j).flatMap valT) true w37 rfl hu27_2 (by have h9 := hw.lt; omega) (hw.ch0 cu27_2) (by have h9 := hw.lt; have h8 := cu27_2.size; omega) (by rw [hPT]; dsimp only; simp only [List.length_append, List.length_cons, List.length_nil]; omega) (by show 1 ≤ 100; omega) (fun w9 c9 => tab_ch0 hTab ((hcl.trans0 cu27_2).trans c9 (H := fun _ => False) (fun _ _ e => e) (fun j hj e => by (try dsimp only at e); omega))) (pin_n hzj pin_nil)) rfl ?_
      rintro _ w38 ⟨hw, cp, hk⟩
      rw [hPT] at hw
      replace hw : IsW bw bw ((repA x ++ [10] ++ repB x ++ [10]) ++ x.2.2.1.flatMap anT ++ repL x ++ [10] ++ repW x ++ [32, 40] ++ (x.2.2.2.2.2.take j).flatMap valT ++ valT x.2.2.2.2.2[j]) true w38 := hw
      replace hcl := hcl.trans0 cu27_2
      replace hbx := cu27_2.at0 hbx
      replace hcl := hcl.trans cp (H := fun _ => False) (fun _ _ e => e) (fun j hj e => by (try dsimp only at e); omega)
      replace hbx := hk _ _ _ _ hbx (by decide) (by omega)
      refine WL.e4 (Nx.blk Nx.thn) 4 135 136 137 (jt4 rfl (s4)) (jt4 rfl (s135)) (jt4 rfl (s136)) (jt4 rfl (s137)) ?_
      intro σ31 s4 s135 s136 s137
      refine W.region ?_
      refine WL.x (X.add (s137) lc (by omega) (by omega)) rfl ?_
      refine WL.x (X.mv (lh)) rfl ?_
      refine WL.e4 Nx.thn 4 135 136 137 (jt2 rfl (s4)) (jt2 rfl (s135)) (jt2 rfl (s136)) (lh) ?_
      intro σ32 s4 s135 s136 s137
      refine ⟨j + 1, by omega, ⟨s4.trans qo19.symm, s135.trans qo20.symm, s136.trans qo21.symm, trivial⟩, s137, by omega, (by rw [htj, ← List.append_assoc]; exact hw), hbx, hcl⟩
     ·
      have hl6 := ml6 j
      refine W.exit (Nx.xthn (Nx.xthn (Nx.xblk Nx.thn))) ?_
      refine W.region ?_
      refine WL.x (X.iface Tryz.underlying9 trivial lc) rfl ?_
      refine WL.bslice Tryz.underlying115 el20 rfl (pcons (lh) pnil) rfl (rfl : _ = [_]) rfl ?_
      intro w39 u29_1; have hu29_1 := u29_1.at_; have cu29_1 := u29_1.ch; have zu29_1 := u29_1.size
      have hPT : putF true [.s ⟨#[41]⟩] = ([32, 41], true) := pt_c
      have zw9 := hw.lt
      refine WL.call2 ce33 (jt2 rfl (s4)) (lh) (put_ok bw bw _ 1 1 [.s ⟨#[41]⟩] ((repA x ++ [10] ++ repB x ++ [10]) ++ x.2.2.1.flatMap anT ++ repL x ++ [10] ++ repW x ++ [32, 40] ++ (x.2.2.2.2.2.take j).flatMap valT) true w39 rfl hu29_1 (by have h9 := hw.lt; omega) (hw.ch0 cu29_1) (by have h9 := hw.lt; have h8 := cu29_1.size; omega) (by rw [hPT]; dsimp only; simp only [List.length_append, List.length_cons, List.length_nil]; omega) (by show 1 ≤ 100; omega) (fun w9 c9 => tab_ch0 hTab ((hcl.trans0 cu29_1).trans c9 (H := fun _ => False) (fun _ _ e => e) (fun j hj e => by (try dsimp only at e); omega))) (pin_s pin_nil)) rfl ?_
      rintro _ w40 ⟨hw, cp, hk⟩
      rw [hPT] at hw
      replace hw : IsW bw bw ((repA x ++ [10] ++ repB x ++ [10]) ++ x.2.2.1.flatMap anT ++ repL x ++ [10] ++ repW x ++ [32, 40] ++ (x.2.2.2.2.2.take j).flatMap valT ++ [32, 41]) true w40 := hw
      replace hcl := hcl.trans0 cu29_1
      replace hbx := cu29_1.at0 hbx
      replace hcl := hcl.trans cp (H := fun _ => False) (fun _ _ e => e) (fun j hj e => by (try dsimp only at e); omega)
      replace hbx := hk _ _ _ _ hbx (by decide) (by omega)
      refine WL.e1 Nx.thn 4 (jt2 rfl (lt rfl (s4))) ?_
      intro σ33 s4
      refine ⟨⟨s4.trans qo18.symm, trivial⟩, (by rw [ordT_yes hyes]; rw [show j = x.2.2.2.2.2.length by omega, List.take_length] at hw; simpa only [List.append_assoc] using hw), hbx, hcl, (by rw [ordT_yes hyes]; have h9 := ml6 x.2.2.2.2.2.length; rw [List.take_length] at h9; simp only [List.length_append, List.length_cons, List.length_nil]; omega)⟩
    ·
     refine W.skip Nx.thn ?_
     refine ⟨⟨s4.trans qo18.symm, trivial⟩, (by rw [ordT_no hyes, List.append_nil]; exact hw), hbx, hcl, (by rw [ordT_no hyes]; exact Nat.zero_le _)⟩
   ·
    rintro σ34 w41 ⟨⟨f4, _⟩, hw, hbx, hcl, hlo⟩
    have s4 := f4.trans qo18
    refine W.seq ?_
    refine W.region ?_
    refine WL.call1 ce34 (s4) (line_ok bw bw ((repA x ++ [10] ++ repB x ++ [10]) ++ x.2.2.1.flatMap anT ++ repL x ++ [10] ++ repW x ++ ordT x.2.2.2.2.1 x.2.2.2.2.2) true w41 hw (by simp only [List.length_append, List.length_cons, List.length_nil]; omega) (Nat.le_of_lt hw.lt)) rfl ?_
    rintro _ w42 ⟨hw, cp, hk⟩
    replace hcl := hcl.trans cp (H := fun _ => False) (fun _ _ e => e) (fun j hj e => by (try dsimp only at e); omega)
    replace hbx := hk _ _ _ _ hbx (by decide) (by omega)
    refine WL.e1 Nx.thn 4 (lt rfl (s4)) ?_
    intro σ35 s4
    refine W.seq ?_
    refine W.region ?_
    refine WL.x (X.fieldAddr fd78_0 (s4)) rfl ?_
    refine WL.call1 ce40 (lh) (wst_ok bw bw _ false w42 hw (by simp)) rfl ?_
    rintro _ w43 ⟨rfl, cs⟩
    replace hcl := hcl.trans cs (H := fun _ => False) (fun _ _ e => e) (fun j hj e => by (try dsimp only at e); omega)
    refine WL.x (X.asg (lh)) rfl ?_
    refine WL.x (X.asg lc) rfl ?_
    refine WL.e2 Nx.thn 2 3 (lt rfl (lh)) (lh) ?_
    intro σ36 s2 s3
    refine W.ret2 Nx.f2 s2 s3 ?_
    exact ⟨by rw [(prQ_yes hmay).1, (prQ_yes hmay).2, repT_eq]; unfold repH; rfl, hcl⟩
end Go.Proofs.YtbnllchicnmkiaaGreatDoor
end

section
set_option linter.unusedVariables false
set_option linter.unusedSimpArgs false
set_option maxRecDepth 100000
namespace Go.Proofs.YtbnllchicnmkiaaGreatDoor
open Go Go.RowKit Sg
theorem ce43 : Sg.Callee Tryz.prog 43 := ⟨_, Tryz.func43, by decide, rfl⟩
set_option maxHeartbeats 6400000 in
theorem rprint_ok (A : Nat → Prop) (x : GRep) (es : List Value) (w : World) (h : RRep A w es x) :
  Sg.Ret Tryz.prog 12 #[.agg es.toArray] w fun v w' => v = .tuple #[.string (bs (prQ x)), .int .i64 (prE x)] ∧ Ch0 w w' := by
 have hh := h
 have hnum := rrep_num h
 obtain ⟨v, u, rfl, hs, ho, hb⟩ := h
 obtain ⟨va, vc, rfl⟩ := hs.len
 obtain ⟨ua, uc, hu⟩ := ho.1.len
 rw [List.length_map] at hu
 subst hu
 refine enter2 (n := 68) (l := [.agg #[.int .i64 x.1, .bool x.2.1, .slice va x.2.2.1.length vc, .int .i64 x.2.2.2.1, .int .i64 x.2.2.2.2.1, .slice ua x.2.2.2.2.2.length uc]]) Tryz.func12 rfl rfl rfl rfl ?_
 refine W.g1 0 (v1 := .agg #[.int .i64 x.1, .bool x.2.1, .slice va x.2.2.1.length vc, .int .i64 x.2.2.2.1, .int .i64 x.2.2.2.2.1, .slice ua x.2.2.2.2.2.length uc]) rfl ?_; intro σ s0
 refine W.seq ?_
 refine W.region ?_
 refine WL.box (s0) rfl ?_
 intro w1 u0_0; have hu0_0 := u0_0.at_; have cu0_0 := u0_0.ch; have zu0_0 := u0_0.size
 refine WL.x (X.asg lc) rfl ?_
 refine WL.x (X.asg lc) rfl ?_
 refine WL.e1 Nx.thn 1 (jt2 rfl (lh)) ?_
 intro σ1 s1
 refine W.seq ?_
 refine W.seq ?_
 refine W.region ?_
 refine WL.x (X.loadBox (vs := [.int .i64 x.1, .bool x.2.1, .slice va x.2.2.1.length vc, .int .i64 x.2.2.2.1, .int .i64 x.2.2.2.2.1, .slice ua x.2.2.2.2.2.length uc]) ag25 (s1) hu0_0 rfl) rfl ?_
 refine WL.call1 ce29 (lh) (rcan_ok A x _ w1 (monRep _ _ _ _ _ _ _ cu0_0 (fun _ _ => id) (fun _ => id) hh)) rfl ?_
 rintro _ w2 ⟨rfl, c0⟩
 refine WL.x (X.not (lh)) rfl ?_
 refine WL.e2 Nx.thn 1 11 (jt2 rfl (lt rfl (s1))) (lh) ?_
 intro σ2 s1 s11
 refine W.cnd s11 (fun hcan => ?_) (fun hcan => ?_)
 ·
  refine W.seq ?_
  refine W.region ?_
  refine WL.x (X.asg lc) rfl ?_
  refine WL.x (X.asg lc) rfl ?_
  refine WL.e2 Nx.thn 2 3 (lt rfl (lh)) (lh) ?_
  intro σ3 s2 s3
  refine W.ret2 (Nx.rthn Nx.f2) s2 s3 ?_
  have hmn : mayR keyE x = false := by simpa using hcan
  exact ⟨by rw [(prQ_no hmn).1, (prQ_no hmn).2]; rfl, cu0_0.trans0 c0⟩
 ·
  have hmay : mayR keyE x = true := by simpa using hcan
  have hok : PrOk x := ⟨hmay, hnum⟩
  obtain ⟨ml1, ml2, ml3, ml4, ml5, ml6⟩ := hok.lens
  obtain ⟨mm1, mm2, mm3, mm4, mm5, mm6, -⟩ := mayR_of hmay
  have z1 := valT_len hnum.1
  have z2 := sz_yes x.2.1
  have z3 := lvl_sz x.2.2.2.1
  have z4 := ans_sz x.2.2.2.2.1
  have zH : (repH x).length ≤ 70 := by unfold repH; simp only [List.length_append, List.length_cons, List.length_nil]; omega
  refine W.skip Nx.thn ?_
  refine W.seq ?_
  refine W.held (fun w' => Ch (fun _ => False) w2 w') mo ?_
  intro w3 qhh1 qc2
  have hS : Ch (fun _ => False) w2 w3 := Ch.weak qc2
  have hzqc2 := qc2.size
  have cdh3 := qc2
  refine WH.take 0 rfl (by kernel_rfl) (by kernel_rfl) (by kernel_rfl) (fun _ _ _ h => h) Gd.none rfl (fun w' hS' => X.fieldAddr fd25_0 (s1)) hS ?_
  refine WH.take 1 rfl (by kernel_rfl) (by kernel_rfl) (by kernel_rfl) (fun _ _ _ h => h) Gd.none rfl (fun w' hS' => X.load pl3 (lh) (by exact hS'.at (c0.at0 (by assumption)) (by intro hne; exact hne)) (by rfl)) hS ?_
  refine WH.take 5 rfl (by kernel_rfl) (by kernel_rfl) (by kernel_rfl) (fun _ _ _ h => h) Gd.none rfl (fun w' hS' => X.fieldAddr fd25_1 (jt2 rfl (s1))) hS ?_
  refine WH.take 6 rfl (by kernel_rfl) (by kernel_rfl) (by kernel_rfl) (fun _ _ _ h => h) Gd.none rfl (fun w' hS' => X.load pl4 (lh) (by exact hS'.at (c0.at0 (by assumption)) (by intro hne; exact hne)) (by rfl)) hS ?_
  refine WH.one 2 rfl (by kernel_rfl) (fun _ _ h => h) ?_
  refine WL.call1 ce41 (jt2 rfl (lh)) (rnumt_ok x.1 w3 hnum.1) rfl ?_
  rintro _ w4 ⟨rfl, c1⟩
  have hS := hS.trans c1 (fun _ _ => id) (by intro i hi hg; exact hg)
  refine WL.nil Nx.thn ⟨hS, ?_⟩
  refine WH.take 3 rfl (by kernel_rfl) (by kernel_rfl) (by kernel_rfl) (fun _ _ _ h => h) Gd.none rfl (fun w' hS' => X.addS lc (lh) (by simp only [ByteArray.size_append, szl, size_bs, List.size_toArray, List.length_cons, List.length_nil, List.length_append]; omega)) hS ?_
  refine WH.take 4 rfl (by kernel_rfl) (by kernel_rfl) (by kernel_rfl) (fun _ _ _ h => h) Gd.none rfl (fun w' hS' => X.addS (lh) lc (by simp only [ByteArray.size_append, szl, size_bs, List.size_toArray, List.length_cons, List.length_nil, List.length_append]; omega)) hS ?_
  refine WH.one 7 rfl (by kernel_rfl) (fun _ _ h => h) ?_
  refine WL.call3 ce42 (jt2 rfl (lt rfl (lh))) lc lc (reither_ok x.2.1 wYes wNo w4) rfl ?_
  rintro _ _ ⟨rfl, rfl⟩
  refine WL.nil Nx.thn ⟨hS, ?_⟩
  refine WH.take 8 rfl (by kernel_rfl) (by kernel_rfl) (by kernel_rfl) (fun _ _ _ h => h) Gd.none rfl (fun w' hS' => X.addS (lt rfl (lh)) (lh) (by simp only [ByteArray.size_append, szl, size_bs, List.size_toArray, List.length_cons, List.length_nil, List.length_append]; omega)) hS ?_
  refine WH.take 9 rfl (by kernel_rfl) (by kernel_rfl) (by kernel_rfl) (fun _ _ _ h => h) Gd.none rfl (fun w' hS' => X.addS (lh) lc (by simp only [ByteArray.size_append, szl, size_bs, List.size_toArray, List.length_cons, List.length_nil, List.length_append]; omega)) hS ?_
  refine WH.take 10 rfl (by kernel_rfl) (by kernel_rfl) (by kernel_rfl) (fun _ _ _ h => h) Gd.none rfl (fun w' hS' => X.asg (lh)) hS ?_
  refine WH.done (by kernel_rfl) ?_
  refine WL.e2 Nx.thn 1 4 (jt8 rfl (jt2 rfl (lt rfl (s1)))) (lh) ?_
  intro σ4 s1 s4
  refine W.seq ?_
  refine W.seq ?_
  refine W.region ?_
  refine WL.x (X.fieldAddr fd25_2 (s1)) rfl ?_
  refine WL.x (X.load pl22 (lh) (by exact hS.at (c0.at0 (by assumption)) (by intro hne; exact hne)) (v := .slice va x.2.2.1.length vc) rfl) rfl ?_
  refine WL.x (X.lenSl Tryz.underlying22 (lh)) rfl ?_
  refine WL.x (X.mv lc) rfl ?_
  refine WL.e5 Nx.thn 1 4 23 24 25 (jt4 rfl (s1)) (jt4 rfl (s4)) (jt2 rfl (lh)) (lt rfl (lh)) (lh) ?_
  intro σ5 s1 s4 s23 s24 s25
  refine W.block ?_
  have qo3 := s1
  have qo4 := s23
  have qo5 := s24
  -- loop 0: kept [1, 23, 24], varied [4, 25]
  refine W.loop (G := Nat) (fun k σ' w' => (σ' 1 = σ5 1 ∧ σ' 23 = σ5 23 ∧ σ' 24 = σ5 24 ∧ True) ∧ (∃ S, σ' 4 = .string S ∧ σ' 25 = .int .i64 (k : Int) ∧ sb S = repH x ++ (x.2.2.1.take k).flatMap anT ∧ k ≤ x.2.2.1.length ∧ Ch0 w1 w')) (fun k => x.2.2.1.length - k) (0) ⟨⟨rfl, rfl, rfl, trivial⟩, _, s4, s25, (by simp only [sb_app, sb_bs, sb_mk, List.take_zero, List.flatMap_nil, List.append_nil]; unfold repH repA repB wT; simp only [List.append_assoc]; rfl), by omega, c0.trans0 hS⟩ ?_
  rintro k σ6 w5 ⟨⟨f1, f23, f24, _⟩, S, s4, s25, hSe, hk9, hcl⟩
  have s1 := f1.trans qo3
  have s23 := f23.trans qo4
  have s24 := f24.trans qo5
  refine W.seq ?_
  refine W.region ?_
  refine WL.x (X.lss (s25) (s24)) rfl ?_
  refine WL.e6 Nx.thn 1 4 23 24 25 26 (lt rfl (s1)) (lt rfl (s4)) (lt rfl (s23)) (lt rfl (s24)) (lt rfl (s25)) (lh) ?_
  intro σ7 s1 s4 s23 s24 s25 s26
  refine W.seq ?_
  refine W.cndp s26 (fun hlt => ?_) (fun hlt => ?_)
  ·
   have hkl : k < x.2.2.1.length := by omega
   have hl5 := ml5 k
   obtain ⟨b1, o1, cs1, T1, fr1, es1, hva, hml1, hes1, hgl1, hr1⟩ := (hs.ch0 monAn (cu0_0.trans0 hcl)).at (k := k) hkl
   subst hva
   obtain ⟨hma, hna⟩ := hok.an (List.getElem_mem hkl)
   have htk : (x.2.2.1.take (k + 1)).flatMap anT = (x.2.2.1.take k).flatMap anT ++ anT x.2.2.1[k] := fm_take hkl
   obtain ⟨a, ha⟩ : ∃ a, a = x.2.2.1[k] := ⟨_, rfl⟩
   rw [← ha] at hr1 hma hna htk
   obtain ⟨hla1, hla2, hla3⟩ := an_len hma hna
   have hone1 : es1.all (·.oneCell') = true := RAn_one hr1
   have hSz := sb_len S
   rw [hSe] at hSz
   simp only [List.length_append, List.length_cons, List.length_nil] at hSz
   refine W.skip Nx.thn ?_
   refine W.seq ?_
   refine W.block ?_
   refine W.seq ?_
   refine W.region ?_
   refine WL.x (X.indexAddr Tryz.underlying22 el67 (s23) (s25) (by omega) (by omega)) rfl ?_
   refine WL.x (X.loadS ag67 (lh) hml1 hes1 hgl1) rfl ?_
   refine WL.alloc el67 rfl ?_
   intro w6 u6_2; have hu6_2 := u6_2.at_; have cu6_2 := u6_2.ch; have zu6_2 := u6_2.size
   refine WL.storeS (vs := es1) ag67 (lh) (lt rfl (lh)) hone1 hes1 hu6_2 (by decide) ?_
   intro w7 us
   have hwv := us.at_
   rw [blit_all (by rw [hes1]; rfl)] at hwv
   have cs5 := us.ch
   have zcl := hcl.size
   have hc95 := cu6_2.trans cs5 (H := fun _ => False) (fun _ _ e => e) (fun q hq e => by (try dsimp only at e); omega)
   have hc5 := hcl.trans0 hc95
   refine WL.e6 Nx.thn 1 4 6 23 24 25 (jt2 rfl (lt rfl (s1))) (jt2 rfl (lt rfl (s4))) (lh) (jt2 rfl (lt rfl (s23))) (jt2 rfl (lt rfl (s24))) (jt2 rfl (lt rfl (s25))) ?_
   intro σ8 s1 s4 s6 s23 s24 s25
   refine W.region ?_
   refine WL.x (X.mv (s4)) rfl ?_
   refine WL.x (X.loadBox (vs := es1) ag67 (lt rfl (s6)) hwv hes1) rfl ?_
   refine WL.call1 ce43 (lh) (ranom_ok A a es1 w7 (monAn _ _ _ _ _ _ _ hc95 (fun _ _ => id) (fun _ => id) hr1) hma) rfl ?_
   rintro _ w8 ⟨rfl, c2⟩
   refine WL.x (X.addS (jt2 rfl (lh)) (lh) (by simp only [ByteArray.size_append, szl, size_bs, List.size_toArray, List.length_cons, List.length_nil, List.length_append]; omega)) rfl ?_
   refine WL.x (X.asg (lh)) rfl ?_
   refine WL.e5 (Nx.blk Nx.thn) 1 4 23 24 25 (jt4 rfl (lt rfl (s1))) (lh) (jt4 rfl (lt rfl (s23))) (jt4 rfl (lt rfl (s24))) (jt4 rfl (lt rfl (s25))) ?_
   intro σ9 s1 s4 s23 s24 s25
   refine W.region ?_
   refine WL.x (X.add (s25) lc (by omega) (by omega)) rfl ?_
   refine WL.x (X.mv (lh)) rfl ?_
   refine WL.e5 Nx.thn 1 4 23 24 25 (jt2 rfl (s1)) (jt2 rfl (s4)) (jt2 rfl (s23)) (jt2 rfl (s24)) (lh) ?_
   intro σ10 s1 s4 s23 s24 s25
   refine ⟨k + 1, by omega, ⟨s1.trans qo3.symm, s23.trans qo4.symm, s24.trans qo5.symm, trivial⟩, _, s4, s25, (by rw [htk, sb_app, sb_bs, hSe]; simp only [List.append_assoc]), by omega, hc5.trans0 c2⟩
  ·
   have hl5 := ml5 x.2.2.1.length
   rw [List.take_length] at hl5
   rw [show k = x.2.2.1.length by omega, List.take_length] at hSe
   have hSz := sb_len S
   rw [hSe] at hSz
   simp only [List.length_append, List.length_cons, List.length_nil] at hSz
   refine W.exit (Nx.xthn (Nx.xthn (Nx.xblk Nx.thn))) ?_
   refine W.seq ?_
   refine W.held (fun w' => Ch (fun _ => False) w5 w') mo ?_
   intro w9 qhh6 qc7
   have hS : Ch (fun _ => False) w5 w9 := Ch.weak qc7
   have hzqc7 := qc7.size
   have cdh9 := qc7
   refine WH.take 0 rfl (by kernel_rfl) (by kernel_rfl) (by kernel_rfl) (fun _ _ _ h => h) Gd.none rfl (fun w' hS' => X.mv (s4)) hS ?_
   refine WH.take 1 rfl (by kernel_rfl) (by kernel_rfl) (by kernel_rfl) (fun _ _ _ h => h) Gd.none rfl (fun w' hS' => X.fieldAddr fd25_3 (lt rfl (s1))) hS ?_
   refine WH.take 2 rfl (by kernel_rfl) (by kernel_rfl) (by kernel_rfl) (fun _ _ _ h => h) Gd.none rfl (fun w' hS' => X.load pl3 (lh) (by exact hS'.at (hcl.at0 (by assumption)) (by intro hne; exact hne)) (by rfl)) hS ?_
   refine WH.take 7 rfl (by kernel_rfl) (by kernel_rfl) (by kernel_rfl) (fun _ _ _ h => h) Gd.none rfl (fun w' hS' => X.fieldAddr fd25_4 (jt2 rfl (lt rfl (s1)))) hS ?_
   refine WH.take 8 rfl (by kernel_rfl) (by kernel_rfl) (by kernel_rfl) (fun _ _ _ h => h) Gd.none rfl (fun w' hS' => X.load pl3 (lh) (by exact hS'.at (hcl.at0 (by assumption)) (by intro hne; exact hne)) (by rfl)) hS ?_
   refine WH.two 3 6 rfl rfl (by kernel_rfl) (fun _ _ h => h) ?_ ?_
   ·
    refine WL.call1 ce44 (jt2 rfl (lh)) (rname_ok x.2.2.2.1 w9) rfl ?_
    rintro _ w10 ⟨rfl, c5⟩
    have hS := hS.trans c5 (fun _ _ => id) (by intro i hi hg; exact hg)
    refine WL.nil Nx.thn ⟨hS, ?_⟩
    refine WH.take 4 rfl (by kernel_rfl) (by kernel_rfl) (by kernel_rfl) (fun _ _ _ h => h) Gd.none rfl (fun w' hS' => X.addS lc (lh) (by simp only [ByteArray.size_append, szl, size_bs, List.size_toArray, List.length_cons, List.length_nil, List.length_append]; omega)) hS ?_
    refine WH.take 5 rfl (by kernel_rfl) (by kernel_rfl) (by kernel_rfl) (fun _ _ _ h => h) Gd.none rfl (fun w' hS' => X.addS (lh) lc (by simp only [ByteArray.size_append, szl, size_bs, List.size_toArray, List.length_cons, List.length_nil, List.length_append]; omega)) hS ?_
    refine WH.one 6 rfl (by kernel_rfl) (fun _ _ h => h) ?_
    refine WL.bslice Tryz.underlying39 el9 rfl (pcons lc (pcons lc (pcons lc (pcons lc pnil)))) rfl (rfl : _ = [_, _, _, _]) rfl ?_
    intro w11 us
    obtain ⟨g, hg⟩ : ∃ g, g = w10.heap.size := ⟨_, rfl⟩
    have hE := us.at_
    rw [← hg] at hE ⊢
    have cb := us.ch
    have hS := hS.trans cb (fun _ _ => id) (by intro i hi hg; exact hg)
    refine WL.nil Nx.thn ⟨hS, ?_⟩
    refine WH.grow (S' := fun w' => Ch (fun _ => False) w5 w' ∧ w'.heap[g]? = some (.cells (AWS.map Value.string).toArray 9 (0, 0))) (fun _ h => h.1) ?_
    refine WH.take 9 rfl (by kernel_rfl) (by kernel_rfl) (by kernel_rfl) (fun _ _ _ h => h) Gd.none rfl (fun w' ⟨hS', hE'⟩ => X.indexAddr Tryz.underlying39 el9 (lh) (jt4 rfl (lh)) (by omega) (by omega)) ⟨hS, hE⟩ ?_
    refine WH.take 10 rfl (by kernel_rfl) (by kernel_rfl) (by kernel_rfl) (fun _ _ _ h => h) Gd.none rfl (fun w' ⟨hS', hE'⟩ => X.load pl9 (lh) hE' (v := .string (answerN x.2.2.2.2.1)) (answerW_at mm4)) ⟨hS, hE⟩ ?_
    refine WH.take 11 rfl (by kernel_rfl) (by kernel_rfl) (by kernel_rfl) (fun _ _ _ h => h) Gd.none rfl (fun w' ⟨hS', hE'⟩ => X.addS (jt2 rfl (lt rfl (lh))) (lh) (by simp only [ByteArray.size_append, szl, size_bs, List.size_toArray, List.length_cons, List.length_nil, List.length_append]; omega)) ⟨hS, hE⟩ ?_
    refine WH.take 12 rfl (by kernel_rfl) (by kernel_rfl) (by kernel_rfl) (fun _ _ _ h => h) Gd.none rfl (fun w' ⟨hS', hE'⟩ => X.addS (jt8 rfl (jt2 rfl (lt rfl (lh)))) (lh) (by simp only [ByteArray.size_append, szl, size_bs, List.size_toArray, List.length_cons, List.length_nil, List.length_append]; omega)) ⟨hS, hE⟩ ?_
    refine WH.take 13 rfl (by kernel_rfl) (by kernel_rfl) (by kernel_rfl) (fun _ _ _ h => h) Gd.none rfl (fun w' ⟨hS', hE'⟩ => X.asg (lh)) ⟨hS, hE⟩ ?_
    refine WH.done (by kernel_rfl) ?_
    refine WL.e2 Nx.thn 1 4 (jt8 rfl (jt4 rfl (jt2 rfl (s1)))) (lh) ?_
    intro σ11 s1 s4
    refine W.seqJ (fun σ' w' => (True) ∧ ∃ S3, σ' 4 = .string S3 ∧ sb S3 = (repH x ++ x.2.2.1.flatMap anT ++ repL x ++ [10] ++ repW x) ++ ordT x.2.2.2.2.1 x.2.2.2.2.2 ∧ S3.size ≤ 47000000 ∧ Ch0 w1 w') ?_ ?_
    ·
     refine W.seq ?_
     refine W.region ?_
     refine WL.x (X.fieldAddr fd25_4 (s1)) rfl ?_
     refine WL.x (X.load pl3 (lh) (by exact hS.at (hcl.at0 (by assumption)) (by intro hne; exact hne)) (by rfl)) rfl ?_
     refine WL.x (X.eql (lh) lc) rfl ?_
     refine WL.e3 Nx.thn 1 4 49 (jt2 rfl (lt rfl (s1))) (jt2 rfl (lt rfl (s4))) (lh) ?_
     intro σ12 s1 s4 s49
     refine W.cndp s49 (fun hyes => ?_) (fun hyes => ?_)
     ·
      refine W.seq ?_
      refine W.region ?_
      refine WL.x (X.mv (s4)) rfl ?_
      refine WL.x (X.addS (lh) lc (by simp only [ByteArray.size_append, szl, size_bs, List.size_toArray, List.length_cons, List.length_nil, List.length_append]; omega)) rfl ?_
      refine WL.x (X.asg (lh)) rfl ?_
      refine WL.e2 Nx.thn 1 4 (jt2 rfl (lt rfl (s1))) (lh) ?_
      intro σ13 s1 s4
      refine W.seq ?_
      refine W.seq ?_
      refine W.region ?_
      refine WL.x (X.fieldAddr fd25_5 (s1)) rfl ?_
      refine WL.x (X.load pl23 (lh) (by exact hS.at (hcl.at0 (by assumption)) (by intro hne; exact hne)) (v := .slice ua x.2.2.2.2.2.length uc) rfl) rfl ?_
      refine WL.x (X.lenSl Tryz.underlying23 (lh)) rfl ?_
      refine WL.x (X.mv lc) rfl ?_
      refine WL.e4 Nx.thn 4 53 54 55 (jt4 rfl (s4)) (jt2 rfl (lh)) (lt rfl (lh)) (lh) ?_
      intro σ14 s4 s53 s54 s55
      refine W.block ?_
      have qo8 := s53
      have qo9 := s54
      -- loop 1: kept [53, 54], varied [4, 55]
      refine W.loop (G := Nat) (fun j σ' w' => (σ' 53 = σ14 53 ∧ σ' 54 = σ14 54 ∧ True) ∧ (∃ S2, σ' 4 = .string S2 ∧ σ' 55 = .int .i64 (j : Int) ∧ sb S2 = (repH x ++ x.2.2.1.flatMap anT ++ repL x ++ [10] ++ repW x) ++ ([32, 40] ++ (x.2.2.2.2.2.take j).flatMap valT) ∧ j ≤ x.2.2.2.2.2.length ∧ Ch0 w1 w')) (fun j => x.2.2.2.2.2.length - j) (0) ⟨⟨rfl, rfl, trivial⟩, _, s4, s55, (by simp only [sb_app, sb_bs, sb_mk, hSe, List.take_zero, List.flatMap_nil, List.append_nil]; unfold repL repW wT; simp only [List.append_assoc]; rfl), by omega, hcl.trans0 hS⟩ ?_
      rintro j σ15 w12 ⟨⟨f53, f54, _⟩, S2, s4, s55, hS2, hj9, hcl2⟩
      have s53 := f53.trans qo8
      have s54 := f54.trans qo9
      refine W.seq ?_
      refine W.region ?_
      refine WL.x (X.lss (s55) (s54)) rfl ?_
      refine WL.e5 Nx.thn 4 53 54 55 56 (lt rfl (s4)) (lt rfl (s53)) (lt rfl (s54)) (lt rfl (s55)) (lh) ?_
      intro σ16 s4 s53 s54 s55 s56
      refine W.seq ?_
      refine W.cndp s56 (fun hltj => ?_) (fun hltj => ?_)
      ·
       have hjl : j < x.2.2.2.2.2.length := by omega
       have hl6 := ml6 j
       obtain ⟨gb, og, csg, Tg, frg, hgv, hg1, hg2⟩ := ho.1.at (k := j) (by rw [List.length_map]; omega)
       subst hgv
       have hzj := hnum.2.2 x.2.2.2.2.2[j] (List.getElem_mem hjl)
       have hvj := valT_len hzj
       have htj : (x.2.2.2.2.2.take (j + 1)).flatMap valT = (x.2.2.2.2.2.take j).flatMap valT ++ valT x.2.2.2.2.2[j] := fm_take hjl
       have hSj := sb_len S2
       rw [hS2] at hSj
       simp only [List.length_append, List.length_cons, List.length_nil] at hSj
       refine W.skip Nx.thn ?_
       refine W.seq ?_
       refine W.block ?_
       refine W.seq ?_
       refine W.region ?_
       refine WL.x (X.indexAddr Tryz.underlying23 el3 (s53) (s55) (by omega) (by omega)) rfl ?_
       refine WL.x (X.load pl3 (lh) ((cu0_0.trans0 hcl2).at0 hg1) (v := .int .i64 x.2.2.2.2.2[j]) (by rw [show og + (j : Int).toNat * 1 = og + j by omega, hg2 j (by rw [List.length_map]; omega), List.getElem?_map, List.getElem?_eq_getElem (by omega)]; rfl)) rfl ?_
       refine WL.x (X.asg (lh)) rfl ?_
       refine WL.e5 Nx.thn 4 8 53 54 55 (jt2 rfl (lt rfl (s4))) (lh) (jt2 rfl (lt rfl (s53))) (jt2 rfl (lt rfl (s54))) (jt2 rfl (lt rfl (s55))) ?_
       intro σ17 s4 s8 s53 s54 s55
       refine W.region ?_
       refine WL.x (X.mv (s4)) rfl ?_
       refine WL.x (X.mv (lt rfl (s8))) rfl ?_
       refine WL.call1 ce41 (lh) (rnumt_ok x.2.2.2.2.2[j] w12 hzj) rfl ?_
       rintro _ w13 ⟨rfl, c2⟩
       refine WL.x (X.addS (jt2 rfl (lh)) (lh) (by simp only [ByteArray.size_append, szl, size_bs, List.size_toArray, List.length_cons, List.length_nil, List.length_append]; omega)) rfl ?_
       refine WL.x (X.asg (lh)) rfl ?_
       refine WL.e4 (Nx.blk Nx.thn) 4 53 54 55 (lh) (jt4 rfl (lt rfl (s53))) (jt4 rfl (lt rfl (s54))) (jt4 rfl (lt rfl (s55))) ?_
       intro σ18 s4 s53 s54 s55
       refine W.region ?_
       refine WL.x (X.add (s55) lc (by omega) (by omega)) rfl ?_
       refine WL.x (X.mv (lh)) rfl ?_
       refine WL.e4 Nx.thn 4 53 54 55 (jt2 rfl (s4)) (jt2 rfl (s53)) (jt2 rfl (s54)) (lh) ?_
       intro σ19 s4 s53 s54 s55
       refine ⟨j + 1, by omega, ⟨s53.trans qo8.symm, s54.trans qo9.symm, trivial⟩, _, s4, s55, (by rw [htj, sb_app, sb_bs, hS2]; simp only [List.append_assoc]), by omega, hcl2.trans0 c2⟩
      ·
       have hl6 := ml6 j
       have hSj := sb_len S2
       rw [hS2] at hSj
       simp only [List.length_append, List.length_cons, List.length_nil] at hSj
       refine W.exit (Nx.xthn (Nx.xthn (Nx.xblk Nx.thn))) ?_
       refine W.region ?_
       refine WL.x (X.mv (s4)) rfl ?_
       refine WL.x (X.addS (lh) lc (by simp only [ByteArray.size_append, szl, size_bs, List.size_toArray, List.length_cons, List.length_nil, List.length_append]; omega)) rfl ?_
       refine WL.x (X.asg (lh)) rfl ?_
       refine WL.e1 Nx.thn 4 (lh) ?_
       intro σ20 s4
       refine ⟨trivial, _, s4, (by rw [ordT_yes hyes]; rw [show j = x.2.2.2.2.2.length by omega, List.take_length] at hS2; simp only [sb_app, sb_mk, hS2, List.append_assoc]), (by simp only [ByteArray.size_append, szl, List.size_toArray, List.length_cons, List.length_nil]; omega), hcl2⟩
     ·
      refine W.skip Nx.thn ?_
      refine ⟨trivial, _, s4, (by rw [ordT_no hyes, List.append_nil]; simp only [sb_app, sb_bs, sb_mk, hSe]; unfold repL repW wT; simp only [List.append_assoc]; rfl), (by simp only [ByteArray.size_append, szl, size_bs, List.size_toArray, List.length_cons, List.length_nil, List.length_append]; omega), hcl.trans0 hS⟩
    ·
     rintro σ21 w14 ⟨⟨_⟩, S3, s4, hS3, hz3, hcl3⟩
     refine W.seq ?_
     refine W.region ?_
     refine WL.x (X.mv (s4)) rfl ?_
     refine WL.x (X.addS (lh) lc (by simp only [ByteArray.size_append, szl, size_bs, List.size_toArray, List.length_cons, List.length_nil, List.length_append]; omega)) rfl ?_
     refine WL.x (X.asg (lh)) rfl ?_
     refine WL.x (X.asg lc) rfl ?_
     refine WL.e2 Nx.thn 2 3 (lt rfl (lh)) (lh) ?_
     intro σ22 s2 s3
     refine W.ret2 Nx.f2 s2 s3 ?_
     exact ⟨by rw [(prQ_yes hmay).1, (prQ_yes hmay).2]; exact congrArg (fun z => Value.tuple #[.string z, .int .i64 0]) (sb_inj (by rw [sb_app, sb_bs, hS3, repT_eq])), cu0_0.trans0 hcl3⟩
   ·
    refine WL.bslice Tryz.underlying39 el9 rfl (pcons lc (pcons lc (pcons lc (pcons lc pnil)))) rfl (rfl : _ = [_, _, _, _]) rfl ?_
    intro w15 us
    obtain ⟨g, hg⟩ : ∃ g, g = w9.heap.size := ⟨_, rfl⟩
    have hE := us.at_
    rw [← hg] at hE ⊢
    have cb := us.ch
    have hS := hS.trans cb (fun _ _ => id) (by intro i hi hg; exact hg)
    refine WL.nil Nx.thn ⟨hS, ?_⟩
    refine WH.grow (S' := fun w' => Ch (fun _ => False) w5 w' ∧ w'.heap[g]? = some (.cells (AWS.map Value.string).toArray 9 (0, 0))) (fun _ h => h.1) ?_
    refine WH.take 9 rfl (by kernel_rfl) (by kernel_rfl) (by kernel_rfl) (fun _ _ _ h => h) Gd.none rfl (fun w' ⟨hS', hE'⟩ => X.indexAddr Tryz.underlying39 el9 (lh) (lt rfl (lh)) (by omega) (by omega)) ⟨hS, hE⟩ ?_
    refine WH.take 10 rfl (by kernel_rfl) (by kernel_rfl) (by kernel_rfl) (fun _ _ _ h => h) Gd.none rfl (fun w' ⟨hS', hE'⟩ => X.load pl9 (lh) hE' (v := .string (answerN x.2.2.2.2.1)) (answerW_at mm4)) ⟨hS, hE⟩ ?_
    refine WH.one 3 rfl (by kernel_rfl) (fun _ _ h => h) ?_
    refine WL.call1 ce44 (jt4 rfl (lt rfl (lh))) (rname_ok x.2.2.2.1 w15) rfl ?_
    rintro _ w16 ⟨rfl, c5⟩
    have hS := hS.trans c5 (fun _ _ => id) (by intro i hi hg; exact hg)
    replace hE := c5.at0 hE
    refine WL.nil Nx.thn ⟨⟨hS, hE⟩, ?_⟩
    refine WH.take 4 rfl (by kernel_rfl) (by kernel_rfl) (by kernel_rfl) (fun _ _ _ h => h) Gd.none rfl (fun w' ⟨hS', hE'⟩ => X.addS lc (lh) (by simp only [ByteArray.size_append, szl, size_bs, List.size_toArray, List.length_cons, List.length_nil, List.length_append]; omega)) ⟨hS, hE⟩ ?_
    refine WH.take 5 rfl (by kernel_rfl) (by kernel_rfl) (by kernel_rfl) (fun _ _ _ h => h) Gd.none rfl (fun w' ⟨hS', hE'⟩ => X.addS (lh) lc (by simp only [ByteArray.size_append, szl, size_bs, List.size_toArray, List.length_cons, List.length_nil, List.length_append]; omega)) ⟨hS, hE⟩ ?_
    refine WH.take 11 rfl (by kernel_rfl) (by kernel_rfl) (by kernel_rfl) (fun _ _ _ h => h) Gd.none rfl (fun w' ⟨hS', hE'⟩ => X.addS (lh) (jt2 rfl (lt rfl (lh))) (by simp only [ByteArray.size_append, szl, size_bs, List.size_toArray, List.length_cons, List.length_nil, List.length_append]; omega)) ⟨hS, hE⟩ ?_
    refine WH.take 12 rfl (by kernel_rfl) (by kernel_rfl) (by kernel_rfl) (fun _ _ _ h => h) Gd.none rfl (fun w' ⟨hS', hE'⟩ => X.addS (jt8 rfl (jt2 rfl (lt rfl (lh)))) (lh) (by simp only [ByteArray.size_append, szl, size_bs, List.size_toArray, List.length_cons, List.length_nil, List.length_append]; omega)) ⟨hS, hE⟩ ?_
    refine WH.take 13 rfl (by kernel_rfl) (by kernel_rfl) (by kernel_rfl) (fun _ _ _ h => h) Gd.none rfl (fun w' ⟨hS', hE'⟩ => X.asg (lh)) ⟨hS, hE⟩ ?_
    refine WH.done (by kernel_rfl) ?_
    refine WL.e2 Nx.thn 1 4 (jt8 rfl (jt4 rfl (jt2 rfl (s1)))) (lh) ?_
    intro σ23 s1 s4
    refine W.seqJ (fun σ' w' => (True) ∧ ∃ S3, σ' 4 = .string S3 ∧ sb S3 = (repH x ++ x.2.2.1.flatMap anT ++ repL x ++ [10] ++ repW x) ++ ordT x.2.2.2.2.1 x.2.2.2.2.2 ∧ S3.size ≤ 47000000 ∧ Ch0 w1 w') ?_ ?_
    ·
     refine W.seq ?_
     refine W.region ?_
     refine WL.x (X.fieldAddr fd25_4 (s1)) rfl ?_
     refine WL.x (X.load pl3 (lh) (by exact hS.at (hcl.at0 (by assumption)) (by intro hne; exact hne)) (by rfl)) rfl ?_
     refine WL.x (X.eql (lh) lc) rfl ?_
     refine WL.e3 Nx.thn 1 4 49 (jt2 rfl (lt rfl (s1))) (jt2 rfl (lt rfl (s4))) (lh) ?_
     intro σ24 s1 s4 s49
     refine W.cndp s49 (fun hyes => ?_) (fun hyes => ?_)
     ·
      refine W.seq ?_
      refine W.region ?_
      refine WL.x (X.mv (s4)) rfl ?_
      refine WL.x (X.addS (lh) lc (by simp only [ByteArray.size_append, szl, size_bs, List.size_toArray, List.length_cons, List.length_nil, List.length_append]; omega)) rfl ?_
      refine WL.x (X.asg (lh)) rfl ?_
      refine WL.e2 Nx.thn 1 4 (jt2 rfl (lt rfl (s1))) (lh) ?_
      intro σ25 s1 s4
      refine W.seq ?_
      refine W.seq ?_
      refine W.region ?_
      refine WL.x (X.fieldAddr fd25_5 (s1)) rfl ?_
      refine WL.x (X.load pl23 (lh) (by exact hS.at (hcl.at0 (by assumption)) (by intro hne; exact hne)) (v := .slice ua x.2.2.2.2.2.length uc) rfl) rfl ?_
      refine WL.x (X.lenSl Tryz.underlying23 (lh)) rfl ?_
      refine WL.x (X.mv lc) rfl ?_
      refine WL.e4 Nx.thn 4 53 54 55 (jt4 rfl (s4)) (jt2 rfl (lh)) (lt rfl (lh)) (lh) ?_
      intro σ26 s4 s53 s54 s55
      refine W.block ?_
      have qo10 := s53
      have qo11 := s54
      -- loop 1: kept [53, 54], varied [4, 55]
      refine W.loop (G := Nat) (fun j σ' w' => (σ' 53 = σ26 53 ∧ σ' 54 = σ26 54 ∧ True) ∧ (∃ S2, σ' 4 = .string S2 ∧ σ' 55 = .int .i64 (j : Int) ∧ sb S2 = (repH x ++ x.2.2.1.flatMap anT ++ repL x ++ [10] ++ repW x) ++ ([32, 40] ++ (x.2.2.2.2.2.take j).flatMap valT) ∧ j ≤ x.2.2.2.2.2.length ∧ Ch0 w1 w')) (fun j => x.2.2.2.2.2.length - j) (0) ⟨⟨rfl, rfl, trivial⟩, _, s4, s55, (by simp only [sb_app, sb_bs, sb_mk, hSe, List.take_zero, List.flatMap_nil, List.append_nil]; unfold repL repW wT; simp only [List.append_assoc]; rfl), by omega, hcl.trans0 hS⟩ ?_
      rintro j σ27 w17 ⟨⟨f53, f54, _⟩, S2, s4, s55, hS2, hj9, hcl2⟩
      have s53 := f53.trans qo10
      have s54 := f54.trans qo11
      refine W.seq ?_
      refine W.region ?_
      refine WL.x (X.lss (s55) (s54)) rfl ?_
      refine WL.e5 Nx.thn 4 53 54 55 56 (lt rfl (s4)) (lt rfl (s53)) (lt rfl (s54)) (lt rfl (s55)) (lh) ?_
      intro σ28 s4 s53 s54 s55 s56
      refine W.seq ?_
      refine W.cndp s56 (fun hltj => ?_) (fun hltj => ?_)
      ·
       have hjl : j < x.2.2.2.2.2.length := by omega
       have hl6 := ml6 j
       obtain ⟨gb, og, csg, Tg, frg, hgv, hg1, hg2⟩ := ho.1.at (k := j) (by rw [List.length_map]; omega)
       subst hgv
       have hzj := hnum.2.2 x.2.2.2.2.2[j] (List.getElem_mem hjl)
       have hvj := valT_len hzj
       have htj : (x.2.2.2.2.2.take (j + 1)).flatMap valT = (x.2.2.2.2.2.take j).flatMap valT ++ valT x.2.2.2.2.2[j] := fm_take hjl
       have hSj := sb_len S2
       rw [hS2] at hSj
       simp only [List.length_append, List.length_cons, List.length_nil] at hSj
       refine W.skip Nx.thn ?_
       refine W.seq ?_
       refine W.block ?_
       refine W.seq ?_
       refine W.region ?_
       refine WL.x (X.indexAddr Tryz.underlying23 el3 (s53) (s55) (by omega) (by omega)) rfl ?_
       refine WL.x (X.load pl3 (lh) ((cu0_0.trans0 hcl2).at0 hg1) (v := .int .i64 x.2.2.2.2.2[j]) (by rw [show og + (j : Int).toNat * 1 = og + j by omega, hg2 j (by rw [List.length_map]; omega), List.getElem?_map, List.getElem?_eq_getElem (by omega)]; rfl)) rfl ?_
       refine WL.x (X.asg (lh)) rfl ?_
       refine WL.e5 Nx.thn 4 8 53 54 55 (jt2 rfl (lt rfl (s4))) (lh) (jt2 rfl (lt rfl (s53))) (jt2 rfl (lt rfl (s54))) (jt2 rfl (lt rfl (s55))) ?_
       intro σ29 s4 s8 s53 s54 s55
       refine W.region ?_
       refine WL.x (X.mv (s4)) rfl ?_
       refine WL.x (X.mv (lt rfl (s8))) rfl ?_
       refine WL.call1 ce41 (lh) (rnumt_ok x.2.2.2.2.2[j] w17 hzj) rfl ?_
       rintro _ w18 ⟨rfl, c2⟩
       refine WL.x (X.addS (jt2 rfl (lh)) (lh) (by simp only [ByteArray.size_append, szl, size_bs, List.size_toArray, List.length_cons, List.length_nil, List.length_append]; omega)) rfl ?_
       refine WL.x (X.asg (lh)) rfl ?_
       refine WL.e4 (Nx.blk Nx.thn) 4 53 54 55 (lh) (jt4 rfl (lt rfl (s53))) (jt4 rfl (lt rfl (s54))) (jt4 rfl (lt rfl (s55))) ?_
       intro σ30 s4 s53 s54 s55
       refine W.region ?_
       refine WL.x (X.add (s55) lc (by omega) (by omega)) rfl ?_
       refine WL.x (X.mv (lh)) rfl ?_
       refine WL.e4 Nx.thn 4 53 54 55 (jt2 rfl (s4)) (jt2 rfl (s53)) (jt2 rfl (s54)) (lh) ?_
       intro σ31 s4 s53 s54 s55
       refine ⟨j + 1, by omega, ⟨s53.trans qo10.symm, s54.trans qo11.symm, trivial⟩, _, s4, s55, (by rw [htj, sb_app, sb_bs, hS2]; simp only [List.append_assoc]), by omega, hcl2.trans0 c2⟩
      ·
       have hl6 := ml6 j
       have hSj := sb_len S2
       rw [hS2] at hSj
       simp only [List.length_append, List.length_cons, List.length_nil] at hSj
       refine W.exit (Nx.xthn (Nx.xthn (Nx.xblk Nx.thn))) ?_
       refine W.region ?_
       refine WL.x (X.mv (s4)) rfl ?_
       refine WL.x (X.addS (lh) lc (by simp only [ByteArray.size_append, szl, size_bs, List.size_toArray, List.length_cons, List.length_nil, List.length_append]; omega)) rfl ?_
       refine WL.x (X.asg (lh)) rfl ?_
       refine WL.e1 Nx.thn 4 (lh) ?_
       intro σ32 s4
       refine ⟨trivial, _, s4, (by rw [ordT_yes hyes]; rw [show j = x.2.2.2.2.2.length by omega, List.take_length] at hS2; simp only [sb_app, sb_mk, hS2, List.append_assoc]), (by simp only [ByteArray.size_append, szl, List.size_toArray, List.length_cons, List.length_nil]; omega), hcl2⟩
     ·
      refine W.skip Nx.thn ?_
      refine ⟨trivial, _, s4, (by rw [ordT_no hyes, List.append_nil]; simp only [sb_app, sb_bs, sb_mk, hSe]; unfold repL repW wT; simp only [List.append_assoc]; rfl), (by simp only [ByteArray.size_append, szl, size_bs, List.size_toArray, List.length_cons, List.length_nil, List.length_append]; omega), hcl.trans0 hS⟩
    ·
     rintro σ33 w19 ⟨⟨_⟩, S3, s4, hS3, hz3, hcl3⟩
     refine W.seq ?_
     refine W.region ?_
     refine WL.x (X.mv (s4)) rfl ?_
     refine WL.x (X.addS (lh) lc (by simp only [ByteArray.size_append, szl, size_bs, List.size_toArray, List.length_cons, List.length_nil, List.length_append]; omega)) rfl ?_
     refine WL.x (X.asg (lh)) rfl ?_
     refine WL.x (X.asg lc) rfl ?_
     refine WL.e2 Nx.thn 2 3 (lt rfl (lh)) (lh) ?_
     intro σ34 s2 s3
     refine W.ret2 Nx.f2 s2 s3 ?_
     exact ⟨by rw [(prQ_yes hmay).1, (prQ_yes hmay).2]; exact congrArg (fun z => Value.tuple #[.string z, .int .i64 0]) (sb_inj (by rw [sb_app, sb_bs, hS3, repT_eq])), cu0_0.trans0 hcl3⟩
end Go.Proofs.YtbnllchicnmkiaaGreatDoor
end

section
set_option linter.unusedVariables false
set_option linter.unusedSimpArgs false
set_option maxRecDepth 100000
namespace Go.Proofs.YtbnllchicnmkiaaGreatDoor
open Go Go.RowKit Sg
theorem ce11 : Sg.Callee Tryz.prog 11 := ⟨_, Tryz.func11, by decide, rfl⟩
theorem ce12 : Sg.Callee Tryz.prog 12 := ⟨_, Tryz.func12, by decide, rfl⟩
theorem parse_back {x : GRep} (h : PrOk x) (hlen : (repT x).length ≤ 20000) : parseQ fP (bs (repT x)) = .ok x := by
  obtain ⟨us, h1, h2⟩ := rep_back (okq_of (fun _ => okK_of) h.may h.num) h.may hlen
  rw [← parseQ_alike]
  exact parseQ_some (by rw [sb_bs]; exact h1) h2
theorem may_of {f : Wds} {s : ByteArray} {x : GRep} (h : parseQ f s = .ok x) : mayR keyE x = true := by
  unfold parseQ at h
  split at h
  · cases h
  · rename_i ts _
    unfold repP at h
    split at h
    · rename_i y hy
      injection h with h; subst h
      split at hy
      · split at hy
        · injection hy with hy; subst hy; assumption
        · cases hy
      · cases hy
    · cases h
theorem parR_ok {f : Wds} {s : ByteArray} {A : Nat → Prop} {w : World} {rv er : Value} {x : GRep} (hp : ParR f s A w rv er) (h : parseQ f s = .ok x) : ∃ es, rv = .agg es.toArray ∧ er = .nilIface ∧ RRep A w es x := by
  rcases hp with ⟨x', es, h1, h2, h3, h4⟩ | ⟨x', h1, _⟩
  · rw [h1] at h; injection h with h; subst h; exact ⟨es, h2, h3, h4⟩
  · rw [h1] at h; cases h
theorem may_prE {x : GRep} (h : ¬ prE x ≠ 0) : mayR keyE x = true := by
  cases hm : mayR keyE x with
  | true => rfl
  | false => exact absurd (prQ_no hm).2 (by omega)
theorem rq_ok {f : Wds} {s : ByteArray} {X : GRep} {a y : Int} (h : RQ f s X a y) (hy : ¬ y ≠ 0) : parseQ f s = .ok X := by
  rcases h with ⟨h1, _⟩ | ⟨_, _, _, _, _, h⟩
  · exact h1
  · exact absurd h hy

end Go.Proofs.YtbnllchicnmkiaaGreatDoor
end

section
set_option linter.unusedVariables false
set_option linter.unusedSimpArgs false
set_option maxRecDepth 100000
namespace Go.Proofs.YtbnllchicnmkiaaGreatDoor
open Go Go.RowKit Sg
set_option maxHeartbeats 1600000 in
theorem form_ok (s : ByteArray) (w : World) (hER : ER w) (hTab : Tab w) :
  Sg.Ret Tryz.prog 4 #[.string s] w fun v w' => v = .bool true ∧ Ch0 w w' := by
 refine enter1 (n := 72) (l := [.string s]) Tryz.func4 rfl rfl rfl rfl ?_
 refine W.g1 0 (v1 := .string s) rfl ?_; intro σ s0
 refine W.seq ?_
 refine W.region ?_
 refine WL.x (X.asg lc) rfl ?_
 refine WL.e1 Nx.thn 0 (lt rfl (s0)) ?_
 intro σ1 s0
 refine W.seq ?_
 refine W.region ?_
 refine WL.x (X.mv (s0)) rfl ?_
 refine WL.call1 ce7 (lh) (parse_ok s w hER) rfl ?_
 rintro _ w1 ⟨⟨rv1, er1, rfl, hp1⟩, c1⟩
 obtain ⟨X1, es1, rfl, hr1, hq1⟩ := hp1.rep
 have zc1 := c1.size
 refine WL.x (X.mv (lh)) rfl ?_
 refine WL.x (X.ex2_0 (lh)) rfl ?_
 refine WL.x (X.ex2_1 (lt rfl (lh))) rfl ?_
 refine WL.alloc el25 rfl ?_
 intro w2 u1_5; have hu1_5 := u1_5.at_; have cu1_5 := u1_5.ch; have zu1_5 := u1_5.size
 have h6 := hr1.len6
 refine WL.storeS (vs := es1) ag25 (lh) (jt2 rfl (lh)) (RRep_one hr1) h6 hu1_5 (by decide) ?_
 intro w3 us
 have m1 := us.at_
 rw [blit_all (by rw [h6]; rfl)] at m1
 have km1 := us.ch
 have hcm1 := cu1_5.trans km1 (H := fun _ => False) (fun _ _ e => e) (fun j hj e => by (try dsimp only at e); omega)
 refine WL.x (X.asg (lt rfl (lh))) rfl ?_
 refine WL.e3 Nx.thn 0 3 4 (jt4 rfl (jt2 rfl (lt rfl (s0)))) (lt rfl (lh)) (lh) ?_
 intro σ2 s0 s3 s4
 refine W.seq ?_
 refine W.region ?_
 refine WL.x (X.mv (s0)) rfl ?_
 refine WL.call1 ce8 (lh) (rparse_ok s w3) rfl ?_
 rintro _ w4 ⟨⟨lm1, at1, why1, rfl, hx1⟩, cx1⟩
 obtain ⟨Y1, fs1, rfl, hs1, hy1⟩ := hx1.rep
 obtain ⟨hYX, hI1⟩ := pq_both hq1 hy1
 subst hYX
 have zx1 := cx1.size
 refine WL.x (X.mv (lh)) rfl ?_
 refine WL.x (X.ex3_0 (lh)) rfl ?_
 refine WL.x (X.ex3_1 (lt rfl (lh))) rfl ?_
 refine WL.x (X.ex3_2 (jt2 rfl (lh))) rfl ?_
 refine WL.alloc el25 rfl ?_
 intro w5 u2_6; have hu2_6 := u2_6.at_; have cu2_6 := u2_6.ch; have zu2_6 := u2_6.size
 have h6 := hs1.len6
 refine WL.storeS (vs := fs1) ag25 (lh) (jt2 rfl (lt rfl (lh))) (RRep_one hs1) h6 hu2_6 (by decide) ?_
 intro w6 us
 have m2 := us.at_
 rw [blit_all (by rw [h6]; rfl)] at m2
 have km2 := us.ch
 have hcm2 := cu2_6.trans km2 (H := fun _ => False) (fun _ _ e => e) (fun j hj e => by (try dsimp only at e); omega)
 refine WL.x (X.asg (jt2 rfl (lh))) rfl ?_
 refine WL.x (X.asg (jt2 rfl (lh))) rfl ?_
 refine WL.e5 Nx.thn 3 4 5 6 7 (jt8 rfl (lt rfl (s3))) (jt8 rfl (lt rfl (s4))) (jt2 rfl (lh)) (lt rfl (lh)) (lh) ?_
 intro σ3 s3 s4 s5 s6 s7
 refine W.seq ?_
 refine W.seq ?_
 refine W.region ?_
 refine WL.x (X.mv (s4)) rfl ?_
 refine WL.x (X.mv (lt rfl (s6))) rfl ?_
 refine WL.x (X.mv (jt2 rfl (s7))) rfl ?_
 refine WL.call3 ce9 (jt2 rfl (lh)) (lt rfl (lh)) (lh) (is_tt er1 at1 why1 w6 hI1) rfl ?_
 rintro _ w7 ⟨rfl, c3⟩
 have hrA := (((hr1.ch0 hcm1).ch0 cx1).ch0 hcm2).ch0 c3
 have k3 := ((((c1.trans0 hcm1).trans0 cx1).trans0 hcm2).trans0 c3)
 refine WL.x (X.not (lh)) rfl ?_
 refine WL.x (X.mv (lh)) rfl ?_
 refine WL.yes rfl rfl (lh) (rfl) ?_
 refine WL.x (X.loadBox (vs := es1) ag25 (jt4 rfl (jt2 rfl (s3))) (c3.at0 (hcm2.at0 (cx1.at0 m1))) hr1.len6) rfl ?_
 refine WL.yes rfl rfl (lt rfl (lh)) (rfl) ?_
 refine WL.x (X.loadBox (vs := fs1) ag25 (jt4 rfl (jt2 rfl (lt rfl (s5)))) (c3.at0 m2) hs1.len6) rfl ?_
 refine WL.yes rfl rfl (jt2 rfl (lh)) (rfl) ?_
 refine WL.call2 ce10 (lt rfl (lh)) (lh) (samerep_ok _ _ _ _ es1 fs1 w7 hrA ((hs1.ch0 hcm2).ch0 c3)) rfl ?_
 rintro _ w8 ⟨rfl, c4⟩
 have k4 := k3.trans0 c4
 have hrB := hrA.ch0 c4
 refine WL.yes rfl rfl (jt2 rfl (lt rfl (lh))) (rfl) ?_
 refine WL.x (X.notp (lh)) rfl ?_
 refine WL.x (X.pickF (jt4 rfl (lh)) (rfl) (lh)) rfl ?_
 refine WL.e3 Nx.thn 3 7 33 (jt8 rfl (jt2 rfl (lt rfl (s3)))) (jt8 rfl (jt2 rfl (lt rfl (s7)))) (lh) ?_
 intro σ4 s3 s7 s33
 refine W.cndN s33 (fun h => h rfl) ?_
 refine W.skip Nx.thn ?_
 refine W.seq ?_
 refine W.seq ?_
 refine W.region ?_
 refine WL.x (X.mv (s7)) rfl ?_
 refine WL.x (X.neq (lh) lc) rfl ?_
 refine WL.e2 Nx.thn 3 35 (jt2 rfl (s3)) (lh) ?_
 intro σ5 s3 s35
 refine W.cndp s35 (fun hwy => ?_) (fun hwy => ?_)
 ·
  refine W.seq ?_
  refine W.region ?_
  refine WL.x (X.asg lc) rfl ?_
  refine WL.e1 Nx.thn 2 (lh) ?_
  intro σ6 s2
  refine W.ret1 (Nx.rthn Nx.f1) s2 ?_
  exact ⟨rfl, k4⟩
 ·
  have hpar := rq_ok hy1 hwy
  have hmay := may_of hpar
  have hnum := rrep_num hr1
  refine W.skip Nx.thn ?_
  refine W.seq ?_
  refine W.region ?_
  refine WL.x (X.loadBox (vs := es1) ag25 (s3) (c4.at0 (c3.at0 (hcm2.at0 (cx1.at0 m1)))) hr1.len6) rfl ?_
  refine WL.call1 ce11 (lh) (print_ok _ Y1 es1 w8 hrB (tab_ch0 hTab k4)) rfl ?_
  rintro _ w9 ⟨rfl, c5⟩
  have k5 := k4.trans0 c5
  have hrC := hrB.ch0 c5
  refine WL.x (X.mv (lh)) rfl ?_
  refine WL.x (X.ex2_0 (lh)) rfl ?_
  refine WL.x (X.ex2_1 (lt rfl (lh))) rfl ?_
  refine WL.x (X.asg (lt rfl (lh))) rfl ?_
  refine WL.x (X.asg (lt rfl (lh))) rfl ?_
  refine WL.e3 Nx.thn 3 8 9 (jt4 rfl (jt2 rfl (lt rfl (s3)))) (lt rfl (lh)) (lh) ?_
  intro σ7 s3 s8 s9
  refine W.seq ?_
  refine W.seq ?_
  refine W.region ?_
  refine WL.x (X.mv (s9)) rfl ?_
  refine WL.x (X.neq (lh) lc) rfl ?_
  refine WL.e3 Nx.thn 3 8 42 (jt2 rfl (s3)) (jt2 rfl (s8)) (lh) ?_
  intro σ8 s3 s8 s42
  refine W.cndN s42 (fun h => h (prQ_yes hmay).2) ?_
  refine W.skip Nx.thn ?_
  refine W.seq ?_
  refine W.seq ?_
  refine W.region ?_
  refine WL.x (X.mv (s8)) rfl ?_
  refine WL.x (X.lenSt Tryz.underlying9 (lh)) rfl ?_
  refine WL.x (X.gtr (lh) lc) rfl ?_
  refine WL.e3 Nx.thn 3 8 45 (jt2 rfl (lt rfl (s3))) (jt2 rfl (lt rfl (s8))) (lh) ?_
  intro σ9 s3 s8 s45
  refine W.cndp s45 (fun hbig => ?_) (fun hbig => ?_)
  ·
   refine W.seq ?_
   refine W.region ?_
   refine WL.x (X.asg lc) rfl ?_
   refine WL.e1 Nx.thn 2 (lh) ?_
   intro σ10 s2
   refine W.ret1 (Nx.rthn Nx.f1) s2 ?_
   exact ⟨rfl, k5⟩
  ·
   have hpq := (prQ_yes hmay).1
   have hsz9 : (bs (prQ Y1)).size = (prQ Y1).length := size_bs _
   have hback : parseQ fP (bs (prQ Y1)) = .ok Y1 := by rw [hpq]; exact parse_back ⟨hmay, hnum⟩ (by rw [← hpq]; omega)
   refine W.skip Nx.thn ?_
   refine W.seq ?_
   refine W.region ?_
   refine WL.x (X.mv (s8)) rfl ?_
   refine WL.call1 ce7 (lh) (parse_ok (bs (prQ Y1)) w9 (hER.ch0 k5)) rfl ?_
   rintro _ w10 ⟨⟨rv2, er2, rfl, hp2⟩, c6⟩
   obtain ⟨es2, rfl, rfl, hr2⟩ := parR_ok hp2 hback
   have k6 := k5.trans0 c6
   have zc2 := c6.size
   have cm3z := c6.size
   refine WL.x (X.mv (lh)) rfl ?_
   refine WL.x (X.ex2_0 (lh)) rfl ?_
   refine WL.x (X.ex2_1 (lt rfl (lh))) rfl ?_
   refine WL.alloc el25 rfl ?_
   intro w11 u12_5; have hu12_5 := u12_5.at_; have cu12_5 := u12_5.ch; have zu12_5 := u12_5.size
   have h6 := hr2.len6
   refine WL.storeS (vs := es2) ag25 (lh) (jt2 rfl (lh)) (RRep_one hr2) h6 hu12_5 (by decide) ?_
   intro w12 us
   have m3 := us.at_
   rw [blit_all (by rw [h6]; rfl)] at m3
   have km3 := us.ch
   have hcm3 := cu12_5.trans km3 (H := fun _ => False) (fun _ _ e => e) (fun j hj e => by (try dsimp only at e); omega)
   refine WL.x (X.asg (lt rfl (lh))) rfl ?_
   refine WL.e4 Nx.thn 3 4 8 10 (jt4 rfl (jt2 rfl (lt rfl (s3)))) (lh) (jt4 rfl (jt2 rfl (lt rfl (s8)))) (lt rfl (lh)) ?_
   intro σ11 s3 s4 s8 s10
   refine W.seq ?_
   refine W.region ?_
   refine WL.x (X.loadBox (vs := es2) ag25 (s10) m3 hr2.len6) rfl ?_
   refine WL.call1 ce11 (lh) (print_ok _ Y1 es2 w12 (hr2.ch0 hcm3) (tab_ch0 hTab (k6.trans0 hcm3))) rfl ?_
   rintro _ w13 ⟨rfl, c7⟩
   have k7 := (k6.trans0 hcm3).trans0 c7
   refine WL.x (X.mv (lh)) rfl ?_
   refine WL.x (X.ex2_0 (lh)) rfl ?_
   refine WL.x (X.ex2_1 (lt rfl (lh))) rfl ?_
   refine WL.x (X.asg (lt rfl (lh))) rfl ?_
   refine WL.x (X.asg (lt rfl (lh))) rfl ?_
   refine WL.e6 Nx.thn 3 4 8 9 10 11 (jt4 rfl (jt2 rfl (lt rfl (s3)))) (jt4 rfl (jt2 rfl (lt rfl (s4)))) (jt4 rfl (jt2 rfl (lt rfl (s8)))) (lh) (jt4 rfl (jt2 rfl (lt rfl (s10)))) (lt rfl (lh)) ?_
   intro σ12 s3 s4 s8 s9 s10 s11
   refine W.seq ?_
   refine W.region ?_
   refine WL.x (X.mv (s4)) rfl ?_
   refine WL.x (v := .bool (isNil .nilIface)) (X.eqlI Tryz.underlying27 (lh) (.inl rfl)) rfl ?_
   refine WL.x (X.mv (lh)) rfl ?_
   refine WL.yes rfl rfl (lh) (rfl) ?_
   refine WL.x (X.mv (jt2 rfl (lt rfl (s9)))) rfl ?_
   refine WL.yes rfl rfl (lt rfl (lh)) (rfl) ?_
   refine WL.x (X.eql (lh) lc) rfl ?_
   refine WL.x (X.pickT (jt2 rfl (lh)) (rfl) (lh)) rfl ?_
   refine WL.x (X.mv (lh)) rfl ?_
   refine WL.yes rfl rfl (lh) (decide_eq_true ((prQ_yes hmay).2)) ?_
   refine WL.x (X.mv (jt4 rfl (jt2 rfl (lt rfl (s11))))) rfl ?_
   refine WL.yes rfl rfl (lt rfl (lh)) (decide_eq_true ((prQ_yes hmay).2)) ?_
   refine WL.x (X.mv (jt8 rfl (s8))) rfl ?_
   refine WL.yes rfl rfl (jt2 rfl (lh)) (decide_eq_true ((prQ_yes hmay).2)) ?_
   refine WL.x (X.eqlS (lt rfl (lh)) (lh)) rfl ?_
   refine WL.x (X.pickT (jt2 rfl (lt rfl (lh))) (decide_eq_true ((prQ_yes hmay).2)) (lh)) rfl ?_
   refine WL.x (X.mv (lh)) rfl ?_
   refine WL.yes rfl rfl (lh) (decide_eq_true (rfl)) ?_
   refine WL.x (X.loadBox (vs := es1) ag25 (jt8 rfl (jt4 rfl (s3))) (c7.at0 (hcm3.at0 (c6.at0 (c5.at0 (c4.at0 (c3.at0 (hcm2.at0 (cx1.at0 m1)))))))) hr1.len6) rfl ?_
   refine WL.yes rfl rfl (lt rfl (lh)) (decide_eq_true (rfl)) ?_
   refine WL.x (X.loadBox (vs := es2) ag25 (jt8 rfl (jt4 rfl (lt rfl (s10)))) (c7.at0 m3) hr2.len6) rfl ?_
   refine WL.yes rfl rfl (jt2 rfl (lh)) (decide_eq_true (rfl)) ?_
   refine WL.call2 ce10 (lt rfl (lh)) (lh) (samerep_ok _ _ Y1 Y1 es1 es2 w13 (((hrC.ch0 c6).ch0 hcm3).ch0 c7) ((hr2.ch0 hcm3).ch0 c7)) rfl ?_
   rintro _ w14 ⟨rfl, c8⟩
   refine WL.x (X.pickT (jt2 rfl (lt rfl (lh))) (decide_eq_true (rfl)) (lh)) rfl ?_
   refine WL.x (X.asg (lh)) rfl ?_
   refine WL.e1 Nx.thn 2 (lh) ?_
   intro σ13 s2
   refine W.ret1 Nx.f1 s2 ?_
   exact ⟨congrArg Value.bool (decide_eq_true rfl), k7.trans0 c8⟩
end Go.Proofs.YtbnllchicnmkiaaGreatDoor
end

section
set_option linter.unusedVariables false
set_option linter.unusedSimpArgs false
set_option maxRecDepth 100000
namespace Go.Proofs.YtbnllchicnmkiaaGreatDoor
open Go Go.RowKit Sg

theorem tab_of {r : List (String × DataW Unit)} {W : World} (hL : laidMet Tryz.prog (("internal/strconv.uint64pow10", Rows.laid_internal_strconv_uint64pow10) :: r) W) : Tab W :=
  Lib.tabIs_of_head (g := 5) (t := 175) (e := 161) (n := 20) (by kernel_rfl) (by kernel_rfl) Tryz.underlying175 Tryz.underlying161 (by kernel_rfl) (by kernel_rfl) hL

end Go.Proofs.YtbnllchicnmkiaaGreatDoor
end

section
set_option linter.unusedVariables false
set_option linter.unusedSimpArgs false
set_option maxRecDepth 100000
namespace Go.Proofs.YtbnllchicnmkiaaGreatDoor
open Go Go.RowKit Sg

theorem star : "*" ++ "errors.errorString" = "*errors.errorString" := by decide
theorem rowES (u : TypeId) (h : Tryz.prog.typeName? 3 u = some "*errors.errorString") : u = 179 :=
  typeName_ptr_named (nm := "errors.errorString") (by rw [star]; kernel_rfl) (by kernel_rfl) (by decide) u (by rw [star]; exact h)
theorem er_of {r : List (String × DataW Unit)} {W : World} (hL : laidMet Tryz.prog (("strconv.ErrRange", Rows.laid_strconv_ErrRange) :: r) W) : ER W := by
  obtain ⟨a1, s1, hv1, -, -, -⟩ := laid_sentinel hL (g := 4) (by kernel_rfl) (ti := 27) (by kernel_rfl) Tryz.underlying27 rowES Tryz.underlying179 Tryz.underlying181 rfl rfl Tryz.underlying9 (by kernel_rfl) (by kernel_rfl)
  unfold World.var? at hv1
  rw [show Tryz.prog.globalNamed "strconv.ErrRange" = some 4 by kernel_rfl] at hv1
  simp only [Option.bind_some] at hv1
  split at hv1
  · rename_i c T fr hc
    injection hv1 with hv1
    subst hv1
    exact ⟨_, _, T, fr, hc⟩
  · cases hv1

end Go.Proofs.YtbnllchicnmkiaaGreatDoor
end
