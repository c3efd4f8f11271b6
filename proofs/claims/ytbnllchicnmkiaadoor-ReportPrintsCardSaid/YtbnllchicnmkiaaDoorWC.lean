/-
  A part of the walk of the program.
-/
import Derived.Test.YtbnllchicnmkiaaDoorWP
set_option linter.unusedVariables false
set_option linter.unusedSimpArgs false
set_option maxRecDepth 100000
namespace Go.Proofs.YtbnllchicnmkiaaDoor
open Go Go.RowKit Sg
theorem ag25 : Sg.Aggr Tryd.prog 25 6 := ⟨⟨_, rfl, trivial⟩, _, rfl, rfl⟩
theorem el35 : Sg.Elem Tryd.prog 35 3 (.agg #[.pointer none, .slice none 0 0, .bool false]) 40 := ⟨_, rfl, rfl, rfl, rfl⟩
theorem ce6 : Sg.Callee Tryd.prog 6 := ⟨_, Tryd.func6, by decide, rfl⟩
theorem ce8 : Sg.Callee Tryd.prog 8 := ⟨_, Tryd.func8, by decide, rfl⟩
theorem ce9 : Sg.Callee Tryd.prog 9 := ⟨_, Tryd.func9, by decide, rfl⟩
theorem fd25_1 : Sg.Fld Tryd.prog 25 1 1 := ⟨_, _, _, rfl, rfl, rfl, rfl, by decide⟩
theorem ce10 : Sg.Callee Tryd.prog 10 := ⟨_, Tryd.func10, by decide, rfl⟩
theorem fd40_1 : Sg.Fld Tryd.prog 40 1 1 := ⟨_, _, _, rfl, rfl, rfl, rfl, by decide⟩
theorem fd40_2 : Sg.Fld Tryd.prog 40 2 2 := ⟨_, _, _, rfl, rfl, rfl, rfl, by decide⟩
theorem fd40_3 : Sg.Fld Tryd.prog 40 3 3 := ⟨_, _, _, rfl, rfl, rfl, rfl, by decide⟩
theorem fd40_5 : Sg.Fld Tryd.prog 40 5 5 := ⟨_, _, _, rfl, rfl, rfl, rfl, by decide⟩
theorem fd40_7 : Sg.Fld Tryd.prog 40 7 7 := ⟨_, _, _, rfl, rfl, rfl, rfl, by decide⟩
theorem ce11 : Sg.Callee Tryd.prog 11 := ⟨_, Tryd.func11, by decide, rfl⟩
theorem fd45_0 : Sg.Fld Tryd.prog 45 0 0 := ⟨_, _, _, rfl, rfl, rfl, rfl, by decide⟩
theorem fd45_1 : Sg.Fld Tryd.prog 45 1 1 := ⟨_, _, _, rfl, rfl, rfl, rfl, by decide⟩
theorem fd45_4 : Sg.Fld Tryd.prog 45 4 4 := ⟨_, _, _, rfl, rfl, rfl, rfl, by decide⟩
theorem fd45_5 : Sg.Fld Tryd.prog 45 5 5 := ⟨_, _, _, rfl, rfl, rfl, rfl, by decide⟩
theorem fd45_6 : Sg.Fld Tryd.prog 45 6 6 := ⟨_, _, _, rfl, rfl, rfl, rfl, by decide⟩
theorem fd45_7 : Sg.Fld Tryd.prog 45 7 7 := ⟨_, _, _, rfl, rfl, rfl, rfl, by decide⟩
theorem ce14 : Sg.Callee Tryd.prog 14 := ⟨_, Tryd.func14, by decide, rfl⟩
theorem ce15 : Sg.Callee Tryd.prog 15 := ⟨_, Tryd.func15, by decide, rfl⟩
set_option maxHeartbeats 6400000 in
theorem print_ok (A : Nat → Prop) (x : GRep) (es : List Value) (w : World) (h : RRep A w es x) (hTab : Tab w) :
  Sg.Ret Tryd.prog 4 #[.agg es.toArray] w fun v w' => v = .tuple #[.string (bs (prQ x)), .int .i64 (prE x)] ∧ Ch0 w w' := by
 have hh := h
 have hnum := rrep_num h
 obtain ⟨v, u, rfl, hs, ho, hb⟩ := h
 obtain ⟨va, vc, rfl⟩ := hs.len
 obtain ⟨ua, uc, hu⟩ := ho.1.len
 rw [List.length_map] at hu
 subst hu
 refine enter2 (n := 152) (l := [.agg #[.int .i64 x.1, .bool x.2.1, .slice va x.2.2.1.length vc, .int .i64 x.2.2.2.1, .int .i64 x.2.2.2.2.1, .slice ua x.2.2.2.2.2.length uc]]) Tryd.func4 rfl rfl rfl rfl ?_
 refine W.g1 0 (v1 := .agg #[.int .i64 x.1, .bool x.2.1, .slice va x.2.2.1.length vc, .int .i64 x.2.2.2.1, .int .i64 x.2.2.2.2.1, .slice ua x.2.2.2.2.2.length uc]) rfl ?_; intro σ s0
 refine W.seq ?_
 refine W.region ?_
 refine WL.box (s0) rfl ?_
 intro w1 u0_0; have hu0_0 := u0_0.at_; have cu0_0 := u0_0.ch; have zu0_0 := u0_0.size
 refine WL.x (X.asg lc) rfl ?_
 refine WL.x (X.asg lc) rfl ?_
 refine WL.e1 Nx.thn 1 (jt2 rfl (lh)) ?_
 intro σ1 s1
 refine W.seq ?_
 refine W.seq ?_
 refine W.region ?_
 obtain ⟨xb, hxb⟩ : ∃ xb, xb = w.heap.size := ⟨_, rfl⟩
 have hbx : w1.heap[w.heap.size]? = some (.cells #[.int .i64 x.1, .bool x.2.1, .slice va x.2.2.1.length vc, .int .i64 x.2.2.2.1, .int .i64 x.2.2.2.2.1, .slice ua x.2.2.2.2.2.length uc] 25 (0, 0)) := hu0_0
 rw [← hxb] at hbx s1
 obtain ⟨RC, hRC⟩ : ∃ RC : Array Value, RC = #[.int .i64 x.1, .bool x.2.1, .slice va x.2.2.1.length vc, .int .i64 x.2.2.2.1, .int .i64 x.2.2.2.2.1, .slice ua x.2.2.2.2.2.length uc] := ⟨_, rfl⟩
 have hbx9 := hbx
 rw [← hRC] at hbx
 refine WL.x (X.loadBox (vs := [.int .i64 x.1, .bool x.2.1, .slice va x.2.2.1.length vc, .int .i64 x.2.2.2.1, .int .i64 x.2.2.2.2.1, .slice ua x.2.2.2.2.2.length uc]) ag25 (s1) hbx9 rfl) rfl ?_
 refine WL.call1 ce6 (lh) (can_ok A x _ w1 (monRep _ _ _ _ _ _ _ cu0_0 (fun _ _ => id) (fun _ => id) hh)) rfl ?_
 rintro _ w2 ⟨rfl, c0⟩
 replace hbx := c0.at0 hbx
 refine WL.x (X.not (lh)) rfl ?_
 refine WL.e2 Nx.thn 1 13 (jt2 rfl (lt rfl (s1))) (lh) ?_
 intro σ2 s1 s13
 refine W.cnd s13 (fun hcan => ?_) (fun hcan => ?_)
 ·
  refine W.seq ?_
  refine W.region ?_
  refine WL.x (X.asg lc) rfl ?_
  refine WL.x (X.asg lc) rfl ?_
  refine WL.e2 Nx.thn 2 3 (lt rfl (lh)) (lh) ?_
  intro σ3 s2 s3
  refine W.ret2 (Nx.rthn Nx.f2) s2 s3 ?_
  have hmn : mayR keyE x = false := by simpa using hcan
  exact ⟨by rw [(prQ_no hmn).1, (prQ_no hmn).2]; rfl, cu0_0.trans0 c0⟩
 ·
  have hmay : mayR keyE x = true := by simpa using hcan
  have hok : PrOk x := ⟨hmay, hnum⟩
  obtain ⟨ml1, ml2, ml3, ml4, ml5, ml6⟩ := hok.lens
  obtain ⟨mm1, mm2, mm3, mm4, mm5, mm6, -⟩ := mayR_of hmay
  refine W.skip Nx.thn ?_
  refine W.seq ?_
  refine W.region ?_
  refine WL.alloc el35 rfl ?_
  intro w3 u9
  obtain ⟨bw, hbw⟩ : ∃ bw, bw = w2.heap.size := ⟨_, rfl⟩
  rw [← hbw]
  have hwc : w3.heap[bw]? = some (.cells #[.pointer none, .slice none 0 0, .bool false] 35 (0, 0)) := by rw [hbw]; exact u9.at_
  have cal := u9.ch
  have hw : IsW bw bw [] false w3 := ⟨Nat.le_refl _, none, _, .inl rfl, hwc, World.ownsRow_nil _ _ _ _⟩
  have zbx := lt_of_blk hbx
  replace hbx := cal.at0 hbx
  have hcl := (cu0_0.trans0 c0).trans0 cal
  have hbwz : w.heap.size ≤ xb ∧ xb < bw := by omega
  refine WL.e2 Nx.thn 1 4 (lt rfl (s1)) (lh) ?_
  intro σ4 s1 s4
  refine W.seq ?_
  refine W.region ?_
  refine WL.x (X.iface Tryd.underlying9 trivial lc) rfl ?_
  refine WL.x (X.fieldAddr fd25_0 (lt rfl (s1))) rfl ?_
  refine WL.x (X.load pl3 (lh) hbx (v := .int .i64 x.1) (by rw [hRC]; rfl)) rfl ?_
  refine WL.x (X.iface Tryd.underlying3 trivial (lh)) rfl ?_
  refine WL.bslice Tryd.underlying54 el20 rfl (pcons (jt2 rfl (lt rfl (lh))) (pcons (lh) pnil)) rfl (rfl : _ = [_, _]) rfl ?_
  intro w4 u4_4; have hu4_4 := u4_4.at_; have cu4_4 := u4_4.ch; have zu4_4 := u4_4.size
  have hPT : putF false [.s wTxns, .n x.1] = (repA x, true) := pt_A x
  have zw9 := hw.lt
  refine WL.call2 ce8 (jt4 rfl (lt rfl (s4))) (lh) (put_ok bw bw _ 2 2 [.s wTxns, .n x.1] ([]) false w4 rfl hu4_4 (by have h9 := hw.lt; omega) (hw.ch0 cu4_4) (by have h9 := hw.lt; have h8 := cu4_4.size; omega) (by rw [hPT]; dsimp only; simp only [List.length_append, List.length_cons, List.length_nil]; omega) (by show 2 ≤ 100; omega) (fun w9 c9 => tab_ch0 hTab ((hcl.trans0 cu4_4).trans c9 (H := fun _ => False) (fun _ _ e => e) (fun j hj e => by (try dsimp only at e); omega))) (pin_s (pin_n hnum.1 pin_nil))) rfl ?_
  rintro _ w5 ⟨hw, cp, hk⟩
  rw [hPT] at hw
  replace hw : IsW bw bw ([] ++ repA x) true w5 := hw
  replace hcl := hcl.trans0 cu4_4
  replace hbx := cu4_4.at0 hbx
  replace hcl := hcl.trans cp (H := fun _ => False) (fun _ _ e => e) (fun j hj e => by (try dsimp only at e); omega)
  replace hbx := hk _ _ _ _ hbx (by decide) (by omega)
  refine WL.e2 Nx.thn 1 4 (jt4 rfl (jt2 rfl (s1))) (jt4 rfl (jt2 rfl (s4))) ?_
  intro σ5 s1 s4
  refine W.seq ?_
  refine W.region ?_
  refine WL.call1 ce9 (s4) (line_ok bw bw ([] ++ repA x) true w5 hw (by simp only [List.length_append, List.length_cons, List.length_nil]; omega) (Nat.le_of_lt hw.lt)) rfl ?_
  rintro _ w6 ⟨hw, cp, hk⟩
  replace hcl := hcl.trans cp (H := fun _ => False) (fun _ _ e => e) (fun j hj e => by (try dsimp only at e); omega)
  replace hbx := hk _ _ _ _ hbx (by decide) (by omega)
  refine WL.e2 Nx.thn 1 4 (lt rfl (s1)) (lt rfl (s4)) ?_
  intro σ6 s1 s4
  refine W.seq ?_
  refine W.region ?_
  refine WL.x (X.iface Tryd.underlying9 trivial lc) rfl ?_
  refine WL.x (X.fieldAddr fd25_1 (lt rfl (s1))) rfl ?_
  refine WL.x (X.load pl4 (lh) hbx (v := .bool x.2.1) (by rw [hRC]; rfl)) rfl ?_
  refine WL.call3 ce10 (lh) lc lc (either_ok x.2.1 wYes wNo w6) rfl ?_
  rintro _ _ ⟨rfl, rfl⟩
  refine WL.x (X.iface Tryd.underlying9 trivial (lh)) rfl ?_
  refine WL.bslice Tryd.underlying54 el20 rfl (pcons (jt4 rfl (lh)) (pcons (lh) pnil)) rfl (rfl : _ = [_, _]) rfl ?_
  intro w7 u6_5; have hu6_5 := u6_5.at_; have cu6_5 := u6_5.ch; have zu6_5 := u6_5.size
  have hPT : putF false [.s wUnique, .s (bsel x.2.1 wYes wNo)] = (repB x, true) := pt_B x
  have zw9 := hw.lt
  refine WL.call2 ce8 (jt4 rfl (jt2 rfl (s4))) (lh) (put_ok bw bw _ 2 2 [.s wUnique, .s (bsel x.2.1 wYes wNo)] ([] ++ repA x ++ [10]) false w7 rfl hu6_5 (by have h9 := hw.lt; omega) (hw.ch0 cu6_5) (by have h9 := hw.lt; have h8 := cu6_5.size; omega) (by rw [hPT]; dsimp only; simp only [List.length_append, List.length_cons, List.length_nil]; omega) (by show 2 ≤ 100; omega) (fun w9 c9 => tab_ch0 hTab ((hcl.trans0 cu6_5).trans c9 (H := fun _ => False) (fun _ _ e => e) (fun j hj e => by (try dsimp only at e); omega))) (pin_s (pin_s pin_nil))) rfl ?_
  rintro _ w8 ⟨hw, cp, hk⟩
  rw [hPT] at hw
  replace hw : IsW bw bw ([] ++ repA x ++ [10] ++ repB x) true w8 := hw
  replace hcl := hcl.trans0 cu6_5
  replace hbx := cu6_5.at0 hbx
  replace hcl := hcl.trans cp (H := fun _ => False) (fun _ _ e => e) (fun j hj e => by (try dsimp only at e); omega)
  replace hbx := hk _ _ _ _ hbx (by decide) (by omega)
  refine WL.e2 Nx.thn 1 4 (jt4 rfl (jt2 rfl (lt rfl (s1)))) (jt4 rfl (jt2 rfl (lt rfl (s4)))) ?_
  intro σ7 s1 s4
  refine W.seq ?_
  refine W.region ?_
  refine WL.call1 ce9 (s4) (line_ok bw bw ([] ++ repA x ++ [10] ++ repB x) true w8 hw (by simp only [List.length_append, List.length_cons, List.length_nil]; omega) (Nat.le_of_lt hw.lt)) rfl ?_
  rintro _ w9 ⟨hw, cp, hk⟩
  replace hcl := hcl.trans cp (H := fun _ => False) (fun _ _ e => e) (fun j hj e => by (try dsimp only at e); omega)
  replace hbx := hk _ _ _ _ hbx (by decide) (by omega)
  refine WL.e2 Nx.thn 1 4 (lt rfl (s1)) (lt rfl (s4)) ?_
  intro σ8 s1 s4
  refine W.seq ?_
  refine W.seq ?_
  refine W.region ?_
  refine WL.x (X.fieldAddr fd25_2 (s1)) rfl ?_
  refine WL.x (X.load pl22 (lh) hbx (v := .slice va x.2.2.1.length vc) (by rw [hRC]; rfl)) rfl ?_
  refine WL.x (X.lenSl Tryd.underlying22 (lh)) rfl ?_
  refine WL.x (X.mv lc) rfl ?_
  refine WL.e5 Nx.thn 1 4 30 31 32 (jt4 rfl (s1)) (jt4 rfl (s4)) (jt2 rfl (lh)) (lt rfl (lh)) (lh) ?_
  intro σ9 s1 s4 s30 s31 s32
  refine W.block ?_
  have qo1 := s1
  have qo2 := s4
  have qo3 := s30
  have qo4 := s31
  -- loop 0: kept [1, 4, 30, 31], varied [32]
  refine W.loop (G := Nat) (fun k σ' w' => (σ' 1 = σ9 1 ∧ σ' 4 = σ9 4 ∧ σ' 30 = σ9 30 ∧ σ' 31 = σ9 31 ∧ True) ∧ (σ' 32 = .int .i64 (k : Int) ∧ k ≤ x.2.2.1.length ∧ IsW bw bw ((repA x ++ [10] ++ repB x ++ [10]) ++ (x.2.2.1.take k).flatMap anT) false w' ∧ w'.heap[xb]? = some (.cells RC 25 (0, 0)) ∧ Ch0 w w')) (fun k => x.2.2.1.length - k) (0) ⟨⟨rfl, rfl, rfl, rfl, trivial⟩, s32, by omega, (by simpa using hw), hbx, hcl⟩ ?_
  rintro k σ10 w10 ⟨⟨f1, f4, f30, f31, _⟩, s32, hk9, hw, hbx, hcl⟩
  have s1 := f1.trans qo1
  have s4 := f4.trans qo2
  have s30 := f30.trans qo3
  have s31 := f31.trans qo4
  refine W.seq ?_
  refine W.region ?_
  refine WL.x (X.lss (s32) (s31)) rfl ?_
  refine WL.e6 Nx.thn 1 4 30 31 32 33 (lt rfl (s1)) (lt rfl (s4)) (lt rfl (s30)) (lt rfl (s31)) (lt rfl (s32)) (lh) ?_
  intro σ11 s1 s4 s30 s31 s32 s33
  refine W.seq ?_
  refine W.cndp s33 (fun hlt => ?_) (fun hlt => ?_)
  ·
   have hkl : k < x.2.2.1.length := by omega
   have hl5 := ml5 k
   obtain ⟨b1, o1, cs1, T1, fr1, es1, hva, hml1, hes1, hgl1, hr1⟩ := hs.at (k := k) hkl
   subst hva
   obtain ⟨hma, hna⟩ := hok.an (List.getElem_mem hkl)
   have htk : (x.2.2.1.take (k + 1)).flatMap anT = (x.2.2.1.take k).flatMap anT ++ anT x.2.2.1[k] := fm_take hkl
   obtain ⟨a, ha⟩ : ∃ a, a = x.2.2.1[k] := ⟨_, rfl⟩
   rw [← ha] at hr1 hma hna htk
   obtain ⟨hla1, hla2, hla3⟩ := an_len hma hna
   obtain ⟨ma1, ma2, ma3, ma4, ma5⟩ := mayA_of hma
   obtain ⟨v3, rfl, hs3, hb3⟩ := hr1
   obtain ⟨va3, vc3, rfl⟩ := hs3.len
   have hlq := fun q => fm_take_len (f := whyT) (M := 300) (B := 150) q hla2 ma4
   refine W.skip Nx.thn ?_
   refine W.seq ?_
   refine W.block ?_
   refine W.seq ?_
   refine W.region ?_
   refine WL.x (X.indexAddr Tryd.underlying22 el40 (s30) (s32) (by omega) (by omega)) rfl ?_
   refine WL.x (X.loadS ag40 (lh) (hcl.at0 hml1) hes1 hgl1) rfl ?_
   refine WL.alloc el40 rfl ?_
   intro w11 u9
   obtain ⟨ab, hab⟩ : ∃ ab, ab = w10.heap.size := ⟨_, rfl⟩
   rw [← hab]
   have hE := u9.at_
   rw [← hab] at hE
   have cal := u9.ch
   have hwl := hw.lt
   have hab9 : bw < ab := by omega
   replace hw := hw.ch0 cal
   replace hcl := hcl.trans0 cal
   replace hbx := cal.at0 hbx
   
   have hE0 := hE
   refine WL.storeS (vs := [.int .i64 a.1, .int .i64 a.2.1, .int .i64 a.2.2.1, .int .i64 a.2.2.2.1, .string a.2.2.2.2.1, .int .i64 a.2.2.2.2.2.1, .slice va3 a.2.2.2.2.2.2.1.length vc3, .bool a.2.2.2.2.2.2.2.1, .int .i64 a.2.2.2.2.2.2.2.2]) ag40 (lh) (lt rfl (lh)) rfl hes1 hE (by decide) ?_
   intro w12 us
   replace hE : w12.heap[ab]? = some (.cells #[.int .i64 a.1, .int .i64 a.2.1, .int .i64 a.2.2.1, .int .i64 a.2.2.2.1, .string a.2.2.2.2.1, .int .i64 a.2.2.2.2.2.1, .slice va3 a.2.2.2.2.2.2.1.length vc3, .bool a.2.2.2.2.2.2.2.1, .int .i64 a.2.2.2.2.2.2.2.2] 40 (0, 0)) := us.at_
   have cs := us.ch
   replace hw := hw.step us.ch (fun e => by (try dsimp only at e); omega) (fun j e => ⟨_, _, _, (by have e : j = ab := e; subst e; exact hE0), by decide⟩)
   replace hcl := hcl.trans us.ch (H := fun _ => False) (fun _ _ e => e) (fun j hj e => by (try dsimp only at e); omega)
   replace hbx := us.ch.at hbx (fun e => by (try dsimp only at e); omega)
   refine WL.e6 Nx.thn 1 4 6 30 31 32 (jt2 rfl (lt rfl (s1))) (jt2 rfl (lt rfl (s4))) (lh) (jt2 rfl (lt rfl (s30))) (jt2 rfl (lt rfl (s31))) (jt2 rfl (lt rfl (s32))) ?_
   intro σ12 s1 s4 s6 s30 s31 s32
   refine W.seq ?_
   refine W.held (fun w' => Ch (fun j => bw ≤ j) w12 w' ∧ w'.heap[ab]? = some (.cells #[.int .i64 a.1, .int .i64 a.2.1, .int .i64 a.2.2.1, .int .i64 a.2.2.2.1, .string a.2.2.2.2.1, .int .i64 a.2.2.2.2.2.1, .slice va3 a.2.2.2.2.2.2.1.length vc3, .bool a.2.2.2.2.2.2.2.1, .int .i64 a.2.2.2.2.2.2.2.2] 40 (0, 0))) mo ?_
   intro w13 qhh5 qc6
   have hS : Ch (fun j => bw ≤ j) w12 w13 := Ch.weak qc6
   have hzqc6 := qc6.size
   have cdh11 := qc6
   have hE := cdh11.at0 hE
   replace hw := hw.ch0 cdh11
   replace hcl := hcl.trans0 cdh11
   replace hbx := cdh11.at0 hbx
   refine WH.take 0 rfl (by kernel_rfl) (by kernel_rfl) (by kernel_rfl) (fun _ _ _ h => h) Gd.none rfl (fun w' ⟨hS', hE'⟩ => X.iface Tryd.underlying9 trivial lc) ⟨hS, hE⟩ ?_
   refine WH.take 2 rfl (by kernel_rfl) (by kernel_rfl) (by kernel_rfl) (fun _ _ _ h => h) Gd.none rfl (fun w' ⟨hS', hE'⟩ => X.fieldAddr fd40_0 (lt rfl (s6))) ⟨hS, hE⟩ ?_
   refine WH.take 3 rfl (by kernel_rfl) (by kernel_rfl) (by kernel_rfl) (fun _ _ _ h => h) Gd.none rfl (fun w' ⟨hS', hE'⟩ => X.load pl3 (lh) hE' (v := .int .i64 a.1) rfl) ⟨hS, hE⟩ ?_
   refine WH.take 6 rfl (by kernel_rfl) (by kernel_rfl) (by kernel_rfl) (fun _ _ _ h => h) Gd.none rfl (fun w' ⟨hS', hE'⟩ => X.fieldAddr fd40_1 (jt2 rfl (lt rfl (s6)))) ⟨hS, hE⟩ ?_
   refine WH.take 7 rfl (by kernel_rfl) (by kernel_rfl) (by kernel_rfl) (fun _ _ _ h => h) Gd.none rfl (fun w' ⟨hS', hE'⟩ => X.load pl3 (lh) hE' (v := .int .i64 a.2.1) rfl) ⟨hS, hE⟩ ?_
   refine WH.take 8 rfl (by kernel_rfl) (by kernel_rfl) (by kernel_rfl) (fun _ _ _ h => h) Gd.none rfl (fun w' ⟨hS', hE'⟩ => X.iface Tryd.underlying3 trivial (lh)) ⟨hS, hE⟩ ?_
   refine WH.take 9 rfl (by kernel_rfl) (by kernel_rfl) (by kernel_rfl) (fun _ _ _ h => h) Gd.none rfl (fun w' ⟨hS', hE'⟩ => X.fieldAddr fd40_2 (jt4 rfl (jt2 rfl (s6)))) ⟨hS, hE⟩ ?_
   refine WH.take 10 rfl (by kernel_rfl) (by kernel_rfl) (by kernel_rfl) (fun _ _ _ h => h) Gd.none rfl (fun w' ⟨hS', hE'⟩ => X.load pl3 (lh) hE' (v := .int .i64 a.2.2.1) rfl) ⟨hS, hE⟩ ?_
   refine WH.take 11 rfl (by kernel_rfl) (by kernel_rfl) (by kernel_rfl) (fun _ _ _ h => h) Gd.none rfl (fun w' ⟨hS', hE'⟩ => X.iface Tryd.underlying3 trivial (lh)) ⟨hS, hE⟩ ?_
   refine WH.take 12 rfl (by kernel_rfl) (by kernel_rfl) (by kernel_rfl) (fun _ _ _ h => h) Gd.none rfl (fun w' ⟨hS', hE'⟩ => X.fieldAddr fd40_3 (jt8 rfl (lt rfl (s6)))) ⟨hS, hE⟩ ?_
   refine WH.take 13 rfl (by kernel_rfl) (by kernel_rfl) (by kernel_rfl) (fun _ _ _ h => h) Gd.none rfl (fun w' ⟨hS', hE'⟩ => X.load pl3 (lh) hE' (v := .int .i64 a.2.2.2.1) rfl) ⟨hS, hE⟩ ?_
   refine WH.take 14 rfl (by kernel_rfl) (by kernel_rfl) (by kernel_rfl) (fun _ _ _ h => h) Gd.none rfl (fun w' ⟨hS', hE'⟩ => X.iface Tryd.underlying3 trivial (lh)) ⟨hS, hE⟩ ?_
   refine WH.take 15 rfl (by kernel_rfl) (by kernel_rfl) (by kernel_rfl) (fun _ _ _ h => h) Gd.none rfl (fun w' ⟨hS', hE'⟩ => X.iface Tryd.underlying9 trivial lc) ⟨hS, hE⟩ ?_
   refine WH.take 16 rfl (by kernel_rfl) (by kernel_rfl) (by kernel_rfl) (fun _ _ _ h => h) Gd.none rfl (fun w' ⟨hS', hE'⟩ => X.fieldAddr fd40_4 (jt8 rfl (jt4 rfl (lt rfl (s6))))) ⟨hS, hE⟩ ?_
   refine WH.take 17 rfl (by kernel_rfl) (by kernel_rfl) (by kernel_rfl) (fun _ _ _ h => h) Gd.none rfl (fun w' ⟨hS', hE'⟩ => X.load pl9 (lh) hE' (v := .string a.2.2.2.2.1) rfl) ⟨hS, hE⟩ ?_
   refine WH.take 18 rfl (by kernel_rfl) (by kernel_rfl) (by kernel_rfl) (fun _ _ _ h => h) Gd.none rfl (fun w' ⟨hS', hE'⟩ => X.iface Tryd.underlying9 trivial (lh)) ⟨hS, hE⟩ ?_
   refine WH.take 19 rfl (by kernel_rfl) (by kernel_rfl) (by kernel_rfl) (fun _ _ _ h => h) Gd.none rfl (fun w' ⟨hS', hE'⟩ => X.iface Tryd.underlying9 trivial lc) ⟨hS, hE⟩ ?_
   refine WH.take 20 rfl (by kernel_rfl) (by kernel_rfl) (by kernel_rfl) (fun _ _ _ h => h) Gd.none rfl (fun w' ⟨hS', hE'⟩ => X.fieldAddr fd40_5 (jt8 rfl (jt8 rfl (lt rfl (s6))))) ⟨hS, hE⟩ ?_
   refine WH.take 21 rfl (by kernel_rfl) (by kernel_rfl) (by kernel_rfl) (fun _ _ _ h => h) Gd.none rfl (fun w' ⟨hS', hE'⟩ => X.load pl3 (lh) hE' (v := .int .i64 a.2.2.2.2.2.1) rfl) ⟨hS, hE⟩ ?_
   refine WH.take 22 rfl (by kernel_rfl) (by kernel_rfl) (by kernel_rfl) (fun _ _ _ h => h) Gd.none rfl (fun w' ⟨hS', hE'⟩ => X.iface Tryd.underlying3 trivial (lh)) ⟨hS, hE⟩ ?_
   refine WH.take 23 rfl (by kernel_rfl) (by kernel_rfl) (by kernel_rfl) (fun _ _ _ h => h) Gd.none rfl (fun w' ⟨hS', hE'⟩ => X.fieldAddr fd40_7 (jt8 rfl (jt8 rfl (jt4 rfl (s6))))) ⟨hS, hE⟩ ?_
   refine WH.take 24 rfl (by kernel_rfl) (by kernel_rfl) (by kernel_rfl) (fun _ _ _ h => h) Gd.none rfl (fun w' ⟨hS', hE'⟩ => X.load pl4 (lh) hE' (v := .bool a.2.2.2.2.2.2.2.1) rfl) ⟨hS, hE⟩ ?_
   refine WH.take 27 rfl (by kernel_rfl) (by kernel_rfl) (by kernel_rfl) (fun _ _ _ h => h) Gd.none rfl (fun w' ⟨hS', hE'⟩ => X.fieldAddr fd40_8 (jt8 rfl (jt8 rfl (jt4 rfl (jt2 rfl (s6)))))) ⟨hS, hE⟩ ?_
   refine WH.take 28 rfl (by kernel_rfl) (by kernel_rfl) (by kernel_rfl) (fun _ _ _ h => h) Gd.none rfl (fun w' ⟨hS', hE'⟩ => X.load pl3 (lh) hE' (v := .int .i64 a.2.2.2.2.2.2.2.2) rfl) ⟨hS, hE⟩ ?_
   refine WH.one 1 rfl (by kernel_rfl) (fun _ _ h => h) ?_
   refine WL.call0 ce11  (kinds_ok w13) rfl ?_
   rintro _ w14 ⟨rfl, ck⟩
   replace hw := hw.ch0 ck
   replace hcl := hcl.trans0 ck
   replace hbx := ck.at0 hbx
   replace hE := ck.at0 hE
   have hS := hS.trans ck (fun _ _ => id) (by intro i hi hg; first | exact hg | exact False.elim hg | omega | ((try dsimp only at hg ⊢); omega))
   refine WL.nil Nx.thn ⟨⟨hS, hE⟩, ?_⟩
   refine WH.take 4 rfl (by kernel_rfl) (by kernel_rfl) (by kernel_rfl) (fun _ _ _ h => h) Gd.none rfl (fun w' ⟨hS', hE'⟩ => X.indexA Tryd.underlying41 pl9 el9 (lh) (jt8 rfl (jt8 rfl (jt4 rfl (jt2 rfl (lh))))) (by omega) (by omega) (kindN_at ma1)) ⟨hS, hE⟩ ?_
   refine WH.take 5 rfl (by kernel_rfl) (by kernel_rfl) (by kernel_rfl) (fun _ _ _ h => h) Gd.none rfl (fun w' ⟨hS', hE'⟩ => X.iface Tryd.underlying9 trivial (lh)) ⟨hS, hE⟩ ?_
   refine WH.one 25 rfl (by kernel_rfl) (fun _ _ h => h) ?_
   refine WL.call3 ce10 (jt4 rfl (lt rfl (lh))) lc lc (either_ok a.2.2.2.2.2.2.2.1 wReal wPlain w14) rfl ?_
   rintro _ _ ⟨rfl, rfl⟩
   refine WL.nil Nx.thn ⟨⟨hS, hE⟩, ?_⟩
   refine WH.take 26 rfl (by kernel_rfl) (by kernel_rfl) (by kernel_rfl) (fun _ _ _ h => h) Gd.none rfl (fun w' ⟨hS', hE'⟩ => X.iface Tryd.underlying9 trivial (lh)) ⟨hS, hE⟩ ?_
   refine WH.one 29 rfl (by kernel_rfl) (fun _ _ h => h) ?_
   refine WL.call1 ce12 (jt4 rfl (lt rfl (lh))) (name_ok a.2.2.2.2.2.2.2.2 w14) rfl ?_
   rintro _ w15 ⟨rfl, cn⟩
   replace hw := hw.ch0 cn
   replace hcl := hcl.trans0 cn
   replace hbx := cn.at0 hbx
   replace hE := cn.at0 hE
   have hS := hS.trans cn (fun _ _ => id) (by intro i hi hg; first | exact hg | exact False.elim hg | omega | ((try dsimp only at hg ⊢); omega))
   refine WL.nil Nx.thn ⟨⟨hS, hE⟩, ?_⟩
   refine WH.take 30 rfl (by kernel_rfl) (by kernel_rfl) (by kernel_rfl) (fun _ _ _ h => h) Gd.none rfl (fun w' ⟨hS', hE'⟩ => X.iface Tryd.underlying9 trivial (lh)) ⟨hS, hE⟩ ?_
   refine WH.one 31 rfl (by kernel_rfl) (fun _ _ h => h) ?_
   refine WL.bslice Tryd.underlying54 el20 rfl (pcons (jt8 rfl (jt8 rfl (jt8 rfl (jt4 rfl (jt2 rfl (lh)))))) (pcons (jt4 rfl (lh)) (pcons (jt8 rfl (jt8 rfl (jt8 rfl (lt rfl (lh))))) (pcons (jt8 rfl (jt8 rfl (jt4 rfl (jt2 rfl (lh))))) (pcons (jt8 rfl (jt8 rfl (jt2 rfl (lt rfl (lh))))) (pcons (jt8 rfl (jt8 rfl (jt2 rfl (lh)))) (pcons (jt8 rfl (jt4 rfl (jt2 rfl (lt rfl (lh))))) (pcons (jt8 rfl (jt4 rfl (jt2 rfl (lh)))) (pcons (jt8 rfl (jt2 rfl (lt rfl (lh)))) (pcons (jt2 rfl (lh)) (pcons (lh) pnil))))))))))) rfl (rfl : _ = [_, _, _, _, _, _, _, _, _, _, _]) rfl ?_
   intro w16 us; have hu11_31 := us.at_; have cu11_31 := us.ch
   replace hE := us.ch.at0 hE
   have hS := hS.trans cu11_31 (fun _ _ => id) (by intro i hi hg; first | exact hg | exact False.elim hg | omega | ((try dsimp only at hg ⊢); omega))
   refine WL.nil Nx.thn ⟨⟨hS, hE⟩, ?_⟩
   refine WH.one 32 rfl (by kernel_rfl) (fun _ _ h => h) ?_
   have hPT : putF false [.s wAnomaly, .s (kindN a.1), .n a.2.1, .n a.2.2.1, .n a.2.2.2.1, .s ⟨#[40]⟩, .s a.2.2.2.2.1, .s ⟨#[41]⟩, .n a.2.2.2.2.2.1, .s (bsel a.2.2.2.2.2.2.2.1 wReal wPlain), .s (levelN a.2.2.2.2.2.2.2.2)] = (anH a, true) := pt_an ma1 ma3
   have zw9 := hw.lt
   refine WL.call2 ce8 (jt8 rfl (jt8 rfl (jt8 rfl (jt8 rfl (s4))))) (lh) (put_ok bw bw _ 11 11 [.s wAnomaly, .s (kindN a.1), .n a.2.1, .n a.2.2.1, .n a.2.2.2.1, .s ⟨#[40]⟩, .s a.2.2.2.2.1, .s ⟨#[41]⟩, .n a.2.2.2.2.2.1, .s (bsel a.2.2.2.2.2.2.2.1 wReal wPlain), .s (levelN a.2.2.2.2.2.2.2.2)] ((repA x ++ [10] ++ repB x ++ [10]) ++ (x.2.2.1.take k).flatMap anT) false w16 rfl hu11_31 (by have h9 := hw.lt; omega) (hw.ch0 cu11_31) (by have h9 := hw.lt; have h8 := cu11_31.size; omega) (by rw [hPT]; dsimp only; simp only [List.length_append, List.length_cons, List.length_nil]; omega) (by show 11 ≤ 100; omega) (fun w9 c9 => tab_ch0 hTab ((hcl.trans0 cu11_31).trans c9 (H := fun _ => False) (fun _ _ e => e) (fun j hj e => by (try dsimp only at e); omega))) (pin_s (pin_s (pin_n hna.1 (pin_n hna.2.1 (pin_n hna.2.2.1 (pin_s (pin_s (pin_s (pin_n hna.2.2.2.1 (pin_s (pin_s pin_nil)))))))))))) rfl ?_
   rintro _ w17 ⟨hw, cp, hk⟩
   rw [hPT] at hw
   replace hw : IsW bw bw ((repA x ++ [10] ++ repB x ++ [10]) ++ (x.2.2.1.take k).flatMap anT ++ anH a) true w17 := hw
   replace hcl := hcl.trans0 cu11_31
   replace hbx := cu11_31.at0 hbx
   replace hcl := hcl.trans cp (H := fun _ => False) (fun _ _ e => e) (fun j hj e => by (try dsimp only at e); omega)
   replace hbx := hk _ _ _ _ hbx (by decide) (by omega)
   replace hE := hk _ _ _ _ hE (by decide) (by omega)
   have hS := hS.trans cp (fun _ _ => id) (by intro i hi hg; first | exact hg | exact False.elim hg | omega | ((try dsimp only at hg ⊢); omega))
   refine WL.nil Nx.thn ⟨⟨hS, hE⟩, ?_⟩
   refine WH.done (by kernel_rfl) ?_
   refine WL.e6 Nx.thn 1 4 6 30 31 32 (jt8 rfl (jt8 rfl (jt8 rfl (jt8 rfl (lt rfl (s1)))))) (jt8 rfl (jt8 rfl (jt8 rfl (jt8 rfl (lt rfl (s4)))))) (jt8 rfl (jt8 rfl (jt8 rfl (jt8 rfl (lt rfl (s6)))))) (jt8 rfl (jt8 rfl (jt8 rfl (jt8 rfl (lt rfl (s30)))))) (jt8 rfl (jt8 rfl (jt8 rfl (jt8 rfl (lt rfl (s31)))))) (jt8 rfl (jt8 rfl (jt8 rfl (jt8 rfl (lt rfl (s32)))))) ?_
   intro σ13 s1 s4 s6 s30 s31 s32
   refine W.seq ?_
   refine W.seq ?_
   refine W.region ?_
   refine WL.x (X.fieldAddr fd40_6 (s6)) rfl ?_
   refine WL.x (X.load pl38 (lh) hE (v := .slice va3 a.2.2.2.2.2.2.1.length vc3) rfl) rfl ?_
   refine WL.x (X.lenSl Tryd.underlying38 (lh)) rfl ?_
   refine WL.x (X.mv lc) rfl ?_
   refine WL.e8 Nx.thn 1 4 30 31 32 70 71 72 (jt4 rfl (s1)) (jt4 rfl (s4)) (jt4 rfl (s30)) (jt4 rfl (s31)) (jt4 rfl (s32)) (jt2 rfl (lh)) (lt rfl (lh)) (lh) ?_
   intro σ14 s1 s4 s30 s31 s32 s70 s71 s72
   refine W.block ?_
   have qo7 := s1
   have qo8 := s4
   have qo9 := s30
   have qo10 := s31
   have qo11 := s32
   have qo12 := s70
   have qo13 := s71
   -- loop 1: kept [1, 4, 30, 31, 32, 70, 71], varied [72]
   refine W.loop (G := Nat) (fun q σ' w' => (σ' 1 = σ14 1 ∧ σ' 4 = σ14 4 ∧ σ' 30 = σ14 30 ∧ σ' 31 = σ14 31 ∧ σ' 32 = σ14 32 ∧ σ' 70 = σ14 70 ∧ σ' 71 = σ14 71 ∧ True) ∧ (σ' 72 = .int .i64 (q : Int) ∧ q ≤ a.2.2.2.2.2.2.1.length ∧ IsW bw bw ((repA x ++ [10] ++ repB x ++ [10]) ++ (x.2.2.1.take k).flatMap anT ++ anH a ++ (a.2.2.2.2.2.2.1.take q).flatMap whyT) true w' ∧ w'.heap[xb]? = some (.cells RC 25 (0, 0)) ∧ Ch0 w w')) (fun q => a.2.2.2.2.2.2.1.length - q) (0) ⟨⟨rfl, rfl, rfl, rfl, rfl, rfl, rfl, trivial⟩, s72, by omega, (by simpa using hw), hbx, hcl⟩ ?_
   rintro q σ15 w18 ⟨⟨f1, f4, f30, f31, f32, f70, f71, _⟩, s72, hq9, hw, hbx, hcl⟩
   have s1 := f1.trans qo7
   have s4 := f4.trans qo8
   have s30 := f30.trans qo9
   have s31 := f31.trans qo10
   have s32 := f32.trans qo11
   have s70 := f70.trans qo12
   have s71 := f71.trans qo13
   refine W.seq ?_
   refine W.region ?_
   refine WL.x (X.lss (s72) (s71)) rfl ?_
   refine WL.e9 Nx.thn 1 4 30 31 32 70 71 72 73 (lt rfl (s1)) (lt rfl (s4)) (lt rfl (s30)) (lt rfl (s31)) (lt rfl (s32)) (lt rfl (s70)) (lt rfl (s71)) (lt rfl (s72)) (lh) ?_
   intro σ16 s1 s4 s30 s31 s32 s70 s71 s72 s73
   refine W.seq ?_
   refine W.cndp s73 (fun hltq => ?_) (fun hltq => ?_)
   ·
    have hql : q < a.2.2.2.2.2.2.1.length := by omega
    have hlq9 := hlq q
    obtain ⟨b2, o2, cs2, T2, fr2, es2, hva2, hml2, hes2, hgl2, hr2⟩ := hs3.at (k := q) hql
    subst hva2
    have hmy := ma5 _ (List.getElem_mem hql)
    have hny := hna.2.2.2.2 _ (List.getElem_mem hql)
    have htq : (a.2.2.2.2.2.2.1.take (q + 1)).flatMap whyT = (a.2.2.2.2.2.2.1.take q).flatMap whyT ++ whyT a.2.2.2.2.2.2.1[q] := fm_take hql
    have hly := hla2 _ (List.getElem_mem hql)
    obtain ⟨y, hy⟩ : ∃ y, y = a.2.2.2.2.2.2.1[q] := ⟨_, rfl⟩
    rw [← hy] at hr2 hmy hny htq hly
    obtain ⟨rfl, -, -⟩ := hr2
    have hlab := (mayW_of hmy).1
    refine W.skip Nx.thn ?_
    refine W.seq ?_
    refine W.block ?_
    refine W.seq ?_
    refine W.region ?_
    refine WL.x (X.indexAddr Tryd.underlying38 el45 (s70) (s72) (by omega) (by omega)) rfl ?_
    refine WL.x (X.loadS ag45 (lh) (hcl.at0 hml2) hes2 hgl2) rfl ?_
    refine WL.alloc el45 rfl ?_
    intro w19 u9
    obtain ⟨yb, hyb⟩ : ∃ yb, yb = w18.heap.size := ⟨_, rfl⟩
    rw [← hyb]
    have hE := u9.at_
    rw [← hyb] at hE
    have cal := u9.ch
    have hwl := hw.lt
    have hyb9 : bw < yb := by omega
    replace hw := hw.ch0 cal
    replace hcl := hcl.trans0 cal
    replace hbx := cal.at0 hbx
    
    have hE0 := hE
    refine WL.storeS (vs := whyCells y) ag45 (lh) (lt rfl (lh)) rfl hes2 hE (by decide) ?_
    intro w20 us
    replace hE : w20.heap[yb]? = some (.cells (whyCells y).toArray 45 (0, 0)) := us.at_
    have cs := us.ch
    replace hw := hw.step us.ch (fun e => by (try dsimp only at e); omega) (fun j e => ⟨_, _, _, (by have e : j = yb := e; subst e; exact hE0), by decide⟩)
    replace hcl := hcl.trans us.ch (H := fun _ => False) (fun _ _ e => e) (fun j hj e => by (try dsimp only at e); omega)
    replace hbx := us.ch.at hbx (fun e => by (try dsimp only at e); omega)
    refine WL.e9 Nx.thn 1 4 8 30 31 32 70 71 72 (jt2 rfl (lt rfl (s1))) (jt2 rfl (lt rfl (s4))) (lh) (jt2 rfl (lt rfl (s30))) (jt2 rfl (lt rfl (s31))) (jt2 rfl (lt rfl (s32))) (jt2 rfl (lt rfl (s70))) (jt2 rfl (lt rfl (s71))) (jt2 rfl (lt rfl (s72))) ?_
    intro σ17 s1 s4 s8 s30 s31 s32 s70 s71 s72
    refine W.held (fun w' => Ch (fun j => bw ≤ j) w20 w' ∧ w'.heap[yb]? = some (.cells (whyCells y).toArray 45 (0, 0))) mo ?_
    intro w21 qhh14 qc15
    have hS : Ch (fun j => bw ≤ j) w20 w21 := Ch.weak qc15
    have hzqc15 := qc15.size
    have cdh15 := qc15
    have hE := cdh15.at0 hE
    replace hw := hw.ch0 cdh15
    replace hcl := hcl.trans0 cdh15
    replace hbx := cdh15.at0 hbx
    refine WH.take 0 rfl (by kernel_rfl) (by kernel_rfl) (by kernel_rfl) (fun _ _ _ h => h) Gd.none rfl (fun w' ⟨hS', hE'⟩ => X.iface Tryd.underlying9 trivial lc) ⟨hS, hE⟩ ?_
    refine WH.take 1 rfl (by kernel_rfl) (by kernel_rfl) (by kernel_rfl) (fun _ _ _ h => h) Gd.none rfl (fun w' ⟨hS', hE'⟩ => X.fieldAddr fd45_0 (lt rfl (s8))) ⟨hS, hE⟩ ?_
    refine WH.take 2 rfl (by kernel_rfl) (by kernel_rfl) (by kernel_rfl) (fun _ _ _ h => h) Gd.none rfl (fun w' ⟨hS', hE'⟩ => X.load pl3 (lh) hE' (v := .int .i64 y.1) rfl) ⟨hS, hE⟩ ?_
    refine WH.take 3 rfl (by kernel_rfl) (by kernel_rfl) (by kernel_rfl) (fun _ _ _ h => h) Gd.none rfl (fun w' ⟨hS', hE'⟩ => X.iface Tryd.underlying3 trivial (lh)) ⟨hS, hE⟩ ?_
    refine WH.take 4 rfl (by kernel_rfl) (by kernel_rfl) (by kernel_rfl) (fun _ _ _ h => h) Gd.none rfl (fun w' ⟨hS', hE'⟩ => X.fieldAddr fd45_2 (jt4 rfl (s8))) ⟨hS, hE⟩ ?_
    refine WH.take 5 rfl (by kernel_rfl) (by kernel_rfl) (by kernel_rfl) (fun _ _ _ h => h) Gd.none rfl (fun w' ⟨hS', hE'⟩ => X.load pl3 (lh) hE' (v := .int .i64 y.2.2.1) rfl) ⟨hS, hE⟩ ?_
    refine WH.take 8 rfl (by kernel_rfl) (by kernel_rfl) (by kernel_rfl) (fun _ _ _ h => h) Gd.none rfl (fun w' ⟨hS', hE'⟩ => X.fieldAddr fd45_1 (jt4 rfl (jt2 rfl (s8)))) ⟨hS, hE⟩ ?_
    refine WH.take 9 rfl (by kernel_rfl) (by kernel_rfl) (by kernel_rfl) (fun _ _ _ h => h) Gd.none rfl (fun w' ⟨hS', hE'⟩ => X.load pl3 (lh) hE' (v := .int .i64 y.2.1) rfl) ⟨hS, hE⟩ ?_
    refine WH.take 10 rfl (by kernel_rfl) (by kernel_rfl) (by kernel_rfl) (fun _ _ _ h => h) Gd.none rfl (fun w' ⟨hS', hE'⟩ => X.iface Tryd.underlying3 trivial (lh)) ⟨hS, hE⟩ ?_
    refine WH.take 11 rfl (by kernel_rfl) (by kernel_rfl) (by kernel_rfl) (fun _ _ _ h => h) Gd.none rfl (fun w' ⟨hS', hE'⟩ => X.iface Tryd.underlying9 trivial lc) ⟨hS, hE⟩ ?_
    refine WH.take 12 rfl (by kernel_rfl) (by kernel_rfl) (by kernel_rfl) (fun _ _ _ h => h) Gd.none rfl (fun w' ⟨hS', hE'⟩ => X.fieldAddr fd45_3 (jt8 rfl (jt2 rfl (s8)))) ⟨hS, hE⟩ ?_
    refine WH.take 13 rfl (by kernel_rfl) (by kernel_rfl) (by kernel_rfl) (fun _ _ _ h => h) Gd.none rfl (fun w' ⟨hS', hE'⟩ => X.load pl9 (lh) hE' (v := .string y.2.2.2.1) rfl) ⟨hS, hE⟩ ?_
    refine WH.take 14 rfl (by kernel_rfl) (by kernel_rfl) (by kernel_rfl) (fun _ _ _ h => h) Gd.none rfl (fun w' ⟨hS', hE'⟩ => X.iface Tryd.underlying9 trivial (lh)) ⟨hS, hE⟩ ?_
    refine WH.take 15 rfl (by kernel_rfl) (by kernel_rfl) (by kernel_rfl) (fun _ _ _ h => h) Gd.none rfl (fun w' ⟨hS', hE'⟩ => X.iface Tryd.underlying9 trivial lc) ⟨hS, hE⟩ ?_
    refine WH.take 16 rfl (by kernel_rfl) (by kernel_rfl) (by kernel_rfl) (fun _ _ _ h => h) Gd.none rfl (fun w' ⟨hS', hE'⟩ => X.fieldAddr fd45_4 (jt8 rfl (jt4 rfl (jt2 rfl (s8))))) ⟨hS, hE⟩ ?_
    refine WH.take 17 rfl (by kernel_rfl) (by kernel_rfl) (by kernel_rfl) (fun _ _ _ h => h) Gd.none rfl (fun w' ⟨hS', hE'⟩ => X.load pl3 (lh) hE' (v := .int .i64 y.2.2.2.2.1) rfl) ⟨hS, hE⟩ ?_
    refine WH.take 18 rfl (by kernel_rfl) (by kernel_rfl) (by kernel_rfl) (fun _ _ _ h => h) Gd.none rfl (fun w' ⟨hS', hE'⟩ => X.iface Tryd.underlying3 trivial (lh)) ⟨hS, hE⟩ ?_
    refine WH.take 19 rfl (by kernel_rfl) (by kernel_rfl) (by kernel_rfl) (fun _ _ _ h => h) Gd.none rfl (fun w' ⟨hS', hE'⟩ => X.fieldAddr fd45_5 (jt8 rfl (jt8 rfl (lt rfl (s8))))) ⟨hS, hE⟩ ?_
    refine WH.take 20 rfl (by kernel_rfl) (by kernel_rfl) (by kernel_rfl) (fun _ _ _ h => h) Gd.none rfl (fun w' ⟨hS', hE'⟩ => X.load pl3 (lh) hE' (v := .int .i64 y.2.2.2.2.2.1) rfl) ⟨hS, hE⟩ ?_
    refine WH.take 21 rfl (by kernel_rfl) (by kernel_rfl) (by kernel_rfl) (fun _ _ _ h => h) Gd.none rfl (fun w' ⟨hS', hE'⟩ => X.iface Tryd.underlying3 trivial (lh)) ⟨hS, hE⟩ ?_
    refine WH.take 22 rfl (by kernel_rfl) (by kernel_rfl) (by kernel_rfl) (fun _ _ _ h => h) Gd.none rfl (fun w' ⟨hS', hE'⟩ => X.fieldAddr fd45_6 (jt8 rfl (jt8 rfl (jt4 rfl (s8))))) ⟨hS, hE⟩ ?_
    refine WH.take 23 rfl (by kernel_rfl) (by kernel_rfl) (by kernel_rfl) (fun _ _ _ h => h) Gd.none rfl (fun w' ⟨hS', hE'⟩ => X.load pl4 (lh) hE' (v := .bool y.2.2.2.2.2.2.1) rfl) ⟨hS, hE⟩ ?_
    refine WH.take 26 rfl (by kernel_rfl) (by kernel_rfl) (by kernel_rfl) (fun _ _ _ h => h) Gd.none rfl (fun w' ⟨hS', hE'⟩ => X.fieldAddr fd45_7 (jt8 rfl (jt8 rfl (jt4 rfl (jt2 rfl (s8)))))) ⟨hS, hE⟩ ?_
    refine WH.take 27 rfl (by kernel_rfl) (by kernel_rfl) (by kernel_rfl) (fun _ _ _ h => h) Gd.none rfl (fun w' ⟨hS', hE'⟩ => X.load pl4 (lh) hE' (v := .bool y.2.2.2.2.2.2.2) rfl) ⟨hS, hE⟩ ?_
    refine WH.take 30 rfl (by kernel_rfl) (by kernel_rfl) (by kernel_rfl) (fun _ _ _ h => h) Gd.none rfl (fun w' ⟨hS', hE'⟩ => X.iface Tryd.underlying9 trivial lc) ⟨hS, hE⟩ ?_
    refine WH.one 6 rfl (by kernel_rfl) (fun _ _ h => h) ?_
    refine WL.call1 ce13 (jt8 rfl (jt8 rfl (jt2 rfl (lt rfl (lh))))) (label_ok y.2.2.1 w21) rfl ?_
    rintro _ w22 ⟨rfl, cn⟩
    replace hw := hw.ch0 cn
    replace hcl := hcl.trans0 cn
    replace hbx := cn.at0 hbx
    replace hE := cn.at0 hE
    have hS := hS.trans cn (fun _ _ => id) (by intro i hi hg; first | exact hg | exact False.elim hg | omega | ((try dsimp only at hg ⊢); omega))
    refine WL.nil Nx.thn ⟨⟨hS, hE⟩, ?_⟩
    refine WH.take 7 rfl (by kernel_rfl) (by kernel_rfl) (by kernel_rfl) (fun _ _ _ h => h) Gd.none rfl (fun w' ⟨hS', hE'⟩ => X.iface Tryd.underlying9 trivial (lh)) ⟨hS, hE⟩ ?_
    refine WH.one 24 rfl (by kernel_rfl) (fun _ _ h => h) ?_
    refine WL.call3 ce10 (jt4 rfl (lt rfl (lh))) lc lc (either_ok y.2.2.2.2.2.2.1 wNil wValue w22) rfl ?_
    rintro _ _ ⟨rfl, rfl⟩
    refine WL.nil Nx.thn ⟨⟨hS, hE⟩, ?_⟩
    refine WH.take 25 rfl (by kernel_rfl) (by kernel_rfl) (by kernel_rfl) (fun _ _ _ h => h) Gd.none rfl (fun w' ⟨hS', hE'⟩ => X.iface Tryd.underlying9 trivial (lh)) ⟨hS, hE⟩ ?_
    refine WH.one 28 rfl (by kernel_rfl) (fun _ _ h => h) ?_
    refine WL.call3 ce10 (jt4 rfl (lt rfl (lh))) lc lc (either_ok y.2.2.2.2.2.2.2 wCond wSure w22) rfl ?_
    rintro _ _ ⟨rfl, rfl⟩
    refine WL.nil Nx.thn ⟨⟨hS, hE⟩, ?_⟩
    refine WH.take 29 rfl (by kernel_rfl) (by kernel_rfl) (by kernel_rfl) (fun _ _ _ h => h) Gd.none rfl (fun w' ⟨hS', hE'⟩ => X.iface Tryd.underlying9 trivial (lh)) ⟨hS, hE⟩ ?_
    refine WH.one 31 rfl (by kernel_rfl) (fun _ _ h => h) ?_
    refine WL.bslice Tryd.underlying54 el20 rfl (pcons (jt8 rfl (jt8 rfl (jt8 rfl (jt4 rfl (jt2 rfl (lh)))))) (pcons (jt8 rfl (jt8 rfl (jt8 rfl (jt2 rfl (lt rfl (lh)))))) (pcons (jt4 rfl (lh)) (pcons (jt8 rfl (jt8 rfl (jt4 rfl (jt2 rfl (lh))))) (pcons (jt8 rfl (jt8 rfl (jt4 rfl (lt rfl (lh))))) (pcons (jt8 rfl (jt8 rfl (jt2 rfl (lh)))) (pcons (jt8 rfl (jt8 rfl (lt rfl (lh)))) (pcons (jt8 rfl (jt4 rfl (jt2 rfl (lh)))) (pcons (jt8 rfl (jt2 rfl (lt rfl (lh)))) (pcons (jt2 rfl (lh)) (pcons (lh) (pcons (jt4 rfl (jt2 rfl (lh))) pnil)))))))))))) rfl (rfl : _ = [_, _, _, _, _, _, _, _, _, _, _, _]) rfl ?_
    intro w23 us; have hu15_31 := us.at_; have cu15_31 := us.ch
    replace hE := us.ch.at0 hE
    have hS := hS.trans cu15_31 (fun _ _ => id) (by intro i hi hg; first | exact hg | exact False.elim hg | omega | ((try dsimp only at hg ⊢); omega))
    refine WL.nil Nx.thn ⟨⟨hS, hE⟩, ?_⟩
    refine WH.one 32 rfl (by kernel_rfl) (fun _ _ h => h) ?_
    have hPT : putF true [.s ⟨#[91]⟩, .n y.1, .s (labelN y.2.2.1), .n y.2.1, .s ⟨#[40]⟩, .s y.2.2.2.1, .s ⟨#[41]⟩, .n y.2.2.2.2.1, .n y.2.2.2.2.2.1, .s (bsel y.2.2.2.2.2.2.1 wNil wValue), .s (bsel y.2.2.2.2.2.2.2 wCond wSure), .s ⟨#[93]⟩] = (whyT y, true) := pt_why hlab
    have zw9 := hw.lt
    refine WL.call2 ce8 (jt8 rfl (jt8 rfl (jt8 rfl (jt8 rfl (s4))))) (lh) (put_ok bw bw _ 12 12 [.s ⟨#[91]⟩, .n y.1, .s (labelN y.2.2.1), .n y.2.1, .s ⟨#[40]⟩, .s y.2.2.2.1, .s ⟨#[41]⟩, .n y.2.2.2.2.1, .n y.2.2.2.2.2.1, .s (bsel y.2.2.2.2.2.2.1 wNil wValue), .s (bsel y.2.2.2.2.2.2.2 wCond wSure), .s ⟨#[93]⟩] ((repA x ++ [10] ++ repB x ++ [10]) ++ (x.2.2.1.take k).flatMap anT ++ anH a ++ (a.2.2.2.2.2.2.1.take q).flatMap whyT) true w23 rfl hu15_31 (by have h9 := hw.lt; omega) (hw.ch0 cu15_31) (by have h9 := hw.lt; have h8 := cu15_31.size; omega) (by rw [hPT]; dsimp only; simp only [List.length_append, List.length_cons, List.length_nil]; omega) (by show 12 ≤ 100; omega) (fun w9 c9 => tab_ch0 hTab ((hcl.trans0 cu15_31).trans c9 (H := fun _ => False) (fun _ _ e => e) (fun j hj e => by (try dsimp only at e); omega))) (pin_s (pin_n hny.1 (pin_s (pin_n hny.2.1 (pin_s (pin_s (pin_s (pin_n hny.2.2.1 (pin_n hny.2.2.2 (pin_s (pin_s (pin_s pin_nil))))))))))))) rfl ?_
    rintro _ w24 ⟨hw, cp, hk⟩
    rw [hPT] at hw
    replace hw : IsW bw bw ((repA x ++ [10] ++ repB x ++ [10]) ++ (x.2.2.1.take k).flatMap anT ++ anH a ++ (a.2.2.2.2.2.2.1.take q).flatMap whyT ++ whyT y) true w24 := hw
    replace hcl := hcl.trans0 cu15_31
    replace hbx := cu15_31.at0 hbx
    replace hcl := hcl.trans cp (H := fun _ => False) (fun _ _ e => e) (fun j hj e => by (try dsimp only at e); omega)
    replace hbx := hk _ _ _ _ hbx (by decide) (by omega)
    replace hE := hk _ _ _ _ hE (by decide) (by omega)
    have hS := hS.trans cp (fun _ _ => id) (by intro i hi hg; first | exact hg | exact False.elim hg | omega | ((try dsimp only at hg ⊢); omega))
    refine WL.nil Nx.thn ⟨⟨hS, hE⟩, ?_⟩
    refine WH.done (by kernel_rfl) ?_
    refine WL.e8 (Nx.blk Nx.thn) 1 4 30 31 32 70 71 72 (jt8 rfl (jt8 rfl (jt8 rfl (jt8 rfl (lt rfl (s1)))))) (jt8 rfl (jt8 rfl (jt8 rfl (jt8 rfl (lt rfl (s4)))))) (jt8 rfl (jt8 rfl (jt8 rfl (jt8 rfl (lt rfl (s30)))))) (jt8 rfl (jt8 rfl (jt8 rfl (jt8 rfl (lt rfl (s31)))))) (jt8 rfl (jt8 rfl (jt8 rfl (jt8 rfl (lt rfl (s32)))))) (jt8 rfl (jt8 rfl (jt8 rfl (jt8 rfl (lt rfl (s70)))))) (jt8 rfl (jt8 rfl (jt8 rfl (jt8 rfl (lt rfl (s71)))))) (jt8 rfl (jt8 rfl (jt8 rfl (jt8 rfl (lt rfl (s72)))))) ?_
    intro σ18 s1 s4 s30 s31 s32 s70 s71 s72
    refine W.region ?_
    first | refine WL.x (X.add (s72) lc (by omega) (by omega)) rfl ?_ | refine WL.x (X.addw (s72) lc) rfl ?_
    refine WL.x (X.mv (lh)) rfl ?_
    refine WL.e8 Nx.thn 1 4 30 31 32 70 71 72 (jt2 rfl (s1)) (jt2 rfl (s4)) (jt2 rfl (s30)) (jt2 rfl (s31)) (jt2 rfl (s32)) (jt2 rfl (s70)) (jt2 rfl (s71)) (lh) ?_
    intro σ19 s1 s4 s30 s31 s32 s70 s71 s72
    refine ⟨q + 1, by omega, ⟨s1.trans qo7.symm, s4.trans qo8.symm, s30.trans qo9.symm, s31.trans qo10.symm, s32.trans qo11.symm, s70.trans qo12.symm, s71.trans qo13.symm, trivial⟩, s72, by omega, (by rw [htq, ← List.append_assoc]; exact hw), hbx, hcl⟩
   ·
    have hlq9 := hlq q
    refine W.exit (Nx.xthn (Nx.xthn (Nx.xblk Nx.thn))) ?_
    refine W.region ?_
    refine WL.call1 ce9 (s4) (line_ok bw bw ((repA x ++ [10] ++ repB x ++ [10]) ++ (x.2.2.1.take k).flatMap anT ++ anH a ++ (a.2.2.2.2.2.2.1.take q).flatMap whyT) true w18 hw (by simp only [List.length_append, List.length_cons, List.length_nil]; omega) (Nat.le_of_lt hw.lt)) rfl ?_
    rintro _ w25 ⟨hw, cp, hk⟩
    replace hcl := hcl.trans cp (H := fun _ => False) (fun _ _ e => e) (fun j hj e => by (try dsimp only at e); omega)
    replace hbx := hk _ _ _ _ hbx (by decide) (by omega)
    refine WL.e5 (Nx.blk Nx.thn) 1 4 30 31 32 (lt rfl (s1)) (lt rfl (s4)) (lt rfl (s30)) (lt rfl (s31)) (lt rfl (s32)) ?_
    intro σ20 s1 s4 s30 s31 s32
    refine W.region ?_
    first | refine WL.x (X.add (s32) lc (by omega) (by omega)) rfl ?_ | refine WL.x (X.addw (s32) lc) rfl ?_
    refine WL.x (X.mv (lh)) rfl ?_
    refine WL.e5 Nx.thn 1 4 30 31 32 (jt2 rfl (s1)) (jt2 rfl (s4)) (jt2 rfl (s30)) (jt2 rfl (s31)) (lh) ?_
    intro σ21 s1 s4 s30 s31 s32
    refine ⟨k + 1, by omega, ⟨s1.trans qo1.symm, s4.trans qo2.symm, s30.trans qo3.symm, s31.trans qo4.symm, trivial⟩, s32, by omega, (by rw [htk, anT_eq]; rw [show q = a.2.2.2.2.2.2.1.length by omega, List.take_length] at hw; simpa only [List.append_assoc] using hw), hbx, hcl⟩
  ·
   have hl5 := ml5 x.2.2.1.length
   rw [List.take_length] at hl5
   replace hw : IsW bw bw ((repA x ++ [10] ++ repB x ++ [10]) ++ x.2.2.1.flatMap anT) false w10 := by rw [show k = x.2.2.1.length by omega, List.take_length] at hw; exact hw
   refine W.exit (Nx.xthn (Nx.xthn (Nx.xblk Nx.thn))) ?_
   refine W.seq ?_
   refine W.region ?_
   refine WL.x (X.iface Tryd.underlying9 trivial lc) rfl ?_
   refine WL.x (X.fieldAddr fd25_3 (lt rfl (s1))) rfl ?_
   refine WL.x (X.load pl3 (lh) hbx (v := .int .i64 x.2.2.2.1) (by rw [hRC]; rfl)) rfl ?_
   refine WL.call1 ce12 (lh) (name_ok x.2.2.2.1 w10) rfl ?_
   rintro _ w26 ⟨rfl, cn⟩
   replace hw := hw.ch0 cn
   replace hcl := hcl.trans0 cn
   replace hbx := cn.at0 hbx
   refine WL.x (X.iface Tryd.underlying9 trivial (lh)) rfl ?_
   refine WL.bslice Tryd.underlying54 el20 rfl (pcons (jt4 rfl (lh)) (pcons (lh) pnil)) rfl (rfl : _ = [_, _]) rfl ?_
   intro w27 u19_5; have hu19_5 := u19_5.at_; have cu19_5 := u19_5.ch; have zu19_5 := u19_5.size
   have hPT : putF false [.s wLevel, .s (levelN x.2.2.2.1)] = (repL x, true) := pt_L mm3
   have zw9 := hw.lt
   refine WL.call2 ce8 (jt4 rfl (jt2 rfl (s4))) (lh) (put_ok bw bw _ 2 2 [.s wLevel, .s (levelN x.2.2.2.1)] ((repA x ++ [10] ++ repB x ++ [10]) ++ x.2.2.1.flatMap anT) false w27 rfl hu19_5 (by have h9 := hw.lt; omega) (hw.ch0 cu19_5) (by have h9 := hw.lt; have h8 := cu19_5.size; omega) (by rw [hPT]; dsimp only; simp only [List.length_append, List.length_cons, List.length_nil]; omega) (by show 2 ≤ 100; omega) (fun w9 c9 => tab_ch0 hTab ((hcl.trans0 cu19_5).trans c9 (H := fun _ => False) (fun _ _ e => e) (fun j hj e => by (try dsimp only at e); omega))) (pin_s (pin_s pin_nil))) rfl ?_
   rintro _ w28 ⟨hw, cp, hk⟩
   rw [hPT] at hw
   replace hw : IsW bw bw ((repA x ++ [10] ++ repB x ++ [10]) ++ x.2.2.1.flatMap anT ++ repL x) true w28 := hw
   replace hcl := hcl.trans0 cu19_5
   replace hbx := cu19_5.at0 hbx
   replace hcl := hcl.trans cp (H := fun _ => False) (fun _ _ e => e) (fun j hj e => by (try dsimp only at e); omega)
   replace hbx := hk _ _ _ _ hbx (by decide) (by omega)
   refine WL.e2 Nx.thn 1 4 (jt4 rfl (jt2 rfl (lt rfl (s1)))) (jt4 rfl (jt2 rfl (lt rfl (s4)))) ?_
   intro σ22 s1 s4
   refine W.seq ?_
   refine W.region ?_
   refine WL.call1 ce9 (s4) (line_ok bw bw ((repA x ++ [10] ++ repB x ++ [10]) ++ x.2.2.1.flatMap anT ++ repL x) true w28 hw (by simp only [List.length_append, List.length_cons, List.length_nil]; omega) (Nat.le_of_lt hw.lt)) rfl ?_
   rintro _ w29 ⟨hw, cp, hk⟩
   replace hcl := hcl.trans cp (H := fun _ => False) (fun _ _ e => e) (fun j hj e => by (try dsimp only at e); omega)
   replace hbx := hk _ _ _ _ hbx (by decide) (by omega)
   refine WL.e2 Nx.thn 1 4 (lt rfl (s1)) (lt rfl (s4)) ?_
   intro σ23 s1 s4
   refine W.seq ?_
   refine W.held (fun w' => Ch (fun j => bw ≤ j) w29 w' ∧ w'.heap[xb]? = some (.cells RC 25 (0, 0))) mo ?_
   intro w30 qhh16 qc17
   have hS : Ch (fun j => bw ≤ j) w29 w30 := Ch.weak qc17
   have hzqc17 := qc17.size
   have cdh21 := qc17
   replace hw := hw.ch0 cdh21
   replace hcl := hcl.trans0 cdh21
   replace hbx := cdh21.at0 hbx
   have hE := hbx
   refine WH.take 0 rfl (by kernel_rfl) (by kernel_rfl) (by kernel_rfl) (fun _ _ _ h => h) Gd.none rfl (fun w' ⟨hS', hE'⟩ => X.iface Tryd.underlying9 trivial lc) ⟨hS, hE⟩ ?_
   refine WH.take 2 rfl (by kernel_rfl) (by kernel_rfl) (by kernel_rfl) (fun _ _ _ h => h) Gd.none rfl (fun w' ⟨hS', hE'⟩ => X.fieldAddr fd25_4 (lt rfl (s1))) ⟨hS, hE⟩ ?_
   refine WH.take 3 rfl (by kernel_rfl) (by kernel_rfl) (by kernel_rfl) (fun _ _ _ h => h) Gd.none rfl (fun w' ⟨hS', hE'⟩ => X.load pl3 (lh) hE' (v := .int .i64 x.2.2.2.2.1) (by rw [hRC]; rfl)) ⟨hS, hE⟩ ?_
   refine WH.one 1 rfl (by kernel_rfl) (fun _ _ h => h) ?_
   refine WL.call0 ce14  (answers_ok w30) rfl ?_
   rintro _ w31 ⟨rfl, ck⟩
   replace hw := hw.ch0 ck
   replace hcl := hcl.trans0 ck
   replace hbx := ck.at0 hbx
   replace hE := ck.at0 hE
   have hS := hS.trans ck (fun _ _ => id) (by intro i hi hg; first | exact hg | exact False.elim hg | omega | ((try dsimp only at hg ⊢); omega))
   refine WL.nil Nx.thn ⟨⟨hS, hE⟩, ?_⟩
   refine WH.take 4 rfl (by kernel_rfl) (by kernel_rfl) (by kernel_rfl) (fun _ _ _ h => h) Gd.none rfl (fun w' ⟨hS', hE'⟩ => X.indexA Tryd.underlying46 pl9 el9 (lh) (lt rfl (lh)) (by omega) (by omega) (answerN_at mm4)) ⟨hS, hE⟩ ?_
   refine WH.take 5 rfl (by kernel_rfl) (by kernel_rfl) (by kernel_rfl) (fun _ _ _ h => h) Gd.none rfl (fun w' ⟨hS', hE'⟩ => X.iface Tryd.underlying9 trivial (lh)) ⟨hS, hE⟩ ?_
   refine WH.one 6 rfl (by kernel_rfl) (fun _ _ h => h) ?_
   refine WL.bslice Tryd.underlying54 el20 rfl (pcons (jt4 rfl (lt rfl (lh))) (pcons (lh) pnil)) rfl (rfl : _ = [_, _]) rfl ?_
   intro w32 us; have hu21_6 := us.at_; have cu21_6 := us.ch
   replace hE := us.ch.at0 hE
   have hS := hS.trans cu21_6 (fun _ _ => id) (by intro i hi hg; first | exact hg | exact False.elim hg | omega | ((try dsimp only at hg ⊢); omega))
   refine WL.nil Nx.thn ⟨⟨hS, hE⟩, ?_⟩
   refine WH.one 7 rfl (by kernel_rfl) (fun _ _ h => h) ?_
   have hPT : putF false [.s wAnswer, .s (answerN x.2.2.2.2.1)] = (repW x, true) := pt_W mm4
   have zw9 := hw.lt
   refine WL.call2 ce8 (jt4 rfl (jt2 rfl (lt rfl (s4)))) (lh) (put_ok bw bw _ 2 2 [.s wAnswer, .s (answerN x.2.2.2.2.1)] ((repA x ++ [10] ++ repB x ++ [10]) ++ x.2.2.1.flatMap anT ++ repL x ++ [10]) false w32 rfl hu21_6 (by have h9 := hw.lt; omega) (hw.ch0 cu21_6) (by have h9 := hw.lt; have h8 := cu21_6.size; omega) (by rw [hPT]; dsimp only; simp only [List.length_append, List.length_cons, List.length_nil]; omega) (by show 2 ≤ 100; omega) (fun w9 c9 => tab_ch0 hTab ((hcl.trans0 cu21_6).trans c9 (H := fun _ => False) (fun _ _ e => e) (fun j hj e => by (try dsimp only at e); omega))) (pin_s (pin_s pin_nil))) rfl ?_
   rintro _ w33 ⟨hw, cp, hk⟩
   rw [hPT] at hw
   replace hw : IsW bw bw ((repA x ++ [10] ++ repB x ++ [10]) ++ x.2.2.1.flatMap anT ++ repL x ++ [10] ++ repW x) true w33 := hw
   replace hcl := hcl.trans0 cu21_6
   replace hbx := cu21_6.at0 hbx
   replace hcl := hcl.trans cp (H := fun _ => False) (fun _ _ e => e) (fun j hj e => by (try dsimp only at e); omega)
   replace hbx := hk _ _ _ _ hbx (by decide) (by omega)
   replace hE := hk _ _ _ _ hE (by decide) (by omega)
   have hS := hS.trans cp (fun _ _ => id) (by intro i hi hg; first | exact hg | exact False.elim hg | omega | ((try dsimp only at hg ⊢); omega))
   refine WL.nil Nx.thn ⟨⟨hS, hE⟩, ?_⟩
   refine WH.done (by kernel_rfl) ?_
   refine WL.e2 Nx.thn 1 4 (jt8 rfl (s1)) (jt8 rfl (s4)) ?_
   intro σ24 s1 s4
   have qo18 := s4
   refine W.seqJ (fun σ' w' => (σ' 4 = σ24 4 ∧ True) ∧ IsW bw bw ((repA x ++ [10] ++ repB x ++ [10]) ++ x.2.2.1.flatMap anT ++ repL x ++ [10] ++ repW x ++ ordT x.2.2.2.2.1 x.2.2.2.2.2) true w' ∧ w'.heap[xb]? = some (.cells RC 25 (0, 0)) ∧ Ch0 w w' ∧ (ordT x.2.2.2.2.1 x.2.2.2.2.2).length ≤ 6700) ?_ ?_
   ·
    refine W.seq ?_
    refine W.region ?_
    refine WL.x (X.fieldAddr fd25_4 (s1)) rfl ?_
    refine WL.x (X.load pl3 (lh) hbx (v := .int .i64 x.2.2.2.2.1) (by rw [hRC]; rfl)) rfl ?_
    refine WL.x (X.eql (lh) lc) rfl ?_
    refine WL.e3 Nx.thn 1 4 130 (jt2 rfl (lt rfl (s1))) (jt2 rfl (lt rfl (s4))) (lh) ?_
    intro σ25 s1 s4 s130
    refine W.cndp s130 (fun hyes => ?_) (fun hyes => ?_)
    ·
     refine W.seq ?_
     refine W.region ?_
     refine WL.x (X.iface Tryd.underlying9 trivial lc) rfl ?_
     refine WL.bslice Tryd.underlying54 el20 rfl (pcons (lh) pnil) rfl (rfl : _ = [_]) rfl ?_
     intro w34 u23_1; have hu23_1 := u23_1.at_; have cu23_1 := u23_1.ch; have zu23_1 := u23_1.size
     have hPT : putF true [.s ⟨#[40]⟩] = ([32, 40], true) := pt_o
     have zw9 := hw.lt
     refine WL.call2 ce8 (jt2 rfl (s4)) (lh) (put_ok bw bw _ 1 1 [.s ⟨#[40]⟩] ((repA x ++ [10] ++ repB x ++ [10]) ++ x.2.2.1.flatMap anT ++ repL x ++ [10] ++ repW x) true w34 rfl hu23_1 (by have h9 := hw.lt; omega) (hw.ch0 cu23_1) (by have h9 := hw.lt; have h8 := cu23_1.size; omega) (by rw [hPT]; dsimp only; simp only [List.length_append, List.length_cons, List.length_nil]; omega) (by show 1 ≤ 100; omega) (fun w9 c9 => tab_ch0 hTab ((hcl.trans0 cu23_1).trans c9 (H := fun _ => False) (fun _ _ e => e) (fun j hj e => by (try dsimp only at e); omega))) (pin_s pin_nil)) rfl ?_
     rintro _ w35 ⟨hw, cp, hk⟩
     rw [hPT] at hw
     replace hw : IsW bw bw ((repA x ++ [10] ++ repB x ++ [10]) ++ x.2.2.1.flatMap anT ++ repL x ++ [10] ++ repW x ++ [32, 40]) true w35 := hw
     replace hcl := hcl.trans0 cu23_1
     replace hbx := cu23_1.at0 hbx
     replace hcl := hcl.trans cp (H := fun _ => False) (fun _ _ e => e) (fun j hj e => by (try dsimp only at e); omega)
     replace hbx := hk _ _ _ _ hbx (by decide) (by omega)
     refine WL.e2 Nx.thn 1 4 (jt2 rfl (lt rfl (s1))) (jt2 rfl (lt rfl (s4))) ?_
     intro σ26 s1 s4
     refine W.seq ?_
     refine W.seq ?_
     refine W.region ?_
     refine WL.x (X.fieldAddr fd25_5 (s1)) rfl ?_
     refine WL.x (X.load pl23 (lh) hbx (v := .slice ua x.2.2.2.2.2.length uc) (by rw [hRC]; rfl)) rfl ?_
     refine WL.x (X.lenSl Tryd.underlying23 (lh)) rfl ?_
     refine WL.x (X.mv lc) rfl ?_
     refine WL.e4 Nx.thn 4 135 136 137 (jt4 rfl (s4)) (jt2 rfl (lh)) (lt rfl (lh)) (lh) ?_
     intro σ27 s4 s135 s136 s137
     refine W.block ?_
     have qo19 := s4
     have qo20 := s135
     have qo21 := s136
     -- loop 2: kept [4, 135, 136], varied [137]
     refine W.loop (G := Nat) (fun j σ' w' => (σ' 4 = σ27 4 ∧ σ' 135 = σ27 135 ∧ σ' 136 = σ27 136 ∧ True) ∧ (σ' 137 = .int .i64 (j : Int) ∧ j ≤ x.2.2.2.2.2.length ∧ IsW bw bw ((repA x ++ [10] ++ repB x ++ [10]) ++ x.2.2.1.flatMap anT ++ repL x ++ [10] ++ repW x ++ [32, 40] ++ (x.2.2.2.2.2.take j).flatMap valT) true w' ∧ w'.heap[xb]? = some (.cells RC 25 (0, 0)) ∧ Ch0 w w')) (fun j => x.2.2.2.2.2.length - j) (0) ⟨⟨rfl, rfl, rfl, trivial⟩, s137, by omega, (by simpa using hw), hbx, hcl⟩ ?_
     rintro j σ28 w36 ⟨⟨f4, f135, f136, _⟩, s137, hj9, hw, hbx, hcl⟩
     have s4 := f4.trans qo19
     have s135 := f135.trans qo20
     have s136 := f136.trans qo21
     refine W.seq ?_
     refine W.region ?_
     refine WL.x (X.lss (s137) (s136)) rfl ?_
     refine WL.e5 Nx.thn 4 135 136 137 138 (lt rfl (s4)) (lt rfl (s135)) (lt rfl (s136)) (lt rfl (s137)) (lh) ?_
     intro σ29 s4 s135 s136 s137 s138
     refine W.seq ?_
     refine W.cndp s138 (fun hltj => ?_) (fun hltj => ?_)
     ·
      have hjl : j < x.2.2.2.2.2.length := by omega
      have hl6 := ml6 j
      obtain ⟨gb, og, csg, Tg, frg, hgv, hg1, hg2⟩ := ho.1.at (k := j) (by rw [List.length_map]; omega)
      subst hgv
      have hzj := hnum.2.2 x.2.2.2.2.2[j] (List.getElem_mem hjl)
      have hvj := valT_len hzj
      have htj : (x.2.2.2.2.2.take (j + 1)).flatMap valT = (x.2.2.2.2.2.take j).flatMap valT ++ valT x.2.2.2.2.2[j] := fm_take hjl
      refine W.skip Nx.thn ?_
      refine W.seq ?_
      refine W.block ?_
      refine W.seq ?_
      refine W.region ?_
      refine WL.x (X.indexAddr Tryd.underlying23 el3 (s135) (s137) (by omega) (by omega)) rfl ?_
      refine WL.x (X.load pl3 (lh) (hcl.at0 hg1) (v := .int .i64 x.2.2.2.2.2[j]) (by rw [show og + (j : Int).toNat * 1 = og + j by omega, hg2 j (by rw [List.length_map]; omega), List.getElem?_map, List.getElem?_eq_getElem (by omega)]; rfl)) rfl ?_
      refine WL.x (X.asg (lh)) rfl ?_
      refine WL.e5 Nx.thn 4 10 135 136 137 (jt2 rfl (lt rfl (s4))) (lh) (jt2 rfl (lt rfl (s135))) (jt2 rfl (lt rfl (s136))) (jt2 rfl (lt rfl (s137))) ?_
      intro σ30 s4 s10 s135 s136 s137
      refine W.region ?_
      refine WL.x (X.mv (s10)) rfl ?_
      refine WL.x (X.iface Tryd.underlying3 trivial (lh)) rfl ?_
      refine WL.bslice Tryd.underlying54 el20 rfl (pcons (lh) pnil) rfl (rfl : _ = [_]) rfl ?_
      intro w37 u27_2; have hu27_2 := u27_2.at_; have cu27_2 := u27_2.ch; have zu27_2 := u27_2.size
      have hPT : putF true [.n x.2.2.2.2.2[j]] = (valT x.2.2.2.2.2[j], true) := pt_n _
      have zw9 := hw.lt
      refine WL.call2 ce8 (jt2 rfl (lt rfl (s4))) (lh) (put_ok bw bw _ 1 1 [.n x.2.2.2.2.2[j]] ((repA x ++ [10] ++ repB x ++ [10]) ++ x.2.2.1.flatMap anT ++ repL x ++ [10] ++ repW x ++ [32, 40] ++ (x.2.2.2.2.2.take j).flatMap valT) true w37 rfl hu27_2 (by have h9 := hw.lt; omega) (hw.ch0 cu27_2) (by have h9 := hw.lt; have h8 := cu27_2.size; omega) (by rw [hPT]; dsimp only; simp only [List.length_append, List.length_cons, List.length_nil]; omega) (by show 1 ≤ 100; omega) (fun w9 c9 => tab_ch0 hTab ((hcl.trans0 cu27_2).trans c9 (H := fun _ => False) (fun _ _ e => e) (fun j hj e => by (try dsimp only at e); omega))) (pin_n hzj pin_nil)) rfl ?_
      rintro _ w38 ⟨hw, cp, hk⟩
      rw [hPT] at hw
      replace hw : IsW bw bw ((repA x ++ [10] ++ repB x ++ [10]) ++ x.2.2.1.flatMap anT ++ repL x ++ [10] ++ repW x ++ [32, 40] ++ (x.2.2.2.2.2.take j).flatMap valT ++ valT x.2.2.2.2.2[j]) true w38 := hw
      replace hcl := hcl.trans0 cu27_2
      replace hbx := cu27_2.at0 hbx
      replace hcl := hcl.trans cp (H := fun _ => False) (fun _ _ e => e) (fun j hj e => by (try dsimp only at e); omega)
      replace hbx := hk _ _ _ _ hbx (by decide) (by omega)
      refine WL.e4 (Nx.blk Nx.thn) 4 135 136 137 (jt4 rfl (s4)) (jt4 rfl (s135)) (jt4 rfl (s136)) (jt4 rfl (s137)) ?_
      intro σ31 s4 s135 s136 s137
      refine W.region ?_
      first | refine WL.x (X.add (s137) lc (by omega) (by omega)) rfl ?_ | refine WL.x (X.addw (s137) lc) rfl ?_
      refine WL.x (X.mv (lh)) rfl ?_
      refine WL.e4 Nx.thn 4 135 136 137 (jt2 rfl (s4)) (jt2 rfl (s135)) (jt2 rfl (s136)) (lh) ?_
      intro σ32 s4 s135 s136 s137
      refine ⟨j + 1, by omega, ⟨s4.trans qo19.symm, s135.trans qo20.symm, s136.trans qo21.symm, trivial⟩, s137, by omega, (by rw [htj, ← List.append_assoc]; exact hw), hbx, hcl⟩
     ·
      have hl6 := ml6 j
      refine W.exit (Nx.xthn (Nx.xthn (Nx.xblk Nx.thn))) ?_
      refine W.region ?_
      refine WL.x (X.iface Tryd.underlying9 trivial lc) rfl ?_
      refine WL.bslice Tryd.underlying54 el20 rfl (pcons (lh) pnil) rfl (rfl : _ = [_]) rfl ?_
      intro w39 u29_1; have hu29_1 := u29_1.at_; have cu29_1 := u29_1.ch; have zu29_1 := u29_1.size
      have hPT : putF true [.s ⟨#[41]⟩] = ([32, 41], true) := pt_c
      have zw9 := hw.lt
      refine WL.call2 ce8 (jt2 rfl (s4)) (lh) (put_ok bw bw _ 1 1 [.s ⟨#[41]⟩] ((repA x ++ [10] ++ repB x ++ [10]) ++ x.2.2.1.flatMap anT ++ repL x ++ [10] ++ repW x ++ [32, 40] ++ (x.2.2.2.2.2.take j).flatMap valT) true w39 rfl hu29_1 (by have h9 := hw.lt; omega) (hw.ch0 cu29_1) (by have h9 := hw.lt; have h8 := cu29_1.size; omega) (by rw [hPT]; dsimp only; simp only [List.length_append, List.length_cons, List.length_nil]; omega) (by show 1 ≤ 100; omega) (fun w9 c9 => tab_ch0 hTab ((hcl.trans0 cu29_1).trans c9 (H := fun _ => False) (fun _ _ e => e) (fun j hj e => by (try dsimp only at e); omega))) (pin_s pin_nil)) rfl ?_
      rintro _ w40 ⟨hw, cp, hk⟩
      rw [hPT] at hw
      replace hw : IsW bw bw ((repA x ++ [10] ++ repB x ++ [10]) ++ x.2.2.1.flatMap anT ++ repL x ++ [10] ++ repW x ++ [32, 40] ++ (x.2.2.2.2.2.take j).flatMap valT ++ [32, 41]) true w40 := hw
      replace hcl := hcl.trans0 cu29_1
      replace hbx := cu29_1.at0 hbx
      replace hcl := hcl.trans cp (H := fun _ => False) (fun _ _ e => e) (fun j hj e => by (try dsimp only at e); omega)
      replace hbx := hk _ _ _ _ hbx (by decide) (by omega)
      refine WL.e1 Nx.thn 4 (jt2 rfl (lt rfl (s4))) ?_
      intro σ33 s4
      refine ⟨⟨s4.trans qo18.symm, trivial⟩, (by rw [ordT_yes hyes]; rw [show j = x.2.2.2.2.2.length by omega, List.take_length] at hw; simpa only [List.append_assoc] using hw), hbx, hcl, (by rw [ordT_yes hyes]; have h9 := ml6 x.2.2.2.2.2.length; rw [List.take_length] at h9; simp only [List.length_append, List.length_cons, List.length_nil]; omega)⟩
    ·
     refine W.skip Nx.thn ?_
     refine ⟨⟨s4.trans qo18.symm, trivial⟩, (by rw [ordT_no hyes, List.append_nil]; exact hw), hbx, hcl, (by rw [ordT_no hyes]; exact Nat.zero_le _)⟩
   ·
    rintro σ34 w41 ⟨⟨f4, _⟩, hw, hbx, hcl, hlo⟩
    have s4 := f4.trans qo18
    refine W.seq ?_
    refine W.region ?_
    refine WL.call1 ce9 (s4) (line_ok bw bw ((repA x ++ [10] ++ repB x ++ [10]) ++ x.2.2.1.flatMap anT ++ repL x ++ [10] ++ repW x ++ ordT x.2.2.2.2.1 x.2.2.2.2.2) true w41 hw (by simp only [List.length_append, List.length_cons, List.length_nil]; omega) (Nat.le_of_lt hw.lt)) rfl ?_
    rintro _ w42 ⟨hw, cp, hk⟩
    replace hcl := hcl.trans cp (H := fun _ => False) (fun _ _ e => e) (fun j hj e => by (try dsimp only at e); omega)
    replace hbx := hk _ _ _ _ hbx (by decide) (by omega)
    refine WL.e1 Nx.thn 4 (lt rfl (s4)) ?_
    intro σ35 s4
    refine W.seq ?_
    refine W.region ?_
    refine WL.x (X.fieldAddr fd35_0 (s4)) rfl ?_
    refine WL.call1 ce15 (lh) (wst_ok bw bw _ false w42 hw (by simp)) rfl ?_
    rintro _ w43 ⟨rfl, cs⟩
    replace hcl := hcl.trans cs (H := fun _ => False) (fun _ _ e => e) (fun j hj e => by (try dsimp only at e); omega)
    refine WL.x (X.asg (lh)) rfl ?_
    refine WL.x (X.asg lc) rfl ?_
    refine WL.e2 Nx.thn 2 3 (lt rfl (lh)) (lh) ?_
    intro σ36 s2 s3
    refine W.ret2 Nx.f2 s2 s3 ?_
    exact ⟨by rw [(prQ_yes hmay).1, (prQ_yes hmay).2, repT_eq]; unfold repH; rfl, hcl⟩
end Go.Proofs.YtbnllchicnmkiaaDoor
