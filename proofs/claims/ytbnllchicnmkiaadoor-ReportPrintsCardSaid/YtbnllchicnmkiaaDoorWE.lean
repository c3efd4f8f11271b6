/-
  A part of the walk of the program.
-/
import Derived.Test.YtbnllchicnmkiaaDoorWD
import Derived.Test.YtbnllchicnmkiaaDoorWC
set_option linter.unusedVariables false
set_option linter.unusedSimpArgs false
set_option maxRecDepth 100000
namespace Go.Proofs.YtbnllchicnmkiaaDoor
open Go Go.RowKit Sg
theorem ce7 : Sg.Callee Tryd.prog 7 := ⟨_, Tryd.func7, by decide, rfl⟩
theorem ce18 : Sg.Callee Tryd.prog 18 := ⟨_, Tryd.func18, by decide, rfl⟩
set_option maxHeartbeats 6400000 in
theorem rprint_ok (A : Nat → Prop) (x : GRep) (es : List Value) (w : World) (h : RRep A w es x) :
  Sg.Ret Tryd.prog 5 #[.agg es.toArray] w fun v w' => v = .tuple #[.string (bs (prQ x)), .int .i64 (prE x)] ∧ Ch0 w w' := by
 have hh := h
 have hnum := rrep_num h
 obtain ⟨v, u, rfl, hs, ho, hb⟩ := h
 obtain ⟨va, vc, rfl⟩ := hs.len
 obtain ⟨ua, uc, hu⟩ := ho.1.len
 rw [List.length_map] at hu
 subst hu
 refine enter2 (n := 68) (l := [.agg #[.int .i64 x.1, .bool x.2.1, .slice va x.2.2.1.length vc, .int .i64 x.2.2.2.1, .int .i64 x.2.2.2.2.1, .slice ua x.2.2.2.2.2.length uc]]) Tryd.func5 rfl rfl rfl rfl ?_
 refine W.g1 0 (v1 := .agg #[.int .i64 x.1, .bool x.2.1, .slice va x.2.2.1.length vc, .int .i64 x.2.2.2.1, .int .i64 x.2.2.2.2.1, .slice ua x.2.2.2.2.2.length uc]) rfl ?_; intro σ s0
 refine W.seq ?_
 refine W.region ?_
 refine WL.box (s0) rfl ?_
 intro w1 u0_0; have hu0_0 := u0_0.at_; have cu0_0 := u0_0.ch; have zu0_0 := u0_0.size
 refine WL.x (X.asg lc) rfl ?_
 refine WL.x (X.asg lc) rfl ?_
 refine WL.e1 Nx.thn 1 (jt2 rfl (lh)) ?_
 intro σ1 s1
 refine W.seq ?_
 refine W.seq ?_
 refine W.region ?_
 refine WL.x (X.loadBox (vs := [.int .i64 x.1, .bool x.2.1, .slice va x.2.2.1.length vc, .int .i64 x.2.2.2.1, .int .i64 x.2.2.2.2.1, .slice ua x.2.2.2.2.2.length uc]) ag25 (s1) hu0_0 rfl) rfl ?_
 refine WL.call1 ce7 (lh) (rcan_ok A x _ w1 (monRep _ _ _ _ _ _ _ cu0_0 (fun _ _ => id) (fun _ => id) hh)) rfl ?_
 rintro _ w2 ⟨rfl, c0⟩
 refine WL.x (X.not (lh)) rfl ?_
 refine WL.e2 Nx.thn 1 11 (jt2 rfl (lt rfl (s1))) (lh) ?_
 intro σ2 s1 s11
 refine W.cnd s11 (fun hcan => ?_) (fun hcan => ?_)
 ·
  refine W.seq ?_
  refine W.region ?_
  refine WL.x (X.asg lc) rfl ?_
  refine WL.x (X.asg lc) rfl ?_
  refine WL.e2 Nx.thn 2 3 (lt rfl (lh)) (lh) ?_
  intro σ3 s2 s3
  refine W.ret2 (Nx.rthn Nx.f2) s2 s3 ?_
  have hmn : mayR keyE x = false := by simpa using hcan
  exact ⟨by rw [(prQ_no hmn).1, (prQ_no hmn).2]; rfl, cu0_0.trans0 c0⟩
 ·
  have hmay : mayR keyE x = true := by simpa using hcan
  have hok : PrOk x := ⟨hmay, hnum⟩
  obtain ⟨ml1, ml2, ml3, ml4, ml5, ml6⟩ := hok.lens
  obtain ⟨mm1, mm2, mm3, mm4, mm5, mm6, -⟩ := mayR_of hmay
  have z1 := valT_len hnum.1
  have z2 := sz_yes x.2.1
  have z3 := lvl_sz x.2.2.2.1
  have z4 := ans_sz x.2.2.2.2.1
  have zH : (repH x).length ≤ 70 := by unfold repH; simp only [List.length_append, List.length_cons, List.length_nil]; omega
  refine W.skip Nx.thn ?_
  refine W.seq ?_
  refine W.held (fun w' => Ch (fun _ => False) w2 w') mo ?_
  intro w3 qhh1 qc2
  have hS : Ch (fun _ => False) w2 w3 := Ch.weak qc2
  have hzqc2 := qc2.size
  have cdh3 := qc2
  refine WH.take 0 rfl (by kernel_rfl) (by kernel_rfl) (by kernel_rfl) (fun _ _ _ h => h) Gd.none rfl (fun w' hS' => X.fieldAddr fd25_0 (s1)) hS ?_
  refine WH.take 1 rfl (by kernel_rfl) (by kernel_rfl) (by kernel_rfl) (fun _ _ _ h => h) Gd.none rfl (fun w' hS' => X.load pl3 (lh) (by first | assumption | exact hS'.at (by assumption) (by intro hne; first | exact hne | ((try dsimp only at hne); omega)) | exact hS'.at (c0.at0 (by assumption)) (by intro hne; first | exact hne | ((try dsimp only at hne); omega))) (by first | rfl | assumption)) hS ?_
  refine WH.take 5 rfl (by kernel_rfl) (by kernel_rfl) (by kernel_rfl) (fun _ _ _ h => h) Gd.none rfl (fun w' hS' => X.fieldAddr fd25_1 (jt2 rfl (s1))) hS ?_
  refine WH.take 6 rfl (by kernel_rfl) (by kernel_rfl) (by kernel_rfl) (fun _ _ _ h => h) Gd.none rfl (fun w' hS' => X.load pl4 (lh) (by first | assumption | exact hS'.at (by assumption) (by intro hne; first | exact hne | ((try dsimp only at hne); omega)) | exact hS'.at (c0.at0 (by assumption)) (by intro hne; first | exact hne | ((try dsimp only at hne); omega))) (by first | rfl | assumption)) hS ?_
  refine WH.one 2 rfl (by kernel_rfl) (fun _ _ h => h) ?_
  refine WL.call1 ce16 (jt2 rfl (lh)) (rnum_ok x.1 w3 hnum.1) rfl ?_
  rintro _ w4 ⟨rfl, c1⟩
  have hS := hS.trans c1 (fun _ _ => id) (by intro i hi hg; first | exact hg | exact False.elim hg | omega | ((try dsimp only at hg ⊢); omega))
  refine WL.nil Nx.thn ⟨hS, ?_⟩
  refine WH.take 3 rfl (by kernel_rfl) (by kernel_rfl) (by kernel_rfl) (fun _ _ _ h => h) Gd.none rfl (fun w' hS' => X.addS lc (lh) (by simp only [ByteArray.size_append, szl, size_bs, List.size_toArray, List.length_cons, List.length_nil, List.length_append]; omega)) hS ?_
  refine WH.take 4 rfl (by kernel_rfl) (by kernel_rfl) (by kernel_rfl) (fun _ _ _ h => h) Gd.none rfl (fun w' hS' => X.addS (lh) lc (by simp only [ByteArray.size_append, szl, size_bs, List.size_toArray, List.length_cons, List.length_nil, List.length_append]; omega)) hS ?_
  refine WH.one 7 rfl (by kernel_rfl) (fun _ _ h => h) ?_
  refine WL.call3 ce17 (jt2 rfl (lt rfl (lh))) lc lc (reither_ok x.2.1 wYes wNo w4) rfl ?_
  rintro _ _ ⟨rfl, rfl⟩
  refine WL.nil Nx.thn ⟨hS, ?_⟩
  refine WH.take 8 rfl (by kernel_rfl) (by kernel_rfl) (by kernel_rfl) (fun _ _ _ h => h) Gd.none rfl (fun w' hS' => X.addS (lt rfl (lh)) (lh) (by simp only [ByteArray.size_append, szl, size_bs, List.size_toArray, List.length_cons, List.length_nil, List.length_append]; omega)) hS ?_
  refine WH.take 9 rfl (by kernel_rfl) (by kernel_rfl) (by kernel_rfl) (fun _ _ _ h => h) Gd.none rfl (fun w' hS' => X.addS (lh) lc (by simp only [ByteArray.size_append, szl, size_bs, List.size_toArray, List.length_cons, List.length_nil, List.length_append]; omega)) hS ?_
  refine WH.take 10 rfl (by kernel_rfl) (by kernel_rfl) (by kernel_rfl) (fun _ _ _ h => h) Gd.none rfl (fun w' hS' => X.asg (lh)) hS ?_
  refine WH.done (by kernel_rfl) ?_
  refine WL.e2 Nx.thn 1 4 (jt8 rfl (jt2 rfl (lt rfl (s1)))) (lh) ?_
  intro σ4 s1 s4
  refine W.seq ?_
  refine W.seq ?_
  refine W.region ?_
  refine WL.x (X.fieldAddr fd25_2 (s1)) rfl ?_
  refine WL.x (X.load pl22 (lh) (by first | assumption | exact hS.at (by assumption) (by intro hne; first | exact hne | ((try dsimp only at hne); omega)) | exact hS.at (c0.at0 (by assumption)) (by intro hne; first | exact hne | ((try dsimp only at hne); omega))) (v := .slice va x.2.2.1.length vc) rfl) rfl ?_
  refine WL.x (X.lenSl Tryd.underlying22 (lh)) rfl ?_
  refine WL.x (X.mv lc) rfl ?_
  refine WL.e5 Nx.thn 1 4 23 24 25 (jt4 rfl (s1)) (jt4 rfl (s4)) (jt2 rfl (lh)) (lt rfl (lh)) (lh) ?_
  intro σ5 s1 s4 s23 s24 s25
  refine W.block ?_
  have qo3 := s1
  have qo4 := s23
  have qo5 := s24
  -- loop 0: kept [1, 23, 24], varied [4, 25]
  refine W.loop (G := Nat) (fun k σ' w' => (σ' 1 = σ5 1 ∧ σ' 23 = σ5 23 ∧ σ' 24 = σ5 24 ∧ True) ∧ (∃ S, σ' 4 = .string S ∧ σ' 25 = .int .i64 (k : Int) ∧ sb S = repH x ++ (x.2.2.1.take k).flatMap anT ∧ k ≤ x.2.2.1.length ∧ Ch0 w1 w')) (fun k => x.2.2.1.length - k) (0) ⟨⟨rfl, rfl, rfl, trivial⟩, _, s4, s25, (by simp only [sb_app, sb_bs, sb_mk, List.take_zero, List.flatMap_nil, List.append_nil]; unfold repH repA repB wT; simp only [List.append_assoc]; rfl), by omega, c0.trans0 hS⟩ ?_
  rintro k σ6 w5 ⟨⟨f1, f23, f24, _⟩, S, s4, s25, hSe, hk9, hcl⟩
  have s1 := f1.trans qo3
  have s23 := f23.trans qo4
  have s24 := f24.trans qo5
  refine W.seq ?_
  refine W.region ?_
  refine WL.x (X.lss (s25) (s24)) rfl ?_
  refine WL.e6 Nx.thn 1 4 23 24 25 26 (lt rfl (s1)) (lt rfl (s4)) (lt rfl (s23)) (lt rfl (s24)) (lt rfl (s25)) (lh) ?_
  intro σ7 s1 s4 s23 s24 s25 s26
  refine W.seq ?_
  refine W.cndp s26 (fun hlt => ?_) (fun hlt => ?_)
  ·
   have hkl : k < x.2.2.1.length := by omega
   have hl5 := ml5 k
   obtain ⟨b1, o1, cs1, T1, fr1, es1, hva, hml1, hes1, hgl1, hr1⟩ := (hs.ch0 monAn (cu0_0.trans0 hcl)).at (k := k) hkl
   subst hva
   obtain ⟨hma, hna⟩ := hok.an (List.getElem_mem hkl)
   have htk : (x.2.2.1.take (k + 1)).flatMap anT = (x.2.2.1.take k).flatMap anT ++ anT x.2.2.1[k] := fm_take hkl
   obtain ⟨a, ha⟩ : ∃ a, a = x.2.2.1[k] := ⟨_, rfl⟩
   rw [← ha] at hr1 hma hna htk
   obtain ⟨hla1, hla2, hla3⟩ := an_len hma hna
   have hone1 : es1.all (·.oneCell') = true := RAn_one hr1
   have hSz := sb_len S
   rw [hSe] at hSz
   simp only [List.length_append, List.length_cons, List.length_nil] at hSz
   refine W.skip Nx.thn ?_
   refine W.seq ?_
   refine W.block ?_
   refine W.seq ?_
   refine W.region ?_
   refine WL.x (X.indexAddr Tryd.underlying22 el40 (s23) (s25) (by omega) (by omega)) rfl ?_
   refine WL.x (X.loadS ag40 (lh) hml1 hes1 hgl1) rfl ?_
   refine WL.alloc el40 rfl ?_
   intro w6 u6_2; have hu6_2 := u6_2.at_; have cu6_2 := u6_2.ch; have zu6_2 := u6_2.size
   refine WL.storeS (vs := es1) ag40 (lh) (lt rfl (lh)) hone1 hes1 hu6_2 (by decide) ?_
   intro w7 us
   have hwv := us.at_
   rw [blit_all (by rw [hes1]; rfl)] at hwv
   have cs5 := us.ch
   have zcl := hcl.size
   have hc95 := cu6_2.trans cs5 (H := fun _ => False) (fun _ _ e => e) (fun q hq e => by (try dsimp only at e); omega)
   have hc5 := hcl.trans0 hc95
   refine WL.e6 Nx.thn 1 4 6 23 24 25 (jt2 rfl (lt rfl (s1))) (jt2 rfl (lt rfl (s4))) (lh) (jt2 rfl (lt rfl (s23))) (jt2 rfl (lt rfl (s24))) (jt2 rfl (lt rfl (s25))) ?_
   intro σ8 s1 s4 s6 s23 s24 s25
   refine W.region ?_
   refine WL.x (X.mv (s4)) rfl ?_
   refine WL.x (X.loadBox (vs := es1) ag40 (lt rfl (s6)) hwv hes1) rfl ?_
   refine WL.call1 ce18 (lh) (ranom_ok A a es1 w7 (monAn _ _ _ _ _ _ _ hc95 (fun _ _ => id) (fun _ => id) hr1) hma) rfl ?_
   rintro _ w8 ⟨rfl, c2⟩
   refine WL.x (X.addS (jt2 rfl (lh)) (lh) (by simp only [ByteArray.size_append, szl, size_bs, List.size_toArray, List.length_cons, List.length_nil, List.length_append]; omega)) rfl ?_
   refine WL.x (X.asg (lh)) rfl ?_
   refine WL.e5 (Nx.blk Nx.thn) 1 4 23 24 25 (jt4 rfl (lt rfl (s1))) (lh) (jt4 rfl (lt rfl (s23))) (jt4 rfl (lt rfl (s24))) (jt4 rfl (lt rfl (s25))) ?_
   intro σ9 s1 s4 s23 s24 s25
   refine W.region ?_
   first | refine WL.x (X.add (s25) lc (by omega) (by omega)) rfl ?_ | refine WL.x (X.addw (s25) lc) rfl ?_
   refine WL.x (X.mv (lh)) rfl ?_
   refine WL.e5 Nx.thn 1 4 23 24 25 (jt2 rfl (s1)) (jt2 rfl (s4)) (jt2 rfl (s23)) (jt2 rfl (s24)) (lh) ?_
   intro σ10 s1 s4 s23 s24 s25
   refine ⟨k + 1, by omega, ⟨s1.trans qo3.symm, s23.trans qo4.symm, s24.trans qo5.symm, trivial⟩, _, s4, s25, (by rw [htk, sb_app, sb_bs, hSe]; simp only [List.append_assoc]), by omega, hc5.trans0 c2⟩
  ·
   have hl5 := ml5 x.2.2.1.length
   rw [List.take_length] at hl5
   rw [show k = x.2.2.1.length by omega, List.take_length] at hSe
   have hSz := sb_len S
   rw [hSe] at hSz
   simp only [List.length_append, List.length_cons, List.length_nil] at hSz
   refine W.exit (Nx.xthn (Nx.xthn (Nx.xblk Nx.thn))) ?_
   refine W.seq ?_
   refine W.held (fun w' => Ch (fun _ => False) w5 w') mo ?_
   intro w9 qhh6 qc7
   have hS : Ch (fun _ => False) w5 w9 := Ch.weak qc7
   have hzqc7 := qc7.size
   have cdh9 := qc7
   refine WH.take 0 rfl (by kernel_rfl) (by kernel_rfl) (by kernel_rfl) (fun _ _ _ h => h) Gd.none rfl (fun w' hS' => X.mv (s4)) hS ?_
   refine WH.take 1 rfl (by kernel_rfl) (by kernel_rfl) (by kernel_rfl) (fun _ _ _ h => h) Gd.none rfl (fun w' hS' => X.fieldAddr fd25_3 (lt rfl (s1))) hS ?_
   refine WH.take 2 rfl (by kernel_rfl) (by kernel_rfl) (by kernel_rfl) (fun _ _ _ h => h) Gd.none rfl (fun w' hS' => X.load pl3 (lh) (by first | assumption | exact hS'.at (by assumption) (by intro hne; first | exact hne | ((try dsimp only at hne); omega)) | exact hS'.at (hcl.at0 (by assumption)) (by intro hne; first | exact hne | ((try dsimp only at hne); omega))) (by first | rfl | assumption)) hS ?_
   refine WH.take 7 rfl (by kernel_rfl) (by kernel_rfl) (by kernel_rfl) (fun _ _ _ h => h) Gd.none rfl (fun w' hS' => X.fieldAddr fd25_4 (jt2 rfl (lt rfl (s1)))) hS ?_
   refine WH.take 8 rfl (by kernel_rfl) (by kernel_rfl) (by kernel_rfl) (fun _ _ _ h => h) Gd.none rfl (fun w' hS' => X.load pl3 (lh) (by first | assumption | exact hS'.at (by assumption) (by intro hne; first | exact hne | ((try dsimp only at hne); omega)) | exact hS'.at (hcl.at0 (by assumption)) (by intro hne; first | exact hne | ((try dsimp only at hne); omega))) (by first | rfl | assumption)) hS ?_
   refine WH.two 3 6 rfl rfl (by kernel_rfl) (fun _ _ h => h) ?_ ?_
   ·
    refine WL.call1 ce19 (jt2 rfl (lh)) (rname_ok x.2.2.2.1 w9) rfl ?_
    rintro _ w10 ⟨rfl, c5⟩
    have hS := hS.trans c5 (fun _ _ => id) (by intro i hi hg; first | exact hg | exact False.elim hg | omega | ((try dsimp only at hg ⊢); omega))
    refine WL.nil Nx.thn ⟨hS, ?_⟩
    refine WH.take 4 rfl (by kernel_rfl) (by kernel_rfl) (by kernel_rfl) (fun _ _ _ h => h) Gd.none rfl (fun w' hS' => X.addS lc (lh) (by simp only [ByteArray.size_append, szl, size_bs, List.size_toArray, List.length_cons, List.length_nil, List.length_append]; omega)) hS ?_
    refine WH.take 5 rfl (by kernel_rfl) (by kernel_rfl) (by kernel_rfl) (fun _ _ _ h => h) Gd.none rfl (fun w' hS' => X.addS (lh) lc (by simp only [ByteArray.size_append, szl, size_bs, List.size_toArray, List.length_cons, List.length_nil, List.length_append]; omega)) hS ?_
    refine WH.one 6 rfl (by kernel_rfl) (fun _ _ h => h) ?_
    refine WL.bslice Tryd.underlying50 el9 rfl (pcons lc (pcons lc (pcons lc (pcons lc pnil)))) rfl (rfl : _ = [_, _, _, _]) rfl ?_
    intro w11 us
    obtain ⟨g, hg⟩ : ∃ g, g = w10.heap.size := ⟨_, rfl⟩
    have hE := us.at_
    rw [← hg] at hE ⊢
    have cb := us.ch
    have hS := hS.trans cb (fun _ _ => id) (by intro i hi hg; first | exact hg | exact False.elim hg | omega | ((try dsimp only at hg ⊢); omega))
    refine WL.nil Nx.thn ⟨hS, ?_⟩
    refine WH.grow (S' := fun w' => Ch (fun _ => False) w5 w' ∧ w'.heap[g]? = some (.cells (AWS.map Value.string).toArray 9 (0, 0))) (fun _ h => h.1) ?_
    refine WH.take 9 rfl (by kernel_rfl) (by kernel_rfl) (by kernel_rfl) (fun _ _ _ h => h) Gd.none rfl (fun w' ⟨hS', hE'⟩ => X.indexAddr Tryd.underlying50 el9 (lh) (jt4 rfl (lh)) (by omega) (by omega)) ⟨hS, hE⟩ ?_
    refine WH.take 10 rfl (by kernel_rfl) (by kernel_rfl) (by kernel_rfl) (fun _ _ _ h => h) Gd.none rfl (fun w' ⟨hS', hE'⟩ => X.load pl9 (lh) hE' (v := .string (answerN x.2.2.2.2.1)) (answerW_at mm4)) ⟨hS, hE⟩ ?_
    refine WH.take 11 rfl (by kernel_rfl) (by kernel_rfl) (by kernel_rfl) (fun _ _ _ h => h) Gd.none rfl (fun w' ⟨hS', hE'⟩ => X.addS (jt2 rfl (lt rfl (lh))) (lh) (by simp only [ByteArray.size_append, szl, size_bs, List.size_toArray, List.length_cons, List.length_nil, List.length_append]; omega)) ⟨hS, hE⟩ ?_
    refine WH.take 12 rfl (by kernel_rfl) (by kernel_rfl) (by kernel_rfl) (fun _ _ _ h => h) Gd.none rfl (fun w' ⟨hS', hE'⟩ => X.addS (jt8 rfl (jt2 rfl (lt rfl (lh)))) (lh) (by simp only [ByteArray.size_append, szl, size_bs, List.size_toArray, List.length_cons, List.length_nil, List.length_append]; omega)) ⟨hS, hE⟩ ?_
    refine WH.take 13 rfl (by kernel_rfl) (by kernel_rfl) (by kernel_rfl) (fun _ _ _ h => h) Gd.none rfl (fun w' ⟨hS', hE'⟩ => X.asg (lh)) ⟨hS, hE⟩ ?_
    refine WH.done (by kernel_rfl) ?_
    refine WL.e2 Nx.thn 1 4 (jt8 rfl (jt4 rfl (jt2 rfl (s1)))) (lh) ?_
    intro σ11 s1 s4
    refine W.seqJ (fun σ' w' => (True) ∧ ∃ S3, σ' 4 = .string S3 ∧ sb S3 = (repH x ++ x.2.2.1.flatMap anT ++ repL x ++ [10] ++ repW x) ++ ordT x.2.2.2.2.1 x.2.2.2.2.2 ∧ S3.size ≤ 47000000 ∧ Ch0 w1 w') ?_ ?_
    ·
     refine W.seq ?_
     refine W.region ?_
     refine WL.x (X.fieldAddr fd25_4 (s1)) rfl ?_
     refine WL.x (X.load pl3 (lh) (by first | assumption | exact hS.at (by assumption) (by intro hne; first | exact hne | ((try dsimp only at hne); omega)) | exact hS.at (hcl.at0 (by assumption)) (by intro hne; first | exact hne | ((try dsimp only at hne); omega))) (by first | rfl | assumption)) rfl ?_
     refine WL.x (X.eql (lh) lc) rfl ?_
     refine WL.e3 Nx.thn 1 4 49 (jt2 rfl (lt rfl (s1))) (jt2 rfl (lt rfl (s4))) (lh) ?_
     intro σ12 s1 s4 s49
     refine W.cndp s49 (fun hyes => ?_) (fun hyes => ?_)
     ·
      refine W.seq ?_
      refine W.region ?_
      refine WL.x (X.mv (s4)) rfl ?_
      refine WL.x (X.addS (lh) lc (by simp only [ByteArray.size_append, szl, size_bs, List.size_toArray, List.length_cons, List.length_nil, List.length_append]; omega)) rfl ?_
      refine WL.x (X.asg (lh)) rfl ?_
      refine WL.e2 Nx.thn 1 4 (jt2 rfl (lt rfl (s1))) (lh) ?_
      intro σ13 s1 s4
      refine W.seq ?_
      refine W.seq ?_
      refine W.region ?_
      refine WL.x (X.fieldAddr fd25_5 (s1)) rfl ?_
      refine WL.x (X.load pl23 (lh) (by first | assumption | exact hS.at (by assumption) (by intro hne; first | exact hne | ((try dsimp only at hne); omega)) | exact hS.at (hcl.at0 (by assumption)) (by intro hne; first | exact hne | ((try dsimp only at hne); omega))) (v := .slice ua x.2.2.2.2.2.length uc) rfl) rfl ?_
      refine WL.x (X.lenSl Tryd.underlying23 (lh)) rfl ?_
      refine WL.x (X.mv lc) rfl ?_
      refine WL.e4 Nx.thn 4 53 54 55 (jt4 rfl (s4)) (jt2 rfl (lh)) (lt rfl (lh)) (lh) ?_
      intro σ14 s4 s53 s54 s55
      refine W.block ?_
      have qo8 := s53
      have qo9 := s54
      -- loop 1: kept [53, 54], varied [4, 55]
      refine W.loop (G := Nat) (fun j σ' w' => (σ' 53 = σ14 53 ∧ σ' 54 = σ14 54 ∧ True) ∧ (∃ S2, σ' 4 = .string S2 ∧ σ' 55 = .int .i64 (j : Int) ∧ sb S2 = (repH x ++ x.2.2.1.flatMap anT ++ repL x ++ [10] ++ repW x) ++ ([32, 40] ++ (x.2.2.2.2.2.take j).flatMap valT) ∧ j ≤ x.2.2.2.2.2.length ∧ Ch0 w1 w')) (fun j => x.2.2.2.2.2.length - j) (0) ⟨⟨rfl, rfl, trivial⟩, _, s4, s55, (by simp only [sb_app, sb_bs, sb_mk, hSe, List.take_zero, List.flatMap_nil, List.append_nil]; unfold repL repW wT; simp only [List.append_assoc]; rfl), by omega, hcl.trans0 hS⟩ ?_
      rintro j σ15 w12 ⟨⟨f53, f54, _⟩, S2, s4, s55, hS2, hj9, hcl2⟩
      have s53 := f53.trans qo8
      have s54 := f54.trans qo9
      refine W.seq ?_
      refine W.region ?_
      refine WL.x (X.lss (s55) (s54)) rfl ?_
      refine WL.e5 Nx.thn 4 53 54 55 56 (lt rfl (s4)) (lt rfl (s53)) (lt rfl (s54)) (lt rfl (s55)) (lh) ?_
      intro σ16 s4 s53 s54 s55 s56
      refine W.seq ?_
      refine W.cndp s56 (fun hltj => ?_) (fun hltj => ?_)
      ·
       have hjl : j < x.2.2.2.2.2.length := by omega
       have hl6 := ml6 j
       obtain ⟨gb, og, csg, Tg, frg, hgv, hg1, hg2⟩ := ho.1.at (k := j) (by rw [List.length_map]; omega)
       subst hgv
       have hzj := hnum.2.2 x.2.2.2.2.2[j] (List.getElem_mem hjl)
       have hvj := valT_len hzj
       have htj : (x.2.2.2.2.2.take (j + 1)).flatMap valT = (x.2.2.2.2.2.take j).flatMap valT ++ valT x.2.2.2.2.2[j] := fm_take hjl
       have hSj := sb_len S2
       rw [hS2] at hSj
       simp only [List.length_append, List.length_cons, List.length_nil] at hSj
       refine W.skip Nx.thn ?_
       refine W.seq ?_
       refine W.block ?_
       refine W.seq ?_
       refine W.region ?_
       refine WL.x (X.indexAddr Tryd.underlying23 el3 (s53) (s55) (by omega) (by omega)) rfl ?_
       refine WL.x (X.load pl3 (lh) ((cu0_0.trans0 hcl2).at0 hg1) (v := .int .i64 x.2.2.2.2.2[j]) (by rw [show og + (j : Int).toNat * 1 = og + j by omega, hg2 j (by rw [List.length_map]; omega), List.getElem?_map, List.getElem?_eq_getElem (by omega)]; rfl)) rfl ?_
       refine WL.x (X.asg (lh)) rfl ?_
       refine WL.e5 Nx.thn 4 8 53 54 55 (jt2 rfl (lt rfl (s4))) (lh) (jt2 rfl (lt rfl (s53))) (jt2 rfl (lt rfl (s54))) (jt2 rfl (lt rfl (s55))) ?_
       intro σ17 s4 s8 s53 s54 s55
       refine W.region ?_
       refine WL.x (X.mv (s4)) rfl ?_
       refine WL.x (X.mv (lt rfl (s8))) rfl ?_
       refine WL.call1 ce16 (lh) (rnum_ok x.2.2.2.2.2[j] w12 hzj) rfl ?_
       rintro _ w13 ⟨rfl, c2⟩
       refine WL.x (X.addS (jt2 rfl (lh)) (lh) (by simp only [ByteArray.size_append, szl, size_bs, List.size_toArray, List.length_cons, List.length_nil, List.length_append]; omega)) rfl ?_
       refine WL.x (X.asg (lh)) rfl ?_
       refine WL.e4 (Nx.blk Nx.thn) 4 53 54 55 (lh) (jt4 rfl (lt rfl (s53))) (jt4 rfl (lt rfl (s54))) (jt4 rfl (lt rfl (s55))) ?_
       intro σ18 s4 s53 s54 s55
       refine W.region ?_
       first | refine WL.x (X.add (s55) lc (by omega) (by omega)) rfl ?_ | refine WL.x (X.addw (s55) lc) rfl ?_
       refine WL.x (X.mv (lh)) rfl ?_
       refine WL.e4 Nx.thn 4 53 54 55 (jt2 rfl (s4)) (jt2 rfl (s53)) (jt2 rfl (s54)) (lh) ?_
       intro σ19 s4 s53 s54 s55
       refine ⟨j + 1, by omega, ⟨s53.trans qo8.symm, s54.trans qo9.symm, trivial⟩, _, s4, s55, (by rw [htj, sb_app, sb_bs, hS2]; simp only [List.append_assoc]), by omega, hcl2.trans0 c2⟩
      ·
       have hl6 := ml6 j
       have hSj := sb_len S2
       rw [hS2] at hSj
       simp only [List.length_append, List.length_cons, List.length_nil] at hSj
       refine W.exit (Nx.xthn (Nx.xthn (Nx.xblk Nx.thn))) ?_
       refine W.region ?_
       refine WL.x (X.mv (s4)) rfl ?_
       refine WL.x (X.addS (lh) lc (by simp only [ByteArray.size_append, szl, size_bs, List.size_toArray, List.length_cons, List.length_nil, List.length_append]; omega)) rfl ?_
       refine WL.x (X.asg (lh)) rfl ?_
       refine WL.e1 Nx.thn 4 (lh) ?_
       intro σ20 s4
       refine ⟨trivial, _, s4, (by rw [ordT_yes hyes]; rw [show j = x.2.2.2.2.2.length by omega, List.take_length] at hS2; simp only [sb_app, sb_mk, hS2, List.append_assoc]), (by simp only [ByteArray.size_append, szl, List.size_toArray, List.length_cons, List.length_nil]; omega), hcl2⟩
     ·
      refine W.skip Nx.thn ?_
      refine ⟨trivial, _, s4, (by rw [ordT_no hyes, List.append_nil]; simp only [sb_app, sb_bs, sb_mk, hSe]; unfold repL repW wT; simp only [List.append_assoc]; rfl), (by simp only [ByteArray.size_append, szl, size_bs, List.size_toArray, List.length_cons, List.length_nil, List.length_append]; omega), hcl.trans0 hS⟩
    ·
     rintro σ21 w14 ⟨⟨_⟩, S3, s4, hS3, hz3, hcl3⟩
     refine W.seq ?_
     refine W.region ?_
     refine WL.x (X.mv (s4)) rfl ?_
     refine WL.x (X.addS (lh) lc (by simp only [ByteArray.size_append, szl, size_bs, List.size_toArray, List.length_cons, List.length_nil, List.length_append]; omega)) rfl ?_
     refine WL.x (X.asg (lh)) rfl ?_
     refine WL.x (X.asg lc) rfl ?_
     refine WL.e2 Nx.thn 2 3 (lt rfl (lh)) (lh) ?_
     intro σ22 s2 s3
     refine W.ret2 Nx.f2 s2 s3 ?_
     exact ⟨by rw [(prQ_yes hmay).1, (prQ_yes hmay).2]; exact congrArg (fun z => Value.tuple #[.string z, .int .i64 0]) (sb_inj (by rw [sb_app, sb_bs, hS3, repT_eq])), cu0_0.trans0 hcl3⟩
   ·
    refine WL.bslice Tryd.underlying50 el9 rfl (pcons lc (pcons lc (pcons lc (pcons lc pnil)))) rfl (rfl : _ = [_, _, _, _]) rfl ?_
    intro w15 us
    obtain ⟨g, hg⟩ : ∃ g, g = w9.heap.size := ⟨_, rfl⟩
    have hE := us.at_
    rw [← hg] at hE ⊢
    have cb := us.ch
    have hS := hS.trans cb (fun _ _ => id) (by intro i hi hg; first | exact hg | exact False.elim hg | omega | ((try dsimp only at hg ⊢); omega))
    refine WL.nil Nx.thn ⟨hS, ?_⟩
    refine WH.grow (S' := fun w' => Ch (fun _ => False) w5 w' ∧ w'.heap[g]? = some (.cells (AWS.map Value.string).toArray 9 (0, 0))) (fun _ h => h.1) ?_
    refine WH.take 9 rfl (by kernel_rfl) (by kernel_rfl) (by kernel_rfl) (fun _ _ _ h => h) Gd.none rfl (fun w' ⟨hS', hE'⟩ => X.indexAddr Tryd.underlying50 el9 (lh) (lt rfl (lh)) (by omega) (by omega)) ⟨hS, hE⟩ ?_
    refine WH.take 10 rfl (by kernel_rfl) (by kernel_rfl) (by kernel_rfl) (fun _ _ _ h => h) Gd.none rfl (fun w' ⟨hS', hE'⟩ => X.load pl9 (lh) hE' (v := .string (answerN x.2.2.2.2.1)) (answerW_at mm4)) ⟨hS, hE⟩ ?_
    refine WH.one 3 rfl (by kernel_rfl) (fun _ _ h => h) ?_
    refine WL.call1 ce19 (jt4 rfl (lt rfl (lh))) (rname_ok x.2.2.2.1 w15) rfl ?_
    rintro _ w16 ⟨rfl, c5⟩
    have hS := hS.trans c5 (fun _ _ => id) (by intro i hi hg; first | exact hg | exact False.elim hg | omega | ((try dsimp only at hg ⊢); omega))
    replace hE := c5.at0 hE
    refine WL.nil Nx.thn ⟨⟨hS, hE⟩, ?_⟩
    refine WH.take 4 rfl (by kernel_rfl) (by kernel_rfl) (by kernel_rfl) (fun _ _ _ h => h) Gd.none rfl (fun w' ⟨hS', hE'⟩ => X.addS lc (lh) (by simp only [ByteArray.size_append, szl, size_bs, List.size_toArray, List.length_cons, List.length_nil, List.length_append]; omega)) ⟨hS, hE⟩ ?_
    refine WH.take 5 rfl (by kernel_rfl) (by kernel_rfl) (by kernel_rfl) (fun _ _ _ h => h) Gd.none rfl (fun w' ⟨hS', hE'⟩ => X.addS (lh) lc (by simp only [ByteArray.size_append, szl, size_bs, List.size_toArray, List.length_cons, List.length_nil, List.length_append]; omega)) ⟨hS, hE⟩ ?_
    refine WH.take 11 rfl (by kernel_rfl) (by kernel_rfl) (by kernel_rfl) (fun _ _ _ h => h) Gd.none rfl (fun w' ⟨hS', hE'⟩ => X.addS (lh) (jt2 rfl (lt rfl (lh))) (by simp only [ByteArray.size_append, szl, size_bs, List.size_toArray, List.length_cons, List.length_nil, List.length_append]; omega)) ⟨hS, hE⟩ ?_
    refine WH.take 12 rfl (by kernel_rfl) (by kernel_rfl) (by kernel_rfl) (fun _ _ _ h => h) Gd.none rfl (fun w' ⟨hS', hE'⟩ => X.addS (jt8 rfl (jt2 rfl (lt rfl (lh)))) (lh) (by simp only [ByteArray.size_append, szl, size_bs, List.size_toArray, List.length_cons, List.length_nil, List.length_append]; omega)) ⟨hS, hE⟩ ?_
    refine WH.take 13 rfl (by kernel_rfl) (by kernel_rfl) (by kernel_rfl) (fun _ _ _ h => h) Gd.none rfl (fun w' ⟨hS', hE'⟩ => X.asg (lh)) ⟨hS, hE⟩ ?_
    refine WH.done (by kernel_rfl) ?_
    refine WL.e2 Nx.thn 1 4 (jt8 rfl (jt4 rfl (jt2 rfl (s1)))) (lh) ?_
    intro σ23 s1 s4
    refine W.seqJ (fun σ' w' => (True) ∧ ∃ S3, σ' 4 = .string S3 ∧ sb S3 = (repH x ++ x.2.2.1.flatMap anT ++ repL x ++ [10] ++ repW x) ++ ordT x.2.2.2.2.1 x.2.2.2.2.2 ∧ S3.size ≤ 47000000 ∧ Ch0 w1 w') ?_ ?_
    ·
     refine W.seq ?_
     refine W.region ?_
     refine WL.x (X.fieldAddr fd25_4 (s1)) rfl ?_
     refine WL.x (X.load pl3 (lh) (by first | assumption | exact hS.at (by assumption) (by intro hne; first | exact hne | ((try dsimp only at hne); omega)) | exact hS.at (hcl.at0 (by assumption)) (by intro hne; first | exact hne | ((try dsimp only at hne); omega))) (by first | rfl | assumption)) rfl ?_
     refine WL.x (X.eql (lh) lc) rfl ?_
     refine WL.e3 Nx.thn 1 4 49 (jt2 rfl (lt rfl (s1))) (jt2 rfl (lt rfl (s4))) (lh) ?_
     intro σ24 s1 s4 s49
     refine W.cndp s49 (fun hyes => ?_) (fun hyes => ?_)
     ·
      refine W.seq ?_
      refine W.region ?_
      refine WL.x (X.mv (s4)) rfl ?_
      refine WL.x (X.addS (lh) lc (by simp only [ByteArray.size_append, szl, size_bs, List.size_toArray, List.length_cons, List.length_nil, List.length_append]; omega)) rfl ?_
      refine WL.x (X.asg (lh)) rfl ?_
      refine WL.e2 Nx.thn 1 4 (jt2 rfl (lt rfl (s1))) (lh) ?_
      intro σ25 s1 s4
      refine W.seq ?_
      refine W.seq ?_
      refine W.region ?_
      refine WL.x (X.fieldAddr fd25_5 (s1)) rfl ?_
      refine WL.x (X.load pl23 (lh) (by first | assumption | exact hS.at (by assumption) (by intro hne; first | exact hne | ((try dsimp only at hne); omega)) | exact hS.at (hcl.at0 (by assumption)) (by intro hne; first | exact hne | ((try dsimp only at hne); omega))) (v := .slice ua x.2.2.2.2.2.length uc) rfl) rfl ?_
      refine WL.x (X.lenSl Tryd.underlying23 (lh)) rfl ?_
      refine WL.x (X.mv lc) rfl ?_
      refine WL.e4 Nx.thn 4 53 54 55 (jt4 rfl (s4)) (jt2 rfl (lh)) (lt rfl (lh)) (lh) ?_
      intro σ26 s4 s53 s54 s55
      refine W.block ?_
      have qo10 := s53
      have qo11 := s54
      -- loop 1: kept [53, 54], varied [4, 55]
      refine W.loop (G := Nat) (fun j σ' w' => (σ' 53 = σ26 53 ∧ σ' 54 = σ26 54 ∧ True) ∧ (∃ S2, σ' 4 = .string S2 ∧ σ' 55 = .int .i64 (j : Int) ∧ sb S2 = (repH x ++ x.2.2.1.flatMap anT ++ repL x ++ [10] ++ repW x) ++ ([32, 40] ++ (x.2.2.2.2.2.take j).flatMap valT) ∧ j ≤ x.2.2.2.2.2.length ∧ Ch0 w1 w')) (fun j => x.2.2.2.2.2.length - j) (0) ⟨⟨rfl, rfl, trivial⟩, _, s4, s55, (by simp only [sb_app, sb_bs, sb_mk, hSe, List.take_zero, List.flatMap_nil, List.append_nil]; unfold repL repW wT; simp only [List.append_assoc]; rfl), by omega, hcl.trans0 hS⟩ ?_
      rintro j σ27 w17 ⟨⟨f53, f54, _⟩, S2, s4, s55, hS2, hj9, hcl2⟩
      have s53 := f53.trans qo10
      have s54 := f54.trans qo11
      refine W.seq ?_
      refine W.region ?_
      refine WL.x (X.lss (s55) (s54)) rfl ?_
      refine WL.e5 Nx.thn 4 53 54 55 56 (lt rfl (s4)) (lt rfl (s53)) (lt rfl (s54)) (lt rfl (s55)) (lh) ?_
      intro σ28 s4 s53 s54 s55 s56
      refine W.seq ?_
      refine W.cndp s56 (fun hltj => ?_) (fun hltj => ?_)
      ·
       have hjl : j < x.2.2.2.2.2.length := by omega
       have hl6 := ml6 j
       obtain ⟨gb, og, csg, Tg, frg, hgv, hg1, hg2⟩ := ho.1.at (k := j) (by rw [List.length_map]; omega)
       subst hgv
       have hzj := hnum.2.2 x.2.2.2.2.2[j] (List.getElem_mem hjl)
       have hvj := valT_len hzj
       have htj : (x.2.2.2.2.2.take (j + 1)).flatMap valT = (x.2.2.2.2.2.take j).flatMap valT ++ valT x.2.2.2.2.2[j] := fm_take hjl
       have hSj := sb_len S2
       rw [hS2] at hSj
       simp only [List.length_append, List.length_cons, List.length_nil] at hSj
       refine W.skip Nx.thn ?_
       refine W.seq ?_
       refine W.block ?_
       refine W.seq ?_
       refine W.region ?_
       refine WL.x (X.indexAddr Tryd.underlying23 el3 (s53) (s55) (by omega) (by omega)) rfl ?_
       refine WL.x (X.load pl3 (lh) ((cu0_0.trans0 hcl2).at0 hg1) (v := .int .i64 x.2.2.2.2.2[j]) (by rw [show og + (j : Int).toNat * 1 = og + j by omega, hg2 j (by rw [List.length_map]; omega), List.getElem?_map, List.getElem?_eq_getElem (by omega)]; rfl)) rfl ?_
       refine WL.x (X.asg (lh)) rfl ?_
       refine WL.e5 Nx.thn 4 8 53 54 55 (jt2 rfl (lt rfl (s4))) (lh) (jt2 rfl (lt rfl (s53))) (jt2 rfl (lt rfl (s54))) (jt2 rfl (lt rfl (s55))) ?_
       intro σ29 s4 s8 s53 s54 s55
       refine W.region ?_
       refine WL.x (X.mv (s4)) rfl ?_
       refine WL.x (X.mv (lt rfl (s8))) rfl ?_
       refine WL.call1 ce16 (lh) (rnum_ok x.2.2.2.2.2[j] w17 hzj) rfl ?_
       rintro _ w18 ⟨rfl, c2⟩
       refine WL.x (X.addS (jt2 rfl (lh)) (lh) (by simp only [ByteArray.size_append, szl, size_bs, List.size_toArray, List.length_cons, List.length_nil, List.length_append]; omega)) rfl ?_
       refine WL.x (X.asg (lh)) rfl ?_
       refine WL.e4 (Nx.blk Nx.thn) 4 53 54 55 (lh) (jt4 rfl (lt rfl (s53))) (jt4 rfl (lt rfl (s54))) (jt4 rfl (lt rfl (s55))) ?_
       intro σ30 s4 s53 s54 s55
       refine W.region ?_
       first | refine WL.x (X.add (s55) lc (by omega) (by omega)) rfl ?_ | refine WL.x (X.addw (s55) lc) rfl ?_
       refine WL.x (X.mv (lh)) rfl ?_
       refine WL.e4 Nx.thn 4 53 54 55 (jt2 rfl (s4)) (jt2 rfl (s53)) (jt2 rfl (s54)) (lh) ?_
       intro σ31 s4 s53 s54 s55
       refine ⟨j + 1, by omega, ⟨s53.trans qo10.symm, s54.trans qo11.symm, trivial⟩, _, s4, s55, (by rw [htj, sb_app, sb_bs, hS2]; simp only [List.append_assoc]), by omega, hcl2.trans0 c2⟩
      ·
       have hl6 := ml6 j
       have hSj := sb_len S2
       rw [hS2] at hSj
       simp only [List.length_append, List.length_cons, List.length_nil] at hSj
       refine W.exit (Nx.xthn (Nx.xthn (Nx.xblk Nx.thn))) ?_
       refine W.region ?_
       refine WL.x (X.mv (s4)) rfl ?_
       refine WL.x (X.addS (lh) lc (by simp only [ByteArray.size_append, szl, size_bs, List.size_toArray, List.length_cons, List.length_nil, List.length_append]; omega)) rfl ?_
       refine WL.x (X.asg (lh)) rfl ?_
       refine WL.e1 Nx.thn 4 (lh) ?_
       intro σ32 s4
       refine ⟨trivial, _, s4, (by rw [ordT_yes hyes]; rw [show j = x.2.2.2.2.2.length by omega, List.take_length] at hS2; simp only [sb_app, sb_mk, hS2, List.append_assoc]), (by simp only [ByteArray.size_append, szl, List.size_toArray, List.length_cons, List.length_nil]; omega), hcl2⟩
     ·
      refine W.skip Nx.thn ?_
      refine ⟨trivial, _, s4, (by rw [ordT_no hyes, List.append_nil]; simp only [sb_app, sb_bs, sb_mk, hSe]; unfold repL repW wT; simp only [List.append_assoc]; rfl), (by simp only [ByteArray.size_append, szl, size_bs, List.size_toArray, List.length_cons, List.length_nil, List.length_append]; omega), hcl.trans0 hS⟩
    ·
     rintro σ33 w19 ⟨⟨_⟩, S3, s4, hS3, hz3, hcl3⟩
     refine W.seq ?_
     refine W.region ?_
     refine WL.x (X.mv (s4)) rfl ?_
     refine WL.x (X.addS (lh) lc (by simp only [ByteArray.size_append, szl, size_bs, List.size_toArray, List.length_cons, List.length_nil, List.length_append]; omega)) rfl ?_
     refine WL.x (X.asg (lh)) rfl ?_
     refine WL.x (X.asg lc) rfl ?_
     refine WL.e2 Nx.thn 2 3 (lt rfl (lh)) (lh) ?_
     intro σ34 s2 s3
     refine W.ret2 Nx.f2 s2 s3 ?_
     exact ⟨by rw [(prQ_yes hmay).1, (prQ_yes hmay).2]; exact congrArg (fun z => Value.tuple #[.string z, .int .i64 0]) (sb_inj (by rw [sb_app, sb_bs, hS3, repT_eq])), cu0_0.trans0 hcl3⟩
end Go.Proofs.YtbnllchicnmkiaaDoor
