/-
  ReportBack: the row and its card.
-/
import Derived.Test.YtbnllchicnmkiaaGreatDoorPb11
import Derived.Test.YtbnllchicnmkiaaGreatDoorRows
import Derived.Stop.LaidErr
import Derived.Test.YtbnllchicnmkiaaGreatDoorCards
import Derived.Test.YtbnllchicnmkiaaGreatDoorTie
import Derived.WalkKit
import Derived.ProofKit
import Derived.OpenShut
import Derived.ShutString
import Derived.ChangeOld
import Derived.Below
import Derived.SizedLaws
import Derived.Stop.Joined
import Derived.SevenTiedAt
section
set_option linter.unusedVariables false
set_option linter.unusedSimpArgs false
set_option maxRecDepth 100000
namespace Go.Proofs.YtbnllchicnmkiaaGreatDoor
open Go Go.RowKit Sg
theorem ce43 : Sg.Callee Tryz.prog 43 := ⟨_, Tryz.func43, by decide, rfl⟩
set_option maxHeartbeats 6400000 in
theorem rprint_ok (A : Nat → Prop) (x : GRep) (es : List Value) (w : World) (h : RRep A w es x) :
  Sg.Ret Tryz.prog 12 #[.agg es.toArray] w fun v w' => v = .tuple #[.string (bs (prQ x)), .int .i64 (prE x)] ∧ Ch0 w w' := by
 have hh := h
 have hnum := rrep_num h
 obtain ⟨v, u, rfl, hs, ho, hb⟩ := h
 obtain ⟨va, vc, rfl⟩ := hs.len
 obtain ⟨ua, uc, hu⟩ := ho.1.len
 rw [List.length_map] at hu
 subst hu
 refine enter2 (n := 68) (l := [.agg #[.int .i64 x.1, .bool x.2.1, .slice va x.2.2.1.length vc, .int .i64 x.2.2.2.1, .int .i64 x.2.2.2.2.1, .slice ua x.2.2.2.2.2.length uc]]) Tryz.func12 rfl rfl rfl rfl ?_
 refine W.g1 0 (v1 := .agg #[.int .i64 x.1, .bool x.2.1, .slice va x.2.2.1.length vc, .int .i64 x.2.2.2.1, .int .i64 x.2.2.2.2.1, .slice ua x.2.2.2.2.2.length uc]) rfl ?_; intro σ s0
 refine W.seq ?_
 refine W.region ?_
 refine WL.box (s0) rfl ?_
 intro w1 u0_0; have hu0_0 := u0_0.at_; have cu0_0 := u0_0.ch; have zu0_0 := u0_0.size
 refine WL.x (X.asg lc) rfl ?_
 refine WL.x (X.asg lc) rfl ?_
 refine WL.e1 Nx.thn 1 (jt2 rfl (lh)) ?_
 intro σ1 s1
 refine W.seq ?_
 refine W.seq ?_
 refine W.region ?_
 refine WL.x (X.loadBox (vs := [.int .i64 x.1, .bool x.2.1, .slice va x.2.2.1.length vc, .int .i64 x.2.2.2.1, .int .i64 x.2.2.2.2.1, .slice ua x.2.2.2.2.2.length uc]) ag25 (s1) hu0_0 rfl) rfl ?_
 refine WL.call1 ce29 (lh) (rcan_ok A x _ w1 (monRep _ _ _ _ _ _ _ cu0_0 (fun _ _ => id) (fun _ => id) hh)) rfl ?_
 rintro _ w2 ⟨rfl, c0⟩
 refine WL.x (X.not (lh)) rfl ?_
 refine WL.e2 Nx.thn 1 11 (jt2 rfl (lt rfl (s1))) (lh) ?_
 intro σ2 s1 s11
 refine W.cnd s11 (fun hcan => ?_) (fun hcan => ?_)
 ·
  refine W.seq ?_
  refine W.region ?_
  refine WL.x (X.asg lc) rfl ?_
  refine WL.x (X.asg lc) rfl ?_
  refine WL.e2 Nx.thn 2 3 (lt rfl (lh)) (lh) ?_
  intro σ3 s2 s3
  refine W.ret2 (Nx.rthn Nx.f2) s2 s3 ?_
  have hmn : mayR keyE x = false := by simpa using hcan
  exact ⟨by rw [(prQ_no hmn).1, (prQ_no hmn).2]; rfl, cu0_0.trans0 c0⟩
 ·
  have hmay : mayR keyE x = true := by simpa using hcan
  have hok : PrOk x := ⟨hmay, hnum⟩
  obtain ⟨ml1, ml2, ml3, ml4, ml5, ml6⟩ := hok.lens
  obtain ⟨mm1, mm2, mm3, mm4, mm5, mm6, -⟩ := mayR_of hmay
  have z1 := valT_len hnum.1
  have z2 := sz_yes x.2.1
  have z3 := lvl_sz x.2.2.2.1
  have z4 := ans_sz x.2.2.2.2.1
  have zH : (repH x).length ≤ 70 := by unfold repH; simp only [List.length_append, List.length_cons, List.length_nil]; omega
  refine W.skip Nx.thn ?_
  refine W.seq ?_
  refine W.held (fun w' => Ch (fun _ => False) w2 w') mo ?_
  intro w3 qhh1 qc2
  have hS : Ch (fun _ => False) w2 w3 := Ch.weak qc2
  have hzqc2 := qc2.size
  have cdh3 := qc2
  refine WH.take 0 rfl (by kernel_rfl) (by kernel_rfl) (by kernel_rfl) (fun _ _ _ h => h) Gd.none rfl (fun w' hS' => X.fieldAddr fd25_0 (s1)) hS ?_
  refine WH.take 1 rfl (by kernel_rfl) (by kernel_rfl) (by kernel_rfl) (fun _ _ _ h => h) Gd.none rfl (fun w' hS' => X.load pl3 (lh) (by exact hS'.at (c0.at0 (by assumption)) (by intro hne; exact hne)) (by rfl)) hS ?_
  refine WH.take 5 rfl (by kernel_rfl) (by kernel_rfl) (by kernel_rfl) (fun _ _ _ h => h) Gd.none rfl (fun w' hS' => X.fieldAddr fd25_1 (jt2 rfl (s1))) hS ?_
  refine WH.take 6 rfl (by kernel_rfl) (by kernel_rfl) (by kernel_rfl) (fun _ _ _ h => h) Gd.none rfl (fun w' hS' => X.load pl4 (lh) (by exact hS'.at (c0.at0 (by assumption)) (by intro hne; exact hne)) (by rfl)) hS ?_
  refine WH.one 2 rfl (by kernel_rfl) (fun _ _ h => h) ?_
  refine WL.call1 ce41 (jt2 rfl (lh)) (rnumt_ok x.1 w3 hnum.1) rfl ?_
  rintro _ w4 ⟨rfl, c1⟩
  have hS := hS.trans c1 (fun _ _ => id) (by intro i hi hg; exact hg)
  refine WL.nil Nx.thn ⟨hS, ?_⟩
  refine WH.take 3 rfl (by kernel_rfl) (by kernel_rfl) (by kernel_rfl) (fun _ _ _ h => h) Gd.none rfl (fun w' hS' => X.addS lc (lh) (by simp only [ByteArray.size_append, szl, size_bs, List.size_toArray, List.length_cons, List.length_nil, List.length_append]; omega)) hS ?_
  refine WH.take 4 rfl (by kernel_rfl) (by kernel_rfl) (by kernel_rfl) (fun _ _ _ h => h) Gd.none rfl (fun w' hS' => X.addS (lh) lc (by simp only [ByteArray.size_append, szl, size_bs, List.size_toArray, List.length_cons, List.length_nil, List.length_append]; omega)) hS ?_
  refine WH.one 7 rfl (by kernel_rfl) (fun _ _ h => h) ?_
  refine WL.call3 ce42 (jt2 rfl (lt rfl (lh))) lc lc (reither_ok x.2.1 wYes wNo w4) rfl ?_
  rintro _ _ ⟨rfl, rfl⟩
  refine WL.nil Nx.thn ⟨hS, ?_⟩
  refine WH.take 8 rfl (by kernel_rfl) (by kernel_rfl) (by kernel_rfl) (fun _ _ _ h => h) Gd.none rfl (fun w' hS' => X.addS (lt rfl (lh)) (lh) (by simp only [ByteArray.size_append, szl, size_bs, List.size_toArray, List.length_cons, List.length_nil, List.length_append]; omega)) hS ?_
  refine WH.take 9 rfl (by kernel_rfl) (by kernel_rfl) (by kernel_rfl) (fun _ _ _ h => h) Gd.none rfl (fun w' hS' => X.addS (lh) lc (by simp only [ByteArray.size_append, szl, size_bs, List.size_toArray, List.length_cons, List.length_nil, List.length_append]; omega)) hS ?_
  refine WH.take 10 rfl (by kernel_rfl) (by kernel_rfl) (by kernel_rfl) (fun _ _ _ h => h) Gd.none rfl (fun w' hS' => X.asg (lh)) hS ?_
  refine WH.done (by kernel_rfl) ?_
  refine WL.e2 Nx.thn 1 4 (jt8 rfl (jt2 rfl (lt rfl (s1)))) (lh) ?_
  intro σ4 s1 s4
  refine W.seq ?_
  refine W.seq ?_
  refine W.region ?_
  refine WL.x (X.fieldAddr fd25_2 (s1)) rfl ?_
  refine WL.x (X.load pl22 (lh) (by exact hS.at (c0.at0 (by assumption)) (by intro hne; exact hne)) (v := .slice va x.2.2.1.length vc) rfl) rfl ?_
  refine WL.x (X.lenSl Tryz.underlying22 (lh)) rfl ?_
  refine WL.x (X.mv lc) rfl ?_
  refine WL.e5 Nx.thn 1 4 23 24 25 (jt4 rfl (s1)) (jt4 rfl (s4)) (jt2 rfl (lh)) (lt rfl (lh)) (lh) ?_
  intro σ5 s1 s4 s23 s24 s25
  refine W.block ?_
  have qo3 := s1
  have qo4 := s23
  have qo5 := s24
  -- loop 0: kept [1, 23, 24], varied [4, 25]
  refine W.loop (G := Nat) (fun k σ' w' => (σ' 1 = σ5 1 ∧ σ' 23 = σ5 23 ∧ σ' 24 = σ5 24 ∧ True) ∧ (∃ S, σ' 4 = .string S ∧ σ' 25 = .int .i64 (k : Int) ∧ sb S = repH x ++ (x.2.2.1.take k).flatMap anT ∧ k ≤ x.2.2.1.length ∧ Ch0 w1 w')) (fun k => x.2.2.1.length - k) (0) ⟨⟨rfl, rfl, rfl, trivial⟩, _, s4, s25, (by simp only [sb_app, sb_bs, sb_mk, List.take_zero, List.flatMap_nil, List.append_nil]; unfold repH repA repB wT; simp only [List.append_assoc]; rfl), by omega, c0.trans0 hS⟩ ?_
  rintro k σ6 w5 ⟨⟨f1, f23, f24, _⟩, S, s4, s25, hSe, hk9, hcl⟩
  have s1 := f1.trans qo3
  have s23 := f23.trans qo4
  have s24 := f24.trans qo5
  refine W.seq ?_
  refine W.region ?_
  refine WL.x (X.lss (s25) (s24)) rfl ?_
  refine WL.e6 Nx.thn 1 4 23 24 25 26 (lt rfl (s1)) (lt rfl (s4)) (lt rfl (s23)) (lt rfl (s24)) (lt rfl (s25)) (lh) ?_
  intro σ7 s1 s4 s23 s24 s25 s26
  refine W.seq ?_
  refine W.cndp s26 (fun hlt => ?_) (fun hlt => ?_)
  ·
   have hkl : k < x.2.2.1.length := by omega
   have hl5 := ml5 k
   obtain ⟨b1, o1, cs1, T1, fr1, es1, hva, hml1, hes1, hgl1, hr1⟩ := (hs.ch0 monAn (cu0_0.trans0 hcl)).at (k := k) hkl
   subst hva
   obtain ⟨hma, hna⟩ := hok.an (List.getElem_mem hkl)
   have htk : (x.2.2.1.take (k + 1)).flatMap anT = (x.2.2.1.take k).flatMap anT ++ anT x.2.2.1[k] := fm_take hkl
   obtain ⟨a, ha⟩ : ∃ a, a = x.2.2.1[k] := ⟨_, rfl⟩
   rw [← ha] at hr1 hma hna htk
   obtain ⟨hla1, hla2, hla3⟩ := an_len hma hna
   have hone1 : es1.all (·.oneCell') = true := RAn_one hr1
   have hSz := sb_len S
   rw [hSe] at hSz
   simp only [List.length_append, List.length_cons, List.length_nil] at hSz
   refine W.skip Nx.thn ?_
   refine W.seq ?_
   refine W.block ?_
   refine W.seq ?_
   refine W.region ?_
   refine WL.x (X.indexAddr Tryz.underlying22 el67 (s23) (s25) (by omega) (by omega)) rfl ?_
   refine WL.x (X.loadS ag67 (lh) hml1 hes1 hgl1) rfl ?_
   refine WL.alloc el67 rfl ?_
   intro w6 u6_2; have hu6_2 := u6_2.at_; have cu6_2 := u6_2.ch; have zu6_2 := u6_2.size
   refine WL.storeS (vs := es1) ag67 (lh) (lt rfl (lh)) hone1 hes1 hu6_2 (by decide) ?_
   intro w7 us
   have hwv := us.at_
   rw [blit_all (by rw [hes1]; rfl)] at hwv
   have cs5 := us.ch
   have zcl := hcl.size
   have hc95 := cu6_2.trans cs5 (H := fun _ => False) (fun _ _ e => e) (fun q hq e => by (try dsimp only at e); omega)
   have hc5 := hcl.trans0 hc95
   refine WL.e6 Nx.thn 1 4 6 23 24 25 (jt2 rfl (lt rfl (s1))) (jt2 rfl (lt rfl (s4))) (lh) (jt2 rfl (lt rfl (s23))) (jt2 rfl (lt rfl (s24))) (jt2 rfl (lt rfl (s25))) ?_
   intro σ8 s1 s4 s6 s23 s24 s25
   refine W.region ?_
   refine WL.x (X.mv (s4)) rfl ?_
   refine WL.x (X.loadBox (vs := es1) ag67 (lt rfl (s6)) hwv hes1) rfl ?_
   refine WL.call1 ce43 (lh) (ranom_ok A a es1 w7 (monAn _ _ _ _ _ _ _ hc95 (fun _ _ => id) (fun _ => id) hr1) hma) rfl ?_
   rintro _ w8 ⟨rfl, c2⟩
   refine WL.x (X.addS (jt2 rfl (lh)) (lh) (by simp only [ByteArray.size_append, szl, size_bs, List.size_toArray, List.length_cons, List.length_nil, List.length_append]; omega)) rfl ?_
   refine WL.x (X.asg (lh)) rfl ?_
   refine WL.e5 (Nx.blk Nx.thn) 1 4 23 24 25 (jt4 rfl (lt rfl (s1))) (lh) (jt4 rfl (lt rfl (s23))) (jt4 rfl (lt rfl (s24))) (jt4 rfl (lt rfl (s25))) ?_
   intro σ9 s1 s4 s23 s24 s25
   refine W.region ?_
   refine WL.x (X.add (s25) lc (by omega) (by omega)) rfl ?_
   refine WL.x (X.mv (lh)) rfl ?_
   refine WL.e5 Nx.thn 1 4 23 24 25 (jt2 rfl (s1)) (jt2 rfl (s4)) (jt2 rfl (s23)) (jt2 rfl (s24)) (lh) ?_
   intro σ10 s1 s4 s23 s24 s25
   refine ⟨k + 1, by omega, ⟨s1.trans qo3.symm, s23.trans qo4.symm, s24.trans qo5.symm, trivial⟩, _, s4, s25, (by rw [htk, sb_app, sb_bs, hSe]; simp only [List.append_assoc]), by omega, hc5.trans0 c2⟩
  ·
   have hl5 := ml5 x.2.2.1.length
   rw [List.take_length] at hl5
   rw [show k = x.2.2.1.length by omega, List.take_length] at hSe
   have hSz := sb_len S
   rw [hSe] at hSz
   simp only [List.length_append, List.length_cons, List.length_nil] at hSz
   refine W.exit (Nx.xthn (Nx.xthn (Nx.xblk Nx.thn))) ?_
   refine W.seq ?_
   refine W.held (fun w' => Ch (fun _ => False) w5 w') mo ?_
   intro w9 qhh6 qc7
   have hS : Ch (fun _ => False) w5 w9 := Ch.weak qc7
   have hzqc7 := qc7.size
   have cdh9 := qc7
   refine WH.take 0 rfl (by kernel_rfl) (by kernel_rfl) (by kernel_rfl) (fun _ _ _ h => h) Gd.none rfl (fun w' hS' => X.mv (s4)) hS ?_
   refine WH.take 1 rfl (by kernel_rfl) (by kernel_rfl) (by kernel_rfl) (fun _ _ _ h => h) Gd.none rfl (fun w' hS' => X.fieldAddr fd25_3 (lt rfl (s1))) hS ?_
   refine WH.take 2 rfl (by kernel_rfl) (by kernel_rfl) (by kernel_rfl) (fun _ _ _ h => h) Gd.none rfl (fun w' hS' => X.load pl3 (lh) (by exact hS'.at (hcl.at0 (by assumption)) (by intro hne; exact hne)) (by rfl)) hS ?_
   refine WH.take 7 rfl (by kernel_rfl) (by kernel_rfl) (by kernel_rfl) (fun _ _ _ h => h) Gd.none rfl (fun w' hS' => X.fieldAddr fd25_4 (jt2 rfl (lt rfl (s1)))) hS ?_
   refine WH.take 8 rfl (by kernel_rfl) (by kernel_rfl) (by kernel_rfl) (fun _ _ _ h => h) Gd.none rfl (fun w' hS' => X.load pl3 (lh) (by exact hS'.at (hcl.at0 (by assumption)) (by intro hne; exact hne)) (by rfl)) hS ?_
   refine WH.two 3 6 rfl rfl (by kernel_rfl) (fun _ _ h => h) ?_ ?_
   ·
    refine WL.call1 ce44 (jt2 rfl (lh)) (rname_ok x.2.2.2.1 w9) rfl ?_
    rintro _ w10 ⟨rfl, c5⟩
    have hS := hS.trans c5 (fun _ _ => id) (by intro i hi hg; exact hg)
    refine WL.nil Nx.thn ⟨hS, ?_⟩
    refine WH.take 4 rfl (by kernel_rfl) (by kernel_rfl) (by kernel_rfl) (fun _ _ _ h => h) Gd.none rfl (fun w' hS' => X.addS lc (lh) (by simp only [ByteArray.size_append, szl, size_bs, List.size_toArray, List.length_cons, List.length_nil, List.length_append]; omega)) hS ?_
    refine WH.take 5 rfl (by kernel_rfl) (by kernel_rfl) (by kernel_rfl) (fun _ _ _ h => h) Gd.none rfl (fun w' hS' => X.addS (lh) lc (by simp only [ByteArray.size_append, szl, size_bs, List.size_toArray, List.length_cons, List.length_nil, List.length_append]; omega)) hS ?_
    refine WH.one 6 rfl (by kernel_rfl) (fun _ _ h => h) ?_
    refine WL.bslice Tryz.underlying39 el9 rfl (pcons lc (pcons lc (pcons lc (pcons lc pnil)))) rfl (rfl : _ = [_, _, _, _]) rfl ?_
    intro w11 us
    obtain ⟨g, hg⟩ : ∃ g, g = w10.heap.size := ⟨_, rfl⟩
    have hE := us.at_
    rw [← hg] at hE ⊢
    have cb := us.ch
    have hS := hS.trans cb (fun _ _ => id) (by intro i hi hg; exact hg)
    refine WL.nil Nx.thn ⟨hS, ?_⟩
    refine WH.grow (S' := fun w' => Ch (fun _ => False) w5 w' ∧ w'.heap[g]? = some (.cells (AWS.map Value.string).toArray 9 (0, 0))) (fun _ h => h.1) ?_
    refine WH.take 9 rfl (by kernel_rfl) (by kernel_rfl) (by kernel_rfl) (fun _ _ _ h => h) Gd.none rfl (fun w' ⟨hS', hE'⟩ => X.indexAddr Tryz.underlying39 el9 (lh) (jt4 rfl (lh)) (by omega) (by omega)) ⟨hS, hE⟩ ?_
    refine WH.take 10 rfl (by kernel_rfl) (by kernel_rfl) (by kernel_rfl) (fun _ _ _ h => h) Gd.none rfl (fun w' ⟨hS', hE'⟩ => X.load pl9 (lh) hE' (v := .string (answerN x.2.2.2.2.1)) (answerW_at mm4)) ⟨hS, hE⟩ ?_
    refine WH.take 11 rfl (by kernel_rfl) (by kernel_rfl) (by kernel_rfl) (fun _ _ _ h => h) Gd.none rfl (fun w' ⟨hS', hE'⟩ => X.addS (jt2 rfl (lt rfl (lh))) (lh) (by simp only [ByteArray.size_append, szl, size_bs, List.size_toArray, List.length_cons, List.length_nil, List.length_append]; omega)) ⟨hS, hE⟩ ?_
    refine WH.take 12 rfl (by kernel_rfl) (by kernel_rfl) (by kernel_rfl) (fun _ _ _ h => h) Gd.none rfl (fun w' ⟨hS', hE'⟩ => X.addS (jt8 rfl (jt2 rfl (lt rfl (lh)))) (lh) (by simp only [ByteArray.size_append, szl, size_bs, List.size_toArray, List.length_cons, List.length_nil, List.length_append]; omega)) ⟨hS, hE⟩ ?_
    refine WH.take 13 rfl (by kernel_rfl) (by kernel_rfl) (by kernel_rfl) (fun _ _ _ h => h) Gd.none rfl (fun w' ⟨hS', hE'⟩ => X.asg (lh)) ⟨hS, hE⟩ ?_
    refine WH.done (by kernel_rfl) ?_
    refine WL.e2 Nx.thn 1 4 (jt8 rfl (jt4 rfl (jt2 rfl (s1)))) (lh) ?_
    intro σ11 s1 s4
    refine W.seqJ (fun σ' w' => (True) ∧ ∃ S3, σ' 4 = .string S3 ∧ sb S3 = (repH x ++ x.2.2.1.flatMap anT ++ repL x ++ [10] ++ repW x) ++ ordT x.2.2.2.2.1 x.2.2.2.2.2 ∧ S3.size ≤ 47000000 ∧ Ch0 w1 w') ?_ ?_
    ·
     refine W.seq ?_
     refine W.region ?_
     refine WL.x (X.fieldAddr fd25_4 (s1)) rfl ?_
     refine WL.x (X.load pl3 (lh) (by exact hS.at (hcl.at0 (by assumption)) (by intro hne; exact hne)) (by rfl)) rfl ?_
     refine WL.x (X.eql (lh) lc) rfl ?_
     refine WL.e3 Nx.thn 1 4 49 (jt2 rfl (lt rfl (s1))) (jt2 rfl (lt rfl (s4))) (lh) ?_
     intro σ12 s1 s4 s49
     refine W.cndp s49 (fun hyes => ?_) (fun hyes => ?_)
     ·
      refine W.seq ?_
      refine W.region ?_
      refine WL.x (X.mv (s4)) rfl ?_
      refine WL.x (X.addS (lh) lc (by simp only [ByteArray.size_append, szl, size_bs, List.size_toArray, List.length_cons, List.length_nil, List.length_append]; omega)) rfl ?_
      refine WL.x (X.asg (lh)) rfl ?_
      refine WL.e2 Nx.thn 1 4 (jt2 rfl (lt rfl (s1))) (lh) ?_
      intro σ13 s1 s4
      refine W.seq ?_
      refine W.seq ?_
      refine W.region ?_
      refine WL.x (X.fieldAddr fd25_5 (s1)) rfl ?_
      refine WL.x (X.load pl23 (lh) (by exact hS.at (hcl.at0 (by assumption)) (by intro hne; exact hne)) (v := .slice ua x.2.2.2.2.2.length uc) rfl) rfl ?_
      refine WL.x (X.lenSl Tryz.underlying23 (lh)) rfl ?_
      refine WL.x (X.mv lc) rfl ?_
      refine WL.e4 Nx.thn 4 53 54 55 (jt4 rfl (s4)) (jt2 rfl (lh)) (lt rfl (lh)) (lh) ?_
      intro σ14 s4 s53 s54 s55
      refine W.block ?_
      have qo8 := s53
      have qo9 := s54
      -- loop 1: kept [53, 54], varied [4, 55]
      refine W.loop (G := Nat) (fun j σ' w' => (σ' 53 = σ14 53 ∧ σ' 54 = σ14 54 ∧ True) ∧ (∃ S2, σ' 4 = .string S2 ∧ σ' 55 = .int .i64 (j : Int) ∧ sb S2 = (repH x ++ x.2.2.1.flatMap anT ++ repL x ++ [10] ++ repW x) ++ ([32, 40] ++ (x.2.2.2.2.2.take j).flatMap valT) ∧ j ≤ x.2.2.2.2.2.length ∧ Ch0 w1 w')) (fun j => x.2.2.2.2.2.length - j) (0) ⟨⟨rfl, rfl, trivial⟩, _, s4, s55, (by simp only [sb_app, sb_bs, sb_mk, hSe, List.take_zero, List.flatMap_nil, List.append_nil]; unfold repL repW wT; simp only [List.append_assoc]; rfl), by omega, hcl.trans0 hS⟩ ?_
      rintro j σ15 w12 ⟨⟨f53, f54, _⟩, S2, s4, s55, hS2, hj9, hcl2⟩
      have s53 := f53.trans qo8
      have s54 := f54.trans qo9
      refine W.seq ?_
      refine W.region ?_
      refine WL.x (X.lss (s55) (s54)) rfl ?_
      refine WL.e5 Nx.thn 4 53 54 55 56 (lt rfl (s4)) (lt rfl (s53)) (lt rfl (s54)) (lt rfl (s55)) (lh) ?_
      intro σ16 s4 s53 s54 s55 s56
      refine W.seq ?_
      refine W.cndp s56 (fun hltj => ?_) (fun hltj => ?_)
      ·
       have hjl : j < x.2.2.2.2.2.length := by omega
       have hl6 := ml6 j
       obtain ⟨gb, og, csg, Tg, frg, hgv, hg1, hg2⟩ := ho.1.at (k := j) (by rw [List.length_map]; omega)
       subst hgv
       have hzj := hnum.2.2 x.2.2.2.2.2[j] (List.getElem_mem hjl)
       have hvj := valT_len hzj
       have htj : (x.2.2.2.2.2.take (j + 1)).flatMap valT = (x.2.2.2.2.2.take j).flatMap valT ++ valT x.2.2.2.2.2[j] := fm_take hjl
       have hSj := sb_len S2
       rw [hS2] at hSj
       simp only [List.length_append, List.length_cons, List.length_nil] at hSj
       refine W.skip Nx.thn ?_
       refine W.seq ?_
       refine W.block ?_
       refine W.seq ?_
       refine W.region ?_
       refine WL.x (X.indexAddr Tryz.underlying23 el3 (s53) (s55) (by omega) (by omega)) rfl ?_
       refine WL.x (X.load pl3 (lh) ((cu0_0.trans0 hcl2).at0 hg1) (v := .int .i64 x.2.2.2.2.2[j]) (by rw [show og + (j : Int).toNat * 1 = og + j by omega, hg2 j (by rw [List.length_map]; omega), List.getElem?_map, List.getElem?_eq_getElem (by omega)]; rfl)) rfl ?_
       refine WL.x (X.asg (lh)) rfl ?_
       refine WL.e5 Nx.thn 4 8 53 54 55 (jt2 rfl (lt rfl (s4))) (lh) (jt2 rfl (lt rfl (s53))) (jt2 rfl (lt rfl (s54))) (jt2 rfl (lt rfl (s55))) ?_
       intro σ17 s4 s8 s53 s54 s55
       refine W.region ?_
       refine WL.x (X.mv (s4)) rfl ?_
       refine WL.x (X.mv (lt rfl (s8))) rfl ?_
       refine WL.call1 ce41 (lh) (rnumt_ok x.2.2.2.2.2[j] w12 hzj) rfl ?_
       rintro _ w13 ⟨rfl, c2⟩
       refine WL.x (X.addS (jt2 rfl (lh)) (lh) (by simp only [ByteArray.size_append, szl, size_bs, List.size_toArray, List.length_cons, List.length_nil, List.length_append]; omega)) rfl ?_
       refine WL.x (X.asg (lh)) rfl ?_
       refine WL.e4 (Nx.blk Nx.thn) 4 53 54 55 (lh) (jt4 rfl (lt rfl (s53))) (jt4 rfl (lt rfl (s54))) (jt4 rfl (lt rfl (s55))) ?_
       intro σ18 s4 s53 s54 s55
       refine W.region ?_
       refine WL.x (X.add (s55) lc (by omega) (by omega)) rfl ?_
       refine WL.x (X.mv (lh)) rfl ?_
       refine WL.e4 Nx.thn 4 53 54 55 (jt2 rfl (s4)) (jt2 rfl (s53)) (jt2 rfl (s54)) (lh) ?_
       intro σ19 s4 s53 s54 s55
       refine ⟨j + 1, by omega, ⟨s53.trans qo8.symm, s54.trans qo9.symm, trivial⟩, _, s4, s55, (by rw [htj, sb_app, sb_bs, hS2]; simp only [List.append_assoc]), by omega, hcl2.trans0 c2⟩
      ·
       have hl6 := ml6 j
       have hSj := sb_len S2
       rw [hS2] at hSj
       simp only [List.length_append, List.length_cons, List.length_nil] at hSj
       refine W.exit (Nx.xthn (Nx.xthn (Nx.xblk Nx.thn))) ?_
       refine W.region ?_
       refine WL.x (X.mv (s4)) rfl ?_
       refine WL.x (X.addS (lh) lc (by simp only [ByteArray.size_append, szl, size_bs, List.size_toArray, List.length_cons, List.length_nil, List.length_append]; omega)) rfl ?_
       refine WL.x (X.asg (lh)) rfl ?_
       refine WL.e1 Nx.thn 4 (lh) ?_
       intro σ20 s4
       refine ⟨trivial, _, s4, (by rw [ordT_yes hyes]; rw [show j = x.2.2.2.2.2.length by omega, List.take_length] at hS2; simp only [sb_app, sb_mk, hS2, List.append_assoc]), (by simp only [ByteArray.size_append, szl, List.size_toArray, List.length_cons, List.length_nil]; omega), hcl2⟩
     ·
      refine W.skip Nx.thn ?_
      refine ⟨trivial, _, s4, (by rw [ordT_no hyes, List.append_nil]; simp only [sb_app, sb_bs, sb_mk, hSe]; unfold repL repW wT; simp only [List.append_assoc]; rfl), (by simp only [ByteArray.size_append, szl, size_bs, List.size_toArray, List.length_cons, List.length_nil, List.length_append]; omega), hcl.trans0 hS⟩
    ·
     rintro σ21 w14 ⟨⟨_⟩, S3, s4, hS3, hz3, hcl3⟩
     refine W.seq ?_
     refine W.region ?_
     refine WL.x (X.mv (s4)) rfl ?_
     refine WL.x (X.addS (lh) lc (by simp only [ByteArray.size_append, szl, size_bs, List.size_toArray, List.length_cons, List.length_nil, List.length_append]; omega)) rfl ?_
     refine WL.x (X.asg (lh)) rfl ?_
     refine WL.x (X.asg lc) rfl ?_
     refine WL.e2 Nx.thn 2 3 (lt rfl (lh)) (lh) ?_
     intro σ22 s2 s3
     refine W.ret2 Nx.f2 s2 s3 ?_
     exact ⟨by rw [(prQ_yes hmay).1, (prQ_yes hmay).2]; exact congrArg (fun z => Value.tuple #[.string z, .int .i64 0]) (sb_inj (by rw [sb_app, sb_bs, hS3, repT_eq])), cu0_0.trans0 hcl3⟩
   ·
    refine WL.bslice Tryz.underlying39 el9 rfl (pcons lc (pcons lc (pcons lc (pcons lc pnil)))) rfl (rfl : _ = [_, _, _, _]) rfl ?_
    intro w15 us
    obtain ⟨g, hg⟩ : ∃ g, g = w9.heap.size := ⟨_, rfl⟩
    have hE := us.at_
    rw [← hg] at hE ⊢
    have cb := us.ch
    have hS := hS.trans cb (fun _ _ => id) (by intro i hi hg; exact hg)
    refine WL.nil Nx.thn ⟨hS, ?_⟩
    refine WH.grow (S' := fun w' => Ch (fun _ => False) w5 w' ∧ w'.heap[g]? = some (.cells (AWS.map Value.string).toArray 9 (0, 0))) (fun _ h => h.1) ?_
    refine WH.take 9 rfl (by kernel_rfl) (by kernel_rfl) (by kernel_rfl) (fun _ _ _ h => h) Gd.none rfl (fun w' ⟨hS', hE'⟩ => X.indexAddr Tryz.underlying39 el9 (lh) (lt rfl (lh)) (by omega) (by omega)) ⟨hS, hE⟩ ?_
    refine WH.take 10 rfl (by kernel_rfl) (by kernel_rfl) (by kernel_rfl) (fun _ _ _ h => h) Gd.none rfl (fun w' ⟨hS', hE'⟩ => X.load pl9 (lh) hE' (v := .string (answerN x.2.2.2.2.1)) (answerW_at mm4)) ⟨hS, hE⟩ ?_
    refine WH.one 3 rfl (by kernel_rfl) (fun _ _ h => h) ?_
    refine WL.call1 ce44 (jt4 rfl (lt rfl (lh))) (rname_ok x.2.2.2.1 w15) rfl ?_
    rintro _ w16 ⟨rfl, c5⟩
    have hS := hS.trans c5 (fun _ _ => id) (by intro i hi hg; exact hg)
    replace hE := c5.at0 hE
    refine WL.nil Nx.thn ⟨⟨hS, hE⟩, ?_⟩
    refine WH.take 4 rfl (by kernel_rfl) (by kernel_rfl) (by kernel_rfl) (fun _ _ _ h => h) Gd.none rfl (fun w' ⟨hS', hE'⟩ => X.addS lc (lh) (by simp only [ByteArray.size_append, szl, size_bs, List.size_toArray, List.length_cons, List.length_nil, List.length_append]; omega)) ⟨hS, hE⟩ ?_
    refine WH.take 5 rfl (by kernel_rfl) (by kernel_rfl) (by kernel_rfl) (fun _ _ _ h => h) Gd.none rfl (fun w' ⟨hS', hE'⟩ => X.addS (lh) lc (by simp only [ByteArray.size_append, szl, size_bs, List.size_toArray, List.length_cons, List.length_nil, List.length_append]; omega)) ⟨hS, hE⟩ ?_
    refine WH.take 11 rfl (by kernel_rfl) (by kernel_rfl) (by kernel_rfl) (fun _ _ _ h => h) Gd.none rfl (fun w' ⟨hS', hE'⟩ => X.addS (lh) (jt2 rfl (lt rfl (lh))) (by simp only [ByteArray.size_append, szl, size_bs, List.size_toArray, List.length_cons, List.length_nil, List.length_append]; omega)) ⟨hS, hE⟩ ?_
    refine WH.take 12 rfl (by kernel_rfl) (by kernel_rfl) (by kernel_rfl) (fun _ _ _ h => h) Gd.none rfl (fun w' ⟨hS', hE'⟩ => X.addS (jt8 rfl (jt2 rfl (lt rfl (lh)))) (lh) (by simp only [ByteArray.size_append, szl, size_bs, List.size_toArray, List.length_cons, List.length_nil, List.length_append]; omega)) ⟨hS, hE⟩ ?_
    refine WH.take 13 rfl (by kernel_rfl) (by kernel_rfl) (by kernel_rfl) (fun _ _ _ h => h) Gd.none rfl (fun w' ⟨hS', hE'⟩ => X.asg (lh)) ⟨hS, hE⟩ ?_
    refine WH.done (by kernel_rfl) ?_
    refine WL.e2 Nx.thn 1 4 (jt8 rfl (jt4 rfl (jt2 rfl (s1)))) (lh) ?_
    intro σ23 s1 s4
    refine W.seqJ (fun σ' w' => (True) ∧ ∃ S3, σ' 4 = .string S3 ∧ sb S3 = (repH x ++ x.2.2.1.flatMap anT ++ repL x ++ [10] ++ repW x) ++ ordT x.2.2.2.2.1 x.2.2.2.2.2 ∧ S3.size ≤ 47000000 ∧ Ch0 w1 w') ?_ ?_
    ·
     refine W.seq ?_
     refine W.region ?_
     refine WL.x (X.fieldAddr fd25_4 (s1)) rfl ?_
     refine WL.x (X.load pl3 (lh) (by exact hS.at (hcl.at0 (by assumption)) (by intro hne; exact hne)) (by rfl)) rfl ?_
     refine WL.x (X.eql (lh) lc) rfl ?_
     refine WL.e3 Nx.thn 1 4 49 (jt2 rfl (lt rfl (s1))) (jt2 rfl (lt rfl (s4))) (lh) ?_
     intro σ24 s1 s4 s49
     refine W.cndp s49 (fun hyes => ?_) (fun hyes => ?_)
     ·
      refine W.seq ?_
      refine W.region ?_
      refine WL.x (X.mv (s4)) rfl ?_
      refine WL.x (X.addS (lh) lc (by simp only [ByteArray.size_append, szl, size_bs, List.size_toArray, List.length_cons, List.length_nil, List.length_append]; omega)) rfl ?_
      refine WL.x (X.asg (lh)) rfl ?_
      refine WL.e2 Nx.thn 1 4 (jt2 rfl (lt rfl (s1))) (lh) ?_
      intro σ25 s1 s4
      refine W.seq ?_
      refine W.seq ?_
      refine W.region ?_
      refine WL.x (X.fieldAddr fd25_5 (s1)) rfl ?_
      refine WL.x (X.load pl23 (lh) (by exact hS.at (hcl.at0 (by assumption)) (by intro hne; exact hne)) (v := .slice ua x.2.2.2.2.2.length uc) rfl) rfl ?_
      refine WL.x (X.lenSl Tryz.underlying23 (lh)) rfl ?_
      refine WL.x (X.mv lc) rfl ?_
      refine WL.e4 Nx.thn 4 53 54 55 (jt4 rfl (s4)) (jt2 rfl (lh)) (lt rfl (lh)) (lh) ?_
      intro σ26 s4 s53 s54 s55
      refine W.block ?_
      have qo10 := s53
      have qo11 := s54
      -- loop 1: kept [53, 54], varied [4, 55]
      refine W.loop (G := Nat) (fun j σ' w' => (σ' 53 = σ26 53 ∧ σ' 54 = σ26 54 ∧ True) ∧ (∃ S2, σ' 4 = .string S2 ∧ σ' 55 = .int .i64 (j : Int) ∧ sb S2 = (repH x ++ x.2.2.1.flatMap anT ++ repL x ++ [10] ++ repW x) ++ ([32, 40] ++ (x.2.2.2.2.2.take j).flatMap valT) ∧ j ≤ x.2.2.2.2.2.length ∧ Ch0 w1 w')) (fun j => x.2.2.2.2.2.length - j) (0) ⟨⟨rfl, rfl, trivial⟩, _, s4, s55, (by simp only [sb_app, sb_bs, sb_mk, hSe, List.take_zero, List.flatMap_nil, List.append_nil]; unfold repL repW wT; simp only [List.append_assoc]; rfl), by omega, hcl.trans0 hS⟩ ?_
      rintro j σ27 w17 ⟨⟨f53, f54, _⟩, S2, s4, s55, hS2, hj9, hcl2⟩
      have s53 := f53.trans qo10
      have s54 := f54.trans qo11
      refine W.seq ?_
      refine W.region ?_
      refine WL.x (X.lss (s55) (s54)) rfl ?_
      refine WL.e5 Nx.thn 4 53 54 55 56 (lt rfl (s4)) (lt rfl (s53)) (lt rfl (s54)) (lt rfl (s55)) (lh) ?_
      intro σ28 s4 s53 s54 s55 s56
      refine W.seq ?_
      refine W.cndp s56 (fun hltj => ?_) (fun hltj => ?_)
      ·
       have hjl : j < x.2.2.2.2.2.length := by omega
       have hl6 := ml6 j
       obtain ⟨gb, og, csg, Tg, frg, hgv, hg1, hg2⟩ := ho.1.at (k := j) (by rw [List.length_map]; omega)
       subst hgv
       have hzj := hnum.2.2 x.2.2.2.2.2[j] (List.getElem_mem hjl)
       have hvj := valT_len hzj
       have htj : (x.2.2.2.2.2.take (j + 1)).flatMap valT = (x.2.2.2.2.2.take j).flatMap valT ++ valT x.2.2.2.2.2[j] := fm_take hjl
       have hSj := sb_len S2
       rw [hS2] at hSj
       simp only [List.length_append, List.length_cons, List.length_nil] at hSj
       refine W.skip Nx.thn ?_
       refine W.seq ?_
       refine W.block ?_
       refine W.seq ?_
       refine W.region ?_
       refine WL.x (X.indexAddr Tryz.underlying23 el3 (s53) (s55) (by omega) (by omega)) rfl ?_
       refine WL.x (X.load pl3 (lh) ((cu0_0.trans0 hcl2).at0 hg1) (v := .int .i64 x.2.2.2.2.2[j]) (by rw [show og + (j : Int).toNat * 1 = og + j by omega, hg2 j (by rw [List.length_map]; omega), List.getElem?_map, List.getElem?_eq_getElem (by omega)]; rfl)) rfl ?_
       refine WL.x (X.asg (lh)) rfl ?_
       refine WL.e5 Nx.thn 4 8 53 54 55 (jt2 rfl (lt rfl (s4))) (lh) (jt2 rfl (lt rfl (s53))) (jt2 rfl (lt rfl (s54))) (jt2 rfl (lt rfl (s55))) ?_
       intro σ29 s4 s8 s53 s54 s55
       refine W.region ?_
       refine WL.x (X.mv (s4)) rfl ?_
       refine WL.x (X.mv (lt rfl (s8))) rfl ?_
       refine WL.call1 ce41 (lh) (rnumt_ok x.2.2.2.2.2[j] w17 hzj) rfl ?_
       rintro _ w18 ⟨rfl, c2⟩
       refine WL.x (X.addS (jt2 rfl (lh)) (lh) (by simp only [ByteArray.size_append, szl, size_bs, List.size_toArray, List.length_cons, List.length_nil, List.length_append]; omega)) rfl ?_
       refine WL.x (X.asg (lh)) rfl ?_
       refine WL.e4 (Nx.blk Nx.thn) 4 53 54 55 (lh) (jt4 rfl (lt rfl (s53))) (jt4 rfl (lt rfl (s54))) (jt4 rfl (lt rfl (s55))) ?_
       intro σ30 s4 s53 s54 s55
       refine W.region ?_
       refine WL.x (X.add (s55) lc (by omega) (by omega)) rfl ?_
       refine WL.x (X.mv (lh)) rfl ?_
       refine WL.e4 Nx.thn 4 53 54 55 (jt2 rfl (s4)) (jt2 rfl (s53)) (jt2 rfl (s54)) (lh) ?_
       intro σ31 s4 s53 s54 s55
       refine ⟨j + 1, by omega, ⟨s53.trans qo10.symm, s54.trans qo11.symm, trivial⟩, _, s4, s55, (by rw [htj, sb_app, sb_bs, hS2]; simp only [List.append_assoc]), by omega, hcl2.trans0 c2⟩
      ·
       have hl6 := ml6 j
       have hSj := sb_len S2
       rw [hS2] at hSj
       simp only [List.length_append, List.length_cons, List.length_nil] at hSj
       refine W.exit (Nx.xthn (Nx.xthn (Nx.xblk Nx.thn))) ?_
       refine W.region ?_
       refine WL.x (X.mv (s4)) rfl ?_
       refine WL.x (X.addS (lh) lc (by simp only [ByteArray.size_append, szl, size_bs, List.size_toArray, List.length_cons, List.length_nil, List.length_append]; omega)) rfl ?_
       refine WL.x (X.asg (lh)) rfl ?_
       refine WL.e1 Nx.thn 4 (lh) ?_
       intro σ32 s4
       refine ⟨trivial, _, s4, (by rw [ordT_yes hyes]; rw [show j = x.2.2.2.2.2.length by omega, List.take_length] at hS2; simp only [sb_app, sb_mk, hS2, List.append_assoc]), (by simp only [ByteArray.size_append, szl, List.size_toArray, List.length_cons, List.length_nil]; omega), hcl2⟩
     ·
      refine W.skip Nx.thn ?_
      refine ⟨trivial, _, s4, (by rw [ordT_no hyes, List.append_nil]; simp only [sb_app, sb_bs, sb_mk, hSe]; unfold repL repW wT; simp only [List.append_assoc]; rfl), (by simp only [ByteArray.size_append, szl, size_bs, List.size_toArray, List.length_cons, List.length_nil, List.length_append]; omega), hcl.trans0 hS⟩
    ·
     rintro σ33 w19 ⟨⟨_⟩, S3, s4, hS3, hz3, hcl3⟩
     refine W.seq ?_
     refine W.region ?_
     refine WL.x (X.mv (s4)) rfl ?_
     refine WL.x (X.addS (lh) lc (by simp only [ByteArray.size_append, szl, size_bs, List.size_toArray, List.length_cons, List.length_nil, List.length_append]; omega)) rfl ?_
     refine WL.x (X.asg (lh)) rfl ?_
     refine WL.x (X.asg lc) rfl ?_
     refine WL.e2 Nx.thn 2 3 (lt rfl (lh)) (lh) ?_
     intro σ34 s2 s3
     refine W.ret2 Nx.f2 s2 s3 ?_
     exact ⟨by rw [(prQ_yes hmay).1, (prQ_yes hmay).2]; exact congrArg (fun z => Value.tuple #[.string z, .int .i64 0]) (sb_inj (by rw [sb_app, sb_bs, hS3, repT_eq])), cu0_0.trans0 hcl3⟩
end Go.Proofs.YtbnllchicnmkiaaGreatDoor
end

section
set_option linter.unusedVariables false
set_option linter.unusedSimpArgs false
set_option maxRecDepth 100000
namespace Go.Proofs.YtbnllchicnmkiaaGreatDoor
open Go Go.RowKit Sg
theorem ce11 : Sg.Callee Tryz.prog 11 := ⟨_, Tryz.func11, by decide, rfl⟩
theorem ce12 : Sg.Callee Tryz.prog 12 := ⟨_, Tryz.func12, by decide, rfl⟩
theorem ce13 : Sg.Callee Tryz.prog 13 := ⟨_, Tryz.func13, by decide, rfl⟩

theorem parse_back {x : GRep} (h : PrOk x) (hlen : (repT x).length ≤ 20000) : parseQ fP (bs (repT x)) = .ok x := by
  obtain ⟨us, h1, h2⟩ := rep_back (okq_of (fun _ => okK_of) h.may h.num) h.may hlen
  rw [← parseQ_alike]
  exact parseQ_some (by rw [sb_bs]; exact h1) h2
theorem parR_ok {f : Wds} {s : ByteArray} {A : Nat → Prop} {w : World} {rv er : Value} {x : GRep} (hp : ParR f s A w rv er) (h : parseQ f s = .ok x) : ∃ es, rv = .agg es.toArray ∧ er = .nilIface ∧ RRep A w es x := by
  rcases hp with ⟨x', es, h1, h2, h3, h4⟩ | ⟨x', h1, _⟩
  · rw [h1] at h; injection h with h; subst h; exact ⟨es, h2, h3, h4⟩
  · rw [h1] at h; cases h
theorem may_prE {x : GRep} (h : ¬ prE x ≠ 0) : mayR keyE x = true := by
  cases hm : mayR keyE x with
  | true => rfl
  | false => exact absurd (prQ_no hm).2 (by omega)
set_option maxHeartbeats 1600000 in
theorem back_ok (x : GRep) (es : List Value) (w : World) (h : RRep all w es x) (hER : ER w) (hTab : Tab w) :
  Sg.Ret Tryz.prog 5 #[.agg es.toArray] w fun v w' => v = .bool true ∧ Ch0 w w' := by
 have hh := h
 have hnum := rrep_num h
 obtain ⟨v, u, rfl, hs, ho, hb⟩ := h
 obtain ⟨va, vc, rfl⟩ := hs.len
 obtain ⟨ua, uc, hu⟩ := ho.1.len
 rw [List.length_map] at hu
 subst hu
 refine enter1 (n := 51) (l := [.agg #[.int .i64 x.1, .bool x.2.1, .slice va x.2.2.1.length vc, .int .i64 x.2.2.2.1, .int .i64 x.2.2.2.2.1, .slice ua x.2.2.2.2.2.length uc]]) Tryz.func5 rfl rfl rfl rfl ?_
 refine W.g1 0 (v1 := .agg #[.int .i64 x.1, .bool x.2.1, .slice va x.2.2.1.length vc, .int .i64 x.2.2.2.1, .int .i64 x.2.2.2.2.1, .slice ua x.2.2.2.2.2.length uc]) rfl ?_; intro σ s0
 refine W.seq ?_
 refine W.region ?_
 refine WL.box (s0) rfl ?_
 intro w1 u0_0; have hu0_0 := u0_0.at_; have cu0_0 := u0_0.ch; have zu0_0 := u0_0.size
 refine WL.x (X.asg lc) rfl ?_
 refine WL.e1 Nx.thn 1 (lt rfl (lh)) ?_
 intro σ1 s1
 refine W.seq ?_
 refine W.region ?_
 obtain ⟨xb, hxb⟩ : ∃ xb, xb = w.heap.size := ⟨_, rfl⟩
 have hbx := hu0_0
 rw [← hxb] at hbx s1
 refine WL.x (X.loadBox (vs := [.int .i64 x.1, .bool x.2.1, .slice va x.2.2.1.length vc, .int .i64 x.2.2.2.1, .int .i64 x.2.2.2.2.1, .slice ua x.2.2.2.2.2.length uc]) ag25 (s1) hbx rfl) rfl ?_
 refine WL.call1 ce11 (lh) (print_ok all x _ w1 (monRep _ _ _ _ _ _ _ (cu0_0) (fun _ _ => id) (fun _ => id) hh) (tab_ch0 hTab cu0_0)) rfl ?_
 rintro _ w2 ⟨rfl, c1⟩
 have k1 := cu0_0.trans0 c1
 refine WL.x (X.mv (lh)) rfl ?_
 refine WL.x (X.ex2_0 (lh)) rfl ?_
 refine WL.x (X.ex2_1 (lt rfl (lh))) rfl ?_
 refine WL.x (X.asg (lt rfl (lh))) rfl ?_
 refine WL.x (X.asg (lt rfl (lh))) rfl ?_
 refine WL.e3 Nx.thn 1 3 4 (jt4 rfl (jt2 rfl (lt rfl (s1)))) (lt rfl (lh)) (lh) ?_
 intro σ2 s1 s3 s4
 refine W.seq ?_
 refine W.seq ?_
 refine W.region ?_
 refine WL.x (X.loadBox (vs := [.int .i64 x.1, .bool x.2.1, .slice va x.2.2.1.length vc, .int .i64 x.2.2.2.1, .int .i64 x.2.2.2.2.1, .slice ua x.2.2.2.2.2.length uc]) ag25 (s1) (c1.at0 hbx) rfl) rfl ?_
 refine WL.call1 ce12 (lh) (rprint_ok all x _ w2 (monRep _ _ _ _ _ _ _ (k1) (fun _ _ => id) (fun _ => id) hh)) rfl ?_
 rintro _ w3 ⟨rfl, c2⟩
 have k2 := k1.trans0 c2
 refine WL.x (X.mv (lh)) rfl ?_
 refine WL.x (X.ex2_0 (lh)) rfl ?_
 refine WL.x (X.ex2_1 (lt rfl (lh))) rfl ?_
 refine WL.x (X.asg (lt rfl (lh))) rfl ?_
 refine WL.x (X.asg (lt rfl (lh))) rfl ?_
 refine WL.e5 Nx.thn 1 3 4 5 6 (jt4 rfl (jt2 rfl (lt rfl (s1)))) (jt4 rfl (jt2 rfl (lt rfl (s3)))) (jt4 rfl (jt2 rfl (lt rfl (s4)))) (lt rfl (lh)) (lh) ?_
 intro σ3 s1 s3 s4 s5 s6
 refine W.seq ?_
 refine W.region ?_
 refine WL.x (X.mv (s3)) rfl ?_
 refine WL.x (X.mv (lt rfl (s5))) rfl ?_
 refine WL.x (X.neqS (lt rfl (lh)) (lh)) rfl ?_
 refine WL.x (X.mv (lh)) rfl ?_
 refine WL.yes rfl rfl (lh) (decide_eq_false (fun h => h rfl)) ?_
 refine WL.x (X.mv (jt4 rfl (s4))) rfl ?_
 refine WL.yes rfl rfl (lt rfl (lh)) (decide_eq_false (fun h => h rfl)) ?_
 refine WL.x (X.mv (jt4 rfl (lt rfl (s6)))) rfl ?_
 refine WL.yes rfl rfl (jt2 rfl (lh)) (decide_eq_false (fun h => h rfl)) ?_
 refine WL.x (X.neq (lt rfl (lh)) (lh)) rfl ?_
 refine WL.x (X.pickF (jt2 rfl (lt rfl (lh))) (decide_eq_false (fun h => h rfl)) (lh)) rfl ?_
 refine WL.e4 Nx.thn 1 3 4 26 (jt8 rfl (s1)) (jt8 rfl (s3)) (jt8 rfl (s4)) (lh) ?_
 intro σ4 s1 s3 s4 s26
 refine W.cndN s26 (fun h => h rfl) ?_
 refine W.skip Nx.thn ?_
 refine W.seq ?_
 refine W.seq ?_
 refine W.region ?_
 refine WL.x (X.mv (s4)) rfl ?_
 refine WL.x (X.neq (lh) lc) rfl ?_
 refine WL.x (X.mv (lh)) rfl ?_
 refine WL.splitp (lh) (fun he => ?_) (fun he => ?_)
 ·
  refine WL.no rfl rfl (lh) (decide_eq_true he) rfl ?_
  refine WL.no rfl rfl (lt rfl (lh)) (decide_eq_true he) rfl ?_
  refine WL.no rfl rfl (jt2 rfl (lh)) (decide_eq_true he) rfl ?_
  refine WL.x (X.pickT (jt2 rfl (lt rfl (lh))) (decide_eq_true he) lc) rfl ?_
  refine WL.e3 Nx.thn 1 3 33 (jt4 rfl (jt2 rfl (lt rfl (s1)))) (jt4 rfl (jt2 rfl (lt rfl (s3)))) (lh) ?_
  intro σ5 s1 s3 s33
  refine W.cndT s33 ?_
  refine W.seq ?_
  refine W.region ?_
  refine WL.x (X.asg lc) rfl ?_
  refine WL.e1 Nx.thn 2 (lh) ?_
  intro σ6 s2
  refine W.ret1 (Nx.rthn Nx.f1) s2 ?_
  exact ⟨rfl, k2⟩
 ·
  refine WL.yes rfl rfl (lh) (decide_eq_false he) ?_
  refine WL.x (X.mv (jt2 rfl (lt rfl (s3)))) rfl ?_
  refine WL.yes rfl rfl (lt rfl (lh)) (decide_eq_false he) ?_
  refine WL.x (X.lenSt Tryz.underlying9 (lh)) rfl ?_
  refine WL.yes rfl rfl (jt2 rfl (lh)) (decide_eq_false he) ?_
  refine WL.x (X.gtr (lh) lc) rfl ?_
  refine WL.x (X.pickF (jt2 rfl (lt rfl (lh))) (decide_eq_false he) (lh)) rfl ?_
  refine WL.e3 Nx.thn 1 3 33 (jt4 rfl (jt2 rfl (lt rfl (s1)))) (jt4 rfl (jt2 rfl (lt rfl (s3)))) (lh) ?_
  intro σ7 s1 s3 s33
  refine W.cndp s33 (fun hbig => ?_) (fun hbig => ?_)
  ·
   refine W.seq ?_
   refine W.region ?_
   refine WL.x (X.asg lc) rfl ?_
   refine WL.e1 Nx.thn 2 (lh) ?_
   intro σ8 s2
   refine W.ret1 (Nx.rthn Nx.f1) s2 ?_
   exact ⟨rfl, k2⟩
  ·
   have hmay := may_prE he
   have hpq := (prQ_yes hmay).1
   have hsz9 : (bs (prQ x)).size = (prQ x).length := size_bs _
   have hback : parseQ fP (bs (prQ x)) = .ok x := by rw [hpq]; exact parse_back ⟨hmay, hnum⟩ (by rw [← hpq]; omega)
   refine W.skip Nx.thn ?_
   refine W.seq ?_
   refine W.region ?_
   refine WL.x (X.mv (s3)) rfl ?_
   refine WL.call1 ce7 (lh) (parse_ok (bs (prQ x)) w3 (hER.ch0 k2)) rfl ?_
   rintro _ w4 ⟨⟨rv1, er1, rfl, hp1⟩, c3⟩
   obtain ⟨es1, rfl, rfl, hr1⟩ := parR_ok hp1 hback
   have k3 := k2.trans0 c3
   have zc1 := c3.size
   refine WL.x (X.mv (lh)) rfl ?_
   refine WL.x (X.ex2_0 (lh)) rfl ?_
   refine WL.x (X.ex2_1 (lt rfl (lh))) rfl ?_
   refine WL.alloc el25 rfl ?_
   intro w5 u7_5; have hu7_5 := u7_5.at_; have cu7_5 := u7_5.ch; have zu7_5 := u7_5.size
   have h6 := hr1.len6
   refine WL.storeS (vs := es1) ag25 (lh) (jt2 rfl (lh)) (RRep_one hr1) h6 hu7_5 (by decide) ?_
   intro w6 us
   have m1 := us.at_
   rw [blit_all (by rw [h6]; rfl)] at m1
   have km1 := us.ch
   have hcm1 := cu7_5.trans km1 (H := fun _ => False) (fun _ _ e => e) (fun j hj e => by (try dsimp only at e); omega)
   refine WL.x (X.asg (lt rfl (lh))) rfl ?_
   refine WL.e3 Nx.thn 1 7 8 (jt4 rfl (jt2 rfl (lt rfl (s1)))) (lt rfl (lh)) (lh) ?_
   intro σ9 s1 s7 s8
   refine W.seq ?_
   refine W.region ?_
   refine WL.x (X.mv (s8)) rfl ?_
   refine WL.x (v := .bool (isNil .nilIface)) (X.eqlI Tryz.underlying27 (lh) (.inl rfl)) rfl ?_
   refine WL.x (X.mv (lh)) rfl ?_
   refine WL.yes rfl rfl (lh) (rfl) ?_
   have k4 := k3.trans0 hcm1
   refine WL.x (X.loadBox (vs := [.int .i64 x.1, .bool x.2.1, .slice va x.2.2.1.length vc, .int .i64 x.2.2.2.1, .int .i64 x.2.2.2.2.1, .slice ua x.2.2.2.2.2.length uc]) ag25 (jt2 rfl (lt rfl (s1))) (hcm1.at0 (c3.at0 (c2.at0 (c1.at0 hbx)))) rfl) rfl ?_
   refine WL.yes rfl rfl (lt rfl (lh)) (rfl) ?_
   refine WL.x (X.loadBox (vs := es1) ag25 (jt4 rfl (s7)) m1 hr1.len6) rfl ?_
   refine WL.yes rfl rfl (jt2 rfl (lh)) (rfl) ?_
   refine WL.call2 ce10 (lt rfl (lh)) (lh) (samerep_ok _ _ x x _ es1 w6 (monRep _ _ _ _ _ _ _ (k4) (fun _ _ => id) (fun _ => id) hh) (hr1.ch0 hcm1)) rfl ?_
   rintro _ w7 ⟨rfl, c5⟩
   have k5 := k4.trans0 c5
   refine WL.x (X.pickT (jt2 rfl (lt rfl (lh))) (rfl) (lh)) rfl ?_
   refine WL.x (X.mv (lh)) rfl ?_
   refine WL.yes rfl rfl (lh) (decide_eq_true (rfl)) ?_
   refine WL.x (X.loadBox (vs := [.int .i64 x.1, .bool x.2.1, .slice va x.2.2.1.length vc, .int .i64 x.2.2.2.1, .int .i64 x.2.2.2.2.1, .slice ua x.2.2.2.2.2.length uc]) ag25 (jt8 rfl (s1)) (c5.at0 (hcm1.at0 (c3.at0 (c2.at0 (c1.at0 hbx))))) rfl) rfl ?_
   refine WL.yes rfl rfl (lt rfl (lh)) (decide_eq_true (rfl)) ?_
   refine WL.x (X.loadBox (vs := es1) ag25 (jt8 rfl (lt rfl (s7))) (c5.at0 m1) hr1.len6) rfl ?_
   refine WL.yes rfl rfl (jt2 rfl (lh)) (decide_eq_true (rfl)) ?_
   refine WL.call2 ce13 (lt rfl (lh)) (lh) (same_ok _ _ x x _ es1 w7 (monRep _ _ _ _ _ _ _ (k5) (fun _ _ => id) (fun _ => id) hh) ((hr1.ch0 hcm1).ch0 c5)) rfl ?_
   rintro _ w8 ⟨rfl, c6⟩
   refine WL.x (X.pickT (jt2 rfl (lt rfl (lh))) (decide_eq_true (rfl)) (lh)) rfl ?_
   refine WL.x (X.asg (lh)) rfl ?_
   refine WL.e1 Nx.thn 2 (lh) ?_
   intro σ10 s2
   refine W.ret1 Nx.f1 s2 ?_
   exact ⟨congrArg Value.bool (decide_eq_true rfl), k5.trans0 c6⟩
end Go.Proofs.YtbnllchicnmkiaaGreatDoor
end

section
set_option linter.unusedVariables false
set_option linter.unusedSimpArgs false
set_option maxRecDepth 100000
namespace Go.Proofs.YtbnllchicnmkiaaGreatDoor
open Go Go.RowKit Go.ChangeShapes Sg
theorem opn_why {W : World} : Opn Tryz.prog W 85 RWhy := by
  intro H enc fuel cs x h hw
  obtain ⟨xs, n, _, rfl, hl, hlen, hf⟩ := DataW.trod_struct Tryz.underlying85 h
  rw [show Tryz.prog.cellsOf 85 = 8 by kernel_rfl] at hl
  obtain ⟨y0, y1, y2, y3, y4, y5, y6, y7, rfl⟩ : ∃ y0 y1 y2 y3 y4 y5 y6 y7, xs = [y0, y1, y2, y3, y4, y5, y6, y7] := by
    match xs, hlen with | [y0, y1, y2, y3, y4, y5, y6, y7], _ => exact ⟨_, _, _, _, _, _, _, _, rfl⟩
  obtain ⟨c0, c1, c2, c3, c4, c5, c6, c7, rfl⟩ : ∃ c0 c1 c2 c3 c4 c5 c6 c7, cs = [c0, c1, c2, c3, c4, c5, c6, c7] := by
    match cs, hl with | [c0, c1, c2, c3, c4, c5, c6, c7], _ => exact ⟨_, _, _, _, _, _, _, _, rfl⟩
  have f0 : DataW.trod enc Tryz.prog W 0 (fun _ => true) true n 3 [c0] = some y0 := (congrArg (fun k => DataW.trod enc Tryz.prog W 0 (fun _ => true) true n 3 (([c0, c1, c2, c3, c4, c5, c6, c7].drop 0).take k)) (show Tryz.prog.cellsOf 3 = 1 by kernel_rfl)).symm.trans (hf 0 _ rfl)
  have g0 := weights_struct Tryz.underlying85 hw 0 _ y0.1 rfl rfl
  have f1 : DataW.trod enc Tryz.prog W 0 (fun _ => true) true n 3 [c1] = some y1 := (congrArg (fun k => DataW.trod enc Tryz.prog W 0 (fun _ => true) true n 3 (([c0, c1, c2, c3, c4, c5, c6, c7].drop 1).take k)) (show Tryz.prog.cellsOf 3 = 1 by kernel_rfl)).symm.trans (hf 1 _ rfl)
  have g1 := weights_struct Tryz.underlying85 hw 1 _ y1.1 rfl rfl
  have f2 : DataW.trod enc Tryz.prog W 0 (fun _ => true) true n 3 [c2] = some y2 := (congrArg (fun k => DataW.trod enc Tryz.prog W 0 (fun _ => true) true n 3 (([c0, c1, c2, c3, c4, c5, c6, c7].drop 2).take k)) (show Tryz.prog.cellsOf 3 = 1 by kernel_rfl)).symm.trans (hf 2 _ rfl)
  have g2 := weights_struct Tryz.underlying85 hw 2 _ y2.1 rfl rfl
  have f3 : DataW.trod enc Tryz.prog W 0 (fun _ => true) true n 9 [c3] = some y3 := (congrArg (fun k => DataW.trod enc Tryz.prog W 0 (fun _ => true) true n 9 (([c0, c1, c2, c3, c4, c5, c6, c7].drop 3).take k)) (show Tryz.prog.cellsOf 9 = 1 by kernel_rfl)).symm.trans (hf 3 _ rfl)
  have g3 := weights_struct Tryz.underlying85 hw 3 _ y3.1 rfl rfl
  have f4 : DataW.trod enc Tryz.prog W 0 (fun _ => true) true n 3 [c4] = some y4 := (congrArg (fun k => DataW.trod enc Tryz.prog W 0 (fun _ => true) true n 3 (([c0, c1, c2, c3, c4, c5, c6, c7].drop 4).take k)) (show Tryz.prog.cellsOf 3 = 1 by kernel_rfl)).symm.trans (hf 4 _ rfl)
  have g4 := weights_struct Tryz.underlying85 hw 4 _ y4.1 rfl rfl
  have f5 : DataW.trod enc Tryz.prog W 0 (fun _ => true) true n 3 [c5] = some y5 := (congrArg (fun k => DataW.trod enc Tryz.prog W 0 (fun _ => true) true n 3 (([c0, c1, c2, c3, c4, c5, c6, c7].drop 5).take k)) (show Tryz.prog.cellsOf 3 = 1 by kernel_rfl)).symm.trans (hf 5 _ rfl)
  have g5 := weights_struct Tryz.underlying85 hw 5 _ y5.1 rfl rfl
  have f6 : DataW.trod enc Tryz.prog W 0 (fun _ => true) true n 4 [c6] = some y6 := (congrArg (fun k => DataW.trod enc Tryz.prog W 0 (fun _ => true) true n 4 (([c0, c1, c2, c3, c4, c5, c6, c7].drop 6).take k)) (show Tryz.prog.cellsOf 4 = 1 by kernel_rfl)).symm.trans (hf 6 _ rfl)
  have g6 := weights_struct Tryz.underlying85 hw 6 _ y6.1 rfl rfl
  have f7 : DataW.trod enc Tryz.prog W 0 (fun _ => true) true n 4 [c7] = some y7 := (congrArg (fun k => DataW.trod enc Tryz.prog W 0 (fun _ => true) true n 4 (([c0, c1, c2, c3, c4, c5, c6, c7].drop 7).take k)) (show Tryz.prog.cellsOf 4 = 1 by kernel_rfl)).symm.trans (hf 7 _ rfl)
  have g7 := weights_struct Tryz.underlying85 hw 7 _ y7.1 rfl rfl
  obtain ⟨n0, e0, rfl, wf0⟩ := DataW.trod_int Tryz.underlying3 f0
  obtain rfl : c0 = .int .i64 n0 := by simpa using e0
  obtain ⟨n1, e1, rfl, wf1⟩ := DataW.trod_int Tryz.underlying3 f1
  obtain rfl : c1 = .int .i64 n1 := by simpa using e1
  obtain ⟨n2, e2, rfl, wf2⟩ := DataW.trod_int Tryz.underlying3 f2
  obtain rfl : c2 = .int .i64 n2 := by simpa using e2
  obtain ⟨s3, e3, rfl, ws3⟩ := DataW.trod_string Tryz.underlying9 f3
  obtain rfl : c3 = .string s3 := by simpa using e3
  obtain ⟨n4, e4, rfl, wf4⟩ := DataW.trod_int Tryz.underlying3 f4
  obtain rfl : c4 = .int .i64 n4 := by simpa using e4
  obtain ⟨n5, e5, rfl, wf5⟩ := DataW.trod_int Tryz.underlying3 f5
  obtain rfl : c5 = .int .i64 n5 := by simpa using e5
  obtain ⟨b6, e6, rfl⟩ := DataW.trod_bool Tryz.underlying4 f6
  obtain rfl : c6 = .bool b6 := by simpa using e6
  obtain ⟨b7, e7, rfl⟩ := DataW.trod_bool Tryz.underlying4 f7
  obtain rfl : c7 = .bool b7 := by simpa using e7
  exact ⟨(n0, n1, n2, s3, n4, n5, b6, b7), rfl, ⟨wf_i64 wf0, wf_i64 wf1, wf_i64 wf4, wf_i64 wf5⟩, ws3⟩
theorem opn_an {W : World} : Opn Tryz.prog W 67 RAn := by
  intro H enc fuel cs x h hw
  obtain ⟨xs, n, _, rfl, hl, hlen, hf⟩ := DataW.trod_struct Tryz.underlying67 h
  rw [show Tryz.prog.cellsOf 67 = 9 by kernel_rfl] at hl
  obtain ⟨y0, y1, y2, y3, y4, y5, y6, y7, y8, rfl⟩ : ∃ y0 y1 y2 y3 y4 y5 y6 y7 y8, xs = [y0, y1, y2, y3, y4, y5, y6, y7, y8] := by
    match xs, hlen with | [y0, y1, y2, y3, y4, y5, y6, y7, y8], _ => exact ⟨_, _, _, _, _, _, _, _, _, rfl⟩
  obtain ⟨c0, c1, c2, c3, c4, c5, c6, c7, c8, rfl⟩ : ∃ c0 c1 c2 c3 c4 c5 c6 c7 c8, cs = [c0, c1, c2, c3, c4, c5, c6, c7, c8] := by
    match cs, hl with | [c0, c1, c2, c3, c4, c5, c6, c7, c8], _ => exact ⟨_, _, _, _, _, _, _, _, _, rfl⟩
  have f0 : DataW.trod enc Tryz.prog W 0 (fun _ => true) true n 3 [c0] = some y0 := (congrArg (fun k => DataW.trod enc Tryz.prog W 0 (fun _ => true) true n 3 (([c0, c1, c2, c3, c4, c5, c6, c7, c8].drop 0).take k)) (show Tryz.prog.cellsOf 3 = 1 by kernel_rfl)).symm.trans (hf 0 _ rfl)
  have g0 := weights_struct Tryz.underlying67 hw 0 _ y0.1 rfl rfl
  have f1 : DataW.trod enc Tryz.prog W 0 (fun _ => true) true n 3 [c1] = some y1 := (congrArg (fun k => DataW.trod enc Tryz.prog W 0 (fun _ => true) true n 3 (([c0, c1, c2, c3, c4, c5, c6, c7, c8].drop 1).take k)) (show Tryz.prog.cellsOf 3 = 1 by kernel_rfl)).symm.trans (hf 1 _ rfl)
  have g1 := weights_struct Tryz.underlying67 hw 1 _ y1.1 rfl rfl
  have f2 : DataW.trod enc Tryz.prog W 0 (fun _ => true) true n 3 [c2] = some y2 := (congrArg (fun k => DataW.trod enc Tryz.prog W 0 (fun _ => true) true n 3 (([c0, c1, c2, c3, c4, c5, c6, c7, c8].drop 2).take k)) (show Tryz.prog.cellsOf 3 = 1 by kernel_rfl)).symm.trans (hf 2 _ rfl)
  have g2 := weights_struct Tryz.underlying67 hw 2 _ y2.1 rfl rfl
  have f3 : DataW.trod enc Tryz.prog W 0 (fun _ => true) true n 3 [c3] = some y3 := (congrArg (fun k => DataW.trod enc Tryz.prog W 0 (fun _ => true) true n 3 (([c0, c1, c2, c3, c4, c5, c6, c7, c8].drop 3).take k)) (show Tryz.prog.cellsOf 3 = 1 by kernel_rfl)).symm.trans (hf 3 _ rfl)
  have g3 := weights_struct Tryz.underlying67 hw 3 _ y3.1 rfl rfl
  have f4 : DataW.trod enc Tryz.prog W 0 (fun _ => true) true n 9 [c4] = some y4 := (congrArg (fun k => DataW.trod enc Tryz.prog W 0 (fun _ => true) true n 9 (([c0, c1, c2, c3, c4, c5, c6, c7, c8].drop 4).take k)) (show Tryz.prog.cellsOf 9 = 1 by kernel_rfl)).symm.trans (hf 4 _ rfl)
  have g4 := weights_struct Tryz.underlying67 hw 4 _ y4.1 rfl rfl
  have f5 : DataW.trod enc Tryz.prog W 0 (fun _ => true) true n 3 [c5] = some y5 := (congrArg (fun k => DataW.trod enc Tryz.prog W 0 (fun _ => true) true n 3 (([c0, c1, c2, c3, c4, c5, c6, c7, c8].drop 5).take k)) (show Tryz.prog.cellsOf 3 = 1 by kernel_rfl)).symm.trans (hf 5 _ rfl)
  have g5 := weights_struct Tryz.underlying67 hw 5 _ y5.1 rfl rfl
  have f6 : DataW.trod enc Tryz.prog W 0 (fun _ => true) true n 65 [c6] = some y6 := (congrArg (fun k => DataW.trod enc Tryz.prog W 0 (fun _ => true) true n 65 (([c0, c1, c2, c3, c4, c5, c6, c7, c8].drop 6).take k)) (show Tryz.prog.cellsOf 65 = 1 by kernel_rfl)).symm.trans (hf 6 _ rfl)
  have g6 := weights_struct Tryz.underlying67 hw 6 _ y6.1 rfl rfl
  have f7 : DataW.trod enc Tryz.prog W 0 (fun _ => true) true n 4 [c7] = some y7 := (congrArg (fun k => DataW.trod enc Tryz.prog W 0 (fun _ => true) true n 4 (([c0, c1, c2, c3, c4, c5, c6, c7, c8].drop 7).take k)) (show Tryz.prog.cellsOf 4 = 1 by kernel_rfl)).symm.trans (hf 7 _ rfl)
  have g7 := weights_struct Tryz.underlying67 hw 7 _ y7.1 rfl rfl
  have f8 : DataW.trod enc Tryz.prog W 0 (fun _ => true) true n 3 [c8] = some y8 := (congrArg (fun k => DataW.trod enc Tryz.prog W 0 (fun _ => true) true n 3 (([c0, c1, c2, c3, c4, c5, c6, c7, c8].drop 8).take k)) (show Tryz.prog.cellsOf 3 = 1 by kernel_rfl)).symm.trans (hf 8 _ rfl)
  have g8 := weights_struct Tryz.underlying67 hw 8 _ y8.1 rfl rfl
  obtain ⟨n0, e0, rfl, wf0⟩ := DataW.trod_int Tryz.underlying3 f0
  obtain rfl : c0 = .int .i64 n0 := by simpa using e0
  obtain ⟨n1, e1, rfl, wf1⟩ := DataW.trod_int Tryz.underlying3 f1
  obtain rfl : c1 = .int .i64 n1 := by simpa using e1
  obtain ⟨n2, e2, rfl, wf2⟩ := DataW.trod_int Tryz.underlying3 f2
  obtain rfl : c2 = .int .i64 n2 := by simpa using e2
  obtain ⟨n3, e3, rfl, wf3⟩ := DataW.trod_int Tryz.underlying3 f3
  obtain rfl : c3 = .int .i64 n3 := by simpa using e3
  obtain ⟨s4, e4, rfl, ws4⟩ := DataW.trod_string Tryz.underlying9 f4
  obtain rfl : c4 = .string s4 := by simpa using e4
  obtain ⟨n5, e5, rfl, wf5⟩ := DataW.trod_int Tryz.underlying3 f5
  obtain rfl : c5 = .int .i64 n5 := by simpa using e5
  obtain ⟨v6, l6, e6, hs6, hl6⟩ := open_rsl Tryz.underlying65 (show Tryz.prog.cellsOf 85 = 8 by kernel_rfl) (by decide) (show Tryz.prog.bytesOf 85 = 64 by kernel_rfl) opn_why f6 g6
  obtain rfl : c6 = v6 := by simpa using e6
  obtain ⟨b7, e7, rfl⟩ := DataW.trod_bool Tryz.underlying4 f7
  obtain rfl : c7 = .bool b7 := by simpa using e7
  obtain ⟨n8, e8, rfl, wf8⟩ := DataW.trod_int Tryz.underlying3 f8
  obtain rfl : c8 = .int .i64 n8 := by simpa using e8
  exact ⟨(n0, n1, n2, n3, s4, n5, l6, b7, n8), _, rfl, hs6, hl6, ⟨wf_i64 wf1, wf_i64 wf2, wf_i64 wf3, wf_i64 wf5⟩, ws4⟩
theorem opn_rep {W : World} : Opn Tryz.prog W 25 RRep := by
  intro H enc fuel cs x h hw
  obtain ⟨xs, n, _, rfl, hl, hlen, hf⟩ := DataW.trod_struct Tryz.underlying25 h
  rw [show Tryz.prog.cellsOf 25 = 6 by kernel_rfl] at hl
  obtain ⟨y0, y1, y2, y3, y4, y5, rfl⟩ : ∃ y0 y1 y2 y3 y4 y5, xs = [y0, y1, y2, y3, y4, y5] := by
    match xs, hlen with | [y0, y1, y2, y3, y4, y5], _ => exact ⟨_, _, _, _, _, _, rfl⟩
  obtain ⟨c0, c1, c2, c3, c4, c5, rfl⟩ : ∃ c0 c1 c2 c3 c4 c5, cs = [c0, c1, c2, c3, c4, c5] := by
    match cs, hl with | [c0, c1, c2, c3, c4, c5], _ => exact ⟨_, _, _, _, _, _, rfl⟩
  have f0 : DataW.trod enc Tryz.prog W 0 (fun _ => true) true n 3 [c0] = some y0 := (congrArg (fun k => DataW.trod enc Tryz.prog W 0 (fun _ => true) true n 3 (([c0, c1, c2, c3, c4, c5].drop 0).take k)) (show Tryz.prog.cellsOf 3 = 1 by kernel_rfl)).symm.trans (hf 0 _ rfl)
  have g0 := weights_struct Tryz.underlying25 hw 0 _ y0.1 rfl rfl
  have f1 : DataW.trod enc Tryz.prog W 0 (fun _ => true) true n 4 [c1] = some y1 := (congrArg (fun k => DataW.trod enc Tryz.prog W 0 (fun _ => true) true n 4 (([c0, c1, c2, c3, c4, c5].drop 1).take k)) (show Tryz.prog.cellsOf 4 = 1 by kernel_rfl)).symm.trans (hf 1 _ rfl)
  have g1 := weights_struct Tryz.underlying25 hw 1 _ y1.1 rfl rfl
  have f2 : DataW.trod enc Tryz.prog W 0 (fun _ => true) true n 22 [c2] = some y2 := (congrArg (fun k => DataW.trod enc Tryz.prog W 0 (fun _ => true) true n 22 (([c0, c1, c2, c3, c4, c5].drop 2).take k)) (show Tryz.prog.cellsOf 22 = 1 by kernel_rfl)).symm.trans (hf 2 _ rfl)
  have g2 := weights_struct Tryz.underlying25 hw 2 _ y2.1 rfl rfl
  have f3 : DataW.trod enc Tryz.prog W 0 (fun _ => true) true n 3 [c3] = some y3 := (congrArg (fun k => DataW.trod enc Tryz.prog W 0 (fun _ => true) true n 3 (([c0, c1, c2, c3, c4, c5].drop 3).take k)) (show Tryz.prog.cellsOf 3 = 1 by kernel_rfl)).symm.trans (hf 3 _ rfl)
  have g3 := weights_struct Tryz.underlying25 hw 3 _ y3.1 rfl rfl
  have f4 : DataW.trod enc Tryz.prog W 0 (fun _ => true) true n 3 [c4] = some y4 := (congrArg (fun k => DataW.trod enc Tryz.prog W 0 (fun _ => true) true n 3 (([c0, c1, c2, c3, c4, c5].drop 4).take k)) (show Tryz.prog.cellsOf 3 = 1 by kernel_rfl)).symm.trans (hf 4 _ rfl)
  have g4 := weights_struct Tryz.underlying25 hw 4 _ y4.1 rfl rfl
  have f5 : DataW.trod enc Tryz.prog W 0 (fun _ => true) true n 23 [c5] = some y5 := (congrArg (fun k => DataW.trod enc Tryz.prog W 0 (fun _ => true) true n 23 (([c0, c1, c2, c3, c4, c5].drop 5).take k)) (show Tryz.prog.cellsOf 23 = 1 by kernel_rfl)).symm.trans (hf 5 _ rfl)
  have g5 := weights_struct Tryz.underlying25 hw 5 _ y5.1 rfl rfl
  obtain ⟨n0, e0, rfl, wf0⟩ := DataW.trod_int Tryz.underlying3 f0
  obtain rfl : c0 = .int .i64 n0 := by simpa using e0
  obtain ⟨b1, e1, rfl⟩ := DataW.trod_bool Tryz.underlying4 f1
  obtain rfl : c1 = .bool b1 := by simpa using e1
  obtain ⟨v2, l2, e2, hs2, hl2⟩ := open_rsl Tryz.underlying22 (show Tryz.prog.cellsOf 67 = 9 by kernel_rfl) (by decide) (show Tryz.prog.bytesOf 67 = 96 by kernel_rfl) opn_an f2 g2
  obtain rfl : c2 = v2 := by simpa using e2
  obtain ⟨n3, e3, rfl, wf3⟩ := DataW.trod_int Tryz.underlying3 f3
  obtain rfl : c3 = .int .i64 n3 := by simpa using e3
  obtain ⟨n4, e4, rfl, wf4⟩ := DataW.trod_int Tryz.underlying3 f4
  obtain rfl : c4 = .int .i64 n4 := by simpa using e4
  obtain ⟨v5, l5, e5, hs5, hl5, hx5⟩ := open_slW Tryz.underlying23 Tryz.underlying3 (by kernel_rfl) (show Tryz.prog.bytesOf 3 = 8 by kernel_rfl) f5 g5
  obtain rfl : c5 = v5 := by simpa using e5
  exact ⟨(n0, b1, l2, n3, n4, l5), _, _, rfl, hs2, hs5, hl2, hl5, wf_i64 wf0, fun z hz => wf_i64 (hx5 z hz)⟩
end Go.Proofs.YtbnllchicnmkiaaGreatDoor
end

section
set_option linter.unusedVariables false
set_option linter.unusedSimpArgs false
set_option maxRecDepth 100000
namespace Go.Proofs.YtbnllchicnmkiaaGreatDoor
open Go Go.RowKit Sg

theorem tab_of {r : List (String × DataW Unit)} {W : World} (hL : laidMet Tryz.prog (("internal/strconv.uint64pow10", Rows.laid_internal_strconv_uint64pow10) :: r) W) : Tab W :=
  Lib.tabIs_of_head (g := 5) (t := 175) (e := 161) (n := 20) (by kernel_rfl) (by kernel_rfl) Tryz.underlying175 Tryz.underlying161 (by kernel_rfl) (by kernel_rfl) hL

end Go.Proofs.YtbnllchicnmkiaaGreatDoor
end

section
set_option linter.unusedVariables false
set_option linter.unusedSimpArgs false
set_option maxRecDepth 100000
namespace Go.Proofs.YtbnllchicnmkiaaGreatDoor
open Go Go.RowKit Sg

theorem star : "*" ++ "errors.errorString" = "*errors.errorString" := by decide
theorem rowES (u : TypeId) (h : Tryz.prog.typeName? 3 u = some "*errors.errorString") : u = 179 :=
  typeName_ptr_named (nm := "errors.errorString") (by rw [star]; kernel_rfl) (by kernel_rfl) (by decide) u (by rw [star]; exact h)
theorem er_of {r : List (String × DataW Unit)} {W : World} (hL : laidMet Tryz.prog (("strconv.ErrRange", Rows.laid_strconv_ErrRange) :: r) W) : ER W := by
  obtain ⟨a1, s1, hv1, -, -, -⟩ := laid_sentinel hL (g := 4) (by kernel_rfl) (ti := 27) (by kernel_rfl) Tryz.underlying27 rowES Tryz.underlying179 Tryz.underlying181 rfl rfl Tryz.underlying9 (by kernel_rfl) (by kernel_rfl)
  unfold World.var? at hv1
  rw [show Tryz.prog.globalNamed "strconv.ErrRange" = some 4 by kernel_rfl] at hv1
  simp only [Option.bind_some] at hv1
  split at hv1
  · rename_i c T fr hc
    injection hv1 with hv1
    subst hv1
    exact ⟨_, _, T, fr, hc⟩
  · cases hv1

end Go.Proofs.YtbnllchicnmkiaaGreatDoor
end

section
set_option linter.unusedVariables false
set_option linter.unusedSimpArgs false
set_option linter.unnecessarySimpa false
namespace Go.Proofs.YtbnllchicnmkiaaGreatDoor.reportBack
open Go Go.ChangeShapes Go.WideShapes Go.ChangeAt Go.RowKit Sg
open Go.ChangeMaps (open_string shut_string)
theorem own : ownKnob Tryz.prog.godebug = none := by kernel_rfl
theorem laidOut : laidOutB Tryz.prog = true := by kernel_rfl
set_option maxRecDepth 100000 in
theorem lifted (os : Os) (started : os.Started) (H : Type) (enc : TypeId × Value → H) :
    ReturnsInHanded {} Tryz.checked os 5 .any (fun w args => (Rows.reportBackSpec.pre enc Tryz.prog Tryz.f5 [] false w args ∧ laidMetH Tryz.prog Rows.reportBackRow.laid w) ∧ sizedMet enc Tryz.prog Tryz.f5 (OpenSpec.ofChange Rows.reportBackSpec) false w args) (Rows.reportBackSpec.post enc Tryz.prog Tryz.f5 false true false false) := by
  refine returnsInHanded_of_change_and (C := Tryz.checked) (X := fun w _ => laidMetH Tryz.prog Rows.reportBackRow.laid w) (fun _ _ _ hh h => h.of_heap hh) own started (by kernel_rfl) Tryz.func5
    (ChangeSpec.witness_shaped (enc := enc) (C := Tryz.checked) (os := os) (X := fun w _ => laidMetH Tryz.prog Rows.reportBackRow.laid w) false (World.laidAll Tryz.prog os Rows.reportBackRow.laid) #[.agg #[.int .i64 0, .bool false, .slice none 0 0, .int .i64 0, .int .i64 0, .slice none 0 0]] 8 (World.laidAll_os _ _ _)
      (World.shaped_of_ZipB (by kernel_rfl) (by kernel_rfl)) (by kernel_rfl) (by kernel_rfl) (by kernel_rfl)
      (by rw [MakeChecks.laidMetH_plain _ _ _ (by kernel_rfl)]; exact laidMet_laidAll _ (by kernel_rfl) (by kernel_rfl))) ?_
  intro W base args ds gs before hval0 hW _ hsz0 hL _
  rw [MakeChecks.laidMetH_plain _ _ _ (by kernel_rfl)] at hL
  have hval : ∀ (j : Nat) t v, Tryz.f5.params[j]? = some t → args[j]? = some v → Value.okWide Tryz.prog W .any base t v := hval0
  have hsz : (DataW.weightsEach Tryz.prog (Tryz.f5.params.toList ++ Rows.reportBackSpec.plain.varTypes Tryz.prog) (ds ++ gs)).all (· ≤ reachBytes) = true := hsz0
  have hW' := hW
  obtain ⟨p, q, hA0, hV, rfl, hfz, hnd⟩ := hW
  have hA : DataW.TrodAll enc Tryz.prog W 0 (fun _ => true) true Tryz.f5.params.toList args.toList ds p := hA0
  rw [Tryz.params5] at hA hval hsz
  have hAk := hA
  obtain ⟨v0, vs0, d0, ds0, p0, q0, hargs, rfl, rfl, h0, r0⟩ := trodAll_cons hA
  obtain ⟨rfl, rfl, rfl⟩ := trodAll_nil r0
  obtain rfl : args = #[v0] := by cases args; simp_all
  obtain ⟨rfl, rfl⟩ := trodVars_none hV
  simp only [List.append_nil] at hW'
  obtain ⟨x0, rfl, _⟩ := okWide_struct Tryz.underlying25 (hval 0 25 v0 rfl rfl)
  obtain ⟨es0, y0, rfl, hr0⟩ := open_structArg opn_rep h0 (weightsEach_at hsz 0 25 d0 rfl rfl)
  clear hA0 hval0 hsz0
  have hER := er_of hL.tail.tail.tail
  have hb0 : 0 < W.heap.size := by obtain ⟨_, _, _, _, h⟩ := hER; have := lt_of_blk h; omega
  have hTab := tab_of hL.tail.tail
  have hwalk : Sg.Ret Tryz.prog 5 #[.agg es0.toArray] W (fun v w' => v = .bool true ∧ Ch0 W w') := back_ok y0 es0 W hr0 hER hTab
  refine Calls.mono hwalk fun e W' hh => ?_
  obtain ⟨vv, he, hvv, hch⟩ := hh
  subst hvv; subst he
  exact ⟨_, rfl, _, _, _, [], _, [], hW', trodAll_mk1 (shut_bool Tryz.underlying4 _), trodAll_carry laidOut (Ch.below hch) (by kernel_rfl) hAk (fun x hx => by simpa using hW'.lt x (by simpa using hx)), rfl, (Ch.below hch).frame _, fun h => by cases h⟩
theorem over : Rows.reportBackRow.holds Tryz.pinned (OpenSpec.ofChange Rows.reportBackSpec) :=
  OpenClaim.holds_of_wide 5 Tryz.f5 rfl rfl rfl rfl rfl rfl rfl ⟨rfl, rfl, rfl, rfl, rfl⟩ rfl rfl rfl rfl rfl (by kernel_rfl) Tryz.func5 (by kernel_rfl)
    (of_decide_eq_true (by kernel_rfl)) (by unfold Func.isWrapper; (rw [if_neg (by decide +kernel)]; exact ⟨rfl, rfl⟩))
    (fun os started H enc _ => lifted os started H enc)
end Go.Proofs.YtbnllchicnmkiaaGreatDoor.reportBack
namespace Go.Proofs.YtbnllchicnmkiaaGreatDoor
open Go

theorem reportBack_row : Rows.ReportBackSaid := reportBack.over
theorem reportBack_holds : Rows.ReportBackCardSaid :=
  Claim7.holds_tied_plain_at .later [] [.data, .data, .data, .sentinel, .sentinel] true (true, "c62378c1549f012f7399d41598f5cfd63a01a30e3b4717ad291dbed673ccf448") true
    reportBack_row (fun _ h => by cases h) (by kernel_rfl) (fun _ h => by cases h) reportBack_row_tie rfl ⟨rfl, rfl⟩ (by kernel_rfl) rfl
    (fun f fn hf hfn => by
      obtain rfl : f = 5 := Option.some.inj ((show Tryz.prog.funcNamed "assayer/assayerlaw21.ReportBack" = some 5 by kernel_rfl).symm.trans hf) |>.symm
      obtain rfl : fn = Tryz.f5 := (Option.some.inj (Tryz.func5.symm.trans hfn)).symm
      exact ⟨by kernel_rfl, fun j t ht => by
        rw [Tryz.params5] at ht
        have hm : t ∈ [25] := by
          have h1 := Array.mem_of_getElem? ht
          have h2 : t ∈ ([25] : List Nat) := by simpa using h1
          exact of_decide_eq_true (List.all_eq_true.1 (show (([25] : List Nat).all fun u => decide (u ∈ ([25] : List Nat))) = true by decide) t h2)
        have hall : ([25].all fun u => !Tryz.prog.wantsStandIn u) = true := by kernel_rfl
        exact (show Tryz.prog.wantsStandIn t = false by simpa using List.all_eq_true.1 hall t hm)⟩)
    (by kernel_rfl)
#print axioms reportBack_holds
end Go.Proofs.YtbnllchicnmkiaaGreatDoor
end
