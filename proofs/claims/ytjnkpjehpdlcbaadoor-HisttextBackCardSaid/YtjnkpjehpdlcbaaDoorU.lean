/-
  A part of the walk of the program.
-/
import Derived.Test.YtjnkpjehpdlcbaaDoorS
set_option linter.unusedVariables false
set_option linter.unusedSimpArgs false
set_option maxRecDepth 100000
namespace Go.Proofs.YtjnkpjehpdlcbaaDoor
open Go Go.RowKit Sg

def prT (l : List GEv) : Bs := if canB l = true then l.flatMap evT else []
theorem ev_ok {A : Nat → Prop} {w : World} {es : List Value} {e : GEv} (h : REv A w es e) (hb : evB e = true) : okE e := by
  obtain ⟨h1, h2⟩ := evB_all hb
  obtain ⟨v, _, hs, _⟩ := h
  obtain ⟨va, vc, rfl⟩ := hs.len
  refine ⟨h1.2.2.1, h1.2.2.2.1, h1.2.2.2.2.2, fun x hx => ?_⟩
  obtain ⟨i, hi, rfl⟩ := List.mem_iff_getElem.1 hx
  obtain ⟨_, _, _, _, _, es2, _, _, _, _, hr2⟩ := hs.at (k := i) hi
  exact may_ok hr2 (h2 _ (List.getElem_mem hi))
theorem hist_ok {A : Nat → Prop} {w : World} {a : Option Addr} {c : Nat} {l : List GEv} (h : RSl 3 REv A w (.slice a l.length c) l) (hc : canB l = true) : l.length ≤ 300 ∧ ∀ e ∈ l, okE e := by
  obtain ⟨h1, h2⟩ := canB_all hc
  refine ⟨h1, fun e he => ?_⟩
  obtain ⟨i, hi, rfl⟩ := List.mem_iff_getElem.1 he
  obtain ⟨_, _, _, _, _, es2, _, _, _, _, hr2⟩ := h.at (k := i) hi
  exact ev_ok hr2 (h2 _ (List.getElem_mem hi))
set_option maxHeartbeats 3200000 in
theorem rprint_walk (A : Nat → Prop) (a : Option Addr) (c : Nat) (l : List GEv) (w : World) (h : RSl 3 REv A w (.slice a l.length c) l) (hl : l.length ≤ 140737488355328) :
    Sg.Ret Tryd.prog 11 #[.slice a l.length c] w fun v w' => v = .string (bs (prT l)) ∧ Ch0 w w' := by
  refine enter1 (n := 45) (l := [.slice a l.length c]) Tryd.func11 rfl rfl rfl rfl ?_
  refine W.g1 0 (v1 := .slice a l.length c) rfl ?_; intro σ s0
  refine W.seq ?_
  refine W.region ?_
  refine WL.x (X.asg lc) rfl ?_
  refine WL.e1 Nx.thn 0 (lt rfl (s0)) ?_
  intro σ1 s0
  refine W.seq ?_
  refine W.seq ?_
  refine W.region ?_
  refine WL.x (X.mv (s0)) rfl ?_
  refine WL.call1 ce9 (lh) (rcan_ok A _ l w h hl) rfl ?_
  rintro _ w1 ⟨rfl, c0⟩
  refine WL.x (X.not (lh)) rfl ?_
  refine WL.e2 Nx.thn 0 10 (jt2 rfl (lt rfl (s0))) (lh) ?_
  intro σ2 s0 s10
  refine W.cnd s10 (fun hc0 => ?_) (fun hc0 => ?_)
  · refine W.seq ?_
    refine W.region ?_
    refine WL.x (X.asg lc) rfl ?_
    refine WL.e1 Nx.thn 2 (lh) ?_
    intro σ3 s2
    refine W.ret1 (Nx.rthn Nx.f1) s2 ?_
    first | exact ⟨by unfold prT; rw [if_neg (by simpa using hc0)]; rfl, c0⟩ | exact ⟨by unfold prT; rw [if_pos hcan]; exact fin_str (by rw [hSe, sb_bs, show k = l.length by omega, List.take_length]), hcl⟩
  · have hcan : canB l = true := by simpa using hc0
    obtain ⟨hln, hev⟩ := hist_ok h hcan
    obtain ⟨-, hev2⟩ := canB_all hcan
    refine W.skip Nx.thn ?_
    refine W.seq ?_
    refine W.region ?_
    refine WL.x (X.asg lc) rfl ?_
    refine WL.e2 Nx.thn 0 3 (lt rfl (s0)) (lh) ?_
    intro σ4 s0 s3
    refine W.seq ?_
    refine W.seq ?_
    refine W.region ?_
    refine WL.x (X.mv (s0)) rfl ?_
    refine WL.x (X.lenSl Tryd.underlying22 (lh)) rfl ?_
    refine WL.x (X.mv lc) rfl ?_
    refine WL.e4 Nx.thn 3 11 12 13 (jt2 rfl (lt rfl (s3))) (jt2 rfl (lh)) (lt rfl (lh)) (lh) ?_
    intro σ5 s3 s11 s12 s13
    refine W.block ?_
    have qo1 := s11
    have qo2 := s12
    -- loop 0: kept [11, 12], varied [3, 13]
    refine W.loop (G := Nat) (fun k σ' w' => (σ' 11 = σ5 11 ∧ σ' 12 = σ5 12 ∧ True) ∧ (∃ S, σ' 3 = .string S ∧ σ' 13 = .int .i64 (k : Int) ∧ sb S = (l.take k).flatMap evT ∧ k ≤ l.length ∧ Ch0 w w')) (fun k => l.length - k) (0) ⟨⟨rfl, rfl, trivial⟩, _, s3, s13, (by simp [sb_mk]), by omega, c0⟩ ?_
    rintro k σ6 w2 ⟨⟨f11, f12, _⟩, S, s3, s13, hSe, hk, hcl⟩
    have s11 := f11.trans qo1
    have s12 := f12.trans qo2
    refine W.seq ?_
    refine W.region ?_
    refine WL.x (X.lss (s13) (s12)) rfl ?_
    refine WL.e5 Nx.thn 3 11 12 13 14 (lt rfl (s3)) (lt rfl (s11)) (lt rfl (s12)) (lt rfl (s13)) (lh) ?_
    intro σ7 s3 s11 s12 s13 s14
    refine W.seq ?_
    refine W.cndp s14 (fun hlt => ?_) (fun hlt => ?_)
    · obtain ⟨b1, o1, cs1, T1, fr1, es1, rfl, hml1, hes1, hgl1, v1, rfl, hs1, hb1⟩ := (h.ch0 monEv hcl).at (k := k) (by omega)
      obtain ⟨va1, vc1, rfl⟩ := hs1.len
      have hkl : k < l.length := by omega
      have hoe := hev l[k] (List.getElem_mem hkl)
      obtain ⟨hek, hmo⟩ := evB_all (hev2 l[k] (List.getElem_mem hkl))
      have hit := Lib.itoa_length_le l[k].2.1 (by omega) (by omega)
      have hwe := wordE_len l[k].1
      have hhd := hdT_len hoe
      have hSz := sb_len S
      rw [hSe] at hSz
      have hpl := prT_len hln hev k
      refine W.skip Nx.thn ?_
      refine W.seq ?_
      refine W.block ?_
      refine W.seq ?_
      refine W.region ?_
      refine WL.x (X.indexAddr Tryd.underlying22 el44 (s11) (s13) (by omega) (by omega)) rfl ?_
      refine WL.x (X.loadS ag44 (lh) hml1 hes1 hgl1) rfl ?_
      refine WL.alloc el44 rfl ?_
      intro w3 u6_2; have hu6_2 := u6_2.at_; have cu6_2 := u6_2.ch; have zu6_2 := u6_2.size
      refine WL.storeS ag44 (lh) (lt rfl (lh)) rfl hes1 hu6_2 (by decide) ?_
      intro w4 us; have hu6_3 := us.at_; have cu6_3 := us.ch
      rw [show (Value.agg #[.int .i64 0, .int .i64 0, .slice none 0 0]).cells = (#[.int .i64 0, .int .i64 0, .slice none 0 0] : Array Value) from rfl, blit_all (by rfl)] at hu6_3
      have hclz := hcl.size
      have hc6 := cu6_2.trans cu6_3 (H := fun _ => False) (fun _ _ e => e) (fun q hq e => by (try dsimp only at e); omega)
      refine WL.e5 Nx.thn 3 5 11 12 13 (jt2 rfl (lt rfl (s3))) (lh) (jt2 rfl (lt rfl (s11))) (jt2 rfl (lt rfl (s12))) (jt2 rfl (lt rfl (s13))) ?_
      intro σ8 s3 s5 s11 s12 s13
      refine W.seq ?_
      refine W.held (fun w' => Ch (fun _ => False) w4 w') mo ?_
      intro w5 qhh3 qc4
      have hS : Ch (fun _ => False) w4 w5 := Ch.weak qc4
      have hzqc4 := qc4.size
      have cdh7 := qc4
      refine WH.take 0 rfl (by kernel_rfl) (by kernel_rfl) (by kernel_rfl) (fun _ _ _ h => h) Gd.none rfl (fun w' hS' => X.mv (s3)) hS ?_
      refine WH.take 2 rfl (by kernel_rfl) (by kernel_rfl) (by kernel_rfl) (fun _ _ _ h => h) Gd.none rfl (fun w' hS' => X.fieldAddr fd44_0 (lt rfl (s5))) hS ?_
      refine WH.take 3 rfl (by kernel_rfl) (by kernel_rfl) (by kernel_rfl) (fun _ _ _ h => h) Gd.none rfl (fun w' hS' => X.load pl3 (lh) (by first | assumption | exact hS'.at (by assumption) (by intro hne; first | exact hne | ((try dsimp only at hne); omega)) | exact hS'.at (cu6_3.at (by assumption) (by intro hne; first | exact hne | ((try dsimp only at hne); omega))) (by intro hne; first | exact hne | ((try dsimp only at hne); omega))) (by first | rfl | assumption)) hS ?_
      refine WH.take 6 rfl (by kernel_rfl) (by kernel_rfl) (by kernel_rfl) (fun _ _ _ h => h) Gd.none rfl (fun w' hS' => X.fieldAddr fd44_1 (jt2 rfl (lt rfl (s5)))) hS ?_
      refine WH.take 7 rfl (by kernel_rfl) (by kernel_rfl) (by kernel_rfl) (fun _ _ _ h => h) Gd.none rfl (fun w' hS' => X.load pl3 (lh) (by first | assumption | exact hS'.at (by assumption) (by intro hne; first | exact hne | ((try dsimp only at hne); omega)) | exact hS'.at (cu6_3.at (by assumption) (by intro hne; first | exact hne | ((try dsimp only at hne); omega))) (by intro hne; first | exact hne | ((try dsimp only at hne); omega))) (by first | rfl | assumption)) hS ?_
      refine WH.two 1 8 rfl rfl (by kernel_rfl) (fun _ _ h => h) ?_ ?_
      · refine WL.bslice Tryd.underlying36 el9 rfl (pcons lc (pcons lc (pcons lc (pcons lc (pcons lc pnil))))) rfl (rfl : _ = [_, _, _, _, _]) rfl ?_
        intro w6 u7_1; have hu7_1 := u7_1.at_; have cu7_1 := u7_1.ch; have zu7_1 := u7_1.size
        have hS := hS.trans cu7_1 (fun _ _ => id) (by intro i hi hg; first | exact hg | exact False.elim hg | omega | ((try dsimp only at hg ⊢); omega))
        refine WL.nil Nx.thn ⟨hS, ?_⟩
        refine WH.take 4 rfl (by kernel_rfl) (by kernel_rfl) (by kernel_rfl) (fun _ _ _ h => h) Gd.none rfl (fun w' hS' => X.indexAddr Tryd.underlying36 el9 (lh) (jt2 rfl (lt rfl (lh))) (by omega) (by omega)) hS ?_
        refine WH.two 5 8 rfl rfl (by kernel_rfl) (fun _ _ h => h) ?_ ?_
        · refine WL.x (X.load pl9 (lh) (by first | exact hu7_1 | exact cD.at0 hu7_1) (v := .string (bs (wordE l[k].1 ++ [32]))) (ewb hek.1 hek.2.1)) rfl ?_
          refine WL.nil Nx.thn ⟨hS, ?_⟩
          refine WH.one 8 rfl (by kernel_rfl) (fun _ _ h => h) ?_
          refine WL.call1 ce31 (jt2 rfl (lt rfl (lh))) (decimal_ok l[k].2.1 w6 (by omega) (by omega)) rfl ?_
          rintro _ w7 ⟨rfl, cD⟩
          have hS := hS.trans cD (fun _ _ => id) (by intro i hi hg; first | exact hg | exact False.elim hg | omega | ((try dsimp only at hg ⊢); omega))
          refine WL.nil Nx.thn ⟨hS, ?_⟩
          refine WH.take 9 rfl (by kernel_rfl) (by kernel_rfl) (by kernel_rfl) (fun _ _ _ h => h) Gd.none rfl (fun w' hS' => X.addS (lt rfl (lh)) (lh) (by simp only [ByteArray.size_append, szl, size_bs, List.size_toArray, List.length_cons, List.length_nil, List.length_append]; omega)) hS ?_
          refine WH.take 10 rfl (by kernel_rfl) (by kernel_rfl) (by kernel_rfl) (fun _ _ _ h => h) Gd.none rfl (fun w' hS' => X.addS (jt8 rfl (lt rfl (lh))) (lh) (by simp only [ByteArray.size_append, szl, size_bs, List.size_toArray, List.length_cons, List.length_nil, List.length_append]; omega)) hS ?_
          refine WH.take 11 rfl (by kernel_rfl) (by kernel_rfl) (by kernel_rfl) (fun _ _ _ h => h) Gd.none rfl (fun w' hS' => X.asg (lh)) hS ?_
          refine WH.done (by kernel_rfl) ?_
          refine WL.e5 Nx.thn 3 5 11 12 13 (lh) (jt8 rfl (jt4 rfl (s5))) (jt8 rfl (jt4 rfl (s11))) (jt8 rfl (jt4 rfl (s12))) (jt8 rfl (jt4 rfl (s13))) ?_
          intro σ9 s3 s5 s11 s12 s13
          refine W.seq ?_
          refine W.seq ?_
          refine W.region ?_
          refine WL.x (X.fieldAddr fd44_2 (s5)) rfl ?_
          refine WL.x (v := .slice va1 l[k].2.2.length vc1) (X.load pl42 (lh) (by first | assumption | exact hS.at (by assumption) (by intro hne; first | exact hne | ((try dsimp only at hne); omega)) | exact hS.at (cu6_3.at (by assumption) (by intro hne; first | exact hne | ((try dsimp only at hne); omega))) (by intro hne; first | exact hne | ((try dsimp only at hne); omega))) rfl) rfl ?_
          refine WL.x (X.lenSl Tryd.underlying42 (lh)) rfl ?_
          refine WL.x (X.mv lc) rfl ?_
          refine WL.e7 Nx.thn 3 11 12 13 29 30 31 (jt4 rfl (s3)) (jt4 rfl (s11)) (jt4 rfl (s12)) (jt4 rfl (s13)) (jt2 rfl (lh)) (lt rfl (lh)) (lh) ?_
          intro σ10 s3 s11 s12 s13 s29 s30 s31
          refine W.block ?_
          have qo5 := s11
          have qo6 := s12
          have qo7 := s13
          have qo8 := s29
          have qo9 := s30
          -- loop 1: kept [11, 12, 13, 29, 30], varied [3, 31]
          refine W.loop (G := Nat) (fun q σ' w' => (σ' 11 = σ10 11 ∧ σ' 12 = σ10 12 ∧ σ' 13 = σ10 13 ∧ σ' 29 = σ10 29 ∧ σ' 30 = σ10 30 ∧ True) ∧ (∃ S2, σ' 3 = .string S2 ∧ σ' 31 = .int .i64 (q : Int) ∧ sb S2 = ((l.take k).flatMap evT ++ hdT l[k]) ++ (l[k].2.2.take q).flatMap opT ∧ q ≤ l[k].2.2.length ∧ Ch0 w7 w')) (fun q => l[k].2.2.length - q) (0) ⟨⟨rfl, rfl, rfl, rfl, rfl, trivial⟩, _, s3, s31, (by simp [sb_app, sb_bs, hSe, hdT]), by omega, Ch.refl _ _⟩ ?_
          rintro q σ11 w8 ⟨⟨f11, f12, f13, f29, f30, _⟩, S2, s3, s31, hS2e, hqk, hcl2⟩
          have s11 := f11.trans qo5
          have s12 := f12.trans qo6
          have s13 := f13.trans qo7
          have s29 := f29.trans qo8
          have s30 := f30.trans qo9
          refine W.seq ?_
          refine W.region ?_
          refine WL.x (X.lss (s31) (s30)) rfl ?_
          refine WL.e8 Nx.thn 3 11 12 13 29 30 31 32 (lt rfl (s3)) (lt rfl (s11)) (lt rfl (s12)) (lt rfl (s13)) (lt rfl (s29)) (lt rfl (s30)) (lt rfl (s31)) (lh) ?_
          intro σ12 s3 s11 s12 s13 s29 s30 s31 s32
          refine W.seq ?_
          refine W.cndp s32 (fun hq => ?_) (fun hq => ?_)
          · obtain ⟨b2, o2, cs2, T2, fr2, es2, rfl, hml2, hes2, hgl2, hr2⟩ := (hs1.ch0 monOp ((hc6.trans0 hS).trans0 hcl2)).at (k := q) (by omega)
            have hone2 : es2.all (·.oneCell') = true := ROp_one hr2
            have hbl2 : blit (#[.int .i64 0, .string ⟨#[]⟩, .int .i64 0, .slice none 0 0, .bool false, .bool false] : Array Value) 0 es2 = es2.toArray := blit_all hes2
            have hql : q < l[k].2.2.length := by omega
            have hxo := hoe.2.2.2 _ (List.getElem_mem hql)
            have hxl := opT_len hxo
            rw [opT_eq, List.length_cons] at hxl
            have hS2z := sb_len S2
            rw [hS2e] at hS2z
            simp only [List.length_append] at hS2z
            have hopl := ops_len hoe q
            refine W.skip Nx.thn ?_
            refine W.seq ?_
            refine W.block ?_
            refine W.seq ?_
            refine W.region ?_
            refine WL.x (X.indexAddr Tryd.underlying42 el48 (s29) (s31) (by omega) (by omega)) rfl ?_
            refine WL.x (X.loadS ag48 (lh) hml2 hes2 hgl2) rfl ?_
            refine WL.alloc el48 rfl ?_
            intro w9 u10_2; have hu10_2 := u10_2.at_; have cu10_2 := u10_2.ch; have zu10_2 := u10_2.size
            refine WL.storeS ag48 (lh) (lt rfl (lh)) hone2 hes2 hu10_2 (by decide) ?_
            intro w10 us; have hu10_3 := us.at_; have cu10_3 := us.ch
            rw [show (Value.agg #[.int .i64 0, .string ⟨#[]⟩, .int .i64 0, .slice none 0 0, .bool false, .bool false]).cells = (#[.int .i64 0, .string ⟨#[]⟩, .int .i64 0, .slice none 0 0, .bool false, .bool false] : Array Value) from rfl, hbl2] at hu10_3
            have hc10 := cu10_2.trans cu10_3 (H := fun _ => False) (fun _ _ e => e) (fun q hq e => by (try dsimp only at e); omega)
            refine WL.e8 Nx.thn 3 7 11 12 13 29 30 31 (jt2 rfl (lt rfl (s3))) (lh) (jt2 rfl (lt rfl (s11))) (jt2 rfl (lt rfl (s12))) (jt2 rfl (lt rfl (s13))) (jt2 rfl (lt rfl (s29))) (jt2 rfl (lt rfl (s30))) (jt2 rfl (lt rfl (s31))) ?_
            intro σ13 s3 s7 s11 s12 s13 s29 s30 s31
            refine W.region ?_
            refine WL.x (X.mv (s3)) rfl ?_
            refine WL.x (X.loadBox ag48 (lt rfl (s7)) hu10_3 hes2) rfl ?_
            refine WL.call1 ce32 (lh) (rop_ok A (l[k].2.2[q]'hql) es2 w10 (monOp _ _ _ _ _ _ _ hc10 (fun _ _ => id) (fun _ => id) hr2) (hmo _ (List.getElem_mem hql))) rfl ?_
            rintro _ w11 ⟨rfl, cO⟩
            refine WL.x (X.addS lc (lh) (by simp only [ByteArray.size_append, szl, size_bs, List.size_toArray, List.length_cons, List.length_nil, List.length_append]; omega)) rfl ?_
            refine WL.x (X.addS (jt2 rfl (lt rfl (lh))) (lh) (by simp only [ByteArray.size_append, szl, size_bs, List.size_toArray, List.length_cons, List.length_nil, List.length_append]; omega)) rfl ?_
            refine WL.x (X.asg (lh)) rfl ?_
            refine WL.e7 (Nx.blk Nx.thn) 3 11 12 13 29 30 31 (lh) (jt4 rfl (jt2 rfl (s11))) (jt4 rfl (jt2 rfl (s12))) (jt4 rfl (jt2 rfl (s13))) (jt4 rfl (jt2 rfl (s29))) (jt4 rfl (jt2 rfl (s30))) (jt4 rfl (jt2 rfl (s31))) ?_
            intro σ14 s3 s11 s12 s13 s29 s30 s31
            refine W.region ?_
            first | refine WL.x (X.add (s31) lc (by omega) (by omega)) rfl ?_ | refine WL.x (X.addw (s31) lc) rfl ?_
            refine WL.x (X.mv (lh)) rfl ?_
            refine WL.e7 Nx.thn 3 11 12 13 29 30 31 (jt2 rfl (s3)) (jt2 rfl (s11)) (jt2 rfl (s12)) (jt2 rfl (s13)) (jt2 rfl (s29)) (jt2 rfl (s30)) (lh) ?_
            intro σ15 s3 s11 s12 s13 s29 s30 s31
            refine ⟨q + 1, by omega, ⟨s11.trans qo5.symm, s12.trans qo6.symm, s13.trans qo7.symm, s29.trans qo8.symm, s30.trans qo9.symm, trivial⟩, _, s3, s31, (by rw [fm_take hql, sb_app, sb_app, hS2e, sb_bs, sb_mk, opT_eq]; simp only [List.append_assoc]; rfl), by omega, (hcl2.trans0 hc10).trans0 cO⟩
          · have hS2z := sb_len S2
            rw [hS2e] at hS2z
            simp only [List.length_append] at hS2z
            have hopl := ops_len hoe q
            refine W.exit (Nx.xthn (Nx.xthn (Nx.xblk Nx.thn))) ?_
            refine W.region ?_
            refine WL.x (X.mv (s3)) rfl ?_
            refine WL.x (X.addS (lh) lc (by simp only [ByteArray.size_append, szl, size_bs, List.size_toArray, List.length_cons, List.length_nil, List.length_append]; omega)) rfl ?_
            refine WL.x (X.asg (lh)) rfl ?_
            refine WL.e4 (Nx.blk Nx.thn) 3 11 12 13 (lh) (jt2 rfl (lt rfl (s11))) (jt2 rfl (lt rfl (s12))) (jt2 rfl (lt rfl (s13))) ?_
            intro σ16 s3 s11 s12 s13
            refine W.region ?_
            first | refine WL.x (X.add (s13) lc (by omega) (by omega)) rfl ?_ | refine WL.x (X.addw (s13) lc) rfl ?_
            refine WL.x (X.mv (lh)) rfl ?_
            refine WL.e4 Nx.thn 3 11 12 13 (jt2 rfl (s3)) (jt2 rfl (s11)) (jt2 rfl (s12)) (lh) ?_
            intro σ17 s3 s11 s12 s13
            refine ⟨k + 1, by omega, ⟨s11.trans qo1.symm, s12.trans qo2.symm, trivial⟩, _, s3, s13, (by rw [fm_take hkl, sb_app, hS2e, sb_mk, show q = l[k].2.2.length by omega, List.take_length]; unfold evT; simp only [List.append_assoc]), by omega, ((hcl.trans0 hc6).trans0 hS).trans0 hcl2⟩
        · refine WL.call1 ce31 (jt2 rfl (lh)) (decimal_ok l[k].2.1 w6 (by omega) (by omega)) rfl ?_
          rintro _ w12 ⟨rfl, cD⟩
          have hS := hS.trans cD (fun _ _ => id) (by intro i hi hg; first | exact hg | exact False.elim hg | omega | ((try dsimp only at hg ⊢); omega))
          refine WL.nil Nx.thn ⟨hS, ?_⟩
          refine WH.one 5 rfl (by kernel_rfl) (fun _ _ h => h) ?_
          refine WL.x (X.load pl9 (lt rfl (lh)) (by first | exact hu7_1 | exact cD.at0 hu7_1) (v := .string (bs (wordE l[k].1 ++ [32]))) (ewb hek.1 hek.2.1)) rfl ?_
          refine WL.nil Nx.thn ⟨hS, ?_⟩
          refine WH.take 9 rfl (by kernel_rfl) (by kernel_rfl) (by kernel_rfl) (fun _ _ _ h => h) Gd.none rfl (fun w' hS' => X.addS (lh) (lt rfl (lh)) (by simp only [ByteArray.size_append, szl, size_bs, List.size_toArray, List.length_cons, List.length_nil, List.length_append]; omega)) hS ?_
          refine WH.take 10 rfl (by kernel_rfl) (by kernel_rfl) (by kernel_rfl) (fun _ _ _ h => h) Gd.none rfl (fun w' hS' => X.addS (jt8 rfl (lt rfl (lh))) (lh) (by simp only [ByteArray.size_append, szl, size_bs, List.size_toArray, List.length_cons, List.length_nil, List.length_append]; omega)) hS ?_
          refine WH.take 11 rfl (by kernel_rfl) (by kernel_rfl) (by kernel_rfl) (fun _ _ _ h => h) Gd.none rfl (fun w' hS' => X.asg (lh)) hS ?_
          refine WH.done (by kernel_rfl) ?_
          refine WL.e5 Nx.thn 3 5 11 12 13 (lh) (jt8 rfl (jt4 rfl (s5))) (jt8 rfl (jt4 rfl (s11))) (jt8 rfl (jt4 rfl (s12))) (jt8 rfl (jt4 rfl (s13))) ?_
          intro σ18 s3 s5 s11 s12 s13
          refine W.seq ?_
          refine W.seq ?_
          refine W.region ?_
          refine WL.x (X.fieldAddr fd44_2 (s5)) rfl ?_
          refine WL.x (v := .slice va1 l[k].2.2.length vc1) (X.load pl42 (lh) (by first | assumption | exact hS.at (by assumption) (by intro hne; first | exact hne | ((try dsimp only at hne); omega)) | exact hS.at (cu6_3.at (by assumption) (by intro hne; first | exact hne | ((try dsimp only at hne); omega))) (by intro hne; first | exact hne | ((try dsimp only at hne); omega))) rfl) rfl ?_
          refine WL.x (X.lenSl Tryd.underlying42 (lh)) rfl ?_
          refine WL.x (X.mv lc) rfl ?_
          refine WL.e7 Nx.thn 3 11 12 13 29 30 31 (jt4 rfl (s3)) (jt4 rfl (s11)) (jt4 rfl (s12)) (jt4 rfl (s13)) (jt2 rfl (lh)) (lt rfl (lh)) (lh) ?_
          intro σ19 s3 s11 s12 s13 s29 s30 s31
          refine W.block ?_
          have qo10 := s11
          have qo11 := s12
          have qo12 := s13
          have qo13 := s29
          have qo14 := s30
          -- loop 1: kept [11, 12, 13, 29, 30], varied [3, 31]
          refine W.loop (G := Nat) (fun q σ' w' => (σ' 11 = σ19 11 ∧ σ' 12 = σ19 12 ∧ σ' 13 = σ19 13 ∧ σ' 29 = σ19 29 ∧ σ' 30 = σ19 30 ∧ True) ∧ (∃ S2, σ' 3 = .string S2 ∧ σ' 31 = .int .i64 (q : Int) ∧ sb S2 = ((l.take k).flatMap evT ++ hdT l[k]) ++ (l[k].2.2.take q).flatMap opT ∧ q ≤ l[k].2.2.length ∧ Ch0 w12 w')) (fun q => l[k].2.2.length - q) (0) ⟨⟨rfl, rfl, rfl, rfl, rfl, trivial⟩, _, s3, s31, (by simp [sb_app, sb_bs, hSe, hdT]), by omega, Ch.refl _ _⟩ ?_
          rintro q σ20 w13 ⟨⟨f11, f12, f13, f29, f30, _⟩, S2, s3, s31, hS2e, hqk, hcl2⟩
          have s11 := f11.trans qo10
          have s12 := f12.trans qo11
          have s13 := f13.trans qo12
          have s29 := f29.trans qo13
          have s30 := f30.trans qo14
          refine W.seq ?_
          refine W.region ?_
          refine WL.x (X.lss (s31) (s30)) rfl ?_
          refine WL.e8 Nx.thn 3 11 12 13 29 30 31 32 (lt rfl (s3)) (lt rfl (s11)) (lt rfl (s12)) (lt rfl (s13)) (lt rfl (s29)) (lt rfl (s30)) (lt rfl (s31)) (lh) ?_
          intro σ21 s3 s11 s12 s13 s29 s30 s31 s32
          refine W.seq ?_
          refine W.cndp s32 (fun hq => ?_) (fun hq => ?_)
          · obtain ⟨b2, o2, cs2, T2, fr2, es2, rfl, hml2, hes2, hgl2, hr2⟩ := (hs1.ch0 monOp ((hc6.trans0 hS).trans0 hcl2)).at (k := q) (by omega)
            have hone2 : es2.all (·.oneCell') = true := ROp_one hr2
            have hbl2 : blit (#[.int .i64 0, .string ⟨#[]⟩, .int .i64 0, .slice none 0 0, .bool false, .bool false] : Array Value) 0 es2 = es2.toArray := blit_all hes2
            have hql : q < l[k].2.2.length := by omega
            have hxo := hoe.2.2.2 _ (List.getElem_mem hql)
            have hxl := opT_len hxo
            rw [opT_eq, List.length_cons] at hxl
            have hS2z := sb_len S2
            rw [hS2e] at hS2z
            simp only [List.length_append] at hS2z
            have hopl := ops_len hoe q
            refine W.skip Nx.thn ?_
            refine W.seq ?_
            refine W.block ?_
            refine W.seq ?_
            refine W.region ?_
            refine WL.x (X.indexAddr Tryd.underlying42 el48 (s29) (s31) (by omega) (by omega)) rfl ?_
            refine WL.x (X.loadS ag48 (lh) hml2 hes2 hgl2) rfl ?_
            refine WL.alloc el48 rfl ?_
            intro w14 u10_2; have hu10_2 := u10_2.at_; have cu10_2 := u10_2.ch; have zu10_2 := u10_2.size
            refine WL.storeS ag48 (lh) (lt rfl (lh)) hone2 hes2 hu10_2 (by decide) ?_
            intro w15 us; have hu10_3 := us.at_; have cu10_3 := us.ch
            rw [show (Value.agg #[.int .i64 0, .string ⟨#[]⟩, .int .i64 0, .slice none 0 0, .bool false, .bool false]).cells = (#[.int .i64 0, .string ⟨#[]⟩, .int .i64 0, .slice none 0 0, .bool false, .bool false] : Array Value) from rfl, hbl2] at hu10_3
            have hc10 := cu10_2.trans cu10_3 (H := fun _ => False) (fun _ _ e => e) (fun q hq e => by (try dsimp only at e); omega)
            refine WL.e8 Nx.thn 3 7 11 12 13 29 30 31 (jt2 rfl (lt rfl (s3))) (lh) (jt2 rfl (lt rfl (s11))) (jt2 rfl (lt rfl (s12))) (jt2 rfl (lt rfl (s13))) (jt2 rfl (lt rfl (s29))) (jt2 rfl (lt rfl (s30))) (jt2 rfl (lt rfl (s31))) ?_
            intro σ22 s3 s7 s11 s12 s13 s29 s30 s31
            refine W.region ?_
            refine WL.x (X.mv (s3)) rfl ?_
            refine WL.x (X.loadBox ag48 (lt rfl (s7)) hu10_3 hes2) rfl ?_
            refine WL.call1 ce32 (lh) (rop_ok A (l[k].2.2[q]'hql) es2 w15 (monOp _ _ _ _ _ _ _ hc10 (fun _ _ => id) (fun _ => id) hr2) (hmo _ (List.getElem_mem hql))) rfl ?_
            rintro _ w16 ⟨rfl, cO⟩
            refine WL.x (X.addS lc (lh) (by simp only [ByteArray.size_append, szl, size_bs, List.size_toArray, List.length_cons, List.length_nil, List.length_append]; omega)) rfl ?_
            refine WL.x (X.addS (jt2 rfl (lt rfl (lh))) (lh) (by simp only [ByteArray.size_append, szl, size_bs, List.size_toArray, List.length_cons, List.length_nil, List.length_append]; omega)) rfl ?_
            refine WL.x (X.asg (lh)) rfl ?_
            refine WL.e7 (Nx.blk Nx.thn) 3 11 12 13 29 30 31 (lh) (jt4 rfl (jt2 rfl (s11))) (jt4 rfl (jt2 rfl (s12))) (jt4 rfl (jt2 rfl (s13))) (jt4 rfl (jt2 rfl (s29))) (jt4 rfl (jt2 rfl (s30))) (jt4 rfl (jt2 rfl (s31))) ?_
            intro σ23 s3 s11 s12 s13 s29 s30 s31
            refine W.region ?_
            first | refine WL.x (X.add (s31) lc (by omega) (by omega)) rfl ?_ | refine WL.x (X.addw (s31) lc) rfl ?_
            refine WL.x (X.mv (lh)) rfl ?_
            refine WL.e7 Nx.thn 3 11 12 13 29 30 31 (jt2 rfl (s3)) (jt2 rfl (s11)) (jt2 rfl (s12)) (jt2 rfl (s13)) (jt2 rfl (s29)) (jt2 rfl (s30)) (lh) ?_
            intro σ24 s3 s11 s12 s13 s29 s30 s31
            refine ⟨q + 1, by omega, ⟨s11.trans qo10.symm, s12.trans qo11.symm, s13.trans qo12.symm, s29.trans qo13.symm, s30.trans qo14.symm, trivial⟩, _, s3, s31, (by rw [fm_take hql, sb_app, sb_app, hS2e, sb_bs, sb_mk, opT_eq]; simp only [List.append_assoc]; rfl), by omega, (hcl2.trans0 hc10).trans0 cO⟩
          · have hS2z := sb_len S2
            rw [hS2e] at hS2z
            simp only [List.length_append] at hS2z
            have hopl := ops_len hoe q
            refine W.exit (Nx.xthn (Nx.xthn (Nx.xblk Nx.thn))) ?_
            refine W.region ?_
            refine WL.x (X.mv (s3)) rfl ?_
            refine WL.x (X.addS (lh) lc (by simp only [ByteArray.size_append, szl, size_bs, List.size_toArray, List.length_cons, List.length_nil, List.length_append]; omega)) rfl ?_
            refine WL.x (X.asg (lh)) rfl ?_
            refine WL.e4 (Nx.blk Nx.thn) 3 11 12 13 (lh) (jt2 rfl (lt rfl (s11))) (jt2 rfl (lt rfl (s12))) (jt2 rfl (lt rfl (s13))) ?_
            intro σ25 s3 s11 s12 s13
            refine W.region ?_
            first | refine WL.x (X.add (s13) lc (by omega) (by omega)) rfl ?_ | refine WL.x (X.addw (s13) lc) rfl ?_
            refine WL.x (X.mv (lh)) rfl ?_
            refine WL.e4 Nx.thn 3 11 12 13 (jt2 rfl (s3)) (jt2 rfl (s11)) (jt2 rfl (s12)) (lh) ?_
            intro σ26 s3 s11 s12 s13
            refine ⟨k + 1, by omega, ⟨s11.trans qo1.symm, s12.trans qo2.symm, trivial⟩, _, s3, s13, (by rw [fm_take hkl, sb_app, hS2e, sb_mk, show q = l[k].2.2.length by omega, List.take_length]; unfold evT; simp only [List.append_assoc]), by omega, ((hcl.trans0 hc6).trans0 hS).trans0 hcl2⟩
      · refine WL.call1 ce31 (lh) (decimal_ok l[k].2.1 w5 (by omega) (by omega)) rfl ?_
        rintro _ w17 ⟨rfl, cD⟩
        have hS := hS.trans cD (fun _ _ => id) (by intro i hi hg; first | exact hg | exact False.elim hg | omega | ((try dsimp only at hg ⊢); omega))
        refine WL.nil Nx.thn ⟨hS, ?_⟩
        refine WH.one 1 rfl (by kernel_rfl) (fun _ _ h => h) ?_
        refine WL.bslice Tryd.underlying36 el9 rfl (pcons lc (pcons lc (pcons lc (pcons lc (pcons lc pnil))))) rfl (rfl : _ = [_, _, _, _, _]) rfl ?_
        intro w18 u7_1; have hu7_1 := u7_1.at_; have cu7_1 := u7_1.ch; have zu7_1 := u7_1.size
        have hS := hS.trans cu7_1 (fun _ _ => id) (by intro i hi hg; first | exact hg | exact False.elim hg | omega | ((try dsimp only at hg ⊢); omega))
        refine WL.nil Nx.thn ⟨hS, ?_⟩
        refine WH.take 4 rfl (by kernel_rfl) (by kernel_rfl) (by kernel_rfl) (fun _ _ _ h => h) Gd.none rfl (fun w' hS' => X.indexAddr Tryd.underlying36 el9 (lh) (jt4 rfl (lh)) (by omega) (by omega)) hS ?_
        refine WH.one 5 rfl (by kernel_rfl) (fun _ _ h => h) ?_
        refine WL.x (X.load pl9 (lh) (by first | exact hu7_1 | exact cD.at0 hu7_1) (v := .string (bs (wordE l[k].1 ++ [32]))) (ewb hek.1 hek.2.1)) rfl ?_
        refine WL.nil Nx.thn ⟨hS, ?_⟩
        refine WH.take 9 rfl (by kernel_rfl) (by kernel_rfl) (by kernel_rfl) (fun _ _ _ h => h) Gd.none rfl (fun w' hS' => X.addS (lh) (jt2 rfl (lt rfl (lh))) (by simp only [ByteArray.size_append, szl, size_bs, List.size_toArray, List.length_cons, List.length_nil, List.length_append]; omega)) hS ?_
        refine WH.take 10 rfl (by kernel_rfl) (by kernel_rfl) (by kernel_rfl) (fun _ _ _ h => h) Gd.none rfl (fun w' hS' => X.addS (jt8 rfl (lt rfl (lh))) (lh) (by simp only [ByteArray.size_append, szl, size_bs, List.size_toArray, List.length_cons, List.length_nil, List.length_append]; omega)) hS ?_
        refine WH.take 11 rfl (by kernel_rfl) (by kernel_rfl) (by kernel_rfl) (fun _ _ _ h => h) Gd.none rfl (fun w' hS' => X.asg (lh)) hS ?_
        refine WH.done (by kernel_rfl) ?_
        refine WL.e5 Nx.thn 3 5 11 12 13 (lh) (jt8 rfl (jt4 rfl (s5))) (jt8 rfl (jt4 rfl (s11))) (jt8 rfl (jt4 rfl (s12))) (jt8 rfl (jt4 rfl (s13))) ?_
        intro σ27 s3 s5 s11 s12 s13
        refine W.seq ?_
        refine W.seq ?_
        refine W.region ?_
        refine WL.x (X.fieldAddr fd44_2 (s5)) rfl ?_
        refine WL.x (v := .slice va1 l[k].2.2.length vc1) (X.load pl42 (lh) (by first | assumption | exact hS.at (by assumption) (by intro hne; first | exact hne | ((try dsimp only at hne); omega)) | exact hS.at (cu6_3.at (by assumption) (by intro hne; first | exact hne | ((try dsimp only at hne); omega))) (by intro hne; first | exact hne | ((try dsimp only at hne); omega))) rfl) rfl ?_
        refine WL.x (X.lenSl Tryd.underlying42 (lh)) rfl ?_
        refine WL.x (X.mv lc) rfl ?_
        refine WL.e7 Nx.thn 3 11 12 13 29 30 31 (jt4 rfl (s3)) (jt4 rfl (s11)) (jt4 rfl (s12)) (jt4 rfl (s13)) (jt2 rfl (lh)) (lt rfl (lh)) (lh) ?_
        intro σ28 s3 s11 s12 s13 s29 s30 s31
        refine W.block ?_
        have qo15 := s11
        have qo16 := s12
        have qo17 := s13
        have qo18 := s29
        have qo19 := s30
        -- loop 1: kept [11, 12, 13, 29, 30], varied [3, 31]
        refine W.loop (G := Nat) (fun q σ' w' => (σ' 11 = σ28 11 ∧ σ' 12 = σ28 12 ∧ σ' 13 = σ28 13 ∧ σ' 29 = σ28 29 ∧ σ' 30 = σ28 30 ∧ True) ∧ (∃ S2, σ' 3 = .string S2 ∧ σ' 31 = .int .i64 (q : Int) ∧ sb S2 = ((l.take k).flatMap evT ++ hdT l[k]) ++ (l[k].2.2.take q).flatMap opT ∧ q ≤ l[k].2.2.length ∧ Ch0 w18 w')) (fun q => l[k].2.2.length - q) (0) ⟨⟨rfl, rfl, rfl, rfl, rfl, trivial⟩, _, s3, s31, (by simp [sb_app, sb_bs, hSe, hdT]), by omega, Ch.refl _ _⟩ ?_
        rintro q σ29 w19 ⟨⟨f11, f12, f13, f29, f30, _⟩, S2, s3, s31, hS2e, hqk, hcl2⟩
        have s11 := f11.trans qo15
        have s12 := f12.trans qo16
        have s13 := f13.trans qo17
        have s29 := f29.trans qo18
        have s30 := f30.trans qo19
        refine W.seq ?_
        refine W.region ?_
        refine WL.x (X.lss (s31) (s30)) rfl ?_
        refine WL.e8 Nx.thn 3 11 12 13 29 30 31 32 (lt rfl (s3)) (lt rfl (s11)) (lt rfl (s12)) (lt rfl (s13)) (lt rfl (s29)) (lt rfl (s30)) (lt rfl (s31)) (lh) ?_
        intro σ30 s3 s11 s12 s13 s29 s30 s31 s32
        refine W.seq ?_
        refine W.cndp s32 (fun hq => ?_) (fun hq => ?_)
        · obtain ⟨b2, o2, cs2, T2, fr2, es2, rfl, hml2, hes2, hgl2, hr2⟩ := (hs1.ch0 monOp ((hc6.trans0 hS).trans0 hcl2)).at (k := q) (by omega)
          have hone2 : es2.all (·.oneCell') = true := ROp_one hr2
          have hbl2 : blit (#[.int .i64 0, .string ⟨#[]⟩, .int .i64 0, .slice none 0 0, .bool false, .bool false] : Array Value) 0 es2 = es2.toArray := blit_all hes2
          have hql : q < l[k].2.2.length := by omega
          have hxo := hoe.2.2.2 _ (List.getElem_mem hql)
          have hxl := opT_len hxo
          rw [opT_eq, List.length_cons] at hxl
          have hS2z := sb_len S2
          rw [hS2e] at hS2z
          simp only [List.length_append] at hS2z
          have hopl := ops_len hoe q
          refine W.skip Nx.thn ?_
          refine W.seq ?_
          refine W.block ?_
          refine W.seq ?_
          refine W.region ?_
          refine WL.x (X.indexAddr Tryd.underlying42 el48 (s29) (s31) (by omega) (by omega)) rfl ?_
          refine WL.x (X.loadS ag48 (lh) hml2 hes2 hgl2) rfl ?_
          refine WL.alloc el48 rfl ?_
          intro w20 u10_2; have hu10_2 := u10_2.at_; have cu10_2 := u10_2.ch; have zu10_2 := u10_2.size
          refine WL.storeS ag48 (lh) (lt rfl (lh)) hone2 hes2 hu10_2 (by decide) ?_
          intro w21 us; have hu10_3 := us.at_; have cu10_3 := us.ch
          rw [show (Value.agg #[.int .i64 0, .string ⟨#[]⟩, .int .i64 0, .slice none 0 0, .bool false, .bool false]).cells = (#[.int .i64 0, .string ⟨#[]⟩, .int .i64 0, .slice none 0 0, .bool false, .bool false] : Array Value) from rfl, hbl2] at hu10_3
          have hc10 := cu10_2.trans cu10_3 (H := fun _ => False) (fun _ _ e => e) (fun q hq e => by (try dsimp only at e); omega)
          refine WL.e8 Nx.thn 3 7 11 12 13 29 30 31 (jt2 rfl (lt rfl (s3))) (lh) (jt2 rfl (lt rfl (s11))) (jt2 rfl (lt rfl (s12))) (jt2 rfl (lt rfl (s13))) (jt2 rfl (lt rfl (s29))) (jt2 rfl (lt rfl (s30))) (jt2 rfl (lt rfl (s31))) ?_
          intro σ31 s3 s7 s11 s12 s13 s29 s30 s31
          refine W.region ?_
          refine WL.x (X.mv (s3)) rfl ?_
          refine WL.x (X.loadBox ag48 (lt rfl (s7)) hu10_3 hes2) rfl ?_
          refine WL.call1 ce32 (lh) (rop_ok A (l[k].2.2[q]'hql) es2 w21 (monOp _ _ _ _ _ _ _ hc10 (fun _ _ => id) (fun _ => id) hr2) (hmo _ (List.getElem_mem hql))) rfl ?_
          rintro _ w22 ⟨rfl, cO⟩
          refine WL.x (X.addS lc (lh) (by simp only [ByteArray.size_append, szl, size_bs, List.size_toArray, List.length_cons, List.length_nil, List.length_append]; omega)) rfl ?_
          refine WL.x (X.addS (jt2 rfl (lt rfl (lh))) (lh) (by simp only [ByteArray.size_append, szl, size_bs, List.size_toArray, List.length_cons, List.length_nil, List.length_append]; omega)) rfl ?_
          refine WL.x (X.asg (lh)) rfl ?_
          refine WL.e7 (Nx.blk Nx.thn) 3 11 12 13 29 30 31 (lh) (jt4 rfl (jt2 rfl (s11))) (jt4 rfl (jt2 rfl (s12))) (jt4 rfl (jt2 rfl (s13))) (jt4 rfl (jt2 rfl (s29))) (jt4 rfl (jt2 rfl (s30))) (jt4 rfl (jt2 rfl (s31))) ?_
          intro σ32 s3 s11 s12 s13 s29 s30 s31
          refine W.region ?_
          first | refine WL.x (X.add (s31) lc (by omega) (by omega)) rfl ?_ | refine WL.x (X.addw (s31) lc) rfl ?_
          refine WL.x (X.mv (lh)) rfl ?_
          refine WL.e7 Nx.thn 3 11 12 13 29 30 31 (jt2 rfl (s3)) (jt2 rfl (s11)) (jt2 rfl (s12)) (jt2 rfl (s13)) (jt2 rfl (s29)) (jt2 rfl (s30)) (lh) ?_
          intro σ33 s3 s11 s12 s13 s29 s30 s31
          refine ⟨q + 1, by omega, ⟨s11.trans qo15.symm, s12.trans qo16.symm, s13.trans qo17.symm, s29.trans qo18.symm, s30.trans qo19.symm, trivial⟩, _, s3, s31, (by rw [fm_take hql, sb_app, sb_app, hS2e, sb_bs, sb_mk, opT_eq]; simp only [List.append_assoc]; rfl), by omega, (hcl2.trans0 hc10).trans0 cO⟩
        · have hS2z := sb_len S2
          rw [hS2e] at hS2z
          simp only [List.length_append] at hS2z
          have hopl := ops_len hoe q
          refine W.exit (Nx.xthn (Nx.xthn (Nx.xblk Nx.thn))) ?_
          refine W.region ?_
          refine WL.x (X.mv (s3)) rfl ?_
          refine WL.x (X.addS (lh) lc (by simp only [ByteArray.size_append, szl, size_bs, List.size_toArray, List.length_cons, List.length_nil, List.length_append]; omega)) rfl ?_
          refine WL.x (X.asg (lh)) rfl ?_
          refine WL.e4 (Nx.blk Nx.thn) 3 11 12 13 (lh) (jt2 rfl (lt rfl (s11))) (jt2 rfl (lt rfl (s12))) (jt2 rfl (lt rfl (s13))) ?_
          intro σ34 s3 s11 s12 s13
          refine W.region ?_
          first | refine WL.x (X.add (s13) lc (by omega) (by omega)) rfl ?_ | refine WL.x (X.addw (s13) lc) rfl ?_
          refine WL.x (X.mv (lh)) rfl ?_
          refine WL.e4 Nx.thn 3 11 12 13 (jt2 rfl (s3)) (jt2 rfl (s11)) (jt2 rfl (s12)) (lh) ?_
          intro σ35 s3 s11 s12 s13
          refine ⟨k + 1, by omega, ⟨s11.trans qo1.symm, s12.trans qo2.symm, trivial⟩, _, s3, s13, (by rw [fm_take hkl, sb_app, hS2e, sb_mk, show q = l[k].2.2.length by omega, List.take_length]; unfold evT; simp only [List.append_assoc]), by omega, ((hcl.trans0 hc6).trans0 hS).trans0 hcl2⟩
    · refine W.exit (Nx.xthn (Nx.xthn (Nx.xblk Nx.thn))) ?_
      refine W.seq ?_
      refine W.region ?_
      refine WL.x (X.mv (s3)) rfl ?_
      refine WL.x (X.asg (lh)) rfl ?_
      refine WL.e1 Nx.thn 2 (lh) ?_
      intro σ36 s2
      refine W.ret1 Nx.f1 s2 ?_
      first | exact ⟨by unfold prT; rw [if_neg (by simpa using hc0)]; rfl, c0⟩ | exact ⟨by unfold prT; rw [if_pos hcan]; exact fin_str (by rw [hSe, sb_bs, show k = l.length by omega, List.take_length]), hcl⟩
theorem rprint_ok (A : Nat → Prop) (v1 : Value) (l : List GEv) (w : World) (h : RSl 3 REv A w v1 l) (hl : l.length ≤ 140737488355328) : Sg.Ret Tryd.prog 11 #[v1] w fun v w' => v = .string (bs (prT l)) ∧ Ch0 w w' := by
  obtain ⟨a, c, rfl, h⟩ := h.at'
  exact rprint_walk A a c l w h hl

end Go.Proofs.YtjnkpjehpdlcbaaDoor
