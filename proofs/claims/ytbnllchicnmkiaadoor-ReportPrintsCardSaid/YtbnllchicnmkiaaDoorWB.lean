/-
  A part of the walk of the program.
-/
import Derived.Test.YtbnllchicnmkiaaDoorWA
set_option linter.unusedVariables false
set_option linter.unusedSimpArgs false
set_option maxRecDepth 100000
namespace Go.Proofs.YtbnllchicnmkiaaDoor
open Go Go.RowKit Sg
theorem el9 : Sg.Elem Tryd.prog 9 1 (.string ⟨#[]⟩) 16 := ⟨_, rfl, rfl, rfl, rfl⟩
theorem pl20 : Sg.Plain Tryd.prog 20 := ⟨_, rfl, trivial⟩
theorem el3 : Sg.Elem Tryd.prog 3 1 (.int .i64 0) 8 := ⟨_, rfl, rfl, rfl, rfl⟩
theorem pl4 : Sg.Plain Tryd.prog 4 := ⟨_, rfl, trivial⟩
theorem el4 : Sg.Elem Tryd.prog 4 1 (.bool false) 1 := ⟨_, rfl, rfl, rfl, rfl⟩
theorem el20 : Sg.Elem Tryd.prog 20 1 (.nilIface) 16 := ⟨_, rfl, rfl, rfl, rfl⟩
theorem ce24 : Sg.Callee Tryd.prog 24 := ⟨_, Tryd.func24, by decide, rfl⟩
theorem fd35_1 : Sg.Fld Tryd.prog 35 1 2 := ⟨_, _, _, rfl, rfl, rfl, rfl, by decide⟩
theorem fd35_0 : Sg.Fld Tryd.prog 35 0 0 := ⟨_, _, _, rfl, rfl, rfl, rfl, by decide⟩
theorem ce25 : Sg.Callee Tryd.prog 25 := ⟨_, Tryd.func25, by decide, rfl⟩
theorem ce26 : Sg.Callee Tryd.prog 26 := ⟨_, Tryd.func26, by decide, rfl⟩

theorem txt_S {p : Pt} (h : p.isN = false) : p.txt = sb p.str := by cases p; rfl; cases h
theorem txt_N {p : Pt} (h : p.isN = true) : p.txt = Lib.itoa p.num := by cases p; cases h; rfl
theorem sb_no {s : ByteArray} (h : s = ⟨#[]⟩) : sb s = [] := by subst h; rfl
theorem sb_ne {s : ByteArray} (h : s ≠ ⟨#[]⟩) : sb s ≠ [] := fun e => h (by rw [← bs_sb s, e]; rfl)

set_option maxHeartbeats 3200000 in
theorem put_ok (B b g n c : Nat) (L : List Pt) (acc : Bs) (fr : Bool) (w : World) (hn : n = L.length) (hg : w.heap[g]? = some (.cells (L.map (ptV 9 3)).toArray 20 (0, 0))) (hgb : g ≠ b) (h : IsW B b acc fr w) (hBw : B ≤ w.heap.size) (hlen : acc.length + (putF fr L).1.length ≤ 140737488355328) (hL : L.length ≤ 100) (hT : ∀ w9, Ch (fun j => B ≤ j) w w9 → Tab w9) (hin : ∀ p ∈ L, in64 p.num) :
  Sg.Ret Tryd.prog 8 #[.pointer (some ⟨b, 0, none⟩), .slice (some ⟨g, 0, none⟩) n c] w fun _ w' => IsW B b (acc ++ (putF fr L).1) (putF fr L).2 w' ∧ BK b B w w' := by
 subst hn
 refine enter0 (n := 52) (l := [.pointer (some ⟨b, 0, none⟩), .slice (some ⟨g, 0, none⟩) L.length c]) Tryd.func8 rfl rfl rfl rfl ?_
 refine W.g2 0 1 (v1 := .pointer (some ⟨b, 0, none⟩)) (v2 := .slice (some ⟨g, 0, none⟩) L.length c) rfl rfl ?_; intro σ s0 s1
 refine W.seq ?_
 refine W.region ?_
 refine WL.x (X.mv (s1)) rfl ?_
 refine WL.x (X.lenSl Tryd.underlying54 (lh)) rfl ?_
 refine WL.x (X.mv lc) rfl ?_
 refine WL.e4 Nx.thn 0 10 11 12 (jt2 rfl (lt rfl (s0))) (jt2 rfl (lh)) (lt rfl (lh)) (lh) ?_
 intro σ1 s0 s10 s11 s12
 refine W.block ?_
 have qo1 := s0
 have qo2 := s10
 have qo3 := s11
 -- loop 0: kept [0, 10, 11], varied [12]
 refine W.loop (G := Nat) (fun k σ' w' => (σ' 0 = σ1 0 ∧ σ' 10 = σ1 10 ∧ σ' 11 = σ1 11 ∧ True) ∧ (∃ cur f, σ' 12 = .int .i64 (k : Int) ∧ k ≤ L.length ∧ IsW B b cur f w' ∧ cur ++ (putF f (L.drop k)).1 = acc ++ (putF fr L).1 ∧ (putF f (L.drop k)).2 = (putF fr L).2 ∧ BK b B w w')) (fun k => L.length - k) (0) ⟨⟨rfl, rfl, rfl, trivial⟩, acc, fr, s12, by omega, h, rfl, rfl, BK.ch0 (Ch.refl _ _)⟩ ?_
 rintro k σ2 w1 ⟨⟨f0, f10, f11, _⟩, cur, f, s12, hk, hw, heq, heq2, hbk⟩
 have s0 := f0.trans qo1
 have s10 := f10.trans qo2
 have s11 := f11.trans qo3
 refine W.seq ?_
 refine W.region ?_
 refine WL.x (X.lss (s12) (s11)) rfl ?_
 refine WL.e5 Nx.thn 0 10 11 12 13 (lt rfl (s0)) (lt rfl (s10)) (lt rfl (s11)) (lt rfl (s12)) (lh) ?_
 intro σ3 s0 s10 s11 s12 s13
 refine W.seq ?_
 refine W.cndp s13 (fun hlt => ?_) (fun hlt => ?_)
 ·
  have hkl : k < L.length := by omega
  have hdr : L.drop k = L[k] :: L.drop (k + 1) := List.drop_eq_getElem_cons hkl
  have hi9 := hin L[k] (List.getElem_mem hkl)
  have hzl := congrArg List.length heq
  rw [List.length_append, List.length_append] at hzl
  have hBk := hbk.1.size
  refine W.skip Nx.thn ?_
  refine W.seq ?_
  refine W.block ?_
  refine W.seq ?_
  refine W.region ?_
  refine WL.x (X.indexAddr Tryd.underlying54 el20 (s10) (s12) (by omega) (by omega)) rfl ?_
  refine WL.x (X.load pl20 (lh) (hbk.2 _ _ _ _ hg (by decide) hgb) (v := ptV 9 3 L[k]) (by rw [List.getElem?_toArray, show 0 + (k : Int).toNat * 1 = k by omega, List.getElem?_map, List.getElem?_eq_getElem hkl]; rfl)) rfl ?_
  refine WL.x (X.asg (lh)) rfl ?_
  refine WL.e5 Nx.thn 0 5 10 11 12 (jt2 rfl (lt rfl (s0))) (lh) (jt2 rfl (lt rfl (s10))) (jt2 rfl (lt rfl (s11))) (jt2 rfl (lt rfl (s12))) ?_
  intro σ4 s0 s5 s10 s11 s12
  refine W.seq ?_
  refine W.region ?_
  refine WL.x (X.mv (s5)) rfl ?_
  refine WL.x (X.tassS (st := 9) (it := 3) Tryd.underlying9 el9 (by decide) (lh)) rfl ?_
  refine WL.x (X.mv (lh)) rfl ?_
  refine WL.x (X.ex2_0 (lh)) rfl ?_
  refine WL.x (X.ex2_1 (lt rfl (lh))) rfl ?_
  refine WL.x (X.asg (lt rfl (lh))) rfl ?_
  refine WL.x (X.asg (lt rfl (lh))) rfl ?_
  refine WL.e7 Nx.thn 0 5 6 7 10 11 12 (jt4 rfl (jt2 rfl (lt rfl (s0)))) (jt4 rfl (jt2 rfl (lt rfl (s5)))) (lt rfl (lh)) (lh) (jt4 rfl (jt2 rfl (lt rfl (s10)))) (jt4 rfl (jt2 rfl (lt rfl (s11)))) (jt4 rfl (jt2 rfl (lt rfl (s12)))) ?_
  intro σ5 s0 s5 s6 s7 s10 s11 s12
  refine W.seq ?_
  refine W.seq ?_
  refine W.region ?_
  refine WL.x (X.mv (s5)) rfl ?_
  refine WL.x (X.tassN (st := 9) (it := 3) Tryd.underlying3 el3 (by decide) (lh)) rfl ?_
  refine WL.x (X.mv (lh)) rfl ?_
  refine WL.x (X.ex2_0 (lh)) rfl ?_
  refine WL.x (X.ex2_1 (lt rfl (lh))) rfl ?_
  refine WL.x (X.asg (lt rfl (lh))) rfl ?_
  refine WL.x (X.asg (lt rfl (lh))) rfl ?_
  refine WL.e8 Nx.thn 0 6 7 8 9 10 11 12 (jt4 rfl (jt2 rfl (lt rfl (s0)))) (jt4 rfl (jt2 rfl (lt rfl (s6)))) (jt4 rfl (jt2 rfl (lt rfl (s7)))) (lt rfl (lh)) (lh) (jt4 rfl (jt2 rfl (lt rfl (s10)))) (jt4 rfl (jt2 rfl (lt rfl (s11)))) (jt4 rfl (jt2 rfl (lt rfl (s12)))) ?_
  intro σ6 s0 s6 s7 s8 s9 s10 s11 s12
  refine W.seq ?_
  refine W.region ?_
  refine WL.x (X.mv (s9)) rfl ?_
  refine WL.e8 Nx.thn 0 6 7 8 10 11 12 26 (lt rfl (s0)) (lt rfl (s6)) (lt rfl (s7)) (lt rfl (s8)) (lt rfl (s10)) (lt rfl (s11)) (lt rfl (s12)) (lh) ?_
  intro σ7 s0 s6 s7 s8 s10 s11 s12 s26
  refine W.cnd s26 (fun hN => ?_) (fun hN => ?_)
  ·
   refine W.region ?_
   refine WL.x (X.mv (s8)) rfl ?_
   refine WL.call1 ce24 (lh) (itoa_ok L[k].num w1 hi9.1 hi9.2 (hT _ hbk.1)) rfl ?_
   rintro _ w2 ⟨rfl, ci⟩
   replace hw := hw.ch0 ci
   replace hbk := hbk.trans (BK.ch0 ci)
   replace hBk := Nat.le_trans hBk ci.size
   refine WL.x (X.asg (lh)) rfl ?_
   refine WL.x (X.asg lc) rfl ?_
   refine WL.e6 Nx.thn 0 6 7 10 11 12 (jt4 rfl (s0)) (lt rfl (lh)) (lh) (jt4 rfl (s10)) (jt4 rfl (s11)) (jt4 rfl (s12)) ?_
   intro σ8 s0 s6 s7 s10 s11 s12
   refine W.seq ?_
   refine W.seq ?_
   refine W.region ?_
   refine WL.x (X.mv (s7)) rfl ?_
   refine WL.x (X.not (lh)) rfl ?_
   refine WL.x (X.mv (lh)) rfl ?_
   refine WL.yes rfl rfl (lh) (by first | rfl | (rw [hN]; rfl)) ?_
   refine WL.x (X.mv (jt2 rfl (lt rfl (s6)))) rfl ?_
   refine WL.yes rfl rfl (lt rfl (lh)) (by first | rfl | (rw [hN]; rfl)) ?_
   refine WL.x (X.eqlS (lh) lc) rfl ?_
   refine WL.x (X.pickF (jt2 rfl (lh)) (by first | rfl | (rw [hN]; rfl)) (lh)) rfl ?_
   refine WL.e6 Nx.thn 0 6 10 11 12 34 (jt4 rfl (jt2 rfl (s0))) (jt4 rfl (jt2 rfl (s6))) (jt4 rfl (jt2 rfl (s10))) (jt4 rfl (jt2 rfl (s11))) (jt4 rfl (jt2 rfl (s12))) (lh) ?_
   intro σ9 s0 s6 s10 s11 s12 s34
   refine W.cndp s34 (fun he => ?_) (fun he => ?_)
   ·
    have htx : L[k].txt = [] := by first | (rw [txt_S hN]; exact sb_no he) | (rw [txt_N hN]; exact sb_no he)
    refine W.exit (Nx.xthn (Nx.xblk Nx.thn)) ?_
    refine W.region ?_
    first | refine WL.x (X.add (s12) lc (by omega) (by omega)) rfl ?_ | refine WL.x (X.addw (s12) lc) rfl ?_
    refine WL.x (X.mv (lh)) rfl ?_
    refine WL.e4 Nx.thn 0 10 11 12 (jt2 rfl (s0)) (jt2 rfl (s10)) (jt2 rfl (s11)) (lh) ?_
    intro σ10 s0 s10 s11 s12
    refine ⟨k + 1, by omega, ⟨s0.trans qo1.symm, s10.trans qo2.symm, s11.trans qo3.symm, trivial⟩, cur, f, s12, by omega, hw, (by rw [hdr, putF_skip htx] at heq; exact heq), (by rw [hdr, putF_skip htx] at heq2; exact heq2), hbk⟩
   ·
    have htx : L[k].txt ≠ [] := by first | (rw [txt_S hN]; exact sb_ne he) | (rw [txt_N hN]; exact sb_ne he)
    rw [hdr, putF_go htx] at hzl
    simp only [List.length_append] at hzl
    refine W.skip Nx.thn ?_
    have qo5 := s0
    have qo6 := s6
    have qo7 := s10
    have qo8 := s11
    have qo9 := s12
    refine W.seqJ (fun σ' w' => (σ' 0 = σ9 0 ∧ σ' 6 = σ9 6 ∧ σ' 10 = σ9 10 ∧ σ' 11 = σ9 11 ∧ σ' 12 = σ9 12 ∧ True) ∧ ∃ c2, IsW B b c2 f w' ∧ c2 = cur ++ (if f = true then [32] else []) ∧ BK b B w w') ?_ ?_
    ·
     refine W.seq ?_
     refine W.region ?_
     refine WL.x (X.mv (s0)) rfl ?_
     refine WL.x (X.nilck (lh)) rfl ?_
     refine WL.x (X.fieldAddr fd35_1 (lh)) rfl ?_
     obtain ⟨hB9, q9, v9, hq9, hb9, hown9⟩ := id hw
     refine WL.x (X.load pl4 (lh) hb9 (v := .bool f) rfl) rfl ?_
     refine WL.e6 Nx.thn 0 6 10 11 12 38 (jt4 rfl (s0)) (jt4 rfl (s6)) (jt4 rfl (s10)) (jt4 rfl (s11)) (jt4 rfl (s12)) (lh) ?_
     intro σ11 s0 s6 s10 s11 s12 s38
     refine W.cnd s38 (fun hf => ?_) (fun hf => ?_)
     ·
      refine W.region ?_
      refine WL.x (X.mv (s0)) rfl ?_
      refine WL.x (X.nilck (lh)) rfl ?_
      refine WL.x (X.fieldAddr fd35_0 (lh)) rfl ?_
      refine WL.call2 ce25 (lh) lc (wb_ok B b cur f 32 w2 hw (by rw [hf] at hzl; simp only [if_true, List.length_singleton] at hzl; omega) (by omega)) rfl ?_
      rintro _ w3 ⟨hw2, k2⟩
      have ck2 := k2.1
      refine WL.e5 Nx.thn 0 6 10 11 12 (jt4 rfl (s0)) (jt4 rfl (s6)) (jt4 rfl (s10)) (jt4 rfl (s11)) (jt4 rfl (s12)) ?_
      intro σ12 s0 s6 s10 s11 s12
      refine ⟨⟨s0.trans qo5.symm, s6.trans qo6.symm, s10.trans qo7.symm, s11.trans qo8.symm, s12.trans qo9.symm, trivial⟩, _, hw2, (by rw [hf]; rfl), hbk.trans k2⟩
     ·
      refine W.skip Nx.thn ?_
      refine ⟨⟨s0.trans qo5.symm, s6.trans qo6.symm, s10.trans qo7.symm, s11.trans qo8.symm, s12.trans qo9.symm, trivial⟩, cur, hw, (by rw [hf]; simp), hbk⟩
    ·
     rintro σ13 w4 ⟨⟨f0, f6, f10, f11, f12, _⟩, c2, hw2, hc2, hbk2⟩
     have s0 := f0.trans qo5
     have s6 := f6.trans qo6
     have s10 := f10.trans qo7
     have s11 := f11.trans qo8
     have s12 := f12.trans qo9
     refine W.seq ?_
     refine W.region ?_
     refine WL.x (X.mv (s0)) rfl ?_
     refine WL.x (X.nilck (lh)) rfl ?_
     refine WL.x (X.fieldAddr fd35_0 (lh)) rfl ?_
     refine WL.x (X.mv (jt2 rfl (lt rfl (s6)))) rfl ?_
     refine WL.call2 ce26 (lt rfl (lh)) (lh) (ws_ok B b c2 f _ w4 hw2 (by have h8 := sb_len L[k].str; have h7 : (bs (Lib.itoa L[k].num)).size = (Lib.itoa L[k].num).length := size_bs _; have hc2l := congrArg List.length hc2; rw [List.length_append] at hc2l; first | (rw [txt_S hN] at hzl; omega) | (rw [txt_N hN] at hzl; omega)) (by have := hbk2.1.size; omega)) rfl ?_
     rintro _ w5 ⟨hw3, k3⟩
     have hw3 : IsW B b (c2 ++ L[k].txt) f w5 := by first | (rw [txt_S hN]; exact hw3) | (rw [txt_N hN]; exact hw3)
     refine WL.e4 Nx.thn 0 10 11 12 (jt4 rfl (lt rfl (s0))) (jt4 rfl (lt rfl (s10))) (jt4 rfl (lt rfl (s11))) (jt4 rfl (lt rfl (s12))) ?_
     intro σ14 s0 s10 s11 s12
     refine W.region ?_
     refine WL.x (X.mv (s0)) rfl ?_
     refine WL.x (X.nilck (lh)) rfl ?_
     refine WL.x (X.fieldAddr fd35_1 (lh)) rfl ?_
     obtain ⟨hB9, q9, v9, hq9, hb9, hown9⟩ := id hw3
     have hne9 := own_ne_w hown9 hb9
     refine WL.store el4 (lh) lc rfl hb9 (show 0 + 2 < 3 by decide) ?_
     intro w6 us
     have hwE : IsW B b (c2 ++ L[k].txt) true w6 := ⟨hB9, q9, v9, hq9, us.at_, own_ch hown9 us.ch (fun j hj e => hne9 (e ▸ hj))⟩
     have kE : BK b B w5 w6 := BK.of us.ch (fun j e => .inl e) hB9
     have cus := us.ch
     refine WL.e4 (Nx.blk Nx.thn) 0 10 11 12 (jt2 rfl (lt rfl (s0))) (jt2 rfl (lt rfl (s10))) (jt2 rfl (lt rfl (s11))) (jt2 rfl (lt rfl (s12))) ?_
     intro σ15 s0 s10 s11 s12
     refine W.region ?_
     first | refine WL.x (X.add (s12) lc (by omega) (by omega)) rfl ?_ | refine WL.x (X.addw (s12) lc) rfl ?_
     refine WL.x (X.mv (lh)) rfl ?_
     refine WL.e4 Nx.thn 0 10 11 12 (jt2 rfl (s0)) (jt2 rfl (s10)) (jt2 rfl (s11)) (lh) ?_
     intro σ16 s0 s10 s11 s12
     refine ⟨k + 1, by omega, ⟨s0.trans qo1.symm, s10.trans qo2.symm, s11.trans qo3.symm, trivial⟩, _, true, s12, by omega, hwE, (by rw [hdr, putF_go htx] at heq; rw [← heq, hc2]; simp only [List.append_assoc]), (by rw [hdr, putF_go htx] at heq2; exact heq2), (hbk2.trans k3).trans kE⟩
  ·
   refine W.skip Nx.thn ?_
   refine W.seq ?_
   refine W.seq ?_
   refine W.region ?_
   refine WL.x (X.mv (s7)) rfl ?_
   refine WL.x (X.not (lh)) rfl ?_
   refine WL.x (X.mv (lh)) rfl ?_
   refine WL.yes rfl rfl (lh) (by first | rfl | (rw [hN]; rfl)) ?_
   refine WL.x (X.mv (jt2 rfl (lt rfl (s6)))) rfl ?_
   refine WL.yes rfl rfl (lt rfl (lh)) (by first | rfl | (rw [hN]; rfl)) ?_
   refine WL.x (X.eqlS (lh) lc) rfl ?_
   refine WL.x (X.pickF (jt2 rfl (lh)) (by first | rfl | (rw [hN]; rfl)) (lh)) rfl ?_
   refine WL.e6 Nx.thn 0 6 10 11 12 34 (jt4 rfl (jt2 rfl (s0))) (jt4 rfl (jt2 rfl (s6))) (jt4 rfl (jt2 rfl (s10))) (jt4 rfl (jt2 rfl (s11))) (jt4 rfl (jt2 rfl (s12))) (lh) ?_
   intro σ17 s0 s6 s10 s11 s12 s34
   refine W.cndp s34 (fun he => ?_) (fun he => ?_)
   ·
    have htx : L[k].txt = [] := by first | (rw [txt_S hN]; exact sb_no he) | (rw [txt_N hN]; exact sb_no he)
    refine W.exit (Nx.xthn (Nx.xblk Nx.thn)) ?_
    refine W.region ?_
    first | refine WL.x (X.add (s12) lc (by omega) (by omega)) rfl ?_ | refine WL.x (X.addw (s12) lc) rfl ?_
    refine WL.x (X.mv (lh)) rfl ?_
    refine WL.e4 Nx.thn 0 10 11 12 (jt2 rfl (s0)) (jt2 rfl (s10)) (jt2 rfl (s11)) (lh) ?_
    intro σ18 s0 s10 s11 s12
    refine ⟨k + 1, by omega, ⟨s0.trans qo1.symm, s10.trans qo2.symm, s11.trans qo3.symm, trivial⟩, cur, f, s12, by omega, hw, (by rw [hdr, putF_skip htx] at heq; exact heq), (by rw [hdr, putF_skip htx] at heq2; exact heq2), hbk⟩
   ·
    have htx : L[k].txt ≠ [] := by first | (rw [txt_S hN]; exact sb_ne he) | (rw [txt_N hN]; exact sb_ne he)
    rw [hdr, putF_go htx] at hzl
    simp only [List.length_append] at hzl
    refine W.skip Nx.thn ?_
    have qo11 := s0
    have qo12 := s6
    have qo13 := s10
    have qo14 := s11
    have qo15 := s12
    refine W.seqJ (fun σ' w' => (σ' 0 = σ17 0 ∧ σ' 6 = σ17 6 ∧ σ' 10 = σ17 10 ∧ σ' 11 = σ17 11 ∧ σ' 12 = σ17 12 ∧ True) ∧ ∃ c2, IsW B b c2 f w' ∧ c2 = cur ++ (if f = true then [32] else []) ∧ BK b B w w') ?_ ?_
    ·
     refine W.seq ?_
     refine W.region ?_
     refine WL.x (X.mv (s0)) rfl ?_
     refine WL.x (X.nilck (lh)) rfl ?_
     refine WL.x (X.fieldAddr fd35_1 (lh)) rfl ?_
     obtain ⟨hB9, q9, v9, hq9, hb9, hown9⟩ := id hw
     refine WL.x (X.load pl4 (lh) hb9 (v := .bool f) rfl) rfl ?_
     refine WL.e6 Nx.thn 0 6 10 11 12 38 (jt4 rfl (s0)) (jt4 rfl (s6)) (jt4 rfl (s10)) (jt4 rfl (s11)) (jt4 rfl (s12)) (lh) ?_
     intro σ19 s0 s6 s10 s11 s12 s38
     refine W.cnd s38 (fun hf => ?_) (fun hf => ?_)
     ·
      refine W.region ?_
      refine WL.x (X.mv (s0)) rfl ?_
      refine WL.x (X.nilck (lh)) rfl ?_
      refine WL.x (X.fieldAddr fd35_0 (lh)) rfl ?_
      refine WL.call2 ce25 (lh) lc (wb_ok B b cur f 32 w1 hw (by rw [hf] at hzl; simp only [if_true, List.length_singleton] at hzl; omega) (by omega)) rfl ?_
      rintro _ w7 ⟨hw2, k2⟩
      have ck2 := k2.1
      refine WL.e5 Nx.thn 0 6 10 11 12 (jt4 rfl (s0)) (jt4 rfl (s6)) (jt4 rfl (s10)) (jt4 rfl (s11)) (jt4 rfl (s12)) ?_
      intro σ20 s0 s6 s10 s11 s12
      refine ⟨⟨s0.trans qo11.symm, s6.trans qo12.symm, s10.trans qo13.symm, s11.trans qo14.symm, s12.trans qo15.symm, trivial⟩, _, hw2, (by rw [hf]; rfl), hbk.trans k2⟩
     ·
      refine W.skip Nx.thn ?_
      refine ⟨⟨s0.trans qo11.symm, s6.trans qo12.symm, s10.trans qo13.symm, s11.trans qo14.symm, s12.trans qo15.symm, trivial⟩, cur, hw, (by rw [hf]; simp), hbk⟩
    ·
     rintro σ21 w8 ⟨⟨f0, f6, f10, f11, f12, _⟩, c2, hw2, hc2, hbk2⟩
     have s0 := f0.trans qo11
     have s6 := f6.trans qo12
     have s10 := f10.trans qo13
     have s11 := f11.trans qo14
     have s12 := f12.trans qo15
     refine W.seq ?_
     refine W.region ?_
     refine WL.x (X.mv (s0)) rfl ?_
     refine WL.x (X.nilck (lh)) rfl ?_
     refine WL.x (X.fieldAddr fd35_0 (lh)) rfl ?_
     refine WL.x (X.mv (jt2 rfl (lt rfl (s6)))) rfl ?_
     refine WL.call2 ce26 (lt rfl (lh)) (lh) (ws_ok B b c2 f _ w8 hw2 (by have h8 := sb_len L[k].str; have h7 : (bs (Lib.itoa L[k].num)).size = (Lib.itoa L[k].num).length := size_bs _; have hc2l := congrArg List.length hc2; rw [List.length_append] at hc2l; first | (rw [txt_S hN] at hzl; omega) | (rw [txt_N hN] at hzl; omega)) (by have := hbk2.1.size; omega)) rfl ?_
     rintro _ w9 ⟨hw3, k3⟩
     have hw3 : IsW B b (c2 ++ L[k].txt) f w9 := by first | (rw [txt_S hN]; exact hw3) | (rw [txt_N hN]; exact hw3)
     refine WL.e4 Nx.thn 0 10 11 12 (jt4 rfl (lt rfl (s0))) (jt4 rfl (lt rfl (s10))) (jt4 rfl (lt rfl (s11))) (jt4 rfl (lt rfl (s12))) ?_
     intro σ22 s0 s10 s11 s12
     refine W.region ?_
     refine WL.x (X.mv (s0)) rfl ?_
     refine WL.x (X.nilck (lh)) rfl ?_
     refine WL.x (X.fieldAddr fd35_1 (lh)) rfl ?_
     obtain ⟨hB9, q9, v9, hq9, hb9, hown9⟩ := id hw3
     have hne9 := own_ne_w hown9 hb9
     refine WL.store el4 (lh) lc rfl hb9 (show 0 + 2 < 3 by decide) ?_
     intro w10 us
     have hwE : IsW B b (c2 ++ L[k].txt) true w10 := ⟨hB9, q9, v9, hq9, us.at_, own_ch hown9 us.ch (fun j hj e => hne9 (e ▸ hj))⟩
     have kE : BK b B w9 w10 := BK.of us.ch (fun j e => .inl e) hB9
     have cus := us.ch
     refine WL.e4 (Nx.blk Nx.thn) 0 10 11 12 (jt2 rfl (lt rfl (s0))) (jt2 rfl (lt rfl (s10))) (jt2 rfl (lt rfl (s11))) (jt2 rfl (lt rfl (s12))) ?_
     intro σ23 s0 s10 s11 s12
     refine W.region ?_
     first | refine WL.x (X.add (s12) lc (by omega) (by omega)) rfl ?_ | refine WL.x (X.addw (s12) lc) rfl ?_
     refine WL.x (X.mv (lh)) rfl ?_
     refine WL.e4 Nx.thn 0 10 11 12 (jt2 rfl (s0)) (jt2 rfl (s10)) (jt2 rfl (s11)) (lh) ?_
     intro σ24 s0 s10 s11 s12
     refine ⟨k + 1, by omega, ⟨s0.trans qo1.symm, s10.trans qo2.symm, s11.trans qo3.symm, trivial⟩, _, true, s12, by omega, hwE, (by rw [hdr, putF_go htx] at heq; rw [← heq, hc2]; simp only [List.append_assoc]), (by rw [hdr, putF_go htx] at heq2; exact heq2), (hbk2.trans k3).trans kE⟩
 ·
  refine W.exit (Nx.xthn (Nx.xthn (Nx.xblk Nx.n0))) ?_
  have hke : L.drop k = [] := List.drop_eq_nil_iff.2 (by omega)
  rw [hke] at heq heq2
  have heq : cur ++ [] = _ := heq
  have heq2 : f = _ := heq2
  rw [List.append_nil] at heq
  rw [← heq, ← heq2]
  exact ⟨hw, hbk⟩
set_option maxHeartbeats 800000 in
theorem line_ok (B b : Nat) (l : Bs) (fr : Bool) (w : World) (h : IsW B b l fr w) (hlen : l.length + 1 ≤ 140737488355328) (hBw : B ≤ w.heap.size) :
  Sg.Ret Tryd.prog 9 #[.pointer (some ⟨b, 0, none⟩)] w fun _ w' => IsW B b (l ++ [10]) false w' ∧ BK b B w w' := by
 refine enter0 (n := 9) (l := [.pointer (some ⟨b, 0, none⟩)]) Tryd.func9 rfl rfl rfl rfl ?_
 refine W.g1 0 (v1 := .pointer (some ⟨b, 0, none⟩)) rfl ?_; intro σ s0
 refine W.seq ?_
 refine W.region ?_
 refine WL.x (X.mv (s0)) rfl ?_
 refine WL.x (X.nilck (lh)) rfl ?_
 refine WL.x (X.fieldAddr fd35_0 (lh)) rfl ?_
 refine WL.call2 ce25 (lh) lc (wb_ok B b l fr 10 w h hlen hBw) rfl ?_
 rintro _ w1 ⟨hw2, k2⟩
 have ck2 := k2.1
 refine WL.e1 Nx.thn 0 (jt4 rfl (s0)) ?_
 intro σ1 s0
 refine W.region ?_
 refine WL.x (X.mv (s0)) rfl ?_
 refine WL.x (X.nilck (lh)) rfl ?_
 refine WL.x (X.fieldAddr fd35_1 (lh)) rfl ?_
 obtain ⟨hB9, q9, v9, hq9, hb9, hown9⟩ := id hw2
 have hne9 := own_ne_w hown9 hb9
 refine WL.store el4 (lh) lc rfl hb9 (show 0 + 2 < 3 by decide) ?_
 intro w2 us
 have hwE : IsW B b (l ++ [10]) false w2 := ⟨hB9, q9, v9, hq9, us.at_, own_ch hown9 us.ch (fun j hj e => hne9 (e ▸ hj))⟩
 have kE : BK b B w1 w2 := BK.of us.ch (fun j e => .inl e) hB9
 have cus := us.ch
 refine WL.e0 Nx.n0  ?_
 intro σ2 
 exact ⟨hwE, k2.trans kE⟩
theorem either_ok (x : Bool) (a b : ByteArray) (w : World) :
  Sg.Ret Tryd.prog 10 #[.bool x, .string a, .string b] w fun v w' => v = .string (bsel x a b) ∧ w = w' := by
 refine enter1 (n := 10) (l := [.bool x, .string a, .string b]) Tryd.func10 rfl rfl rfl rfl ?_
 refine W.g3 0 1 2 (v1 := .bool x) (v2 := .string a) (v3 := .string b) rfl rfl rfl ?_; intro σ s0 s1 s2
 refine W.seq ?_
 refine W.region ?_
 refine WL.x (X.asg lc) rfl ?_
 refine WL.e3 Nx.thn 0 1 2 (lt rfl (s0)) (lt rfl (s1)) (lt rfl (s2)) ?_
 intro σ1 s0 s1 s2
 refine W.seq ?_
 refine W.seq ?_
 refine W.region ?_
 refine WL.x (X.mv (s0)) rfl ?_
 refine WL.e3 Nx.thn 1 2 7 (lt rfl (s1)) (lt rfl (s2)) (lh) ?_
 intro σ2 s1 s2 s7
 refine W.cnd s7 (fun hx => ?_) (fun hx => ?_)
 ·
  refine W.seq ?_
  refine W.region ?_
  refine WL.x (X.mv (s1)) rfl ?_
  refine WL.x (X.asg (lh)) rfl ?_
  refine WL.e1 Nx.thn 6 (lh) ?_
  intro σ3 s6
  refine W.ret1 (Nx.rthn Nx.f1) s6 ?_
  exact ⟨by rw [hx]; rfl, rfl⟩
 ·
  refine W.skip Nx.thn ?_
  refine W.seq ?_
  refine W.region ?_
  refine WL.x (X.mv (s2)) rfl ?_
  refine WL.x (X.asg (lh)) rfl ?_
  refine WL.e1 Nx.thn 6 (lh) ?_
  intro σ4 s6
  refine W.ret1 Nx.f1 s6 ?_
  exact ⟨by rw [hx]; rfl, rfl⟩
theorem reither_ok (x : Bool) (a b : ByteArray) (w : World) :
  Sg.Ret Tryd.prog 17 #[.bool x, .string a, .string b] w fun v w' => v = .string (bsel x a b) ∧ w = w' := by
 refine enter1 (n := 10) (l := [.bool x, .string a, .string b]) Tryd.func17 rfl rfl rfl rfl ?_
 refine W.g3 0 1 2 (v1 := .bool x) (v2 := .string a) (v3 := .string b) rfl rfl rfl ?_; intro σ s0 s1 s2
 refine W.seq ?_
 refine W.region ?_
 refine WL.x (X.asg lc) rfl ?_
 refine WL.e3 Nx.thn 0 1 2 (lt rfl (s0)) (lt rfl (s1)) (lt rfl (s2)) ?_
 intro σ1 s0 s1 s2
 refine W.seq ?_
 refine W.seq ?_
 refine W.region ?_
 refine WL.x (X.mv (s0)) rfl ?_
 refine WL.e3 Nx.thn 1 2 7 (lt rfl (s1)) (lt rfl (s2)) (lh) ?_
 intro σ2 s1 s2 s7
 refine W.cnd s7 (fun hx => ?_) (fun hx => ?_)
 ·
  refine W.seq ?_
  refine W.region ?_
  refine WL.x (X.mv (s1)) rfl ?_
  refine WL.x (X.asg (lh)) rfl ?_
  refine WL.e1 Nx.thn 6 (lh) ?_
  intro σ3 s6
  refine W.ret1 (Nx.rthn Nx.f1) s6 ?_
  exact ⟨by rw [hx]; rfl, rfl⟩
 ·
  refine W.skip Nx.thn ?_
  refine W.seq ?_
  refine W.region ?_
  refine WL.x (X.mv (s2)) rfl ?_
  refine WL.x (X.asg (lh)) rfl ?_
  refine WL.e1 Nx.thn 6 (lh) ?_
  intro σ4 s6
  refine W.ret1 Nx.f1 s6 ?_
  exact ⟨by rw [hx]; rfl, rfl⟩
end Go.Proofs.YtbnllchicnmkiaaDoor
