/-
  A part of the walk of the program. | A part of the walk of the program. | A part of the walk of the program.
-/
import Derived.Test.YtbnllchicnmkiaaGreatDoorPl13
section
set_option linter.unusedVariables false
set_option linter.unusedSimpArgs false
set_option maxRecDepth 100000
namespace Go.Proofs.YtbnllchicnmkiaaGreatDoor
open Go Go.RowKit Sg
theorem pl20 : Sg.Plain Tryz.prog 20 := ⟨_, rfl, trivial⟩
theorem el20 : Sg.Elem Tryz.prog 20 1 (.nilIface) 16 := ⟨_, rfl, rfl, rfl, rfl⟩
theorem ce76 : Sg.Callee Tryz.prog 76 := ⟨_, Tryz.func76, by decide, rfl⟩
theorem fd78_1 : Sg.Fld Tryz.prog 78 1 2 := ⟨_, _, _, rfl, rfl, rfl, rfl, by decide⟩
theorem fd78_0 : Sg.Fld Tryz.prog 78 0 0 := ⟨_, _, _, rfl, rfl, rfl, rfl, by decide⟩
theorem ce77 : Sg.Callee Tryz.prog 77 := ⟨_, Tryz.func77, by decide, rfl⟩
theorem ce78 : Sg.Callee Tryz.prog 78 := ⟨_, Tryz.func78, by decide, rfl⟩

theorem txt_S {p : Pt} (h : p.isN = false) : p.txt = sb p.str := by cases p; rfl; cases h
theorem txt_N {p : Pt} (h : p.isN = true) : p.txt = Lib.itoa p.num := by cases p; cases h; rfl
theorem sb_no {s : ByteArray} (h : s = ⟨#[]⟩) : sb s = [] := by subst h; rfl
theorem sb_ne {s : ByteArray} (h : s ≠ ⟨#[]⟩) : sb s ≠ [] := fun e => h (by rw [← bs_sb s, e]; rfl)

set_option maxHeartbeats 3200000 in
theorem put_ok (B b g n c : Nat) (L : List Pt) (acc : Bs) (fr : Bool) (w : World) (hn : n = L.length) (hg : w.heap[g]? = some (.cells (L.map (ptV 9 3)).toArray 20 (0, 0))) (hgb : g ≠ b) (h : IsW B b acc fr w) (hBw : B ≤ w.heap.size) (hlen : acc.length + (putF fr L).1.length ≤ 140737488355328) (hL : L.length ≤ 100) (hT : ∀ w9, Ch (fun j => B ≤ j) w w9 → Tab w9) (hin : ∀ p ∈ L, in64 p.num) :
  Sg.Ret Tryz.prog 33 #[.pointer (some ⟨b, 0, none⟩), .slice (some ⟨g, 0, none⟩) n c] w fun _ w' => IsW B b (acc ++ (putF fr L).1) (putF fr L).2 w' ∧ BK b B w w' := by
 subst hn
 refine enter0 (n := 52) (l := [.pointer (some ⟨b, 0, none⟩), .slice (some ⟨g, 0, none⟩) L.length c]) Tryz.func33 rfl rfl rfl rfl ?_
 refine W.g2 0 1 (v1 := .pointer (some ⟨b, 0, none⟩)) (v2 := .slice (some ⟨g, 0, none⟩) L.length c) rfl rfl ?_; intro σ s0 s1
 refine W.seq ?_
 refine W.region ?_
 refine WL.x (X.mv (s1)) rfl ?_
 refine WL.x (X.lenSl Tryz.underlying115 (lh)) rfl ?_
 refine WL.x (X.mv lc) rfl ?_
 refine WL.e4 Nx.thn 0 10 11 12 (jt2 rfl (lt rfl (s0))) (jt2 rfl (lh)) (lt rfl (lh)) (lh) ?_
 intro σ1 s0 s10 s11 s12
 refine W.block ?_
 have qo1 := s0
 have qo2 := s10
 have qo3 := s11
 -- loop 0: kept [0, 10, 11], varied [12]
 refine W.loop (G := Nat) (fun k σ' w' => (σ' 0 = σ1 0 ∧ σ' 10 = σ1 10 ∧ σ' 11 = σ1 11 ∧ True) ∧ (∃ cur f, σ' 12 = .int .i64 (k : Int) ∧ k ≤ L.length ∧ IsW B b cur f w' ∧ cur ++ (putF f (L.drop k)).1 = acc ++ (putF fr L).1 ∧ (putF f (L.drop k)).2 = (putF fr L).2 ∧ BK b B w w')) (fun k => L.length - k) (0) ⟨⟨rfl, rfl, rfl, trivial⟩, acc, fr, s12, by omega, h, rfl, rfl, BK.ch0 (Ch.refl _ _)⟩ ?_
 rintro k σ2 w1 ⟨⟨f0, f10, f11, _⟩, cur, f, s12, hk, hw, heq, heq2, hbk⟩
 have s0 := f0.trans qo1
 have s10 := f10.trans qo2
 have s11 := f11.trans qo3
 refine W.seq ?_
 refine W.region ?_
 refine WL.x (X.lss (s12) (s11)) rfl ?_
 refine WL.e5 Nx.thn 0 10 11 12 13 (lt rfl (s0)) (lt rfl (s10)) (lt rfl (s11)) (lt rfl (s12)) (lh) ?_
 intro σ3 s0 s10 s11 s12 s13
 refine W.seq ?_
 refine W.cndp s13 (fun hlt => ?_) (fun hlt => ?_)
 ·
  have hkl : k < L.length := by omega
  have hdr : L.drop k = L[k] :: L.drop (k + 1) := List.drop_eq_getElem_cons hkl
  have hi9 := hin L[k] (List.getElem_mem hkl)
  have hzl := congrArg List.length heq
  rw [List.length_append, List.length_append] at hzl
  have hBk := hbk.1.size
  refine W.skip Nx.thn ?_
  refine W.seq ?_
  refine W.block ?_
  refine W.seq ?_
  refine W.region ?_
  refine WL.x (X.indexAddr Tryz.underlying115 el20 (s10) (s12) (by omega) (by omega)) rfl ?_
  refine WL.x (X.load pl20 (lh) (hbk.2 _ _ _ _ hg (by decide) hgb) (v := ptV 9 3 L[k]) (by rw [List.getElem?_toArray, show 0 + (k : Int).toNat * 1 = k by omega, List.getElem?_map, List.getElem?_eq_getElem hkl]; rfl)) rfl ?_
  refine WL.x (X.asg (lh)) rfl ?_
  refine WL.e5 Nx.thn 0 5 10 11 12 (jt2 rfl (lt rfl (s0))) (lh) (jt2 rfl (lt rfl (s10))) (jt2 rfl (lt rfl (s11))) (jt2 rfl (lt rfl (s12))) ?_
  intro σ4 s0 s5 s10 s11 s12
  refine W.seq ?_
  refine W.region ?_
  refine WL.x (X.mv (s5)) rfl ?_
  refine WL.x (X.tassS (st := 9) (it := 3) Tryz.underlying9 el9 (by decide) (lh)) rfl ?_
  refine WL.x (X.mv (lh)) rfl ?_
  refine WL.x (X.ex2_0 (lh)) rfl ?_
  refine WL.x (X.ex2_1 (lt rfl (lh))) rfl ?_
  refine WL.x (X.asg (lt rfl (lh))) rfl ?_
  refine WL.x (X.asg (lt rfl (lh))) rfl ?_
  refine WL.e7 Nx.thn 0 5 6 7 10 11 12 (jt4 rfl (jt2 rfl (lt rfl (s0)))) (jt4 rfl (jt2 rfl (lt rfl (s5)))) (lt rfl (lh)) (lh) (jt4 rfl (jt2 rfl (lt rfl (s10)))) (jt4 rfl (jt2 rfl (lt rfl (s11)))) (jt4 rfl (jt2 rfl (lt rfl (s12)))) ?_
  intro σ5 s0 s5 s6 s7 s10 s11 s12
  refine W.seq ?_
  refine W.seq ?_
  refine W.region ?_
  refine WL.x (X.mv (s5)) rfl ?_
  refine WL.x (X.tassN (st := 9) (it := 3) Tryz.underlying3 el3 (by decide) (lh)) rfl ?_
  refine WL.x (X.mv (lh)) rfl ?_
  refine WL.x (X.ex2_0 (lh)) rfl ?_
  refine WL.x (X.ex2_1 (lt rfl (lh))) rfl ?_
  refine WL.x (X.asg (lt rfl (lh))) rfl ?_
  refine WL.x (X.asg (lt rfl (lh))) rfl ?_
  refine WL.e8 Nx.thn 0 6 7 8 9 10 11 12 (jt4 rfl (jt2 rfl (lt rfl (s0)))) (jt4 rfl (jt2 rfl (lt rfl (s6)))) (jt4 rfl (jt2 rfl (lt rfl (s7)))) (lt rfl (lh)) (lh) (jt4 rfl (jt2 rfl (lt rfl (s10)))) (jt4 rfl (jt2 rfl (lt rfl (s11)))) (jt4 rfl (jt2 rfl (lt rfl (s12)))) ?_
  intro σ6 s0 s6 s7 s8 s9 s10 s11 s12
  refine W.seq ?_
  refine W.region ?_
  refine WL.x (X.mv (s9)) rfl ?_
  refine WL.e8 Nx.thn 0 6 7 8 10 11 12 26 (lt rfl (s0)) (lt rfl (s6)) (lt rfl (s7)) (lt rfl (s8)) (lt rfl (s10)) (lt rfl (s11)) (lt rfl (s12)) (lh) ?_
  intro σ7 s0 s6 s7 s8 s10 s11 s12 s26
  refine W.cnd s26 (fun hN => ?_) (fun hN => ?_)
  ·
   refine W.region ?_
   refine WL.x (X.mv (s8)) rfl ?_
   refine WL.call1 ce76 (lh) (itoa_ok L[k].num w1 hi9.1 hi9.2 (hT _ hbk.1)) rfl ?_
   rintro _ w2 ⟨rfl, ci⟩
   replace hw := hw.ch0 ci
   replace hbk := hbk.trans (BK.ch0 ci)
   replace hBk := Nat.le_trans hBk ci.size
   refine WL.x (X.asg (lh)) rfl ?_
   refine WL.x (X.asg lc) rfl ?_
   refine WL.e6 Nx.thn 0 6 7 10 11 12 (jt4 rfl (s0)) (lt rfl (lh)) (lh) (jt4 rfl (s10)) (jt4 rfl (s11)) (jt4 rfl (s12)) ?_
   intro σ8 s0 s6 s7 s10 s11 s12
   refine W.seq ?_
   refine W.seq ?_
   refine W.region ?_
   refine WL.x (X.mv (s7)) rfl ?_
   refine WL.x (X.not (lh)) rfl ?_
   refine WL.x (X.mv (lh)) rfl ?_
   refine WL.yes rfl rfl (lh) (by rfl) ?_
   refine WL.x (X.mv (jt2 rfl (lt rfl (s6)))) rfl ?_
   refine WL.yes rfl rfl (lt rfl (lh)) (by rfl) ?_
   refine WL.x (X.eqlS (lh) lc) rfl ?_
   refine WL.x (X.pickF (jt2 rfl (lh)) (by rfl) (lh)) rfl ?_
   refine WL.e6 Nx.thn 0 6 10 11 12 34 (jt4 rfl (jt2 rfl (s0))) (jt4 rfl (jt2 rfl (s6))) (jt4 rfl (jt2 rfl (s10))) (jt4 rfl (jt2 rfl (s11))) (jt4 rfl (jt2 rfl (s12))) (lh) ?_
   intro σ9 s0 s6 s10 s11 s12 s34
   refine W.cndp s34 (fun he => ?_) (fun he => ?_)
   ·
    have htx : L[k].txt = [] := by (rw [txt_N hN]; exact sb_no he)
    refine W.exit (Nx.xthn (Nx.xblk Nx.thn)) ?_
    refine W.region ?_
    refine WL.x (X.add (s12) lc (by omega) (by omega)) rfl ?_
    refine WL.x (X.mv (lh)) rfl ?_
    refine WL.e4 Nx.thn 0 10 11 12 (jt2 rfl (s0)) (jt2 rfl (s10)) (jt2 rfl (s11)) (lh) ?_
    intro σ10 s0 s10 s11 s12
    refine ⟨k + 1, by omega, ⟨s0.trans qo1.symm, s10.trans qo2.symm, s11.trans qo3.symm, trivial⟩, cur, f, s12, by omega, hw, (by rw [hdr, putF_skip htx] at heq; exact heq), (by rw [hdr, putF_skip htx] at heq2; exact heq2), hbk⟩
   ·
    have htx : L[k].txt ≠ [] := by (rw [txt_N hN]; exact sb_ne he)
    rw [hdr, putF_go htx] at hzl
    simp only [List.length_append] at hzl
    refine W.skip Nx.thn ?_
    have qo5 := s0
    have qo6 := s6
    have qo7 := s10
    have qo8 := s11
    have qo9 := s12
    refine W.seqJ (fun σ' w' => (σ' 0 = σ9 0 ∧ σ' 6 = σ9 6 ∧ σ' 10 = σ9 10 ∧ σ' 11 = σ9 11 ∧ σ' 12 = σ9 12 ∧ True) ∧ ∃ c2, IsW B b c2 f w' ∧ c2 = cur ++ (if f = true then [32] else []) ∧ BK b B w w') ?_ ?_
    ·
     refine W.seq ?_
     refine W.region ?_
     refine WL.x (X.mv (s0)) rfl ?_
     refine WL.x (X.nilck (lh)) rfl ?_
     refine WL.x (X.fieldAddr fd78_1 (lh)) rfl ?_
     obtain ⟨hB9, q9, v9, hq9, hb9, hown9⟩ := id hw
     refine WL.x (X.load pl4 (lh) hb9 (v := .bool f) rfl) rfl ?_
     refine WL.e6 Nx.thn 0 6 10 11 12 38 (jt4 rfl (s0)) (jt4 rfl (s6)) (jt4 rfl (s10)) (jt4 rfl (s11)) (jt4 rfl (s12)) (lh) ?_
     intro σ11 s0 s6 s10 s11 s12 s38
     refine W.cnd s38 (fun hf => ?_) (fun hf => ?_)
     ·
      refine W.region ?_
      refine WL.x (X.mv (s0)) rfl ?_
      refine WL.x (X.nilck (lh)) rfl ?_
      refine WL.x (X.fieldAddr fd78_0 (lh)) rfl ?_
      refine WL.call2 ce77 (lh) lc (wb_ok B b cur f 32 w2 hw (by rw [hf] at hzl; simp only [if_true, List.length_singleton] at hzl; omega) (by omega)) rfl ?_
      rintro _ w3 ⟨hw2, k2⟩
      have ck2 := k2.1
      refine WL.e5 Nx.thn 0 6 10 11 12 (jt4 rfl (s0)) (jt4 rfl (s6)) (jt4 rfl (s10)) (jt4 rfl (s11)) (jt4 rfl (s12)) ?_
      intro σ12 s0 s6 s10 s11 s12
      refine ⟨⟨s0.trans qo5.symm, s6.trans qo6.symm, s10.trans qo7.symm, s11.trans qo8.symm, s12.trans qo9.symm, trivial⟩, _, hw2, (by rw [hf]; rfl), hbk.trans k2⟩
     ·
      refine W.skip Nx.thn ?_
      refine ⟨⟨s0.trans qo5.symm, s6.trans qo6.symm, s10.trans qo7.symm, s11.trans qo8.symm, s12.trans qo9.symm, trivial⟩, cur, hw, (by rw [hf]; simp), hbk⟩
    ·
     rintro σ13 w4 ⟨⟨f0, f6, f10, f11, f12, _⟩, c2, hw2, hc2, hbk2⟩
     have s0 := f0.trans qo5
     have s6 := f6.trans qo6
     have s10 := f10.trans qo7
     have s11 := f11.trans qo8
     have s12 := f12.trans qo9
     refine W.seq ?_
     refine W.region ?_
     refine WL.x (X.mv (s0)) rfl ?_
     refine WL.x (X.nilck (lh)) rfl ?_
     refine WL.x (X.fieldAddr fd78_0 (lh)) rfl ?_
     refine WL.x (X.mv (jt2 rfl (lt rfl (s6)))) rfl ?_
     refine WL.call2 ce78 (lt rfl (lh)) (lh) (ws_ok B b c2 f _ w4 hw2 (by have h8 := sb_len L[k].str; have h7 : (bs (Lib.itoa L[k].num)).size = (Lib.itoa L[k].num).length := size_bs _; have hc2l := congrArg List.length hc2; rw [List.length_append] at hc2l; (rw [txt_N hN] at hzl; omega)) (by have := hbk2.1.size; omega)) rfl ?_
     rintro _ w5 ⟨hw3, k3⟩
     have hw3 : IsW B b (c2 ++ L[k].txt) f w5 := by (rw [txt_N hN]; exact hw3)
     refine WL.e4 Nx.thn 0 10 11 12 (jt4 rfl (lt rfl (s0))) (jt4 rfl (lt rfl (s10))) (jt4 rfl (lt rfl (s11))) (jt4 rfl (lt rfl (s12))) ?_
     intro σ14 s0 s10 s11 s12
     refine W.region ?_
     refine WL.x (X.mv (s0)) rfl ?_
     refine WL.x (X.nilck (lh)) rfl ?_
     refine WL.x (X.fieldAddr fd78_1 (lh)) rfl ?_
     obtain ⟨hB9, q9, v9, hq9, hb9, hown9⟩ := id hw3
     have hne9 := own_ne_w hown9 hb9
     refine WL.store el4 (lh) lc rfl hb9 (show 0 + 2 < 3 by decide) ?_
     intro w6 us
     have hwE : IsW B b (c2 ++ L[k].txt) true w6 := ⟨hB9, q9, v9, hq9, us.at_, own_ch hown9 us.ch (fun j hj e => hne9 (e ▸ hj))⟩
     have kE : BK b B w5 w6 := BK.of us.ch (fun j e => .inl e) hB9
     have cus := us.ch
     refine WL.e4 (Nx.blk Nx.thn) 0 10 11 12 (jt2 rfl (lt rfl (s0))) (jt2 rfl (lt rfl (s10))) (jt2 rfl (lt rfl (s11))) (jt2 rfl (lt rfl (s12))) ?_
     intro σ15 s0 s10 s11 s12
     refine W.region ?_
     refine WL.x (X.add (s12) lc (by omega) (by omega)) rfl ?_
     refine WL.x (X.mv (lh)) rfl ?_
     refine WL.e4 Nx.thn 0 10 11 12 (jt2 rfl (s0)) (jt2 rfl (s10)) (jt2 rfl (s11)) (lh) ?_
     intro σ16 s0 s10 s11 s12
     refine ⟨k + 1, by omega, ⟨s0.trans qo1.symm, s10.trans qo2.symm, s11.trans qo3.symm, trivial⟩, _, true, s12, by omega, hwE, (by rw [hdr, putF_go htx] at heq; rw [← heq, hc2]; simp only [List.append_assoc]), (by rw [hdr, putF_go htx] at heq2; exact heq2), (hbk2.trans k3).trans kE⟩
  ·
   refine W.skip Nx.thn ?_
   refine W.seq ?_
   refine W.seq ?_
   refine W.region ?_
   refine WL.x (X.mv (s7)) rfl ?_
   refine WL.x (X.not (lh)) rfl ?_
   refine WL.x (X.mv (lh)) rfl ?_
   refine WL.yes rfl rfl (lh) (by (rw [hN]; rfl)) ?_
   refine WL.x (X.mv (jt2 rfl (lt rfl (s6)))) rfl ?_
   refine WL.yes rfl rfl (lt rfl (lh)) (by (rw [hN]; rfl)) ?_
   refine WL.x (X.eqlS (lh) lc) rfl ?_
   refine WL.x (X.pickF (jt2 rfl (lh)) (by (rw [hN]; rfl)) (lh)) rfl ?_
   refine WL.e6 Nx.thn 0 6 10 11 12 34 (jt4 rfl (jt2 rfl (s0))) (jt4 rfl (jt2 rfl (s6))) (jt4 rfl (jt2 rfl (s10))) (jt4 rfl (jt2 rfl (s11))) (jt4 rfl (jt2 rfl (s12))) (lh) ?_
   intro σ17 s0 s6 s10 s11 s12 s34
   refine W.cndp s34 (fun he => ?_) (fun he => ?_)
   ·
    have htx : L[k].txt = [] := by (rw [txt_S hN]; exact sb_no he)
    refine W.exit (Nx.xthn (Nx.xblk Nx.thn)) ?_
    refine W.region ?_
    refine WL.x (X.add (s12) lc (by omega) (by omega)) rfl ?_
    refine WL.x (X.mv (lh)) rfl ?_
    refine WL.e4 Nx.thn 0 10 11 12 (jt2 rfl (s0)) (jt2 rfl (s10)) (jt2 rfl (s11)) (lh) ?_
    intro σ18 s0 s10 s11 s12
    refine ⟨k + 1, by omega, ⟨s0.trans qo1.symm, s10.trans qo2.symm, s11.trans qo3.symm, trivial⟩, cur, f, s12, by omega, hw, (by rw [hdr, putF_skip htx] at heq; exact heq), (by rw [hdr, putF_skip htx] at heq2; exact heq2), hbk⟩
   ·
    have htx : L[k].txt ≠ [] := by (rw [txt_S hN]; exact sb_ne he)
    rw [hdr, putF_go htx] at hzl
    simp only [List.length_append] at hzl
    refine W.skip Nx.thn ?_
    have qo11 := s0
    have qo12 := s6
    have qo13 := s10
    have qo14 := s11
    have qo15 := s12
    refine W.seqJ (fun σ' w' => (σ' 0 = σ17 0 ∧ σ' 6 = σ17 6 ∧ σ' 10 = σ17 10 ∧ σ' 11 = σ17 11 ∧ σ' 12 = σ17 12 ∧ True) ∧ ∃ c2, IsW B b c2 f w' ∧ c2 = cur ++ (if f = true then [32] else []) ∧ BK b B w w') ?_ ?_
    ·
     refine W.seq ?_
     refine W.region ?_
     refine WL.x (X.mv (s0)) rfl ?_
     refine WL.x (X.nilck (lh)) rfl ?_
     refine WL.x (X.fieldAddr fd78_1 (lh)) rfl ?_
     obtain ⟨hB9, q9, v9, hq9, hb9, hown9⟩ := id hw
     refine WL.x (X.load pl4 (lh) hb9 (v := .bool f) rfl) rfl ?_
     refine WL.e6 Nx.thn 0 6 10 11 12 38 (jt4 rfl (s0)) (jt4 rfl (s6)) (jt4 rfl (s10)) (jt4 rfl (s11)) (jt4 rfl (s12)) (lh) ?_
     intro σ19 s0 s6 s10 s11 s12 s38
     refine W.cnd s38 (fun hf => ?_) (fun hf => ?_)
     ·
      refine W.region ?_
      refine WL.x (X.mv (s0)) rfl ?_
      refine WL.x (X.nilck (lh)) rfl ?_
      refine WL.x (X.fieldAddr fd78_0 (lh)) rfl ?_
      refine WL.call2 ce77 (lh) lc (wb_ok B b cur f 32 w1 hw (by rw [hf] at hzl; simp only [if_true, List.length_singleton] at hzl; omega) (by omega)) rfl ?_
      rintro _ w7 ⟨hw2, k2⟩
      have ck2 := k2.1
      refine WL.e5 Nx.thn 0 6 10 11 12 (jt4 rfl (s0)) (jt4 rfl (s6)) (jt4 rfl (s10)) (jt4 rfl (s11)) (jt4 rfl (s12)) ?_
      intro σ20 s0 s6 s10 s11 s12
      refine ⟨⟨s0.trans qo11.symm, s6.trans qo12.symm, s10.trans qo13.symm, s11.trans qo14.symm, s12.trans qo15.symm, trivial⟩, _, hw2, (by rw [hf]; rfl), hbk.trans k2⟩
     ·
      refine W.skip Nx.thn ?_
      refine ⟨⟨s0.trans qo11.symm, s6.trans qo12.symm, s10.trans qo13.symm, s11.trans qo14.symm, s12.trans qo15.symm, trivial⟩, cur, hw, (by rw [hf]; simp), hbk⟩
    ·
     rintro σ21 w8 ⟨⟨f0, f6, f10, f11, f12, _⟩, c2, hw2, hc2, hbk2⟩
     have s0 := f0.trans qo11
     have s6 := f6.trans qo12
     have s10 := f10.trans qo13
     have s11 := f11.trans qo14
     have s12 := f12.trans qo15
     refine W.seq ?_
     refine W.region ?_
     refine WL.x (X.mv (s0)) rfl ?_
     refine WL.x (X.nilck (lh)) rfl ?_
     refine WL.x (X.fieldAddr fd78_0 (lh)) rfl ?_
     refine WL.x (X.mv (jt2 rfl (lt rfl (s6)))) rfl ?_
     refine WL.call2 ce78 (lt rfl (lh)) (lh) (ws_ok B b c2 f _ w8 hw2 (by have h8 := sb_len L[k].str; have h7 : (bs (Lib.itoa L[k].num)).size = (Lib.itoa L[k].num).length := size_bs _; have hc2l := congrArg List.length hc2; rw [List.length_append] at hc2l; (rw [txt_S hN] at hzl; omega)) (by have := hbk2.1.size; omega)) rfl ?_
     rintro _ w9 ⟨hw3, k3⟩
     have hw3 : IsW B b (c2 ++ L[k].txt) f w9 := by (rw [txt_S hN]; exact hw3)
     refine WL.e4 Nx.thn 0 10 11 12 (jt4 rfl (lt rfl (s0))) (jt4 rfl (lt rfl (s10))) (jt4 rfl (lt rfl (s11))) (jt4 rfl (lt rfl (s12))) ?_
     intro σ22 s0 s10 s11 s12
     refine W.region ?_
     refine WL.x (X.mv (s0)) rfl ?_
     refine WL.x (X.nilck (lh)) rfl ?_
     refine WL.x (X.fieldAddr fd78_1 (lh)) rfl ?_
     obtain ⟨hB9, q9, v9, hq9, hb9, hown9⟩ := id hw3
     have hne9 := own_ne_w hown9 hb9
     refine WL.store el4 (lh) lc rfl hb9 (show 0 + 2 < 3 by decide) ?_
     intro w10 us
     have hwE : IsW B b (c2 ++ L[k].txt) true w10 := ⟨hB9, q9, v9, hq9, us.at_, own_ch hown9 us.ch (fun j hj e => hne9 (e ▸ hj))⟩
     have kE : BK b B w9 w10 := BK.of us.ch (fun j e => .inl e) hB9
     have cus := us.ch
     refine WL.e4 (Nx.blk Nx.thn) 0 10 11 12 (jt2 rfl (lt rfl (s0))) (jt2 rfl (lt rfl (s10))) (jt2 rfl (lt rfl (s11))) (jt2 rfl (lt rfl (s12))) ?_
     intro σ23 s0 s10 s11 s12
     refine W.region ?_
     refine WL.x (X.add (s12) lc (by omega) (by omega)) rfl ?_
     refine WL.x (X.mv (lh)) rfl ?_
     refine WL.e4 Nx.thn 0 10 11 12 (jt2 rfl (s0)) (jt2 rfl (s10)) (jt2 rfl (s11)) (lh) ?_
     intro σ24 s0 s10 s11 s12
     refine ⟨k + 1, by omega, ⟨s0.trans qo1.symm, s10.trans qo2.symm, s11.trans qo3.symm, trivial⟩, _, true, s12, by omega, hwE, (by rw [hdr, putF_go htx] at heq; rw [← heq, hc2]; simp only [List.append_assoc]), (by rw [hdr, putF_go htx] at heq2; exact heq2), (hbk2.trans k3).trans kE⟩
 ·
  refine W.exit (Nx.xthn (Nx.xthn (Nx.xblk Nx.n0))) ?_
  have hke : L.drop k = [] := List.drop_eq_nil_iff.2 (by omega)
  rw [hke] at heq heq2
  have heq : cur ++ [] = _ := heq
  have heq2 : f = _ := heq2
  rw [List.append_nil] at heq
  rw [← heq, ← heq2]
  exact ⟨hw, hbk⟩
set_option maxHeartbeats 800000 in
theorem line_ok (B b : Nat) (l : Bs) (fr : Bool) (w : World) (h : IsW B b l fr w) (hlen : l.length + 1 ≤ 140737488355328) (hBw : B ≤ w.heap.size) :
  Sg.Ret Tryz.prog 34 #[.pointer (some ⟨b, 0, none⟩)] w fun _ w' => IsW B b (l ++ [10]) false w' ∧ BK b B w w' := by
 refine enter0 (n := 9) (l := [.pointer (some ⟨b, 0, none⟩)]) Tryz.func34 rfl rfl rfl rfl ?_
 refine W.g1 0 (v1 := .pointer (some ⟨b, 0, none⟩)) rfl ?_; intro σ s0
 refine W.seq ?_
 refine W.region ?_
 refine WL.x (X.mv (s0)) rfl ?_
 refine WL.x (X.nilck (lh)) rfl ?_
 refine WL.x (X.fieldAddr fd78_0 (lh)) rfl ?_
 refine WL.call2 ce77 (lh) lc (wb_ok B b l fr 10 w h hlen hBw) rfl ?_
 rintro _ w1 ⟨hw2, k2⟩
 have ck2 := k2.1
 refine WL.e1 Nx.thn 0 (jt4 rfl (s0)) ?_
 intro σ1 s0
 refine W.region ?_
 refine WL.x (X.mv (s0)) rfl ?_
 refine WL.x (X.nilck (lh)) rfl ?_
 refine WL.x (X.fieldAddr fd78_1 (lh)) rfl ?_
 obtain ⟨hB9, q9, v9, hq9, hb9, hown9⟩ := id hw2
 have hne9 := own_ne_w hown9 hb9
 refine WL.store el4 (lh) lc rfl hb9 (show 0 + 2 < 3 by decide) ?_
 intro w2 us
 have hwE : IsW B b (l ++ [10]) false w2 := ⟨hB9, q9, v9, hq9, us.at_, own_ch hown9 us.ch (fun j hj e => hne9 (e ▸ hj))⟩
 have kE : BK b B w1 w2 := BK.of us.ch (fun j e => .inl e) hB9
 have cus := us.ch
 refine WL.e0 Nx.n0  ?_
 intro σ2 
 exact ⟨hwE, k2.trans kE⟩
theorem either_ok (x : Bool) (a b : ByteArray) (w : World) :
  Sg.Ret Tryz.prog 35 #[.bool x, .string a, .string b] w fun v w' => v = .string (bsel x a b) ∧ w = w' := by
 refine enter1 (n := 10) (l := [.bool x, .string a, .string b]) Tryz.func35 rfl rfl rfl rfl ?_
 refine W.g3 0 1 2 (v1 := .bool x) (v2 := .string a) (v3 := .string b) rfl rfl rfl ?_; intro σ s0 s1 s2
 refine W.seq ?_
 refine W.region ?_
 refine WL.x (X.asg lc) rfl ?_
 refine WL.e3 Nx.thn 0 1 2 (lt rfl (s0)) (lt rfl (s1)) (lt rfl (s2)) ?_
 intro σ1 s0 s1 s2
 refine W.seq ?_
 refine W.seq ?_
 refine W.region ?_
 refine WL.x (X.mv (s0)) rfl ?_
 refine WL.e3 Nx.thn 1 2 7 (lt rfl (s1)) (lt rfl (s2)) (lh) ?_
 intro σ2 s1 s2 s7
 refine W.cnd s7 (fun hx => ?_) (fun hx => ?_)
 ·
  refine W.seq ?_
  refine W.region ?_
  refine WL.x (X.mv (s1)) rfl ?_
  refine WL.x (X.asg (lh)) rfl ?_
  refine WL.e1 Nx.thn 6 (lh) ?_
  intro σ3 s6
  refine W.ret1 (Nx.rthn Nx.f1) s6 ?_
  exact ⟨by rw [hx]; rfl, rfl⟩
 ·
  refine W.skip Nx.thn ?_
  refine W.seq ?_
  refine W.region ?_
  refine WL.x (X.mv (s2)) rfl ?_
  refine WL.x (X.asg (lh)) rfl ?_
  refine WL.e1 Nx.thn 6 (lh) ?_
  intro σ4 s6
  refine W.ret1 Nx.f1 s6 ?_
  exact ⟨by rw [hx]; rfl, rfl⟩
theorem reither_ok (x : Bool) (a b : ByteArray) (w : World) :
  Sg.Ret Tryz.prog 42 #[.bool x, .string a, .string b] w fun v w' => v = .string (bsel x a b) ∧ w = w' := by
 refine enter1 (n := 10) (l := [.bool x, .string a, .string b]) Tryz.func42 rfl rfl rfl rfl ?_
 refine W.g3 0 1 2 (v1 := .bool x) (v2 := .string a) (v3 := .string b) rfl rfl rfl ?_; intro σ s0 s1 s2
 refine W.seq ?_
 refine W.region ?_
 refine WL.x (X.asg lc) rfl ?_
 refine WL.e3 Nx.thn 0 1 2 (lt rfl (s0)) (lt rfl (s1)) (lt rfl (s2)) ?_
 intro σ1 s0 s1 s2
 refine W.seq ?_
 refine W.seq ?_
 refine W.region ?_
 refine WL.x (X.mv (s0)) rfl ?_
 refine WL.e3 Nx.thn 1 2 7 (lt rfl (s1)) (lt rfl (s2)) (lh) ?_
 intro σ2 s1 s2 s7
 refine W.cnd s7 (fun hx => ?_) (fun hx => ?_)
 ·
  refine W.seq ?_
  refine W.region ?_
  refine WL.x (X.mv (s1)) rfl ?_
  refine WL.x (X.asg (lh)) rfl ?_
  refine WL.e1 Nx.thn 6 (lh) ?_
  intro σ3 s6
  refine W.ret1 (Nx.rthn Nx.f1) s6 ?_
  exact ⟨by rw [hx]; rfl, rfl⟩
 ·
  refine W.skip Nx.thn ?_
  refine W.seq ?_
  refine W.region ?_
  refine WL.x (X.mv (s2)) rfl ?_
  refine WL.x (X.asg (lh)) rfl ?_
  refine WL.e1 Nx.thn 6 (lh) ?_
  intro σ4 s6
  refine W.ret1 Nx.f1 s6 ?_
  exact ⟨by rw [hx]; rfl, rfl⟩
end Go.Proofs.YtbnllchicnmkiaaGreatDoor
end

section
set_option linter.unusedVariables false
set_option linter.unusedSimpArgs false
set_option maxRecDepth 100000
namespace Go.Proofs.YtbnllchicnmkiaaGreatDoor
open Go Go.RowKit Sg

theorem itoa_ne (z : Int) : Lib.itoa z ≠ [] := by
  unfold Lib.itoa
  split
  · simp
  · exact dd_ne _
theorem put_s {fr : Bool} {s : ByteArray} {r : List Pt} (h : sb s ≠ []) : putF fr (.s s :: r) = ((if fr = true then [32] else []) ++ (sb s ++ (putF true r).1), (putF true r).2) := putF_go h
theorem put_n {fr : Bool} {z : Int} {r : List Pt} : putF fr (.n z :: r) = ((if fr = true then [32] else []) ++ (Lib.itoa z ++ (putF true r).1), (putF true r).2) := putF_go (itoa_ne z)
theorem put_sT {s : ByteArray} {r : List Pt} (h : sb s ≠ []) : putF true (.s s :: r) = (wT s ++ (putF true r).1, (putF true r).2) := put_s h
theorem put_sF {s : ByteArray} {r : List Pt} (h : sb s ≠ []) : putF false (.s s :: r) = (sb s ++ (putF true r).1, (putF true r).2) := put_s h
theorem put_nT {z : Int} {r : List Pt} : putF true (.n z :: r) = (valT z ++ (putF true r).1, (putF true r).2) := put_n
theorem put_nil (fr : Bool) : putF fr [] = ([], fr) := by unfold putF; rfl
theorem put_key {k : ByteArray} {r : List Pt} : putF true (.s ⟨#[40]⟩ :: .s k :: .s ⟨#[41]⟩ :: r) = (keyT k ++ (putF true r).1, (putF true r).2) := by
  rw [put_sT (by decide)]
  unfold keyT
  by_cases h : k = no
  · subst h
    rw [putF_skip (show (Pt.s no).txt = [] from rfl), put_sT (by decide), if_pos rfl]; rfl
  · have hk : sb k ≠ [] := sb_ne h
    rw [put_sT hk, put_sT (by decide), if_neg h]
    simp only [wT, List.append_assoc, List.cons_append, List.nil_append]
    rfl
theorem bsel_ne {x : Bool} {a b : ByteArray} (ha : sb a ≠ []) (hb : sb b ≠ []) : sb (bsel x a b) ≠ [] := by cases x; exact hb; exact ha
theorem kindN_ne {k : Int} (h : 1 ≤ k ∧ k ≤ 11) : sb (kindN k) ≠ [] := (kind_back h).2.1
theorem levelN_ne {k : Int} (h : 0 ≤ k ∧ k ≤ 5) : sb (levelN k) ≠ [] := (level_back h).2.1
theorem labelN_ne {k : Int} (h : k = 1 ∨ k = 2 ∨ k = 4 ∨ k = 8) : sb (labelN k) ≠ [] := (label_back h).2.1
theorem answerN_ne {k : Int} (h : 0 ≤ k ∧ k ≤ 3) : sb (answerN k) ≠ [] := (answer_back h).2.1
theorem kindN_at {k : Int} (h : 1 ≤ k ∧ k ≤ 11) : (tabV (no :: KWS))[k.toNat]? = some (.string (kindN k)) := by
  have : k = 1 ∨ k = 2 ∨ k = 3 ∨ k = 4 ∨ k = 5 ∨ k = 6 ∨ k = 7 ∨ k = 8 ∨ k = 9 ∨ k = 10 ∨ k = 11 := by omega
  rcases this with rfl | rfl | rfl | rfl | rfl | rfl | rfl | rfl | rfl | rfl | rfl <;> rfl
theorem answerN_at {k : Int} (h : 0 ≤ k ∧ k ≤ 3) : (tabV AWS)[k.toNat]? = some (.string (answerN k)) := by
  have : k = 0 ∨ k = 1 ∨ k = 2 ∨ k = 3 := by omega
  rcases this with rfl | rfl | rfl | rfl <;> rfl
theorem pin_nil : ∀ p ∈ ([] : List Pt), in64 p.num := fun _ h => by cases h
theorem pin_s {s : ByteArray} {r : List Pt} (h : ∀ p ∈ r, in64 p.num) : ∀ p ∈ Pt.s s :: r, in64 p.num := fun p hp => by
  rcases List.mem_cons.1 hp with rfl | hp
  · show in64 0; exact ⟨by decide, by decide⟩
  · exact h p hp
theorem pin_n {z : Int} {r : List Pt} (hz : in64 z) (h : ∀ p ∈ r, in64 p.num) : ∀ p ∈ Pt.n z :: r, in64 p.num := fun p hp => by
  rcases List.mem_cons.1 hp with rfl | hp
  · exact hz
  · exact h p hp
/-- A report's text, piece by piece. -/
def anH (a : QAn) : Bs := sb wAnomaly ++ (wT (kindN a.1) ++ (valT a.2.1 ++ (valT a.2.2.1 ++ (valT a.2.2.2.1 ++ (keyT a.2.2.2.2.1 ++ (valT a.2.2.2.2.2.1 ++ (wT (bsel a.2.2.2.2.2.2.2.1 wReal wPlain) ++ wT (levelN a.2.2.2.2.2.2.2.2))))))))
theorem anT_eq (a : QAn) : anT a = anH a ++ (a.2.2.2.2.2.2.1.flatMap whyT ++ [10]) := by unfold anT anH; simp only [List.append_assoc]
def repA (x : QRep) : Bs := sb wTxns ++ valT x.1
def repB (x : QRep) : Bs := sb wUnique ++ wT (bsel x.2.1 wYes wNo)
def repL (x : QRep) : Bs := sb wLevel ++ wT (levelN x.2.2.2.1)
def repW (x : QRep) : Bs := sb wAnswer ++ wT (answerN x.2.2.2.2.1)
def repH (x : QRep) : Bs := repA x ++ [10] ++ repB x ++ [10]
theorem repT_eq (x : QRep) : repT x = repH x ++ x.2.2.1.flatMap anT ++ repL x ++ [10] ++ repW x ++ ordT x.2.2.2.2.1 x.2.2.2.2.2 ++ [10] := by
  unfold repT repTz repH repA repB repL repW
  simp only [List.append_assoc, List.cons_append, List.nil_append]
theorem ordT_yes {a : Int} (h : a = 1) (o : List Int) : ordT a o = [32, 40] ++ (o.flatMap valT ++ [32, 41]) := by unfold ordT; rw [if_pos h]
theorem ordT_no {a : Int} (h : a ≠ 1) (o : List Int) : ordT a o = [] := by unfold ordT; rw [if_neg h]
theorem pt_A (x : QRep) : putF false [.s wTxns, .n x.1] = (repA x, true) := by rw [put_sF (by decide), put_nT, put_nil]; simp only [repA, List.append_nil]
theorem pt_B (x : QRep) : putF false [.s wUnique, .s (bsel x.2.1 wYes wNo)] = (repB x, true) := by rw [put_sF (by decide), put_sT (bsel_ne (by decide) (by decide)), put_nil]; simp only [repB, List.append_nil]
theorem pt_L {x : QRep} (h : 0 ≤ x.2.2.2.1 ∧ x.2.2.2.1 ≤ 5) : putF false [.s wLevel, .s (levelN x.2.2.2.1)] = (repL x, true) := by rw [put_sF (by decide), put_sT (levelN_ne h), put_nil]; simp only [repL, List.append_nil]
theorem pt_W {x : QRep} (h : 0 ≤ x.2.2.2.2.1 ∧ x.2.2.2.2.1 ≤ 3) : putF false [.s wAnswer, .s (answerN x.2.2.2.2.1)] = (repW x, true) := by rw [put_sF (by decide), put_sT (answerN_ne h), put_nil]; simp only [repW, List.append_nil]
theorem pt_an {a : QAn} (h1 : 1 ≤ a.1 ∧ a.1 ≤ 11) (h2 : 0 ≤ a.2.2.2.2.2.2.2.2 ∧ a.2.2.2.2.2.2.2.2 ≤ 5) : putF false [.s wAnomaly, .s (kindN a.1), .n a.2.1, .n a.2.2.1, .n a.2.2.2.1, .s ⟨#[40]⟩, .s a.2.2.2.2.1, .s ⟨#[41]⟩, .n a.2.2.2.2.2.1, .s (bsel a.2.2.2.2.2.2.2.1 wReal wPlain), .s (levelN a.2.2.2.2.2.2.2.2)] = (anH a, true) := by
  rw [put_sF (by decide), put_sT (kindN_ne h1), put_nT, put_nT, put_nT, put_key, put_nT, put_sT (bsel_ne (by decide) (by decide)), put_sT (levelN_ne h2), put_nil]
  simp only [anH, List.append_nil]
theorem pt_why {x : QWhy} (h : x.2.2.1 = 1 ∨ x.2.2.1 = 2 ∨ x.2.2.1 = 4 ∨ x.2.2.1 = 8) : putF true [.s ⟨#[91]⟩, .n x.1, .s (labelN x.2.2.1), .n x.2.1, .s ⟨#[40]⟩, .s x.2.2.2.1, .s ⟨#[41]⟩, .n x.2.2.2.2.1, .n x.2.2.2.2.2.1, .s (bsel x.2.2.2.2.2.2.1 wNil wValue), .s (bsel x.2.2.2.2.2.2.2 wCond wSure), .s ⟨#[93]⟩] = (whyT x, true) := by
  rw [put_sT (by decide), put_nT, put_sT (labelN_ne h), put_nT, put_key, put_nT, put_nT, put_sT (bsel_ne (by decide) (by decide)), put_sT (bsel_ne (by decide) (by decide)), put_sT (by decide), put_nil]
  unfold whyT
  simp only [List.append_nil]
  rfl
theorem pt_o : putF true [.s ⟨#[40]⟩] = ([32, 40], true) := by rw [put_sT (by decide), put_nil]; rfl
theorem pt_c : putF true [.s ⟨#[41]⟩] = ([32, 41], true) := by rw [put_sT (by decide), put_nil]; rfl
theorem pt_n (z : Int) : putF true [.n z] = (valT z, true) := by rw [put_nT, put_nil, List.append_nil]
theorem fm_len {α : Type} {f : α → Bs} {B : Nat} : ∀ {l : List α}, (∀ x ∈ l, (f x).length ≤ B) → (l.flatMap f).length ≤ l.length * B
  | [], _ => Nat.zero_le _
  | x :: l, h => by
    rw [List.flatMap_cons, List.length_append, List.length_cons, Nat.add_mul, Nat.one_mul]
    have h1 := h x List.mem_cons_self
    have h2 := fm_len (f := f) (B := B) (l := l) (fun y hy => h y (List.mem_cons_of_mem _ hy))
    omega
theorem fm_take_len {α : Type} {f : α → Bs} {B M : Nat} {l : List α} (k : Nat) (h : ∀ x ∈ l, (f x).length ≤ B) (hM : l.length ≤ M) : ((l.take k).flatMap f).length ≤ M * B :=
  Nat.le_trans (fm_len fun x hx => h x (List.mem_of_mem_take hx)) (Nat.mul_le_mul_right B (Nat.le_trans (by rw [List.length_take]; omega) hM))
/-- What holds of a report that may be, for printing. -/
structure PrOk (x : QRep) : Prop where
  may : mayR keyE x = true
  num : NumQ x
theorem PrOk.an {x : QRep} (h : PrOk x) {a : QAn} (ha : a ∈ x.2.2.1) : mayA keyE a = true ∧ NumA a := ⟨(mayR_of h.may).2.2.2.2.2.2 a ha, h.num.2.1 a ha⟩
theorem an_len {a : QAn} (hm : mayA keyE a = true) (hn : NumA a) : (anH a).length ≤ 400 ∧ (∀ w ∈ a.2.2.2.2.2.2.1, (whyT w).length ≤ 150) ∧ (anT a).length ≤ 46000 := by
  obtain ⟨m1, m2, m3, m4, m5⟩ := mayA_of hm
  have hw : ∀ w ∈ a.2.2.2.2.2.2.1, w.2.2.2.1.size ≤ 6 := fun w hw => keyE_len (mayW_of (m5 w hw)).2
  have hT := anT_len hn (keyE_len m2) m4 hw
  obtain ⟨n1, n2, n3, n4, n5⟩ := hn
  refine ⟨?_, fun w h => whyT_len (n5 w h) (hw w h), hT⟩
  have a1 := valT_len n1
  have a2 := valT_len n2
  have a3 := valT_len n3
  have a4 := valT_len n4
  have a5 := keyT_len (keyE_len m2)
  have a6 := wT_len (nameW_len (l := no :: KWS) (B := 8) (by decide) a.1)
  have a7 := wT_len (bsel_len (b := a.2.2.2.2.2.2.2.1) (x := wReal) (y := wPlain) (B := 5) (by decide) (by decide))
  have a8 := wT_len (nameW_len (l := VWS) (B := 7) (by decide) a.2.2.2.2.2.2.2.2)
  have b1 : (sb wAnomaly).length = 7 := rfl
  unfold anH kindN levelN
  simp only [List.length_append]
  omega
theorem PrOk.lens {x : QRep} (h : PrOk x) : (repA x).length ≤ 40 ∧ (repB x).length ≤ 20 ∧ (repL x).length ≤ 20 ∧ (repW x).length ≤ 20 ∧ (∀ k, ((x.2.2.1.take k).flatMap anT).length ≤ 46000000) ∧ (∀ k, ((x.2.2.2.2.2.take k).flatMap valT).length ≤ 6600) := by
  obtain ⟨m1, m2, m3, m4, m5, m6, m7⟩ := mayR_of h.may
  have a1 := valT_len h.num.1
  have a4 := wT_len (bsel_len (b := x.2.1) (x := wYes) (y := wNo) (B := 3) (by decide) (by decide))
  have a5 := wT_len (nameW_len (l := VWS) (B := 7) (by decide) x.2.2.2.1)
  have a6 := wT_len (nameW_len (l := AWS) (B := 7) (by decide) x.2.2.2.2.1)
  have b1 : (sb wTxns).length = 4 := rfl
  have b2 : (sb wUnique).length = 6 := rfl
  have b3 : (sb wLevel).length = 5 := rfl
  have b4 : (sb wAnswer).length = 6 := rfl
  refine ⟨?_, ?_, ?_, ?_, fun k => fm_take_len (M := 1000) (B := 46000) k (fun a ha => (an_len (h.an ha).1 (h.an ha).2).2.2) m2, fun k => fm_take_len (M := 300) (B := 22) k (fun z hz => valT_len (h.num.2.2 z hz)) m5⟩
  · unfold repA; rw [List.length_append]; omega
  · unfold repB; rw [List.length_append]; omega
  · unfold repL levelN; rw [List.length_append]; omega
  · unfold repW answerN; rw [List.length_append]; omega
/-- A report's print; its number. -/
def prQ (x : QRep) : Bs := if mayR keyE x = true then repT x else []
def prE (x : QRep) : Int := if mayR keyE x = true then 0 else 1
theorem prQ_yes {x : QRep} (h : mayR keyE x = true) : prQ x = repT x ∧ prE x = 0 := by unfold prQ prE; rw [if_pos h, if_pos h]; exact ⟨rfl, rfl⟩
theorem prQ_no {x : QRep} (h : mayR keyE x = false) : prQ x = [] ∧ prE x = 1 := by unfold prQ prE; rw [h]; exact ⟨rfl, rfl⟩

end Go.Proofs.YtbnllchicnmkiaaGreatDoor
end

section
set_option linter.unusedVariables false
set_option linter.unusedSimpArgs false
set_option maxRecDepth 100000
namespace Go.Proofs.YtbnllchicnmkiaaGreatDoor
open Go Go.RowKit Sg
theorem ce106 : Sg.Callee Tryz.prog 106 := ⟨_, Tryz.func106, by decide, rfl⟩
theorem ce85 : Sg.Callee Tryz.prog 85 := ⟨_, Tryz.func85, by decide, rfl⟩
theorem ce82 : Sg.Callee Tryz.prog 82 := ⟨_, Tryz.func82, by decide, rfl⟩
theorem ce41 : Sg.Callee Tryz.prog 41 := ⟨_, Tryz.func41, by decide, rfl⟩
theorem ce83 : Sg.Callee Tryz.prog 83 := ⟨_, Tryz.func83, by decide, rfl⟩
theorem ce42 : Sg.Callee Tryz.prog 42 := ⟨_, Tryz.func42, by decide, rfl⟩
theorem ce44 : Sg.Callee Tryz.prog 44 := ⟨_, Tryz.func44, by decide, rfl⟩

theorem dd_len {u : Nat} (h : u ≤ 9223372036854775808) : (Lib.decDigits u).length ≤ 21 := by
  by_cases h0 : u = 0
  · subst h0; rw [dd_zero]; decide
  · have := Lib.itoa_length_le (-(u : Int)) (by omega) (by omega)
    rw [Lib.itoa_neg u (by omega), List.length_cons] at this
    omega
/-- What is left of the number, and what is written of it. -/
def DD (u m : Nat) (r : Bs) : Prop := (r = [] ∧ m = u) ∨ (r ≠ [] ∧ Lib.decDigits u = (if m = 0 then [] else Lib.decDigits m) ++ r)
theorem DD.len {u m : Nat} {r : Bs} (h : DD u m r) (hu : u ≤ 9223372036854775808) : r.length ≤ 21 ∧ m ≤ u ∨ r.length ≤ 21 := by
  rcases h with ⟨rfl, _⟩ | ⟨_, h⟩
  · exact .inr (by simp)
  · have h1 := dd_len hu
    rw [h, List.length_append] at h1
    exact .inr (by omega)
theorem DD.next {u m : Nat} {r : Bs} (h : DD u m r) (hm : m ≠ 0 ∨ r = []) : DD u (m / 10) (UInt8.ofNat (48 + m % 10) :: r) := by
  refine .inr ⟨by simp, ?_⟩
  have key : Lib.decDigits m = (if m / 10 = 0 then [] else Lib.decDigits (m / 10)) ++ [UInt8.ofNat (48 + m % 10)] := by
    by_cases h10 : m < 10
    · rw [if_pos (by omega), dd_small h10, Nat.mod_eq_of_lt h10]; rfl
    · rw [if_neg (by omega), dd_big h10]
  rcases h with ⟨rfl, rfl⟩ | ⟨h1, h2⟩
  · exact key
  · have hm' : m ≠ 0 := hm.resolve_right h1
    rw [h2, if_neg hm', key, List.append_assoc]; rfl
theorem DD.fin {u : Nat} {r : Bs} (h : DD u 0 r) (hr : r ≠ []) : r = Lib.decDigits u := by
  rcases h with ⟨h1, _⟩ | ⟨_, h2⟩
  · exact absurd h1 hr
  · rw [h2, if_pos rfl]; rfl

set_option maxHeartbeats 800000 in
theorem digits_ok (u : Nat) (w : World) (hu : u ≤ 9223372036854775808) :
  Sg.Ret Tryz.prog 106 #[.int .i64 (-(u : Int))] w fun v w' => v = .string (bs (Lib.decDigits u)) ∧ Ch0 w w' := by
 refine enter1 (n := 21) (l := [.int .i64 (-(u : Int))]) Tryz.func106 rfl rfl rfl rfl ?_
 refine W.g1 0 (v1 := .int .i64 (-(u : Int))) rfl ?_; intro σ s0
 refine W.seq ?_
 refine W.region ?_
 refine WL.x (X.asg lc) rfl ?_
 refine WL.e1 Nx.thn 0 (lt rfl (s0)) ?_
 intro σ1 s0
 refine W.seq ?_
 refine W.region ?_
 refine WL.x (X.asg lc) rfl ?_
 refine WL.e2 Nx.thn 0 3 (lt rfl (s0)) (lh) ?_
 intro σ2 s0 s3
 refine W.seq ?_
 refine W.block ?_
 -- loop 0: kept [], varied [0, 3]
 refine W.loop (G := Nat × Bs) (fun (m, r) σ' w' => (True) ∧ (σ' 0 = .int .i64 (-(m : Int)) ∧ σ' 3 = .string (bs r) ∧ DD u m r ∧ m ≤ u ∧ Ch0 w w')) (fun (m, r) => m + (if r = [] then 1 else 0)) ((u, [])) ⟨trivial, s0, s3, .inl ⟨rfl, rfl⟩, Nat.le_refl _, Ch.refl _ _⟩ ?_
 rintro ⟨m, r⟩ σ3 w1 ⟨⟨_⟩, s0, s3, hdd, hmu, hcl⟩
 have hrl : r.length ≤ 21 := by rcases hdd.len hu with h | h; (· exact h.1); (· exact h)
 refine W.seq ?_
 refine W.seq ?_
 refine W.region ?_
 refine WL.x (X.mv (s0)) rfl ?_
 refine WL.x (X.lss (lh) lc) rfl ?_
 refine WL.x (X.mv (lh)) rfl ?_
 refine WL.splitp (lh) (fun h0 => ?_) (fun h0 => ?_)
 ·
  refine WL.no rfl rfl (lh) (decide_eq_true h0) rfl ?_
  refine WL.no rfl rfl (lt rfl (lh)) (decide_eq_true h0) rfl ?_
  refine WL.x (X.pickT (jt2 rfl (lh)) (decide_eq_true h0) lc) rfl ?_
  refine WL.e3 Nx.thn 0 3 9 (jt4 rfl (jt2 rfl (s0))) (jt4 rfl (jt2 rfl (s3))) (lh) ?_
  intro σ4 s0 s3 s9
  refine W.cndT s9 ?_
  refine W.skip Nx.thn ?_
  refine W.block ?_
  refine W.seq ?_
  refine W.region ?_
  refine WL.x (X.mv (s0)) rfl ?_
  refine WL.x (X.neg_rem (lh) lc) rfl ?_
  refine WL.x (X.sub lc (lh) (by omega) (by omega)) rfl ?_
  refine WL.x (X.convi Tryz.underlying3 Tryz.underlying5 (lh) (wrap_u8_in (by omega) (by omega))) rfl ?_
  refine WL.bslice Tryz.underlying74 el5 rfl (pcons (lh) pnil) rfl (rfl : _ = [_]) rfl ?_
  intro w2 u3_4; have hu3_4 := u3_4.at_; have cu3_4 := u3_4.ch; have zu3_4 := u3_4.size
  refine WL.x (v := .string (bs [UInt8.ofNat (48 + m % 10)])) (by rw [show 48 + m % 10 = (48 - -((m % 10 : Nat) : Int)).toNat by omega]; exact X.b2s1 Tryz.underlying74 Tryz.underlying5 Tryz.underlying9 (lh) hu3_4) rfl ?_
  refine WL.x (X.mv (jt4 rfl (jt2 rfl (s3)))) rfl ?_
  refine WL.x (v := .string (bs (UInt8.ofNat (48 + m % 10) :: r))) (by rw [show bs (UInt8.ofNat (48 + m % 10) :: r) = bs [UInt8.ofNat (48 + m % 10)] ++ bs r by rw [app_bs]; rfl]; exact X.addS (lt rfl (lh)) (lh) (by rw [size_bs, size_bs]; simp only [List.length_cons, List.length_nil]; omega)) rfl ?_
  refine WL.x (X.asg (lh)) rfl ?_
  refine WL.e2 Nx.thn 0 3 (jt8 rfl (lt rfl (s0))) (lh) ?_
  intro σ5 s0 s3
  refine W.region ?_
  refine WL.x (X.mv (s0)) rfl ?_
  refine WL.x (X.neg_quo (lh) lc (by omega)) rfl ?_
  refine WL.x (X.asg (lh)) rfl ?_
  refine WL.e2 (Nx.blk Nx.thn) 0 3 (lh) (jt2 rfl (lt rfl (s3))) ?_
  intro σ6 s0 s3
  have hmr : m ≠ 0 ∨ r = [] := by exact .inl (by omega)
  refine ⟨(m / 10, UInt8.ofNat (48 + m % 10) :: r), by (try dsimp only); rw [if_neg (by simp)]; rcases hmr with e | e; (· omega); (· rw [if_pos e]; omega), trivial, s0, s3, hdd.next hmr, by omega, hcl.trans0 cu3_4⟩
 ·
  refine WL.yes rfl rfl (lh) (decide_eq_false h0) ?_
  refine WL.x (X.mv (jt2 rfl (lt rfl (s3)))) rfl ?_
  refine WL.yes rfl rfl (lt rfl (lh)) (decide_eq_false h0) ?_
  refine WL.x (X.eqlS (lh) lc) rfl ?_
  refine WL.x (X.pickF (jt2 rfl (lh)) (decide_eq_false h0) (lh)) rfl ?_
  refine WL.e3 Nx.thn 0 3 9 (jt4 rfl (jt2 rfl (s0))) (jt4 rfl (jt2 rfl (s3))) (lh) ?_
  intro σ7 s0 s3 s9
  refine W.cndp s9 (fun hs => ?_) (fun hs => ?_)
  ·
   refine W.skip Nx.thn ?_
   refine W.block ?_
   refine W.seq ?_
   refine W.region ?_
   refine WL.x (X.mv (s0)) rfl ?_
   refine WL.x (X.neg_rem (lh) lc) rfl ?_
   refine WL.x (X.sub lc (lh) (by omega) (by omega)) rfl ?_
   refine WL.x (X.convi Tryz.underlying3 Tryz.underlying5 (lh) (wrap_u8_in (by omega) (by omega))) rfl ?_
   refine WL.bslice Tryz.underlying74 el5 rfl (pcons (lh) pnil) rfl (rfl : _ = [_]) rfl ?_
   intro w3 u3_4; have hu3_4 := u3_4.at_; have cu3_4 := u3_4.ch; have zu3_4 := u3_4.size
   refine WL.x (v := .string (bs [UInt8.ofNat (48 + m % 10)])) (by rw [show 48 + m % 10 = (48 - -((m % 10 : Nat) : Int)).toNat by omega]; exact X.b2s1 Tryz.underlying74 Tryz.underlying5 Tryz.underlying9 (lh) hu3_4) rfl ?_
   refine WL.x (X.mv (jt4 rfl (jt2 rfl (s3)))) rfl ?_
   refine WL.x (v := .string (bs (UInt8.ofNat (48 + m % 10) :: r))) (by rw [show bs (UInt8.ofNat (48 + m % 10) :: r) = bs [UInt8.ofNat (48 + m % 10)] ++ bs r by rw [app_bs]; rfl]; exact X.addS (lt rfl (lh)) (lh) (by rw [size_bs, size_bs]; simp only [List.length_cons, List.length_nil]; omega)) rfl ?_
   refine WL.x (X.asg (lh)) rfl ?_
   refine WL.e2 Nx.thn 0 3 (jt8 rfl (lt rfl (s0))) (lh) ?_
   intro σ8 s0 s3
   refine W.region ?_
   refine WL.x (X.mv (s0)) rfl ?_
   refine WL.x (X.neg_quo (lh) lc (by omega)) rfl ?_
   refine WL.x (X.asg (lh)) rfl ?_
   refine WL.e2 (Nx.blk Nx.thn) 0 3 (lh) (jt2 rfl (lt rfl (s3))) ?_
   intro σ9 s0 s3
   have hmr : m ≠ 0 ∨ r = [] := by exact .inr (bs_inj hs)
   refine ⟨(m / 10, UInt8.ofNat (48 + m % 10) :: r), by (try dsimp only); rw [if_neg (by simp)]; rcases hmr with e | e; (· omega); (· rw [if_pos e]; omega), trivial, s0, s3, hdd.next hmr, by omega, hcl.trans0 cu3_4⟩
  ·
   refine W.exit (Nx.xthn (Nx.xthn (Nx.xblk Nx.thn))) ?_
   refine W.seq ?_
   refine W.region ?_
   refine WL.x (X.mv (s3)) rfl ?_
   refine WL.x (X.asg (lh)) rfl ?_
   refine WL.e1 Nx.thn 2 (lh) ?_
   intro σ10 s2
   refine W.ret1 Nx.f1 s2 ?_
   have hm0 : m = 0 := by omega
   subst hm0
   rw [← hdd.fin (fun e => hs (by rw [e]; rfl))]
   exact ⟨rfl, hcl⟩
theorem decimal_ok (n : Int) (w : World) (h1 : -9223372036854775808 ≤ n) (h2 : n ≤ 9223372036854775807) :
  Sg.Ret Tryz.prog 82 #[.int .i64 n] w fun v w' => v = .string (bs (Lib.itoa n)) ∧ Ch0 w w' := by
 refine enter1 (n := 11) (l := [.int .i64 n]) Tryz.func82 rfl rfl rfl rfl ?_
 refine W.g1 0 (v1 := .int .i64 n) rfl ?_; intro σ s0
 refine W.seq ?_
 refine W.region ?_
 refine WL.x (X.asg lc) rfl ?_
 refine WL.e1 Nx.thn 0 (lt rfl (s0)) ?_
 intro σ1 s0
 refine W.seq ?_
 refine W.seq ?_
 refine W.region ?_
 refine WL.x (X.mv (s0)) rfl ?_
 refine WL.x (X.geq (lh) lc) rfl ?_
 refine WL.e2 Nx.thn 0 4 (jt2 rfl (s0)) (lh) ?_
 intro σ2 s0 s4
 refine W.cndp s4 (fun hn => ?_) (fun hn => ?_)
 ·
  refine W.seq ?_
  refine W.region ?_
  refine WL.x (X.mv (s0)) rfl ?_
  refine WL.x (v := .int .i64 (-(n.toNat : Int))) (by rw [show (n.toNat : Int) = n by omega]; exact X.neg (lh) (by omega) (by omega)) rfl ?_
  refine WL.call1 ce106 (lh) (digits_ok n.toNat w (by omega)) rfl ?_
  rintro _ w1 ⟨rfl, c1⟩
  refine WL.x (X.asg (lh)) rfl ?_
  refine WL.e1 Nx.thn 2 (lh) ?_
  intro σ3 s2
  refine W.ret1 (Nx.rthn Nx.f1) s2 ?_
  exact ⟨by unfold Lib.itoa; rw [if_neg (by omega)], c1⟩
 ·
  refine W.skip Nx.thn ?_
  refine W.seq ?_
  refine W.region ?_
  refine WL.x (v := .int .i64 (-(n.natAbs : Int))) (by rw [show (-(n.natAbs : Int)) = n by omega]; exact X.mv s0) rfl ?_
  refine WL.call1 ce106 (lh) (digits_ok n.natAbs w (by omega)) rfl ?_
  rintro _ w2 ⟨rfl, c1⟩
  refine WL.x (v := .string (bs (45 :: Lib.decDigits n.natAbs))) (by rw [show bs (45 :: Lib.decDigits n.natAbs) = bs [45] ++ bs (Lib.decDigits n.natAbs) by rw [app_bs]; rfl]; exact X.addS lc (lh) (by rw [size_bs, size_bs]; have := dd_len (u := n.natAbs) (by omega); simp only [List.length_cons, List.length_nil]; omega)) rfl ?_
  refine WL.x (X.asg (lh)) rfl ?_
  refine WL.e1 Nx.thn 2 (lh) ?_
  intro σ4 s2
  refine W.ret1 Nx.f1 s2 ?_
  exact ⟨by unfold Lib.itoa; rw [if_pos (by omega)], c1⟩

theorem szl (l : Array UInt8) : (⟨l⟩ : ByteArray).size = l.size := rfl
theorem sb_mk (a : Array UInt8) : sb ⟨a⟩ = a.toList := rfl
theorem sb_inj {a b : ByteArray} (h : sb a = sb b) : a = b := by rw [← bs_sb a, ← bs_sb b, h]
theorem sb_app (a b : ByteArray) : sb (a ++ b) = sb a ++ sb b := by rw [app_bs, sb_bs]
theorem fin_str {a b : ByteArray} (h : sb a = sb b) : Value.string a = .string b := by rw [sb_inj h]
theorem keyT_no : keyT no = [32, 40, 32, 41] := by unfold keyT; rw [if_pos rfl]; rfl
theorem keyT_go {k : ByteArray} (h : k ≠ no) : keyT k = [32, 40, 32] ++ (sb k ++ [32, 41]) := by unfold keyT; rw [if_neg h]; unfold wT; rfl
theorem sb_real (x : Bool) : sb (bsel x ⟨#[32, 114, 101, 97, 108, 32]⟩ ⟨#[32, 112, 108, 97, 105, 110, 32]⟩) = wT (bsel x wReal wPlain) ++ [32] := by cases x <;> rfl
theorem sb_nil_ (x : Bool) : sb (bsel x ⟨#[32, 110, 105, 108]⟩ ⟨#[32, 118, 97, 108, 117, 101]⟩) = wT (bsel x wNil wValue) := by cases x <;> rfl
theorem sb_cond (x : Bool) : sb (bsel x ⟨#[32, 99, 111, 110, 100]⟩ ⟨#[32, 115, 117, 114, 101]⟩) = wT (bsel x wCond wSure) := by cases x <;> rfl
theorem sz_real (x : Bool) : (bsel x ⟨#[32, 114, 101, 97, 108, 32]⟩ ⟨#[32, 112, 108, 97, 105, 110, 32]⟩).size ≤ 7 := by cases x <;> decide
theorem sz_nil (x : Bool) : (bsel x ⟨#[32, 110, 105, 108]⟩ ⟨#[32, 118, 97, 108, 117, 101]⟩).size ≤ 6 := by cases x <;> decide
theorem sz_cond (x : Bool) : (bsel x ⟨#[32, 99, 111, 110, 100]⟩ ⟨#[32, 115, 117, 114, 101]⟩).size ≤ 5 := by cases x <;> decide
theorem sz_yes (x : Bool) : (bsel x wYes wNo).size ≤ 3 := by cases x <;> decide
theorem lvl_sz (n : Int) : (levelN n).size ≤ 7 := nameW_len (l := VWS) (B := 7) (by decide) n
theorem kind_sz (n : Int) : (kindN n).size ≤ 8 := nameW_len (l := no :: KWS) (B := 8) (by decide) n
theorem ans_sz (n : Int) : (answerN n).size ≤ 7 := nameW_len (l := AWS) (B := 7) (by decide) n
theorem lbl_sz (n : Int) : (labelN n).size ≤ 2 := by unfold labelN; split; · decide
                                                     split; · decide
                                                     split; · decide
                                                     split <;> decide
theorem kindW_at {k : Int} (h : 1 ≤ k ∧ k ≤ 11) : (KWS.map Value.string).toArray[0 + (k - 1).toNat * 1]? = some (.string (kindN k)) := by
  have : k = 1 ∨ k = 2 ∨ k = 3 ∨ k = 4 ∨ k = 5 ∨ k = 6 ∨ k = 7 ∨ k = 8 ∨ k = 9 ∨ k = 10 ∨ k = 11 := by omega
  rcases this with rfl | rfl | rfl | rfl | rfl | rfl | rfl | rfl | rfl | rfl | rfl <;> rfl
theorem levelW_at {k : Int} (h : 0 ≤ k ∧ k ≤ 5) : (VWS.map Value.string).toArray[0 + k.toNat * 1]? = some (.string (levelN k)) := by
  have : k = 0 ∨ k = 1 ∨ k = 2 ∨ k = 3 ∨ k = 4 ∨ k = 5 := by omega
  rcases this with rfl | rfl | rfl | rfl | rfl | rfl <;> rfl
theorem answerW_at {k : Int} (h : 0 ≤ k ∧ k ≤ 3) : (AWS.map Value.string).toArray[0 + k.toNat * 1]? = some (.string (answerN k)) := by
  have : k = 0 ∨ k = 1 ∨ k = 2 ∨ k = 3 := by omega
  rcases this with rfl | rfl | rfl | rfl <;> rfl

theorem rkindst_ok (w : World) :
  Sg.Ret Tryz.prog 72 #[] w fun v w' => ∃ g, v = .slice (some ⟨g, 0, none⟩) 11 11 ∧ w'.heap[g]? = some (.cells (KWS.map Value.string).toArray 9 (0, 0)) ∧ w.heap.size ≤ g ∧ Ch0 w w' := by
 refine enter1 (n := 2) (l := []) Tryz.func72 rfl rfl rfl rfl ?_
 refine W.g0 ?_; intro σ
 refine W.seq ?_
 refine W.region ?_
 refine WL.x (X.asg lc) rfl ?_
 refine WL.e0 Nx.thn  ?_
 intro σ1 
 refine W.seq ?_
 refine W.region ?_
 refine WL.bslice Tryz.underlying39 el9 rfl (pcons lc (pcons lc (pcons lc (pcons lc (pcons lc (pcons lc (pcons lc (pcons lc (pcons lc (pcons lc (pcons lc pnil))))))))))) rfl (rfl : _ = [_, _, _, _, _, _, _, _, _, _, _]) rfl ?_
 intro w1 u1_0; have hu1_0 := u1_0.at_; have cu1_0 := u1_0.ch; have zu1_0 := u1_0.size
 refine WL.x (X.asg (lh)) rfl ?_
 refine WL.e1 Nx.thn 0 (lh) ?_
 intro σ2 s0
 refine W.ret1 Nx.f1 s0 ?_
 exact ⟨_, rfl, hu1_0, Nat.le_refl _, cu1_0⟩
theorem rnames_ok (w : World) :
  Sg.Ret Tryz.prog 85 #[] w fun v w' => ∃ g, v = .slice (some ⟨g, 0, none⟩) 6 6 ∧ w'.heap[g]? = some (.cells (VWS.map Value.string).toArray 9 (0, 0)) ∧ w.heap.size ≤ g ∧ Ch0 w w' := by
 refine enter1 (n := 2) (l := []) Tryz.func85 rfl rfl rfl rfl ?_
 refine W.g0 ?_; intro σ
 refine W.seq ?_
 refine W.region ?_
 refine WL.x (X.asg lc) rfl ?_
 refine WL.e0 Nx.thn  ?_
 intro σ1 
 refine W.seq ?_
 refine W.region ?_
 refine WL.bslice Tryz.underlying39 el9 rfl (pcons lc (pcons lc (pcons lc (pcons lc (pcons lc (pcons lc pnil)))))) rfl (rfl : _ = [_, _, _, _, _, _]) rfl ?_
 intro w1 u1_0; have hu1_0 := u1_0.at_; have cu1_0 := u1_0.ch; have zu1_0 := u1_0.size
 refine WL.x (X.asg (lh)) rfl ?_
 refine WL.e1 Nx.thn 0 (lh) ?_
 intro σ2 s0
 refine W.ret1 Nx.f1 s0 ?_
 exact ⟨_, rfl, hu1_0, Nat.le_refl _, cu1_0⟩
theorem rname_ok (a : Int) (w : World) :
  Sg.Ret Tryz.prog 44 #[.int .i64 a] w fun v w' => v = .string (levelN a) ∧ Ch0 w w' := by
 refine enter1 (n := 13) (l := [.int .i64 a]) Tryz.func44 rfl rfl rfl rfl ?_
 refine W.g1 0 (v1 := .int .i64 a) rfl ?_; intro σ s0
 refine W.seq ?_
 refine W.region ?_
 refine WL.x (X.asg lc) rfl ?_
 refine WL.e1 Nx.thn 0 (lt rfl (s0)) ?_
 intro σ1 s0
 refine W.seq ?_
 refine W.seq ?_
 refine W.region ?_
 refine WL.x (X.mv (s0)) rfl ?_
 refine WL.x (X.lss (lh) lc) rfl ?_
 refine WL.x (X.mv (lh)) rfl ?_
 refine WL.splitp (lh) (fun qb1 => ?_) (fun qb1 => ?_)
 ·
  refine WL.no rfl rfl (lh) (decide_eq_true qb1) rfl ?_
  refine WL.no rfl rfl (lt rfl (lh)) (decide_eq_true qb1) rfl ?_
  refine WL.x (X.pickT (jt2 rfl (lh)) (decide_eq_true qb1) lc) rfl ?_
  refine WL.e2 Nx.thn 0 8 (jt4 rfl (jt2 rfl (s0))) (lh) ?_
  intro σ2 s0 s8
  refine W.cndT s8 ?_
  refine W.seq ?_
  refine W.region ?_
  refine WL.x (X.asg lc) rfl ?_
  refine WL.e1 Nx.thn 2 (lh) ?_
  intro σ3 s2
  refine W.ret1 (Nx.rthn Nx.f1) s2 ?_
  exact ⟨by rw [levelN_out (by omega)]; rfl, Ch.refl _ _⟩
 ·
  refine WL.yes rfl rfl (lh) (decide_eq_false qb1) ?_
  refine WL.x (X.mv (jt2 rfl (lt rfl (s0)))) rfl ?_
  refine WL.yes rfl rfl (lt rfl (lh)) (decide_eq_false qb1) ?_
  refine WL.x (X.gtr (lh) lc) rfl ?_
  refine WL.x (X.pickF (jt2 rfl (lh)) (decide_eq_false qb1) (lh)) rfl ?_
  refine WL.e2 Nx.thn 0 8 (jt4 rfl (jt2 rfl (s0))) (lh) ?_
  intro σ4 s0 s8
  refine W.cndp s8 (fun h1 => ?_) (fun h1 => ?_)
  ·
   refine W.seq ?_
   refine W.region ?_
   refine WL.x (X.asg lc) rfl ?_
   refine WL.e1 Nx.thn 2 (lh) ?_
   intro σ5 s2
   refine W.ret1 (Nx.rthn Nx.f1) s2 ?_
   exact ⟨by rw [levelN_out (by omega)]; rfl, Ch.refl _ _⟩
  ·
   refine W.skip Nx.thn ?_
   refine W.seq ?_
   refine W.region ?_
   refine WL.call0 ce85  (rnames_ok w) rfl ?_
   rintro _ w1 ⟨g, rfl, hg, hgz, c1⟩
   refine WL.x (X.mv (lt rfl (s0))) rfl ?_
   refine WL.x (X.indexAddr Tryz.underlying39 el9 (lt rfl (lh)) (lh) (by omega) (by omega)) rfl ?_
   have hin : 0 ≤ a ∧ a ≤ 5 := by omega
   refine WL.x (X.load pl9 (lh) hg (v := .string (levelN a)) (levelW_at hin)) rfl ?_
   refine WL.x (X.asg (lh)) rfl ?_
   refine WL.e1 Nx.thn 2 (lh) ?_
   intro σ6 s2
   refine W.ret1 Nx.f1 s2 ?_
   exact ⟨rfl, c1⟩
theorem rnumt_ok (n : Int) (w : World) (h : in64 n) :
  Sg.Ret Tryz.prog 41 #[.int .i64 n] w fun v w' => v = .string (bs (valT n)) ∧ Ch0 w w' := by
 refine enter1 (n := 6) (l := [.int .i64 n]) Tryz.func41 rfl rfl rfl rfl ?_
 refine W.g1 0 (v1 := .int .i64 n) rfl ?_; intro σ s0
 refine W.seq ?_
 refine W.region ?_
 refine WL.x (X.asg lc) rfl ?_
 refine WL.e1 Nx.thn 0 (lt rfl (s0)) ?_
 intro σ1 s0
 refine W.seq ?_
 refine W.region ?_
 refine WL.x (X.mv (s0)) rfl ?_
 refine WL.call1 ce82 (lh) (decimal_ok n w h.1 h.2) rfl ?_
 rintro _ w1 ⟨rfl, c1⟩
 have hi := Lib.itoa_length_le n h.1 h.2
 refine WL.x (X.addS lc (lh) (by simp only [ByteArray.size_append, szl, size_bs, List.size_toArray, List.length_cons, List.length_nil, List.length_append]; omega)) rfl ?_
 refine WL.x (X.asg (lh)) rfl ?_
 refine WL.e1 Nx.thn 2 (lh) ?_
 intro σ2 s2
 refine W.ret1 Nx.f1 s2 ?_
 exact ⟨fin_str (by rw [sb_app, sb_bs, sb_bs]; rfl), c1⟩
theorem rkeyt_ok (s : ByteArray) (w : World) (hs : s.size ≤ 6) :
  Sg.Ret Tryz.prog 83 #[.string s] w fun v w' => v = .string (bs (keyT s)) ∧ w = w' := by
 refine enter1 (n := 8) (l := [.string s]) Tryz.func83 rfl rfl rfl rfl ?_
 refine W.g1 0 (v1 := .string s) rfl ?_; intro σ s0
 refine W.seq ?_
 refine W.region ?_
 refine WL.x (X.asg lc) rfl ?_
 refine WL.e1 Nx.thn 0 (lt rfl (s0)) ?_
 intro σ1 s0
 refine W.seq ?_
 refine W.seq ?_
 refine W.region ?_
 refine WL.x (X.mv (s0)) rfl ?_
 refine WL.x (X.eqlS (lh) lc) rfl ?_
 refine WL.e2 Nx.thn 0 4 (jt2 rfl (s0)) (lh) ?_
 intro σ2 s0 s4
 refine W.cndp s4 (fun h1 => ?_) (fun h1 => ?_)
 ·
  refine W.seq ?_
  refine W.region ?_
  refine WL.x (X.asg lc) rfl ?_
  refine WL.e1 Nx.thn 2 (lh) ?_
  intro σ3 s2
  refine W.ret1 (Nx.rthn Nx.f1) s2 ?_
  exact ⟨by rw [show s = no from h1, keyT_no]; rfl, rfl⟩
 ·
  refine W.skip Nx.thn ?_
  refine W.seq ?_
  refine W.region ?_
  refine WL.x (X.mv (s0)) rfl ?_
  refine WL.x (X.addS lc (lh) (by simp only [ByteArray.size_append, szl, size_bs, List.size_toArray, List.length_cons, List.length_nil, List.length_append]; omega)) rfl ?_
  refine WL.x (X.addS (lh) lc (by simp only [ByteArray.size_append, szl, size_bs, List.size_toArray, List.length_cons, List.length_nil, List.length_append]; omega)) rfl ?_
  refine WL.x (X.asg (lh)) rfl ?_
  refine WL.e1 Nx.thn 2 (lh) ?_
  intro σ4 s2
  refine W.ret1 Nx.f1 s2 ?_
  exact ⟨fin_str (by rw [keyT_go h1]; simp only [sb_app, sb_mk, sb_bs, List.append_assoc]), rfl⟩
set_option maxHeartbeats 6400000 in
theorem ranom_ok (A : Nat → Prop) (x : GAn) (es : List Value) (w : World) (h : RAn A w es x) (hma : mayA keyE x = true) :
  Sg.Ret Tryz.prog 43 #[.agg es.toArray] w fun v w' => v = .string (bs (anT x)) ∧ Ch0 w w' := by
 have hna := ran_num h
 obtain ⟨v, rfl, hs, hb⟩ := h
 obtain ⟨va, vc, rfl⟩ := hs.len
 obtain ⟨hla1, hla2, hla3⟩ := an_len hma hna
 obtain ⟨ma1, ma2, ma3, ma4, ma5⟩ := mayA_of hma
 have hkz := keyE_len ma2
 have hlq := fun q => fm_take_len (f := whyT) (M := 300) (B := 150) q hla2 ma4
 have z1 := valT_len hna.1
 have z2 := valT_len hna.2.1
 have z3 := valT_len hna.2.2.1
 have z4 := valT_len hna.2.2.2.1
 have z5 := keyT_len hkz
 have z6 := sz_real x.2.2.2.2.2.2.2.1
 have z7 := lvl_sz x.2.2.2.2.2.2.2.2
 have z8 := kind_sz x.1
 refine enter1 (n := 87) (l := [.agg #[.int .i64 x.1, .int .i64 x.2.1, .int .i64 x.2.2.1, .int .i64 x.2.2.2.1, .string x.2.2.2.2.1, .int .i64 x.2.2.2.2.2.1, .slice va x.2.2.2.2.2.2.1.length vc, .bool x.2.2.2.2.2.2.2.1, .int .i64 x.2.2.2.2.2.2.2.2]]) Tryz.func43 rfl rfl rfl rfl ?_
 refine W.g1 0 (v1 := .agg #[.int .i64 x.1, .int .i64 x.2.1, .int .i64 x.2.2.1, .int .i64 x.2.2.2.1, .string x.2.2.2.2.1, .int .i64 x.2.2.2.2.2.1, .slice va x.2.2.2.2.2.2.1.length vc, .bool x.2.2.2.2.2.2.2.1, .int .i64 x.2.2.2.2.2.2.2.2]) rfl ?_; intro σ s0
 refine W.seq ?_
 refine W.region ?_
 refine WL.box (s0) rfl ?_
 intro w1 u0_0; have hu0_0 := u0_0.at_; have cu0_0 := u0_0.ch; have zu0_0 := u0_0.size
 refine WL.x (X.asg lc) rfl ?_
 refine WL.e1 Nx.thn 1 (lt rfl (lh)) ?_
 intro σ1 s1
 refine W.seq ?_
 refine W.held (fun w' => Ch (fun _ => False) w1 w') mo ?_
 intro w2 qhh1 qc2
 have hS : Ch (fun _ => False) w1 w2 := Ch.weak qc2
 have hzqc2 := qc2.size
 have cdh1 := qc2
 refine WH.take 1 rfl (by kernel_rfl) (by kernel_rfl) (by kernel_rfl) (fun _ _ _ h => h) Gd.none rfl (fun w' hS' => X.fieldAddr fd67_0 (s1)) hS ?_
 refine WH.take 2 rfl (by kernel_rfl) (by kernel_rfl) (by kernel_rfl) (fun _ _ _ h => h) Gd.none rfl (fun w' hS' => X.load pl3 (lh) (by exact hS'.at (by assumption) (by intro hne; exact hne)) (by rfl)) hS ?_
 refine WH.take 3 rfl (by kernel_rfl) (by kernel_rfl) (by kernel_rfl) (fun _ _ _ h => h) Gd.none rfl (fun w' hS' => X.sub (lh) lc (by omega) (by omega)) hS ?_
 refine WH.take 7 rfl (by kernel_rfl) (by kernel_rfl) (by kernel_rfl) (fun _ _ _ h => h) Gd.none rfl (fun w' hS' => X.fieldAddr fd67_1 (jt2 rfl (lt rfl (s1)))) hS ?_
 refine WH.take 8 rfl (by kernel_rfl) (by kernel_rfl) (by kernel_rfl) (fun _ _ _ h => h) Gd.none rfl (fun w' hS' => X.load pl3 (lh) (by exact hS'.at (by assumption) (by intro hne; exact hne)) (by rfl)) hS ?_
 refine WH.take 11 rfl (by kernel_rfl) (by kernel_rfl) (by kernel_rfl) (fun _ _ _ h => h) Gd.none rfl (fun w' hS' => X.fieldAddr fd67_2 (jt4 rfl (lt rfl (s1)))) hS ?_
 refine WH.take 12 rfl (by kernel_rfl) (by kernel_rfl) (by kernel_rfl) (fun _ _ _ h => h) Gd.none rfl (fun w' hS' => X.load pl3 (lh) (by exact hS'.at (by assumption) (by intro hne; exact hne)) (by rfl)) hS ?_
 refine WH.take 15 rfl (by kernel_rfl) (by kernel_rfl) (by kernel_rfl) (fun _ _ _ h => h) Gd.none rfl (fun w' hS' => X.fieldAddr fd67_3 (jt4 rfl (jt2 rfl (lt rfl (s1))))) hS ?_
 refine WH.take 16 rfl (by kernel_rfl) (by kernel_rfl) (by kernel_rfl) (fun _ _ _ h => h) Gd.none rfl (fun w' hS' => X.load pl3 (lh) (by exact hS'.at (by assumption) (by intro hne; exact hne)) (by rfl)) hS ?_
 refine WH.take 19 rfl (by kernel_rfl) (by kernel_rfl) (by kernel_rfl) (fun _ _ _ h => h) Gd.none rfl (fun w' hS' => X.fieldAddr fd67_4 (jt8 rfl (lt rfl (s1)))) hS ?_
 refine WH.take 20 rfl (by kernel_rfl) (by kernel_rfl) (by kernel_rfl) (fun _ _ _ h => h) Gd.none rfl (fun w' hS' => X.load pl9 (lh) (by exact hS'.at (by assumption) (by intro hne; exact hne)) (by rfl)) hS ?_
 refine WH.take 23 rfl (by kernel_rfl) (by kernel_rfl) (by kernel_rfl) (fun _ _ _ h => h) Gd.none rfl (fun w' hS' => X.fieldAddr fd67_5 (jt8 rfl (jt2 rfl (lt rfl (s1))))) hS ?_
 refine WH.take 24 rfl (by kernel_rfl) (by kernel_rfl) (by kernel_rfl) (fun _ _ _ h => h) Gd.none rfl (fun w' hS' => X.load pl3 (lh) (by exact hS'.at (by assumption) (by intro hne; exact hne)) (by rfl)) hS ?_
 refine WH.take 27 rfl (by kernel_rfl) (by kernel_rfl) (by kernel_rfl) (fun _ _ _ h => h) Gd.none rfl (fun w' hS' => X.fieldAddr fd67_7 (jt8 rfl (jt4 rfl (lt rfl (s1))))) hS ?_
 refine WH.take 28 rfl (by kernel_rfl) (by kernel_rfl) (by kernel_rfl) (fun _ _ _ h => h) Gd.none rfl (fun w' hS' => X.load pl4 (lh) (by exact hS'.at (by assumption) (by intro hne; exact hne)) (by rfl)) hS ?_
 refine WH.take 31 rfl (by kernel_rfl) (by kernel_rfl) (by kernel_rfl) (fun _ _ _ h => h) Gd.none rfl (fun w' hS' => X.fieldAddr fd67_8 (jt8 rfl (jt4 rfl (jt2 rfl (lt rfl (s1)))))) hS ?_
 refine WH.take 32 rfl (by kernel_rfl) (by kernel_rfl) (by kernel_rfl) (fun _ _ _ h => h) Gd.none rfl (fun w' hS' => X.load pl3 (lh) (by exact hS'.at (by assumption) (by intro hne; exact hne)) (by rfl)) hS ?_
 refine WH.one 0 rfl (by kernel_rfl) (fun _ _ h => h) ?_
 refine WL.call0 ce72  (rkindst_ok w2) rfl ?_
 rintro _ w3 ⟨g, rfl, hE, hgz, ck⟩
 have hS := hS.trans ck (fun _ _ => id) (by intro i hi hg; exact hg)
 refine WL.nil Nx.thn ⟨hS, ?_⟩
 refine WH.grow (S' := fun w' => Ch (fun _ => False) w1 w' ∧ w'.heap[g]? = some (.cells (KWS.map Value.string).toArray 9 (0, 0))) (fun _ h => h.1) ?_
 refine WH.take 4 rfl (by kernel_rfl) (by kernel_rfl) (by kernel_rfl) (fun _ _ _ h => h) Gd.none rfl (fun w' ⟨hS', hE'⟩ => X.indexAddr Tryz.underlying39 el9 (lh) (jt8 rfl (jt4 rfl (jt2 rfl (lt rfl (lh))))) (by omega) (by omega)) ⟨hS, hE⟩ ?_
 refine WH.take 5 rfl (by kernel_rfl) (by kernel_rfl) (by kernel_rfl) (fun _ _ _ h => h) Gd.none rfl (fun w' ⟨hS', hE'⟩ => X.load pl9 (lh) hE' (v := .string (kindN x.1)) (kindW_at ma1)) ⟨hS, hE⟩ ?_
 refine WH.take 6 rfl (by kernel_rfl) (by kernel_rfl) (by kernel_rfl) (fun _ _ _ h => h) Gd.none rfl (fun w' ⟨hS', hE'⟩ => X.addS lc (lh) (by simp only [ByteArray.size_append, szl, size_bs, List.size_toArray, List.length_cons, List.length_nil, List.length_append]; omega)) ⟨hS, hE⟩ ?_
 refine WH.one 9 rfl (by kernel_rfl) (fun _ _ h => h) ?_
 refine WL.call1 ce41 (jt8 rfl (jt8 rfl (lh))) (rnumt_ok x.2.1 w3 hna.1) rfl ?_
 rintro _ w4 ⟨rfl, c1⟩
 have hS := hS.trans c1 (fun _ _ => id) (by intro i hi hg; exact hg)
 replace hE := c1.at0 hE
 refine WL.nil Nx.thn ⟨⟨hS, hE⟩, ?_⟩
 refine WH.take 10 rfl (by kernel_rfl) (by kernel_rfl) (by kernel_rfl) (fun _ _ _ h => h) Gd.none rfl (fun w' ⟨hS', hE'⟩ => X.addS (lt rfl (lh)) (lh) (by simp only [ByteArray.size_append, szl, size_bs, List.size_toArray, List.length_cons, List.length_nil, List.length_append]; omega)) ⟨hS, hE⟩ ?_
 refine WH.one 13 rfl (by kernel_rfl) (fun _ _ h => h) ?_
 refine WL.call1 ce41 (jt8 rfl (jt8 rfl (lh))) (rnumt_ok x.2.2.1 w4 hna.2.1) rfl ?_
 rintro _ w5 ⟨rfl, c2⟩
 have hS := hS.trans c2 (fun _ _ => id) (by intro i hi hg; exact hg)
 replace hE := c2.at0 hE
 refine WL.nil Nx.thn ⟨⟨hS, hE⟩, ?_⟩
 refine WH.take 14 rfl (by kernel_rfl) (by kernel_rfl) (by kernel_rfl) (fun _ _ _ h => h) Gd.none rfl (fun w' ⟨hS', hE'⟩ => X.addS (lt rfl (lh)) (lh) (by simp only [ByteArray.size_append, szl, size_bs, List.size_toArray, List.length_cons, List.length_nil, List.length_append]; omega)) ⟨hS, hE⟩ ?_
 refine WH.one 17 rfl (by kernel_rfl) (fun _ _ h => h) ?_
 refine WL.call1 ce41 (jt8 rfl (jt8 rfl (lh))) (rnumt_ok x.2.2.2.1 w5 hna.2.2.1) rfl ?_
 rintro _ w6 ⟨rfl, c3⟩
 have hS := hS.trans c3 (fun _ _ => id) (by intro i hi hg; exact hg)
 replace hE := c3.at0 hE
 refine WL.nil Nx.thn ⟨⟨hS, hE⟩, ?_⟩
 refine WH.take 18 rfl (by kernel_rfl) (by kernel_rfl) (by kernel_rfl) (fun _ _ _ h => h) Gd.none rfl (fun w' ⟨hS', hE'⟩ => X.addS (lt rfl (lh)) (lh) (by simp only [ByteArray.size_append, szl, size_bs, List.size_toArray, List.length_cons, List.length_nil, List.length_append]; omega)) ⟨hS, hE⟩ ?_
 refine WH.one 21 rfl (by kernel_rfl) (fun _ _ h => h) ?_
 refine WL.call1 ce83 (jt8 rfl (jt8 rfl (lh))) (rkeyt_ok x.2.2.2.2.1 w6 hkz) rfl ?_
 rintro _ _ ⟨rfl, rfl⟩
 refine WL.nil Nx.thn ⟨⟨hS, hE⟩, ?_⟩
 refine WH.take 22 rfl (by kernel_rfl) (by kernel_rfl) (by kernel_rfl) (fun _ _ _ h => h) Gd.none rfl (fun w' ⟨hS', hE'⟩ => X.addS (lt rfl (lh)) (lh) (by simp only [ByteArray.size_append, szl, size_bs, List.size_toArray, List.length_cons, List.length_nil, List.length_append]; omega)) ⟨hS, hE⟩ ?_
 refine WH.one 25 rfl (by kernel_rfl) (fun _ _ h => h) ?_
 refine WL.call1 ce41 (jt8 rfl (jt8 rfl (lh))) (rnumt_ok x.2.2.2.2.2.1 w6 hna.2.2.2.1) rfl ?_
 rintro _ w7 ⟨rfl, c4⟩
 have hS := hS.trans c4 (fun _ _ => id) (by intro i hi hg; exact hg)
 replace hE := c4.at0 hE
 refine WL.nil Nx.thn ⟨⟨hS, hE⟩, ?_⟩
 refine WH.take 26 rfl (by kernel_rfl) (by kernel_rfl) (by kernel_rfl) (fun _ _ _ h => h) Gd.none rfl (fun w' ⟨hS', hE'⟩ => X.addS (lt rfl (lh)) (lh) (by simp only [ByteArray.size_append, szl, size_bs, List.size_toArray, List.length_cons, List.length_nil, List.length_append]; omega)) ⟨hS, hE⟩ ?_
 refine WH.one 29 rfl (by kernel_rfl) (fun _ _ h => h) ?_
 refine WL.call3 ce42 (jt8 rfl (jt8 rfl (lh))) lc lc (reither_ok x.2.2.2.2.2.2.2.1 ⟨#[32, 114, 101, 97, 108, 32]⟩ ⟨#[32, 112, 108, 97, 105, 110, 32]⟩ w7) rfl ?_
 rintro _ _ ⟨rfl, rfl⟩
 refine WL.nil Nx.thn ⟨⟨hS, hE⟩, ?_⟩
 refine WH.take 30 rfl (by kernel_rfl) (by kernel_rfl) (by kernel_rfl) (fun _ _ _ h => h) Gd.none rfl (fun w' ⟨hS', hE'⟩ => X.addS (lt rfl (lh)) (lh) (by simp only [ByteArray.size_append, szl, size_bs, List.size_toArray, List.length_cons, List.length_nil, List.length_append]; omega)) ⟨hS, hE⟩ ?_
 refine WH.one 33 rfl (by kernel_rfl) (fun _ _ h => h) ?_
 refine WL.call1 ce44 (jt8 rfl (jt8 rfl (lh))) (rname_ok x.2.2.2.2.2.2.2.2 w7) rfl ?_
 rintro _ w8 ⟨rfl, c5⟩
 have hS := hS.trans c5 (fun _ _ => id) (by intro i hi hg; exact hg)
 replace hE := c5.at0 hE
 refine WL.nil Nx.thn ⟨⟨hS, hE⟩, ?_⟩
 refine WH.take 34 rfl (by kernel_rfl) (by kernel_rfl) (by kernel_rfl) (fun _ _ _ h => h) Gd.none rfl (fun w' ⟨hS', hE'⟩ => X.addS (lt rfl (lh)) (lh) (by simp only [ByteArray.size_append, szl, size_bs, List.size_toArray, List.length_cons, List.length_nil, List.length_append]; omega)) ⟨hS, hE⟩ ?_
 refine WH.take 35 rfl (by kernel_rfl) (by kernel_rfl) (by kernel_rfl) (fun _ _ _ h => h) Gd.none rfl (fun w' ⟨hS', hE'⟩ => X.asg (lh)) ⟨hS, hE⟩ ?_
 refine WH.done (by kernel_rfl) ?_
 refine WL.e2 Nx.thn 1 3 (jt8 rfl (jt8 rfl (jt8 rfl (jt8 rfl (jt4 rfl (s1)))))) (lh) ?_
 intro σ2 s1 s3
 refine W.seq ?_
 refine W.seq ?_
 refine W.region ?_
 refine WL.x (X.fieldAddr fd67_6 (s1)) rfl ?_
 refine WL.x (X.load pl65 (lh) (by exact hS.at (by assumption) (by intro hne; exact hne)) (v := .slice va x.2.2.2.2.2.2.1.length vc) rfl) rfl ?_
 refine WL.x (X.lenSl Tryz.underlying65 (lh)) rfl ?_
 refine WL.x (X.mv lc) rfl ?_
 refine WL.e4 Nx.thn 3 42 43 44 (jt4 rfl (s3)) (jt2 rfl (lh)) (lt rfl (lh)) (lh) ?_
 intro σ3 s3 s42 s43 s44
 refine W.block ?_
 have qo3 := s42
 have qo4 := s43
 -- loop 0: kept [42, 43], varied [3, 44]
 refine W.loop (G := Nat) (fun k σ' w' => (σ' 42 = σ3 42 ∧ σ' 43 = σ3 43 ∧ True) ∧ (∃ S, σ' 3 = .string S ∧ σ' 44 = .int .i64 (k : Int) ∧ sb S = anH x ++ (x.2.2.2.2.2.2.1.take k).flatMap whyT ∧ k ≤ x.2.2.2.2.2.2.1.length ∧ Ch0 w w')) (fun k => x.2.2.2.2.2.2.1.length - k) (0) ⟨⟨rfl, rfl, trivial⟩, _, s3, s44, (by simp only [sb_app, sb_bs, sb_mk, sb_real, List.take_zero, List.flatMap_nil, List.append_nil]; unfold anH; simp only [List.append_assoc]; rfl), by omega, cu0_0.trans0 hS⟩ ?_
 rintro k σ4 w9 ⟨⟨f42, f43, _⟩, S, s3, s44, hSe, hk9, hcl⟩
 have s42 := f42.trans qo3
 have s43 := f43.trans qo4
 refine W.seq ?_
 refine W.region ?_
 refine WL.x (X.lss (s44) (s43)) rfl ?_
 refine WL.e5 Nx.thn 3 42 43 44 45 (lt rfl (s3)) (lt rfl (s42)) (lt rfl (s43)) (lt rfl (s44)) (lh) ?_
 intro σ5 s3 s42 s43 s44 s45
 refine W.seq ?_
 refine W.cndp s45 (fun hlt => ?_) (fun hlt => ?_)
 ·
  have hql : k < x.2.2.2.2.2.2.1.length := by omega
  obtain ⟨b2, o2, cs2, T2, fr2, es2, hva2, hml2, hes2, hgl2, hr2⟩ := (hs.ch0 monWhy hcl).at (k := k) hql
  subst hva2
  have hlq9 := hlq k
  have hmy := ma5 _ (List.getElem_mem hql)
  have hny := hna.2.2.2.2 _ (List.getElem_mem hql)
  have htq : (x.2.2.2.2.2.2.1.take (k + 1)).flatMap whyT = (x.2.2.2.2.2.2.1.take k).flatMap whyT ++ whyT x.2.2.2.2.2.2.1[k] := fm_take hql
  have hly := hla2 _ (List.getElem_mem hql)
  obtain ⟨y, hy⟩ : ∃ y, y = x.2.2.2.2.2.2.1[k] := ⟨_, rfl⟩
  rw [← hy] at hr2 hmy hny htq hly
  obtain ⟨rfl, -, -⟩ := hr2
  have hSz := sb_len S
  rw [hSe] at hSz
  simp only [List.length_append] at hSz
  have y1 := valT_len hny.1
  have y2 := valT_len hny.2.1
  have y3 := valT_len hny.2.2.1
  have y4 := valT_len hny.2.2.2
  have y5 := keyT_len (keyE_len (mayW_of hmy).2)
  have y6 := sz_nil y.2.2.2.2.2.2.1
  have y7 := sz_cond y.2.2.2.2.2.2.2
  have y8 := lbl_sz y.2.2.1
  refine W.skip Nx.thn ?_
  refine W.seq ?_
  refine W.block ?_
  refine W.seq ?_
  refine W.region ?_
  refine WL.x (X.indexAddr Tryz.underlying65 el85 (s42) (s44) (by omega) (by omega)) rfl ?_
  refine WL.x (X.loadS ag85 (lh) hml2 hes2 hgl2) rfl ?_
  refine WL.alloc el85 rfl ?_
  intro w10 u4_2; have hu4_2 := u4_2.at_; have cu4_2 := u4_2.ch; have zu4_2 := u4_2.size
  refine WL.storeS (vs := whyCells y) ag85 (lh) (lt rfl (lh)) rfl hes2 hu4_2 (by decide) ?_
  intro w11 us
  have hwv : w11.heap[(_ : Nat)]? = some (Obj.cells (whyCells y).toArray 85 (0, 0)) := us.at_
  have cs4 := us.ch
  have zcl := hcl.size
  have hc4 := cu4_2.trans cs4 (H := fun _ => False) (fun _ _ e => e) (fun q hq e => by (try dsimp only at e); omega)
  replace hcl := hcl.trans0 hc4
  refine WL.e5 Nx.thn 3 5 42 43 44 (jt2 rfl (lt rfl (s3))) (lh) (jt2 rfl (lt rfl (s42))) (jt2 rfl (lt rfl (s43))) (jt2 rfl (lt rfl (s44))) ?_
  intro σ6 s3 s5 s42 s43 s44
  refine W.held (fun w' => Ch (fun _ => False) w11 w') mo ?_
  intro w12 qhh5 qc6
  have hS : Ch (fun _ => False) w11 w12 := Ch.weak qc6
  have hzqc6 := qc6.size
  have cdh5 := qc6
  refine WH.take 0 rfl (by kernel_rfl) (by kernel_rfl) (by kernel_rfl) (fun _ _ _ h => h) Gd.none rfl (fun w' hS' => X.mv (s3)) hS ?_
  refine WH.take 1 rfl (by kernel_rfl) (by kernel_rfl) (by kernel_rfl) (fun _ _ _ h => h) Gd.none rfl (fun w' hS' => X.fieldAddr fd85_0 (lt rfl (s5))) hS ?_
  refine WH.take 2 rfl (by kernel_rfl) (by kernel_rfl) (by kernel_rfl) (fun _ _ _ h => h) Gd.none rfl (fun w' hS' => X.load pl3 (lh) (by exact hS'.at (by assumption) (by intro hne; exact hne)) (by rfl)) hS ?_
  refine WH.take 6 rfl (by kernel_rfl) (by kernel_rfl) (by kernel_rfl) (fun _ _ _ h => h) Gd.none rfl (fun w' hS' => X.fieldAddr fd85_2 (jt2 rfl (lt rfl (s5)))) hS ?_
  refine WH.take 7 rfl (by kernel_rfl) (by kernel_rfl) (by kernel_rfl) (fun _ _ _ h => h) Gd.none rfl (fun w' hS' => X.load pl3 (lh) (by exact hS'.at (by assumption) (by intro hne; exact hne)) (by rfl)) hS ?_
  refine WH.take 10 rfl (by kernel_rfl) (by kernel_rfl) (by kernel_rfl) (fun _ _ _ h => h) Gd.none rfl (fun w' hS' => X.fieldAddr fd85_1 (jt4 rfl (lt rfl (s5)))) hS ?_
  refine WH.take 11 rfl (by kernel_rfl) (by kernel_rfl) (by kernel_rfl) (fun _ _ _ h => h) Gd.none rfl (fun w' hS' => X.load pl3 (lh) (by exact hS'.at (by assumption) (by intro hne; exact hne)) (by rfl)) hS ?_
  refine WH.take 14 rfl (by kernel_rfl) (by kernel_rfl) (by kernel_rfl) (fun _ _ _ h => h) Gd.none rfl (fun w' hS' => X.fieldAddr fd85_3 (jt4 rfl (jt2 rfl (lt rfl (s5))))) hS ?_
  refine WH.take 15 rfl (by kernel_rfl) (by kernel_rfl) (by kernel_rfl) (fun _ _ _ h => h) Gd.none rfl (fun w' hS' => X.load pl9 (lh) (by exact hS'.at (by assumption) (by intro hne; exact hne)) (by rfl)) hS ?_
  refine WH.take 18 rfl (by kernel_rfl) (by kernel_rfl) (by kernel_rfl) (fun _ _ _ h => h) Gd.none rfl (fun w' hS' => X.fieldAddr fd85_4 (jt8 rfl (lt rfl (s5)))) hS ?_
  refine WH.take 19 rfl (by kernel_rfl) (by kernel_rfl) (by kernel_rfl) (fun _ _ _ h => h) Gd.none rfl (fun w' hS' => X.load pl3 (lh) (by exact hS'.at (by assumption) (by intro hne; exact hne)) (by rfl)) hS ?_
  refine WH.take 22 rfl (by kernel_rfl) (by kernel_rfl) (by kernel_rfl) (fun _ _ _ h => h) Gd.none rfl (fun w' hS' => X.fieldAddr fd85_5 (jt8 rfl (jt2 rfl (lt rfl (s5))))) hS ?_
  refine WH.take 23 rfl (by kernel_rfl) (by kernel_rfl) (by kernel_rfl) (fun _ _ _ h => h) Gd.none rfl (fun w' hS' => X.load pl3 (lh) (by exact hS'.at (by assumption) (by intro hne; exact hne)) (by rfl)) hS ?_
  refine WH.take 26 rfl (by kernel_rfl) (by kernel_rfl) (by kernel_rfl) (fun _ _ _ h => h) Gd.none rfl (fun w' hS' => X.fieldAddr fd85_6 (jt8 rfl (jt4 rfl (lt rfl (s5))))) hS ?_
  refine WH.take 27 rfl (by kernel_rfl) (by kernel_rfl) (by kernel_rfl) (fun _ _ _ h => h) Gd.none rfl (fun w' hS' => X.load pl4 (lh) (by exact hS'.at (by assumption) (by intro hne; exact hne)) (by rfl)) hS ?_
  refine WH.take 30 rfl (by kernel_rfl) (by kernel_rfl) (by kernel_rfl) (fun _ _ _ h => h) Gd.none rfl (fun w' hS' => X.fieldAddr fd85_7 (jt8 rfl (jt4 rfl (jt2 rfl (lt rfl (s5)))))) hS ?_
  refine WH.take 31 rfl (by kernel_rfl) (by kernel_rfl) (by kernel_rfl) (fun _ _ _ h => h) Gd.none rfl (fun w' hS' => X.load pl4 (lh) (by exact hS'.at (by assumption) (by intro hne; exact hne)) (by rfl)) hS ?_
  refine WH.one 3 rfl (by kernel_rfl) (fun _ _ h => h) ?_
  refine WL.call1 ce41 (jt8 rfl (jt4 rfl (jt2 rfl (lh)))) (rnumt_ok y.1 w12 hny.1) rfl ?_
  rintro _ w13 ⟨rfl, c1⟩
  have hS := hS.trans c1 (fun _ _ => id) (by intro i hi hg; exact hg)
  refine WL.nil Nx.thn ⟨hS, ?_⟩
  refine WH.take 4 rfl (by kernel_rfl) (by kernel_rfl) (by kernel_rfl) (fun _ _ _ h => h) Gd.none rfl (fun w' hS' => X.addS lc (lh) (by simp only [ByteArray.size_append, szl, size_bs, List.size_toArray, List.length_cons, List.length_nil, List.length_append]; omega)) hS ?_
  refine WH.take 5 rfl (by kernel_rfl) (by kernel_rfl) (by kernel_rfl) (fun _ _ _ h => h) Gd.none rfl (fun w' hS' => X.addS (lh) lc (by simp only [ByteArray.size_append, szl, size_bs, List.size_toArray, List.length_cons, List.length_nil, List.length_append]; omega)) hS ?_
  refine WH.one 8 rfl (by kernel_rfl) (fun _ _ h => h) ?_
  refine WL.call1 ce84 (jt8 rfl (jt4 rfl (jt2 rfl (lt rfl (lh))))) (rlabel_ok y.2.2.1 w13) rfl ?_
  rintro _ _ ⟨rfl, rfl⟩
  refine WL.nil Nx.thn ⟨hS, ?_⟩
  refine WH.take 9 rfl (by kernel_rfl) (by kernel_rfl) (by kernel_rfl) (fun _ _ _ h => h) Gd.none rfl (fun w' hS' => X.addS (lt rfl (lh)) (lh) (by simp only [ByteArray.size_append, szl, size_bs, List.size_toArray, List.length_cons, List.length_nil, List.length_append]; omega)) hS ?_
  refine WH.one 12 rfl (by kernel_rfl) (fun _ _ h => h) ?_
  refine WL.call1 ce41 (jt8 rfl (jt4 rfl (jt2 rfl (lt rfl (lh))))) (rnumt_ok y.2.1 w13 hny.2.1) rfl ?_
  rintro _ w14 ⟨rfl, c2⟩
  have hS := hS.trans c2 (fun _ _ => id) (by intro i hi hg; exact hg)
  refine WL.nil Nx.thn ⟨hS, ?_⟩
  refine WH.take 13 rfl (by kernel_rfl) (by kernel_rfl) (by kernel_rfl) (fun _ _ _ h => h) Gd.none rfl (fun w' hS' => X.addS (lt rfl (lh)) (lh) (by simp only [ByteArray.size_append, szl, size_bs, List.size_toArray, List.length_cons, List.length_nil, List.length_append]; omega)) hS ?_
  refine WH.one 16 rfl (by kernel_rfl) (fun _ _ h => h) ?_
  refine WL.call1 ce83 (jt8 rfl (jt4 rfl (jt2 rfl (lt rfl (lh))))) (rkeyt_ok y.2.2.2.1 w14 (keyE_len (mayW_of hmy).2)) rfl ?_
  rintro _ _ ⟨rfl, rfl⟩
  refine WL.nil Nx.thn ⟨hS, ?_⟩
  refine WH.take 17 rfl (by kernel_rfl) (by kernel_rfl) (by kernel_rfl) (fun _ _ _ h => h) Gd.none rfl (fun w' hS' => X.addS (lt rfl (lh)) (lh) (by simp only [ByteArray.size_append, szl, size_bs, List.size_toArray, List.length_cons, List.length_nil, List.length_append]; omega)) hS ?_
  refine WH.one 20 rfl (by kernel_rfl) (fun _ _ h => h) ?_
  refine WL.call1 ce41 (jt8 rfl (jt4 rfl (jt2 rfl (lt rfl (lh))))) (rnumt_ok y.2.2.2.2.1 w14 hny.2.2.1) rfl ?_
  rintro _ w15 ⟨rfl, c3⟩
  have hS := hS.trans c3 (fun _ _ => id) (by intro i hi hg; exact hg)
  refine WL.nil Nx.thn ⟨hS, ?_⟩
  refine WH.take 21 rfl (by kernel_rfl) (by kernel_rfl) (by kernel_rfl) (fun _ _ _ h => h) Gd.none rfl (fun w' hS' => X.addS (lt rfl (lh)) (lh) (by simp only [ByteArray.size_append, szl, size_bs, List.size_toArray, List.length_cons, List.length_nil, List.length_append]; omega)) hS ?_
  refine WH.one 24 rfl (by kernel_rfl) (fun _ _ h => h) ?_
  refine WL.call1 ce41 (jt8 rfl (jt4 rfl (jt2 rfl (lt rfl (lh))))) (rnumt_ok y.2.2.2.2.2.1 w15 hny.2.2.2) rfl ?_
  rintro _ w16 ⟨rfl, c4⟩
  have hS := hS.trans c4 (fun _ _ => id) (by intro i hi hg; exact hg)
  refine WL.nil Nx.thn ⟨hS, ?_⟩
  refine WH.take 25 rfl (by kernel_rfl) (by kernel_rfl) (by kernel_rfl) (fun _ _ _ h => h) Gd.none rfl (fun w' hS' => X.addS (lt rfl (lh)) (lh) (by simp only [ByteArray.size_append, szl, size_bs, List.size_toArray, List.length_cons, List.length_nil, List.length_append]; omega)) hS ?_
  refine WH.one 28 rfl (by kernel_rfl) (fun _ _ h => h) ?_
  refine WL.call3 ce42 (jt8 rfl (jt4 rfl (jt2 rfl (lt rfl (lh))))) lc lc (reither_ok y.2.2.2.2.2.2.1 ⟨#[32, 110, 105, 108]⟩ ⟨#[32, 118, 97, 108, 117, 101]⟩ w16) rfl ?_
  rintro _ _ ⟨rfl, rfl⟩
  refine WL.nil Nx.thn ⟨hS, ?_⟩
  refine WH.take 29 rfl (by kernel_rfl) (by kernel_rfl) (by kernel_rfl) (fun _ _ _ h => h) Gd.none rfl (fun w' hS' => X.addS (lt rfl (lh)) (lh) (by simp only [ByteArray.size_append, szl, size_bs, List.size_toArray, List.length_cons, List.length_nil, List.length_append]; omega)) hS ?_
  refine WH.one 32 rfl (by kernel_rfl) (fun _ _ h => h) ?_
  refine WL.call3 ce42 (jt8 rfl (jt4 rfl (jt2 rfl (lt rfl (lh))))) lc lc (reither_ok y.2.2.2.2.2.2.2 ⟨#[32, 99, 111, 110, 100]⟩ ⟨#[32, 115, 117, 114, 101]⟩ w16) rfl ?_
  rintro _ _ ⟨rfl, rfl⟩
  refine WL.nil Nx.thn ⟨hS, ?_⟩
  refine WH.take 33 rfl (by kernel_rfl) (by kernel_rfl) (by kernel_rfl) (fun _ _ _ h => h) Gd.none rfl (fun w' hS' => X.addS (lt rfl (lh)) (lh) (by simp only [ByteArray.size_append, szl, size_bs, List.size_toArray, List.length_cons, List.length_nil, List.length_append]; omega)) hS ?_
  refine WH.take 34 rfl (by kernel_rfl) (by kernel_rfl) (by kernel_rfl) (fun _ _ _ h => h) Gd.none rfl (fun w' hS' => X.addS (lh) lc (by simp only [ByteArray.size_append, szl, size_bs, List.size_toArray, List.length_cons, List.length_nil, List.length_append]; omega)) hS ?_
  refine WH.take 35 rfl (by kernel_rfl) (by kernel_rfl) (by kernel_rfl) (fun _ _ _ h => h) Gd.none rfl (fun w' hS' => X.addS (jt8 rfl (jt8 rfl (jt8 rfl (jt8 rfl (jt2 rfl (lh)))))) (lh) (by simp only [ByteArray.size_append, szl, size_bs, List.size_toArray, List.length_cons, List.length_nil, List.length_append]; omega)) hS ?_
  refine WH.take 36 rfl (by kernel_rfl) (by kernel_rfl) (by kernel_rfl) (fun _ _ _ h => h) Gd.none rfl (fun w' hS' => X.asg (lh)) hS ?_
  refine WH.done (by kernel_rfl) ?_
  refine WL.e4 (Nx.blk Nx.thn) 3 42 43 44 (lh) (jt8 rfl (jt8 rfl (jt8 rfl (jt8 rfl (jt4 rfl (lt rfl (s42))))))) (jt8 rfl (jt8 rfl (jt8 rfl (jt8 rfl (jt4 rfl (lt rfl (s43))))))) (jt8 rfl (jt8 rfl (jt8 rfl (jt8 rfl (jt4 rfl (lt rfl (s44))))))) ?_
  intro σ7 s3 s42 s43 s44
  refine W.region ?_
  refine WL.x (X.add (s44) lc (by omega) (by omega)) rfl ?_
  refine WL.x (X.mv (lh)) rfl ?_
  refine WL.e4 Nx.thn 3 42 43 44 (jt2 rfl (s3)) (jt2 rfl (s42)) (jt2 rfl (s43)) (lh) ?_
  intro σ8 s3 s42 s43 s44
  refine ⟨k + 1, by omega, ⟨s42.trans qo3.symm, s43.trans qo4.symm, trivial⟩, _, s3, s44, (by rw [htq]; simp only [sb_app, sb_bs, sb_mk, sb_nil_, sb_cond, hSe]; unfold whyT wT; simp only [List.append_assoc, List.cons_append, List.nil_append]), by omega, hcl.trans0 hS⟩
 ·
  have hSz := sb_len S
  rw [hSe] at hSz
  simp only [List.length_append] at hSz
  have hlq9 := hlq k
  refine W.exit (Nx.xthn (Nx.xthn (Nx.xblk Nx.thn))) ?_
  refine W.seq ?_
  refine W.region ?_
  refine WL.x (X.mv (s3)) rfl ?_
  refine WL.x (X.addS (lh) lc (by simp only [ByteArray.size_append, szl, size_bs, List.size_toArray, List.length_cons, List.length_nil, List.length_append]; omega)) rfl ?_
  refine WL.x (X.asg (lh)) rfl ?_
  refine WL.e1 Nx.thn 2 (lh) ?_
  intro σ9 s2
  refine W.ret1 Nx.f1 s2 ?_
  exact ⟨fin_str (by rw [anT_eq]; rw [show k = x.2.2.2.2.2.2.1.length by omega, List.take_length] at hSe; simp only [sb_app, sb_bs, sb_mk, hSe, List.append_assoc]), hcl⟩
end Go.Proofs.YtbnllchicnmkiaaGreatDoor
end
