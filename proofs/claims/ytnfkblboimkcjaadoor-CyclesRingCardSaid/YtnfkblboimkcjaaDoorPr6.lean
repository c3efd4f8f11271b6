/-
  A part of the walk of the program. | A part of the walk of the program. | A part of the walk of the program. | A part of the walk of the program. | A part of the walk of the program. | Maps from integers to bools that the call itself has made. | What came in, opened: slices of structs, of whatever depth. | A part of the walk of the program. | Nodes taken out one by one, each when no edge from one that is left leads to it: if all come out there is no ring.
-/
import Derived.Test.YtnfkblboimkcjaaDoorPr5
import Derived.Maps.Own
import Derived.Maps.OwnSet
import Derived.Maps.Views
section
set_option linter.unusedVariables false
set_option linter.unusedSimpArgs false
set_option maxRecDepth 100000
namespace Go.Proofs.YtnfkblboimkcjaaDoor
open Go Go.RowKit Sg

abbrev Gen := Int × Int
theorem cmp_en (x y : Gen) : ∃ fs, Tryd.prog.underlying 84 = some (.struct fs) ∧ CmpAll Tryd.prog #[.int .i64 (x.1), .int .i64 (x.2)] #[.int .i64 (y.1), .int .i64 (y.2)] fs.toList [decide (x.1 = y.1), decide (x.2 = y.2)] := ⟨_, Tryd.underlying84, ⟨by decide, ⟨_, _, rfl, rfl, .inl ⟨_, _, _, Tryd.underlying3, rfl, rfl, rfl⟩⟩, ⟨by decide, ⟨_, _, rfl, rfl, .inl ⟨_, _, _, Tryd.underlying3, rfl, rfl, rfl⟩⟩, trivial⟩⟩⟩
theorem cmpv_en (x y : Gen) : (!(([decide (x.1 = y.1), decide (x.2 = y.2)] : List Bool).all id)) = decide (x ≠ y) := by
  rw [Bool.eq_iff_iff]
  simp [Prod.ext_iff]
theorem hp_en : Tryd.prog.stoodInHeld 84 = false := by kernel_rfl
theorem hg_en : Tryd.prog.eqGuardType Tryd.prog.depth 84 = false := by kernel_rfl

set_option maxHeartbeats 6400000 in
theorem short_in (base g n : Nat) (Lb : Nat → Nat → Nat) (w : World) (h : IsG w base g n Lb) (htab : Tab w) (hb0 : 0 < w.heap.size) (o : Int) (a b D : Nat) (ha : a < n) (hb : b < n) (hD0 : D ≠ 0) (hD : dst (EE Lb o) a b = D)  :
  Sg.Ret Tryd.prog 22 #[.pointer (some ⟨g, 0, none⟩), .int .i64 o, .int .i64 (a : Int), .int .i64 (b : Int)] w fun v w' => Sl w' v ((a :: spath Lb n o b D a).map fun (x : Nat) => Value.int .i64 (x : Int)) ∧ D ≤ n ∧ Ch0 w w' := by
 obtain ⟨bss, vs, hfk, hbl, hd⟩ := h.ex
 have hle := h.le
 have hok := h.ok
 have hds : dsI n Lb o a b = (D : Int) := by unfold dsI dI; rw [if_pos ⟨⟨by omega, by omega⟩, by omega, by omega⟩, show ((a : Nat) : Int).toNat = a by omega, show ((b : Nat) : Int).toNat = b by omega, hD, if_neg hD0]
 refine enter1 (n := 70) (l := [.pointer (some ⟨g, 0, none⟩), .int .i64 o, .int .i64 (a : Int), .int .i64 (b : Int)]) Tryd.func22 rfl rfl rfl rfl ?_
 refine W.g4 0 1 2 3 (v1 := .pointer (some ⟨g, 0, none⟩)) (v2 := .int .i64 o) (v3 := .int .i64 (a : Int)) (v4 := .int .i64 (b : Int)) rfl rfl rfl rfl ?_; intro σ s0 s1 s2 s3
 refine W.seq ?_
 refine W.region ?_
 refine WL.box1 (s3) rfl rfl ?_
 intro w1 u0_0; have hu0_0 := u0_0.at_; have cu0_0 := u0_0.ch; have zu0_0 := u0_0.size
 refine WL.x (X.asg lc) rfl ?_
 refine WL.e4 Nx.thn 0 1 2 7 (jt2 rfl (s0)) (jt2 rfl (s1)) (jt2 rfl (s2)) (lt rfl (lh)) ?_
 intro σ1 s0 s1 s2 s7
 refine W.seq ?_
 refine W.seq ?_
 refine W.region ?_
 refine WL.x (X.mv (s0)) rfl ?_
 refine WL.x (X.mv (lt rfl (s1))) rfl ?_
 refine WL.x (X.mv (jt2 rfl (s2))) rfl ?_
 refine WL.x (X.load pl3 (jt2 rfl (lt rfl (s7))) hu0_0 (v := .int .i64 (b : Int)) rfl) rfl ?_
 refine WL.call4 ce44 (jt2 rfl (lt rfl (lh))) (jt2 rfl (lh)) (lt rfl (lh)) (lh) (pdist_ok base g n Lb w1 (h.ch0 cu0_0) (htab.ch0 cu0_0) (by omega) o a b) rfl ?_
 rintro _ w2 ⟨rfl, hbd, c1⟩
 have htb := c1.at0 hu0_0
 have hz1 := c1.size
 have hcl2 := cu0_0.trans0 c1
 rw [hds] at hbd
 refine WL.x (X.lss (lh) lc) rfl ?_
 refine WL.e5 Nx.thn 0 1 2 7 19 (jt4 rfl (jt2 rfl (s0))) (jt4 rfl (jt2 rfl (s1))) (jt4 rfl (jt2 rfl (s2))) (jt4 rfl (jt2 rfl (s7))) (lh) ?_
 intro σ2 s0 s1 s2 s7 s19
 refine W.cndN s19 (by rw [hds]; omega) ?_
 refine W.skip Nx.thn ?_
 refine W.seq ?_
 refine W.held (fun w' => Ch (fun j => w2.heap.size ≤ j) w2 w') mo ?_
 intro w3 qhh1 qc2
 have hS : Ch (fun j => w2.heap.size ≤ j) w2 w3 := Ch.weak qc2
 have hzqc2 := qc2.size
 have cdh3 := qc2
 refine WH.take 0 rfl (by kernel_rfl) (by kernel_rfl) (by kernel_rfl) (fun _ _ _ h => h) Gd.none rfl (fun w' hS' => X.mv (s0)) hS ?_
 refine WH.take 2 rfl (by kernel_rfl) (by kernel_rfl) (by kernel_rfl) (fun _ _ _ h => h) Gd.none rfl (fun w' hS' => X.mv (lt rfl (s1))) hS ?_
 refine WH.take 3 rfl (by kernel_rfl) (by kernel_rfl) (by kernel_rfl) (fun _ _ _ h => h) Gd.none rfl (fun w' hS' => X.load pl3 (jt2 rfl (s7)) (hS'.at htb (by (try dsimp only); omega)) (v := .int .i64 (b : Int)) rfl) hS ?_
 refine WH.two 1 5 rfl rfl (by kernel_rfl) (fun _ _ h => h) ?_ ?_
 ·
  have hS2 : Ch0 w w3 := hcl2.trans hS (H := fun _ => False) (fun _ _ e => e) (fun i hi e => by have := e; (try dsimp only at this); omega)
  have hzS := hS2.size
  refine WL.call1 ce46 (jt2 rfl (lh)) (gturn_ok base g n Lb w3 (h.ch0 hS2) (htab.ch0 hS2) (by omega)) rfl ?_
  rintro _ w4 ⟨gt, rfl, hgt, c3⟩
  rw [fold_turn hok] at hgt
  have hz3 := c3.size
  have hS := hS.trans c3 (fun _ _ => id) (by intro i hi hg; exact False.elim hg)
  refine WL.nil Nx.thn ⟨hS, ?_⟩
  refine WH.two 4 5 rfl rfl (by kernel_rfl) (fun _ _ h => h) ?_ ?_
  ·
   have hS2 : Ch0 w w4 := hcl2.trans hS (H := fun _ => False) (fun _ _ e => e) (fun i hi e => by have := e; (try dsimp only at this); omega)
   have hzS := hS2.size
   refine WL.call3 ce45 (lh) (jt2 rfl (lh)) (lt rfl (lh)) (levels_ok _ gt n _ w4 (by exact hgt) (htab.ch0 hS2) (by omega) o b hb) rfl ?_
   rintro _ w5 ⟨b8, rfl, hb8l, hb8, hbn, c4⟩
   rw [show (fun i => (dst (EE (fun x y => Lb y x) o) b i : Int)) = fun i => (dst (EE Lb o) i b : Int) from funext fun i => congrArg Int.ofNat (dst_turn (E := (EE Lb o)))] at hb8
   have hz4 := c4.size
   have hS := hS.trans c4 (fun _ _ => id) (by intro i hi hg; exact False.elim hg)
   refine WL.nil Nx.thn ⟨hS, ?_⟩
   refine WH.one 5 rfl (by kernel_rfl) (fun _ _ h => h) ?_
   refine WL.alloc el40 rfl ?_
   intro w6 u3_5; have hu3_5 := u3_5.at_; have cu3_5 := u3_5.ch; have zu3_5 := u3_5.size
   have hS := hS.trans cu3_5 (fun _ _ => id) (by intro i hi hg; exact False.elim hg)
   refine WL.nil Nx.thn ⟨hS, ?_⟩
   refine WH.one 6 rfl (by kernel_rfl) (fun _ _ h => h) ?_
   have hS2 : Ch0 w w6 := hcl2.trans hS (H := fun _ => False) (fun _ _ e => e) (fun i hi e => by have := e; (try dsimp only at this); omega)
   have hzS := hS2.size
   have hb8lt := lt_of_blk hb8
   refine WL.store el40 (lh) (lt rfl (lh)) rfl (by exact hu3_5) (by decide) ?_
   intro w7 us; have cst := us.ch
   have hbbX : w7.heap[(_ : Nat)]? = some (Obj.cells #[.slice (some ⟨b8, 0, none⟩) n n] 40 (0, 0)) := us.at_
   have hb8X := cst.at (by exact cu3_5.at0 hb8) (by (try dsimp only); omega)
   have htbX := cst.at (hS.at htb (by (try dsimp only); omega)) (by (try dsimp only); omega)
   have hclX := hS2.trans cst (H := fun _ => False) (fun _ _ e => e) (fun i hi e => by (try dsimp only at e); omega)
   have hS := hS.trans cst (fun _ _ => id) (fun i hi hg => by have := hg; (try dsimp only at this ⊢); omega)
   refine WL.nil Nx.thn ⟨hS, ?_⟩
   refine WH.done (by kernel_rfl) ?_
   refine WL.e5 Nx.thn 0 1 2 7 9 (jt4 rfl (jt2 rfl (s0))) (jt4 rfl (jt2 rfl (s1))) (jt4 rfl (jt2 rfl (s2))) (jt4 rfl (jt2 rfl (s7))) (lh) ?_
   intro σ3 s0 s1 s2 s7 s9
   refine W.seq ?_
   refine W.region ?_
   refine WL.x (X.mv (s2)) rfl ?_
   refine WL.x (X.load pl3 (lt rfl (s7)) htbX (v := .int .i64 (b : Int)) rfl) rfl ?_
   refine WL.x (X.build bd84 (pcons (lt rfl (lh)) (pcons (lh) pnil)) rfl (rfl : _ = [_, _])) rfl ?_
   refine WL.alloc el84 rfl ?_
   intro w8 u4_3; have hu4_3 := u4_3.at_; have cu4_3 := u4_3.ch; have zu4_3 := u4_3.size
   refine WL.storeS ag84 (lh) (lt rfl (lh)) rfl rfl hu4_3 (by decide) ?_
   intro w9 us; have cst4 := us.ch
   have habY : w9.heap[(_ : Nat)]? = some (Obj.cells #[.int .i64 (a : Int), .int .i64 (b : Int)] 84 (0, 0)) := us.at_
   have cky := cu4_3.trans cst4 (F := fun _ => False) (H := fun _ => False) (fun _ _ e => e) (fun i hi e => by (try dsimp only at e); omega)
   have hbbY := cky.at0 hbbX
   have hb8 := cky.at0 hb8X
   have htb := cky.at0 htbX
   have hcl := hclX.trans0 cky
   refine WL.e6 Nx.thn 0 1 2 7 9 10 (jt4 rfl (s0)) (jt4 rfl (s1)) (jt4 rfl (s2)) (jt4 rfl (s7)) (jt4 rfl (s9)) (lh) ?_
   intro σ4 s0 s1 s2 s7 s9 s10
   refine W.seq ?_
   refine W.region ?_
   obtain ⟨bb, s9, hbb, hbbE⟩ := box_of s9 hbbY
   obtain ⟨ab, s10, hab, habE⟩ := box_of s10 habY
   have hal : w.heap.size ≤ ab := by have := hclX.size; omega
   obtain ⟨PB, hPB⟩ : ∃ PB, PB = w9.heap.size := ⟨_, rfl⟩
   have hb8P := lt_of_blk hb8
   have htbP := lt_of_blk htb
   have habP := lt_of_blk hab
   have hbbP := lt_of_blk hbb
   refine WL.x (X.mv (s2)) rfl ?_
   refine WL.bslice Tryd.underlying40 el3 rfl (pcons (lh) pnil) rfl (rfl : _ = [_]) rfl ?_
   intro w10 u5_1; have hu5_1 := u5_1.at_; have cu5_1 := u5_1.ch; have zu5_1 := u5_1.size
   refine WL.x (X.asg (lh)) rfl ?_
   refine WL.e7 Nx.thn 0 1 2 7 9 10 11 (jt2 rfl (lt rfl (s0))) (jt2 rfl (lt rfl (s1))) (jt2 rfl (lt rfl (s2))) (jt2 rfl (lt rfl (s7))) (jt2 rfl (lt rfl (s9))) (jt2 rfl (lt rfl (s10))) (lh) ?_
   intro σ5 s0 s1 s2 s7 s9 s10 s11
   refine W.seq ?_
   refine W.seq ?_
   refine W.region ?_
   refine WL.x (X.load pl40 (s9) (cu5_1.at0 hbb) (v := .slice (some ⟨b8, 0, none⟩) n n) rfl) rfl ?_
   refine WL.x (X.mv (lt rfl (s2))) rfl ?_
   refine WL.x (X.indexAddr Tryd.underlying40 el3 (lt rfl (lh)) (lh) (by omega) (by omega)) rfl ?_
   refine WL.x (X.load pl3 (lh) (cu5_1.at0 hb8) (v := .int .i64 (D : Int)) (by rw [show 0 + (a : Int).toNat * 1 = a by omega, wI_get ha, hD])) rfl ?_
   refine WL.alloc el3 rfl ?_
   intro w11 u6_4; have hu6_4 := u6_4.at_; have cu6_4 := u6_4.ch; have zu6_4 := u6_4.size
   refine WL.store el3 (lh) (lt rfl (lh)) rfl hu6_4 (by decide) ?_
   intro w12 us; have cst6 := us.ch
   have hdbY : w12.heap[(_ : Nat)]? = some (Obj.cells #[.int .i64 (D : Int)] 3 (0, 0)) := us.at_
   have cky6 := (cu5_1.trans0 cu6_4).trans cst6 (H := fun _ => False) (fun _ _ e => e) (fun i hi e => by (try dsimp only at e); omega)
   have hpq0 := (q_one (base := PB) hu5_1 (by omega)).ch0 cu6_4
   have hpq00 := q_one (base := PB) hu5_1 (by omega)
   have hpq := hpq0.ch cst6 (fun kk hk e => by have := (hpq00.lt hk).2; (try dsimp only at e); omega)
   have hab := cky6.at0 hab
   have hbb := cky6.at0 hbb
   have hb8 := cky6.at0 hb8
   have htb := cky6.at0 htb
   have hcl := hcl.trans0 cky6
   refine WL.e7 Nx.thn 0 1 7 9 10 11 12 (jt4 rfl (lt rfl (s0))) (jt4 rfl (lt rfl (s1))) (jt4 rfl (lt rfl (s7))) (jt4 rfl (lt rfl (s9))) (jt4 rfl (lt rfl (s10))) (jt4 rfl (lt rfl (s11))) (lh) ?_
   intro σ6 s0 s1 s7 s9 s10 s11 s12
   refine W.block ?_
   have qo3 := s0
   have qo4 := s1
   have qo5 := s7
   have qo6 := s9
   have qo7 := s10
   -- loop 0: kept [0, 1, 7, 9, 10], varied [11, 12]
   refine W.loop (G := Nat × Nat × List Nat) (fun (d, at_, P) σ' w' => (σ' 0 = σ6 0 ∧ σ' 1 = σ6 1 ∧ σ' 7 = σ6 7 ∧ σ' 9 = σ6 9 ∧ σ' 10 = σ6 10 ∧ True) ∧ (∃ db pv, σ' 12 = .pointer (some ⟨db, 0, none⟩) ∧ w'.heap[db]? = some (.cells #[.int .i64 (d : Int)] 3 (0, 0)) ∧ σ' 11 = pv ∧ QRow w' PB 3 pv (P.map fun (x : Nat) => Value.int .i64 (x : Int)) ∧ (∀ kk, slBlk pv kk → kk ≠ db) ∧ w'.heap[ab]? = some (.cells #[.int .i64 (at_ : Int), .int .i64 (b : Int)] 84 (0, 0)) ∧ w'.heap[bb]? = some (.cells #[.slice (some ⟨b8, 0, none⟩) n n] 40 (0, 0)) ∧ w'.heap[b8]? = some (.cells (wI n (fun i => (dst (EE Lb o) i b : Int))) 3 (0, 0)) ∧ w'.heap[w.heap.size]? = some (.cells #[.int .i64 (b : Int)] 3 (0, 0)) ∧ at_ < n ∧ Left (EE Lb o) at_ b d ∧ P.length + d = D + 1 ∧ a :: spath Lb n o b D a = P ++ spath Lb n o b d at_ ∧ (w.heap.size ≤ db ∧ PB < db) ∧ Ch0 w w')) (fun (d, at_, P) => d) ((D, a, [a])) ⟨⟨rfl, rfl, rfl, rfl, rfl, trivial⟩, _, _, s12, hdbY, s11, hpq, (fun kk hk e9 => by have := (hpq00.lt hk).2; omega), hab, hbb, hb8, htb, ha, by unfold Left; rw [if_neg hD0]; exact hD, by simp; omega, rfl, ⟨by omega, by omega⟩, hcl⟩ ?_
   rintro ⟨d, at_, P⟩ σ7 w13 ⟨⟨f0, f1, f7, f9, f10, _⟩, db, pv, s12, hdb, s11, hpq, hnd, hab, hbb, hb8, htb, hatn, hlf, hPl, hPe, hdl, hcl⟩
   have s0 := f0.trans qo3
   have s1 := f1.trans qo4
   have s7 := f7.trans qo5
   have s9 := f9.trans qo6
   have s10 := f10.trans qo7
   refine W.seq ?_
   refine W.seq ?_
   refine W.region ?_
   refine WL.x (X.load pl3 (s12) hdb (v := .int .i64 (d : Int)) rfl) rfl ?_
   refine WL.x (X.gtr (lh) lc) rfl ?_
   refine WL.e8 Nx.thn 0 1 7 9 10 11 12 35 (jt2 rfl (s0)) (jt2 rfl (s1)) (jt2 rfl (s7)) (jt2 rfl (s9)) (jt2 rfl (s10)) (jt2 rfl (s11)) (jt2 rfl (s12)) (lh) ?_
   intro σ8 s0 s1 s7 s9 s10 s11 s12 s35
   refine W.cndp s35 (fun hgo => ?_) (fun hgo => ?_)
   ·
    have hd0 : d ≠ 0 := by omega
    obtain ⟨e, rfl⟩ : ∃ e, d = e + 1 := ⟨d - 1, by omega⟩
    have hdl2 := lt_of_blk hdb
    refine W.skip Nx.thn ?_
    refine W.seq ?_
    refine W.block ?_
    refine W.seq ?_
    refine W.region ?_
    refine WL.x (X.mv (s0)) rfl ?_
    refine WL.x (X.fieldAddr fd84_0 (lt rfl (s10))) rfl ?_
    refine WL.x (X.load pl3 (lh) hab (v := .int .i64 (at_ : Int)) rfl) rfl ?_
    refine WL.x (X.mv (jt2 rfl (lt rfl (s1)))) rfl ?_
    refine WL.call3 ce43 (jt2 rfl (lt rfl (lh))) (lt rfl (lh)) (lh) (gout_ok base g n Lb w13 (h.ch0 hcl) at_ o (htab.ch0 hcl) (by have := hcl.size; omega)) rfl ?_
    rintro v8 w14 ⟨hownL, c5⟩
    rw [outN_elv] at hownL
    have hoq := QRow.own hownL
    have hol := outN_len Lb at_ n o
    have hex := left_ex hok hd0 hlf
    obtain ⟨l2, hl2⟩ : ∃ l2, l2 = outN Lb at_ n o := ⟨_, rfl⟩
    rw [← hl2] at hoq hol hex
    obtain ⟨oa, oc, rfl⟩ : ∃ a c, v8 = .slice a l2.length c := qn_len hoq
    have hdb := c5.at0 hdb
    have hab := c5.at0 hab
    have hbb := c5.at0 hbb
    have hb8 := c5.at0 hb8
    have htb := c5.at0 htb
    have hpq := hpq.ch0 c5
    have hcl := hcl.trans0 c5
    refine WL.x (X.mkfn mnil (mcons (jt4 rfl (lt rfl (s12))) (mcons (jt4 rfl (lt rfl (s7))) (mcons (jt4 rfl (lt rfl (s9))) mnil)))) rfl ?_
    refine WL.call2 ce47 (lt rfl (lh)) (lh) (index_nx 48 [.pointer (some ⟨db, 0, none⟩), .pointer (some ⟨w.heap.size, 0, none⟩), .pointer (some ⟨bb, 0, none⟩)] (EE Lb o) b (e + 1) oa oc l2 w14 ce48 (fun m w0 hm c0 => Ret.mono (short_fn (EE Lb o) n (e + 1) b m db w.heap.size bb b8 w0 (by rw [hl2] at hm; exact (mem_outN.1 hm).1) (by omega) (c0.at0 hdb) (c0.at0 htb) (c0.at0 hbb) (c0.at0 hb8)) fun v w' k => ⟨k.1, k.2.ch0⟩) hoq.sl (by omega) hex) rfl ?_
    rintro _ w15 ⟨⟨k, hkl, rfl, hkn, hkp⟩, c6⟩
    have hdb := c6.at0 hdb
    have hab := c6.at0 hab
    have hbb := c6.at0 hbb
    have hb8 := c6.at0 hb8
    have htb := c6.at0 htb
    have hpq := hpq.ch0 c6
    have hcl := hcl.trans0 c6
    refine WL.x (X.asg (lh)) rfl ?_
    refine WL.e8 Nx.thn 0 1 7 9 10 11 12 13 (jt8 rfl (s0)) (jt8 rfl (s1)) (jt8 rfl (s7)) (jt8 rfl (s9)) (jt8 rfl (s10)) (jt8 rfl (s11)) (jt8 rfl (s12)) (lh) ?_
    intro σ9 s0 s1 s7 s9 s10 s11 s12 s13
    refine W.seq ?_
    refine W.region ?_
    refine WL.x (X.mv (s0)) rfl ?_
    refine WL.x (X.fieldAddr fd84_0 (lt rfl (s10))) rfl ?_
    refine WL.x (X.load pl3 (lh) hab (v := .int .i64 (at_ : Int)) rfl) rfl ?_
    refine WL.x (X.mv (jt2 rfl (lt rfl (s1)))) rfl ?_
    refine WL.call3 ce43 (jt2 rfl (lt rfl (lh))) (lt rfl (lh)) (lh) (gout_ok base g n Lb w15 (h.ch0 hcl) at_ o (htab.ch0 hcl) (by have := hcl.size; omega)) rfl ?_
    rintro v9 w16 ⟨hownM, c7⟩
    rw [outN_elv] at hownM
    have hoq2 := QRow.own hownM
    rw [← hl2] at hoq2
    obtain ⟨oa2, oc2, rfl⟩ : ∃ a c, v9 = .slice a l2.length c := qn_len hoq2
    obtain ⟨gr, gor, csr, Tr, frr, rfl, hr1, hr2⟩ := hoq2.sl.at (k := k) (by rw [List.length_map]; omega)
    obtain ⟨m, hm⟩ : ∃ m : Nat, l2[k]'hkl = m := ⟨_, rfl⟩
    rw [hm] at hkn hkp
    have hmn : m < n := by have := List.getElem_mem hkl; rw [hm, hl2] at this; exact (mem_outN.1 this).1
    have hdb := c7.at0 hdb
    have hab := c7.at0 hab
    have hbb := c7.at0 hbb
    have hb8 := c7.at0 hb8
    have htb := c7.at0 htb
    have hpq := hpq.ch0 c7
    have hcl := hcl.trans0 c7
    refine WL.x (X.mv (jt4 rfl (lt rfl (s13)))) rfl ?_
    refine WL.x (X.indexAddr Tryd.underlying40 el3 (lt rfl (lh)) (lh) (by omega) (by omega)) rfl ?_
    refine WL.x (X.load pl3 (lh) hr1 (v := .int .i64 (m : Int)) (by rw [show gor + (k : Int).toNat * 1 = gor + k by omega, hr2 k (by rw [List.length_map]; omega), List.getElem?_map, List.getElem?_eq_getElem hkl, hm]; rfl)) rfl ?_
    refine WL.x (X.fieldAddr fd84_0 (jt8 rfl (s10))) rfl ?_
    refine WL.store el3 (lh) (lt rfl (lh)) rfl hab (by simp) ?_
    intro w17 us; have cs10 := us.ch
    have hdb := cs10.at hdb (ty_ne ⟨_, hdb⟩ ⟨_, hab⟩ (by decide))
    have hbb := cs10.at hbb (ty_ne ⟨_, hbb⟩ ⟨_, hab⟩ (by decide))
    have hb8 := cs10.at hb8 (ty_ne ⟨_, hb8⟩ ⟨_, hab⟩ (by decide))
    have htb := cs10.at htb (ty_ne ⟨_, htb⟩ ⟨_, hab⟩ (by decide))
    have hpq := hpq.ch cs10 (fun kk hk e => ty_ne (hpq.ty hk) ⟨_, hab⟩ (by decide) e)
    have hcl := hcl.trans cs10 (H := fun _ => False) (fun _ _ e => e) (fun i hi e => by (try dsimp only at e); omega)
    have hab : w17.heap[ab]? = some (.cells #[.int .i64 (m : Int), .int .i64 (b : Int)] 84 (0, 0)) := us.at_
    refine WL.e7 Nx.thn 0 1 7 9 10 11 12 (jt8 rfl (lt rfl (s0))) (jt8 rfl (lt rfl (s1))) (jt8 rfl (lt rfl (s7))) (jt8 rfl (lt rfl (s9))) (jt8 rfl (lt rfl (s10))) (jt8 rfl (lt rfl (s11))) (jt8 rfl (lt rfl (s12))) ?_
    intro σ10 s0 s1 s7 s9 s10 s11 s12
    refine W.seq ?_
    refine W.region ?_
    refine WL.x (X.mv (s11)) rfl ?_
    refine WL.x (X.fieldAddr fd84_0 (lt rfl (s10))) rfl ?_
    refine WL.x (X.load pl3 (lh) hab (v := .int .i64 (m : Int)) rfl) rfl ?_
    refine WL.bslice Tryd.underlying40 el3 rfl (pcons (lh) pnil) rfl (rfl : _ = [_]) rfl ?_
    intro w18 u11_3; have hu11_3 := u11_3.at_; have cu11_3 := u11_3.ch; have zu11_3 := u11_3.size
    refine WL.pushQ Tryd.underlying40 el3 rfl (jt2 rfl (lt rfl (lh))) (lh) (hpq.ch0 cu11_3) (by assumption) rfl (by rw [List.length_map]; unfold maxLen; omega) (by rw [List.length_map]; omega) (by have := (cu11_3.size); have := lt_of_blk hdb; omega) rfl ?_
    intro va11_4 w19 ho11_4 ca11_4 hb11_4
    have hdb := ca11_4.at (cu11_3.at0 hdb) (fun hk => hnd _ hk rfl)
    have hzd := lt_of_blk (cu11_3.at0 hab)
    have hbb := ca11_4.at (cu11_3.at0 hbb) (fun hk => ty_ne (hpq.ty hk) ⟨_, hbb⟩ (by decide) rfl)
    have hb8 := ca11_4.at (cu11_3.at0 hb8) (fun hk => by have := (hpq.lt hk).1; omega)
    have htb := ca11_4.at (cu11_3.at0 htb) (fun hk => by have := (hpq.lt hk).1; omega)
    have hcl := (hcl.trans0 cu11_3).trans ca11_4 (H := fun _ => False) (fun _ _ e => e) (fun i hi e => by have := (hpq.lt e).1; omega)
    have hab := ca11_4.at (cu11_3.at0 hab) (fun hk => by have := (hpq.lt hk).1; omega)
    have hpq := ho11_4
    refine WL.x (X.asg (lh)) rfl ?_
    refine WL.e7 Nx.thn 0 1 7 9 10 11 12 (jt4 rfl (jt2 rfl (s0))) (jt4 rfl (jt2 rfl (s1))) (jt4 rfl (jt2 rfl (s7))) (jt4 rfl (jt2 rfl (s9))) (jt4 rfl (jt2 rfl (s10))) (lh) (jt4 rfl (jt2 rfl (s12))) ?_
    intro σ11 s0 s1 s7 s9 s10 s11 s12
    refine W.seq ?_
    refine W.region ?_
    refine WL.x (X.load pl3 (s12) hdb (v := .int .i64 ((e + 1 : Nat) : Int)) rfl) rfl ?_
    refine WL.x (X.eql (lh) lc) rfl ?_
    refine WL.x (X.mv (lh)) rfl ?_
    refine WL.splitp (lh) (fun hd1 => ?_) (fun hd1 => ?_)
    ·
     refine WL.yes rfl rfl (lh) (decide_eq_true hd1) ?_
     refine WL.x (X.loadBox (vs := [.int .i64 (m : Int), .int .i64 (b : Int)]) ag84 (jt2 rfl (lt rfl (s10))) hab rfl) rfl ?_
     refine WL.yes rfl rfl (lt rfl (lh)) (decide_eq_true hd1) ?_
     refine WL.x (X.load pl3 (jt4 rfl (s7)) htb (v := .int .i64 (b : Int)) rfl) rfl ?_
     refine WL.yes rfl rfl (jt2 rfl (lh)) (decide_eq_true hd1) ?_
     refine WL.x (X.load pl3 (jt4 rfl (lt rfl (s7))) htb (v := .int .i64 (b : Int)) rfl) rfl ?_
     refine WL.yes rfl rfl (jt2 rfl (lt rfl (lh))) (decide_eq_true hd1) ?_
     refine WL.x (X.build bd84 (pcons (lt rfl (lh)) (pcons (lh) pnil)) rfl (rfl : _ = [_, _])) rfl ?_
     refine WL.yes rfl rfl (jt4 rfl (lh)) (decide_eq_true hd1) ?_
     obtain ⟨fs9, hu9, hc9⟩ := cmp_en ((m : Int), (b : Int)) ((b : Int), (b : Int))
     refine WL.x (v := .bool (decide (((m : Int), (b : Int)) ≠ ((b : Int), (b : Int))))) (X.neqAgg hu9 hp_en hg_en (jt2 rfl (lt rfl (lh))) (lh) hc9 (cmpv_en _ _)) rfl ?_
     refine WL.x (X.pickT (jt4 rfl (lt rfl (lh))) (decide_eq_true hd1) (lh)) rfl ?_
     refine WL.e8 Nx.thn 0 1 7 9 10 11 12 67 (jt8 rfl (lt rfl (s0))) (jt8 rfl (lt rfl (s1))) (jt8 rfl (lt rfl (s7))) (jt8 rfl (lt rfl (s9))) (jt8 rfl (lt rfl (s10))) (jt8 rfl (lt rfl (s11))) (jt8 rfl (lt rfl (s12))) (lh) ?_
     intro σ12 s0 s1 s7 s9 s10 s11 s12 s67
     refine W.cndN s67 (fun h9 => h9 (pair_eq hkp (by omega))) ?_
     refine W.skip (Nx.blk Nx.thn) ?_
     refine W.seq ?_
     refine W.seq ?_
     refine W.region ?_
     refine WL.x (X.load pl3 (s12) hdb (v := .int .i64 ((e + 1 : Nat) : Int)) rfl) rfl ?_
     refine WL.e7 Nx.thn 0 1 7 9 10 11 68 (lt rfl (s0)) (lt rfl (s1)) (lt rfl (s7)) (lt rfl (s9)) (lt rfl (s10)) (lt rfl (s11)) (lh) ?_
     intro σ13 s0 s1 s7 s9 s10 s11 s68
     refine W.region ?_
     refine WL.alloc el3 rfl ?_
     intro w20 u15_0; have hu15_0 := u15_0.at_; have cu15_0 := u15_0.ch; have zu15_0 := u15_0.size
     refine WL.store el3 (lh) (lt rfl (s68)) rfl hu15_0 (by decide) ?_
     intro w21 us; have cs15 := us.ch
     have hdn : w21.heap[(_ : Nat)]? = some (Obj.cells #[.int .i64 ((e + 1 : Nat) : Int)] 3 (0, 0)) := us.at_
     have cky15 := cu15_0.trans cs15 (F := fun _ => False) (H := fun _ => False) (fun _ _ e => e) (fun i hi e => by (try dsimp only at e); omega)
     have hpqO := hpq
     have hzDB := lt_of_blk hdb
     have hzO := hcl.size
     have hzB := lt_of_blk hab
     have hab := cky15.at0 hab
     have hbb := cky15.at0 hbb
     have hb8 := cky15.at0 hb8
     have htb := cky15.at0 htb
     have hpq := hpq.ch0 cky15
     have hcl := hcl.trans0 cky15
     refine WL.e7 Nx.thn 0 1 7 9 10 11 12 (lt rfl (s0)) (lt rfl (s1)) (lt rfl (s7)) (lt rfl (s9)) (lt rfl (s10)) (lt rfl (s11)) (lh) ?_
     intro σ14 s0 s1 s7 s9 s10 s11 s12
     refine W.region ?_
     refine WL.x (X.load pl3 (s12) hdn (v := .int .i64 ((e + 1 : Nat) : Int)) rfl) rfl ?_
     refine WL.x (v := .int .i64 (e : Int)) (by rw [show (e : Int) = ((e + 1 : Nat) : Int) - 1 by omega]; exact X.sub (lh) lc (by omega) (by omega)) rfl ?_
     refine WL.store el3 (jt2 rfl (s12)) (lh) rfl hdn (by simp) ?_
     intro w22 us; have cs8 := us.ch
     have hdb : w22.heap[(_ : Nat)]? = some (Obj.cells #[.int .i64 (e : Int)] 3 (0, 0)) := us.at_
     have hab := cs8.at hab (by (try dsimp only); omega)
     have hbb := cs8.at hbb (by (try dsimp only); omega)
     have hb8 := cs8.at hb8 (by (try dsimp only); omega)
     have htb := cs8.at htb (by (try dsimp only); omega)
     have hpq := hpq.ch cs8 (fun kk hk e9 => by have := (hpqO.lt hk).2; (try dsimp only at e9); omega)
     have hcl := hcl.trans cs8 (H := fun _ => False) (fun _ _ e => e) (fun i hi e => by (try dsimp only at e); omega)
     refine WL.e7 Nx.thn 0 1 7 9 10 11 12 (jt2 rfl (s0)) (jt2 rfl (s1)) (jt2 rfl (s7)) (jt2 rfl (s9)) (jt2 rfl (s10)) (jt2 rfl (s11)) (jt2 rfl (s12)) ?_
     intro σ15 s0 s1 s7 s9 s10 s11 s12
     refine ⟨(e, m, P ++ [m]), by (try dsimp only); omega, ⟨s0.trans qo3.symm, s1.trans qo4.symm, s7.trans qo5.symm, s9.trans qo6.symm, s10.trans qo7.symm, trivial⟩, _, _, s12, hdb, s11, (by rw [List.map_append]; exact hpq), (fun kk hk e9 => by have := (hpqO.lt hk).2; omega), hab, hbb, hb8, htb, hmn, left_next hkp, by rw [List.length_append]; simp only [List.length_cons, List.length_nil]; omega, (by rw [hPe, List.append_assoc]; exact congrArg (fun z => P ++ z) (by rw [show spath Lb n o b (e + 1) at_ = nx (EE Lb o) (outN Lb at_ n o) b (e + 1) :: spath Lb n o b e (nx (EE Lb o) (outN Lb at_ n o) b (e + 1)) from rfl, ← hl2, ← hkn]; rfl)), ⟨by omega, by omega⟩, hcl⟩
    ·
     refine WL.no rfl rfl (lh) (decide_eq_false hd1) rfl ?_
     refine WL.no rfl rfl (lt rfl (lh)) (decide_eq_false hd1) rfl ?_
     refine WL.no rfl rfl (jt2 rfl (lh)) (decide_eq_false hd1) rfl ?_
     refine WL.no rfl rfl (jt2 rfl (lt rfl (lh))) (decide_eq_false hd1) rfl ?_
     refine WL.no rfl rfl (jt4 rfl (lh)) (decide_eq_false hd1) rfl ?_
     refine WL.x (X.pickF (jt4 rfl (lt rfl (lh))) (decide_eq_false hd1) lc) rfl ?_
     refine WL.e8 Nx.thn 0 1 7 9 10 11 12 67 (jt8 rfl (lt rfl (s0))) (jt8 rfl (lt rfl (s1))) (jt8 rfl (lt rfl (s7))) (jt8 rfl (lt rfl (s9))) (jt8 rfl (lt rfl (s10))) (jt8 rfl (lt rfl (s11))) (jt8 rfl (lt rfl (s12))) (lh) ?_
     intro σ16 s0 s1 s7 s9 s10 s11 s12 s67
     refine W.cndF s67 ?_
     refine W.skip (Nx.blk Nx.thn) ?_
     refine W.seq ?_
     refine W.seq ?_
     refine W.region ?_
     refine WL.x (X.load pl3 (s12) hdb (v := .int .i64 ((e + 1 : Nat) : Int)) rfl) rfl ?_
     refine WL.e7 Nx.thn 0 1 7 9 10 11 68 (lt rfl (s0)) (lt rfl (s1)) (lt rfl (s7)) (lt rfl (s9)) (lt rfl (s10)) (lt rfl (s11)) (lh) ?_
     intro σ17 s0 s1 s7 s9 s10 s11 s68
     refine W.region ?_
     refine WL.alloc el3 rfl ?_
     intro w23 u15_0; have hu15_0 := u15_0.at_; have cu15_0 := u15_0.ch; have zu15_0 := u15_0.size
     refine WL.store el3 (lh) (lt rfl (s68)) rfl hu15_0 (by decide) ?_
     intro w24 us; have cs15 := us.ch
     have hdn : w24.heap[(_ : Nat)]? = some (Obj.cells #[.int .i64 ((e + 1 : Nat) : Int)] 3 (0, 0)) := us.at_
     have cky15 := cu15_0.trans cs15 (F := fun _ => False) (H := fun _ => False) (fun _ _ e => e) (fun i hi e => by (try dsimp only at e); omega)
     have hpqO := hpq
     have hzDB := lt_of_blk hdb
     have hzO := hcl.size
     have hzB := lt_of_blk hab
     have hab := cky15.at0 hab
     have hbb := cky15.at0 hbb
     have hb8 := cky15.at0 hb8
     have htb := cky15.at0 htb
     have hpq := hpq.ch0 cky15
     have hcl := hcl.trans0 cky15
     refine WL.e7 Nx.thn 0 1 7 9 10 11 12 (lt rfl (s0)) (lt rfl (s1)) (lt rfl (s7)) (lt rfl (s9)) (lt rfl (s10)) (lt rfl (s11)) (lh) ?_
     intro σ18 s0 s1 s7 s9 s10 s11 s12
     refine W.region ?_
     refine WL.x (X.load pl3 (s12) hdn (v := .int .i64 ((e + 1 : Nat) : Int)) rfl) rfl ?_
     refine WL.x (v := .int .i64 (e : Int)) (by rw [show (e : Int) = ((e + 1 : Nat) : Int) - 1 by omega]; exact X.sub (lh) lc (by omega) (by omega)) rfl ?_
     refine WL.store el3 (jt2 rfl (s12)) (lh) rfl hdn (by simp) ?_
     intro w25 us; have cs8 := us.ch
     have hdb : w25.heap[(_ : Nat)]? = some (Obj.cells #[.int .i64 (e : Int)] 3 (0, 0)) := us.at_
     have hab := cs8.at hab (by (try dsimp only); omega)
     have hbb := cs8.at hbb (by (try dsimp only); omega)
     have hb8 := cs8.at hb8 (by (try dsimp only); omega)
     have htb := cs8.at htb (by (try dsimp only); omega)
     have hpq := hpq.ch cs8 (fun kk hk e9 => by have := (hpqO.lt hk).2; (try dsimp only at e9); omega)
     have hcl := hcl.trans cs8 (H := fun _ => False) (fun _ _ e => e) (fun i hi e => by (try dsimp only at e); omega)
     refine WL.e7 Nx.thn 0 1 7 9 10 11 12 (jt2 rfl (s0)) (jt2 rfl (s1)) (jt2 rfl (s7)) (jt2 rfl (s9)) (jt2 rfl (s10)) (jt2 rfl (s11)) (jt2 rfl (s12)) ?_
     intro σ19 s0 s1 s7 s9 s10 s11 s12
     refine ⟨(e, m, P ++ [m]), by (try dsimp only); omega, ⟨s0.trans qo3.symm, s1.trans qo4.symm, s7.trans qo5.symm, s9.trans qo6.symm, s10.trans qo7.symm, trivial⟩, _, _, s12, hdb, s11, (by rw [List.map_append]; exact hpq), (fun kk hk e9 => by have := (hpqO.lt hk).2; omega), hab, hbb, hb8, htb, hmn, left_next hkp, by rw [List.length_append]; simp only [List.length_cons, List.length_nil]; omega, (by rw [hPe, List.append_assoc]; exact congrArg (fun z => P ++ z) (by rw [show spath Lb n o b (e + 1) at_ = nx (EE Lb o) (outN Lb at_ n o) b (e + 1) :: spath Lb n o b e (nx (EE Lb o) (outN Lb at_ n o) b (e + 1)) from rfl, ← hl2, ← hkn]; rfl)), ⟨by omega, by omega⟩, hcl⟩
   ·
    refine W.exit (Nx.xthn (Nx.xthn (Nx.xblk Nx.thn))) ?_
    refine W.seq ?_
    refine W.region ?_
    refine WL.x (X.mv (s11)) rfl ?_
    refine WL.x (X.asg (lh)) rfl ?_
    refine WL.e1 Nx.thn 8 (lh) ?_
    intro σ20 s8
    refine W.ret1 Nx.f1 s8 ?_
    have hd0 : d = 0 := by omega
    subst hd0
    rw [show spath Lb n o b 0 at_ = [] from rfl, List.append_nil] at hPe
    rw [hPe]
    exact ⟨hpq.sl, by omega, hcl⟩
  ·
   refine WL.alloc el40 rfl ?_
   intro w26 u3_5; have hu3_5 := u3_5.at_; have cu3_5 := u3_5.ch; have zu3_5 := u3_5.size
   have hS := hS.trans cu3_5 (fun _ _ => id) (by intro i hi hg; exact False.elim hg)
   refine WL.nil Nx.thn ⟨hS, ?_⟩
   refine WH.one 4 rfl (by kernel_rfl) (fun _ _ h => h) ?_
   have hS2 : Ch0 w w26 := hcl2.trans hS (H := fun _ => False) (fun _ _ e => e) (fun i hi e => by have := e; (try dsimp only at this); omega)
   have hzS := hS2.size
   refine WL.call3 ce45 (lt rfl (lh)) (jt2 rfl (lt rfl (lh))) (jt2 rfl (lh)) (levels_ok _ gt n _ w26 (by exact hgt.ch0 cu3_5) (htab.ch0 hS2) (by omega) o b hb) rfl ?_
   rintro _ w27 ⟨b8, rfl, hb8l, hb8, hbn, c4⟩
   rw [show (fun i => (dst (EE (fun x y => Lb y x) o) b i : Int)) = fun i => (dst (EE Lb o) i b : Int) from funext fun i => congrArg Int.ofNat (dst_turn (E := (EE Lb o)))] at hb8
   have hz4 := c4.size
   have hS := hS.trans c4 (fun _ _ => id) (by intro i hi hg; exact False.elim hg)
   refine WL.nil Nx.thn ⟨hS, ?_⟩
   refine WH.one 6 rfl (by kernel_rfl) (fun _ _ h => h) ?_
   have hS2 : Ch0 w w27 := hcl2.trans hS (H := fun _ => False) (fun _ _ e => e) (fun i hi e => by have := e; (try dsimp only at this); omega)
   have hzS := hS2.size
   have hb8lt := lt_of_blk hb8
   refine WL.store el40 (lt rfl (lh)) (lh) rfl (by exact c4.at0 hu3_5) (by decide) ?_
   intro w28 us; have cst := us.ch
   have hbbX : w28.heap[(_ : Nat)]? = some (Obj.cells #[.slice (some ⟨b8, 0, none⟩) n n] 40 (0, 0)) := us.at_
   have hb8X := cst.at (by exact hb8) (by (try dsimp only); omega)
   have htbX := cst.at (hS.at htb (by (try dsimp only); omega)) (by (try dsimp only); omega)
   have hclX := hS2.trans cst (H := fun _ => False) (fun _ _ e => e) (fun i hi e => by (try dsimp only at e); omega)
   have hS := hS.trans cst (fun _ _ => id) (fun i hi hg => by have := hg; (try dsimp only at this ⊢); omega)
   refine WL.nil Nx.thn ⟨hS, ?_⟩
   refine WH.done (by kernel_rfl) ?_
   refine WL.e5 Nx.thn 0 1 2 7 9 (jt4 rfl (jt2 rfl (s0))) (jt4 rfl (jt2 rfl (s1))) (jt4 rfl (jt2 rfl (s2))) (jt4 rfl (jt2 rfl (s7))) (lt rfl (lh)) ?_
   intro σ21 s0 s1 s2 s7 s9
   refine W.seq ?_
   refine W.region ?_
   refine WL.x (X.mv (s2)) rfl ?_
   refine WL.x (X.load pl3 (lt rfl (s7)) htbX (v := .int .i64 (b : Int)) rfl) rfl ?_
   refine WL.x (X.build bd84 (pcons (lt rfl (lh)) (pcons (lh) pnil)) rfl (rfl : _ = [_, _])) rfl ?_
   refine WL.alloc el84 rfl ?_
   intro w29 u4_3; have hu4_3 := u4_3.at_; have cu4_3 := u4_3.ch; have zu4_3 := u4_3.size
   refine WL.storeS ag84 (lh) (lt rfl (lh)) rfl rfl hu4_3 (by decide) ?_
   intro w30 us; have cst4 := us.ch
   have habY : w30.heap[(_ : Nat)]? = some (Obj.cells #[.int .i64 (a : Int), .int .i64 (b : Int)] 84 (0, 0)) := us.at_
   have cky := cu4_3.trans cst4 (F := fun _ => False) (H := fun _ => False) (fun _ _ e => e) (fun i hi e => by (try dsimp only at e); omega)
   have hbbY := cky.at0 hbbX
   have hb8 := cky.at0 hb8X
   have htb := cky.at0 htbX
   have hcl := hclX.trans0 cky
   refine WL.e6 Nx.thn 0 1 2 7 9 10 (jt4 rfl (s0)) (jt4 rfl (s1)) (jt4 rfl (s2)) (jt4 rfl (s7)) (jt4 rfl (s9)) (lh) ?_
   intro σ22 s0 s1 s2 s7 s9 s10
   refine W.seq ?_
   refine W.region ?_
   obtain ⟨bb, s9, hbb, hbbE⟩ := box_of s9 hbbY
   obtain ⟨ab, s10, hab, habE⟩ := box_of s10 habY
   have hal : w.heap.size ≤ ab := by have := hclX.size; omega
   obtain ⟨PB, hPB⟩ : ∃ PB, PB = w30.heap.size := ⟨_, rfl⟩
   have hb8P := lt_of_blk hb8
   have htbP := lt_of_blk htb
   have habP := lt_of_blk hab
   have hbbP := lt_of_blk hbb
   refine WL.x (X.mv (s2)) rfl ?_
   refine WL.bslice Tryd.underlying40 el3 rfl (pcons (lh) pnil) rfl (rfl : _ = [_]) rfl ?_
   intro w31 u5_1; have hu5_1 := u5_1.at_; have cu5_1 := u5_1.ch; have zu5_1 := u5_1.size
   refine WL.x (X.asg (lh)) rfl ?_
   refine WL.e7 Nx.thn 0 1 2 7 9 10 11 (jt2 rfl (lt rfl (s0))) (jt2 rfl (lt rfl (s1))) (jt2 rfl (lt rfl (s2))) (jt2 rfl (lt rfl (s7))) (jt2 rfl (lt rfl (s9))) (jt2 rfl (lt rfl (s10))) (lh) ?_
   intro σ23 s0 s1 s2 s7 s9 s10 s11
   refine W.seq ?_
   refine W.seq ?_
   refine W.region ?_
   refine WL.x (X.load pl40 (s9) (cu5_1.at0 hbb) (v := .slice (some ⟨b8, 0, none⟩) n n) rfl) rfl ?_
   refine WL.x (X.mv (lt rfl (s2))) rfl ?_
   refine WL.x (X.indexAddr Tryd.underlying40 el3 (lt rfl (lh)) (lh) (by omega) (by omega)) rfl ?_
   refine WL.x (X.load pl3 (lh) (cu5_1.at0 hb8) (v := .int .i64 (D : Int)) (by rw [show 0 + (a : Int).toNat * 1 = a by omega, wI_get ha, hD])) rfl ?_
   refine WL.alloc el3 rfl ?_
   intro w32 u6_4; have hu6_4 := u6_4.at_; have cu6_4 := u6_4.ch; have zu6_4 := u6_4.size
   refine WL.store el3 (lh) (lt rfl (lh)) rfl hu6_4 (by decide) ?_
   intro w33 us; have cst6 := us.ch
   have hdbY : w33.heap[(_ : Nat)]? = some (Obj.cells #[.int .i64 (D : Int)] 3 (0, 0)) := us.at_
   have cky6 := (cu5_1.trans0 cu6_4).trans cst6 (H := fun _ => False) (fun _ _ e => e) (fun i hi e => by (try dsimp only at e); omega)
   have hpq0 := (q_one (base := PB) hu5_1 (by omega)).ch0 cu6_4
   have hpq00 := q_one (base := PB) hu5_1 (by omega)
   have hpq := hpq0.ch cst6 (fun kk hk e => by have := (hpq00.lt hk).2; (try dsimp only at e); omega)
   have hab := cky6.at0 hab
   have hbb := cky6.at0 hbb
   have hb8 := cky6.at0 hb8
   have htb := cky6.at0 htb
   have hcl := hcl.trans0 cky6
   refine WL.e7 Nx.thn 0 1 7 9 10 11 12 (jt4 rfl (lt rfl (s0))) (jt4 rfl (lt rfl (s1))) (jt4 rfl (lt rfl (s7))) (jt4 rfl (lt rfl (s9))) (jt4 rfl (lt rfl (s10))) (jt4 rfl (lt rfl (s11))) (lh) ?_
   intro σ24 s0 s1 s7 s9 s10 s11 s12
   refine W.block ?_
   have qo8 := s0
   have qo9 := s1
   have qo10 := s7
   have qo11 := s9
   have qo12 := s10
   -- loop 0: kept [0, 1, 7, 9, 10], varied [11, 12]
   refine W.loop (G := Nat × Nat × List Nat) (fun (d, at_, P) σ' w' => (σ' 0 = σ24 0 ∧ σ' 1 = σ24 1 ∧ σ' 7 = σ24 7 ∧ σ' 9 = σ24 9 ∧ σ' 10 = σ24 10 ∧ True) ∧ (∃ db pv, σ' 12 = .pointer (some ⟨db, 0, none⟩) ∧ w'.heap[db]? = some (.cells #[.int .i64 (d : Int)] 3 (0, 0)) ∧ σ' 11 = pv ∧ QRow w' PB 3 pv (P.map fun (x : Nat) => Value.int .i64 (x : Int)) ∧ (∀ kk, slBlk pv kk → kk ≠ db) ∧ w'.heap[ab]? = some (.cells #[.int .i64 (at_ : Int), .int .i64 (b : Int)] 84 (0, 0)) ∧ w'.heap[bb]? = some (.cells #[.slice (some ⟨b8, 0, none⟩) n n] 40 (0, 0)) ∧ w'.heap[b8]? = some (.cells (wI n (fun i => (dst (EE Lb o) i b : Int))) 3 (0, 0)) ∧ w'.heap[w.heap.size]? = some (.cells #[.int .i64 (b : Int)] 3 (0, 0)) ∧ at_ < n ∧ Left (EE Lb o) at_ b d ∧ P.length + d = D + 1 ∧ a :: spath Lb n o b D a = P ++ spath Lb n o b d at_ ∧ (w.heap.size ≤ db ∧ PB < db) ∧ Ch0 w w')) (fun (d, at_, P) => d) ((D, a, [a])) ⟨⟨rfl, rfl, rfl, rfl, rfl, trivial⟩, _, _, s12, hdbY, s11, hpq, (fun kk hk e9 => by have := (hpq00.lt hk).2; omega), hab, hbb, hb8, htb, ha, by unfold Left; rw [if_neg hD0]; exact hD, by simp; omega, rfl, ⟨by omega, by omega⟩, hcl⟩ ?_
   rintro ⟨d, at_, P⟩ σ25 w34 ⟨⟨f0, f1, f7, f9, f10, _⟩, db, pv, s12, hdb, s11, hpq, hnd, hab, hbb, hb8, htb, hatn, hlf, hPl, hPe, hdl, hcl⟩
   have s0 := f0.trans qo8
   have s1 := f1.trans qo9
   have s7 := f7.trans qo10
   have s9 := f9.trans qo11
   have s10 := f10.trans qo12
   refine W.seq ?_
   refine W.seq ?_
   refine W.region ?_
   refine WL.x (X.load pl3 (s12) hdb (v := .int .i64 (d : Int)) rfl) rfl ?_
   refine WL.x (X.gtr (lh) lc) rfl ?_
   refine WL.e8 Nx.thn 0 1 7 9 10 11 12 35 (jt2 rfl (s0)) (jt2 rfl (s1)) (jt2 rfl (s7)) (jt2 rfl (s9)) (jt2 rfl (s10)) (jt2 rfl (s11)) (jt2 rfl (s12)) (lh) ?_
   intro σ26 s0 s1 s7 s9 s10 s11 s12 s35
   refine W.cndp s35 (fun hgo => ?_) (fun hgo => ?_)
   ·
    have hd0 : d ≠ 0 := by omega
    obtain ⟨e, rfl⟩ : ∃ e, d = e + 1 := ⟨d - 1, by omega⟩
    have hdl2 := lt_of_blk hdb
    refine W.skip Nx.thn ?_
    refine W.seq ?_
    refine W.block ?_
    refine W.seq ?_
    refine W.region ?_
    refine WL.x (X.mv (s0)) rfl ?_
    refine WL.x (X.fieldAddr fd84_0 (lt rfl (s10))) rfl ?_
    refine WL.x (X.load pl3 (lh) hab (v := .int .i64 (at_ : Int)) rfl) rfl ?_
    refine WL.x (X.mv (jt2 rfl (lt rfl (s1)))) rfl ?_
    refine WL.call3 ce43 (jt2 rfl (lt rfl (lh))) (lt rfl (lh)) (lh) (gout_ok base g n Lb w34 (h.ch0 hcl) at_ o (htab.ch0 hcl) (by have := hcl.size; omega)) rfl ?_
    rintro v8 w35 ⟨hownL, c5⟩
    rw [outN_elv] at hownL
    have hoq := QRow.own hownL
    have hol := outN_len Lb at_ n o
    have hex := left_ex hok hd0 hlf
    obtain ⟨l2, hl2⟩ : ∃ l2, l2 = outN Lb at_ n o := ⟨_, rfl⟩
    rw [← hl2] at hoq hol hex
    obtain ⟨oa, oc, rfl⟩ : ∃ a c, v8 = .slice a l2.length c := qn_len hoq
    have hdb := c5.at0 hdb
    have hab := c5.at0 hab
    have hbb := c5.at0 hbb
    have hb8 := c5.at0 hb8
    have htb := c5.at0 htb
    have hpq := hpq.ch0 c5
    have hcl := hcl.trans0 c5
    refine WL.x (X.mkfn mnil (mcons (jt4 rfl (lt rfl (s12))) (mcons (jt4 rfl (lt rfl (s7))) (mcons (jt4 rfl (lt rfl (s9))) mnil)))) rfl ?_
    refine WL.call2 ce47 (lt rfl (lh)) (lh) (index_nx 48 [.pointer (some ⟨db, 0, none⟩), .pointer (some ⟨w.heap.size, 0, none⟩), .pointer (some ⟨bb, 0, none⟩)] (EE Lb o) b (e + 1) oa oc l2 w35 ce48 (fun m w0 hm c0 => Ret.mono (short_fn (EE Lb o) n (e + 1) b m db w.heap.size bb b8 w0 (by rw [hl2] at hm; exact (mem_outN.1 hm).1) (by omega) (c0.at0 hdb) (c0.at0 htb) (c0.at0 hbb) (c0.at0 hb8)) fun v w' k => ⟨k.1, k.2.ch0⟩) hoq.sl (by omega) hex) rfl ?_
    rintro _ w36 ⟨⟨k, hkl, rfl, hkn, hkp⟩, c6⟩
    have hdb := c6.at0 hdb
    have hab := c6.at0 hab
    have hbb := c6.at0 hbb
    have hb8 := c6.at0 hb8
    have htb := c6.at0 htb
    have hpq := hpq.ch0 c6
    have hcl := hcl.trans0 c6
    refine WL.x (X.asg (lh)) rfl ?_
    refine WL.e8 Nx.thn 0 1 7 9 10 11 12 13 (jt8 rfl (s0)) (jt8 rfl (s1)) (jt8 rfl (s7)) (jt8 rfl (s9)) (jt8 rfl (s10)) (jt8 rfl (s11)) (jt8 rfl (s12)) (lh) ?_
    intro σ27 s0 s1 s7 s9 s10 s11 s12 s13
    refine W.seq ?_
    refine W.region ?_
    refine WL.x (X.mv (s0)) rfl ?_
    refine WL.x (X.fieldAddr fd84_0 (lt rfl (s10))) rfl ?_
    refine WL.x (X.load pl3 (lh) hab (v := .int .i64 (at_ : Int)) rfl) rfl ?_
    refine WL.x (X.mv (jt2 rfl (lt rfl (s1)))) rfl ?_
    refine WL.call3 ce43 (jt2 rfl (lt rfl (lh))) (lt rfl (lh)) (lh) (gout_ok base g n Lb w36 (h.ch0 hcl) at_ o (htab.ch0 hcl) (by have := hcl.size; omega)) rfl ?_
    rintro v9 w37 ⟨hownM, c7⟩
    rw [outN_elv] at hownM
    have hoq2 := QRow.own hownM
    rw [← hl2] at hoq2
    obtain ⟨oa2, oc2, rfl⟩ : ∃ a c, v9 = .slice a l2.length c := qn_len hoq2
    obtain ⟨gr, gor, csr, Tr, frr, rfl, hr1, hr2⟩ := hoq2.sl.at (k := k) (by rw [List.length_map]; omega)
    obtain ⟨m, hm⟩ : ∃ m : Nat, l2[k]'hkl = m := ⟨_, rfl⟩
    rw [hm] at hkn hkp
    have hmn : m < n := by have := List.getElem_mem hkl; rw [hm, hl2] at this; exact (mem_outN.1 this).1
    have hdb := c7.at0 hdb
    have hab := c7.at0 hab
    have hbb := c7.at0 hbb
    have hb8 := c7.at0 hb8
    have htb := c7.at0 htb
    have hpq := hpq.ch0 c7
    have hcl := hcl.trans0 c7
    refine WL.x (X.mv (jt4 rfl (lt rfl (s13)))) rfl ?_
    refine WL.x (X.indexAddr Tryd.underlying40 el3 (lt rfl (lh)) (lh) (by omega) (by omega)) rfl ?_
    refine WL.x (X.load pl3 (lh) hr1 (v := .int .i64 (m : Int)) (by rw [show gor + (k : Int).toNat * 1 = gor + k by omega, hr2 k (by rw [List.length_map]; omega), List.getElem?_map, List.getElem?_eq_getElem hkl, hm]; rfl)) rfl ?_
    refine WL.x (X.fieldAddr fd84_0 (jt8 rfl (s10))) rfl ?_
    refine WL.store el3 (lh) (lt rfl (lh)) rfl hab (by simp) ?_
    intro w38 us; have cs10 := us.ch
    have hdb := cs10.at hdb (ty_ne ⟨_, hdb⟩ ⟨_, hab⟩ (by decide))
    have hbb := cs10.at hbb (ty_ne ⟨_, hbb⟩ ⟨_, hab⟩ (by decide))
    have hb8 := cs10.at hb8 (ty_ne ⟨_, hb8⟩ ⟨_, hab⟩ (by decide))
    have htb := cs10.at htb (ty_ne ⟨_, htb⟩ ⟨_, hab⟩ (by decide))
    have hpq := hpq.ch cs10 (fun kk hk e => ty_ne (hpq.ty hk) ⟨_, hab⟩ (by decide) e)
    have hcl := hcl.trans cs10 (H := fun _ => False) (fun _ _ e => e) (fun i hi e => by (try dsimp only at e); omega)
    have hab : w38.heap[ab]? = some (.cells #[.int .i64 (m : Int), .int .i64 (b : Int)] 84 (0, 0)) := us.at_
    refine WL.e7 Nx.thn 0 1 7 9 10 11 12 (jt8 rfl (lt rfl (s0))) (jt8 rfl (lt rfl (s1))) (jt8 rfl (lt rfl (s7))) (jt8 rfl (lt rfl (s9))) (jt8 rfl (lt rfl (s10))) (jt8 rfl (lt rfl (s11))) (jt8 rfl (lt rfl (s12))) ?_
    intro σ28 s0 s1 s7 s9 s10 s11 s12
    refine W.seq ?_
    refine W.region ?_
    refine WL.x (X.mv (s11)) rfl ?_
    refine WL.x (X.fieldAddr fd84_0 (lt rfl (s10))) rfl ?_
    refine WL.x (X.load pl3 (lh) hab (v := .int .i64 (m : Int)) rfl) rfl ?_
    refine WL.bslice Tryd.underlying40 el3 rfl (pcons (lh) pnil) rfl (rfl : _ = [_]) rfl ?_
    intro w39 u11_3; have hu11_3 := u11_3.at_; have cu11_3 := u11_3.ch; have zu11_3 := u11_3.size
    refine WL.pushQ Tryd.underlying40 el3 rfl (jt2 rfl (lt rfl (lh))) (lh) (hpq.ch0 cu11_3) (by assumption) rfl (by rw [List.length_map]; unfold maxLen; omega) (by rw [List.length_map]; omega) (by have := (cu11_3.size); have := lt_of_blk hdb; omega) rfl ?_
    intro va11_4 w40 ho11_4 ca11_4 hb11_4
    have hdb := ca11_4.at (cu11_3.at0 hdb) (fun hk => hnd _ hk rfl)
    have hzd := lt_of_blk (cu11_3.at0 hab)
    have hbb := ca11_4.at (cu11_3.at0 hbb) (fun hk => ty_ne (hpq.ty hk) ⟨_, hbb⟩ (by decide) rfl)
    have hb8 := ca11_4.at (cu11_3.at0 hb8) (fun hk => by have := (hpq.lt hk).1; omega)
    have htb := ca11_4.at (cu11_3.at0 htb) (fun hk => by have := (hpq.lt hk).1; omega)
    have hcl := (hcl.trans0 cu11_3).trans ca11_4 (H := fun _ => False) (fun _ _ e => e) (fun i hi e => by have := (hpq.lt e).1; omega)
    have hab := ca11_4.at (cu11_3.at0 hab) (fun hk => by have := (hpq.lt hk).1; omega)
    have hpq := ho11_4
    refine WL.x (X.asg (lh)) rfl ?_
    refine WL.e7 Nx.thn 0 1 7 9 10 11 12 (jt4 rfl (jt2 rfl (s0))) (jt4 rfl (jt2 rfl (s1))) (jt4 rfl (jt2 rfl (s7))) (jt4 rfl (jt2 rfl (s9))) (jt4 rfl (jt2 rfl (s10))) (lh) (jt4 rfl (jt2 rfl (s12))) ?_
    intro σ29 s0 s1 s7 s9 s10 s11 s12
    refine W.seq ?_
    refine W.region ?_
    refine WL.x (X.load pl3 (s12) hdb (v := .int .i64 ((e + 1 : Nat) : Int)) rfl) rfl ?_
    refine WL.x (X.eql (lh) lc) rfl ?_
    refine WL.x (X.mv (lh)) rfl ?_
    refine WL.splitp (lh) (fun hd1 => ?_) (fun hd1 => ?_)
    ·
     refine WL.yes rfl rfl (lh) (decide_eq_true hd1) ?_
     refine WL.x (X.loadBox (vs := [.int .i64 (m : Int), .int .i64 (b : Int)]) ag84 (jt2 rfl (lt rfl (s10))) hab rfl) rfl ?_
     refine WL.yes rfl rfl (lt rfl (lh)) (decide_eq_true hd1) ?_
     refine WL.x (X.load pl3 (jt4 rfl (s7)) htb (v := .int .i64 (b : Int)) rfl) rfl ?_
     refine WL.yes rfl rfl (jt2 rfl (lh)) (decide_eq_true hd1) ?_
     refine WL.x (X.load pl3 (jt4 rfl (lt rfl (s7))) htb (v := .int .i64 (b : Int)) rfl) rfl ?_
     refine WL.yes rfl rfl (jt2 rfl (lt rfl (lh))) (decide_eq_true hd1) ?_
     refine WL.x (X.build bd84 (pcons (lt rfl (lh)) (pcons (lh) pnil)) rfl (rfl : _ = [_, _])) rfl ?_
     refine WL.yes rfl rfl (jt4 rfl (lh)) (decide_eq_true hd1) ?_
     obtain ⟨fs9, hu9, hc9⟩ := cmp_en ((m : Int), (b : Int)) ((b : Int), (b : Int))
     refine WL.x (v := .bool (decide (((m : Int), (b : Int)) ≠ ((b : Int), (b : Int))))) (X.neqAgg hu9 hp_en hg_en (jt2 rfl (lt rfl (lh))) (lh) hc9 (cmpv_en _ _)) rfl ?_
     refine WL.x (X.pickT (jt4 rfl (lt rfl (lh))) (decide_eq_true hd1) (lh)) rfl ?_
     refine WL.e8 Nx.thn 0 1 7 9 10 11 12 67 (jt8 rfl (lt rfl (s0))) (jt8 rfl (lt rfl (s1))) (jt8 rfl (lt rfl (s7))) (jt8 rfl (lt rfl (s9))) (jt8 rfl (lt rfl (s10))) (jt8 rfl (lt rfl (s11))) (jt8 rfl (lt rfl (s12))) (lh) ?_
     intro σ30 s0 s1 s7 s9 s10 s11 s12 s67
     refine W.cndN s67 (fun h9 => h9 (pair_eq hkp (by omega))) ?_
     refine W.skip (Nx.blk Nx.thn) ?_
     refine W.seq ?_
     refine W.seq ?_
     refine W.region ?_
     refine WL.x (X.load pl3 (s12) hdb (v := .int .i64 ((e + 1 : Nat) : Int)) rfl) rfl ?_
     refine WL.e7 Nx.thn 0 1 7 9 10 11 68 (lt rfl (s0)) (lt rfl (s1)) (lt rfl (s7)) (lt rfl (s9)) (lt rfl (s10)) (lt rfl (s11)) (lh) ?_
     intro σ31 s0 s1 s7 s9 s10 s11 s68
     refine W.region ?_
     refine WL.alloc el3 rfl ?_
     intro w41 u15_0; have hu15_0 := u15_0.at_; have cu15_0 := u15_0.ch; have zu15_0 := u15_0.size
     refine WL.store el3 (lh) (lt rfl (s68)) rfl hu15_0 (by decide) ?_
     intro w42 us; have cs15 := us.ch
     have hdn : w42.heap[(_ : Nat)]? = some (Obj.cells #[.int .i64 ((e + 1 : Nat) : Int)] 3 (0, 0)) := us.at_
     have cky15 := cu15_0.trans cs15 (F := fun _ => False) (H := fun _ => False) (fun _ _ e => e) (fun i hi e => by (try dsimp only at e); omega)
     have hpqO := hpq
     have hzDB := lt_of_blk hdb
     have hzO := hcl.size
     have hzB := lt_of_blk hab
     have hab := cky15.at0 hab
     have hbb := cky15.at0 hbb
     have hb8 := cky15.at0 hb8
     have htb := cky15.at0 htb
     have hpq := hpq.ch0 cky15
     have hcl := hcl.trans0 cky15
     refine WL.e7 Nx.thn 0 1 7 9 10 11 12 (lt rfl (s0)) (lt rfl (s1)) (lt rfl (s7)) (lt rfl (s9)) (lt rfl (s10)) (lt rfl (s11)) (lh) ?_
     intro σ32 s0 s1 s7 s9 s10 s11 s12
     refine W.region ?_
     refine WL.x (X.load pl3 (s12) hdn (v := .int .i64 ((e + 1 : Nat) : Int)) rfl) rfl ?_
     refine WL.x (v := .int .i64 (e : Int)) (by rw [show (e : Int) = ((e + 1 : Nat) : Int) - 1 by omega]; exact X.sub (lh) lc (by omega) (by omega)) rfl ?_
     refine WL.store el3 (jt2 rfl (s12)) (lh) rfl hdn (by simp) ?_
     intro w43 us; have cs8 := us.ch
     have hdb : w43.heap[(_ : Nat)]? = some (Obj.cells #[.int .i64 (e : Int)] 3 (0, 0)) := us.at_
     have hab := cs8.at hab (by (try dsimp only); omega)
     have hbb := cs8.at hbb (by (try dsimp only); omega)
     have hb8 := cs8.at hb8 (by (try dsimp only); omega)
     have htb := cs8.at htb (by (try dsimp only); omega)
     have hpq := hpq.ch cs8 (fun kk hk e9 => by have := (hpqO.lt hk).2; (try dsimp only at e9); omega)
     have hcl := hcl.trans cs8 (H := fun _ => False) (fun _ _ e => e) (fun i hi e => by (try dsimp only at e); omega)
     refine WL.e7 Nx.thn 0 1 7 9 10 11 12 (jt2 rfl (s0)) (jt2 rfl (s1)) (jt2 rfl (s7)) (jt2 rfl (s9)) (jt2 rfl (s10)) (jt2 rfl (s11)) (jt2 rfl (s12)) ?_
     intro σ33 s0 s1 s7 s9 s10 s11 s12
     refine ⟨(e, m, P ++ [m]), by (try dsimp only); omega, ⟨s0.trans qo8.symm, s1.trans qo9.symm, s7.trans qo10.symm, s9.trans qo11.symm, s10.trans qo12.symm, trivial⟩, _, _, s12, hdb, s11, (by rw [List.map_append]; exact hpq), (fun kk hk e9 => by have := (hpqO.lt hk).2; omega), hab, hbb, hb8, htb, hmn, left_next hkp, by rw [List.length_append]; simp only [List.length_cons, List.length_nil]; omega, (by rw [hPe, List.append_assoc]; exact congrArg (fun z => P ++ z) (by rw [show spath Lb n o b (e + 1) at_ = nx (EE Lb o) (outN Lb at_ n o) b (e + 1) :: spath Lb n o b e (nx (EE Lb o) (outN Lb at_ n o) b (e + 1)) from rfl, ← hl2, ← hkn]; rfl)), ⟨by omega, by omega⟩, hcl⟩
    ·
     refine WL.no rfl rfl (lh) (decide_eq_false hd1) rfl ?_
     refine WL.no rfl rfl (lt rfl (lh)) (decide_eq_false hd1) rfl ?_
     refine WL.no rfl rfl (jt2 rfl (lh)) (decide_eq_false hd1) rfl ?_
     refine WL.no rfl rfl (jt2 rfl (lt rfl (lh))) (decide_eq_false hd1) rfl ?_
     refine WL.no rfl rfl (jt4 rfl (lh)) (decide_eq_false hd1) rfl ?_
     refine WL.x (X.pickF (jt4 rfl (lt rfl (lh))) (decide_eq_false hd1) lc) rfl ?_
     refine WL.e8 Nx.thn 0 1 7 9 10 11 12 67 (jt8 rfl (lt rfl (s0))) (jt8 rfl (lt rfl (s1))) (jt8 rfl (lt rfl (s7))) (jt8 rfl (lt rfl (s9))) (jt8 rfl (lt rfl (s10))) (jt8 rfl (lt rfl (s11))) (jt8 rfl (lt rfl (s12))) (lh) ?_
     intro σ34 s0 s1 s7 s9 s10 s11 s12 s67
     refine W.cndF s67 ?_
     refine W.skip (Nx.blk Nx.thn) ?_
     refine W.seq ?_
     refine W.seq ?_
     refine W.region ?_
     refine WL.x (X.load pl3 (s12) hdb (v := .int .i64 ((e + 1 : Nat) : Int)) rfl) rfl ?_
     refine WL.e7 Nx.thn 0 1 7 9 10 11 68 (lt rfl (s0)) (lt rfl (s1)) (lt rfl (s7)) (lt rfl (s9)) (lt rfl (s10)) (lt rfl (s11)) (lh) ?_
     intro σ35 s0 s1 s7 s9 s10 s11 s68
     refine W.region ?_
     refine WL.alloc el3 rfl ?_
     intro w44 u15_0; have hu15_0 := u15_0.at_; have cu15_0 := u15_0.ch; have zu15_0 := u15_0.size
     refine WL.store el3 (lh) (lt rfl (s68)) rfl hu15_0 (by decide) ?_
     intro w45 us; have cs15 := us.ch
     have hdn : w45.heap[(_ : Nat)]? = some (Obj.cells #[.int .i64 ((e + 1 : Nat) : Int)] 3 (0, 0)) := us.at_
     have cky15 := cu15_0.trans cs15 (F := fun _ => False) (H := fun _ => False) (fun _ _ e => e) (fun i hi e => by (try dsimp only at e); omega)
     have hpqO := hpq
     have hzDB := lt_of_blk hdb
     have hzO := hcl.size
     have hzB := lt_of_blk hab
     have hab := cky15.at0 hab
     have hbb := cky15.at0 hbb
     have hb8 := cky15.at0 hb8
     have htb := cky15.at0 htb
     have hpq := hpq.ch0 cky15
     have hcl := hcl.trans0 cky15
     refine WL.e7 Nx.thn 0 1 7 9 10 11 12 (lt rfl (s0)) (lt rfl (s1)) (lt rfl (s7)) (lt rfl (s9)) (lt rfl (s10)) (lt rfl (s11)) (lh) ?_
     intro σ36 s0 s1 s7 s9 s10 s11 s12
     refine W.region ?_
     refine WL.x (X.load pl3 (s12) hdn (v := .int .i64 ((e + 1 : Nat) : Int)) rfl) rfl ?_
     refine WL.x (v := .int .i64 (e : Int)) (by rw [show (e : Int) = ((e + 1 : Nat) : Int) - 1 by omega]; exact X.sub (lh) lc (by omega) (by omega)) rfl ?_
     refine WL.store el3 (jt2 rfl (s12)) (lh) rfl hdn (by simp) ?_
     intro w46 us; have cs8 := us.ch
     have hdb : w46.heap[(_ : Nat)]? = some (Obj.cells #[.int .i64 (e : Int)] 3 (0, 0)) := us.at_
     have hab := cs8.at hab (by (try dsimp only); omega)
     have hbb := cs8.at hbb (by (try dsimp only); omega)
     have hb8 := cs8.at hb8 (by (try dsimp only); omega)
     have htb := cs8.at htb (by (try dsimp only); omega)
     have hpq := hpq.ch cs8 (fun kk hk e9 => by have := (hpqO.lt hk).2; (try dsimp only at e9); omega)
     have hcl := hcl.trans cs8 (H := fun _ => False) (fun _ _ e => e) (fun i hi e => by (try dsimp only at e); omega)
     refine WL.e7 Nx.thn 0 1 7 9 10 11 12 (jt2 rfl (s0)) (jt2 rfl (s1)) (jt2 rfl (s7)) (jt2 rfl (s9)) (jt2 rfl (s10)) (jt2 rfl (s11)) (jt2 rfl (s12)) ?_
     intro σ37 s0 s1 s7 s9 s10 s11 s12
     refine ⟨(e, m, P ++ [m]), by (try dsimp only); omega, ⟨s0.trans qo8.symm, s1.trans qo9.symm, s7.trans qo10.symm, s9.trans qo11.symm, s10.trans qo12.symm, trivial⟩, _, _, s12, hdb, s11, (by rw [List.map_append]; exact hpq), (fun kk hk e9 => by have := (hpqO.lt hk).2; omega), hab, hbb, hb8, htb, hmn, left_next hkp, by rw [List.length_append]; simp only [List.length_cons, List.length_nil]; omega, (by rw [hPe, List.append_assoc]; exact congrArg (fun z => P ++ z) (by rw [show spath Lb n o b (e + 1) at_ = nx (EE Lb o) (outN Lb at_ n o) b (e + 1) :: spath Lb n o b e (nx (EE Lb o) (outN Lb at_ n o) b (e + 1)) from rfl, ← hl2, ← hkn]; rfl)), ⟨by omega, by omega⟩, hcl⟩
   ·
    refine W.exit (Nx.xthn (Nx.xthn (Nx.xblk Nx.thn))) ?_
    refine W.seq ?_
    refine W.region ?_
    refine WL.x (X.mv (s11)) rfl ?_
    refine WL.x (X.asg (lh)) rfl ?_
    refine WL.e1 Nx.thn 8 (lh) ?_
    intro σ38 s8
    refine W.ret1 Nx.f1 s8 ?_
    have hd0 : d = 0 := by omega
    subst hd0
    rw [show spath Lb n o b 0 at_ = [] from rfl, List.append_nil] at hPe
    rw [hPe]
    exact ⟨hpq.sl, by omega, hcl⟩
 ·
  refine WL.alloc el40 rfl ?_
  intro w47 u3_5; have hu3_5 := u3_5.at_; have cu3_5 := u3_5.ch; have zu3_5 := u3_5.size
  have hS := hS.trans cu3_5 (fun _ _ => id) (by intro i hi hg; exact False.elim hg)
  refine WL.nil Nx.thn ⟨hS, ?_⟩
  refine WH.one 1 rfl (by kernel_rfl) (fun _ _ h => h) ?_
  have hS2 : Ch0 w w47 := hcl2.trans hS (H := fun _ => False) (fun _ _ e => e) (fun i hi e => by have := e; (try dsimp only at this); omega)
  have hzS := hS2.size
  refine WL.call1 ce46 (jt2 rfl (lt rfl (lh))) (gturn_ok base g n Lb w47 (h.ch0 hS2) (htab.ch0 hS2) (by omega)) rfl ?_
  rintro _ w48 ⟨gt, rfl, hgt, c3⟩
  rw [fold_turn hok] at hgt
  have hz3 := c3.size
  have hS := hS.trans c3 (fun _ _ => id) (by intro i hi hg; exact False.elim hg)
  refine WL.nil Nx.thn ⟨hS, ?_⟩
  refine WH.one 4 rfl (by kernel_rfl) (fun _ _ h => h) ?_
  have hS2 : Ch0 w w48 := hcl2.trans hS (H := fun _ => False) (fun _ _ e => e) (fun i hi e => by have := e; (try dsimp only at this); omega)
  have hzS := hS2.size
  refine WL.call3 ce45 (lh) (jt2 rfl (lt rfl (lh))) (jt2 rfl (lh)) (levels_ok _ gt n _ w48 (by exact hgt) (htab.ch0 hS2) (by omega) o b hb) rfl ?_
  rintro _ w49 ⟨b8, rfl, hb8l, hb8, hbn, c4⟩
  rw [show (fun i => (dst (EE (fun x y => Lb y x) o) b i : Int)) = fun i => (dst (EE Lb o) i b : Int) from funext fun i => congrArg Int.ofNat (dst_turn (E := (EE Lb o)))] at hb8
  have hz4 := c4.size
  have hS := hS.trans c4 (fun _ _ => id) (by intro i hi hg; exact False.elim hg)
  refine WL.nil Nx.thn ⟨hS, ?_⟩
  refine WH.one 6 rfl (by kernel_rfl) (fun _ _ h => h) ?_
  have hS2 : Ch0 w w49 := hcl2.trans hS (H := fun _ => False) (fun _ _ e => e) (fun i hi e => by have := e; (try dsimp only at this); omega)
  have hzS := hS2.size
  have hb8lt := lt_of_blk hb8
  refine WL.store el40 (jt2 rfl (lh)) (lh) rfl (by exact c4.at0 (c3.at0 hu3_5)) (by decide) ?_
  intro w50 us; have cst := us.ch
  have hbbX : w50.heap[(_ : Nat)]? = some (Obj.cells #[.slice (some ⟨b8, 0, none⟩) n n] 40 (0, 0)) := us.at_
  have hb8X := cst.at (by exact hb8) (by (try dsimp only); omega)
  have htbX := cst.at (hS.at htb (by (try dsimp only); omega)) (by (try dsimp only); omega)
  have hclX := hS2.trans cst (H := fun _ => False) (fun _ _ e => e) (fun i hi e => by (try dsimp only at e); omega)
  have hS := hS.trans cst (fun _ _ => id) (fun i hi hg => by have := hg; (try dsimp only at this ⊢); omega)
  refine WL.nil Nx.thn ⟨hS, ?_⟩
  refine WH.done (by kernel_rfl) ?_
  refine WL.e5 Nx.thn 0 1 2 7 9 (jt4 rfl (jt2 rfl (s0))) (jt4 rfl (jt2 rfl (s1))) (jt4 rfl (jt2 rfl (s2))) (jt4 rfl (jt2 rfl (s7))) (jt2 rfl (lh)) ?_
  intro σ39 s0 s1 s2 s7 s9
  refine W.seq ?_
  refine W.region ?_
  refine WL.x (X.mv (s2)) rfl ?_
  refine WL.x (X.load pl3 (lt rfl (s7)) htbX (v := .int .i64 (b : Int)) rfl) rfl ?_
  refine WL.x (X.build bd84 (pcons (lt rfl (lh)) (pcons (lh) pnil)) rfl (rfl : _ = [_, _])) rfl ?_
  refine WL.alloc el84 rfl ?_
  intro w51 u4_3; have hu4_3 := u4_3.at_; have cu4_3 := u4_3.ch; have zu4_3 := u4_3.size
  refine WL.storeS ag84 (lh) (lt rfl (lh)) rfl rfl hu4_3 (by decide) ?_
  intro w52 us; have cst4 := us.ch
  have habY : w52.heap[(_ : Nat)]? = some (Obj.cells #[.int .i64 (a : Int), .int .i64 (b : Int)] 84 (0, 0)) := us.at_
  have cky := cu4_3.trans cst4 (F := fun _ => False) (H := fun _ => False) (fun _ _ e => e) (fun i hi e => by (try dsimp only at e); omega)
  have hbbY := cky.at0 hbbX
  have hb8 := cky.at0 hb8X
  have htb := cky.at0 htbX
  have hcl := hclX.trans0 cky
  refine WL.e6 Nx.thn 0 1 2 7 9 10 (jt4 rfl (s0)) (jt4 rfl (s1)) (jt4 rfl (s2)) (jt4 rfl (s7)) (jt4 rfl (s9)) (lh) ?_
  intro σ40 s0 s1 s2 s7 s9 s10
  refine W.seq ?_
  refine W.region ?_
  obtain ⟨bb, s9, hbb, hbbE⟩ := box_of s9 hbbY
  obtain ⟨ab, s10, hab, habE⟩ := box_of s10 habY
  have hal : w.heap.size ≤ ab := by have := hclX.size; omega
  obtain ⟨PB, hPB⟩ : ∃ PB, PB = w52.heap.size := ⟨_, rfl⟩
  have hb8P := lt_of_blk hb8
  have htbP := lt_of_blk htb
  have habP := lt_of_blk hab
  have hbbP := lt_of_blk hbb
  refine WL.x (X.mv (s2)) rfl ?_
  refine WL.bslice Tryd.underlying40 el3 rfl (pcons (lh) pnil) rfl (rfl : _ = [_]) rfl ?_
  intro w53 u5_1; have hu5_1 := u5_1.at_; have cu5_1 := u5_1.ch; have zu5_1 := u5_1.size
  refine WL.x (X.asg (lh)) rfl ?_
  refine WL.e7 Nx.thn 0 1 2 7 9 10 11 (jt2 rfl (lt rfl (s0))) (jt2 rfl (lt rfl (s1))) (jt2 rfl (lt rfl (s2))) (jt2 rfl (lt rfl (s7))) (jt2 rfl (lt rfl (s9))) (jt2 rfl (lt rfl (s10))) (lh) ?_
  intro σ41 s0 s1 s2 s7 s9 s10 s11
  refine W.seq ?_
  refine W.seq ?_
  refine W.region ?_
  refine WL.x (X.load pl40 (s9) (cu5_1.at0 hbb) (v := .slice (some ⟨b8, 0, none⟩) n n) rfl) rfl ?_
  refine WL.x (X.mv (lt rfl (s2))) rfl ?_
  refine WL.x (X.indexAddr Tryd.underlying40 el3 (lt rfl (lh)) (lh) (by omega) (by omega)) rfl ?_
  refine WL.x (X.load pl3 (lh) (cu5_1.at0 hb8) (v := .int .i64 (D : Int)) (by rw [show 0 + (a : Int).toNat * 1 = a by omega, wI_get ha, hD])) rfl ?_
  refine WL.alloc el3 rfl ?_
  intro w54 u6_4; have hu6_4 := u6_4.at_; have cu6_4 := u6_4.ch; have zu6_4 := u6_4.size
  refine WL.store el3 (lh) (lt rfl (lh)) rfl hu6_4 (by decide) ?_
  intro w55 us; have cst6 := us.ch
  have hdbY : w55.heap[(_ : Nat)]? = some (Obj.cells #[.int .i64 (D : Int)] 3 (0, 0)) := us.at_
  have cky6 := (cu5_1.trans0 cu6_4).trans cst6 (H := fun _ => False) (fun _ _ e => e) (fun i hi e => by (try dsimp only at e); omega)
  have hpq0 := (q_one (base := PB) hu5_1 (by omega)).ch0 cu6_4
  have hpq00 := q_one (base := PB) hu5_1 (by omega)
  have hpq := hpq0.ch cst6 (fun kk hk e => by have := (hpq00.lt hk).2; (try dsimp only at e); omega)
  have hab := cky6.at0 hab
  have hbb := cky6.at0 hbb
  have hb8 := cky6.at0 hb8
  have htb := cky6.at0 htb
  have hcl := hcl.trans0 cky6
  refine WL.e7 Nx.thn 0 1 7 9 10 11 12 (jt4 rfl (lt rfl (s0))) (jt4 rfl (lt rfl (s1))) (jt4 rfl (lt rfl (s7))) (jt4 rfl (lt rfl (s9))) (jt4 rfl (lt rfl (s10))) (jt4 rfl (lt rfl (s11))) (lh) ?_
  intro σ42 s0 s1 s7 s9 s10 s11 s12
  refine W.block ?_
  have qo13 := s0
  have qo14 := s1
  have qo15 := s7
  have qo16 := s9
  have qo17 := s10
  -- loop 0: kept [0, 1, 7, 9, 10], varied [11, 12]
  refine W.loop (G := Nat × Nat × List Nat) (fun (d, at_, P) σ' w' => (σ' 0 = σ42 0 ∧ σ' 1 = σ42 1 ∧ σ' 7 = σ42 7 ∧ σ' 9 = σ42 9 ∧ σ' 10 = σ42 10 ∧ True) ∧ (∃ db pv, σ' 12 = .pointer (some ⟨db, 0, none⟩) ∧ w'.heap[db]? = some (.cells #[.int .i64 (d : Int)] 3 (0, 0)) ∧ σ' 11 = pv ∧ QRow w' PB 3 pv (P.map fun (x : Nat) => Value.int .i64 (x : Int)) ∧ (∀ kk, slBlk pv kk → kk ≠ db) ∧ w'.heap[ab]? = some (.cells #[.int .i64 (at_ : Int), .int .i64 (b : Int)] 84 (0, 0)) ∧ w'.heap[bb]? = some (.cells #[.slice (some ⟨b8, 0, none⟩) n n] 40 (0, 0)) ∧ w'.heap[b8]? = some (.cells (wI n (fun i => (dst (EE Lb o) i b : Int))) 3 (0, 0)) ∧ w'.heap[w.heap.size]? = some (.cells #[.int .i64 (b : Int)] 3 (0, 0)) ∧ at_ < n ∧ Left (EE Lb o) at_ b d ∧ P.length + d = D + 1 ∧ a :: spath Lb n o b D a = P ++ spath Lb n o b d at_ ∧ (w.heap.size ≤ db ∧ PB < db) ∧ Ch0 w w')) (fun (d, at_, P) => d) ((D, a, [a])) ⟨⟨rfl, rfl, rfl, rfl, rfl, trivial⟩, _, _, s12, hdbY, s11, hpq, (fun kk hk e9 => by have := (hpq00.lt hk).2; omega), hab, hbb, hb8, htb, ha, by unfold Left; rw [if_neg hD0]; exact hD, by simp; omega, rfl, ⟨by omega, by omega⟩, hcl⟩ ?_
  rintro ⟨d, at_, P⟩ σ43 w56 ⟨⟨f0, f1, f7, f9, f10, _⟩, db, pv, s12, hdb, s11, hpq, hnd, hab, hbb, hb8, htb, hatn, hlf, hPl, hPe, hdl, hcl⟩
  have s0 := f0.trans qo13
  have s1 := f1.trans qo14
  have s7 := f7.trans qo15
  have s9 := f9.trans qo16
  have s10 := f10.trans qo17
  refine W.seq ?_
  refine W.seq ?_
  refine W.region ?_
  refine WL.x (X.load pl3 (s12) hdb (v := .int .i64 (d : Int)) rfl) rfl ?_
  refine WL.x (X.gtr (lh) lc) rfl ?_
  refine WL.e8 Nx.thn 0 1 7 9 10 11 12 35 (jt2 rfl (s0)) (jt2 rfl (s1)) (jt2 rfl (s7)) (jt2 rfl (s9)) (jt2 rfl (s10)) (jt2 rfl (s11)) (jt2 rfl (s12)) (lh) ?_
  intro σ44 s0 s1 s7 s9 s10 s11 s12 s35
  refine W.cndp s35 (fun hgo => ?_) (fun hgo => ?_)
  ·
   have hd0 : d ≠ 0 := by omega
   obtain ⟨e, rfl⟩ : ∃ e, d = e + 1 := ⟨d - 1, by omega⟩
   have hdl2 := lt_of_blk hdb
   refine W.skip Nx.thn ?_
   refine W.seq ?_
   refine W.block ?_
   refine W.seq ?_
   refine W.region ?_
   refine WL.x (X.mv (s0)) rfl ?_
   refine WL.x (X.fieldAddr fd84_0 (lt rfl (s10))) rfl ?_
   refine WL.x (X.load pl3 (lh) hab (v := .int .i64 (at_ : Int)) rfl) rfl ?_
   refine WL.x (X.mv (jt2 rfl (lt rfl (s1)))) rfl ?_
   refine WL.call3 ce43 (jt2 rfl (lt rfl (lh))) (lt rfl (lh)) (lh) (gout_ok base g n Lb w56 (h.ch0 hcl) at_ o (htab.ch0 hcl) (by have := hcl.size; omega)) rfl ?_
   rintro v8 w57 ⟨hownL, c5⟩
   rw [outN_elv] at hownL
   have hoq := QRow.own hownL
   have hol := outN_len Lb at_ n o
   have hex := left_ex hok hd0 hlf
   obtain ⟨l2, hl2⟩ : ∃ l2, l2 = outN Lb at_ n o := ⟨_, rfl⟩
   rw [← hl2] at hoq hol hex
   obtain ⟨oa, oc, rfl⟩ : ∃ a c, v8 = .slice a l2.length c := qn_len hoq
   have hdb := c5.at0 hdb
   have hab := c5.at0 hab
   have hbb := c5.at0 hbb
   have hb8 := c5.at0 hb8
   have htb := c5.at0 htb
   have hpq := hpq.ch0 c5
   have hcl := hcl.trans0 c5
   refine WL.x (X.mkfn mnil (mcons (jt4 rfl (lt rfl (s12))) (mcons (jt4 rfl (lt rfl (s7))) (mcons (jt4 rfl (lt rfl (s9))) mnil)))) rfl ?_
   refine WL.call2 ce47 (lt rfl (lh)) (lh) (index_nx 48 [.pointer (some ⟨db, 0, none⟩), .pointer (some ⟨w.heap.size, 0, none⟩), .pointer (some ⟨bb, 0, none⟩)] (EE Lb o) b (e + 1) oa oc l2 w57 ce48 (fun m w0 hm c0 => Ret.mono (short_fn (EE Lb o) n (e + 1) b m db w.heap.size bb b8 w0 (by rw [hl2] at hm; exact (mem_outN.1 hm).1) (by omega) (c0.at0 hdb) (c0.at0 htb) (c0.at0 hbb) (c0.at0 hb8)) fun v w' k => ⟨k.1, k.2.ch0⟩) hoq.sl (by omega) hex) rfl ?_
   rintro _ w58 ⟨⟨k, hkl, rfl, hkn, hkp⟩, c6⟩
   have hdb := c6.at0 hdb
   have hab := c6.at0 hab
   have hbb := c6.at0 hbb
   have hb8 := c6.at0 hb8
   have htb := c6.at0 htb
   have hpq := hpq.ch0 c6
   have hcl := hcl.trans0 c6
   refine WL.x (X.asg (lh)) rfl ?_
   refine WL.e8 Nx.thn 0 1 7 9 10 11 12 13 (jt8 rfl (s0)) (jt8 rfl (s1)) (jt8 rfl (s7)) (jt8 rfl (s9)) (jt8 rfl (s10)) (jt8 rfl (s11)) (jt8 rfl (s12)) (lh) ?_
   intro σ45 s0 s1 s7 s9 s10 s11 s12 s13
   refine W.seq ?_
   refine W.region ?_
   refine WL.x (X.mv (s0)) rfl ?_
   refine WL.x (X.fieldAddr fd84_0 (lt rfl (s10))) rfl ?_
   refine WL.x (X.load pl3 (lh) hab (v := .int .i64 (at_ : Int)) rfl) rfl ?_
   refine WL.x (X.mv (jt2 rfl (lt rfl (s1)))) rfl ?_
   refine WL.call3 ce43 (jt2 rfl (lt rfl (lh))) (lt rfl (lh)) (lh) (gout_ok base g n Lb w58 (h.ch0 hcl) at_ o (htab.ch0 hcl) (by have := hcl.size; omega)) rfl ?_
   rintro v9 w59 ⟨hownM, c7⟩
   rw [outN_elv] at hownM
   have hoq2 := QRow.own hownM
   rw [← hl2] at hoq2
   obtain ⟨oa2, oc2, rfl⟩ : ∃ a c, v9 = .slice a l2.length c := qn_len hoq2
   obtain ⟨gr, gor, csr, Tr, frr, rfl, hr1, hr2⟩ := hoq2.sl.at (k := k) (by rw [List.length_map]; omega)
   obtain ⟨m, hm⟩ : ∃ m : Nat, l2[k]'hkl = m := ⟨_, rfl⟩
   rw [hm] at hkn hkp
   have hmn : m < n := by have := List.getElem_mem hkl; rw [hm, hl2] at this; exact (mem_outN.1 this).1
   have hdb := c7.at0 hdb
   have hab := c7.at0 hab
   have hbb := c7.at0 hbb
   have hb8 := c7.at0 hb8
   have htb := c7.at0 htb
   have hpq := hpq.ch0 c7
   have hcl := hcl.trans0 c7
   refine WL.x (X.mv (jt4 rfl (lt rfl (s13)))) rfl ?_
   refine WL.x (X.indexAddr Tryd.underlying40 el3 (lt rfl (lh)) (lh) (by omega) (by omega)) rfl ?_
   refine WL.x (X.load pl3 (lh) hr1 (v := .int .i64 (m : Int)) (by rw [show gor + (k : Int).toNat * 1 = gor + k by omega, hr2 k (by rw [List.length_map]; omega), List.getElem?_map, List.getElem?_eq_getElem hkl, hm]; rfl)) rfl ?_
   refine WL.x (X.fieldAddr fd84_0 (jt8 rfl (s10))) rfl ?_
   refine WL.store el3 (lh) (lt rfl (lh)) rfl hab (by simp) ?_
   intro w60 us; have cs10 := us.ch
   have hdb := cs10.at hdb (ty_ne ⟨_, hdb⟩ ⟨_, hab⟩ (by decide))
   have hbb := cs10.at hbb (ty_ne ⟨_, hbb⟩ ⟨_, hab⟩ (by decide))
   have hb8 := cs10.at hb8 (ty_ne ⟨_, hb8⟩ ⟨_, hab⟩ (by decide))
   have htb := cs10.at htb (ty_ne ⟨_, htb⟩ ⟨_, hab⟩ (by decide))
   have hpq := hpq.ch cs10 (fun kk hk e => ty_ne (hpq.ty hk) ⟨_, hab⟩ (by decide) e)
   have hcl := hcl.trans cs10 (H := fun _ => False) (fun _ _ e => e) (fun i hi e => by (try dsimp only at e); omega)
   have hab : w60.heap[ab]? = some (.cells #[.int .i64 (m : Int), .int .i64 (b : Int)] 84 (0, 0)) := us.at_
   refine WL.e7 Nx.thn 0 1 7 9 10 11 12 (jt8 rfl (lt rfl (s0))) (jt8 rfl (lt rfl (s1))) (jt8 rfl (lt rfl (s7))) (jt8 rfl (lt rfl (s9))) (jt8 rfl (lt rfl (s10))) (jt8 rfl (lt rfl (s11))) (jt8 rfl (lt rfl (s12))) ?_
   intro σ46 s0 s1 s7 s9 s10 s11 s12
   refine W.seq ?_
   refine W.region ?_
   refine WL.x (X.mv (s11)) rfl ?_
   refine WL.x (X.fieldAddr fd84_0 (lt rfl (s10))) rfl ?_
   refine WL.x (X.load pl3 (lh) hab (v := .int .i64 (m : Int)) rfl) rfl ?_
   refine WL.bslice Tryd.underlying40 el3 rfl (pcons (lh) pnil) rfl (rfl : _ = [_]) rfl ?_
   intro w61 u11_3; have hu11_3 := u11_3.at_; have cu11_3 := u11_3.ch; have zu11_3 := u11_3.size
   refine WL.pushQ Tryd.underlying40 el3 rfl (jt2 rfl (lt rfl (lh))) (lh) (hpq.ch0 cu11_3) (by assumption) rfl (by rw [List.length_map]; unfold maxLen; omega) (by rw [List.length_map]; omega) (by have := (cu11_3.size); have := lt_of_blk hdb; omega) rfl ?_
   intro va11_4 w62 ho11_4 ca11_4 hb11_4
   have hdb := ca11_4.at (cu11_3.at0 hdb) (fun hk => hnd _ hk rfl)
   have hzd := lt_of_blk (cu11_3.at0 hab)
   have hbb := ca11_4.at (cu11_3.at0 hbb) (fun hk => ty_ne (hpq.ty hk) ⟨_, hbb⟩ (by decide) rfl)
   have hb8 := ca11_4.at (cu11_3.at0 hb8) (fun hk => by have := (hpq.lt hk).1; omega)
   have htb := ca11_4.at (cu11_3.at0 htb) (fun hk => by have := (hpq.lt hk).1; omega)
   have hcl := (hcl.trans0 cu11_3).trans ca11_4 (H := fun _ => False) (fun _ _ e => e) (fun i hi e => by have := (hpq.lt e).1; omega)
   have hab := ca11_4.at (cu11_3.at0 hab) (fun hk => by have := (hpq.lt hk).1; omega)
   have hpq := ho11_4
   refine WL.x (X.asg (lh)) rfl ?_
   refine WL.e7 Nx.thn 0 1 7 9 10 11 12 (jt4 rfl (jt2 rfl (s0))) (jt4 rfl (jt2 rfl (s1))) (jt4 rfl (jt2 rfl (s7))) (jt4 rfl (jt2 rfl (s9))) (jt4 rfl (jt2 rfl (s10))) (lh) (jt4 rfl (jt2 rfl (s12))) ?_
   intro σ47 s0 s1 s7 s9 s10 s11 s12
   refine W.seq ?_
   refine W.region ?_
   refine WL.x (X.load pl3 (s12) hdb (v := .int .i64 ((e + 1 : Nat) : Int)) rfl) rfl ?_
   refine WL.x (X.eql (lh) lc) rfl ?_
   refine WL.x (X.mv (lh)) rfl ?_
   refine WL.splitp (lh) (fun hd1 => ?_) (fun hd1 => ?_)
   ·
    refine WL.yes rfl rfl (lh) (decide_eq_true hd1) ?_
    refine WL.x (X.loadBox (vs := [.int .i64 (m : Int), .int .i64 (b : Int)]) ag84 (jt2 rfl (lt rfl (s10))) hab rfl) rfl ?_
    refine WL.yes rfl rfl (lt rfl (lh)) (decide_eq_true hd1) ?_
    refine WL.x (X.load pl3 (jt4 rfl (s7)) htb (v := .int .i64 (b : Int)) rfl) rfl ?_
    refine WL.yes rfl rfl (jt2 rfl (lh)) (decide_eq_true hd1) ?_
    refine WL.x (X.load pl3 (jt4 rfl (lt rfl (s7))) htb (v := .int .i64 (b : Int)) rfl) rfl ?_
    refine WL.yes rfl rfl (jt2 rfl (lt rfl (lh))) (decide_eq_true hd1) ?_
    refine WL.x (X.build bd84 (pcons (lt rfl (lh)) (pcons (lh) pnil)) rfl (rfl : _ = [_, _])) rfl ?_
    refine WL.yes rfl rfl (jt4 rfl (lh)) (decide_eq_true hd1) ?_
    obtain ⟨fs9, hu9, hc9⟩ := cmp_en ((m : Int), (b : Int)) ((b : Int), (b : Int))
    refine WL.x (v := .bool (decide (((m : Int), (b : Int)) ≠ ((b : Int), (b : Int))))) (X.neqAgg hu9 hp_en hg_en (jt2 rfl (lt rfl (lh))) (lh) hc9 (cmpv_en _ _)) rfl ?_
    refine WL.x (X.pickT (jt4 rfl (lt rfl (lh))) (decide_eq_true hd1) (lh)) rfl ?_
    refine WL.e8 Nx.thn 0 1 7 9 10 11 12 67 (jt8 rfl (lt rfl (s0))) (jt8 rfl (lt rfl (s1))) (jt8 rfl (lt rfl (s7))) (jt8 rfl (lt rfl (s9))) (jt8 rfl (lt rfl (s10))) (jt8 rfl (lt rfl (s11))) (jt8 rfl (lt rfl (s12))) (lh) ?_
    intro σ48 s0 s1 s7 s9 s10 s11 s12 s67
    refine W.cndN s67 (fun h9 => h9 (pair_eq hkp (by omega))) ?_
    refine W.skip (Nx.blk Nx.thn) ?_
    refine W.seq ?_
    refine W.seq ?_
    refine W.region ?_
    refine WL.x (X.load pl3 (s12) hdb (v := .int .i64 ((e + 1 : Nat) : Int)) rfl) rfl ?_
    refine WL.e7 Nx.thn 0 1 7 9 10 11 68 (lt rfl (s0)) (lt rfl (s1)) (lt rfl (s7)) (lt rfl (s9)) (lt rfl (s10)) (lt rfl (s11)) (lh) ?_
    intro σ49 s0 s1 s7 s9 s10 s11 s68
    refine W.region ?_
    refine WL.alloc el3 rfl ?_
    intro w63 u15_0; have hu15_0 := u15_0.at_; have cu15_0 := u15_0.ch; have zu15_0 := u15_0.size
    refine WL.store el3 (lh) (lt rfl (s68)) rfl hu15_0 (by decide) ?_
    intro w64 us; have cs15 := us.ch
    have hdn : w64.heap[(_ : Nat)]? = some (Obj.cells #[.int .i64 ((e + 1 : Nat) : Int)] 3 (0, 0)) := us.at_
    have cky15 := cu15_0.trans cs15 (F := fun _ => False) (H := fun _ => False) (fun _ _ e => e) (fun i hi e => by (try dsimp only at e); omega)
    have hpqO := hpq
    have hzDB := lt_of_blk hdb
    have hzO := hcl.size
    have hzB := lt_of_blk hab
    have hab := cky15.at0 hab
    have hbb := cky15.at0 hbb
    have hb8 := cky15.at0 hb8
    have htb := cky15.at0 htb
    have hpq := hpq.ch0 cky15
    have hcl := hcl.trans0 cky15
    refine WL.e7 Nx.thn 0 1 7 9 10 11 12 (lt rfl (s0)) (lt rfl (s1)) (lt rfl (s7)) (lt rfl (s9)) (lt rfl (s10)) (lt rfl (s11)) (lh) ?_
    intro σ50 s0 s1 s7 s9 s10 s11 s12
    refine W.region ?_
    refine WL.x (X.load pl3 (s12) hdn (v := .int .i64 ((e + 1 : Nat) : Int)) rfl) rfl ?_
    refine WL.x (v := .int .i64 (e : Int)) (by rw [show (e : Int) = ((e + 1 : Nat) : Int) - 1 by omega]; exact X.sub (lh) lc (by omega) (by omega)) rfl ?_
    refine WL.store el3 (jt2 rfl (s12)) (lh) rfl hdn (by simp) ?_
    intro w65 us; have cs8 := us.ch
    have hdb : w65.heap[(_ : Nat)]? = some (Obj.cells #[.int .i64 (e : Int)] 3 (0, 0)) := us.at_
    have hab := cs8.at hab (by (try dsimp only); omega)
    have hbb := cs8.at hbb (by (try dsimp only); omega)
    have hb8 := cs8.at hb8 (by (try dsimp only); omega)
    have htb := cs8.at htb (by (try dsimp only); omega)
    have hpq := hpq.ch cs8 (fun kk hk e9 => by have := (hpqO.lt hk).2; (try dsimp only at e9); omega)
    have hcl := hcl.trans cs8 (H := fun _ => False) (fun _ _ e => e) (fun i hi e => by (try dsimp only at e); omega)
    refine WL.e7 Nx.thn 0 1 7 9 10 11 12 (jt2 rfl (s0)) (jt2 rfl (s1)) (jt2 rfl (s7)) (jt2 rfl (s9)) (jt2 rfl (s10)) (jt2 rfl (s11)) (jt2 rfl (s12)) ?_
    intro σ51 s0 s1 s7 s9 s10 s11 s12
    refine ⟨(e, m, P ++ [m]), by (try dsimp only); omega, ⟨s0.trans qo13.symm, s1.trans qo14.symm, s7.trans qo15.symm, s9.trans qo16.symm, s10.trans qo17.symm, trivial⟩, _, _, s12, hdb, s11, (by rw [List.map_append]; exact hpq), (fun kk hk e9 => by have := (hpqO.lt hk).2; omega), hab, hbb, hb8, htb, hmn, left_next hkp, by rw [List.length_append]; simp only [List.length_cons, List.length_nil]; omega, (by rw [hPe, List.append_assoc]; exact congrArg (fun z => P ++ z) (by rw [show spath Lb n o b (e + 1) at_ = nx (EE Lb o) (outN Lb at_ n o) b (e + 1) :: spath Lb n o b e (nx (EE Lb o) (outN Lb at_ n o) b (e + 1)) from rfl, ← hl2, ← hkn]; rfl)), ⟨by omega, by omega⟩, hcl⟩
   ·
    refine WL.no rfl rfl (lh) (decide_eq_false hd1) rfl ?_
    refine WL.no rfl rfl (lt rfl (lh)) (decide_eq_false hd1) rfl ?_
    refine WL.no rfl rfl (jt2 rfl (lh)) (decide_eq_false hd1) rfl ?_
    refine WL.no rfl rfl (jt2 rfl (lt rfl (lh))) (decide_eq_false hd1) rfl ?_
    refine WL.no rfl rfl (jt4 rfl (lh)) (decide_eq_false hd1) rfl ?_
    refine WL.x (X.pickF (jt4 rfl (lt rfl (lh))) (decide_eq_false hd1) lc) rfl ?_
    refine WL.e8 Nx.thn 0 1 7 9 10 11 12 67 (jt8 rfl (lt rfl (s0))) (jt8 rfl (lt rfl (s1))) (jt8 rfl (lt rfl (s7))) (jt8 rfl (lt rfl (s9))) (jt8 rfl (lt rfl (s10))) (jt8 rfl (lt rfl (s11))) (jt8 rfl (lt rfl (s12))) (lh) ?_
    intro σ52 s0 s1 s7 s9 s10 s11 s12 s67
    refine W.cndF s67 ?_
    refine W.skip (Nx.blk Nx.thn) ?_
    refine W.seq ?_
    refine W.seq ?_
    refine W.region ?_
    refine WL.x (X.load pl3 (s12) hdb (v := .int .i64 ((e + 1 : Nat) : Int)) rfl) rfl ?_
    refine WL.e7 Nx.thn 0 1 7 9 10 11 68 (lt rfl (s0)) (lt rfl (s1)) (lt rfl (s7)) (lt rfl (s9)) (lt rfl (s10)) (lt rfl (s11)) (lh) ?_
    intro σ53 s0 s1 s7 s9 s10 s11 s68
    refine W.region ?_
    refine WL.alloc el3 rfl ?_
    intro w66 u15_0; have hu15_0 := u15_0.at_; have cu15_0 := u15_0.ch; have zu15_0 := u15_0.size
    refine WL.store el3 (lh) (lt rfl (s68)) rfl hu15_0 (by decide) ?_
    intro w67 us; have cs15 := us.ch
    have hdn : w67.heap[(_ : Nat)]? = some (Obj.cells #[.int .i64 ((e + 1 : Nat) : Int)] 3 (0, 0)) := us.at_
    have cky15 := cu15_0.trans cs15 (F := fun _ => False) (H := fun _ => False) (fun _ _ e => e) (fun i hi e => by (try dsimp only at e); omega)
    have hpqO := hpq
    have hzDB := lt_of_blk hdb
    have hzO := hcl.size
    have hzB := lt_of_blk hab
    have hab := cky15.at0 hab
    have hbb := cky15.at0 hbb
    have hb8 := cky15.at0 hb8
    have htb := cky15.at0 htb
    have hpq := hpq.ch0 cky15
    have hcl := hcl.trans0 cky15
    refine WL.e7 Nx.thn 0 1 7 9 10 11 12 (lt rfl (s0)) (lt rfl (s1)) (lt rfl (s7)) (lt rfl (s9)) (lt rfl (s10)) (lt rfl (s11)) (lh) ?_
    intro σ54 s0 s1 s7 s9 s10 s11 s12
    refine W.region ?_
    refine WL.x (X.load pl3 (s12) hdn (v := .int .i64 ((e + 1 : Nat) : Int)) rfl) rfl ?_
    refine WL.x (v := .int .i64 (e : Int)) (by rw [show (e : Int) = ((e + 1 : Nat) : Int) - 1 by omega]; exact X.sub (lh) lc (by omega) (by omega)) rfl ?_
    refine WL.store el3 (jt2 rfl (s12)) (lh) rfl hdn (by simp) ?_
    intro w68 us; have cs8 := us.ch
    have hdb : w68.heap[(_ : Nat)]? = some (Obj.cells #[.int .i64 (e : Int)] 3 (0, 0)) := us.at_
    have hab := cs8.at hab (by (try dsimp only); omega)
    have hbb := cs8.at hbb (by (try dsimp only); omega)
    have hb8 := cs8.at hb8 (by (try dsimp only); omega)
    have htb := cs8.at htb (by (try dsimp only); omega)
    have hpq := hpq.ch cs8 (fun kk hk e9 => by have := (hpqO.lt hk).2; (try dsimp only at e9); omega)
    have hcl := hcl.trans cs8 (H := fun _ => False) (fun _ _ e => e) (fun i hi e => by (try dsimp only at e); omega)
    refine WL.e7 Nx.thn 0 1 7 9 10 11 12 (jt2 rfl (s0)) (jt2 rfl (s1)) (jt2 rfl (s7)) (jt2 rfl (s9)) (jt2 rfl (s10)) (jt2 rfl (s11)) (jt2 rfl (s12)) ?_
    intro σ55 s0 s1 s7 s9 s10 s11 s12
    refine ⟨(e, m, P ++ [m]), by (try dsimp only); omega, ⟨s0.trans qo13.symm, s1.trans qo14.symm, s7.trans qo15.symm, s9.trans qo16.symm, s10.trans qo17.symm, trivial⟩, _, _, s12, hdb, s11, (by rw [List.map_append]; exact hpq), (fun kk hk e9 => by have := (hpqO.lt hk).2; omega), hab, hbb, hb8, htb, hmn, left_next hkp, by rw [List.length_append]; simp only [List.length_cons, List.length_nil]; omega, (by rw [hPe, List.append_assoc]; exact congrArg (fun z => P ++ z) (by rw [show spath Lb n o b (e + 1) at_ = nx (EE Lb o) (outN Lb at_ n o) b (e + 1) :: spath Lb n o b e (nx (EE Lb o) (outN Lb at_ n o) b (e + 1)) from rfl, ← hl2, ← hkn]; rfl)), ⟨by omega, by omega⟩, hcl⟩
  ·
   refine W.exit (Nx.xthn (Nx.xthn (Nx.xblk Nx.thn))) ?_
   refine W.seq ?_
   refine W.region ?_
   refine WL.x (X.mv (s11)) rfl ?_
   refine WL.x (X.asg (lh)) rfl ?_
   refine WL.e1 Nx.thn 8 (lh) ?_
   intro σ56 s8
   refine W.ret1 Nx.f1 s8 ?_
   have hd0 : d = 0 := by omega
   subst hd0
   rw [show spath Lb n o b 0 at_ = [] from rfl, List.append_nil] at hPe
   rw [hPe]
   exact ⟨hpq.sl, by omega, hcl⟩
end Go.Proofs.YtnfkblboimkcjaaDoor
end

section
set_option linter.unusedVariables false
set_option linter.unusedSimpArgs false
set_option maxRecDepth 100000
namespace Go.Proofs.YtnfkblboimkcjaaDoor
open Go Go.RowKit Sg

theorem dsI_pos {n : Nat} {Lb : Nat → Nat → Nat} {o a b : Int} : dsI n Lb o a b = -1 ∨ (1 ≤ dsI n Lb o a b ∧ (0 ≤ a ∧ a < (n : Int)) ∧ (0 ≤ b ∧ b < (n : Int)) ∧ dsI n Lb o a b = (dst (EE Lb o) a.toNat b.toNat : Int)) := by
  unfold dsI dI
  split
  · rename_i h
    by_cases e : dst (EE Lb o) a.toNat b.toNat = 0
    · rw [if_pos e]; exact .inl rfl
    · rw [if_neg e]; exact .inr ⟨by omega, h.1, h.2, rfl⟩
  · exact .inl rfl
end Go.Proofs.YtnfkblboimkcjaaDoor
end

section
set_option linter.unusedVariables false
set_option linter.unusedSimpArgs false
set_option maxRecDepth 100000
namespace Go.Proofs.YtnfkblboimkcjaaDoor
open Go Go.RowKit Sg
set_option maxHeartbeats 800000 in
theorem short_out (base g n : Nat) (Lb : Nat → Nat → Nat) (w : World) (h : IsG w base g n Lb) (htab : Tab w) (hb0 : 0 < w.heap.size) (o a b : Int) (hneg : dsI n Lb o a b < 0)  :
  Sg.Ret Tryd.prog 22 #[.pointer (some ⟨g, 0, none⟩), .int .i64 o, .int .i64 a, .int .i64 b] w fun v w' => v = .slice none 0 0 ∧ Ch0 w w' := by
 refine enter1 (n := 70) (l := [.pointer (some ⟨g, 0, none⟩), .int .i64 o, .int .i64 a, .int .i64 b]) Tryd.func22 rfl rfl rfl rfl ?_
 refine W.g4 0 1 2 3 (v1 := .pointer (some ⟨g, 0, none⟩)) (v2 := .int .i64 o) (v3 := .int .i64 a) (v4 := .int .i64 b) rfl rfl rfl rfl ?_; intro σ s0 s1 s2 s3
 refine W.seq ?_
 refine W.region ?_
 refine WL.box1 (s3) rfl rfl ?_
 intro w1 u0_0; have hu0_0 := u0_0.at_; have cu0_0 := u0_0.ch; have zu0_0 := u0_0.size
 refine WL.x (X.asg lc) rfl ?_
 refine WL.e4 Nx.thn 0 1 2 7 (jt2 rfl (s0)) (jt2 rfl (s1)) (jt2 rfl (s2)) (lt rfl (lh)) ?_
 intro σ1 s0 s1 s2 s7
 refine W.seq ?_
 refine W.seq ?_
 refine W.region ?_
 refine WL.x (X.mv (s0)) rfl ?_
 refine WL.x (X.mv (lt rfl (s1))) rfl ?_
 refine WL.x (X.mv (jt2 rfl (s2))) rfl ?_
 refine WL.x (X.load pl3 (jt2 rfl (lt rfl (s7))) hu0_0 (v := .int .i64 b) rfl) rfl ?_
 refine WL.call4 ce44 (jt2 rfl (lt rfl (lh))) (jt2 rfl (lh)) (lt rfl (lh)) (lh) (pdist_ok base g n Lb w1 (h.ch0 cu0_0) (htab.ch0 cu0_0) (by omega) o a b) rfl ?_
 rintro _ w2 ⟨rfl, hbd, c1⟩
 refine WL.x (X.lss (lh) lc) rfl ?_
 refine WL.e5 Nx.thn 0 1 2 7 19 (jt4 rfl (jt2 rfl (s0))) (jt4 rfl (jt2 rfl (s1))) (jt4 rfl (jt2 rfl (s2))) (jt4 rfl (jt2 rfl (s7))) (lh) ?_
 intro σ2 s0 s1 s2 s7 s19
 refine W.cndY s19 (hneg) ?_
 refine W.seq ?_
 refine W.region ?_
 refine WL.x (X.asg lc) rfl ?_
 refine WL.e1 Nx.thn 8 (lh) ?_
 intro σ3 s8
 refine W.ret1 (Nx.rthn Nx.f1) s8 ?_
 exact ⟨rfl, cu0_0.trans0 c1⟩
/-- The answer of Shortest. -/
noncomputable def shI (n : Nat) (Lb : Nat → Nat → Nat) (o a b : Int) : List Int := if dsI n Lb o a b < 0 then [] else (a.toNat :: spath Lb n o b.toNat (dst (EE Lb o) a.toNat b.toNat) a.toNat).map fun (m : Nat) => (m : Int)
theorem short_ok (base g n : Nat) (Lb : Nat → Nat → Nat) (w : World) (h : IsG w base g n Lb) (htab : Tab w) (hb0 : 0 < w.heap.size) (o a b : Int) : Sg.Ret Tryd.prog 22 #[.pointer (some ⟨g, 0, none⟩), .int .i64 o, .int .i64 a, .int .i64 b] w fun v w' => Sl w' v ((shI n Lb o a b).map (Value.int .i64)) ∧ dsI n Lb o a b ≤ n ∧ Ch0 w w' := by
  by_cases hneg : dsI n Lb o a b < 0
  · refine Ret.mono (short_out base g n Lb w h htab hb0 o a b hneg) fun v w' k => ⟨?_, by omega, k.2⟩
    unfold shI
    rw [if_pos hneg, k.1]
    exact QRow.sl (QRow.nil (w := w') (base := 0) (e := 0))
  · rcases dsI_pos (n := n) (Lb := Lb) (o := o) (a := a) (b := b) with k1 | k1
    · omega
    obtain ⟨p, rfl⟩ : ∃ p : Nat, a = (p : Int) := ⟨a.toNat, by omega⟩
    obtain ⟨q, rfl⟩ : ∃ q : Nat, b = (q : Int) := ⟨b.toNat, by omega⟩
    have e1 : ((p : Nat) : Int).toNat = p := by omega
    have e2 : ((q : Nat) : Int).toNat = q := by omega
    unfold shI
    rw [if_neg hneg]
    rw [e1, e2] at k1 ⊢
    refine Ret.mono (short_in base g n Lb w h htab hb0 o p q _ (by omega) (by omega) (by omega) rfl) fun v w' k => ⟨?_, by have := k.2.1; omega, k.2.2⟩
    rw [List.map_map]
    exact k.1

end Go.Proofs.YtnfkblboimkcjaaDoor
end

section
set_option linter.unusedVariables false
set_option linter.unusedSimpArgs false
set_option maxRecDepth 100000
namespace Go.Proofs.YtnfkblboimkcjaaDoor
open Go Go.RowKit Sg

end Go.Proofs.YtnfkblboimkcjaaDoor
end

section
set_option linter.unusedVariables false
set_option linter.unusedSimpArgs false
set_option maxRecDepth 100000
namespace Go.Proofs.YtnfkblboimkcjaaDoor
open Go Go.RowKit Sg
theorem spath_len (Lb : Nat → Nat → Nat) (n : Nat) (o : Int) (to : Nat) : ∀ d a, (spath Lb n o to d a).length = d
  | 0, _ => rfl
  | d + 1, a => by show (spath Lb n o to d _).length + 1 = d + 1; rw [spath_len Lb n o to d]
theorem shI_len {n : Nat} {Lb : Nat → Nat → Nat} {o a b : Int} (h : dsI n Lb o a b ≤ n) : (shI n Lb o a b).length ≤ n + 1 := by
  unfold shI
  by_cases e : dsI n Lb o a b < 0
  · rw [if_pos e]; simp
  · rw [if_neg e, List.length_map, List.length_cons, spath_len]
    rcases dsI_pos (n := n) (Lb := Lb) (o := o) (a := a) (b := b) with k1 | k1 <;> omega

end Go.Proofs.YtnfkblboimkcjaaDoor
end

section
namespace Sg
open Go Go.RowKit
/-- Block b is a map of at most n entries, and this is what it says of each integer (false where nothing lies). -/
def MB (P : Program) (k e : TypeId) (w : World) (b n : Nat) (S : Int → Bool) : Prop := ∃ D : DataW Unit, w.ownsMap P k (plainElem P e) b n D ∧ ∀ z, D.atKey (.int .i64 z) (.lit (.bool false)) = .lit (.bool (S z))
theorem MB.ch {P : Program} {k e : TypeId} {w w' : World} {b n : Nat} {S : Int → Bool} {F : Nat → Prop} (h : MB P k e w b n S) (c : Ch F w w') (hb : ¬ F b) : MB P k e w' b n S := by
  obtain ⟨D, ⟨es, clock, hb', F', hs, hD⟩, hS⟩ := h
  exact ⟨D, ⟨es, clock, c.at hb' hb, F', hs, hD⟩, hS⟩
theorem MB.lt {P : Program} {k e : TypeId} {w : World} {b n : Nat} {S : Int → Bool} (h : MB P k e w b n S) : b < w.heap.size := by
  obtain ⟨D, h, _⟩ := h; exact h.lt
section
variable {P : Program} {n : Nat} {Q : Post} {σ : Env} {w : World} {ops : Array Oper} {rest : List Oper}
variable {d : Nat} {t xt : TypeId} {pos : String} {af : Array Edge} {m x v : Operand} {k e : TypeId} {b c : Nat} {S : Int → Bool} {z : Int}
theorem WL.mkMap (hn : Nat.blt d n = true) (h : ∀ w', MB P k e w' w.heap.size 0 (fun _ => false) → Ch0 w w' → w'.heap.size = w.heap.size + 1 → WL P n ops Q rest (up σ d (.map (some w.heap.size))) w') :
    WL P n ops Q (⟨some d, .makeMap xt none, t, pos, af, none⟩ :: rest) σ w := by
  have hnw := nw_alloc w (.map #[] 0)
  refine WL.step (w' := w.alloc (.map #[] 0)) rfl rfl hn ?_ (h _ ⟨.map [], World.ownsMap_made w P k _, fun z => rfl⟩ hnw.ch hnw.size)
  simp [execOp, run_makeMap]
theorem X.look {bytes : Nat} (ht : P.underlying xt = some (.map k e)) (hk : P.underlying k = some (.int .i64)) (he : P.underlying e = some .bool) (hel : Elem P e 1 (.bool false) bytes) (h1 : ev σ m = .map (some b)) (h2 : ev σ x = .int .i64 z)
    (hz : (Lit.int .i64 z).wf = true) (h : MB P k e w b c S) : X P σ w (.lookup xt m x false) t (.bool (S z)) := fun _ _ _ _ => by
  obtain ⟨D, hD, hS⟩ := h
  obtain ⟨i, hi, _, hzv, _⟩ := hel
  have hzero : (zeroValue e).run P w = .ok (.bool false) w := by simp [zeroValue, typeInfo, hi, hzv]
  obtain ⟨v, ps, hrun, hv⟩ := hD.lookup (Maps.int_keyed hk) ht hzero (plainElem_bool he false) (Maps.keyOf_int_mk hk hz)
  rw [hS z] at hv
  have hv2 : v = .bool (S z) := by
    unfold plainElem at hv
    rw [he] at hv
    cases v <;> simp_all
  subst hv2
  simp [execOp, h1, h2, hrun]
theorem WL.mapSet (ht : P.underlying xt = some (.map k e)) (hk : P.underlying k = some (.int .i64)) (he : P.underlying e = some .bool) (h1 : ev σ m = .map (some b)) (h2 : ev σ x = .int .i64 z) (h3 : ev σ v = .bool true)
    (hz : (Lit.int .i64 z).wf = true) (hc : c < maxLen) (h : MB P k e w b c S) (hk2 : ∀ w', MB P k e w' b (c + 1) (fun y => S y || decide (y = z)) → Ch (fun i => i = b) w w' → WL P n ops Q rest σ w') :
    WL P n ops Q (⟨none, .mapUpdate xt m x v, t, pos, af, none⟩ :: rest) σ w := by
  obtain ⟨D, hD, hS⟩ := h
  have hkey := Maps.keyOf_int_mk hk hz
  obtain ⟨w', hrun, hD', hg⟩ := hD.update (Maps.int_keyed hk) ht hc hkey (plainElem_bool he true)
  refine WL.skp (w' := w') rfl rfl ?_ (hk2 w' ⟨_, hD', fun y => ?_⟩ ⟨hg.os, hg.tape, hg.output, hg.size, fun i hi hn => hg.block i hi (fun e => hn (by have := Option.some.inj e; exact this))⟩)
  · simp [execOp, h1, h2, h3, hrun]
  · by_cases e9 : y = z
    · subst e9
      rw [Maps.atKey_put_same hD.isMap ((Maps.int_keyed hk).key hkey)]
      simp
    · show _ = DataW.lit (Lit.bool (S y || decide (y = z)))
      rw [Maps.atKey_put_other (fun e => e9 (by injection e)), hS y, decide_eq_false e9, Bool.or_false]
end
end Sg
end

section
namespace Sg
open Go Go.RowKit Go.ChangeShapes Go.WideShapes

theorem add_none {b o k : Nat} : (⟨b, o, none⟩ : Addr).add k = ⟨b, o + k, none⟩ := by unfold Addr.add; split <;> simp_all
theorem add_zero {a : Addr} : a.add 0 = a := rfl
end Sg
end

section
set_option linter.unusedVariables false
set_option linter.unusedSimpArgs false
set_option maxRecDepth 100000
namespace Go.Proofs.YtnfkblboimkcjaaDoor
open Go Go.RowKit Sg

theorem nx_ok {E : Nat → Nat → Prop} {l : List Nat} {to d : Nat} (hex : ∃ m ∈ l, pcN E to d m = true) : nx E l to d ∈ l ∧ pcN E to d (nx E l to d) = true := by
  unfold nx
  cases hf : l.find? (pcN E to d) with
  | none =>
    obtain ⟨m, hm, hp⟩ := hex
    exact absurd hp (List.find?_eq_none.1 hf m hm)
  | some q => exact ⟨List.mem_of_find?_eq_some hf, List.find?_some hf⟩
/-- Place i of the path. -/
noncomputable def pth (Lb : Nat → Nat → Nat) (n : Nat) (o : Int) (b d a i : Nat) : Nat := (a :: spath Lb n o b d a).getD i 0
theorem pth_all {n : Nat} {Lb : Nat → Nat → Nat} (h : LbOk n Lb) {o : Int} {b : Nat} : ∀ {d a : Nat}, a < n → Left (EE Lb o) a b d → (∀ i, i ≤ d → pth Lb n o b d a i < n ∧ Left (EE Lb o) (pth Lb n o b d a i) b (d - i) ∧ Wk (EE Lb o) i a (pth Lb n o b d a i)) ∧ ∀ i, i < d → EE Lb o (pth Lb n o b d a i) (pth Lb n o b d a (i + 1))
  | 0, a, ha, hl => ⟨fun i hi => by obtain rfl : i = 0 := by omega
                                    exact ⟨ha, hl, rfl⟩, fun i hi => absurd hi (by omega)⟩
  | d + 1, a, ha, hl => by
    obtain ⟨hm, hp⟩ := nx_ok (left_ex h (show d + 1 ≠ 0 by omega) hl)
    obtain ⟨m, hmd⟩ : ∃ m, nx (EE Lb o) (outN Lb a n o) b (d + 1) = m := ⟨_, rfl⟩
    rw [hmd] at hm hp
    have hm2 := mem_outN.1 hm
    have hs : ∀ i, pth Lb n o b (d + 1) a (i + 1) = pth Lb n o b d m i := fun i => by
      unfold pth
      rw [List.getD_cons_succ, show spath Lb n o b (d + 1) a = nx (EE Lb o) (outN Lb a n o) b (d + 1) :: spath Lb n o b d (nx (EE Lb o) (outN Lb a n o) b (d + 1)) from rfl, hmd]
    have h0 : ∀ {d a}, pth Lb n o b d a 0 = a := fun {d a} => rfl
    obtain ⟨k1, k2⟩ := pth_all h hm2.1 (left_next hp)
    refine ⟨fun i hi => ?_, fun i hi => ?_⟩
    · cases i with
      | zero => exact ⟨ha, hl, rfl⟩
      | succ i =>
        have := k1 i (by omega)
        rw [hs, show d + 1 - (i + 1) = d - i by omega]
        exact ⟨this.1, this.2.1, m, hm2.2, this.2.2⟩
    · cases i with
      | zero => rw [hs]; exact hm2.2
      | succ i => rw [hs, hs]; exact k2 i (by omega)
section
variable {n : Nat} {Lb : Nat → Nat → Nat} {o : Int} {a b D : Nat}
theorem left_start (hD : dst (EE Lb o) a b = D) (h0 : D ≠ 0) : Left (EE Lb o) a b D := by unfold Left; rw [if_neg h0]; exact hD
theorem pth_end (h : LbOk n Lb) (ha : a < n) (hD : dst (EE Lb o) a b = D) (h0 : D ≠ 0) : pth Lb n o b D a D = b := by
  have := ((pth_all h ha (left_start hD h0)).1 D (Nat.le_refl _)).2.1
  rw [Nat.sub_self] at this
  exact this
theorem pth_ne (h : LbOk n Lb) (ha : a < n) (hD : dst (EE Lb o) a b = D) (h0 : D ≠ 0) {i j : Nat} (hi : 1 ≤ i) (hij : i < j) (hj : j ≤ D) : pth Lb n o b D a i ≠ pth Lb n o b D a j := by
  intro e
  have k := (pth_all h ha (left_start hD h0)).1
  have ki := (k i (by omega)).2
  have h1 : dst (EE Lb o) (pth Lb n o b D a i) b = D - i := by have := ki.1; unfold Left at this; rwa [if_neg (by omega)] at this
  by_cases e2 : j = D
  · subst e2
    rw [e, pth_end h ha hD h0] at ki
    have := (dst_le hi ki.2).2
    omega
  · have h2 : dst (EE Lb o) (pth Lb n o b D a j) b = D - j := by have := (k j hj).2.1; unfold Left at this; rwa [if_neg (by omega)] at this
    rw [e] at h1
    omega
theorem pth_from (h : LbOk n Lb) (ha : a < n) (hD : dst (EE Lb o) a b = D) (h0 : D ≠ 0) (hab : a ≠ b) {i : Nat} (hi : 1 ≤ i) (hiD : i ≤ D) : pth Lb n o b D a i ≠ a := by
  intro e
  by_cases e2 : i = D
  · subst e2; rw [pth_end h ha hD h0] at e; exact hab e.symm
  · have := ((pth_all h ha (left_start hD h0)).1 i hiD).2.1
    rw [e] at this
    unfold Left at this
    rw [if_neg (by omega)] at this
    omega
end
end Go.Proofs.YtnfkblboimkcjaaDoor
end

section
set_option linter.unusedVariables false
namespace Sg
open Classical in
/-- From how many of the first k that are not out an edge leads to m. -/
noncomputable def cntT (E : Nat → Nat → Prop) (D : List Nat) (m : Nat) : Nat → Nat
  | 0 => 0
  | k + 1 => cntT E D m k + (if k ∉ D ∧ E k m then 1 else 0)
section
variable {E : Nat → Nat → Prop} {D : List Nat} {m x n : Nat}
open Classical in
theorem cntT_succ (k : Nat) : cntT E D m (k + 1) = cntT E D m k + (if k ∉ D ∧ E k m then 1 else 0) := rfl
theorem cntT_le : ∀ k, cntT E D m k ≤ k
  | 0 => Nat.le_refl _
  | k + 1 => by
    have := cntT_le k
    unfold cntT
    split <;> omega
theorem cntT_zero : ∀ {k}, cntT E D m k = 0 → ∀ a, a < k → E a m → a ∈ D
  | 0, _, a, h, _ => absurd h (by omega)
  | k + 1, h, a, ha, he => by
    unfold cntT at h
    by_cases e : a = k
    · subst e
      refine Classical.byContradiction fun hn => ?_
      rw [if_pos ⟨hn, he⟩] at h
      omega
    · exact cntT_zero (k := k) (by omega) a (by omega) he
theorem cntT_far : ∀ {k}, k ≤ x → cntT E (D ++ [x]) m k = cntT E D m k
  | 0, _ => rfl
  | k + 1, h => by
    unfold cntT
    rw [cntT_far (by omega)]
    have : (k ∉ D ++ [x] ∧ E k m) ↔ (k ∉ D ∧ E k m) := by
      rw [List.mem_append, List.mem_singleton]
      constructor
      · exact fun hh => ⟨fun hd => hh.1 (.inl hd), hh.2⟩
      · exact fun hh => ⟨fun hd => hd.elim hh.1 (fun e => by omega), hh.2⟩
    by_cases hc : k ∉ D ∧ E k m
    · rw [if_pos (this.2 hc), if_pos hc]
    · rw [if_neg (fun c => hc (this.1 c)), if_neg hc]
open Classical in
theorem cntT_out : ∀ {k}, x < k → x ∉ D → cntT E D m k = cntT E (D ++ [x]) m k + (if E x m then 1 else 0)
  | 0, h, _ => absurd h (by omega)
  | k + 1, h, hx => by
    unfold cntT
    by_cases e : x = k
    · subst e
      rw [cntT_far (Nat.le_refl _)]
      have h1 : ¬ (x ∉ D ++ [x] ∧ E x m) := fun c => c.1 (by simp)
      rw [if_neg h1]
      by_cases he : E x m
      · rw [if_pos ⟨hx, he⟩, if_pos he]
      · rw [if_neg (fun c => he c.2), if_neg he]
    · rw [cntT_out (k := k) (by omega) hx]
      have : (k ∉ D ++ [x] ∧ E k m) ↔ (k ∉ D ∧ E k m) := by
        rw [List.mem_append, List.mem_singleton]
        constructor
        · exact fun hh => ⟨fun hd => hh.1 (.inl hd), hh.2⟩
        · exact fun hh => ⟨fun hd => hd.elim hh.1 (fun e9 => e e9.symm), hh.2⟩
      by_cases hc : k ∉ D ∧ E k m
      · rw [if_pos (this.2 hc), if_pos hc]; omega
      · rw [if_neg (fun c => hc (this.1 c)), if_neg hc]; omega
/-- Taken out in order. -/
structure Tp (E : Nat → Nat → Prop) (n : Nat) (D : List Nat) : Prop where
  nd : D.Nodup
  lt : ∀ m ∈ D, m < n
  back : ∀ D1 b D2, D = D1 ++ b :: D2 → ∀ a, E a b → a ∈ D1
theorem Tp.nil : Tp E n [] := ⟨List.nodup_nil, (fun _ h => by cases h), (fun D1 b D2 h => absurd (congrArg List.length h) (by simp))⟩
theorem Tp.snoc (h : Tp E n D) (hx : x < n) (hn : x ∉ D) (hb : ∀ a, E a x → a ∈ D) : Tp E n (D ++ [x]) := by
  refine ⟨?_, fun m hm => ?_, fun D1 b D2 e a ha => ?_⟩
  · rw [List.nodup_append]
    exact ⟨h.nd, by simp, fun a ha b hb e => by rw [List.mem_singleton.1 hb] at e; exact hn (e ▸ ha)⟩
  · rcases List.mem_append.1 hm with hm | hm
    · exact h.lt m hm
    · rw [List.mem_singleton.1 hm]; exact hx
  · rcases List.eq_nil_or_concat D2 with rfl | ⟨D3, y, rfl⟩
    · have e2 : D ++ [x] = D1 ++ [b] := e
      obtain ⟨rfl, e3⟩ := List.append_inj' e2 rfl
      obtain rfl : x = b := by simpa using e3
      exact hb a ha
    · have e2 : D ++ [x] = (D1 ++ b :: D3) ++ [y] := by rw [e]; simp
      obtain ⟨e3, -⟩ := List.append_inj' e2 rfl
      exact h.back D1 b D3 e3 a ha
theorem Tp.walk (h : Tp E n D) : ∀ {k a b}, Wk E (k + 1) a b → ∀ D1 D2, D = D1 ++ b :: D2 → a ∈ D1
  | 0, a, b, ⟨c, h1, h2⟩, D1, D2, e => by
    have h2 : c = b := h2
    subst h2
    exact h.back D1 c D2 e a h1
  | k + 1, a, b, ⟨c, h1, h2⟩, D1, D2, e => by
    have hc := h.walk h2 D1 D2 e
    obtain ⟨P, Q, rfl⟩ := List.append_of_mem hc
    have := h.back P c (Q ++ b :: D2) (by rw [e]; simp) a h1
    exact List.mem_append_left _ this
theorem nd_le2 {α : Type} [DecidableEq α] : ∀ {l k : List α}, l.Nodup → (∀ x ∈ l, x ∈ k) → l.length ≤ k.length
  | [], _, _, _ => Nat.zero_le _
  | x :: l, k, hn, hs => by
    have hx := hs x (List.mem_cons_self ..)
    have hn2 := List.nodup_cons.1 hn
    have := nd_le2 (l := l) (k := k.erase x) hn2.2 fun y hy => (List.mem_erase_of_ne (fun e => hn2.1 (by rw [← e]; exact hy))).2 (hs y (List.mem_cons_of_mem _ hy))
    rw [List.length_erase_of_mem hx] at this
    have h0 := List.length_pos_of_mem hx
    rw [List.length_cons]
    omega
theorem Tp.all (h : Tp E n D) (hl : D.length = n) {m : Nat} (hm : m < n) : m ∈ D := by
  refine Classical.byContradiction fun hn => ?_
  have := nd_le2 (l := m :: D) (k := List.range n) (List.nodup_cons.2 ⟨hn, h.nd⟩) fun y hy => by
    rcases List.mem_cons.1 hy with rfl | hy
    · exact List.mem_range.2 hm
    · exact List.mem_range.2 (h.lt y hy)
  rw [List.length_cons, List.length_range] at this
  omega
theorem Tp.done (h : Tp E n D) (hl : D.length = n) (hE : ∀ a b, E a b → a < n ∧ b < n) : ∀ k a, 1 ≤ k → ¬ Wk E k a a := by
  intro k a hk hw
  obtain ⟨j, rfl⟩ : ∃ j, k = j + 1 := ⟨k - 1, by omega⟩
  have ha : a < n := by
    obtain ⟨c, h1, _⟩ := hw
    exact (hE _ _ h1).1
  obtain ⟨D1, D2, e⟩ := List.append_of_mem (h.all hl ha)
  have h1 := h.walk hw D1 D2 e
  have h2 := h.nd
  rw [e, List.nodup_append] at h2
  exact h2.2.2 a h1 a (List.mem_cons_self ..) rfl
end
end Sg
end
