/-
  A part of the walk of the program.
-/
import Derived.Test.YtbnllchicnmkiaaGreatDoorPl9
section
set_option linter.unusedVariables false
set_option linter.unusedSimpArgs false
set_option maxRecDepth 100000
namespace Go.Proofs.YtbnllchicnmkiaaGreatDoor
open Go Go.RowKit Sg
theorem ce36 : Sg.Callee Tryz.prog 36 := ⟨_, Tryz.func36, by decide, rfl⟩
theorem ce66 : Sg.Callee Tryz.prog 66 := ⟨_, Tryz.func66, by decide, rfl⟩
theorem ce61 : Sg.Callee Tryz.prog 61 := ⟨_, Tryz.func61, by decide, rfl⟩
theorem ce93 : Sg.Callee Tryz.prog 93 := ⟨_, Tryz.func93, by decide, rfl⟩
theorem ce63 : Sg.Callee Tryz.prog 63 := ⟨_, Tryz.func63, by decide, rfl⟩
theorem ce65 : Sg.Callee Tryz.prog 65 := ⟨_, Tryz.func65, by decide, rfl⟩
theorem fd85_0 : Sg.Fld Tryz.prog 85 0 0 := ⟨_, _, _, rfl, rfl, rfl, rfl, by decide⟩
theorem ce62 : Sg.Callee Tryz.prog 62 := ⟨_, Tryz.func62, by decide, rfl⟩
theorem ag25 : Sg.Aggr Tryz.prog 25 6 := ⟨⟨_, rfl, trivial⟩, _, rfl, rfl⟩
theorem el25 : Sg.Elem Tryz.prog 25 6 (.agg #[.int .i64 0, .bool false, .slice none 0 0, .int .i64 0, .int .i64 0, .slice none 0 0]) 80 := ⟨_, rfl, rfl, rfl, rfl⟩
theorem el22 : Sg.Elem Tryz.prog 22 1 (.slice none 0 0) 24 := ⟨_, rfl, rfl, rfl, rfl⟩
theorem el23 : Sg.Elem Tryz.prog 23 1 (.slice none 0 0) 24 := ⟨_, rfl, rfl, rfl, rfl⟩
theorem fd25_1 : Sg.Fld Tryz.prog 25 1 1 := ⟨_, _, _, rfl, rfl, rfl, rfl, by decide⟩
theorem ce64 : Sg.Callee Tryz.prog 64 := ⟨_, Tryz.func64, by decide, rfl⟩
theorem ce39 : Sg.Callee Tryz.prog 39 := ⟨_, Tryz.func39, by decide, rfl⟩
set_option maxHeartbeats 6400000 in
theorem anomaly_ok (B p : Nat) (ts : List Tok) (w : World) (h : PS B p ts w) :
  Sg.RetP Tryz.prog 64 #[.pointer (some ⟨p, 0, none⟩)] w (fun v w' => ∃ a r es, panm fP ts = some (a, r) ∧ v = .agg es.toArray ∧ es.length = 9 ∧ RAn (Mine [85] w.heap.size w') w' es a ∧ PS B p r w' ∧ Ch (fun j => j = p) w w') (fun v w' => panm fP ts = none ∧ v = wrg ∧ Ch (fun j => j = p) w w') := by
 have hBw := h.2.1
 have hpB := h.1
 refine enterPG (n := 75) (l := [.pointer (some ⟨p, 0, none⟩)]) Tryz.func64 rfl rfl rfl rfl ?_
 refine W.g1 0 (v1 := .pointer (some ⟨p, 0, none⟩)) rfl ?_; intro σ s0
 refine W.seq ?_
 refine W.region ?_
 refine WL.alloc el67 rfl ?_
 intro w1 u0_0; have hu0_0 := u0_0.at_; have cu0_0 := u0_0.ch; have zu0_0 := u0_0.size
 refine WL.e2 Nx.thn 0 2 (lt rfl (s0)) (lh) ?_
 intro σ1 s0 s2
 refine W.seq ?_
 refine W.region ?_
 refine WL.x (X.mv (s0)) rfl ?_
 refine WL.callP2 ce60 (lh) lc (word_ok B p ts wAnomaly w1 (h.ch0 cu0_0)) rfl (by rintro v w' ⟨hn, rfl, cx⟩; exact ⟨_, rfl, bind_none (tok_no hn), rfl, (cu0_0.trans0 cx).trans (Ch.refl (fun j => j = p) _) (fun _ _ e => e.elim) (fun _ _ e => e)⟩) ?_
 rintro _ w2 ⟨hs1, rfl, hps, c1⟩
 have hgo := bind_eq (f := fun _ => pbind (pword fP.kind) anK1) (tok_go hs1)
 have hgo : panm fP ts = _ := hgo
 refine WL.e2 Nx.thn 0 2 (jt2 rfl (s0)) (jt2 rfl (s2)) ?_
 intro σ2 s0 s2
 refine W.seq ?_
 refine W.region ?_
 refine WL.call0 ce36  (kinds_ok w2) rfl ?_
 rintro _ w3 ⟨rfl, ck⟩
 refine WL.alloc el81 rfl ?_
 intro w4 u2_1; have hu2_1 := u2_1.at_; have cu2_1 := u2_1.ch; have zu2_1 := u2_1.size
 refine WL.storeS (vs := (no :: KWS).map Value.string) ag81 (lh) (lt rfl (lh)) rfl rfl hu2_1 (by decide) ?_
 intro w5 us
 have hall : w5.heap[(_ : Nat)]? = some (Obj.cells (tabV (no :: KWS)) 81 (0, 0)) := us.at_
 have cs2 := us.ch
 obtain ⟨oa, hoa⟩ : ∃ oa, oa = w3.heap.size := ⟨_, rfl⟩
 have zc1 := c1.size
 have zc2 := ck.size
 have z00 := lt_of_blk hu0_0
 have hcA : Ch (fun j => j = p) w w5 := (((cu0_0.trans c1 (H := fun j => j = p) (fun _ _ e => e.elim) (fun _ _ e => e)).trans ck (H := fun j => j = p) (fun _ _ e => e) (fun _ _ e => e.elim)).trans cu2_1 (H := fun j => j = p) (fun _ _ e => e) (fun _ _ e => e.elim)).trans cs2 (H := fun j => j = p) (fun _ _ e => e) (fun j hj e => by ((try dsimp only at e); omega))
 have hrb0 := cs2.at (cu2_1.at0 (ck.at0 (c1.at hu0_0 (fun e => by (try dsimp only at e); omega)))) (fun e => by (try dsimp only at e); omega)
 obtain ⟨rb, hrb⟩ : ∃ rb, rb = w.heap.size := ⟨_, rfl⟩
 rw [← hrb] at hrb0 s2
 replace hps := ((hps.ch0 ck).ch0 cu2_1).own cs2 (fun j hj e => by (try dsimp only at e); omega)
 rw [← hoa] at hall ⊢
 obtain ⟨r1, hr1⟩ : ∃ r1, r1 = ts.tail := ⟨_, rfl⟩
 rw [← hr1] at hps hgo
 have zoa := lt_of_blk hall
 have zrb := lt_of_blk hrb0
 refine WL.e3 Nx.thn 0 2 3 (jt2 rfl (s0)) (jt2 rfl (s2)) (lh) ?_
 intro σ3 s0 s2 s3
 have qo1 := s0
 have qo2 := s2
 refine W.seqJ (fun σ' w' => (σ' 0 = σ3 0 ∧ σ' 2 = σ3 2 ∧ True) ∧ ∃ (ob : Nat) (kd : Int) (r : List Tok), σ' 4 = .pointer (some ⟨ob, 0, none⟩) ∧ OV p 67 ob rb w w' #[.int .i64 kd, .int .i64 0, .int .i64 0, .int .i64 0, .string ⟨#[]⟩, .int .i64 0, .slice none 0 0, .bool false, .int .i64 0] ∧ PS B p r w' ∧ panm fP ts = anK1 kd r) ?_ ?_
 ·
  refine W.held (fun w' => Ch (fun j => j = p) w5 w') mo ?_
  intro w6 qhh3 qc4
  have hS : Ch (fun j => j = p) w5 w6 := Ch.weak qc4
  have hzqc4 := qc4.size
  have cdh3 := qc4
  replace hps := hps.ch0 cdh3
  replace hall := cdh3.at0 hall
  replace hrb0 := cdh3.at0 hrb0
  replace hcA := hcA.trans cdh3 (H := fun j => j = p) (fun _ _ e => e) (fun j hj e => by exact e.elim)
  refine WH.takeP 0 rfl (by kernel_rfl) (by kernel_rfl) (by kernel_rfl) (fun _ _ _ _ _ h => h) Gd.none rfl (fun w' hS' => X.slArr (len := 12) Tryz.underlying81 el9 (s3)) hS ?_
  refine WH.takeP 1 rfl (by kernel_rfl) (by kernel_rfl) (by kernel_rfl) (fun _ _ _ _ _ h => h) Gd.none rfl (fun w' hS' => X.mv (lt rfl (s0))) hS ?_
  refine WH.two 2 5 rfl rfl (by kernel_rfl) (fun _ _ h => h) ?_ ?_
  ·
   refine WL.callP2 ce60 (lh) lc (word_ok B p r1 no w6 hps) rfl (by rintro v w' ⟨hn, rfl, cx⟩; exact ⟨_, rfl, hgo.trans (bind_none (word_no hn)), rfl, hcA.trans cx (H := fun j => j = p) (fun _ _ e => e) (fun j hj e => by exact e.elim)⟩) ?_
   rintro _ w7 ⟨hs3, rfl, hps, c3⟩
   try replace hal := c3.at hal (fun e => by (try dsimp only at e); omega)
   replace hall := c3.at hall (fun e => by (try dsimp only at e); omega)
   replace hrb0 := c3.at hrb0 (fun e => by (try dsimp only at e); omega)
   replace hcA := hcA.trans c3 (H := fun j => j = p) (fun _ _ e => e) (fun j hj e => by ((try dsimp only at e); omega))
   have hS := hS.trans c3 (fun _ _ => id) (by intro i hi hg; exact hg)
   refine WL.nil Nx.thn ⟨hS, ?_⟩
   refine WH.two 3 5 rfl rfl (by kernel_rfl) (fun _ _ h => h) ?_ ?_
   ·
    refine WL.call2 ce66 (jt2 rfl (lh)) (lh) (sidx_ok oa 12 12 81 (no :: KWS) (hdX r1) w7 rfl hall (by decide)) rfl ?_
    rintro _ _ ⟨rfl, rfl⟩
    refine WL.nil Nx.thn ⟨hS, ?_⟩
    refine WH.takeP 4 rfl (by kernel_rfl) (by kernel_rfl) (by kernel_rfl) (fun _ _ _ _ _ h => h) Gd.none rfl (fun w' hS' => X.build bd67 (pcons (lh) pnil) rfl (rfl : _ = [_, _, _, _, _, _, _, _, _])) hS ?_
    refine WH.one 5 rfl (by kernel_rfl) (fun _ _ h => h) ?_
    have z9a := lt_of_blk hrb0
    have z9c := hcA.size
    have z9p := hps.2.1
    have z9d := hS.size
    refine WL.alloc el67 rfl ?_
    intro w8 u9
    have hal := u9.at_
    have cal := u9.ch
    have zal := u9.size
    replace hps := hps.ch0 cal
    replace hall := cal.at0 hall
    replace hrb0 := cal.at0 hrb0
    replace hcA := hcA.trans cal (H := fun j => j = p) (fun _ _ e => e) (fun j hj e => by exact e.elim)
    have hS := hS.trans cal (fun _ _ => id) (by intro i hi hg; exact False.elim hg)
    refine WL.nil Nx.thn ⟨hS, ?_⟩
    refine WH.one 6 rfl (by kernel_rfl) (fun _ _ h => h) ?_
    refine WL.storeS (vs := [.int .i64 (kindV (hdX r1)), .int .i64 0, .int .i64 0, .int .i64 0, .string ⟨#[]⟩, .int .i64 0, .slice none 0 0, .bool false, .int .i64 0]) ag67 (lh) (lt rfl (lh)) rfl rfl hal (by decide) ?_
    intro w9 us
    have hob9 := us.at_
    have cs6 := us.ch
    have hS := hS.trans cs6 (fun _ _ => id) (by intro i hi hg; omega)
    refine WL.nil Nx.thn ⟨hS, ?_⟩
    refine WH.done (by kernel_rfl) ?_
    refine WL.e3 Nx.thn 0 2 4 (jt4 rfl (jt2 rfl (s0))) (jt4 rfl (jt2 rfl (s2))) (lh) ?_
    intro σ4 s0 s2 s4
    refine ⟨⟨s0.trans qo1.symm, s2.trans qo2.symm, trivial⟩, _, kindV (hdX r1), r1.tail, s4, ⟨hob9, ⟨_, cs6.at hrb0 (fun e => by (try dsimp only at e); omega), rfl⟩, hcA.trans cs6 (H := fun j => j = p) (fun _ _ e => e) (fun j hj e => by ((try dsimp only at e); omega)), by omega, by omega, by omega, by omega⟩, hps.own cs6 (fun j hj e => by (try dsimp only at e); omega), hgo.trans (bind_eq (kind_go hs3))⟩
   ·
    have z9a := lt_of_blk hrb0
    have z9c := hcA.size
    have z9p := hps.2.1
    have z9d := hS.size
    refine WL.alloc el67 rfl ?_
    intro w10 u9
    have hal := u9.at_
    have cal := u9.ch
    have zal := u9.size
    replace hps := hps.ch0 cal
    replace hall := cal.at0 hall
    replace hrb0 := cal.at0 hrb0
    replace hcA := hcA.trans cal (H := fun j => j = p) (fun _ _ e => e) (fun j hj e => by exact e.elim)
    have hS := hS.trans cal (fun _ _ => id) (by intro i hi hg; exact False.elim hg)
    refine WL.nil Nx.thn ⟨hS, ?_⟩
    refine WH.one 3 rfl (by kernel_rfl) (fun _ _ h => h) ?_
    refine WL.call2 ce66 (jt2 rfl (lt rfl (lh))) (lt rfl (lh)) (sidx_ok oa 12 12 81 (no :: KWS) (hdX r1) w10 rfl hall (by decide)) rfl ?_
    rintro _ _ ⟨rfl, rfl⟩
    refine WL.nil Nx.thn ⟨hS, ?_⟩
    refine WH.takeP 4 rfl (by kernel_rfl) (by kernel_rfl) (by kernel_rfl) (fun _ _ _ _ _ h => h) Gd.none rfl (fun w' hS' => X.build bd67 (pcons (lh) pnil) rfl (rfl : _ = [_, _, _, _, _, _, _, _, _])) hS ?_
    refine WH.one 6 rfl (by kernel_rfl) (fun _ _ h => h) ?_
    refine WL.storeS (vs := [.int .i64 (kindV (hdX r1)), .int .i64 0, .int .i64 0, .int .i64 0, .string ⟨#[]⟩, .int .i64 0, .slice none 0 0, .bool false, .int .i64 0]) ag67 (jt2 rfl (lh)) (lh) rfl rfl hal (by decide) ?_
    intro w11 us
    have hob9 := us.at_
    have cs6 := us.ch
    have hS := hS.trans cs6 (fun _ _ => id) (by intro i hi hg; omega)
    refine WL.nil Nx.thn ⟨hS, ?_⟩
    refine WH.done (by kernel_rfl) ?_
    refine WL.e3 Nx.thn 0 2 4 (jt4 rfl (jt2 rfl (s0))) (jt4 rfl (jt2 rfl (s2))) (jt2 rfl (lh)) ?_
    intro σ5 s0 s2 s4
    refine ⟨⟨s0.trans qo1.symm, s2.trans qo2.symm, trivial⟩, _, kindV (hdX r1), r1.tail, s4, ⟨hob9, ⟨_, cs6.at hrb0 (fun e => by (try dsimp only at e); omega), rfl⟩, hcA.trans cs6 (H := fun j => j = p) (fun _ _ e => e) (fun j hj e => by ((try dsimp only at e); omega)), by omega, by omega, by omega, by omega⟩, hps.own cs6 (fun j hj e => by (try dsimp only at e); omega), hgo.trans (bind_eq (kind_go hs3))⟩
  ·
   have z9a := lt_of_blk hrb0
   have z9c := hcA.size
   have z9p := hps.2.1
   have z9d := hS.size
   refine WL.alloc el67 rfl ?_
   intro w12 u9
   have hal := u9.at_
   have cal := u9.ch
   have zal := u9.size
   replace hps := hps.ch0 cal
   replace hall := cal.at0 hall
   replace hrb0 := cal.at0 hrb0
   replace hcA := hcA.trans cal (H := fun j => j = p) (fun _ _ e => e) (fun j hj e => by exact e.elim)
   have hS := hS.trans cal (fun _ _ => id) (by intro i hi hg; exact False.elim hg)
   refine WL.nil Nx.thn ⟨hS, ?_⟩
   refine WH.one 2 rfl (by kernel_rfl) (fun _ _ h => h) ?_
   refine WL.callP2 ce60 (lt rfl (lh)) lc (word_ok B p r1 no w12 hps) rfl (by rintro v w' ⟨hn, rfl, cx⟩; exact ⟨_, rfl, hgo.trans (bind_none (word_no hn)), rfl, hcA.trans cx (H := fun j => j = p) (fun _ _ e => e) (fun j hj e => by exact e.elim)⟩) ?_
   rintro _ w13 ⟨hs3, rfl, hps, c3⟩
   try replace hal := c3.at hal (fun e => by (try dsimp only at e); omega)
   replace hall := c3.at hall (fun e => by (try dsimp only at e); omega)
   replace hrb0 := c3.at hrb0 (fun e => by (try dsimp only at e); omega)
   replace hcA := hcA.trans c3 (H := fun j => j = p) (fun _ _ e => e) (fun j hj e => by ((try dsimp only at e); omega))
   have hS := hS.trans c3 (fun _ _ => id) (by intro i hi hg; exact hg)
   refine WL.nil Nx.thn ⟨hS, ?_⟩
   refine WH.one 3 rfl (by kernel_rfl) (fun _ _ h => h) ?_
   refine WL.call2 ce66 (jt2 rfl (lt rfl (lh))) (lh) (sidx_ok oa 12 12 81 (no :: KWS) (hdX r1) w13 rfl hall (by decide)) rfl ?_
   rintro _ _ ⟨rfl, rfl⟩
   refine WL.nil Nx.thn ⟨hS, ?_⟩
   refine WH.takeP 4 rfl (by kernel_rfl) (by kernel_rfl) (by kernel_rfl) (fun _ _ _ _ _ h => h) Gd.none rfl (fun w' hS' => X.build bd67 (pcons (lh) pnil) rfl (rfl : _ = [_, _, _, _, _, _, _, _, _])) hS ?_
   refine WH.one 6 rfl (by kernel_rfl) (fun _ _ h => h) ?_
   refine WL.storeS (vs := [.int .i64 (kindV (hdX r1)), .int .i64 0, .int .i64 0, .int .i64 0, .string ⟨#[]⟩, .int .i64 0, .slice none 0 0, .bool false, .int .i64 0]) ag67 (jt2 rfl (lt rfl (lh))) (lh) rfl rfl hal (by decide) ?_
   intro w14 us
   have hob9 := us.at_
   have cs6 := us.ch
   have hS := hS.trans cs6 (fun _ _ => id) (by intro i hi hg; omega)
   refine WL.nil Nx.thn ⟨hS, ?_⟩
   refine WH.done (by kernel_rfl) ?_
   refine WL.e3 Nx.thn 0 2 4 (jt4 rfl (jt2 rfl (s0))) (jt4 rfl (jt2 rfl (s2))) (jt2 rfl (lt rfl (lh))) ?_
   intro σ6 s0 s2 s4
   refine ⟨⟨s0.trans qo1.symm, s2.trans qo2.symm, trivial⟩, _, kindV (hdX r1), r1.tail, s4, ⟨hob9, ⟨_, cs6.at hrb0 (fun e => by (try dsimp only at e); omega), rfl⟩, hcA.trans cs6 (H := fun j => j = p) (fun _ _ e => e) (fun j hj e => by ((try dsimp only at e); omega)), by omega, by omega, by omega, by omega⟩, hps.own cs6 (fun j hj e => by (try dsimp only at e); omega), hgo.trans (bind_eq (kind_go hs3))⟩
 ·
  rintro σ7 w15 ⟨⟨f0, f2, _⟩, ob, kd, r, s4, hov, hps, hgo⟩
  have s0 := f0.trans qo1
  have s2 := f2.trans qo2
  refine W.seq ?_
  refine W.region ?_
  refine WL.x (X.mv (s0)) rfl ?_
  refine WL.x (X.fieldAddr fd67_1 (lt rfl (s4))) rfl ?_
  refine WL.x (X.fieldAddr fd67_2 (jt2 rfl (s4))) rfl ?_
  refine WL.x (X.fieldAddr fd67_3 (jt2 rfl (lt rfl (s4)))) rfl ?_
  refine WL.bslice Tryz.underlying133 el105 rfl (pcons (jt2 rfl (lh)) (pcons (lt rfl (lh)) (pcons (lh) pnil))) rfl (rfl : _ = [_, _, _]) rfl ?_
  intro w16 u4_4; have hu4_4 := u4_4.at_; have cu4_4 := u4_4.ch; have zu4_4 := u4_4.size
  have hlo9 := hov.2.2.2.1
  refine WL.callP2 ce61 (jt4 rfl (lh)) (lh) (numbers_ok B p _ ob _ _ 67 #[.int .i64 kd, .int .i64 0, .int .i64 0, .int .i64 0, .string ⟨#[]⟩, .int .i64 0, .slice none 0 0, .bool false, .int .i64 0] [1, 2, 3] r w16 (hps.ch0 cu4_4) rfl hu4_4 (cu4_4.at0 hov.1) (by omega) (by have h9 := lt_of_blk hov.1; omega) rfl (by decide)) rfl (by rintro v w' ⟨hn, rfl, cx⟩; exact ⟨_, rfl, hgo.trans (num3_no hn _), rfl, (hov.ch0 cu4_4).end2 cx⟩) ?_
  rintro _ w17 ⟨l4, r4, hl4, hob4, hin4, hps, c4⟩
  replace hov := hov.ch0 cu4_4
  obtain ⟨n1, n2, n3, rfl, hK4⟩ := num3_go (β := QAn) hl4
  replace hgo := hgo.trans (hK4 _)
  have hov : OV p 67 ob rb w w17 #[.int .i64 kd, .int .i64 n1, .int .i64 n2, .int .i64 n3, .string ⟨#[]⟩, .int .i64 0, .slice none 0 0, .bool false, .int .i64 0] := hov.put2 hob4 c4 rfl
  have i1 := hin4 n1 (by simp)
  have i2 := hin4 n2 (by simp)
  have i3 := hin4 n3 (by simp)
  refine WL.e3 Nx.thn 0 2 4 (jt4 rfl (jt2 rfl (s0))) (jt4 rfl (jt2 rfl (s2))) (jt4 rfl (jt2 rfl (s4))) ?_
  intro σ8 s0 s2 s4
  refine W.seq ?_
  refine W.region ?_
  refine WL.x (X.mv (s0)) rfl ?_
  refine WL.callP1 ce93 (lh) (key_ok B p r4 w17 hps) rfl (by rintro v w' ⟨hn, rfl, cx⟩; exact ⟨_, rfl, hgo.trans (bind_none hn), rfl, (hov.call cx).2.2.1⟩) ?_
  rintro _ w18 ⟨kx, r5, hk5, rfl, hkz, hps, c5⟩
  replace hov := hov.call c5
  replace hgo := hgo.trans (bind_eq hk5)
  refine WL.x (X.fieldAddr fd67_4 (jt2 rfl (s4))) rfl ?_
  refine WL.store el9 (lh) (lt rfl (lh)) rfl hov.1 (show 0 + 4 < 9 by decide) ?_
  intro w19 us
  have hob9 := hov.lt
  have hlo9 := hov.2.2.2.1
  have hov9 := hov
  replace hov : OV p 67 ob rb w w19 #[.int .i64 kd, .int .i64 n1, .int .i64 n2, .int .i64 n3, .string kx, .int .i64 0, .slice none 0 0, .bool false, .int .i64 0] := hov.put us.at_ us.ch rfl
  replace hps := hps.own us.ch (fun j hj e => by (try dsimp only at e); omega)
  have cus := us.ch
  
  refine WL.e3 Nx.thn 0 2 4 (jt2 rfl (lt rfl (s0))) (jt2 rfl (lt rfl (s2))) (jt2 rfl (lt rfl (s4))) ?_
  intro σ9 s0 s2 s4
  refine W.seq ?_
  refine W.region ?_
  refine WL.x (X.mv (s0)) rfl ?_
  refine WL.x (X.fieldAddr fd67_5 (lt rfl (s4))) rfl ?_
  refine WL.bslice Tryz.underlying133 el105 rfl (pcons (lh) pnil) rfl (rfl : _ = [_]) rfl ?_
  intro w20 u6_2; have hu6_2 := u6_2.at_; have cu6_2 := u6_2.ch; have zu6_2 := u6_2.size
  have hlo9 := hov.2.2.2.1
  refine WL.callP2 ce61 (jt2 rfl (lh)) (lh) (numbers_ok B p _ ob _ _ 67 #[.int .i64 kd, .int .i64 n1, .int .i64 n2, .int .i64 n3, .string kx, .int .i64 0, .slice none 0 0, .bool false, .int .i64 0] [5] r5 w20 (hps.ch0 cu6_2) rfl hu6_2 (cu6_2.at0 hov.1) (by omega) (by have h9 := lt_of_blk hov.1; omega) rfl (by decide)) rfl (by rintro v w' ⟨hn, rfl, cx⟩; exact ⟨_, rfl, hgo.trans (num1_no hn _), rfl, (hov.ch0 cu6_2).end2 cx⟩) ?_
  rintro _ w21 ⟨l6, r6, hl6, hob6, hin6, hps, c6⟩
  replace hov := hov.ch0 cu6_2
  obtain ⟨n4, rfl, hK6⟩ := num1_go (β := QAn) hl6
  replace hgo := hgo.trans (hK6 _)
  have hov : OV p 67 ob rb w w21 #[.int .i64 kd, .int .i64 n1, .int .i64 n2, .int .i64 n3, .string kx, .int .i64 n4, .slice none 0 0, .bool false, .int .i64 0] := hov.put2 hob6 c6 rfl
  have i4 := hin6 n4 (by simp)
  refine WL.e3 Nx.thn 0 2 4 (jt4 rfl (s0)) (jt4 rfl (s2)) (jt4 rfl (s4)) ?_
  intro σ10 s0 s2 s4
  refine W.seq ?_
  refine W.region ?_
  refine WL.x (X.mv (s0)) rfl ?_
  refine WL.callP3 ce63 (lh) lc lc (which_ok B p r6 wReal wPlain w21 hps (by decide) (by decide)) rfl (by rintro v w' ⟨hn, rfl, cx⟩; exact ⟨_, rfl, hgo.trans (bind_none hn), rfl, (hov.ch0 cx).2.2.1⟩) ?_
  rintro _ w22 ⟨re, r7, hk7, rfl, hps, c7⟩
  replace hov := hov.call c7
  replace hgo := hgo.trans (bind_eq hk7)
  refine WL.x (X.fieldAddr fd67_7 (jt2 rfl (s4))) rfl ?_
  refine WL.store el4 (lh) (lt rfl (lh)) rfl hov.1 (show 0 + 7 < 9 by decide) ?_
  intro w23 us
  have hob9 := hov.lt
  have hlo9 := hov.2.2.2.1
  have hov9 := hov
  replace hov : OV p 67 ob rb w w23 #[.int .i64 kd, .int .i64 n1, .int .i64 n2, .int .i64 n3, .string kx, .int .i64 n4, .slice none 0 0, .bool re, .int .i64 0] := hov.put us.at_ us.ch rfl
  replace hps := hps.own us.ch (fun j hj e => by (try dsimp only at e); omega)
  have cus := us.ch
  
  refine WL.e3 Nx.thn 0 2 4 (jt2 rfl (lt rfl (s0))) (jt2 rfl (lt rfl (s2))) (jt2 rfl (lt rfl (s4))) ?_
  intro σ11 s0 s2 s4
  refine W.seq ?_
  refine W.region ?_
  refine WL.x (X.mv (s0)) rfl ?_
  refine WL.callP1 ce65 (lh) (level_ok B p r7 w23 hps) rfl (by rintro v w' ⟨hn, rfl, cx⟩; exact ⟨_, rfl, hgo.trans (bind_none hn), rfl, (hov.call cx).2.2.1⟩) ?_
  rintro _ w24 ⟨lvl, r8, hk8, rfl, hps, c8⟩
  replace hov := hov.call c8
  replace hgo := hgo.trans (bind_eq hk8)
  refine WL.x (X.fieldAddr fd67_8 (jt2 rfl (s4))) rfl ?_
  refine WL.store el3 (lh) (lt rfl (lh)) rfl hov.1 (show 0 + 8 < 9 by decide) ?_
  intro w25 us
  have hob9 := hov.lt
  have hlo9 := hov.2.2.2.1
  have hov9 := hov
  replace hov : OV p 67 ob rb w w25 #[.int .i64 kd, .int .i64 n1, .int .i64 n2, .int .i64 n3, .string kx, .int .i64 n4, .slice none 0 0, .bool re, .int .i64 lvl] := hov.put us.at_ us.ch rfl
  replace hps := hps.own us.ch (fun j hj e => by (try dsimp only at e); omega)
  have cus := us.ch
  obtain ⟨wl, hwl0⟩ : ∃ wl, wl = w25.heap.size := ⟨_, rfl⟩
  have hobz := hov.lt
  have hobl : ob < wl ∧ rb < wl := by omega
  have hloz := hov.2.2.2.1
  refine WL.e3 Nx.thn 0 2 4 (jt2 rfl (lt rfl (s0))) (jt2 rfl (lt rfl (s2))) (jt2 rfl (lt rfl (s4))) ?_
  intro σ12 s0 s2 s4
  refine W.seq ?_
  refine W.block ?_
  have qo5 := s0
  have qo6 := s2
  have qo7 := s4
  -- loop 0: kept [0, 2, 4], varied []
  refine W.loop (G := List Tok) (fun rr σ' w' => (σ' 0 = σ12 0 ∧ σ' 2 = σ12 2 ∧ σ' 4 = σ12 4 ∧ True) ∧ (∃ acc lv, OV p 67 ob rb w w' #[.int .i64 kd, .int .i64 n1, .int .i64 n2, .int .i64 n3, .string kx, .int .i64 n4, lv, .bool re, .int .i64 lvl] ∧ PS B p rr w' ∧ ORow 8 RWhy (fun _ => False) w' wl 85 lv acc ∧ panm fP ts = pbind (pmany (fun ts => seesB ts 3 (mk1 91)) (pwhy fP)) (fun l => anK2 kd n1 n2 n3 kx n4 re lvl (acc ++ l)) rr ∧ acc.length + rr.length ≤ 20000 ∧ wl ≤ w'.heap.size)) (fun rr => rr.length) (r8) ⟨⟨rfl, rfl, rfl, trivial⟩, [], .slice none 0 0, hov, hps, ORow.nil, hgo, (by rw [List.length_nil, Nat.zero_add]; exact hps.len), by omega⟩ ?_
  rintro rr σ13 w26 ⟨⟨f0, f2, f4, _⟩, acc, lv, hov, hps, hrow, hgo, h20, hwl⟩
  have s0 := f0.trans qo5
  have s2 := f2.trans qo6
  have s4 := f4.trans qo7
  refine W.seq ?_
  refine W.seq ?_
  refine W.region ?_
  refine WL.x (X.mv (s0)) rfl ?_
  refine WL.call3 ce58 (lh) lc lc (sees_ok B p rr 3 (mk1 91) w26 hps) rfl ?_
  rintro _ _ ⟨rfl, rfl⟩
  refine WL.e4 Nx.thn 0 2 4 34 (jt2 rfl (s0)) (jt2 rfl (s2)) (jt2 rfl (s4)) (lh) ?_
  intro σ14 s0 s2 s4 s34
  refine W.cnd s34 (fun hs9 => ?_) (fun hs9 => ?_)
  ·
   obtain ⟨la, lcp, rfl⟩ := orow_form hrow
   have hov0 := hov
   have hgW : pwhy fP rr = pwhy fP rr := rfl
   obtain ⟨wr, hwr⟩ : ∃ wr, wr = w26 := ⟨_, rfl⟩
   have hobz := hov.lt
   have hloz := hov.2.2.2.1
   refine W.skip Nx.thn ?_
   refine W.block ?_
   refine W.seq ?_
   refine W.region ?_
   refine WL.alloc el85 rfl ?_
   intro w27 u9
   obtain ⟨ow, how⟩ : ∃ ow, ow = w26.heap.size := ⟨_, rfl⟩
   rw [← how]
   have hwv : w27.heap[ow]? = some (.cells #[.int .i64 0, .int .i64 0, .int .i64 0, .string ⟨#[]⟩, .int .i64 0, .int .i64 0, .bool false, .bool false] 85 (0, 0)) := by rw [how]; exact u9.at_
   have cal := u9.ch
   have hBo : B ≤ ow := by rw [how]; exact hps.2.1
   replace hps := hps.ch0 cal
   have hR : Ch (fun j => j = p) wr w27 := by rw [hwr]; exact cal.trans (Ch.refl (fun j => j = p) _) (fun _ _ e => e.elim) (fun _ _ e => e)
   have hrz : wr.heap.size = ow := by rw [hwr, how]
   rw [← hwr] at hov hrow hobz
   refine WL.e4 Nx.thn 0 2 4 5 (lt rfl (s0)) (lt rfl (s2)) (lt rfl (s4)) (lh) ?_
   intro σ15 s0 s2 s4 s5
   refine W.seq ?_
   refine W.region ?_
   refine WL.x (X.mv (s0)) rfl ?_
   refine WL.callP2 ce67 (lh) lc (mark_ok B p rr (mk1 91) w27 hps) rfl (by rintro v w' ⟨hn, rfl, cx⟩; rw [hs9] at hn; cases hn) ?_
   rintro _ w28 ⟨hs11, hps, c11⟩
   replace hgW := hgW.trans (bind_eq (tok_go hs11))
   replace hwv := c11.at hwv (fun e => by (try dsimp only at e); omega)
   replace hR := hR.trans c11 (H := fun j => j = p) (fun _ _ e => e) (fun j hj e => by ((try dsimp only at e); omega))
   obtain ⟨r11, hr11⟩ : ∃ r11, r11 = rr.tail := ⟨_, rfl⟩
   rw [← hr11] at hgW hps
   refine WL.e4 Nx.thn 0 2 4 5 (jt2 rfl (s0)) (jt2 rfl (s2)) (jt2 rfl (s4)) (jt2 rfl (s5)) ?_
   intro σ16 s0 s2 s4 s5
   refine W.seq ?_
   refine W.region ?_
   refine WL.x (X.mv (s0)) rfl ?_
   refine WL.x (X.fieldAddr fd85_0 (lt rfl (s5))) rfl ?_
   refine WL.bslice Tryz.underlying133 el105 rfl (pcons (lh) pnil) rfl (rfl : _ = [_]) rfl ?_
   intro w29 u12_2; have hu12_2 := u12_2.at_; have cu12_2 := u12_2.ch; have zu12_2 := u12_2.size
   have zow := lt_of_blk hwv
   refine WL.callP2 ce61 (jt2 rfl (lh)) (lh) (numbers_ok B p _ ow _ _ 85 #[.int .i64 0, .int .i64 0, .int .i64 0, .string ⟨#[]⟩, .int .i64 0, .int .i64 0, .bool false, .bool false] [0] r11 w29 (hps.ch0 cu12_2) rfl hu12_2 (cu12_2.at0 hwv) (by omega) (by have h9 := lt_of_blk hwv; omega) rfl (by decide)) rfl (by rintro v w' ⟨hn, rfl, cx⟩; exact ⟨_, rfl, hgo.trans (many_fail rfl hs9 (hgW.trans (num1_no hn _))), rfl, (hov.call ((hR.trans cu12_2 (H := fun j => j = p) (fun _ _ e => e) (fun j hj e => by exact e.elim)).trans cx (H := fun j => j = p) (fun _ _ e => e) (fun j hj e => by ((try dsimp only at e); omega)))).2.2.1⟩) ?_
   rintro _ w30 ⟨l12, r12, hl12, hob12, hin12, hps, c12⟩
   obtain ⟨a1, rfl, hK12⟩ := num1_go (β := QWhy) hl12
   replace hgW := hgW.trans (hK12 _)
   have hwv : w30.heap[ow]? = some (.cells #[.int .i64 a1, .int .i64 0, .int .i64 0, .string ⟨#[]⟩, .int .i64 0, .int .i64 0, .bool false, .bool false] 85 (0, 0)) := hob12
   have j1 := hin12 a1 (by simp)
   replace hR := hR.trans cu12_2 (H := fun j => j = p) (fun _ _ e => e) (fun j hj e => by exact e.elim)
   replace hR := hR.trans c12 (H := fun j => j = p) (fun _ _ e => e) (fun j hj e => by ((try dsimp only at e); omega))
   refine WL.e4 Nx.thn 0 2 4 5 (jt4 rfl (s0)) (jt4 rfl (s2)) (jt4 rfl (s4)) (jt4 rfl (s5)) ?_
   intro σ17 s0 s2 s4 s5
   refine W.seq ?_
   refine W.region ?_
   refine WL.call0 ce81  (labels_ok w30) rfl ?_
   rintro _ w31 ⟨bm, rfl, hms, hbm, cl⟩
   have zB := hps.2.1
   replace hwv := cl.at0 hwv
   have hps0 := hps.ch0 cl
   have zcl := cl.size
   have zow := lt_of_blk hwv
   have zbm := hms.lt
   replace hR := hR.trans cl (H := fun j => j = p) (fun _ _ e => e) (fun j hj e => by exact e.elim)
   refine WL.x (X.mv (lt rfl (s0))) rfl ?_
   refine WL.callP2 ce60 (lh) lc (word_ok B p r12 no w31 hps0) rfl (by rintro v w' ⟨hn, rfl, cx⟩; exact ⟨_, rfl, hgo.trans (many_fail rfl hs9 (hgW.trans (bind_none (word_no hn)))), rfl, (hov.call (hR.trans cx (H := fun j => j = p) (fun _ _ e => e) (fun j hj e => by exact e.elim))).2.2.1⟩) ?_
   rintro _ w32 ⟨hs13, rfl, hps, c13⟩
   replace hgW := hgW.trans (bind_eq (lab_go hs13))
   replace hwv := c13.at hwv (fun e => by (try dsimp only at e); omega)
   have zhp := hps0.2.1
   replace hR := hR.trans c13 (H := fun j => j = p) (fun _ _ e => e) (fun j hj e => by ((try dsimp only at e); omega))
   obtain ⟨r13, hr13⟩ : ∃ r13, r13 = r12.tail := ⟨_, rfl⟩
   rw [← hr13] at hgW hps
   refine WL.x (X.lookS Tryz.underlying124 Tryz.underlying9 Tryz.underlying3 el3 (jt2 rfl (lh)) (lh) (by have h9 := hps0.hdX_; unfold maxLen; omega) (hms.ch c13 (fun e => by (try dsimp only at e); omega))) rfl ?_
   refine WL.x (X.fieldAddr fd85_2 (jt4 rfl (s5))) rfl ?_
   obtain ⟨lb, hlb⟩ : ∃ lb, lb = labV (hdX r12) := ⟨_, rfl⟩
   rw [← hlb] at hgW
   refine WL.store el3 (lh) (show ev _ (.tmp _) = .int .i64 lb from by rw [hlb]; exact (lt rfl (lh))) rfl hwv (show 0 + 2 < 8 by decide) ?_
   intro w33 us
   have how9 := lt_of_blk hwv
   replace hwv : w33.heap[ow]? = some (.cells #[.int .i64 a1, .int .i64 0, .int .i64 lb, .string ⟨#[]⟩, .int .i64 0, .int .i64 0, .bool false, .bool false] 85 (0, 0)) := us.at_
   replace hps := hps.own us.ch (fun j hj e => by (try dsimp only at e); omega)
   have cus := us.ch
   replace hR := hR.trans us.ch (H := fun j => j = p) (fun _ _ e => e) (fun j hj e => by ((try dsimp only at e); omega))
   
   refine WL.e4 Nx.thn 0 2 4 5 (jt4 rfl (lt rfl (s0))) (jt4 rfl (lt rfl (s2))) (jt4 rfl (lt rfl (s4))) (jt4 rfl (lt rfl (s5))) ?_
   intro σ18 s0 s2 s4 s5
   refine W.seq ?_
   refine W.region ?_
   refine WL.x (X.mv (s0)) rfl ?_
   refine WL.x (X.fieldAddr fd85_1 (lt rfl (s5))) rfl ?_
   refine WL.bslice Tryz.underlying133 el105 rfl (pcons (lh) pnil) rfl (rfl : _ = [_]) rfl ?_
   intro w34 u14_2; have hu14_2 := u14_2.at_; have cu14_2 := u14_2.ch; have zu14_2 := u14_2.size
   have zow := lt_of_blk hwv
   refine WL.callP2 ce61 (jt2 rfl (lh)) (lh) (numbers_ok B p _ ow _ _ 85 #[.int .i64 a1, .int .i64 0, .int .i64 lb, .string ⟨#[]⟩, .int .i64 0, .int .i64 0, .bool false, .bool false] [1] r13 w34 (hps.ch0 cu14_2) rfl hu14_2 (cu14_2.at0 hwv) (by omega) (by have h9 := lt_of_blk hwv; omega) rfl (by decide)) rfl (by rintro v w' ⟨hn, rfl, cx⟩; exact ⟨_, rfl, hgo.trans (many_fail rfl hs9 (hgW.trans (num1_no hn _))), rfl, (hov.call ((hR.trans cu14_2 (H := fun j => j = p) (fun _ _ e => e) (fun j hj e => by exact e.elim)).trans cx (H := fun j => j = p) (fun _ _ e => e) (fun j hj e => by ((try dsimp only at e); omega)))).2.2.1⟩) ?_
   rintro _ w35 ⟨l14, r14, hl14, hob14, hin14, hps, c14⟩
   obtain ⟨a2, rfl, hK14⟩ := num1_go (β := QWhy) hl14
   replace hgW := hgW.trans (hK14 _)
   have hwv : w35.heap[ow]? = some (.cells #[.int .i64 a1, .int .i64 a2, .int .i64 lb, .string ⟨#[]⟩, .int .i64 0, .int .i64 0, .bool false, .bool false] 85 (0, 0)) := hob14
   have j2 := hin14 a2 (by simp)
   replace hR := hR.trans cu14_2 (H := fun j => j = p) (fun _ _ e => e) (fun j hj e => by exact e.elim)
   replace hR := hR.trans c14 (H := fun j => j = p) (fun _ _ e => e) (fun j hj e => by ((try dsimp only at e); omega))
   refine WL.e4 Nx.thn 0 2 4 5 (jt4 rfl (s0)) (jt4 rfl (s2)) (jt4 rfl (s4)) (jt4 rfl (s5)) ?_
   intro σ19 s0 s2 s4 s5
   refine W.seq ?_
   refine W.region ?_
   refine WL.x (X.mv (s0)) rfl ?_
   refine WL.callP1 ce93 (lh) (key_ok B p r14 w35 hps) rfl (by rintro v w' ⟨hn, rfl, cx⟩; exact ⟨_, rfl, hgo.trans (many_fail rfl hs9 (hgW.trans (bind_none hn))), rfl, (hov.call (hR.trans cx (H := fun j => j = p) (fun _ _ e => e) (fun j hj e => by ((try dsimp only at e); omega)))).2.2.1⟩) ?_
   rintro _ w36 ⟨ky, r15, hk15, rfl, hyz, hps, c15⟩
   replace hwv := c15.at hwv (fun e => by (try dsimp only at e); omega)
   replace hgW := hgW.trans (bind_eq hk15)
   replace hR := hR.trans c15 (H := fun j => j = p) (fun _ _ e => e) (fun j hj e => by ((try dsimp only at e); omega))
   refine WL.x (X.fieldAddr fd85_3 (jt2 rfl (s5))) rfl ?_
   refine WL.store el9 (lh) (lt rfl (lh)) rfl hwv (show 0 + 3 < 8 by decide) ?_
   intro w37 us
   have how9 := lt_of_blk hwv
   replace hwv : w37.heap[ow]? = some (.cells #[.int .i64 a1, .int .i64 a2, .int .i64 lb, .string ky, .int .i64 0, .int .i64 0, .bool false, .bool false] 85 (0, 0)) := us.at_
   replace hps := hps.own us.ch (fun j hj e => by (try dsimp only at e); omega)
   have cus := us.ch
   replace hR := hR.trans us.ch (H := fun j => j = p) (fun _ _ e => e) (fun j hj e => by ((try dsimp only at e); omega))
   
   refine WL.e4 Nx.thn 0 2 4 5 (jt2 rfl (lt rfl (s0))) (jt2 rfl (lt rfl (s2))) (jt2 rfl (lt rfl (s4))) (jt2 rfl (lt rfl (s5))) ?_
   intro σ20 s0 s2 s4 s5
   refine W.seq ?_
   refine W.region ?_
   refine WL.x (X.mv (s0)) rfl ?_
   refine WL.x (X.fieldAddr fd85_4 (lt rfl (s5))) rfl ?_
   refine WL.x (X.fieldAddr fd85_5 (jt2 rfl (s5))) rfl ?_
   refine WL.bslice Tryz.underlying133 el105 rfl (pcons (lt rfl (lh)) (pcons (lh) pnil)) rfl (rfl : _ = [_, _]) rfl ?_
   intro w38 u16_3; have hu16_3 := u16_3.at_; have cu16_3 := u16_3.ch; have zu16_3 := u16_3.size
   have zow := lt_of_blk hwv
   refine WL.callP2 ce61 (jt2 rfl (lt rfl (lh))) (lh) (numbers_ok B p _ ow _ _ 85 #[.int .i64 a1, .int .i64 a2, .int .i64 lb, .string ky, .int .i64 0, .int .i64 0, .bool false, .bool false] [4, 5] r15 w38 (hps.ch0 cu16_3) rfl hu16_3 (cu16_3.at0 hwv) (by omega) (by have h9 := lt_of_blk hwv; omega) rfl (by decide)) rfl (by rintro v w' ⟨hn, rfl, cx⟩; exact ⟨_, rfl, hgo.trans (many_fail rfl hs9 (hgW.trans (num2_no hn _))), rfl, (hov.call ((hR.trans cu16_3 (H := fun j => j = p) (fun _ _ e => e) (fun j hj e => by exact e.elim)).trans cx (H := fun j => j = p) (fun _ _ e => e) (fun j hj e => by ((try dsimp only at e); omega)))).2.2.1⟩) ?_
   rintro _ w39 ⟨l16, r16, hl16, hob16, hin16, hps, c16⟩
   obtain ⟨b1, b2, rfl, hK16⟩ := num2_go (β := QWhy) hl16
   replace hgW := hgW.trans (hK16 _)
   have hwv : w39.heap[ow]? = some (.cells #[.int .i64 a1, .int .i64 a2, .int .i64 lb, .string ky, .int .i64 b1, .int .i64 b2, .bool false, .bool false] 85 (0, 0)) := hob16
   have j3 := hin16 b1 (by simp)
   have j4 := hin16 b2 (by simp)
   replace hR := hR.trans cu16_3 (H := fun j => j = p) (fun _ _ e => e) (fun j hj e => by exact e.elim)
   replace hR := hR.trans c16 (H := fun j => j = p) (fun _ _ e => e) (fun j hj e => by ((try dsimp only at e); omega))
   refine WL.e4 Nx.thn 0 2 4 5 (jt4 rfl (lt rfl (s0))) (jt4 rfl (lt rfl (s2))) (jt4 rfl (lt rfl (s4))) (jt4 rfl (lt rfl (s5))) ?_
   intro σ21 s0 s2 s4 s5
   refine W.seq ?_
   refine W.region ?_
   refine WL.x (X.mv (s0)) rfl ?_
   refine WL.callP3 ce63 (lh) lc lc (which_ok B p r16 wNil wValue w39 hps (by decide) (by decide)) rfl (by rintro v w' ⟨hn, rfl, cx⟩; exact ⟨_, rfl, hgo.trans (many_fail rfl hs9 (hgW.trans (bind_none hn))), rfl, (hov.call (hR.trans cx (H := fun j => j = p) (fun _ _ e => e) (fun j hj e => by exact e.elim))).2.2.1⟩) ?_
   rintro _ w40 ⟨nl, r17, hk17, rfl, hps, c17⟩
   replace hwv := c17.at hwv (fun e => by (try dsimp only at e); omega)
   replace hgW := hgW.trans (bind_eq hk17)
   replace hR := hR.trans c17 (H := fun j => j = p) (fun _ _ e => e) (fun j hj e => by ((try dsimp only at e); omega))
   refine WL.x (X.fieldAddr fd85_6 (jt2 rfl (s5))) rfl ?_
   refine WL.store el4 (lh) (lt rfl (lh)) rfl hwv (show 0 + 6 < 8 by decide) ?_
   intro w41 us
   have how9 := lt_of_blk hwv
   replace hwv : w41.heap[ow]? = some (.cells #[.int .i64 a1, .int .i64 a2, .int .i64 lb, .string ky, .int .i64 b1, .int .i64 b2, .bool nl, .bool false] 85 (0, 0)) := us.at_
   replace hps := hps.own us.ch (fun j hj e => by (try dsimp only at e); omega)
   have cus := us.ch
   replace hR := hR.trans us.ch (H := fun j => j = p) (fun _ _ e => e) (fun j hj e => by ((try dsimp only at e); omega))
   
   refine WL.e4 Nx.thn 0 2 4 5 (jt2 rfl (lt rfl (s0))) (jt2 rfl (lt rfl (s2))) (jt2 rfl (lt rfl (s4))) (jt2 rfl (lt rfl (s5))) ?_
   intro σ22 s0 s2 s4 s5
   refine W.seq ?_
   refine W.region ?_
   refine WL.x (X.mv (s0)) rfl ?_
   refine WL.callP3 ce63 (lh) lc lc (which_ok B p r17 wCond wSure w41 hps (by decide) (by decide)) rfl (by rintro v w' ⟨hn, rfl, cx⟩; exact ⟨_, rfl, hgo.trans (many_fail rfl hs9 (hgW.trans (bind_none hn))), rfl, (hov.call (hR.trans cx (H := fun j => j = p) (fun _ _ e => e) (fun j hj e => by exact e.elim))).2.2.1⟩) ?_
   rintro _ w42 ⟨cd, r18, hk18, rfl, hps, c18⟩
   replace hwv := c18.at hwv (fun e => by (try dsimp only at e); omega)
   replace hgW := hgW.trans (bind_eq hk18)
   replace hR := hR.trans c18 (H := fun j => j = p) (fun _ _ e => e) (fun j hj e => by ((try dsimp only at e); omega))
   refine WL.x (X.fieldAddr fd85_7 (jt2 rfl (s5))) rfl ?_
   refine WL.store el4 (lh) (lt rfl (lh)) rfl hwv (show 0 + 7 < 8 by decide) ?_
   intro w43 us
   have how9 := lt_of_blk hwv
   replace hwv : w43.heap[ow]? = some (.cells #[.int .i64 a1, .int .i64 a2, .int .i64 lb, .string ky, .int .i64 b1, .int .i64 b2, .bool nl, .bool cd] 85 (0, 0)) := us.at_
   replace hps := hps.own us.ch (fun j hj e => by (try dsimp only at e); omega)
   have cus := us.ch
   replace hR := hR.trans us.ch (H := fun j => j = p) (fun _ _ e => e) (fun j hj e => by ((try dsimp only at e); omega))
   
   refine WL.e4 Nx.thn 0 2 4 5 (jt2 rfl (lt rfl (s0))) (jt2 rfl (lt rfl (s2))) (jt2 rfl (lt rfl (s4))) (jt2 rfl (lt rfl (s5))) ?_
   intro σ23 s0 s2 s4 s5
   refine W.seq ?_
   refine W.region ?_
   refine WL.x (X.mv (s0)) rfl ?_
   refine WL.callP2 ce67 (lh) lc (mark_ok B p r18 (mk1 93) w43 hps) rfl (by rintro v w' ⟨hn, rfl, cx⟩; exact ⟨_, rfl, hgo.trans (many_fail rfl hs9 (hgW.trans (bind_none (tok_no hn)))), rfl, (hov.call (hR.trans cx (H := fun j => j = p) (fun _ _ e => e) (fun j hj e => by exact e.elim))).2.2.1⟩) ?_
   rintro _ w44 ⟨hs19, hps, c19⟩
   replace hgW := hgW.trans (bind_eq (tok_go hs19))
   replace hwv := c19.at hwv (fun e => by (try dsimp only at e); omega)
   replace hR := hR.trans c19 (H := fun j => j = p) (fun _ _ e => e) (fun j hj e => by ((try dsimp only at e); omega))
   obtain ⟨r19, hr19⟩ : ∃ r19, r19 = r18.tail := ⟨_, rfl⟩
   rw [← hr19] at hgW hps
   have hlw : r19.length < rr.length := pc_why fP _ _ _ (hgW.trans rfl)
   refine WL.e4 Nx.thn 0 2 4 5 (jt2 rfl (s0)) (jt2 rfl (s2)) (jt2 rfl (s4)) (jt2 rfl (s5)) ?_
   intro σ24 s0 s2 s4 s5
   refine W.region ?_
   refine WL.x (X.fieldAddr fd67_6 (s4)) rfl ?_
   replace hov := hov.call hR
   replace hrow := orow_ch monWhy hrow hR (fun _ e => e.elim) (fun j hj e => by have := (ORow.lt hrow j hj).1; (try dsimp only at e); omega)
   replace hgo := hgo.trans (many_step (pc_why fP) rfl hs9 (hgW.trans rfl))
   refine WL.x (X.load pl65 (lh) hov.1 (v := .slice la acc.length lcp) rfl) rfl ?_
   refine WL.x (X.loadBox (vs := [.int .i64 a1, .int .i64 a2, .int .i64 lb, .string ky, .int .i64 b1, .int .i64 b2, .bool nl, .bool cd]) ag85 (jt2 rfl (s5)) hwv rfl) rfl ?_
   refine WL.bsliceR (vs := [_]) Tryz.underlying65 el85 (by decide) (pcons (lh) pnil) rfl (fun u hu => by rw [List.mem_singleton.1 hu]; rfl) (show 1 * 8 ≤ 16777216 by decide) rfl ?_
   intro w46 u20_3; have hu20_3 := u20_3.at_; have cu20_3 := u20_3.ch; have zu20_3 := u20_3.size
   replace hov := hov.ch0 cu20_3
   replace hps := hps.ch0 cu20_3
   replace hrow := orow_ch monWhy hrow cu20_3 (fun _ e => e.elim) (fun _ _ e => e)
   have zR := hR.size
   have zl5 := cu20_3.size
   obtain ⟨ess, he1, he2, hown, he4⟩ := hrow
   refine WL.append Tryz.underlying65 el85 rfl (by decide) (jt2 rfl (lh)) (lh) (hown) (by assumption) rfl (by exact ones_of rfl) (by unfold maxLen; omega) (by omega) (by omega) rfl ?_
   intro va20_4 w47 ho20_4 ca20_4
   replace hov := hov.step ca20_4 (fun j hj => by have := (own_lt hown hj).1; exact ⟨by omega, by omega, .inr (by omega)⟩)
   replace hps := hps.own ca20_4 (fun j hj e => by have := (own_lt hown e).1; omega)
   have hrow := ORow.push monWhy he1 he2 he4 (x := (a1, a2, lb, ky, b1, b2, nl, cd)) rfl (show RWhy (fun _ => False) _ [.int .i64 a1, .int .i64 a2, .int .i64 lb, .string ky, .int .i64 b1, .int .i64 b2, .bool nl, .bool cd] _ from ⟨rfl, ⟨j1, j2, j3, j4⟩, by show ky.size ≤ _; omega⟩) ca20_4 (fun _ e => e.elim) (fun _ e => e) ho20_4
   obtain ⟨la2, lc2, rfl⟩ : ∃ la2 lc2, va20_4 = .slice la2 (acc.length + 1) lc2 := own_form ho20_4
   refine WL.x (X.fieldAddr fd67_6 (jt4 rfl (lt rfl (s4)))) rfl ?_
   refine WL.store el65 (lh) (lt rfl (lh)) rfl hov.1 (show 0 + 6 < 9 by decide) ?_
   intro w48 us
   have hob9 := hov.lt
   have hlo9 := hov.2.2.2.1
   have hov9 := hov
   replace hov : OV p 67 ob rb w w48 #[.int .i64 kd, .int .i64 n1, .int .i64 n2, .int .i64 n3, .string kx, .int .i64 n4, .slice la2 (acc.length + 1) lc2, .bool re, .int .i64 lvl] := hov.put us.at_ us.ch rfl
   replace hps := hps.own us.ch (fun j hj e => by (try dsimp only at e); omega)
   have cus := us.ch
   replace hrow := orow_ch monWhy hrow us.ch (fun _ e => e.elim) (fun j hj e => by have := (ORow.lt hrow j hj).1; (try dsimp only at e); omega)
   refine WL.e3 (Nx.blk Nx.thn) 0 2 4 (jt4 rfl (jt2 rfl (s0))) (jt4 rfl (jt2 rfl (s2))) (jt4 rfl (jt2 rfl (s4))) ?_
   intro σ25 s0 s2 s4
   have hszz := hov.lt
   refine ⟨r19, hlw, ⟨s0.trans qo5.symm, s2.trans qo6.symm, s4.trans qo7.symm, trivial⟩, acc ++ [(a1, a2, lb, ky, b1, b2, nl, cd)], .slice la2 (acc.length + 1) lc2, hov, hps, hrow, hgo, (by rw [List.length_append, List.length_singleton]; omega), (by have := cus.size; have := ca20_4.size; omega)⟩
  ·
   refine W.exit (Nx.xthn (Nx.xthn (Nx.xblk Nx.thn))) ?_
   refine W.seq ?_
   refine W.region ?_
   refine WL.x (X.mv (s0)) rfl ?_
   replace hgo := hgo.trans (many_end hs9)
   refine WL.callP1 ce62 (lh) (ends_ok B p rr w26 hps) rfl (by rintro v w' ⟨hn, rfl, cx⟩; exact ⟨_, rfl, hgo.trans (bind_none hn), rfl, (hov.ch0 cx).2.2.1⟩) ?_
   rintro _ w49 ⟨r21, hk21, hps, c21⟩
   replace hov := hov.call c21
   replace hrow := orow_ch monWhy hrow c21 (fun _ e => e.elim) (fun j hj e => by have := (ORow.lt hrow j hj).1; (try dsimp only at e); omega)
   replace hgo := hgo.trans (bind_eq hk21)
   refine WL.e2 Nx.thn 2 4 (jt2 rfl (s2)) (jt2 rfl (s4)) ?_
   intro σ26 s2 s4
   refine W.seq ?_
   refine W.region ?_
   obtain ⟨la9, lc9, rfl⟩ := orow_form hrow
   refine WL.x (X.loadBox (vs := [.int .i64 kd, .int .i64 n1, .int .i64 n2, .int .i64 n3, .string kx, .int .i64 n4, .slice la9 acc.length lc9, .bool re, .int .i64 lvl]) ag67 (s4) hov.1 rfl) rfl ?_
   obtain ⟨z9, hz9, hzs9⟩ := hov.2.1
   have hne9 := hov.2.2.2.2.2.1
   have hrb9 := hov.2.2.2.2.1
   have hob9 := hov.lt
   refine WL.storeS (vs := [.int .i64 kd, .int .i64 n1, .int .i64 n2, .int .i64 n3, .string kx, .int .i64 n4, .slice la9 acc.length lc9, .bool re, .int .i64 lvl]) ag67 (lt rfl (s2)) (lh) rfl rfl hz9 (by rw [hzs9]; exact Nat.le_of_ble_eq_true rfl) ?_
   intro w50 us
   have hfin := us.at_
   rw [blit_all (by rw [hzs9]; rfl)] at hfin
   have cfin := us.ch
   refine WL.e1 Nx.thn 2 (lt rfl (s2)) ?_
   intro σ27 s2
   refine W.retG (Nx.panR Nx.fG) ⟨[_], (.cell s2 (by assumption) (by exact ag67) .nil), ?_⟩
   have hrow2 := orow_ch monWhy hrow cfin (fun _ e => e.elim) (fun j hj e => by have := (ORow.lt hrow j hj).1; (try dsimp only at e); omega)
   exact ⟨_, _, [.int .i64 kd, .int .i64 n1, .int .i64 n2, .int .i64 n3, .string kx, .int .i64 n4, .slice la9 acc.length lc9, .bool re, .int .i64 lvl], hgo, rfl, rfl, ⟨_, rfl, ORow.rsl' monWhy hrow2 (fun _ e => e.elim) (hrow2.mine (by decide) (by omega)), by dsimp only; omega, ⟨i1, i2, i3, i4⟩, by dsimp only; omega⟩, hps.own cfin (fun j hj e => by (try dsimp only at e); omega), (hov.2.2.1).trans cfin (H := fun j => j = p) (fun _ _ e => e) (fun j hj e => by ((try dsimp only at e); omega))⟩

theorem pbind_assoc {α β γ : Type} (p : PR α) (f : α → PR β) (g : β → PR γ) (ts : List Tok) : pbind (pbind p f) g ts = pbind p (fun a => pbind (f a) g) ts := by
  cases h : p ts with
  | none => rw [bind_none h, bind_none (bind_none h)]
  | some y =>
    obtain ⟨a, r⟩ := y
    rw [bind_eq h]
    cases h2 : f a r with
    | none => rw [bind_none h2, bind_none (by rw [bind_eq h, h2])]
    | some z => obtain ⟨b, r2⟩ := z; rw [bind_eq h2, bind_eq (p := pbind p f) (a := b) (r := r2) (by rw [bind_eq h, h2])]
theorem order_yes {β : Type} {a : Int} (ha : a = 1) (K : List Int → PR β) (ts : List Tok) : pbind (porder a) K ts = pbind (ptok 3 (mk1 40)) (fun _ => pbind (pmany (fun ts => seesB ts 2 no) pnum) fun l => pbind (ptok 3 (mk1 41)) fun _ => K l) ts := by
  unfold porder
  rw [if_pos ha, pbind_assoc]
  congr 1
  funext _ r
  rw [pbind_assoc]
  congr 1
  funext l r2
  rw [pbind_assoc]
  rfl
theorem order_no {β : Type} {a : Int} (ha : a ≠ 1) (K : List Int → PR β) (ts : List Tok) : pbind (porder a) K ts = K [] ts := by
  unfold porder
  rw [if_neg ha]
  rfl
/-- What stands behind the answer's order; behind the anomalies. -/
def repK3 (n : Int) (u : Bool) (l : List QAn) (lv a : Int) (o : List Int) : PR QRep := pbind pends fun _ => pret (n, u, l, lv, a, o)
def repK4 (n : Int) (u : Bool) (l : List QAn) (lv a : Int) : List Int → PR QRep := fun o => pbind (ptok 3 (mk1 41)) fun _ => repK3 n u l lv a o
def repK2 (f : Wds) (n : Int) (u : Bool) (l : List QAn) : PR QRep := pbind (ptok 1 wLevel) fun _ => pbind (pword f.level) fun lv => pbind pends fun _ => pbind (ptok 1 wAnswer) fun _ => pbind (pword f.answer) fun a => pbind (porder a) fun o => repK3 n u l lv a o
set_option maxHeartbeats 6400000 in
theorem report_ok (B p : Nat) (ts : List Tok) (w : World) (h : PS B p ts w) :
  Sg.RetP Tryz.prog 18 #[.pointer (some ⟨p, 0, none⟩)] w (fun v w' => ∃ x r es, prep fP (skipP ts) = some (x, r) ∧ v = .agg es.toArray ∧ es.length = 6 ∧ RRep (Mine [3, 67, 85] w.heap.size w') w' es x ∧ PS B p r w' ∧ Ch (fun j => j = p) w w') (fun v w' => prep fP (skipP ts) = none ∧ v = wrg ∧ Ch (fun j => j = p) w w') := by
 have hBw := h.2.1
 have hpB := h.1
 refine enterPG (n := 68) (l := [.pointer (some ⟨p, 0, none⟩)]) Tryz.func18 rfl rfl rfl rfl ?_
 refine W.g1 0 (v1 := .pointer (some ⟨p, 0, none⟩)) rfl ?_; intro σ s0
 refine W.seq ?_
 refine W.region ?_
 refine WL.alloc el25 rfl ?_
 intro w1 u0_0; have hu0_0 := u0_0.at_; have cu0_0 := u0_0.ch; have zu0_0 := u0_0.size
 refine WL.e2 Nx.thn 0 2 (lt rfl (s0)) (lh) ?_
 intro σ1 s0 s2
 refine W.seq ?_
 refine W.region ?_
 refine WL.alloc el25 rfl ?_
 intro w2 u9
 obtain ⟨ob, hob⟩ : ∃ ob, ob = w1.heap.size := ⟨_, rfl⟩
 obtain ⟨rb, hrb⟩ : ∃ rb, rb = w.heap.size := ⟨_, rfl⟩
 have hrb0 := u9.ch.at0 hu0_0
 rw [← hrb] at hrb0 s2
 rw [← hob]
 have z1 := cu0_0.size
 have z2 := lt_of_blk hu0_0
 have z3 := lt_of_blk hrb0
 have hov : OV p 25 ob rb w w2 #[.int .i64 0, .bool false, .slice none 0 0, .int .i64 0, .int .i64 0, .slice none 0 0] := ⟨by rw [hob]; exact u9.at_, ⟨_, hrb0, rfl⟩, (cu0_0.trans0 u9.ch).trans (Ch.refl (fun j => j = p) _) (fun _ _ e => e.elim) (fun _ _ e => e), by omega, by omega, by omega, by omega⟩
 have hps := (h.ch0 cu0_0).ch0 u9.ch
 refine WL.e3 Nx.thn 0 2 3 (lt rfl (s0)) (lt rfl (s2)) (lh) ?_
 intro σ2 s0 s2 s3
 refine W.seq ?_
 refine W.block ?_
 have qo1 := s0
 have qo2 := s2
 have qo3 := s3
 -- loop 0: kept [0, 2, 3], varied []
 refine W.loop (G := List Tok) (fun rr σ' w' => (σ' 0 = σ2 0 ∧ σ' 2 = σ2 2 ∧ σ' 3 = σ2 3 ∧ True) ∧ (OV p 25 ob rb w w' #[.int .i64 0, .bool false, .slice none 0 0, .int .i64 0, .int .i64 0, .slice none 0 0] ∧ PS B p rr w' ∧ skipP rr = skipP ts)) (fun rr => rr.length) (ts) ⟨⟨rfl, rfl, rfl, trivial⟩, hov, hps, rfl⟩ ?_
 rintro rr σ3 w3 ⟨⟨f0, f2, f3, _⟩, hov, hps, hsk⟩
 have s0 := f0.trans qo1
 have s2 := f2.trans qo2
 have s3 := f3.trans qo3
 refine W.seq ?_
 refine W.seq ?_
 refine W.region ?_
 refine WL.x (X.mv (s0)) rfl ?_
 refine WL.call3 ce58 (lh) lc lc (sees_ok B p rr 4 no w3 hps) rfl ?_
 rintro _ _ ⟨rfl, rfl⟩
 refine WL.e4 Nx.thn 0 2 3 6 (jt2 rfl (s0)) (jt2 rfl (s2)) (jt2 rfl (s3)) (lh) ?_
 intro σ4 s0 s2 s3 s6
 refine W.cnd s6 (fun hs2 => ?_) (fun hs2 => ?_)
 ·
  refine W.skip Nx.thn ?_
  refine W.block ?_
  refine W.region ?_
  refine WL.x (X.mv (s0)) rfl ?_
  refine WL.callP3 ce59 (lh) lc lc (take_ok B p rr 4 no w3 hps) rfl (by rintro v w' ⟨hn, rfl, cx⟩; rw [hs2] at hn; cases hn) ?_
  rintro _ w4 ⟨tk, r3, hr3, hs3, rfl, hps, c3⟩
  replace hov := hov.call c3
  refine WL.e3 (Nx.blk Nx.thn) 0 2 3 (jt2 rfl (s0)) (jt2 rfl (s2)) (jt2 rfl (s3)) ?_
  intro σ5 s0 s2 s3
  refine ⟨r3, by rw [hr3]; simp, ⟨s0.trans qo1.symm, s2.trans qo2.symm, s3.trans qo3.symm, trivial⟩, hov, hps, (by rw [← hsk, skip_tail hs3, hr3]; rfl)⟩
 ·
  have hgo : prep fP (skipP ts) = prep fP rr := by rw [hsk.symm.trans (skip_stop hs2)]
  obtain ⟨r0, hr0⟩ : ∃ r0, r0 = rr := ⟨_, rfl⟩
  rw [← hr0] at hps hgo
  refine W.exit (Nx.xthn (Nx.xthn (Nx.xblk Nx.thn))) ?_
  refine W.seq ?_
  refine W.region ?_
  refine WL.x (X.mv (s0)) rfl ?_
  refine WL.callP2 ce60 (lh) lc (word_ok B p r0 wTxns w3 hps) rfl (by rintro v w' ⟨hn, rfl, cx⟩; exact ⟨_, rfl, hgo.trans (bind_none (tok_no hn)), rfl, (hov.ch0 cx).2.2.1⟩) ?_
  rintro _ w5 ⟨hs4, rfl, hps, c4⟩
  replace hov := hov.call c4
  replace hgo := hgo.trans (bind_eq (tok_go hs4))
  obtain ⟨r4, hr4⟩ : ∃ r4, r4 = r0.tail := ⟨_, rfl⟩
  rw [← hr4] at hps hgo
  refine WL.e3 Nx.thn 0 2 3 (jt2 rfl (s0)) (jt2 rfl (s2)) (jt2 rfl (s3)) ?_
  intro σ6 s0 s2 s3
  refine W.seq ?_
  refine W.region ?_
  refine WL.x (X.mv (s0)) rfl ?_
  refine WL.x (X.fieldAddr fd25_0 (lt rfl (s3))) rfl ?_
  refine WL.bslice Tryz.underlying133 el105 rfl (pcons (lh) pnil) rfl (rfl : _ = [_]) rfl ?_
  intro w6 u5_2; have hu5_2 := u5_2.at_; have cu5_2 := u5_2.ch; have zu5_2 := u5_2.size
  have hlo9 := hov.2.2.2.1
  refine WL.callP2 ce61 (jt2 rfl (lh)) (lh) (numbers_ok B p _ ob _ _ 25 #[.int .i64 0, .bool false, .slice none 0 0, .int .i64 0, .int .i64 0, .slice none 0 0] [0] r4 w6 (hps.ch0 cu5_2) rfl hu5_2 (cu5_2.at0 hov.1) (by omega) (by have h9 := lt_of_blk hov.1; omega) rfl (by decide)) rfl (by rintro v w' ⟨hn, rfl, cx⟩; exact ⟨_, rfl, hgo.trans (num1_no hn _), rfl, (hov.ch0 cu5_2).end2 cx⟩) ?_
  rintro _ w7 ⟨l5, r5, hl5, hob5, hin5, hps, c5⟩
  replace hov := hov.ch0 cu5_2
  obtain ⟨n1, rfl, hK5⟩ := num1_go (β := QRep) hl5
  replace hgo := hgo.trans (hK5 _)
  have hov : OV p 25 ob rb w w7 #[.int .i64 n1, .bool false, .slice none 0 0, .int .i64 0, .int .i64 0, .slice none 0 0] := hov.put2 hob5 c5 rfl
  have i1 := hin5 n1 (by simp)
  refine WL.e3 Nx.thn 0 2 3 (jt4 rfl (s0)) (jt4 rfl (s2)) (jt4 rfl (s3)) ?_
  intro σ7 s0 s2 s3
  refine W.seq ?_
  refine W.region ?_
  refine WL.x (X.mv (s0)) rfl ?_
  refine WL.callP1 ce62 (lh) (ends_ok B p r5 w7 hps) rfl (by rintro v w' ⟨hn, rfl, cx⟩; exact ⟨_, rfl, hgo.trans (bind_none hn), rfl, (hov.ch0 cx).2.2.1⟩) ?_
  rintro _ w8 ⟨r6, hk6, hps, c6⟩
  replace hov := hov.call c6
  replace hgo := hgo.trans (bind_eq hk6)
  refine WL.e3 Nx.thn 0 2 3 (jt2 rfl (s0)) (jt2 rfl (s2)) (jt2 rfl (s3)) ?_
  intro σ8 s0 s2 s3
  refine W.seq ?_
  refine W.region ?_
  refine WL.x (X.mv (s0)) rfl ?_
  refine WL.callP2 ce60 (lh) lc (word_ok B p r6 wUnique w8 hps) rfl (by rintro v w' ⟨hn, rfl, cx⟩; exact ⟨_, rfl, hgo.trans (bind_none (tok_no hn)), rfl, (hov.ch0 cx).2.2.1⟩) ?_
  rintro _ w9 ⟨hs7, rfl, hps, c7⟩
  replace hov := hov.call c7
  replace hgo := hgo.trans (bind_eq (tok_go hs7))
  obtain ⟨r7, hr7⟩ : ∃ r7, r7 = r6.tail := ⟨_, rfl⟩
  rw [← hr7] at hps hgo
  refine WL.e3 Nx.thn 0 2 3 (jt2 rfl (s0)) (jt2 rfl (s2)) (jt2 rfl (s3)) ?_
  intro σ9 s0 s2 s3
  refine W.seq ?_
  refine W.region ?_
  refine WL.x (X.mv (s0)) rfl ?_
  refine WL.callP3 ce63 (lh) lc lc (which_ok B p r7 wYes wNo w9 hps (by decide) (by decide)) rfl (by rintro v w' ⟨hn, rfl, cx⟩; exact ⟨_, rfl, hgo.trans (bind_none hn), rfl, (hov.ch0 cx).2.2.1⟩) ?_
  rintro _ w10 ⟨u1, r8, hk8, rfl, hps, c8⟩
  replace hov := hov.call c8
  replace hgo := hgo.trans (bind_eq hk8)
  refine WL.x (X.fieldAddr fd25_1 (jt2 rfl (s3))) rfl ?_
  refine WL.store el4 (lh) (lt rfl (lh)) rfl hov.1 (show 0 + 1 < 6 by decide) ?_
  intro w11 us
  have hob9 := hov.lt
  have hlo9 := hov.2.2.2.1
  have hov9 := hov
  replace hov : OV p 25 ob rb w w11 #[.int .i64 n1, .bool u1, .slice none 0 0, .int .i64 0, .int .i64 0, .slice none 0 0] := hov.put us.at_ us.ch rfl
  replace hps := hps.own us.ch (fun j hj e => by (try dsimp only at e); omega)
  have cus := us.ch
  
  refine WL.e3 Nx.thn 0 2 3 (jt2 rfl (lt rfl (s0))) (jt2 rfl (lt rfl (s2))) (jt2 rfl (lt rfl (s3))) ?_
  intro σ10 s0 s2 s3
  refine W.seq ?_
  refine W.region ?_
  refine WL.x (X.mv (s0)) rfl ?_
  refine WL.callP1 ce62 (lh) (ends_ok B p r8 w11 hps) rfl (by rintro v w' ⟨hn, rfl, cx⟩; exact ⟨_, rfl, hgo.trans (bind_none hn), rfl, (hov.ch0 cx).2.2.1⟩) ?_
  rintro _ w12 ⟨r9, hk9, hps, c9⟩
  replace hov := hov.call c9
  replace hgo := hgo.trans (bind_eq hk9)
  obtain ⟨wl, hwl0⟩ : ∃ wl, wl = w12.heap.size := ⟨_, rfl⟩
  have hobz := hov.lt
  have hobl : ob < wl ∧ rb < wl := by omega
  have hloz := hov.2.2.2.1
  refine WL.e3 Nx.thn 0 2 3 (jt2 rfl (s0)) (jt2 rfl (s2)) (jt2 rfl (s3)) ?_
  intro σ11 s0 s2 s3
  refine W.seq ?_
  refine W.block ?_
  have qo4 := s0
  have qo5 := s2
  have qo6 := s3
  -- loop 1: kept [0, 2, 3], varied []
  refine W.loop (G := List Tok) (fun rr σ' w' => (σ' 0 = σ11 0 ∧ σ' 2 = σ11 2 ∧ σ' 3 = σ11 3 ∧ True) ∧ (∃ acc lv, OV p 25 ob rb w w' #[.int .i64 n1, .bool u1, lv, .int .i64 0, .int .i64 0, .slice none 0 0] ∧ PS B p rr w' ∧ ORow 9 RAn (Mine [85] w.heap.size w') w' wl 67 lv acc ∧ prep fP (skipP ts) = pbind (pmany (fun ts => seesB ts 1 wAnomaly) (panm fP)) (fun l => repK2 fP n1 u1 (acc ++ l)) rr ∧ acc.length + rr.length ≤ 20000 ∧ wl ≤ w'.heap.size)) (fun rr => rr.length) (r9) ⟨⟨rfl, rfl, rfl, trivial⟩, [], .slice none 0 0, hov, hps, ORow.nil, hgo, (by rw [List.length_nil, Nat.zero_add]; exact hps.len), by omega⟩ ?_
  rintro rr σ12 w13 ⟨⟨f0, f2, f3, _⟩, acc, lv, hov, hps, hrow, hgo, h20, hwl⟩
  have s0 := f0.trans qo4
  have s2 := f2.trans qo5
  have s3 := f3.trans qo6
  refine W.seq ?_
  refine W.seq ?_
  refine W.region ?_
  refine WL.x (X.mv (s0)) rfl ?_
  refine WL.call3 ce58 (lh) lc lc (sees_ok B p rr 1 wAnomaly w13 hps) rfl ?_
  rintro _ _ ⟨rfl, rfl⟩
  refine WL.e4 Nx.thn 0 2 3 25 (jt2 rfl (s0)) (jt2 rfl (s2)) (jt2 rfl (s3)) (lh) ?_
  intro σ13 s0 s2 s3 s25
  refine W.cnd s25 (fun hs10 => ?_) (fun hs10 => ?_)
  ·
   obtain ⟨la, lcp, rfl⟩ := orow_form hrow
   refine W.skip Nx.thn ?_
   refine W.block ?_
   refine W.held (fun w' => Ch (fun j => j = p ∨ slBlk (.slice la acc.length lcp) j ∨ j = ob) w13 w') mo ?_
   intro w14 qhh7 qc8
   have hS : Ch (fun j => j = p ∨ slBlk (.slice la acc.length lcp) j ∨ j = ob) w13 w14 := Ch.weak qc8
   have hzqc8 := qc8.size
   have cdh11 := qc8
   replace hov := hov.ch0 cdh11
   replace hps := hps.ch0 cdh11
   replace hrow := orow_mine monAn hrow cdh11 (fun _ _ e => e) (fun _ _ e => e)
   have zcd := cdh11.size
   refine WH.takeP 0 rfl (by kernel_rfl) (by kernel_rfl) (by kernel_rfl) (fun _ _ _ _ _ h => h) Gd.none rfl (fun w' hS' => X.fieldAddr fd25_2 (s3)) hS ?_
   refine WH.takeP 2 rfl (by kernel_rfl) (by kernel_rfl) (by kernel_rfl) (fun _ _ _ _ _ h => h) Gd.none rfl (fun w' hS' => X.mv (lt rfl (s0))) hS ?_
   refine WH.two 1 3 rfl rfl (by kernel_rfl) (fun _ _ h => h) ?_ ?_
   ·
    refine WL.x (X.load pl22 (lt rfl (lh)) hov.1 (v := .slice la acc.length lcp) rfl) rfl ?_
    refine WL.nil Nx.thn ⟨hS, ?_⟩
    refine WH.one 3 rfl (by kernel_rfl) (fun _ _ h => h) ?_
    refine WL.callP1 ce64 (lt rfl (lh)) (anomaly_ok B p rr w14 hps) rfl (by rintro v w' ⟨hn, rfl, cx⟩; exact ⟨_, rfl, hgo.trans (many_fail rfl hs10 hn), rfl, (hov.call cx).2.2.1⟩) ?_
    rintro _ w15 ⟨a11, r11, es11, hk11, rfl, hes9, hx, hps, c11⟩
    have hlo8 := hov.2.2.2.1
    have hob8 := hov.lt
    replace hov := hov.call c11
    replace hrow := orow_mine monAn hrow c11 (fun j hj e => by have := hj.1; (try dsimp only at e); omega) (fun j hj e => by have := (ORow.lt hrow j hj).1; (try dsimp only at e); omega)
    have zc11 := c11.size
    replace hx := rd_mono monAn hx (show w.heap.size ≤ _ by omega)
    have hlw := pc_an fP _ _ _ hk11
    obtain ⟨lv3, rfl, hx1⟩ := id hx
    obtain ⟨la3, lc3, rfl⟩ := hx1.1.len
    have hS := hS.trans c11 (fun _ _ e => e) (fun _ _ e => .inl e)
    refine WL.nil Nx.thn ⟨hS, ?_⟩
    refine WH.one 4 rfl (by kernel_rfl) (fun _ _ h => h) ?_
    refine WL.bsliceR (vs := [_]) Tryz.underlying22 el67 (by decide) (pcons (lh) pnil) rfl (fun u hu => by rw [List.mem_singleton.1 hu]; rfl) (show 1 * 9 ≤ 16777216 by decide) rfl ?_
    intro w17 u11_4; have hu11_4 := u11_4.at_; have cu11_4 := u11_4.ch; have zu11_4 := u11_4.size
    have hS := hS.trans cu11_4 (fun _ _ => id) (by intro i hi hg; exact False.elim hg)
    refine WL.nil Nx.thn ⟨hS, ?_⟩
    refine WH.one 5 rfl (by kernel_rfl) (fun _ _ h => h) ?_
    replace hov := hov.ch0 cu11_4
    replace hps := hps.ch0 cu11_4
    replace hrow := orow_mine monAn hrow cu11_4 (fun _ _ e => e) (fun _ _ e => e)
    replace hx := rd_mine monAn hx cu11_4 (fun _ _ e => e)
    have zl4 := c11.size
    have zl5 := cu11_4.size
    have hrow9 := hrow
    obtain ⟨ess, he1, he2, hown, he4⟩ := hrow
    refine WL.append Tryz.underlying22 el67 rfl (by decide) (jt2 rfl (lh)) (lh) (hown) (by assumption) rfl (by exact ones_of rfl) (by unfold maxLen; omega) (by omega) (by omega) rfl ?_
    intro va11_5 w18 ho11_5 ca11_5
    replace hov := hov.step ca11_5 (fun j hj => by have := (own_lt hown hj).1; exact ⟨by omega, by omega, .inr (by omega)⟩)
    replace hps := hps.own ca11_5 (fun j hj e => by have := (own_lt hown e).1; omega)
    have hmf : ∀ j, Mine [85] w.heap.size _ j → ¬ slBlk (.slice la acc.length lcp) j := own_not hown (by decide)
    replace hx := rd_mine monAn hx ca11_5 hmf
    have hrow := ORow.push monAn he1 he2 he4 rfl hx ca11_5 hmf (fun j hj => hj.ch ca11_5 (hmf j hj)) ho11_5
    obtain ⟨la2, lc2, rfl⟩ : ∃ la2 lc2, va11_5 = .slice la2 (acc.length + 1) lc2 := own_form ho11_5
    have hS := hS.trans ca11_5 (fun _ _ e => e) (fun _ _ e => .inr (.inl e))
    refine WL.nil Nx.thn ⟨hS, ?_⟩
    refine WH.takeP 6 rfl (by kernel_rfl) (by kernel_rfl) (by kernel_rfl) (fun _ _ _ _ _ h => h) Gd.none rfl (fun w' hS' => X.fieldAddr fd25_2 (jt4 rfl (jt2 rfl (s3)))) hS ?_
    refine WH.one 7 rfl (by kernel_rfl) (fun _ _ h => h) ?_
    refine WL.store el22 (lh) (lt rfl (lh)) rfl hov.1 (show 0 + 2 < 6 by decide) ?_
    intro w19 us
    have hob9 := hov.lt
    have hlo9 := hov.2.2.2.1
    have hov9 := hov
    replace hov : OV p 25 ob rb w w19 #[.int .i64 n1, .bool u1, .slice la2 (acc.length + 1) lc2, .int .i64 0, .int .i64 0, .slice none 0 0] := hov.put us.at_ us.ch rfl
    replace hps := hps.own us.ch (fun j hj e => by (try dsimp only at e); omega)
    have cus := us.ch
    replace hrow := orow_mine monAn hrow us.ch (mine_ne hov9.1 (by decide)) (fun j hj e => by have := (ORow.lt hrow j hj).1; (try dsimp only at e); omega)
    
    have hS := hS.trans cus (fun _ _ e => e) (fun _ _ e => .inr (.inr e))
    refine WL.nil Nx.thn ⟨hS, ?_⟩
    refine WH.done (by kernel_rfl) ?_
    refine WL.e3 (Nx.blk Nx.thn) 0 2 3 (jt4 rfl (jt2 rfl (lt rfl (s0)))) (jt4 rfl (jt2 rfl (lt rfl (s2)))) (jt4 rfl (jt2 rfl (lt rfl (s3)))) ?_
    intro σ14 s0 s2 s3
    have hszz := hov.lt
    refine ⟨r11, hlw, ⟨s0.trans qo4.symm, s2.trans qo5.symm, s3.trans qo6.symm, trivial⟩, acc ++ [a11], .slice la2 (acc.length + 1) lc2, hov, hps, hrow, hgo.trans (many_step (pc_an fP) rfl hs10 hk11), (by rw [List.length_append, List.length_singleton]; omega), (by have := cus.size; have := ca11_5.size; omega)⟩
   ·
    refine WL.callP1 ce64 (lh) (anomaly_ok B p rr w14 hps) rfl (by rintro v w' ⟨hn, rfl, cx⟩; exact ⟨_, rfl, hgo.trans (many_fail rfl hs10 hn), rfl, (hov.call cx).2.2.1⟩) ?_
    rintro _ w20 ⟨a11, r11, es11, hk11, rfl, hes9, hx, hps, c11⟩
    have hlo8 := hov.2.2.2.1
    have hob8 := hov.lt
    replace hov := hov.call c11
    replace hrow := orow_mine monAn hrow c11 (fun j hj e => by have := hj.1; (try dsimp only at e); omega) (fun j hj e => by have := (ORow.lt hrow j hj).1; (try dsimp only at e); omega)
    have zc11 := c11.size
    replace hx := rd_mono monAn hx (show w.heap.size ≤ _ by omega)
    have hlw := pc_an fP _ _ _ hk11
    obtain ⟨lv3, rfl, hx1⟩ := id hx
    obtain ⟨la3, lc3, rfl⟩ := hx1.1.len
    have hS := hS.trans c11 (fun _ _ e => e) (fun _ _ e => .inl e)
    refine WL.nil Nx.thn ⟨hS, ?_⟩
    refine WH.two 1 4 rfl rfl (by kernel_rfl) (fun _ _ h => h) ?_ ?_
    ·
     refine WL.x (X.load pl22 (jt2 rfl (lh)) hov.1 (v := .slice la acc.length lcp) rfl) rfl ?_
     refine WL.nil Nx.thn ⟨hS, ?_⟩
     refine WH.one 4 rfl (by kernel_rfl) (fun _ _ h => h) ?_
     refine WL.bsliceR (vs := [_]) Tryz.underlying22 el67 (by decide) (pcons (lt rfl (lh)) pnil) rfl (fun u hu => by rw [List.mem_singleton.1 hu]; rfl) (show 1 * 9 ≤ 16777216 by decide) rfl ?_
     intro w22 u11_4; have hu11_4 := u11_4.at_; have cu11_4 := u11_4.ch; have zu11_4 := u11_4.size
     have hS := hS.trans cu11_4 (fun _ _ => id) (by intro i hi hg; exact False.elim hg)
     refine WL.nil Nx.thn ⟨hS, ?_⟩
     refine WH.one 5 rfl (by kernel_rfl) (fun _ _ h => h) ?_
     replace hov := hov.ch0 cu11_4
     replace hps := hps.ch0 cu11_4
     replace hrow := orow_mine monAn hrow cu11_4 (fun _ _ e => e) (fun _ _ e => e)
     replace hx := rd_mine monAn hx cu11_4 (fun _ _ e => e)
     have zl4 := c11.size
     have zl5 := cu11_4.size
     have hrow9 := hrow
     obtain ⟨ess, he1, he2, hown, he4⟩ := hrow
     refine WL.append Tryz.underlying22 el67 rfl (by decide) (lt rfl (lh)) (lh) (hown) (by assumption) rfl (by exact ones_of rfl) (by unfold maxLen; omega) (by omega) (by omega) rfl ?_
     intro va11_5 w23 ho11_5 ca11_5
     replace hov := hov.step ca11_5 (fun j hj => by have := (own_lt hown hj).1; exact ⟨by omega, by omega, .inr (by omega)⟩)
     replace hps := hps.own ca11_5 (fun j hj e => by have := (own_lt hown e).1; omega)
     have hmf : ∀ j, Mine [85] w.heap.size _ j → ¬ slBlk (.slice la acc.length lcp) j := own_not hown (by decide)
     replace hx := rd_mine monAn hx ca11_5 hmf
     have hrow := ORow.push monAn he1 he2 he4 rfl hx ca11_5 hmf (fun j hj => hj.ch ca11_5 (hmf j hj)) ho11_5
     obtain ⟨la2, lc2, rfl⟩ : ∃ la2 lc2, va11_5 = .slice la2 (acc.length + 1) lc2 := own_form ho11_5
     have hS := hS.trans ca11_5 (fun _ _ e => e) (fun _ _ e => .inr (.inl e))
     refine WL.nil Nx.thn ⟨hS, ?_⟩
     refine WH.takeP 6 rfl (by kernel_rfl) (by kernel_rfl) (by kernel_rfl) (fun _ _ _ _ _ h => h) Gd.none rfl (fun w' hS' => X.fieldAddr fd25_2 (jt4 rfl (jt2 rfl (s3)))) hS ?_
     refine WH.one 7 rfl (by kernel_rfl) (fun _ _ h => h) ?_
     refine WL.store el22 (lh) (lt rfl (lh)) rfl hov.1 (show 0 + 2 < 6 by decide) ?_
     intro w24 us
     have hob9 := hov.lt
     have hlo9 := hov.2.2.2.1
     have hov9 := hov
     replace hov : OV p 25 ob rb w w24 #[.int .i64 n1, .bool u1, .slice la2 (acc.length + 1) lc2, .int .i64 0, .int .i64 0, .slice none 0 0] := hov.put us.at_ us.ch rfl
     replace hps := hps.own us.ch (fun j hj e => by (try dsimp only at e); omega)
     have cus := us.ch
     replace hrow := orow_mine monAn hrow us.ch (mine_ne hov9.1 (by decide)) (fun j hj e => by have := (ORow.lt hrow j hj).1; (try dsimp only at e); omega)
     
     have hS := hS.trans cus (fun _ _ e => e) (fun _ _ e => .inr (.inr e))
     refine WL.nil Nx.thn ⟨hS, ?_⟩
     refine WH.done (by kernel_rfl) ?_
     refine WL.e3 (Nx.blk Nx.thn) 0 2 3 (jt4 rfl (jt2 rfl (lt rfl (s0)))) (jt4 rfl (jt2 rfl (lt rfl (s2)))) (jt4 rfl (jt2 rfl (lt rfl (s3)))) ?_
     intro σ15 s0 s2 s3
     have hszz := hov.lt
     refine ⟨r11, hlw, ⟨s0.trans qo4.symm, s2.trans qo5.symm, s3.trans qo6.symm, trivial⟩, acc ++ [a11], .slice la2 (acc.length + 1) lc2, hov, hps, hrow, hgo.trans (many_step (pc_an fP) rfl hs10 hk11), (by rw [List.length_append, List.length_singleton]; omega), (by have := cus.size; have := ca11_5.size; omega)⟩
    ·
     refine WL.bsliceR (vs := [_]) Tryz.underlying22 el67 (by decide) (pcons (lh) pnil) rfl (fun u hu => by rw [List.mem_singleton.1 hu]; rfl) (show 1 * 9 ≤ 16777216 by decide) rfl ?_
     intro w26 u11_4; have hu11_4 := u11_4.at_; have cu11_4 := u11_4.ch; have zu11_4 := u11_4.size
     have hS := hS.trans cu11_4 (fun _ _ => id) (by intro i hi hg; exact False.elim hg)
     refine WL.nil Nx.thn ⟨hS, ?_⟩
     refine WH.one 1 rfl (by kernel_rfl) (fun _ _ h => h) ?_
     refine WL.x (X.load pl22 (jt2 rfl (lt rfl (lh))) (hov.ch0 cu11_4).1 (v := .slice la acc.length lcp) rfl) rfl ?_
     refine WL.nil Nx.thn ⟨hS, ?_⟩
     refine WH.one 5 rfl (by kernel_rfl) (fun _ _ h => h) ?_
     replace hov := hov.ch0 cu11_4
     replace hps := hps.ch0 cu11_4
     replace hrow := orow_mine monAn hrow cu11_4 (fun _ _ e => e) (fun _ _ e => e)
     replace hx := rd_mine monAn hx cu11_4 (fun _ _ e => e)
     have zl4 := c11.size
     have zl5 := cu11_4.size
     have hrow9 := hrow
     obtain ⟨ess, he1, he2, hown, he4⟩ := hrow
     refine WL.append Tryz.underlying22 el67 rfl (by decide) (lh) (lt rfl (lh)) (hown) (by assumption) rfl (by exact ones_of rfl) (by unfold maxLen; omega) (by omega) (by omega) rfl ?_
     intro va11_5 w27 ho11_5 ca11_5
     replace hov := hov.step ca11_5 (fun j hj => by have := (own_lt hown hj).1; exact ⟨by omega, by omega, .inr (by omega)⟩)
     replace hps := hps.own ca11_5 (fun j hj e => by have := (own_lt hown e).1; omega)
     have hmf : ∀ j, Mine [85] w.heap.size _ j → ¬ slBlk (.slice la acc.length lcp) j := own_not hown (by decide)
     replace hx := rd_mine monAn hx ca11_5 hmf
     have hrow := ORow.push monAn he1 he2 he4 rfl hx ca11_5 hmf (fun j hj => hj.ch ca11_5 (hmf j hj)) ho11_5
     obtain ⟨la2, lc2, rfl⟩ : ∃ la2 lc2, va11_5 = .slice la2 (acc.length + 1) lc2 := own_form ho11_5
     have hS := hS.trans ca11_5 (fun _ _ e => e) (fun _ _ e => .inr (.inl e))
     refine WL.nil Nx.thn ⟨hS, ?_⟩
     refine WH.takeP 6 rfl (by kernel_rfl) (by kernel_rfl) (by kernel_rfl) (fun _ _ _ _ _ h => h) Gd.none rfl (fun w' hS' => X.fieldAddr fd25_2 (jt4 rfl (jt2 rfl (s3)))) hS ?_
     refine WH.one 7 rfl (by kernel_rfl) (fun _ _ h => h) ?_
     refine WL.store el22 (lh) (lt rfl (lh)) rfl hov.1 (show 0 + 2 < 6 by decide) ?_
     intro w28 us
     have hob9 := hov.lt
     have hlo9 := hov.2.2.2.1
     have hov9 := hov
     replace hov : OV p 25 ob rb w w28 #[.int .i64 n1, .bool u1, .slice la2 (acc.length + 1) lc2, .int .i64 0, .int .i64 0, .slice none 0 0] := hov.put us.at_ us.ch rfl
     replace hps := hps.own us.ch (fun j hj e => by (try dsimp only at e); omega)
     have cus := us.ch
     replace hrow := orow_mine monAn hrow us.ch (mine_ne hov9.1 (by decide)) (fun j hj e => by have := (ORow.lt hrow j hj).1; (try dsimp only at e); omega)
     
     have hS := hS.trans cus (fun _ _ e => e) (fun _ _ e => .inr (.inr e))
     refine WL.nil Nx.thn ⟨hS, ?_⟩
     refine WH.done (by kernel_rfl) ?_
     refine WL.e3 (Nx.blk Nx.thn) 0 2 3 (jt4 rfl (jt2 rfl (lt rfl (s0)))) (jt4 rfl (jt2 rfl (lt rfl (s2)))) (jt4 rfl (jt2 rfl (lt rfl (s3)))) ?_
     intro σ16 s0 s2 s3
     have hszz := hov.lt
     refine ⟨r11, hlw, ⟨s0.trans qo4.symm, s2.trans qo5.symm, s3.trans qo6.symm, trivial⟩, acc ++ [a11], .slice la2 (acc.length + 1) lc2, hov, hps, hrow, hgo.trans (many_step (pc_an fP) rfl hs10 hk11), (by rw [List.length_append, List.length_singleton]; omega), (by have := cus.size; have := ca11_5.size; omega)⟩
  ·
   obtain ⟨la, lcp, rfl⟩ := orow_form hrow
   replace hgo := hgo.trans (many_end hs10)
   refine W.exit (Nx.xthn (Nx.xthn (Nx.xblk Nx.thn))) ?_
   refine W.seq ?_
   refine W.region ?_
   refine WL.x (X.mv (s0)) rfl ?_
   refine WL.callP2 ce60 (lh) lc (word_ok B p rr wLevel w13 hps) rfl (by rintro v w' ⟨hn, rfl, cx⟩; exact ⟨_, rfl, hgo.trans (bind_none (tok_no hn)), rfl, (hov.ch0 cx).2.2.1⟩) ?_
   rintro _ w29 ⟨hs12, rfl, hps, c12⟩
   replace hov := hov.call c12
   replace hrow := orow_mine monAn hrow c12 (fun j hj e => by have := hj.1; (try dsimp only at e); omega) (fun j hj e => by have := (ORow.lt hrow j hj).1; (try dsimp only at e); omega)
   replace hgo := hgo.trans (bind_eq (tok_go hs12))
   obtain ⟨r12, hr12⟩ : ∃ r12, r12 = rr.tail := ⟨_, rfl⟩
   rw [← hr12] at hps hgo
   refine WL.e3 Nx.thn 0 2 3 (jt2 rfl (s0)) (jt2 rfl (s2)) (jt2 rfl (s3)) ?_
   intro σ17 s0 s2 s3
   refine W.seq ?_
   refine W.region ?_
   refine WL.x (X.mv (s0)) rfl ?_
   refine WL.callP1 ce65 (lh) (level_ok B p r12 w29 hps) rfl (by rintro v w' ⟨hn, rfl, cx⟩; exact ⟨_, rfl, hgo.trans (bind_none hn), rfl, (hov.call cx).2.2.1⟩) ?_
   rintro _ w30 ⟨lv1, r13, hk13, rfl, hps, c13⟩
   replace hov := hov.call c13
   replace hrow := orow_mine monAn hrow c13 (fun j hj e => by have := hj.1; (try dsimp only at e); omega) (fun j hj e => by have := (ORow.lt hrow j hj).1; (try dsimp only at e); omega)
   replace hgo := hgo.trans (bind_eq hk13)
   refine WL.x (X.fieldAddr fd25_3 (jt2 rfl (s3))) rfl ?_
   refine WL.store el3 (lh) (lt rfl (lh)) rfl hov.1 (show 0 + 3 < 6 by decide) ?_
   intro w31 us
   have hob9 := hov.lt
   have hlo9 := hov.2.2.2.1
   have hov9 := hov
   replace hov : OV p 25 ob rb w w31 #[.int .i64 n1, .bool u1, .slice la acc.length lcp, .int .i64 lv1, .int .i64 0, .slice none 0 0] := hov.put us.at_ us.ch rfl
   replace hps := hps.own us.ch (fun j hj e => by (try dsimp only at e); omega)
   have cus := us.ch
   replace hrow := orow_mine monAn hrow us.ch (mine_ne hov9.1 (by decide)) (fun j hj e => by have := (ORow.lt hrow j hj).1; (try dsimp only at e); omega)
   
   refine WL.e3 Nx.thn 0 2 3 (jt2 rfl (lt rfl (s0))) (jt2 rfl (lt rfl (s2))) (jt2 rfl (lt rfl (s3))) ?_
   intro σ18 s0 s2 s3
   refine W.seq ?_
   refine W.region ?_
   refine WL.x (X.mv (s0)) rfl ?_
   refine WL.callP1 ce62 (lh) (ends_ok B p r13 w31 hps) rfl (by rintro v w' ⟨hn, rfl, cx⟩; exact ⟨_, rfl, hgo.trans (bind_none hn), rfl, (hov.ch0 cx).2.2.1⟩) ?_
   rintro _ w32 ⟨r14, hk14, hps, c14⟩
   replace hov := hov.call c14
   replace hrow := orow_mine monAn hrow c14 (fun j hj e => by have := hj.1; (try dsimp only at e); omega) (fun j hj e => by have := (ORow.lt hrow j hj).1; (try dsimp only at e); omega)
   replace hgo := hgo.trans (bind_eq hk14)
   refine WL.e3 Nx.thn 0 2 3 (jt2 rfl (s0)) (jt2 rfl (s2)) (jt2 rfl (s3)) ?_
   intro σ19 s0 s2 s3
   refine W.seq ?_
   refine W.region ?_
   refine WL.x (X.mv (s0)) rfl ?_
   refine WL.callP2 ce60 (lh) lc (word_ok B p r14 wAnswer w32 hps) rfl (by rintro v w' ⟨hn, rfl, cx⟩; exact ⟨_, rfl, hgo.trans (bind_none (tok_no hn)), rfl, (hov.ch0 cx).2.2.1⟩) ?_
   rintro _ w33 ⟨hs15, rfl, hps, c15⟩
   replace hov := hov.call c15
   replace hrow := orow_mine monAn hrow c15 (fun j hj e => by have := hj.1; (try dsimp only at e); omega) (fun j hj e => by have := (ORow.lt hrow j hj).1; (try dsimp only at e); omega)
   replace hgo := hgo.trans (bind_eq (tok_go hs15))
   obtain ⟨r16, hr16⟩ : ∃ r16, r16 = r14.tail := ⟨_, rfl⟩
   rw [← hr16] at hps hgo
   refine WL.e3 Nx.thn 0 2 3 (jt2 rfl (s0)) (jt2 rfl (s2)) (jt2 rfl (s3)) ?_
   intro σ20 s0 s2 s3
   refine W.seq ?_
   refine W.region ?_
   refine WL.call0 ce39  (answers_ok w33) rfl ?_
   rintro _ w34 ⟨rfl, ck⟩
   refine WL.alloc el86 rfl ?_
   intro w35 u16_1; have hu16_1 := u16_1.at_; have cu16_1 := u16_1.ch; have zu16_1 := u16_1.size
   refine WL.storeS (vs := AWS.map Value.string) ag86 (lh) (lt rfl (lh)) rfl rfl hu16_1 (by decide) ?_
   intro w36 us
   have hall : w36.heap[(_ : Nat)]? = some (Obj.cells (tabV AWS) 86 (0, 0)) := us.at_
   have cs2 := us.ch
   obtain ⟨oa, hoa⟩ : ∃ oa, oa = w35.heap.size - 1 := ⟨_, rfl⟩
   have hov8 := hov.lt
   have hlo8 := hov.2.2.2.1
   have zk := ck.size
   replace hov := ((hov.ch0 ck).ch0 cu16_1).step cs2 (fun j e => by (try dsimp only at e); exact ⟨by omega, by omega, .inr (by omega)⟩)
   replace hps := ((hps.ch0 ck).ch0 cu16_1).own cs2 (fun j hj e => by (try dsimp only at e); omega)
   replace hrow := orow_mine monAn hrow ck (fun _ _ e => e) (fun _ _ e => e)
   replace hrow := orow_mine monAn hrow cu16_1 (fun _ _ e => e) (fun _ _ e => e)
   replace hrow := orow_mine monAn hrow cs2 (mine_ne hu16_1 (by decide)) (fun j hj e => by have := (ORow.lt hrow j hj).2; (try dsimp only at e); have := lt_of_blk hu16_1; exact absurd e (by rintro rfl; exact absurd (hrow.mine (ts := [67]) (b0 := 0) (by decide) (Nat.zero_le _) _ hj) (fun hm => mine_ne (ts := [67]) (b0 := 0) hu16_1 (by decide) _ hm rfl)))
   have zall := lt_of_blk hall
   have zoa := hov.lt
   refine WL.e4 Nx.thn 0 2 3 4 (jt2 rfl (s0)) (jt2 rfl (s2)) (jt2 rfl (s3)) (lh) ?_
   intro σ21 s0 s2 s3 s4
   refine W.seq ?_
   refine W.held (fun w' => Ch (fun j => j = p ∨ j = ob) w36 w') mo ?_
   intro w37 qhh9 qc10
   have hS : Ch (fun j => j = p ∨ j = ob) w36 w37 := Ch.weak qc10
   have hzqc10 := qc10.size
   have cdh17 := qc10
   replace hov := hov.ch0 cdh17
   replace hps := hps.ch0 cdh17
   replace hall := cdh17.at0 hall
   replace hrow := orow_mine monAn hrow cdh17 (fun _ _ e => e) (fun _ _ e => e)
   refine WH.takeP 0 rfl (by kernel_rfl) (by kernel_rfl) (by kernel_rfl) (fun _ _ _ _ _ h => h) Gd.none rfl (fun w' hS' => X.slArr (len := 4) Tryz.underlying86 el9 (s4)) hS ?_
   refine WH.takeP 1 rfl (by kernel_rfl) (by kernel_rfl) (by kernel_rfl) (fun _ _ _ _ _ h => h) Gd.none rfl (fun w' hS' => X.mv (lt rfl (s0))) hS ?_
   refine WH.one 2 rfl (by kernel_rfl) (fun _ _ h => h) ?_
   refine WL.callP2 ce60 (lh) lc (word_ok B p r16 no w37 hps) rfl (by rintro v w' ⟨hn, rfl, cx⟩; exact ⟨_, rfl, hgo.trans (bind_none (word_no hn)), rfl, (hov.ch0 cx).2.2.1⟩) ?_
   rintro _ w38 ⟨hs17, rfl, hps, c17⟩
   replace hall := c17.at hall (fun e => by (try dsimp only at e); omega)
   replace hov := hov.call c17
   replace hrow := orow_mine monAn hrow c17 (fun j hj e => by have := hj.1; (try dsimp only at e); omega) (fun j hj e => by have := (ORow.lt hrow j hj).1; (try dsimp only at e); omega)
   replace hgo := hgo.trans (bind_eq (ans_go hs17))
   obtain ⟨r17, hr17⟩ : ∃ r17, r17 = r16.tail := ⟨_, rfl⟩
   rw [← hr17] at hps hgo
   have hS := hS.trans c17 (fun _ _ e => e) (fun _ _ e => .inl e)
   refine WL.nil Nx.thn ⟨hS, ?_⟩
   refine WH.one 3 rfl (by kernel_rfl) (fun _ _ h => h) ?_
   refine WL.call2 ce66 (jt2 rfl (lh)) (lh) (sidx_ok _ 4 4 86 AWS (hdX r16) w38 rfl hall (by decide)) rfl ?_
   rintro _ _ ⟨rfl, rfl⟩
   refine WL.nil Nx.thn ⟨hS, ?_⟩
   refine WH.takeP 4 rfl (by kernel_rfl) (by kernel_rfl) (by kernel_rfl) (fun _ _ _ _ _ h => h) Gd.none rfl (fun w' hS' => X.fieldAddr fd25_4 (jt4 rfl (s3))) hS ?_
   refine WH.one 5 rfl (by kernel_rfl) (fun _ _ h => h) ?_
   refine WL.store el3 (lh) (show ev _ (.tmp _) = .int .i64 (ansV (hdX r16)) from (lt rfl (lh))) rfl hov.1 (show 0 + 4 < 6 by decide) ?_
   intro w39 us
   have hob9 := hov.lt
   have hlo9 := hov.2.2.2.1
   have hov9 := hov
   replace hov : OV p 25 ob rb w w39 #[.int .i64 n1, .bool u1, .slice la acc.length lcp, .int .i64 lv1, .int .i64 (ansV (hdX r16)), .slice none 0 0] := hov.put us.at_ us.ch rfl
   replace hps := hps.own us.ch (fun j hj e => by (try dsimp only at e); omega)
   have cus := us.ch
   replace hrow := orow_mine monAn hrow us.ch (mine_ne hov9.1 (by decide)) (fun j hj e => by have := (ORow.lt hrow j hj).1; (try dsimp only at e); omega)
   obtain ⟨an, han⟩ : ∃ an, an = ansV (hdX r16) := ⟨_, rfl⟩
   rw [← han] at hov hgo
   obtain ⟨wl2, hwl2⟩ : ∃ wl2, wl2 = w39.heap.size := ⟨_, rfl⟩
   obtain ⟨wq, hwq⟩ : ∃ wq, wq = w39 := ⟨_, rfl⟩
   have hcA : Ch (fun j => j = p ∨ j = ob) wq w39 := by rw [hwq]; exact Ch.refl _ _
   have hovq := hov
   rw [← hwq] at hovq hrow
   have hobq := hov.lt
   have hloq := hov.2.2.2.1
   have hS := hS.trans cus (fun _ _ e => e) (fun _ _ e => .inr e)
   refine WL.nil Nx.thn ⟨hS, ?_⟩
   refine WH.done (by kernel_rfl) ?_
   refine WL.e3 Nx.thn 0 2 3 (jt4 rfl (lt rfl (s0))) (jt4 rfl (lt rfl (s2))) (jt4 rfl (lt rfl (s3))) ?_
   intro σ22 s0 s2 s3
   have qo11 := s0
   have qo12 := s2
   have qo13 := s3
   refine W.seqJ (fun σ' w' => (σ' 0 = σ22 0 ∧ σ' 2 = σ22 2 ∧ σ' 3 = σ22 3 ∧ True) ∧ ∃ oo uo r, OV p 25 ob rb w w' #[.int .i64 n1, .bool u1, .slice la acc.length lcp, .int .i64 lv1, .int .i64 an, uo] ∧ PS B p r w' ∧ w'.ownsRow wl2 3 1 uo oo.length (ints oo) ∧ Ch (fun j => j = p ∨ j = ob) wq w' ∧ prep fP (skipP ts) = repK3 n1 u1 acc lv1 an oo r ∧ oo.length ≤ 20000 ∧ (∀ z ∈ oo, in64 z)) ?_ ?_
   ·
    refine W.seq ?_
    refine W.region ?_
    refine WL.x (X.fieldAddr fd25_4 (s3)) rfl ?_
    refine WL.x (X.load pl3 (lh) hov.1 (v := .int .i64 an) rfl) rfl ?_
    refine WL.x (X.eql (lh) lc) rfl ?_
    refine WL.e4 Nx.thn 0 2 3 50 (jt2 rfl (lt rfl (s0))) (jt2 rfl (lt rfl (s2))) (jt2 rfl (lt rfl (s3))) (lh) ?_
    intro σ23 s0 s2 s3 s50
    refine W.cndp s50 (fun hyes => ?_) (fun hyes => ?_)
    ·
     replace hgo := hgo.trans (order_yes hyes _ _)
     refine W.seq ?_
     refine W.region ?_
     refine WL.x (X.mv (s0)) rfl ?_
     refine WL.callP2 ce67 (lh) lc (mark_ok B p r17 (mk1 40) w39 hps) rfl (by rintro v w' ⟨hn, rfl, cx⟩; exact ⟨_, rfl, hgo.trans (bind_none (tok_no hn)), rfl, (hov.ch0 cx).2.2.1⟩) ?_
     rintro _ w40 ⟨hs19, hps, c19⟩
     replace hov := hov.call c19
     replace hcA := hcA.trans c19 (H := fun j => j = p ∨ j = ob) (fun _ _ e => e) (fun j hj e => by ((try dsimp only at e); omega))
     replace hgo := hgo.trans (bind_eq (tok_go hs19))
     obtain ⟨r19, hr19⟩ : ∃ r19, r19 = r17.tail := ⟨_, rfl⟩
     rw [← hr19] at hps hgo
     refine WL.e3 Nx.thn 0 2 3 (jt2 rfl (s0)) (jt2 rfl (s2)) (jt2 rfl (s3)) ?_
     intro σ24 s0 s2 s3
     refine W.seq ?_
     refine W.block ?_
     have qo14 := s0
     have qo15 := s2
     have qo16 := s3
     -- loop 2: kept [0, 2, 3], varied []
     refine W.loop (G := List Tok) (fun rr σ' w' => (σ' 0 = σ24 0 ∧ σ' 2 = σ24 2 ∧ σ' 3 = σ24 3 ∧ True) ∧ (∃ oo uo, OV p 25 ob rb w w' #[.int .i64 n1, .bool u1, .slice la acc.length lcp, .int .i64 lv1, .int .i64 an, uo] ∧ PS B p rr w' ∧ w'.ownsRow wl2 3 1 uo oo.length (ints oo) ∧ Ch (fun j => j = p ∨ j = ob) wq w' ∧ prep fP (skipP ts) = pbind (pmany (fun ts => seesB ts 2 no) pnum) (fun l => repK4 n1 u1 acc lv1 an (oo ++ l)) rr ∧ oo.length + rr.length ≤ 20000 ∧ (∀ z ∈ oo, in64 z) ∧ wl2 ≤ w'.heap.size)) (fun rr => rr.length) (r19) ⟨⟨rfl, rfl, rfl, trivial⟩, [], .slice none 0 0, hov, hps, World.ownsRow_nil _ _ _ _, hcA, hgo, (by rw [List.length_nil, Nat.zero_add]; exact hps.len), (fun _ h => by cases h), (by have := c19.size; omega)⟩ ?_
     rintro rr σ25 w41 ⟨⟨f0, f2, f3, _⟩, oo, uo, hov, hps, hord, hcA, hgo, h20o, hino, hwo⟩
     have s0 := f0.trans qo14
     have s2 := f2.trans qo15
     have s3 := f3.trans qo16
     have hpsr := hps
     refine W.seq ?_
     refine W.seq ?_
     refine W.region ?_
     refine WL.x (X.mv (s0)) rfl ?_
     refine WL.call3 ce58 (lh) lc lc (sees_ok B p rr 2 no w41 hps) rfl ?_
     rintro _ _ ⟨rfl, rfl⟩
     refine WL.e4 Nx.thn 0 2 3 54 (jt2 rfl (s0)) (jt2 rfl (s2)) (jt2 rfl (s3)) (lh) ?_
     intro σ26 s0 s2 s3 s54
     refine W.cnd s54 (fun hs20 => ?_) (fun hs20 => ?_)
     ·
      obtain ⟨uo1, uc1, rfl⟩ := own_form hord
      refine W.skip Nx.thn ?_
      refine W.block ?_
      refine W.held (fun w' => Ch (fun j => j = p ∨ slBlk (.slice uo1 oo.length uc1) j ∨ j = ob) w41 w') mo ?_
      intro w42 qhh17 qc18
      have hS : Ch (fun j => j = p ∨ slBlk (.slice uo1 oo.length uc1) j ∨ j = ob) w41 w42 := Ch.weak qc18
      have hzqc18 := qc18.size
      have cdh21 := qc18
      replace hov := hov.ch0 cdh21
      replace hps := hps.ch0 cdh21
      replace hord := own_ch hord cdh21 (fun _ _ => id)
      replace hcA := hcA.trans cdh21 (H := fun j => j = p ∨ j = ob) (fun _ _ e => e) (fun j hj e => by exact e.elim)
      have zcd := cdh21.size
      refine WH.takeP 0 rfl (by kernel_rfl) (by kernel_rfl) (by kernel_rfl) (fun _ _ _ _ _ h => h) Gd.none rfl (fun w' hS' => X.fieldAddr fd25_5 (s3)) hS ?_
      refine WH.takeP 2 rfl (by kernel_rfl) (by kernel_rfl) (by kernel_rfl) (fun _ _ _ _ _ h => h) Gd.none rfl (fun w' hS' => X.mv (lt rfl (s0))) hS ?_
      refine WH.two 1 3 rfl rfl (by kernel_rfl) (fun _ _ h => h) ?_ ?_
      ·
       refine WL.x (X.load pl23 (lt rfl (lh)) hov.1 (v := .slice uo1 oo.length uc1) rfl) rfl ?_
       refine WL.nil Nx.thn ⟨hS, ?_⟩
       refine WH.one 3 rfl (by kernel_rfl) (fun _ _ h => h) ?_
       refine WL.callP3 ce59 (lt rfl (lh)) lc lc (take_ok B p rr 2 no w42 hps) rfl (by rintro v w' ⟨hn, rfl, cx⟩; rw [hs20] at hn; cases hn) ?_
       rintro _ w43 ⟨t2, r2, hrr, hs21, rfl, hps, c21⟩
       have hlo8 := hov.2.2.2.1
       replace hov := hov.call c21
       replace hcA := hcA.trans c21 (H := fun j => j = p ∨ j = ob) (fun _ _ e => e) (fun j hj e => by ((try dsimp only at e); omega))
       replace hord := own_ch hord c21 (fun k hk e => by have := (own_lt hord hk).1; (try dsimp only at e); omega)
       have hS := hS.trans c21 (fun _ _ e => e) (fun _ _ e => .inl e)
       refine WL.nil Nx.thn ⟨hS, ?_⟩
       refine WH.takeP 4 rfl (by kernel_rfl) (by kernel_rfl) (by kernel_rfl) (fun _ _ _ _ _ h => h) Gd.none rfl (fun w' hS' => X.field fv60_3 (lh) (by rfl)) hS ?_
       refine WH.one 5 rfl (by kernel_rfl) (fun _ _ h => h) ?_
       refine WL.bslice Tryz.underlying23 el3 rfl (pcons (lh) pnil) rfl (rfl : _ = [_]) rfl ?_
       intro w44 u21_5; have hu21_5 := u21_5.at_; have cu21_5 := u21_5.ch; have zu21_5 := u21_5.size
       have hS := hS.trans cu21_5 (fun _ _ => id) (by intro i hi hg; exact False.elim hg)
       refine WL.nil Nx.thn ⟨hS, ?_⟩
       refine WH.one 6 rfl (by kernel_rfl) (fun _ _ h => h) ?_
       replace hov := hov.ch0 cu21_5
       replace hps := hps.ch0 cu21_5
       replace hord := own_ch hord cu21_5 (fun _ _ => id)
       replace hcA := hcA.trans cu21_5 (H := fun j => j = p ∨ j = ob) (fun _ _ e => e) (fun j hj e => by exact e.elim)
       have zl3 := c21.size
       have zl5 := cu21_5.size
       have hi9 : in64 t2.2.2.2 := by have h9 := hpsr.hdN_; rw [hrr] at h9; exact h9
       refine WL.append Tryz.underlying23 el3 rfl (by decide) (jt2 rfl (lt rfl (lh))) (lh) (hord) (by assumption) rfl (by exact ones_of rfl) (by unfold maxLen; omega) (by omega) (by omega) rfl ?_
       intro va21_6 w45 ho21_6 ca21_6
       have hord9 := hord
       replace hov := hov.step ca21_6 (fun j hj => by have := (own_lt hord9 hj).1; exact ⟨by omega, by omega, .inr (by omega)⟩)
       replace hps := hps.own ca21_6 (fun j hj e => by have := (own_lt hord9 e).1; omega)
       replace hcA := hcA.trans ca21_6 (H := fun j => j = p ∨ j = ob) (fun _ _ e => e) (fun j hj e => by have := (own_lt hord9 e).1; rw [hwq, ← hwl2] at hj; omega)
       obtain ⟨uo2, uc2, rfl⟩ : ∃ uo2 uc2, va21_6 = .slice uo2 (oo.length + 1) uc2 := own_form ho21_6
       have hS := hS.trans ca21_6 (fun _ _ e => e) (fun _ _ e => .inr (.inl e))
       refine WL.nil Nx.thn ⟨hS, ?_⟩
       refine WH.takeP 7 rfl (by kernel_rfl) (by kernel_rfl) (by kernel_rfl) (fun _ _ _ _ _ h => h) Gd.none rfl (fun w' hS' => X.fieldAddr fd25_5 (jt4 rfl (jt2 rfl (lt rfl (s3))))) hS ?_
       refine WH.one 8 rfl (by kernel_rfl) (fun _ _ h => h) ?_
       refine WL.store el23 (lh) (lt rfl (lh)) rfl hov.1 (show 0 + 5 < 6 by decide) ?_
       intro w46 us
       have hob9 := hov.lt
       have hlo9 := hov.2.2.2.1
       have hov9 := hov
       replace hov : OV p 25 ob rb w w46 #[.int .i64 n1, .bool u1, .slice la acc.length lcp, .int .i64 lv1, .int .i64 an, .slice uo2 (oo.length + 1) uc2] := hov.put us.at_ us.ch rfl
       replace hps := hps.own us.ch (fun j hj e => by (try dsimp only at e); omega)
       have cus := us.ch
       replace hord := own_ch ho21_6 us.ch (fun k hk e => by have := (own_lt ho21_6 hk).1; (try dsimp only at e); omega)
       replace hcA := hcA.trans us.ch (H := fun j => j = p ∨ j = ob) (fun _ _ e => e) (fun j hj e => by ((try dsimp only at e); omega))
       
       have hS := hS.trans cus (fun _ _ e => e) (fun _ _ e => .inr (.inr e))
       refine WL.nil Nx.thn ⟨hS, ?_⟩
       refine WH.done (by kernel_rfl) ?_
       refine WL.e3 (Nx.blk Nx.thn) 0 2 3 (jt8 rfl (s0)) (jt8 rfl (s2)) (jt8 rfl (s3)) ?_
       intro σ27 s0 s2 s3
       have hszz := hov.lt
       refine ⟨r2, by rw [hrr]; simp, ⟨s0.trans qo14.symm, s2.trans qo15.symm, s3.trans qo16.symm, trivial⟩, oo ++ [t2.2.2.2], .slice uo2 (oo.length + 1) uc2, hov, hps, (by rw [List.length_append, show ints (oo ++ [t2.2.2.2]) = ints oo ++ [.int .i64 t2.2.2.2] from List.map_append ..]; exact hord), hcA, hgo.trans ((many_step (K := repK4 n1 u1 acc lv1 an) pc_num rfl hs20 (num_go hs20)).trans (by rw [hrr]; rfl)), (by rw [List.length_append, List.length_singleton]; rw [hrr, List.length_cons] at h20o; omega), (fun z hz => by rcases List.mem_append.1 hz with hz | hz; (· exact hino z hz); (· rw [List.mem_singleton.1 hz]; exact hi9)), (by have := cus.size; have := ca21_6.size; omega)⟩
      ·
       refine WL.callP3 ce59 (lh) lc lc (take_ok B p rr 2 no w42 hps) rfl (by rintro v w' ⟨hn, rfl, cx⟩; rw [hs20] at hn; cases hn) ?_
       rintro _ w47 ⟨t2, r2, hrr, hs21, rfl, hps, c21⟩
       have hlo8 := hov.2.2.2.1
       replace hov := hov.call c21
       replace hcA := hcA.trans c21 (H := fun j => j = p ∨ j = ob) (fun _ _ e => e) (fun j hj e => by ((try dsimp only at e); omega))
       replace hord := own_ch hord c21 (fun k hk e => by have := (own_lt hord hk).1; (try dsimp only at e); omega)
       have hS := hS.trans c21 (fun _ _ e => e) (fun _ _ e => .inl e)
       refine WL.nil Nx.thn ⟨hS, ?_⟩
       refine WH.takeP 4 rfl (by kernel_rfl) (by kernel_rfl) (by kernel_rfl) (fun _ _ _ _ _ h => h) Gd.none rfl (fun w' hS' => X.field fv60_3 (lh) (by rfl)) hS ?_
       refine WH.two 1 5 rfl rfl (by kernel_rfl) (fun _ _ h => h) ?_ ?_
       ·
        refine WL.x (X.load pl23 (jt2 rfl (lt rfl (lh))) hov.1 (v := .slice uo1 oo.length uc1) rfl) rfl ?_
        refine WL.nil Nx.thn ⟨hS, ?_⟩
        refine WH.one 5 rfl (by kernel_rfl) (fun _ _ h => h) ?_
        refine WL.bslice Tryz.underlying23 el3 rfl (pcons (lt rfl (lh)) pnil) rfl (rfl : _ = [_]) rfl ?_
        intro w48 u21_5; have hu21_5 := u21_5.at_; have cu21_5 := u21_5.ch; have zu21_5 := u21_5.size
        have hS := hS.trans cu21_5 (fun _ _ => id) (by intro i hi hg; exact False.elim hg)
        refine WL.nil Nx.thn ⟨hS, ?_⟩
        refine WH.one 6 rfl (by kernel_rfl) (fun _ _ h => h) ?_
        replace hov := hov.ch0 cu21_5
        replace hps := hps.ch0 cu21_5
        replace hord := own_ch hord cu21_5 (fun _ _ => id)
        replace hcA := hcA.trans cu21_5 (H := fun j => j = p ∨ j = ob) (fun _ _ e => e) (fun j hj e => by exact e.elim)
        have zl3 := c21.size
        have zl5 := cu21_5.size
        have hi9 : in64 t2.2.2.2 := by have h9 := hpsr.hdN_; rw [hrr] at h9; exact h9
        refine WL.append Tryz.underlying23 el3 rfl (by decide) (lt rfl (lh)) (lh) (hord) (by assumption) rfl (by exact ones_of rfl) (by unfold maxLen; omega) (by omega) (by omega) rfl ?_
        intro va21_6 w49 ho21_6 ca21_6
        have hord9 := hord
        replace hov := hov.step ca21_6 (fun j hj => by have := (own_lt hord9 hj).1; exact ⟨by omega, by omega, .inr (by omega)⟩)
        replace hps := hps.own ca21_6 (fun j hj e => by have := (own_lt hord9 e).1; omega)
        replace hcA := hcA.trans ca21_6 (H := fun j => j = p ∨ j = ob) (fun _ _ e => e) (fun j hj e => by have := (own_lt hord9 e).1; rw [hwq, ← hwl2] at hj; omega)
        obtain ⟨uo2, uc2, rfl⟩ : ∃ uo2 uc2, va21_6 = .slice uo2 (oo.length + 1) uc2 := own_form ho21_6
        have hS := hS.trans ca21_6 (fun _ _ e => e) (fun _ _ e => .inr (.inl e))
        refine WL.nil Nx.thn ⟨hS, ?_⟩
        refine WH.takeP 7 rfl (by kernel_rfl) (by kernel_rfl) (by kernel_rfl) (fun _ _ _ _ _ h => h) Gd.none rfl (fun w' hS' => X.fieldAddr fd25_5 (jt4 rfl (jt2 rfl (lt rfl (s3))))) hS ?_
        refine WH.one 8 rfl (by kernel_rfl) (fun _ _ h => h) ?_
        refine WL.store el23 (lh) (lt rfl (lh)) rfl hov.1 (show 0 + 5 < 6 by decide) ?_
        intro w50 us
        have hob9 := hov.lt
        have hlo9 := hov.2.2.2.1
        have hov9 := hov
        replace hov : OV p 25 ob rb w w50 #[.int .i64 n1, .bool u1, .slice la acc.length lcp, .int .i64 lv1, .int .i64 an, .slice uo2 (oo.length + 1) uc2] := hov.put us.at_ us.ch rfl
        replace hps := hps.own us.ch (fun j hj e => by (try dsimp only at e); omega)
        have cus := us.ch
        replace hord := own_ch ho21_6 us.ch (fun k hk e => by have := (own_lt ho21_6 hk).1; (try dsimp only at e); omega)
        replace hcA := hcA.trans us.ch (H := fun j => j = p ∨ j = ob) (fun _ _ e => e) (fun j hj e => by ((try dsimp only at e); omega))
        
        have hS := hS.trans cus (fun _ _ e => e) (fun _ _ e => .inr (.inr e))
        refine WL.nil Nx.thn ⟨hS, ?_⟩
        refine WH.done (by kernel_rfl) ?_
        refine WL.e3 (Nx.blk Nx.thn) 0 2 3 (jt8 rfl (s0)) (jt8 rfl (s2)) (jt8 rfl (s3)) ?_
        intro σ28 s0 s2 s3
        have hszz := hov.lt
        refine ⟨r2, by rw [hrr]; simp, ⟨s0.trans qo14.symm, s2.trans qo15.symm, s3.trans qo16.symm, trivial⟩, oo ++ [t2.2.2.2], .slice uo2 (oo.length + 1) uc2, hov, hps, (by rw [List.length_append, show ints (oo ++ [t2.2.2.2]) = ints oo ++ [.int .i64 t2.2.2.2] from List.map_append ..]; exact hord), hcA, hgo.trans ((many_step (K := repK4 n1 u1 acc lv1 an) pc_num rfl hs20 (num_go hs20)).trans (by rw [hrr]; rfl)), (by rw [List.length_append, List.length_singleton]; rw [hrr, List.length_cons] at h20o; omega), (fun z hz => by rcases List.mem_append.1 hz with hz | hz; (· exact hino z hz); (· rw [List.mem_singleton.1 hz]; exact hi9)), (by have := cus.size; have := ca21_6.size; omega)⟩
       ·
        refine WL.bslice Tryz.underlying23 el3 rfl (pcons (lh) pnil) rfl (rfl : _ = [_]) rfl ?_
        intro w51 u21_5; have hu21_5 := u21_5.at_; have cu21_5 := u21_5.ch; have zu21_5 := u21_5.size
        have hS := hS.trans cu21_5 (fun _ _ => id) (by intro i hi hg; exact False.elim hg)
        refine WL.nil Nx.thn ⟨hS, ?_⟩
        refine WH.one 1 rfl (by kernel_rfl) (fun _ _ h => h) ?_
        refine WL.x (X.load pl23 (jt4 rfl (lh)) (hov.ch0 cu21_5).1 (v := .slice uo1 oo.length uc1) rfl) rfl ?_
        refine WL.nil Nx.thn ⟨hS, ?_⟩
        refine WH.one 6 rfl (by kernel_rfl) (fun _ _ h => h) ?_
        replace hov := hov.ch0 cu21_5
        replace hps := hps.ch0 cu21_5
        replace hord := own_ch hord cu21_5 (fun _ _ => id)
        replace hcA := hcA.trans cu21_5 (H := fun j => j = p ∨ j = ob) (fun _ _ e => e) (fun j hj e => by exact e.elim)
        have zl3 := c21.size
        have zl5 := cu21_5.size
        have hi9 : in64 t2.2.2.2 := by have h9 := hpsr.hdN_; rw [hrr] at h9; exact h9
        refine WL.append Tryz.underlying23 el3 rfl (by decide) (lh) (lt rfl (lh)) (hord) (by assumption) rfl (by exact ones_of rfl) (by unfold maxLen; omega) (by omega) (by omega) rfl ?_
        intro va21_6 w52 ho21_6 ca21_6
        have hord9 := hord
        replace hov := hov.step ca21_6 (fun j hj => by have := (own_lt hord9 hj).1; exact ⟨by omega, by omega, .inr (by omega)⟩)
        replace hps := hps.own ca21_6 (fun j hj e => by have := (own_lt hord9 e).1; omega)
        replace hcA := hcA.trans ca21_6 (H := fun j => j = p ∨ j = ob) (fun _ _ e => e) (fun j hj e => by have := (own_lt hord9 e).1; rw [hwq, ← hwl2] at hj; omega)
        obtain ⟨uo2, uc2, rfl⟩ : ∃ uo2 uc2, va21_6 = .slice uo2 (oo.length + 1) uc2 := own_form ho21_6
        have hS := hS.trans ca21_6 (fun _ _ e => e) (fun _ _ e => .inr (.inl e))
        refine WL.nil Nx.thn ⟨hS, ?_⟩
        refine WH.takeP 7 rfl (by kernel_rfl) (by kernel_rfl) (by kernel_rfl) (fun _ _ _ _ _ h => h) Gd.none rfl (fun w' hS' => X.fieldAddr fd25_5 (jt4 rfl (jt2 rfl (lt rfl (s3))))) hS ?_
        refine WH.one 8 rfl (by kernel_rfl) (fun _ _ h => h) ?_
        refine WL.store el23 (lh) (lt rfl (lh)) rfl hov.1 (show 0 + 5 < 6 by decide) ?_
        intro w53 us
        have hob9 := hov.lt
        have hlo9 := hov.2.2.2.1
        have hov9 := hov
        replace hov : OV p 25 ob rb w w53 #[.int .i64 n1, .bool u1, .slice la acc.length lcp, .int .i64 lv1, .int .i64 an, .slice uo2 (oo.length + 1) uc2] := hov.put us.at_ us.ch rfl
        replace hps := hps.own us.ch (fun j hj e => by (try dsimp only at e); omega)
        have cus := us.ch
        replace hord := own_ch ho21_6 us.ch (fun k hk e => by have := (own_lt ho21_6 hk).1; (try dsimp only at e); omega)
        replace hcA := hcA.trans us.ch (H := fun j => j = p ∨ j = ob) (fun _ _ e => e) (fun j hj e => by ((try dsimp only at e); omega))
        
        have hS := hS.trans cus (fun _ _ e => e) (fun _ _ e => .inr (.inr e))
        refine WL.nil Nx.thn ⟨hS, ?_⟩
        refine WH.done (by kernel_rfl) ?_
        refine WL.e3 (Nx.blk Nx.thn) 0 2 3 (jt8 rfl (s0)) (jt8 rfl (s2)) (jt8 rfl (s3)) ?_
        intro σ29 s0 s2 s3
        have hszz := hov.lt
        refine ⟨r2, by rw [hrr]; simp, ⟨s0.trans qo14.symm, s2.trans qo15.symm, s3.trans qo16.symm, trivial⟩, oo ++ [t2.2.2.2], .slice uo2 (oo.length + 1) uc2, hov, hps, (by rw [List.length_append, show ints (oo ++ [t2.2.2.2]) = ints oo ++ [.int .i64 t2.2.2.2] from List.map_append ..]; exact hord), hcA, hgo.trans ((many_step (K := repK4 n1 u1 acc lv1 an) pc_num rfl hs20 (num_go hs20)).trans (by rw [hrr]; rfl)), (by rw [List.length_append, List.length_singleton]; rw [hrr, List.length_cons] at h20o; omega), (fun z hz => by rcases List.mem_append.1 hz with hz | hz; (· exact hino z hz); (· rw [List.mem_singleton.1 hz]; exact hi9)), (by have := cus.size; have := ca21_6.size; omega)⟩
     ·
      replace hgo := hgo.trans (many_end (K := repK4 n1 u1 acc lv1 an) hs20)
      refine W.exit (Nx.xthn (Nx.xthn (Nx.xblk Nx.thn))) ?_
      refine W.region ?_
      refine WL.x (X.mv (s0)) rfl ?_
      refine WL.callP2 ce67 (lh) lc (mark_ok B p rr (mk1 41) w41 hps) rfl (by rintro v w' ⟨hn, rfl, cx⟩; exact ⟨_, rfl, hgo.trans (bind_none (tok_no hn)), rfl, (hov.ch0 cx).2.2.1⟩) ?_
      rintro _ w54 ⟨hs22, hps, c22⟩
      have hlo8 := hov.2.2.2.1
      replace hov := hov.call c22
      replace hcA := hcA.trans c22 (H := fun j => j = p ∨ j = ob) (fun _ _ e => e) (fun j hj e => by ((try dsimp only at e); omega))
      replace hord := own_ch hord c22 (fun k hk e => by have := (own_lt hord hk).1; (try dsimp only at e); omega)
      replace hgo := hgo.trans (bind_eq (tok_go hs22))
      refine WL.e3 Nx.thn 0 2 3 (jt2 rfl (s0)) (jt2 rfl (s2)) (jt2 rfl (s3)) ?_
      intro σ30 s0 s2 s3
      refine ⟨⟨s0.trans qo11.symm, s2.trans qo12.symm, s3.trans qo13.symm, trivial⟩, oo, uo, _, hov, hps, hord, hcA, hgo, by omega, hino⟩
    ·
     replace hgo := hgo.trans (order_no hyes _ _)
     refine W.skip Nx.thn ?_
     refine ⟨⟨s0.trans qo11.symm, s2.trans qo12.symm, s3.trans qo13.symm, trivial⟩, [], _, r17, hov, hps, World.ownsRow_nil _ _ _ _, hcA, hgo, Nat.zero_le _, (fun _ h => by cases h)⟩
   ·
    rintro σ31 w55 ⟨⟨f0, f2, f3, _⟩, oo, uo, r23, hov, hps, hord, hcA, hgo, hlo, hino⟩
    have s0 := f0.trans qo11
    have s2 := f2.trans qo12
    have s3 := f3.trans qo13
    refine W.seq ?_
    refine W.region ?_
    refine WL.x (X.mv (s0)) rfl ?_
    refine WL.callP1 ce62 (lh) (ends_ok B p r23 w55 hps) rfl (by rintro v w' ⟨hn, rfl, cx⟩; exact ⟨_, rfl, hgo.trans (bind_none hn), rfl, (hov.ch0 cx).2.2.1⟩) ?_
    rintro _ w56 ⟨r24, hk23, hps, c23⟩
    have hlo8 := hov.2.2.2.1
    replace hov := hov.call c23
    replace hcA := hcA.trans c23 (H := fun j => j = p ∨ j = ob) (fun _ _ e => e) (fun j hj e => by ((try dsimp only at e); omega))
    replace hord := own_ch hord c23 (fun k hk e => by have := (own_lt hord hk).1; (try dsimp only at e); omega)
    replace hgo := hgo.trans (bind_eq hk23)
    refine WL.e2 Nx.thn 2 3 (jt2 rfl (s2)) (jt2 rfl (s3)) ?_
    intro σ32 s2 s3
    refine W.seq ?_
    refine W.region ?_
    obtain ⟨uo9, uc9, rfl⟩ := own_form hord
    refine WL.x (X.loadBox (vs := [.int .i64 n1, .bool u1, .slice la acc.length lcp, .int .i64 lv1, .int .i64 an, .slice uo9 oo.length uc9]) ag25 (s3) hov.1 rfl) rfl ?_
    obtain ⟨z9, hz9, hzs9⟩ := hov.2.1
    have hne9 := hov.2.2.2.2.2.1
    have hrb9 := hov.2.2.2.2.1
    have hob9 := hov.lt
    refine WL.storeS (vs := [.int .i64 n1, .bool u1, .slice la acc.length lcp, .int .i64 lv1, .int .i64 an, .slice uo9 oo.length uc9]) ag25 (lt rfl (s2)) (lh) rfl rfl hz9 (by rw [hzs9]; exact Nat.le_of_ble_eq_true rfl) ?_
    intro w57 us
    have hfin := us.at_
    rw [blit_all (by rw [hzs9]; rfl)] at hfin
    have cfin := us.ch
    refine WL.e1 Nx.thn 2 (lt rfl (s2)) ?_
    intro σ33 s2
    refine W.retG (Nx.panR Nx.fG) ⟨[_], (.cell s2 (by assumption) (by exact ag25) .nil), ?_⟩
    have hord2 := own_ch hord cfin (fun j hj e => by have := (own_lt hord hj).1; (try dsimp only at e); omega)
    have hcF : Ch (fun j => j = p ∨ j = ob ∨ j = rb) wq _ := hcA.trans cfin (H := fun j => j = p ∨ j = ob ∨ j = rb) (fun _ _ e => e.elim .inl (fun e => .inr (.inl e))) (fun _ _ e => .inr (.inr e))
    obtain ⟨zq, hzq, -⟩ := hovq.2.1
    have hmF : ∀ j, Mine [85, 67] w.heap.size wq j → ¬ (j = p ∨ j = ob ∨ j = rb) := fun j hj e => by
      rcases e with e | e | e
      · have := hj.1; omega
      · exact mine_ne hovq.1 (by decide) j hj e
      · exact mine_ne hzq (by decide) j hj e
    exact ⟨_, _, [.int .i64 n1, .bool u1, .slice la acc.length lcp, .int .i64 lv1, .int .i64 an, .slice uo9 oo.length uc9], hgo.trans rfl, rfl, rfl, ⟨_, _, rfl, ((hrow.rsl' (A' := Mine [85, 67] w.heap.size wq) monAn (fun j hj => hj.mono (by decide) (Nat.le_refl _)) (hrow.mine (by decide) (by omega))).ch monAn hcF hmF (fun j hj => (hj.ch hcF (hmF j hj)).mono (by decide) (Nat.le_refl _))), ⟨Sl.own hord2, own_mine hord2 (by decide) (by omega)⟩, by dsimp only; omega, by dsimp only; omega, i1, hino⟩, hps.own cfin (fun j hj e => by (try dsimp only at e); omega), (hov.2.2.1).trans cfin (H := fun j => j = p) (fun _ _ e => e) (fun j hj e => by ((try dsimp only at e); omega))⟩
end Go.Proofs.YtbnllchicnmkiaaGreatDoor
end
