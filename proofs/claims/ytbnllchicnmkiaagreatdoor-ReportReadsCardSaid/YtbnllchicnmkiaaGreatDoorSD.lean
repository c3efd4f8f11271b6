/-
  A part of the walk of the program.
-/
import Derived.Test.YtbnllchicnmkiaaGreatDoorSC
set_option linter.unusedVariables false
set_option linter.unusedSimpArgs false
set_option maxRecDepth 100000
namespace Go.Proofs.YtbnllchicnmkiaaGreatDoor
open Go Go.RowKit Sg
theorem ag67 : Sg.Aggr Tryz.prog 67 9 := ⟨⟨_, rfl, trivial⟩, _, rfl, rfl⟩
theorem ag85 : Sg.Aggr Tryz.prog 85 8 := ⟨⟨_, rfl, trivial⟩, _, rfl, rfl⟩
theorem el67 : Sg.Elem Tryz.prog 67 9 (.agg #[.int .i64 0, .int .i64 0, .int .i64 0, .int .i64 0, .string ⟨#[]⟩, .int .i64 0, .slice none 0 0, .bool false, .int .i64 0]) 96 := ⟨_, rfl, rfl, rfl, rfl⟩
theorem el85 : Sg.Elem Tryz.prog 85 8 (.agg #[.int .i64 0, .int .i64 0, .int .i64 0, .string ⟨#[]⟩, .int .i64 0, .int .i64 0, .bool false, .bool false]) 64 := ⟨_, rfl, rfl, rfl, rfl⟩
theorem pl65 : Sg.Plain Tryz.prog 65 := ⟨_, rfl, trivial⟩
theorem el65 : Sg.Elem Tryz.prog 65 1 (.slice none 0 0) 24 := ⟨_, rfl, rfl, rfl, rfl⟩
theorem bd67 : Sg.Bld Tryz.prog 67 [0, 1, 2, 3, 4, 5, 6, 7, 8] [.int .i64 0, .int .i64 0, .int .i64 0, .int .i64 0, .string ⟨#[]⟩, .int .i64 0, .slice none 0 0, .bool false, .int .i64 0] := ⟨_, rfl, rfl, .inl ⟨_, rfl, Sg.allIn rfl, Sg.allAt (n := 9) rfl⟩⟩
theorem fd67_1 : Sg.Fld Tryz.prog 67 1 1 := ⟨_, _, _, rfl, rfl, rfl, rfl, by decide⟩
theorem fd67_2 : Sg.Fld Tryz.prog 67 2 2 := ⟨_, _, _, rfl, rfl, rfl, rfl, by decide⟩
theorem fd67_3 : Sg.Fld Tryz.prog 67 3 3 := ⟨_, _, _, rfl, rfl, rfl, rfl, by decide⟩
theorem fd67_4 : Sg.Fld Tryz.prog 67 4 4 := ⟨_, _, _, rfl, rfl, rfl, rfl, by decide⟩
theorem fd67_5 : Sg.Fld Tryz.prog 67 5 5 := ⟨_, _, _, rfl, rfl, rfl, rfl, by decide⟩
theorem fd67_7 : Sg.Fld Tryz.prog 67 7 7 := ⟨_, _, _, rfl, rfl, rfl, rfl, by decide⟩
theorem fd67_8 : Sg.Fld Tryz.prog 67 8 8 := ⟨_, _, _, rfl, rfl, rfl, rfl, by decide⟩
theorem fd85_2 : Sg.Fld Tryz.prog 85 2 2 := ⟨_, _, _, rfl, rfl, rfl, rfl, by decide⟩
theorem fd85_1 : Sg.Fld Tryz.prog 85 1 1 := ⟨_, _, _, rfl, rfl, rfl, rfl, by decide⟩
theorem fd85_3 : Sg.Fld Tryz.prog 85 3 3 := ⟨_, _, _, rfl, rfl, rfl, rfl, by decide⟩
theorem fd85_4 : Sg.Fld Tryz.prog 85 4 4 := ⟨_, _, _, rfl, rfl, rfl, rfl, by decide⟩
theorem fd85_5 : Sg.Fld Tryz.prog 85 5 5 := ⟨_, _, _, rfl, rfl, rfl, rfl, by decide⟩
theorem fd85_6 : Sg.Fld Tryz.prog 85 6 6 := ⟨_, _, _, rfl, rfl, rfl, rfl, by decide⟩
theorem fd85_7 : Sg.Fld Tryz.prog 85 7 7 := ⟨_, _, _, rfl, rfl, rfl, rfl, by decide⟩
theorem fd67_6 : Sg.Fld Tryz.prog 67 6 6 := ⟨_, _, _, rfl, rfl, rfl, rfl, by decide⟩
theorem ce72 : Sg.Callee Tryz.prog 72 := ⟨_, Tryz.func72, by decide, rfl⟩
theorem ce24 : Sg.Callee Tryz.prog 24 := ⟨_, Tryz.func24, by decide, rfl⟩
theorem ce73 : Sg.Callee Tryz.prog 73 := ⟨_, Tryz.func73, by decide, rfl⟩
theorem ce28 : Sg.Callee Tryz.prog 28 := ⟨_, Tryz.func28, by decide, rfl⟩
theorem bd85 : Sg.Bld Tryz.prog 85 [0, 1, 2, 3, 4, 5, 6, 7] [.int .i64 0, .int .i64 0, .int .i64 0, .string ⟨#[]⟩, .int .i64 0, .int .i64 0, .bool false, .bool false] := ⟨_, rfl, rfl, .inl ⟨_, rfl, Sg.allIn rfl, Sg.allAt (n := 8) rfl⟩⟩
theorem ce25 : Sg.Callee Tryz.prog 25 := ⟨_, Tryz.func25, by decide, rfl⟩

theorem two_val {a b : ByteArray} {x : OT} {j : Nat} : aftP (pword (two a b)) x = aftP (pword (idxW [a, b])) x ∧ (ValP (pword (idxW [a, b])) x j → ValP (pword (two a b)) x (decide ((j : Int) = 0))) := by
  rw [two_idx]
  have h := word_map (f := idxW [a, b]) (g := fun i => decide (i = 0)) (x := x) (a := j)
  refine ⟨h.1, fun h1 => ?_⟩
  have h2 := h.2 h1
  rwa [show decide ((j : Int) = 0) = decide (j = 0) from decide_eq_decide.2 (by omega)]
theorem kind_val {x : OT} {j : Nat} : aftP (pword fR.kind) x = aftP (pword (idxW KWS)) x ∧ (ValP (pword (idxW KWS)) x j → ValP (pword fR.kind) x (1 + (j : Int))) := by
  rw [fR_kind]
  have h := word_map (f := idxW KWS) (g := fun (i : Nat) => (i : Int) + 1) (x := x) (a := j)
  exact ⟨h.1, fun h1 => by rw [Int.add_comm]; exact h.2 h1⟩
theorem label_val {x : OT} {j : Nat} : aftP (pword fR.label) x = aftP (pword (idxW LWS)) x ∧ (ValP (pword (idxW LWS)) x j → ValP (pword fR.label) x (labI j)) := by
  rw [fR_label]
  exact word_map
theorem answer_val {x : OT} {j : Nat} : aftP (pword fR.answer) x = aftP (pword (idxW AWS)) x ∧ (ValP (pword (idxW AWS)) x j → ValP (pword fR.answer) x (j : Int)) := by
  rw [fR_answer]
  exact word_map
theorem labI_at {j : Nat} (h : j < 4) : (#[.int .i64 1, .int .i64 2, .int .i64 4, .int .i64 8] : Array Value)[0 + (j : Int).toNat * 1]? = some (.int .i64 (labI j)) := by
  have : j = 0 ∨ j = 1 ∨ j = 2 ∨ j = 3 := by omega
  rcases this with rfl | rfl | rfl | rfl <;> rfl
set_option maxHeartbeats 6400000 in
theorem ranomaly_ok (B p : Nat) (x : OT) (w : World) (h : RX B p x w) :
  Sg.Ret Tryz.prog 27 #[.pointer (some ⟨p, 0, none⟩)] w fun v w' => ∃ a es, v = .agg es.toArray ∧ es.length = 9 ∧ RAn (Mine [85] w.heap.size w') w' es a ∧ ValP (panm fR) x a ∧ RX B p (aftP (panm fR) x) w' ∧ Ch (fun j => j = p) w w' := by
 have hBw := h.2.1
 have hpB := h.1
 refine enterG (n := 82) (l := [.pointer (some ⟨p, 0, none⟩)]) Tryz.func27 rfl rfl rfl rfl ?_
 refine W.g1 0 (v1 := .pointer (some ⟨p, 0, none⟩)) rfl ?_; intro σ s0
 refine W.seq ?_
 refine W.region ?_
 refine WL.alloc el67 rfl ?_
 intro w1 u0_0; have hu0_0 := u0_0.at_; have cu0_0 := u0_0.ch; have zu0_0 := u0_0.size
 refine WL.e2 Nx.thn 0 2 (lt rfl (s0)) (lh) ?_
 intro σ1 s0 s2
 refine W.seq ?_
 refine W.region ?_
 refine WL.x (X.mv (s0)) rfl ?_
 refine WL.call2 ce23 (lh) lc (rword_ok B p x wAnomaly w1 (h.ch0 cu0_0)) rfl ?_
 rintro _ w2 ⟨hx, c1⟩
 have hst := (StO.start x (panm fR)).step (p := ptok 1 wAnomaly) (val_tok x 1 wAnomaly)
 generalize aftP (ptok 1 wAnomaly) x = x1 at hx hst
 refine WL.e2 Nx.thn 0 2 (jt2 rfl (s0)) (jt2 rfl (s2)) ?_
 intro σ2 s0 s2
 refine W.seq ?_
 refine W.region ?_
 refine WL.x (X.mv (s0)) rfl ?_
 refine WL.call0 ce72  (rkinds_ok w2) rfl ?_
 rintro _ w3 ⟨g, rfl, hkg, hgz, ck⟩
 refine WL.call2 ce26 (lt rfl (lh)) (lh) (rone_ok B p g 11 11 x1 KWS w3 (hx.ch0 ck) rfl hkg (by decide) (by decide) (by decide)) rfl ?_
 rintro _ w4 ⟨j, rfl, hj, hv, hx, c2⟩
 have hj11 : j < 11 := hj
 replace hst := hst.step (p := pword fR.kind) (kind_val.2 hv)
 rw [kind_val (j := 0) |>.1] at hst
 generalize aftP (pword (idxW KWS)) x1 = x2 at hx hst
 first | refine WL.x (X.add lc (lh) (by omega) (by omega)) rfl ?_ | refine WL.x (X.addw lc (lh)) rfl ?_
 refine WL.x (X.build bd67 (pcons (lh) pnil) rfl (rfl : _ = [_, _, _, _, _, _, _, _, _])) rfl ?_
 refine WL.alloc el67 rfl ?_
 intro w5 u2_5; have hu2_5 := u2_5.at_; have cu2_5 := u2_5.ch; have zu2_5 := u2_5.size
 refine WL.storeS (vs := [.int .i64 (1 + (j : Int)), .int .i64 0, .int .i64 0, .int .i64 0, .string ⟨#[]⟩, .int .i64 0, .slice none 0 0, .bool false, .int .i64 0]) ag67 (lh) (lt rfl (lh)) rfl rfl hu2_5 (by decide) ?_
 intro w6 us
 have cs2 := us.ch
 obtain ⟨rb, hrb⟩ : ∃ rb, rb = w.heap.size := ⟨_, rfl⟩
 have zc1 := c1.size
 have zc2 := ck.size
 have zc3 := c2.size
 have z00 := lt_of_blk hu0_0
 have zal := lt_of_blk hu2_5
 have zal2 := cu2_5.size
 have hrb0 := cs2.at (cu2_5.at0 (c2.at (ck.at0 (c1.at hu0_0 (fun e => by (try dsimp only at e); omega))) (fun e => by (try dsimp only at e); omega))) (fun e => by (try dsimp only at e); omega)
 have hov : OV p 67 w4.heap.size w.heap.size w w6 #[.int .i64 (1 + (j : Int)), .int .i64 0, .int .i64 0, .int .i64 0, .string ⟨#[]⟩, .int .i64 0, .slice none 0 0, .bool false, .int .i64 0] := ⟨us.at_, ⟨_, hrb0, rfl⟩, ((((cu0_0.trans c1 (H := fun j => j = p) (fun _ _ e => e.elim) (fun _ _ e => e)).trans ck (H := fun j => j = p) (fun _ _ e => e) (fun j hj e => by first | exact e.elim | ((try dsimp only at e); omega))).trans c2 (H := fun j => j = p) (fun _ _ e => e) (fun j hj e => by first | exact e.elim | ((try dsimp only at e); omega))).trans cu2_5 (H := fun j => j = p) (fun _ _ e => e) (fun j hj e => by first | exact e.elim | ((try dsimp only at e); omega))).trans cs2 (H := fun j => j = p) (fun _ _ e => e) (fun j hj e => by first | exact e.elim | ((try dsimp only at e); omega)), by omega, by omega, by omega, by omega⟩
 rw [← hrb] at hov s2
 obtain ⟨ob, hob⟩ : ∃ ob, ob = w4.heap.size := ⟨_, rfl⟩
 rw [← hob] at hov ⊢
 replace hx := (hx.ch0 cu2_5).own cs2 (fun j hj e => by (try dsimp only at e); omega)
 obtain ⟨kd, hkd⟩ : ∃ kd, kd = 1 + (j : Int) := ⟨_, rfl⟩
 rw [← hkd] at hov hst
 refine WL.e3 Nx.thn 0 2 3 (jt4 rfl (jt2 rfl (s0))) (jt4 rfl (jt2 rfl (s2))) (lh) ?_
 intro σ3 s0 s2 s3
 refine W.seq ?_
 refine W.region ?_
 refine WL.x (X.mv (s0)) rfl ?_
 refine WL.call1 ce24 (lh) (rnum_ok B p x2 w6 hx) rfl ?_
 rintro _ w7 ⟨n1, rfl, i1, hv, hx, c3⟩
 replace hov := hov.call c3
 replace hst := hst.step hv
 generalize aftP pnum x2 = x3 at hx hst
 refine WL.x (X.mv (jt2 rfl (s0))) rfl ?_
 refine WL.call1 ce24 (lh) (rnum_ok B p x3 w7 hx) rfl ?_
 rintro _ w8 ⟨n2, rfl, i2, hv, hx, c4⟩
 replace hov := hov.call c4
 replace hst := hst.step hv
 generalize aftP pnum x3 = x4 at hx hst
 refine WL.x (X.mv (jt4 rfl (s0))) rfl ?_
 refine WL.call1 ce24 (lh) (rnum_ok B p x4 w8 hx) rfl ?_
 rintro _ w9 ⟨n3, rfl, i3, hv, hx, c5⟩
 replace hov := hov.call c5
 replace hst := hst.step hv
 generalize aftP pnum x4 = x5 at hx hst
 refine WL.x (X.fieldAddr fd67_1 (jt4 rfl (jt2 rfl (s3)))) rfl ?_
 refine WL.store el3 (lh) (jt4 rfl (lt rfl (lh))) rfl hov.1 (show 0 + 1 < 9 by decide) ?_
 intro w10 us
 have hob9 := hov.lt
 have hlo9 := hov.2.2.2.1
 have hov9 := hov
 replace hov : OV p 67 ob rb w w10 #[.int .i64 kd, .int .i64 n1, .int .i64 0, .int .i64 0, .string ⟨#[]⟩, .int .i64 0, .slice none 0 0, .bool false, .int .i64 0] := hov.put us.at_ us.ch rfl
 replace hx := hx.own us.ch (fun j hj e => by (try dsimp only at e); omega)
 have cus := us.ch
 
 refine WL.x (X.fieldAddr fd67_2 (jt4 rfl (jt2 rfl (lt rfl (s3))))) rfl ?_
 refine WL.store el3 (lh) (jt4 rfl (lh)) rfl hov.1 (show 0 + 2 < 9 by decide) ?_
 intro w11 us
 have hob9 := hov.lt
 have hlo9 := hov.2.2.2.1
 have hov9 := hov
 replace hov : OV p 67 ob rb w w11 #[.int .i64 kd, .int .i64 n1, .int .i64 n2, .int .i64 0, .string ⟨#[]⟩, .int .i64 0, .slice none 0 0, .bool false, .int .i64 0] := hov.put us.at_ us.ch rfl
 replace hx := hx.own us.ch (fun j hj e => by (try dsimp only at e); omega)
 have cus := us.ch
 
 refine WL.x (X.fieldAddr fd67_3 (jt8 rfl (s3))) rfl ?_
 refine WL.store el3 (lh) (jt2 rfl (lt rfl (lh))) rfl hov.1 (show 0 + 3 < 9 by decide) ?_
 intro w12 us
 have hob9 := hov.lt
 have hlo9 := hov.2.2.2.1
 have hov9 := hov
 replace hov : OV p 67 ob rb w w12 #[.int .i64 kd, .int .i64 n1, .int .i64 n2, .int .i64 n3, .string ⟨#[]⟩, .int .i64 0, .slice none 0 0, .bool false, .int .i64 0] := hov.put us.at_ us.ch rfl
 replace hx := hx.own us.ch (fun j hj e => by (try dsimp only at e); omega)
 have cus := us.ch
 
 refine WL.e3 Nx.thn 0 2 3 (jt8 rfl (lt rfl (s0))) (jt8 rfl (lt rfl (s2))) (jt8 rfl (lt rfl (s3))) ?_
 intro σ4 s0 s2 s3
 refine W.seq ?_
 refine W.region ?_
 refine WL.x (X.mv (s0)) rfl ?_
 refine WL.call1 ce73 (lh) (rkey_ok B p x5 w12 hx) rfl ?_
 rintro _ w13 ⟨kx, rfl, hkz, hv, hx, c6⟩
 replace hov := hov.call c6
 replace hst := hst.step hv
 generalize aftP pkey x5 = x6 at hx hst
 refine WL.x (X.fieldAddr fd67_4 (jt2 rfl (s3))) rfl ?_
 refine WL.store el9 (lh) (lt rfl (lh)) rfl hov.1 (show 0 + 4 < 9 by decide) ?_
 intro w14 us
 have hob9 := hov.lt
 have hlo9 := hov.2.2.2.1
 have hov9 := hov
 replace hov : OV p 67 ob rb w w14 #[.int .i64 kd, .int .i64 n1, .int .i64 n2, .int .i64 n3, .string kx, .int .i64 0, .slice none 0 0, .bool false, .int .i64 0] := hov.put us.at_ us.ch rfl
 replace hx := hx.own us.ch (fun j hj e => by (try dsimp only at e); omega)
 have cus := us.ch
 
 refine WL.e3 Nx.thn 0 2 3 (jt2 rfl (lt rfl (s0))) (jt2 rfl (lt rfl (s2))) (jt2 rfl (lt rfl (s3))) ?_
 intro σ5 s0 s2 s3
 refine W.seq ?_
 refine W.region ?_
 refine WL.x (X.mv (s0)) rfl ?_
 refine WL.call1 ce24 (lh) (rnum_ok B p x6 w14 hx) rfl ?_
 rintro _ w15 ⟨n4, rfl, i4, hv, hx, c7⟩
 replace hov := hov.call c7
 replace hst := hst.step hv
 generalize aftP pnum x6 = x7 at hx hst
 refine WL.x (X.fieldAddr fd67_5 (jt2 rfl (s3))) rfl ?_
 refine WL.store el3 (lh) (lt rfl (lh)) rfl hov.1 (show 0 + 5 < 9 by decide) ?_
 intro w16 us
 have hob9 := hov.lt
 have hlo9 := hov.2.2.2.1
 have hov9 := hov
 replace hov : OV p 67 ob rb w w16 #[.int .i64 kd, .int .i64 n1, .int .i64 n2, .int .i64 n3, .string kx, .int .i64 n4, .slice none 0 0, .bool false, .int .i64 0] := hov.put us.at_ us.ch rfl
 replace hx := hx.own us.ch (fun j hj e => by (try dsimp only at e); omega)
 have cus := us.ch
 
 refine WL.e3 Nx.thn 0 2 3 (jt2 rfl (lt rfl (s0))) (jt2 rfl (lt rfl (s2))) (jt2 rfl (lt rfl (s3))) ?_
 intro σ6 s0 s2 s3
 refine W.seq ?_
 refine W.region ?_
 refine WL.x (X.mv (s0)) rfl ?_
 refine WL.bslice Tryz.underlying39 el9 rfl (pcons lc (pcons lc pnil)) rfl (rfl : _ = [_, _]) rfl ?_
 intro w17 u6_1; have hu6_1 := u6_1.at_; have cu6_1 := u6_1.ch; have zu6_1 := u6_1.size
 refine WL.call2 ce26 (lt rfl (lh)) (lh) (rone_ok B p _ 2 2 x7 [wReal, wPlain] w17 (hx.ch0 cu6_1) rfl hu6_1 (by decide) (by decide) (by decide)) rfl ?_
 rintro _ w18 ⟨j, rfl, hj, hv, hx, c8⟩
 replace hov := (hov.ch0 cu6_1).call c8
 replace hst := hst.step (p := pword (two wReal wPlain)) (two_val.2 hv)
 rw [two_val (j := 0) |>.1] at hst
 generalize aftP (pword (idxW [wReal, wPlain])) x7 = x8 at hx hst
 obtain ⟨re, hre⟩ : ∃ re, re = decide ((j : Int) = 0) := ⟨_, rfl⟩
 rw [← hre] at hst
 refine WL.x (X.eql (lh) lc) rfl ?_
 refine WL.x (X.fieldAddr fd67_7 (jt4 rfl (s3))) rfl ?_
 refine WL.store el4 (lh) (show ev _ (.tmp _) = .bool re from by rw [hre]; exact (lt rfl (lh))) rfl hov.1 (show 0 + 7 < 9 by decide) ?_
 intro w19 us
 have hob9 := hov.lt
 have hlo9 := hov.2.2.2.1
 have hov9 := hov
 replace hov : OV p 67 ob rb w w19 #[.int .i64 kd, .int .i64 n1, .int .i64 n2, .int .i64 n3, .string kx, .int .i64 n4, .slice none 0 0, .bool re, .int .i64 0] := hov.put us.at_ us.ch rfl
 replace hx := hx.own us.ch (fun j hj e => by (try dsimp only at e); omega)
 have cus := us.ch
 
 refine WL.e3 Nx.thn 0 2 3 (jt4 rfl (lt rfl (s0))) (jt4 rfl (lt rfl (s2))) (jt4 rfl (lt rfl (s3))) ?_
 intro σ7 s0 s2 s3
 refine W.seq ?_
 refine W.region ?_
 refine WL.x (X.mv (s0)) rfl ?_
 refine WL.call1 ce28 (lh) (rlevel_ok B p x8 w19 hx) rfl ?_
 rintro _ w20 ⟨lvl, rfl, hv, hx, c9⟩
 replace hov := hov.call c9
 replace hst := hst.step hv
 generalize aftP (pword fR.level) x8 = x9 at hx hst
 refine WL.x (X.fieldAddr fd67_8 (jt2 rfl (s3))) rfl ?_
 refine WL.store el3 (lh) (lt rfl (lh)) rfl hov.1 (show 0 + 8 < 9 by decide) ?_
 intro w21 us
 have hob9 := hov.lt
 have hlo9 := hov.2.2.2.1
 have hov9 := hov
 replace hov : OV p 67 ob rb w w21 #[.int .i64 kd, .int .i64 n1, .int .i64 n2, .int .i64 n3, .string kx, .int .i64 n4, .slice none 0 0, .bool re, .int .i64 lvl] := hov.put us.at_ us.ch rfl
 replace hx := hx.own us.ch (fun j hj e => by (try dsimp only at e); omega)
 have cus := us.ch
 obtain ⟨wl, hwl0⟩ : ∃ wl, wl = w21.heap.size := ⟨_, rfl⟩
 have hobz := hov.lt
 have hobl : ob < wl ∧ rb < wl := by omega
 have hloz := hov.2.2.2.1
 refine WL.e3 Nx.thn 0 2 3 (jt2 rfl (lt rfl (s0))) (jt2 rfl (lt rfl (s2))) (jt2 rfl (lt rfl (s3))) ?_
 intro σ8 s0 s2 s3
 refine W.seq ?_
 refine W.block ?_
 have qo1 := s0
 have qo2 := s2
 have qo3 := s3
 -- loop 0: kept [0, 2, 3], varied []
 refine W.loop (G := OT) (fun xx σ' w' => (σ' 0 = σ8 0 ∧ σ' 2 = σ8 2 ∧ σ' 3 = σ8 3 ∧ True) ∧ (∃ acc lv, OV p 67 ob rb w w' #[.int .i64 kd, .int .i64 n1, .int .i64 n2, .int .i64 n3, .string kx, .int .i64 n4, lv, .bool re, .int .i64 lvl] ∧ RX B p xx w' ∧ ORow 8 RWhy (fun _ => False) w' wl 85 lv acc ∧ StO xx (x.bind (panm fR)) (pbind (pmany (fun ts => seesB ts 3 (mk1 91)) (pwhy fR)) fun l => anK2 kd n1 n2 n3 kx n4 re lvl (acc ++ l)) ∧ acc.length + lenO xx ≤ 20001 ∧ wl ≤ w'.heap.size)) (fun xx => lenO xx) (x9) ⟨⟨rfl, rfl, rfl, trivial⟩, [], .slice none 0 0, hov, hx, ORow.nil, StO.many_start (K := anK2 kd n1 n2 n3 kx n4 re lvl) hst, (by rw [List.length_nil, Nat.zero_add]; exact hx.len), by omega⟩ ?_
 rintro xx σ9 w22 ⟨⟨f0, f2, f3, _⟩, acc, lv, hov, hx, hrow, hst, h20, hwl⟩
 have s0 := f0.trans qo1
 have s2 := f2.trans qo2
 have s3 := f3.trans qo3
 refine W.seq ?_
 refine W.seq ?_
 refine W.region ?_
 refine WL.x (X.mv (s0)) rfl ?_
 refine WL.call3 ce21 (lh) lc lc (ris_ok B p xx 3 (mk1 91) w22 hx) rfl ?_
 rintro _ _ ⟨rfl, rfl⟩
 refine WL.e4 Nx.thn 0 2 3 36 (jt2 rfl (s0)) (jt2 rfl (s2)) (jt2 rfl (s3)) (lh) ?_
 intro σ10 s0 s2 s3 s36
 refine W.cnd s36 (fun hs8 => ?_) (fun hs8 => ?_)
 ·
  obtain ⟨la, lcp, rfl⟩ := orow_form hrow
  have hgW := StO.start xx (pwhy fR)
  obtain ⟨wr, hwr⟩ : ∃ wr, wr = w22 := ⟨_, rfl⟩
  have hobz := hov.lt
  have hloz := hov.2.2.2.1
  have hR : Ch (fun j => j = p) wr w22 := by rw [hwr]; exact Ch.refl _ _
  rw [← hwr] at hov hrow hobz
  have hwrz : wr.heap.size = w22.heap.size := by rw [hwr]
  have hln := aft_len (pc_why fR) hs8
  obtain ⟨xr, hxr⟩ : ∃ xr, xr = xx := ⟨_, rfl⟩
  rw [← hxr] at hx hgW
  refine W.skip Nx.thn ?_
  refine W.block ?_
  refine W.seq ?_
  refine W.region ?_
  refine WL.x (X.mv (s0)) rfl ?_
  refine WL.call3 ce22 (lh) lc lc (rtake_ok B p xr 3 (mk1 91) w22 hx) rfl ?_
  rintro _ w23 ⟨rfl, hx, c10⟩
  replace hgW := hgW.step (p := ptok 3 (mk1 91)) (val_tok xr 3 (mk1 91))
  generalize aftP (ptok 3 (mk1 91)) xr = y1 at hx hgW
  replace hR := hR.trans c10 (H := fun j => j = p) (fun _ _ e => e) (fun j hj e => by first | exact e.elim | ((try dsimp only at e); omega))
  refine WL.e3 Nx.thn 0 2 3 (jt2 rfl (s0)) (jt2 rfl (s2)) (jt2 rfl (s3)) ?_
  intro σ11 s0 s2 s3
  refine W.seq ?_
  refine W.region ?_
  refine WL.x (X.mv (s0)) rfl ?_
  refine WL.call1 ce24 (lh) (rnum_ok B p y1 w23 hx) rfl ?_
  rintro _ w24 ⟨a1, rfl, j1, hv, hx, c11a⟩
  replace hgW := hgW.step hv
  generalize aftP pnum y1 = y2 at hx hgW
  replace hR := hR.trans c11a (H := fun j => j = p) (fun _ _ e => e) (fun j hj e => by first | exact e.elim | ((try dsimp only at e); omega))
  refine WL.x (X.build bd85 (pcons (lh) pnil) rfl (rfl : _ = [_, _, _, _, _, _, _, _])) rfl ?_
  refine WL.alloc el85 rfl ?_
  intro w25 u9
  obtain ⟨ow, how⟩ : ∃ ow, ow = w24.heap.size := ⟨_, rfl⟩
  rw [← how]
  have hu103 : w25.heap[ow]? = some (.cells #[.int .i64 0, .int .i64 0, .int .i64 0, .string ⟨#[]⟩, .int .i64 0, .int .i64 0, .bool false, .bool false] 85 (0, 0)) := by rw [how]; exact u9.at_
  have cal := u9.ch
  have hBo : B ≤ ow := by rw [how]; exact hx.2.1
  have hrz : wr.heap.size ≤ ow := by rw [how]; exact hR.size
  replace hx := hx.ch0 cal
  replace hR := hR.trans cal (H := fun j => j = p) (fun _ _ e => e) (fun j hj e => by first | exact e.elim | ((try dsimp only at e); omega))
  
  refine WL.storeS (vs := [.int .i64 a1, .int .i64 0, .int .i64 0, .string ⟨#[]⟩, .int .i64 0, .int .i64 0, .bool false, .bool false]) ag85 (lh) (lt rfl (lh)) rfl rfl hu103 (by decide) ?_
  intro w26 us
  have hwv : w26.heap[ow]? = some (.cells #[.int .i64 a1, .int .i64 0, .int .i64 0, .string ⟨#[]⟩, .int .i64 0, .int .i64 0, .bool false, .bool false] 85 (0, 0)) := us.at_
  have cs10 := us.ch
  replace hx := hx.own cs10 (fun j hj e => by (try dsimp only at e); omega)
  replace hR := hR.trans cs10 (H := fun j => j = p) (fun _ _ e => e) (fun j hj e => by first | exact e.elim | ((try dsimp only at e); omega))
  
  refine WL.e4 Nx.thn 0 2 3 4 (jt4 rfl (s0)) (jt4 rfl (s2)) (jt4 rfl (s3)) (lh) ?_
  intro σ12 s0 s2 s3 s4
  refine W.seq ?_
  refine W.region ?_
  refine WL.bslice Tryz.underlying23 el3 rfl (pcons lc (pcons lc (pcons lc (pcons lc pnil)))) rfl (rfl : _ = [_, _, _, _]) rfl ?_
  intro w27 u11_0; have hu11_0 := u11_0.at_; have cu11_0 := u11_0.ch; have zu11_0 := u11_0.size
  refine WL.x (X.mv (lt rfl (s0))) rfl ?_
  refine WL.bslice Tryz.underlying39 el9 rfl (pcons lc (pcons lc (pcons lc (pcons lc pnil)))) rfl (rfl : _ = [_, _, _, _]) rfl ?_
  intro w28 u11_2; have hu11_2 := u11_2.at_; have cu11_2 := u11_2.ch; have zu11_2 := u11_2.size
  have z110 := lt_of_blk hu11_0
  have zB11 := hx.2.1
  have zc110 := cu11_0.size
  have zu110 := hwv
  refine WL.call2 ce26 (lt rfl (lh)) (lh) (rone_ok B p _ 4 4 y2 LWS w28 ((hx.ch0 cu11_0).ch0 cu11_2) rfl hu11_2 (by decide) (by decide) (by decide)) rfl ?_
  rintro _ w29 ⟨j, rfl, hj, hv, hx, c11⟩
  replace hgW := hgW.step (p := pword fR.label) (label_val.2 hv)
  rw [label_val (j := 0) |>.1] at hgW
  generalize aftP (pword (idxW LWS)) y2 = y3 at hx hgW
  replace hwv := c11.at (cu11_2.at0 (cu11_0.at0 hwv)) (fun e => by (try dsimp only at e); omega)
  replace hR := hR.trans cu11_0 (H := fun j => j = p) (fun _ _ e => e) (fun j hj e => by first | exact e.elim | ((try dsimp only at e); omega))
  replace hR := hR.trans cu11_2 (H := fun j => j = p) (fun _ _ e => e) (fun j hj e => by first | exact e.elim | ((try dsimp only at e); omega))
  replace hR := hR.trans c11 (H := fun j => j = p) (fun _ _ e => e) (fun j hj e => by first | exact e.elim | ((try dsimp only at e); omega))
  have hj4 : j < 4 := hj
  refine WL.x (X.indexAddr Tryz.underlying23 el3 (jt2 rfl (lt rfl (lh))) (lh) (by omega) (by omega)) rfl ?_
  have hj4 : j < 4 := hj
  refine WL.x (X.load pl3 (lh) (c11.at (cu11_2.at0 hu11_0) (fun e => by (try dsimp only at e); omega)) (v := .int .i64 (labI j)) (labI_at hj4)) rfl ?_
  refine WL.x (X.fieldAddr fd85_2 (jt4 rfl (jt2 rfl (s4)))) rfl ?_
  obtain ⟨lb, hlb⟩ : ∃ lb, lb = labI j := ⟨_, rfl⟩
  rw [← hlb] at hgW
  refine WL.store el3 (lh) (show ev _ (.tmp _) = .int .i64 lb from by rw [hlb]; exact (lt rfl (lh))) rfl hwv (show 0 + 2 < 8 by decide) ?_
  intro w30 us
  have how9 := lt_of_blk hwv
  replace hwv : w30.heap[ow]? = some (.cells #[.int .i64 a1, .int .i64 0, .int .i64 lb, .string ⟨#[]⟩, .int .i64 0, .int .i64 0, .bool false, .bool false] 85 (0, 0)) := us.at_
  replace hx := hx.own us.ch (fun j hj e => by (try dsimp only at e); omega)
  have cus := us.ch
  replace hR := hR.trans us.ch (H := fun j => j = p) (fun _ _ e => e) (fun j hj e => by first | exact e.elim | ((try dsimp only at e); omega))
  
  refine WL.e4 Nx.thn 0 2 3 4 (jt4 rfl (jt2 rfl (lt rfl (s0)))) (jt4 rfl (jt2 rfl (lt rfl (s2)))) (jt4 rfl (jt2 rfl (lt rfl (s3)))) (jt4 rfl (jt2 rfl (lt rfl (s4)))) ?_
  intro σ13 s0 s2 s3 s4
  refine W.seq ?_
  refine W.region ?_
  refine WL.x (X.mv (s0)) rfl ?_
  refine WL.call1 ce24 (lh) (rnum_ok B p y3 w30 hx) rfl ?_
  rintro _ w31 ⟨a2, rfl, j2, hv, hx, c12⟩
  replace hgW := hgW.step hv
  generalize aftP pnum y3 = y4 at hx hgW
  replace hwv := c12.at hwv (fun e => by (try dsimp only at e); omega)
  replace hR := hR.trans c12 (H := fun j => j = p) (fun _ _ e => e) (fun j hj e => by first | exact e.elim | ((try dsimp only at e); omega))
  refine WL.x (X.fieldAddr fd85_1 (jt2 rfl (s4))) rfl ?_
  refine WL.store el3 (lh) (lt rfl (lh)) rfl hwv (show 0 + 1 < 8 by decide) ?_
  intro w32 us
  have how9 := lt_of_blk hwv
  replace hwv : w32.heap[ow]? = some (.cells #[.int .i64 a1, .int .i64 a2, .int .i64 lb, .string ⟨#[]⟩, .int .i64 0, .int .i64 0, .bool false, .bool false] 85 (0, 0)) := us.at_
  replace hx := hx.own us.ch (fun j hj e => by (try dsimp only at e); omega)
  have cus := us.ch
  replace hR := hR.trans us.ch (H := fun j => j = p) (fun _ _ e => e) (fun j hj e => by first | exact e.elim | ((try dsimp only at e); omega))
  
  refine WL.e4 Nx.thn 0 2 3 4 (jt2 rfl (lt rfl (s0))) (jt2 rfl (lt rfl (s2))) (jt2 rfl (lt rfl (s3))) (jt2 rfl (lt rfl (s4))) ?_
  intro σ14 s0 s2 s3 s4
  refine W.seq ?_
  refine W.region ?_
  refine WL.x (X.mv (s0)) rfl ?_
  refine WL.call1 ce73 (lh) (rkey_ok B p y4 w32 hx) rfl ?_
  rintro _ w33 ⟨ky, rfl, hyz, hv, hx, c13⟩
  replace hgW := hgW.step hv
  generalize aftP pkey y4 = y5 at hx hgW
  replace hwv := c13.at hwv (fun e => by (try dsimp only at e); omega)
  replace hR := hR.trans c13 (H := fun j => j = p) (fun _ _ e => e) (fun j hj e => by first | exact e.elim | ((try dsimp only at e); omega))
  refine WL.x (X.fieldAddr fd85_3 (jt2 rfl (s4))) rfl ?_
  refine WL.store el9 (lh) (lt rfl (lh)) rfl hwv (show 0 + 3 < 8 by decide) ?_
  intro w34 us
  have how9 := lt_of_blk hwv
  replace hwv : w34.heap[ow]? = some (.cells #[.int .i64 a1, .int .i64 a2, .int .i64 lb, .string ky, .int .i64 0, .int .i64 0, .bool false, .bool false] 85 (0, 0)) := us.at_
  replace hx := hx.own us.ch (fun j hj e => by (try dsimp only at e); omega)
  have cus := us.ch
  replace hR := hR.trans us.ch (H := fun j => j = p) (fun _ _ e => e) (fun j hj e => by first | exact e.elim | ((try dsimp only at e); omega))
  
  refine WL.e4 Nx.thn 0 2 3 4 (jt2 rfl (lt rfl (s0))) (jt2 rfl (lt rfl (s2))) (jt2 rfl (lt rfl (s3))) (jt2 rfl (lt rfl (s4))) ?_
  intro σ15 s0 s2 s3 s4
  refine W.seq ?_
  refine W.region ?_
  refine WL.x (X.mv (s0)) rfl ?_
  refine WL.call1 ce24 (lh) (rnum_ok B p y5 w34 hx) rfl ?_
  rintro _ w35 ⟨b1, rfl, j3, hv, hx, c14⟩
  replace hgW := hgW.step hv
  generalize aftP pnum y5 = y6 at hx hgW
  replace hwv := c14.at hwv (fun e => by (try dsimp only at e); omega)
  replace hR := hR.trans c14 (H := fun j => j = p) (fun _ _ e => e) (fun j hj e => by first | exact e.elim | ((try dsimp only at e); omega))
  refine WL.x (X.mv (jt2 rfl (s0))) rfl ?_
  refine WL.call1 ce24 (lh) (rnum_ok B p y6 w35 hx) rfl ?_
  rintro _ w36 ⟨b2, rfl, j4, hv, hx, c15⟩
  replace hgW := hgW.step hv
  generalize aftP pnum y6 = y7 at hx hgW
  replace hwv := c15.at hwv (fun e => by (try dsimp only at e); omega)
  replace hR := hR.trans c15 (H := fun j => j = p) (fun _ _ e => e) (fun j hj e => by first | exact e.elim | ((try dsimp only at e); omega))
  refine WL.x (X.fieldAddr fd85_4 (jt4 rfl (s4))) rfl ?_
  refine WL.store el3 (lh) (jt2 rfl (lt rfl (lh))) rfl hwv (show 0 + 4 < 8 by decide) ?_
  intro w37 us
  have how9 := lt_of_blk hwv
  replace hwv : w37.heap[ow]? = some (.cells #[.int .i64 a1, .int .i64 a2, .int .i64 lb, .string ky, .int .i64 b1, .int .i64 0, .bool false, .bool false] 85 (0, 0)) := us.at_
  replace hx := hx.own us.ch (fun j hj e => by (try dsimp only at e); omega)
  have cus := us.ch
  replace hR := hR.trans us.ch (H := fun j => j = p) (fun _ _ e => e) (fun j hj e => by first | exact e.elim | ((try dsimp only at e); omega))
  
  refine WL.x (X.fieldAddr fd85_5 (jt4 rfl (lt rfl (s4)))) rfl ?_
  refine WL.store el3 (lh) (jt2 rfl (lh)) rfl hwv (show 0 + 5 < 8 by decide) ?_
  intro w38 us
  have how9 := lt_of_blk hwv
  replace hwv : w38.heap[ow]? = some (.cells #[.int .i64 a1, .int .i64 a2, .int .i64 lb, .string ky, .int .i64 b1, .int .i64 b2, .bool false, .bool false] 85 (0, 0)) := us.at_
  replace hx := hx.own us.ch (fun j hj e => by (try dsimp only at e); omega)
  have cus := us.ch
  replace hR := hR.trans us.ch (H := fun j => j = p) (fun _ _ e => e) (fun j hj e => by first | exact e.elim | ((try dsimp only at e); omega))
  
  refine WL.e4 Nx.thn 0 2 3 4 (jt4 rfl (jt2 rfl (s0))) (jt4 rfl (jt2 rfl (s2))) (jt4 rfl (jt2 rfl (s3))) (jt4 rfl (jt2 rfl (s4))) ?_
  intro σ16 s0 s2 s3 s4
  refine W.seq ?_
  refine W.region ?_
  refine WL.x (X.mv (s0)) rfl ?_
  refine WL.bslice Tryz.underlying39 el9 rfl (pcons lc (pcons lc pnil)) rfl (rfl : _ = [_, _]) rfl ?_
  intro w39 u15_1; have hu15_1 := u15_1.at_; have cu15_1 := u15_1.ch; have zu15_1 := u15_1.size
  refine WL.call2 ce26 (lt rfl (lh)) (lh) (rone_ok B p _ 2 2 y7 [wNil, wValue] w39 (hx.ch0 cu15_1) rfl hu15_1 (by decide) (by decide) (by decide)) rfl ?_
  rintro _ w40 ⟨j, rfl, hj, hv, hx, c16⟩
  replace hwv := c16.at (cu15_1.at0 hwv) (fun e => by (try dsimp only at e); omega)
  replace hgW := hgW.step (p := pword (two wNil wValue)) (two_val.2 hv)
  rw [two_val (j := 0) |>.1] at hgW
  generalize aftP (pword (idxW [wNil, wValue])) y7 = y8 at hx hgW
  replace hR := hR.trans cu15_1 (H := fun j => j = p) (fun _ _ e => e) (fun j hj e => by first | exact e.elim | ((try dsimp only at e); omega))
  replace hR := hR.trans c16 (H := fun j => j = p) (fun _ _ e => e) (fun j hj e => by first | exact e.elim | ((try dsimp only at e); omega))
  obtain ⟨nl, hnl⟩ : ∃ nl, nl = decide ((j : Int) = 0) := ⟨_, rfl⟩
  rw [← hnl] at hgW
  refine WL.x (X.eql (lh) lc) rfl ?_
  refine WL.x (X.fieldAddr fd85_6 (jt4 rfl (s4))) rfl ?_
  refine WL.store el4 (lh) (show ev _ (.tmp _) = .bool nl from by rw [hnl]; exact (lt rfl (lh))) rfl hwv (show 0 + 6 < 8 by decide) ?_
  intro w41 us
  have how9 := lt_of_blk hwv
  replace hwv : w41.heap[ow]? = some (.cells #[.int .i64 a1, .int .i64 a2, .int .i64 lb, .string ky, .int .i64 b1, .int .i64 b2, .bool nl, .bool false] 85 (0, 0)) := us.at_
  replace hx := hx.own us.ch (fun j hj e => by (try dsimp only at e); omega)
  have cus := us.ch
  replace hR := hR.trans us.ch (H := fun j => j = p) (fun _ _ e => e) (fun j hj e => by first | exact e.elim | ((try dsimp only at e); omega))
  
  refine WL.e4 Nx.thn 0 2 3 4 (jt4 rfl (lt rfl (s0))) (jt4 rfl (lt rfl (s2))) (jt4 rfl (lt rfl (s3))) (jt4 rfl (lt rfl (s4))) ?_
  intro σ17 s0 s2 s3 s4
  refine W.seq ?_
  refine W.region ?_
  refine WL.x (X.mv (s0)) rfl ?_
  refine WL.bslice Tryz.underlying39 el9 rfl (pcons lc (pcons lc pnil)) rfl (rfl : _ = [_, _]) rfl ?_
  intro w42 u16_1; have hu16_1 := u16_1.at_; have cu16_1 := u16_1.ch; have zu16_1 := u16_1.size
  refine WL.call2 ce26 (lt rfl (lh)) (lh) (rone_ok B p _ 2 2 y8 [wCond, wSure] w42 (hx.ch0 cu16_1) rfl hu16_1 (by decide) (by decide) (by decide)) rfl ?_
  rintro _ w43 ⟨j, rfl, hj, hv, hx, c17⟩
  replace hwv := c17.at (cu16_1.at0 hwv) (fun e => by (try dsimp only at e); omega)
  replace hgW := hgW.step (p := pword (two wCond wSure)) (two_val.2 hv)
  rw [two_val (j := 0) |>.1] at hgW
  generalize aftP (pword (idxW [wCond, wSure])) y8 = y9 at hx hgW
  replace hR := hR.trans cu16_1 (H := fun j => j = p) (fun _ _ e => e) (fun j hj e => by first | exact e.elim | ((try dsimp only at e); omega))
  replace hR := hR.trans c17 (H := fun j => j = p) (fun _ _ e => e) (fun j hj e => by first | exact e.elim | ((try dsimp only at e); omega))
  obtain ⟨cd, hcd⟩ : ∃ cd, cd = decide ((j : Int) = 0) := ⟨_, rfl⟩
  rw [← hcd] at hgW
  refine WL.x (X.eql (lh) lc) rfl ?_
  refine WL.x (X.fieldAddr fd85_7 (jt4 rfl (s4))) rfl ?_
  refine WL.store el4 (lh) (show ev _ (.tmp _) = .bool cd from by rw [hcd]; exact (lt rfl (lh))) rfl hwv (show 0 + 7 < 8 by decide) ?_
  intro w44 us
  have how9 := lt_of_blk hwv
  replace hwv : w44.heap[ow]? = some (.cells #[.int .i64 a1, .int .i64 a2, .int .i64 lb, .string ky, .int .i64 b1, .int .i64 b2, .bool nl, .bool cd] 85 (0, 0)) := us.at_
  replace hx := hx.own us.ch (fun j hj e => by (try dsimp only at e); omega)
  have cus := us.ch
  replace hR := hR.trans us.ch (H := fun j => j = p) (fun _ _ e => e) (fun j hj e => by first | exact e.elim | ((try dsimp only at e); omega))
  
  refine WL.e4 Nx.thn 0 2 3 4 (jt4 rfl (lt rfl (s0))) (jt4 rfl (lt rfl (s2))) (jt4 rfl (lt rfl (s3))) (jt4 rfl (lt rfl (s4))) ?_
  intro σ18 s0 s2 s3 s4
  refine W.seq ?_
  refine W.region ?_
  refine WL.x (X.mv (s0)) rfl ?_
  refine WL.call3 ce22 (lh) lc lc (rtake_ok B p y9 3 (mk1 93) w44 hx) rfl ?_
  rintro _ w45 ⟨rfl, hx, c18⟩
  replace hgW := hgW.step (p := ptok 3 (mk1 93)) (val_tok y9 3 (mk1 93))
  replace hwv := c18.at hwv (fun e => by (try dsimp only at e); omega)
  replace hR := hR.trans c18 (H := fun j => j = p) (fun _ _ e => e) (fun j hj e => by first | exact e.elim | ((try dsimp only at e); omega))
  obtain ⟨hye, hvy⟩ := hgW.done
  rw [hye, hxr] at hx
  rw [hxr] at hvy
  replace hst := (hst.many_go (pc_why fR) rfl (seesO_at hs8)).step hvy
  refine WL.e4 Nx.thn 0 2 3 4 (jt2 rfl (s0)) (jt2 rfl (s2)) (jt2 rfl (s3)) (jt2 rfl (s4)) ?_
  intro σ19 s0 s2 s3 s4
  refine W.region ?_
  refine WL.x (X.fieldAddr fd67_6 (s3)) rfl ?_
  replace hov := hov.call hR
  replace hrow := orow_ch monWhy hrow hR (fun _ e => e.elim) (fun j hj e => by have := (ORow.lt hrow j hj).1; (try dsimp only at e); omega)
  refine WL.x (X.load pl65 (lh) hov.1 (v := .slice la acc.length lcp) rfl) rfl ?_
  refine WL.x (X.loadBox (vs := [.int .i64 a1, .int .i64 a2, .int .i64 lb, .string ky, .int .i64 b1, .int .i64 b2, .bool nl, .bool cd]) ag85 (jt2 rfl (s4)) hwv rfl) rfl ?_
  refine WL.bsliceR (vs := [_]) Tryz.underlying65 el85 (by decide) (pcons (lh) pnil) rfl (fun u hu => by rw [List.mem_singleton.1 hu]; rfl) (show 1 * 8 ≤ 16777216 by decide) rfl ?_
  intro w47 u18_3; have hu18_3 := u18_3.at_; have cu18_3 := u18_3.ch; have zu18_3 := u18_3.size
  replace hov := hov.ch0 cu18_3
  replace hx := hx.ch0 cu18_3
  replace hrow := orow_ch monWhy hrow cu18_3 (fun _ e => e.elim) (fun _ _ e => e)
  have zR := hR.size
  have zl5 := cu18_3.size
  obtain ⟨ess, he1, he2, hown, he4⟩ := hrow
  refine WL.append Tryz.underlying65 el85 rfl (by decide) (jt2 rfl (lh)) (lh) (hown) (by first | assumption | exact cu18_3.at0 (by assumption) | exact cu18_3.at0 (c18.at (by assumption) (by intro hne; first | exact hne | ((try dsimp only at hne); omega)))) rfl (by exact ones_of rfl) (by unfold maxLen; omega) (by omega) (by omega) rfl ?_
  intro va18_4 w48 ho18_4 ca18_4
  replace hov := hov.step ca18_4 (fun j hj => by have := (own_lt hown hj).1; exact ⟨by omega, by omega, .inr (by omega)⟩)
  replace hx := hx.own ca18_4 (fun j hj e => by have := (own_lt hown e).1; omega)
  have hrow := ORow.push monWhy he1 he2 he4 (x := (a1, a2, lb, ky, b1, b2, nl, cd)) rfl (show RWhy (fun _ => False) _ [.int .i64 a1, .int .i64 a2, .int .i64 lb, .string ky, .int .i64 b1, .int .i64 b2, .bool nl, .bool cd] _ from ⟨rfl, ⟨j1, j2, j3, j4⟩, by show ky.size ≤ _; omega⟩) ca18_4 (fun _ e => e.elim) (fun _ e => e) ho18_4
  obtain ⟨la2, lc2, rfl⟩ : ∃ la2 lc2, va18_4 = .slice la2 (acc.length + 1) lc2 := own_form ho18_4
  refine WL.x (X.fieldAddr fd67_6 (jt4 rfl (lt rfl (s3)))) rfl ?_
  refine WL.store el65 (lh) (lt rfl (lh)) rfl hov.1 (show 0 + 6 < 9 by decide) ?_
  intro w49 us
  have hob9 := hov.lt
  have hlo9 := hov.2.2.2.1
  have hov9 := hov
  replace hov : OV p 67 ob rb w w49 #[.int .i64 kd, .int .i64 n1, .int .i64 n2, .int .i64 n3, .string kx, .int .i64 n4, .slice la2 (acc.length + 1) lc2, .bool re, .int .i64 lvl] := hov.put us.at_ us.ch rfl
  replace hx := hx.own us.ch (fun j hj e => by (try dsimp only at e); omega)
  have cus := us.ch
  replace hrow := orow_ch monWhy hrow us.ch (fun _ e => e.elim) (fun j hj e => by have := (ORow.lt hrow j hj).1; (try dsimp only at e); omega)
  refine WL.e3 (Nx.blk Nx.thn) 0 2 3 (jt4 rfl (jt2 rfl (s0))) (jt4 rfl (jt2 rfl (s2))) (jt4 rfl (jt2 rfl (s3))) ?_
  intro σ20 s0 s2 s3
  have hszz := hov.lt
  refine ⟨aftP (pwhy fR) xx, by omega, ⟨s0.trans qo1.symm, s2.trans qo2.symm, s3.trans qo3.symm, trivial⟩, acc ++ [(a1, a2, lb, ky, b1, b2, nl, cd)], .slice la2 (acc.length + 1) lc2, hov, hx, hrow, hst, (by rw [List.length_append, List.length_singleton]; omega), (by have := cus.size; have := ca18_4.size; omega)⟩
 ·
  refine W.exit (Nx.xthn (Nx.xthn (Nx.xblk Nx.thn))) ?_
  refine W.seq ?_
  refine W.region ?_
  refine WL.x (X.mv (s0)) rfl ?_
  replace hst := hst.many_end (seesO_at hs8)
  refine WL.call1 ce25 (lh) (rline_ok B p xx w22 hx) rfl ?_
  rintro _ w50 ⟨hx, c19⟩
  replace hov := hov.call c19
  replace hrow := orow_ch monWhy hrow c19 (fun _ e => e.elim) (fun j hj e => by have := (ORow.lt hrow j hj).1; (try dsimp only at e); omega)
  replace hst := hst.step (p := pends) (val_unit xx)
  obtain ⟨hxe, hva⟩ := hst.done
  rw [hxe] at hx
  refine WL.e2 Nx.thn 2 3 (jt2 rfl (s2)) (jt2 rfl (s3)) ?_
  intro σ21 s2 s3
  refine W.seq ?_
  refine W.region ?_
  obtain ⟨la9, lc9, rfl⟩ := orow_form hrow
  refine WL.x (X.loadBox (vs := [.int .i64 kd, .int .i64 n1, .int .i64 n2, .int .i64 n3, .string kx, .int .i64 n4, .slice la9 acc.length lc9, .bool re, .int .i64 lvl]) ag67 (s3) hov.1 rfl) rfl ?_
  obtain ⟨z9, hz9, hzs9⟩ := hov.2.1
  have hne9 := hov.2.2.2.2.2.1
  have hrb9 := hov.2.2.2.2.1
  have hob9 := hov.lt
  refine WL.storeS (vs := [.int .i64 kd, .int .i64 n1, .int .i64 n2, .int .i64 n3, .string kx, .int .i64 n4, .slice la9 acc.length lc9, .bool re, .int .i64 lvl]) ag67 (lt rfl (s2)) (lh) rfl rfl hz9 (by rw [hzs9]; exact Nat.le_of_ble_eq_true rfl) ?_
  intro w51 us
  have hfin := us.at_
  rw [blit_all (by rw [hzs9]; rfl)] at hfin
  have cfin := us.ch
  refine WL.e1 Nx.thn 2 (lt rfl (s2)) ?_
  intro σ22 s2
  refine W.retG Nx.fG ⟨[_], (.cell s2 (by first | assumption | exact cfin.at (by assumption) (by intro hne; first | exact hne | ((try dsimp only at hne); omega)) | exact cfin.at (c19.at (by assumption) (by intro hne; first | exact hne | ((try dsimp only at hne); omega))) (by intro hne; first | exact hne | ((try dsimp only at hne); omega))) (by exact ag67) .nil), ?_⟩
  have hrow2 := orow_ch monWhy hrow cfin (fun _ e => e.elim) (fun j hj e => by have := (ORow.lt hrow j hj).1; (try dsimp only at e); omega)
  exact ⟨_, [.int .i64 kd, .int .i64 n1, .int .i64 n2, .int .i64 n3, .string kx, .int .i64 n4, .slice la9 acc.length lc9, .bool re, .int .i64 lvl], rfl, rfl, ⟨_, rfl, ORow.rsl' monWhy hrow2 (fun _ e => e.elim) (hrow2.mine (by decide) (by omega)), by dsimp only; omega, ⟨i1, i2, i3, i4⟩, by dsimp only; omega⟩, hva, hx.own cfin (fun j hj e => by (try dsimp only at e); omega), (hov.2.2.1).trans cfin (H := fun j => j = p) (fun _ _ e => e) (fun j hj e => by first | exact e.elim | ((try dsimp only at e); omega))⟩
end Go.Proofs.YtbnllchicnmkiaaGreatDoor
