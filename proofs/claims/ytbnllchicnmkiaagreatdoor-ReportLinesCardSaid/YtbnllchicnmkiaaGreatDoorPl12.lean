/-
  A part of the walk of the program.
-/
import Derived.Test.YtbnllchicnmkiaaGreatDoorPl11
section
set_option linter.unusedVariables false
set_option linter.unusedSimpArgs false
set_option maxRecDepth 100000
namespace Go.Proofs.YtbnllchicnmkiaaGreatDoor
open Go Go.RowKit Sg
theorem ce20 : Sg.Callee Tryz.prog 20 := ⟨_, Tryz.func20, by decide, rfl⟩
theorem bd57 : Sg.Bld Tryz.prog 57 [0, 1] [.slice none 0 0, .bool false] := ⟨_, rfl, rfl, .inl ⟨_, rfl, Sg.allIn rfl, Sg.allAt (n := 2) rfl⟩⟩
theorem ce27 : Sg.Callee Tryz.prog 27 := ⟨_, Tryz.func27, by decide, rfl⟩
theorem ce29 : Sg.Callee Tryz.prog 29 := ⟨_, Tryz.func29, by decide, rfl⟩

theorem scanA_ne {l : Bs} {p : Nat × Nat} (h : scanA l = .error p) : p.2 ≠ 0 := by
  obtain ⟨a, e⟩ := p
  unfold scanA at h
  split at h
  · injection h with h; injection h with _ h; show e ≠ 0; omega
  · exact scanF_ne h
theorem prep_none {α : Type} {p : PR α} {ts : List Tok} (h : none = aftP p (some ts)) : p ts = none := by
  rw [aftP_some] at h
  cases hq : p ts with
  | none => rfl
  | some y => rw [hq] at h; cases h
theorem prep_some {α : Type} {p : PR α} {ts r : List Tok} {a : α} (h : some r = aftP p (some ts)) (hv : ValP p (some ts) a) : p ts = some (a, r) := by
  rw [aftP_some] at h
  cases hq : p ts with
  | none => rw [hq] at h; cases h
  | some y =>
    obtain ⟨b, r'⟩ := y
    have h2 := hv ts b r' rfl hq
    rw [hq] at h
    injection h with h
    rw [h2, h]
theorem StO.order_yes {β : Type} {a : Int} (ha : a = 1) {x : OT} {tgt : Option (β × List Tok)} {K : List Int → PR β} (h : StO x tgt (pbind (porder a) K)) : StO x tgt (pbind (ptok 3 (mk1 40)) fun _ => pbind (pmany (fun ts => seesB ts 2 no) pnum) fun l => pbind (ptok 3 (mk1 41)) fun _ => K l) := by
  rcases h with h | ⟨ts, rfl, h2⟩
  · exact .inl h
  · exact .inr ⟨ts, rfl, h2.trans (Go.Proofs.YtbnllchicnmkiaaGreatDoor.order_yes ha K ts)⟩
theorem StO.order_no {β : Type} {a : Int} (ha : a ≠ 1) {x : OT} {tgt : Option (β × List Tok)} {K : List Int → PR β} (h : StO x tgt (pbind (porder a) K)) : StO x tgt (K []) := by
  rcases h with h | ⟨ts, rfl, h2⟩
  · exact .inl h
  · exact .inr ⟨ts, rfl, h2.trans (Go.Proofs.YtbnllchicnmkiaaGreatDoor.order_no ha K ts)⟩
/-- What the reference's reading hands back. -/
def RefR (f : Wds) (s : ByteArray) (A : Nat → Prop) (w : World) (rv : Value) (at_ why : Int) : Prop :=
  (∃ x es, parseQ f s = .ok x ∧ rv = .agg es.toArray ∧ RRep A w es x ∧ at_ = 0 ∧ why = 0) ∨ (∃ x : Int × Int, parseQ f s = .error x ∧ rv = .agg zrep ∧ at_ = x.1 ∧ why = x.2 ∧ why ≠ 0)
set_option maxHeartbeats 6400000 in
theorem rparse_ok (s : ByteArray) (w : World) :
  Sg.Ret Tryz.prog 8 #[.string s] w fun v w' => (∃ rv at_ why, v = .tuple #[rv, .int .i64 at_, .int .i64 why] ∧ RefR fR s (Mine [3, 67, 85] w.heap.size w') w' rv at_ why) ∧ Ch0 w w' := by
 refine enterG (n := 103) (l := [.string s]) Tryz.func8 rfl rfl rfl rfl ?_
 refine W.g1 0 (v1 := .string s) rfl ?_; intro σ s0
 refine W.seq ?_
 refine W.region ?_
 refine WL.alloc el25 rfl ?_
 intro w1 u0_0; have hu0_0 := u0_0.at_; have cu0_0 := u0_0.ch; have zu0_0 := u0_0.size
 refine WL.x (X.asg lc) rfl ?_
 refine WL.x (X.asg lc) rfl ?_
 refine WL.e2 Nx.thn 0 2 (jt2 rfl (lt rfl (s0))) (jt2 rfl (lh)) ?_
 intro σ1 s0 s2
 refine W.seq ?_
 refine W.region ?_
 refine WL.x (X.mv (s0)) rfl ?_
 refine WL.call1 ce20 (lh) (rscan_ok s w1) rfl ?_
 rintro _ w2 ⟨⟨u, rfl, hu⟩, csc⟩
 refine WL.x (X.mv (lh)) rfl ?_
 refine WL.x (X.ex3_0 (lh)) rfl ?_
 refine WL.x (X.ex3_1 (lt rfl (lh))) rfl ?_
 refine WL.x (X.ex3_2 (jt2 rfl (lh))) rfl ?_
 refine WL.x (X.asg (jt2 rfl (lh))) rfl ?_
 refine WL.x (X.asg (jt2 rfl (lh))) rfl ?_
 refine WL.x (X.asg (jt2 rfl (lh))) rfl ?_
 refine WL.e4 Nx.thn 2 5 6 7 (jt8 rfl (lt rfl (s2))) (jt2 rfl (lh)) (lt rfl (lh)) (lh) ?_
 intro σ2 s2 s5 s6 s7
 refine W.seq ?_
 refine W.seq ?_
 refine W.region ?_
 refine WL.x (X.mv (s7)) rfl ?_
 refine WL.x (X.neq (lh) lc) rfl ?_
 refine WL.e5 Nx.thn 2 5 6 7 17 (jt2 rfl (s2)) (jt2 rfl (s5)) (jt2 rfl (s6)) (jt2 rfl (s7)) (lh) ?_
 intro σ3 s2 s5 s6 s7 s17
 refine W.cndp s17 (fun hse => ?_) (fun hse => ?_)
 ·
  obtain ⟨p9, hsp⟩ : ∃ p9, scanA (sb s) = .error p9 := by
    cases h9 : scanA (sb s) with
    | ok l => exact absurd (show ((scE s).2 : Int) = 0 by rw [(scL_ok h9).2.1]; rfl) hse
    | error p9 => exact ⟨p9, rfl⟩
  refine W.seq ?_
  refine W.region ?_
  refine WL.x (X.build bd25 pnil rfl (rfl : _ = [_, _, _, _, _, _])) rfl ?_
  refine WL.x (X.mv (lt rfl (s6))) rfl ?_
  refine WL.x (X.mv (jt2 rfl (s7))) rfl ?_
  have hrb0 : w2.heap[w.heap.size]? = some (.cells zrep 25 (0, 0)) := csc.at0 hu0_0
  refine WL.storeS (vs := [.int .i64 0, .bool false, .slice none 0 0, .int .i64 0, .int .i64 0, .slice none 0 0]) ag25 (jt2 rfl (lt rfl (s2))) (jt2 rfl (lh)) rfl rfl hrb0 (by decide) ?_
  intro w3 us
  have hl3 : w3.heap[w.heap.size]? = some (.cells zrep 25 (0, 0)) := us.at_
  have chl3 := us.ch
  refine WL.x (X.asg (lt rfl (lh))) rfl ?_
  refine WL.x (X.asg (lt rfl (lh))) rfl ?_
  refine WL.e3 Nx.thn 2 3 4 (jt4 rfl (lt rfl (s2))) (lt rfl (lh)) (lh) ?_
  intro σ4 s2 s3 s4
  refine W.retG (Nx.rthn Nx.fG) ⟨[_, _, _], (.cell s2 (by assumption) (by exact ag25) (.tmp s3 (.tmp s4 .nil))), ?_⟩
  exact ⟨⟨_, _, _, rfl, .inr ⟨((p9.1 : Int), (p9.2 : Int)), parseQ_scan hsp, rfl, by rw [(scL_err hsp).2.1], by rw [(scL_err hsp).2.1], hse⟩⟩, (cu0_0.trans0 csc).trans chl3 (H := fun _ => False) (fun _ _ e => e) (fun j hj e => by have := lt_of_blk hu0_0; (try dsimp only at e); omega)⟩
 ·
  obtain ⟨ts0, hsp⟩ : ∃ ts0, scanA (sb s) = .ok ts0 := by
    cases h9 : scanA (sb s) with
    | ok l => exact ⟨l, rfl⟩
    | error p9 =>
      have h8 := scanA_ne h9
      rw [(scL_err h9).2.1] at hse
      omega
  have hsl : scL s = ts0 := (scL_ok hsp).1
  rw [hsl] at hu
  obtain ⟨ua, uc, rfl⟩ := hu.len
  refine W.skip Nx.thn ?_
  refine W.seq ?_
  refine W.region ?_
  refine WL.x (X.mv (s5)) rfl ?_
  refine WL.x (X.build bd57 (pcons (lh) pnil) rfl (rfl : _ = [_, _])) rfl ?_
  refine WL.box (lh) rfl ?_
  intro w4 us
  obtain ⟨p, hpE⟩ : ∃ p, p = w2.heap.size := ⟨_, rfl⟩
  obtain ⟨rb, hrbE⟩ : ∃ rb, rb = w.heap.size := ⟨_, rfl⟩
  rw [← hpE]
  have hp0 : w4.heap[p]? = some (.cells #[.slice ua ts0.length uc, .bool false] 57 (0, 0)) := by rw [hpE]; exact us.at_
  have cbx := us.ch
  have hrb : w4.heap[w.heap.size]? = some (.cells zrep 25 (0, 0)) := cbx.at0 (csc.at0 hu0_0)
  have zrb := lt_of_blk hu0_0
  have zsc := csc.size
  have hx : RX (p + 1) p (some ts0) w4 := ⟨by omega, lt_of_blk hp0, _, ts0, false, hp0, (hu.ch0 cbx).rsl ftk_len (fun k hk => by have := (hu.lt hk).2; exact ⟨by omega, by omega⟩), scanA_R hsp, scanA_count hsp, rfl⟩
  have hcl : Ch0 w w4 := (cu0_0.trans0 csc).trans0 cbx
  rw [← hrbE] at hrb s2
  have hp1 := lt_of_blk hp0
  have hle : w.heap.size ≤ rb ∧ rb < p := by omega
  refine WL.x (X.asg (lh)) rfl ?_
  refine WL.e2 Nx.thn 2 8 (jt4 rfl (s2)) (lh) ?_
  intro σ5 s2 s8
  refine W.seq ?_
  refine W.block ?_
  have qo1 := s2
  have qo2 := s8
  -- loop 0: kept [2, 8], varied []
  refine W.loop (G := OT) (fun z σ' w' => (σ' 2 = σ5 2 ∧ σ' 8 = σ5 8 ∧ True) ∧ (w'.heap[rb]? = some (.cells zrep 25 (0, 0)) ∧ RX (p + 1) p z w' ∧ z.map skipP = some (skipP ts0) ∧ Ch0 w w')) (fun z => lenO z) (some ts0) ⟨⟨rfl, rfl, trivial⟩, hrb, hx, rfl, hcl⟩ ?_
  rintro z σ6 w5 ⟨⟨f2, f8, _⟩, hrb, hx, hsk, hcl⟩
  have s2 := f2.trans qo1
  have s8 := f8.trans qo2
  refine W.seq ?_
  refine W.seq ?_
  refine W.region ?_
  refine WL.x (X.mv (s8)) rfl ?_
  refine WL.call3 ce21 (lh) lc lc (ris_ok (p + 1) p z 4 no w5 hx) rfl ?_
  rintro _ _ ⟨rfl, rfl⟩
  refine WL.e3 Nx.thn 2 8 25 (jt2 rfl (s2)) (jt2 rfl (s8)) (lh) ?_
  intro σ7 s2 s8 s25
  refine W.cnd s25 (fun hs5 => ?_) (fun hs5 => ?_)
  ·
   refine W.skip Nx.thn ?_
   refine W.block ?_
   refine W.region ?_
   refine WL.x (X.mv (s8)) rfl ?_
   refine WL.call3 ce22 (lh) lc lc (rtake_ok (p + 1) p z 4 no w5 hx) rfl ?_
   rintro _ w6 ⟨rfl, hx, c6⟩
   replace hrb := c6.at hrb (fun e => by (try dsimp only at e); omega)
   replace hcl := hcl.trans c6 (H := fun _ => False) (fun _ _ e => e) (fun j hj e => by ((try dsimp only at e); omega))
   refine WL.e2 (Nx.blk Nx.thn) 2 8 (jt2 rfl (s2)) (jt2 rfl (s8)) ?_
   intro σ8 s2 s8
   refine ⟨aftP (ptok 4 no) z, by have := aft_len (pc_tok (k := 4) (x := no)) hs5; omega, ⟨s2.trans qo1.symm, s8.trans qo2.symm, trivial⟩, hrb, hx, (by rw [← hsk]; obtain ⟨t9, r9, rfl, hs9⟩ := seesO_T hs5; rw [(aft_yes hs9).1]; exact congrArg some (skip_tail hs9).symm), hcl⟩
  ·
   have hze : z = some (skipP ts0) := by
     rw [← hsk]
     cases z with
     | none => rfl
     | some ts9 => exact congrArg some (skip_stop hs5).symm
   subst hze
   obtain ⟨tgt, htg⟩ : ∃ tgt, tgt = (some (skipP ts0)).bind (prep fR) := ⟨_, rfl⟩
   have hst := StO.start (some (skipP ts0)) (prep fR)
   rw [← htg] at hst
   refine W.exit (Nx.xthn (Nx.xthn (Nx.xblk Nx.thn))) ?_
   refine W.seq ?_
   refine W.region ?_
   refine WL.alloc el25 rfl ?_
   intro w7 u9
   obtain ⟨ob, hobE⟩ : ∃ ob, ob = w5.heap.size := ⟨_, rfl⟩
   rw [← hobE]
   have hxv : w7.heap[ob]? = some (.cells #[.int .i64 0, .bool false, .slice none 0 0, .int .i64 0, .int .i64 0, .slice none 0 0] 25 (0, 0)) := by rw [hobE]; exact u9.at_
   have cal := u9.ch
   have hop : p < ob := by have := hx.2.1; omega
   replace hx := hx.ch0 cal
   replace hrb := cal.at0 hrb
   replace hcl := hcl.trans cal (H := fun _ => False) (fun _ _ e => e) (fun j hj e => by exact e.elim)
   
   refine WL.e3 Nx.thn 2 8 9 (lt rfl (s2)) (lt rfl (s8)) (lh) ?_
   intro σ9 s2 s8 s9
   refine W.seq ?_
   refine W.region ?_
   refine WL.x (X.mv (s8)) rfl ?_
   refine WL.call2 ce23 (lh) lc (rword_ok (p + 1) p (some (skipP ts0)) wTxns w7 hx) rfl ?_
   rintro _ w8 ⟨hx, c8⟩
   replace hxv := c8.at hxv (fun e => by (try dsimp only at e); omega)
   replace hrb := c8.at hrb (fun e => by (try dsimp only at e); omega)
   replace hcl := hcl.trans c8 (H := fun _ => False) (fun _ _ e => e) (fun j hj e => by ((try dsimp only at e); omega))
   replace hst := hst.step (p := ptok 1 wTxns) (val_tok (some (skipP ts0)) 1 wTxns)
   generalize aftP (ptok 1 wTxns) (some (skipP ts0)) = x1 at hx hst
   refine WL.e3 Nx.thn 2 8 9 (jt2 rfl (s2)) (jt2 rfl (s8)) (jt2 rfl (s9)) ?_
   intro σ10 s2 s8 s9
   refine W.seq ?_
   refine W.region ?_
   refine WL.x (X.mv (s8)) rfl ?_
   refine WL.call1 ce24 (lh) (rnum_ok (p + 1) p x1 w8 hx) rfl ?_
   rintro _ w9 ⟨n1, rfl, i1, hv, hx, c9⟩
   replace hxv := c9.at hxv (fun e => by (try dsimp only at e); omega)
   replace hrb := c9.at hrb (fun e => by (try dsimp only at e); omega)
   replace hcl := hcl.trans c9 (H := fun _ => False) (fun _ _ e => e) (fun j hj e => by ((try dsimp only at e); omega))
   replace hst := hst.step hv
   generalize aftP pnum x1 = x2 at hx hst
   refine WL.x (X.fieldAddr fd25_0 (jt2 rfl (s9))) rfl ?_
   refine WL.store el3 (lh) (lt rfl (lh)) rfl hxv (show 0 + 0 < 6 by decide) ?_
   intro w10 us
   have hob9 := lt_of_blk hxv
   have hxv9 := hxv
   replace hxv : w10.heap[ob]? = some (.cells #[.int .i64 n1, .bool false, .slice none 0 0, .int .i64 0, .int .i64 0, .slice none 0 0] 25 (0, 0)) := us.at_
   replace hrb := us.ch.at hrb (fun e => by (try dsimp only at e); omega)
   replace hx := hx.own us.ch (fun j hj e => by (try dsimp only at e); omega)
   have cus := us.ch
   replace hcl := hcl.trans us.ch (H := fun _ => False) (fun _ _ e => e) (fun j hj e => by ((try dsimp only at e); omega))
   
   refine WL.e3 Nx.thn 2 8 9 (jt2 rfl (lt rfl (s2))) (jt2 rfl (lt rfl (s8))) (jt2 rfl (lt rfl (s9))) ?_
   intro σ11 s2 s8 s9
   refine W.seq ?_
   refine W.region ?_
   refine WL.x (X.mv (s8)) rfl ?_
   refine WL.call1 ce25 (lh) (rline_ok (p + 1) p x2 w10 hx) rfl ?_
   rintro _ w11 ⟨hx, c10⟩
   replace hxv := c10.at hxv (fun e => by (try dsimp only at e); omega)
   replace hrb := c10.at hrb (fun e => by (try dsimp only at e); omega)
   replace hcl := hcl.trans c10 (H := fun _ => False) (fun _ _ e => e) (fun j hj e => by ((try dsimp only at e); omega))
   replace hst := hst.step (p := pends) (val_unit x2)
   generalize aftP pends x2 = x3 at hx hst
   refine WL.e3 Nx.thn 2 8 9 (jt2 rfl (s2)) (jt2 rfl (s8)) (jt2 rfl (s9)) ?_
   intro σ12 s2 s8 s9
   refine W.seq ?_
   refine W.region ?_
   refine WL.x (X.mv (s8)) rfl ?_
   refine WL.call2 ce23 (lh) lc (rword_ok (p + 1) p x3 wUnique w11 hx) rfl ?_
   rintro _ w12 ⟨hx, c11⟩
   replace hxv := c11.at hxv (fun e => by (try dsimp only at e); omega)
   replace hrb := c11.at hrb (fun e => by (try dsimp only at e); omega)
   replace hcl := hcl.trans c11 (H := fun _ => False) (fun _ _ e => e) (fun j hj e => by ((try dsimp only at e); omega))
   replace hst := hst.step (p := ptok 1 wUnique) (val_tok x3 1 wUnique)
   generalize aftP (ptok 1 wUnique) x3 = x4 at hx hst
   refine WL.e3 Nx.thn 2 8 9 (jt2 rfl (s2)) (jt2 rfl (s8)) (jt2 rfl (s9)) ?_
   intro σ13 s2 s8 s9
   refine W.seq ?_
   refine W.region ?_
   refine WL.x (X.mv (s8)) rfl ?_
   refine WL.bslice Tryz.underlying39 el9 rfl (pcons lc (pcons lc pnil)) rfl (rfl : _ = [_, _]) rfl ?_
   intro w13 u12_1; have hu12_1 := u12_1.at_; have cu12_1 := u12_1.ch; have zu12_1 := u12_1.size
   refine WL.call2 ce26 (lt rfl (lh)) (lh) (rone_ok (p + 1) p _ 2 2 x4 [wYes, wNo] w13 (hx.ch0 cu12_1) rfl hu12_1 (by decide) (by decide) (by decide)) rfl ?_
   rintro _ w14 ⟨j, rfl, hj, hv, hx, c12⟩
   replace hxv := cu12_1.at0 hxv
   replace hrb := cu12_1.at0 hrb
   replace hcl := hcl.trans cu12_1 (H := fun _ => False) (fun _ _ e => e) (fun j hj e => by exact e.elim)
   replace hxv := c12.at hxv (fun e => by (try dsimp only at e); omega)
   replace hrb := c12.at hrb (fun e => by (try dsimp only at e); omega)
   replace hcl := hcl.trans c12 (H := fun _ => False) (fun _ _ e => e) (fun j hj e => by ((try dsimp only at e); omega))
   replace hst := hst.step (p := pword (two wYes wNo)) (two_val.2 hv)
   rw [two_val (j := 0) |>.1] at hst
   generalize aftP (pword (idxW [wYes, wNo])) x4 = x5 at hx hst
   obtain ⟨u1, hu1⟩ : ∃ u1, u1 = decide ((j : Int) = 0) := ⟨_, rfl⟩
   rw [← hu1] at hst
   refine WL.x (X.eql (lh) lc) rfl ?_
   refine WL.x (X.fieldAddr fd25_1 (jt4 rfl (s9))) rfl ?_
   refine WL.store el4 (lh) (show ev _ (.tmp _) = .bool u1 from by rw [hu1]; exact (lt rfl (lh))) rfl hxv (show 0 + 1 < 6 by decide) ?_
   intro w15 us
   have hob9 := lt_of_blk hxv
   have hxv9 := hxv
   replace hxv : w15.heap[ob]? = some (.cells #[.int .i64 n1, .bool u1, .slice none 0 0, .int .i64 0, .int .i64 0, .slice none 0 0] 25 (0, 0)) := us.at_
   replace hrb := us.ch.at hrb (fun e => by (try dsimp only at e); omega)
   replace hx := hx.own us.ch (fun j hj e => by (try dsimp only at e); omega)
   have cus := us.ch
   replace hcl := hcl.trans us.ch (H := fun _ => False) (fun _ _ e => e) (fun j hj e => by ((try dsimp only at e); omega))
   
   refine WL.e3 Nx.thn 2 8 9 (jt4 rfl (lt rfl (s2))) (jt4 rfl (lt rfl (s8))) (jt4 rfl (lt rfl (s9))) ?_
   intro σ14 s2 s8 s9
   refine W.seq ?_
   refine W.region ?_
   refine WL.x (X.mv (s8)) rfl ?_
   refine WL.call1 ce25 (lh) (rline_ok (p + 1) p x5 w15 hx) rfl ?_
   rintro _ w16 ⟨hx, c13⟩
   replace hxv := c13.at hxv (fun e => by (try dsimp only at e); omega)
   replace hrb := c13.at hrb (fun e => by (try dsimp only at e); omega)
   replace hcl := hcl.trans c13 (H := fun _ => False) (fun _ _ e => e) (fun j hj e => by ((try dsimp only at e); omega))
   replace hst := hst.step (p := pends) (val_unit x5)
   generalize aftP pends x5 = x6 at hx hst
   obtain ⟨wl, hwl0⟩ : ∃ wl, wl = w16.heap.size := ⟨_, rfl⟩
   have hobw : ob < wl := by have := lt_of_blk hxv; omega
   have hclw := hcl.size
   refine WL.e3 Nx.thn 2 8 9 (jt2 rfl (s2)) (jt2 rfl (s8)) (jt2 rfl (s9)) ?_
   intro σ15 s2 s8 s9
   refine W.seq ?_
   refine W.block ?_
   have qo3 := s2
   have qo4 := s8
   have qo5 := s9
   -- loop 1: kept [2, 8, 9], varied []
   refine W.loop (G := OT) (fun xx σ' w' => (σ' 2 = σ15 2 ∧ σ' 8 = σ15 8 ∧ σ' 9 = σ15 9 ∧ True) ∧ (∃ acc lv, w'.heap[ob]? = some (.cells #[.int .i64 n1, .bool u1, lv, .int .i64 0, .int .i64 0, .slice none 0 0] 25 (0, 0)) ∧ w'.heap[rb]? = some (.cells zrep 25 (0, 0)) ∧ RX (p + 1) p xx w' ∧ ORow 9 RAn (Mine [85] w.heap.size w') w' wl 67 lv acc ∧ StO xx tgt (pbind (pmany (fun ts => seesB ts 1 wAnomaly) (panm fR)) fun l => repK2 fR n1 u1 (acc ++ l)) ∧ acc.length + lenO xx ≤ 20001 ∧ Ch0 w w' ∧ wl ≤ w'.heap.size)) (fun xx => lenO xx) (x6) ⟨⟨rfl, rfl, rfl, trivial⟩, [], .slice none 0 0, hxv, hrb, hx, ORow.nil, StO.many_start (K := repK2 fR n1 u1) hst, (by rw [List.length_nil, Nat.zero_add]; exact hx.len), hcl, by omega⟩ ?_
   rintro xx σ16 w17 ⟨⟨f2, f8, f9, _⟩, acc, lv, hxv, hrb, hx, hrow, hst, h20, hcl, hwl⟩
   have s2 := f2.trans qo3
   have s8 := f8.trans qo4
   have s9 := f9.trans qo5
   refine W.seq ?_
   refine W.seq ?_
   refine W.region ?_
   refine WL.x (X.mv (s8)) rfl ?_
   refine WL.call3 ce21 (lh) lc lc (ris_ok (p + 1) p xx 1 wAnomaly w17 hx) rfl ?_
   rintro _ _ ⟨rfl, rfl⟩
   refine WL.e4 Nx.thn 2 8 9 45 (jt2 rfl (s2)) (jt2 rfl (s8)) (jt2 rfl (s9)) (lh) ?_
   intro σ17 s2 s8 s9 s45
   refine W.cnd s45 (fun hs14 => ?_) (fun hs14 => ?_)
   ·
    obtain ⟨la, lcp, rfl⟩ := orow_form hrow
    have hln := aft_len (pc_an fR) hs14
    refine W.skip Nx.thn ?_
    refine W.block ?_
    refine W.held (fun w' => Ch (fun j => j = p ∨ slBlk (.slice la acc.length lcp) j ∨ j = ob) w17 w') mo ?_
    intro w18 qhh6 qc7
    have hS : Ch (fun j => j = p ∨ slBlk (.slice la acc.length lcp) j ∨ j = ob) w17 w18 := Ch.weak qc7
    have hzqc7 := qc7.size
    have cdh15 := qc7
    replace hx := hx.ch0 cdh15
    replace hxv := cdh15.at0 hxv
    replace hrb := cdh15.at0 hrb
    replace hcl := hcl.trans cdh15 (H := fun _ => False) (fun _ _ e => e) (fun j hj e => by exact e.elim)
    replace hrow := orow_mine monAn hrow cdh15 (fun _ _ e => e) (fun _ _ e => e)
    have zcd := cdh15.size
    refine WH.take 0 rfl (by kernel_rfl) (by kernel_rfl) (by kernel_rfl) (fun _ _ _ h => h) Gd.none rfl (fun w' hS' => X.fieldAddr fd25_2 (s9)) hS ?_
    refine WH.take 2 rfl (by kernel_rfl) (by kernel_rfl) (by kernel_rfl) (fun _ _ _ h => h) Gd.none rfl (fun w' hS' => X.mv (lt rfl (s8))) hS ?_
    refine WH.two 1 3 rfl rfl (by kernel_rfl) (fun _ _ h => h) ?_ ?_
    ·
     refine WL.x (X.load pl22 (lt rfl (lh)) hxv (v := .slice la acc.length lcp) rfl) rfl ?_
     refine WL.nil Nx.thn ⟨hS, ?_⟩
     refine WH.one 3 rfl (by kernel_rfl) (fun _ _ h => h) ?_
     have hpT : ∃ cs, w18.heap[p]? = some (.cells cs 57 (0, 0)) := by obtain ⟨_, _, v8, t8, b8, hp8, _⟩ := hx; exact ⟨_, hp8⟩
     obtain ⟨cs8, hpT⟩ := hpT
     have hcl9 := hcl.size
     refine WL.call1 ce27 (lt rfl (lh)) (ranomaly_ok (p + 1) p xx w18 hx) rfl ?_
     rintro _ w19 ⟨a15, es15, rfl, hes9, hxa, hv, hx, c15⟩
     replace hxv := c15.at hxv (fun e => by (try dsimp only at e); omega)
     replace hrb := c15.at hrb (fun e => by (try dsimp only at e); omega)
     replace hcl := hcl.trans c15 (H := fun _ => False) (fun _ _ e => e) (fun j hj e => by ((try dsimp only at e); omega))
     replace hrow := orow_mine monAn hrow c15 (fun j hj e => by (try dsimp only at e); exact mine_ne hpT (by decide) j hj e) (fun j hj e => by have := (ORow.lt hrow j hj).1; (try dsimp only at e); omega)
     have zc15 := c15.size
     replace hxa := rd_mono monAn hxa (show w.heap.size ≤ _ by omega)
     replace hst := (hst.many_go (pc_an fR) rfl (seesO_at hs14)).step hv
     obtain ⟨lv3, rfl, hx1⟩ := id hxa
     obtain ⟨la3, lc3, rfl⟩ := hx1.1.len
     have hS := hS.trans c15 (fun _ _ e => e) (fun _ _ e => .inl e)
     refine WL.nil Nx.thn ⟨hS, ?_⟩
     refine WH.one 4 rfl (by kernel_rfl) (fun _ _ h => h) ?_
     refine WL.bsliceR (vs := [_]) Tryz.underlying22 el67 (by decide) (pcons (lh) pnil) rfl (fun u hu => by rw [List.mem_singleton.1 hu]; rfl) (show 1 * 9 ≤ 16777216 by decide) rfl ?_
     intro w21 u15_4; have hu15_4 := u15_4.at_; have cu15_4 := u15_4.ch; have zu15_4 := u15_4.size
     have hS := hS.trans cu15_4 (fun _ _ => id) (by intro i hi hg; exact False.elim hg)
     refine WL.nil Nx.thn ⟨hS, ?_⟩
     refine WH.one 5 rfl (by kernel_rfl) (fun _ _ h => h) ?_
     replace hx := hx.ch0 cu15_4
     replace hxv := cu15_4.at0 hxv
     replace hrb := cu15_4.at0 hrb
     replace hcl := hcl.trans cu15_4 (H := fun _ => False) (fun _ _ e => e) (fun j hj e => by exact e.elim)
     replace hrow := orow_mine monAn hrow cu15_4 (fun _ _ e => e) (fun _ _ e => e)
     replace hxa := rd_mine monAn hxa cu15_4 (fun _ _ e => e)
     have zl4 := c15.size
     have zl5 := cu15_4.size
     have hrow9 := hrow
     obtain ⟨ess, he1, he2, hown, he4⟩ := hrow
     refine WL.append Tryz.underlying22 el67 rfl (by decide) (jt2 rfl (lh)) (lh) (hown) (by assumption) rfl (by exact ones_of rfl) (by unfold maxLen; omega) (by omega) (by omega) rfl ?_
     intro va15_5 w22 ho15_5 ca15_5
     replace hxv := ca15_5.at hxv (fun e => by have := (own_lt hown e).1; omega)
     replace hrb := ca15_5.at hrb (fun e => by have := (own_lt hown e).1; omega)
     replace hcl := hcl.trans ca15_5 (H := fun _ => False) (fun _ _ e => e) (fun j hj e => by have := (own_lt hown e).1; omega)
     replace hx := hx.own ca15_5 (fun j hj e => by have := (own_lt hown e).1; omega)
     have hmf : ∀ j, Mine [85] w.heap.size _ j → ¬ slBlk (.slice la acc.length lcp) j := own_not hown (by decide)
     replace hxa := rd_mine monAn hxa ca15_5 hmf
     have hrow := ORow.push monAn he1 he2 he4 rfl hxa ca15_5 hmf (fun j hj => hj.ch ca15_5 (hmf j hj)) ho15_5
     obtain ⟨la2, lc2, rfl⟩ : ∃ la2 lc2, va15_5 = .slice la2 (acc.length + 1) lc2 := own_form ho15_5
     have hS := hS.trans ca15_5 (fun _ _ e => e) (fun _ _ e => .inr (.inl e))
     refine WL.nil Nx.thn ⟨hS, ?_⟩
     refine WH.take 6 rfl (by kernel_rfl) (by kernel_rfl) (by kernel_rfl) (fun _ _ _ h => h) Gd.none rfl (fun w' hS' => X.fieldAddr fd25_2 (jt4 rfl (jt2 rfl (s9)))) hS ?_
     refine WH.one 7 rfl (by kernel_rfl) (fun _ _ h => h) ?_
     refine WL.store el22 (lh) (lt rfl (lh)) rfl hxv (show 0 + 2 < 6 by decide) ?_
     intro w23 us
     have hob9 := lt_of_blk hxv
     have hxv9 := hxv
     replace hxv : w23.heap[ob]? = some (.cells #[.int .i64 n1, .bool u1, .slice la2 (acc.length + 1) lc2, .int .i64 0, .int .i64 0, .slice none 0 0] 25 (0, 0)) := us.at_
     replace hrb := us.ch.at hrb (fun e => by (try dsimp only at e); omega)
     replace hx := hx.own us.ch (fun j hj e => by (try dsimp only at e); omega)
     have cus := us.ch
     replace hcl := hcl.trans us.ch (H := fun _ => False) (fun _ _ e => e) (fun j hj e => by ((try dsimp only at e); omega))
     replace hrow := orow_mine monAn hrow us.ch (mine_ne hxv9 (by decide)) (fun j hj e => by have := (ORow.lt hrow j hj).1; (try dsimp only at e); omega)
     
     have hS := hS.trans cus (fun _ _ e => e) (fun _ _ e => .inr (.inr e))
     refine WL.nil Nx.thn ⟨hS, ?_⟩
     refine WH.done (by kernel_rfl) ?_
     refine WL.e3 (Nx.blk Nx.thn) 2 8 9 (jt4 rfl (jt2 rfl (lt rfl (s2)))) (jt4 rfl (jt2 rfl (lt rfl (s8)))) (jt4 rfl (jt2 rfl (lt rfl (s9)))) ?_
     intro σ18 s2 s8 s9
     refine ⟨aftP (panm fR) xx, by omega, ⟨s2.trans qo3.symm, s8.trans qo4.symm, s9.trans qo5.symm, trivial⟩, acc ++ [a15], .slice la2 (acc.length + 1) lc2, hxv, hrb, hx, hrow, hst, (by rw [List.length_append, List.length_singleton]; omega), hcl, (by have := cus.size; have := ca15_5.size; omega)⟩
    ·
     have hpT : ∃ cs, w18.heap[p]? = some (.cells cs 57 (0, 0)) := by obtain ⟨_, _, v8, t8, b8, hp8, _⟩ := hx; exact ⟨_, hp8⟩
     obtain ⟨cs8, hpT⟩ := hpT
     have hcl9 := hcl.size
     refine WL.call1 ce27 (lh) (ranomaly_ok (p + 1) p xx w18 hx) rfl ?_
     rintro _ w24 ⟨a15, es15, rfl, hes9, hxa, hv, hx, c15⟩
     replace hxv := c15.at hxv (fun e => by (try dsimp only at e); omega)
     replace hrb := c15.at hrb (fun e => by (try dsimp only at e); omega)
     replace hcl := hcl.trans c15 (H := fun _ => False) (fun _ _ e => e) (fun j hj e => by ((try dsimp only at e); omega))
     replace hrow := orow_mine monAn hrow c15 (fun j hj e => by (try dsimp only at e); exact mine_ne hpT (by decide) j hj e) (fun j hj e => by have := (ORow.lt hrow j hj).1; (try dsimp only at e); omega)
     have zc15 := c15.size
     replace hxa := rd_mono monAn hxa (show w.heap.size ≤ _ by omega)
     replace hst := (hst.many_go (pc_an fR) rfl (seesO_at hs14)).step hv
     obtain ⟨lv3, rfl, hx1⟩ := id hxa
     obtain ⟨la3, lc3, rfl⟩ := hx1.1.len
     have hS := hS.trans c15 (fun _ _ e => e) (fun _ _ e => .inl e)
     refine WL.nil Nx.thn ⟨hS, ?_⟩
     refine WH.two 1 4 rfl rfl (by kernel_rfl) (fun _ _ h => h) ?_ ?_
     ·
      refine WL.x (X.load pl22 (jt2 rfl (lh)) hxv (v := .slice la acc.length lcp) rfl) rfl ?_
      refine WL.nil Nx.thn ⟨hS, ?_⟩
      refine WH.one 4 rfl (by kernel_rfl) (fun _ _ h => h) ?_
      refine WL.bsliceR (vs := [_]) Tryz.underlying22 el67 (by decide) (pcons (lt rfl (lh)) pnil) rfl (fun u hu => by rw [List.mem_singleton.1 hu]; rfl) (show 1 * 9 ≤ 16777216 by decide) rfl ?_
      intro w26 u15_4; have hu15_4 := u15_4.at_; have cu15_4 := u15_4.ch; have zu15_4 := u15_4.size
      have hS := hS.trans cu15_4 (fun _ _ => id) (by intro i hi hg; exact False.elim hg)
      refine WL.nil Nx.thn ⟨hS, ?_⟩
      refine WH.one 5 rfl (by kernel_rfl) (fun _ _ h => h) ?_
      replace hx := hx.ch0 cu15_4
      replace hxv := cu15_4.at0 hxv
      replace hrb := cu15_4.at0 hrb
      replace hcl := hcl.trans cu15_4 (H := fun _ => False) (fun _ _ e => e) (fun j hj e => by exact e.elim)
      replace hrow := orow_mine monAn hrow cu15_4 (fun _ _ e => e) (fun _ _ e => e)
      replace hxa := rd_mine monAn hxa cu15_4 (fun _ _ e => e)
      have zl4 := c15.size
      have zl5 := cu15_4.size
      have hrow9 := hrow
      obtain ⟨ess, he1, he2, hown, he4⟩ := hrow
      refine WL.append Tryz.underlying22 el67 rfl (by decide) (lt rfl (lh)) (lh) (hown) (by assumption) rfl (by exact ones_of rfl) (by unfold maxLen; omega) (by omega) (by omega) rfl ?_
      intro va15_5 w27 ho15_5 ca15_5
      replace hxv := ca15_5.at hxv (fun e => by have := (own_lt hown e).1; omega)
      replace hrb := ca15_5.at hrb (fun e => by have := (own_lt hown e).1; omega)
      replace hcl := hcl.trans ca15_5 (H := fun _ => False) (fun _ _ e => e) (fun j hj e => by have := (own_lt hown e).1; omega)
      replace hx := hx.own ca15_5 (fun j hj e => by have := (own_lt hown e).1; omega)
      have hmf : ∀ j, Mine [85] w.heap.size _ j → ¬ slBlk (.slice la acc.length lcp) j := own_not hown (by decide)
      replace hxa := rd_mine monAn hxa ca15_5 hmf
      have hrow := ORow.push monAn he1 he2 he4 rfl hxa ca15_5 hmf (fun j hj => hj.ch ca15_5 (hmf j hj)) ho15_5
      obtain ⟨la2, lc2, rfl⟩ : ∃ la2 lc2, va15_5 = .slice la2 (acc.length + 1) lc2 := own_form ho15_5
      have hS := hS.trans ca15_5 (fun _ _ e => e) (fun _ _ e => .inr (.inl e))
      refine WL.nil Nx.thn ⟨hS, ?_⟩
      refine WH.take 6 rfl (by kernel_rfl) (by kernel_rfl) (by kernel_rfl) (fun _ _ _ h => h) Gd.none rfl (fun w' hS' => X.fieldAddr fd25_2 (jt4 rfl (jt2 rfl (s9)))) hS ?_
      refine WH.one 7 rfl (by kernel_rfl) (fun _ _ h => h) ?_
      refine WL.store el22 (lh) (lt rfl (lh)) rfl hxv (show 0 + 2 < 6 by decide) ?_
      intro w28 us
      have hob9 := lt_of_blk hxv
      have hxv9 := hxv
      replace hxv : w28.heap[ob]? = some (.cells #[.int .i64 n1, .bool u1, .slice la2 (acc.length + 1) lc2, .int .i64 0, .int .i64 0, .slice none 0 0] 25 (0, 0)) := us.at_
      replace hrb := us.ch.at hrb (fun e => by (try dsimp only at e); omega)
      replace hx := hx.own us.ch (fun j hj e => by (try dsimp only at e); omega)
      have cus := us.ch
      replace hcl := hcl.trans us.ch (H := fun _ => False) (fun _ _ e => e) (fun j hj e => by ((try dsimp only at e); omega))
      replace hrow := orow_mine monAn hrow us.ch (mine_ne hxv9 (by decide)) (fun j hj e => by have := (ORow.lt hrow j hj).1; (try dsimp only at e); omega)
      
      have hS := hS.trans cus (fun _ _ e => e) (fun _ _ e => .inr (.inr e))
      refine WL.nil Nx.thn ⟨hS, ?_⟩
      refine WH.done (by kernel_rfl) ?_
      refine WL.e3 (Nx.blk Nx.thn) 2 8 9 (jt4 rfl (jt2 rfl (lt rfl (s2)))) (jt4 rfl (jt2 rfl (lt rfl (s8)))) (jt4 rfl (jt2 rfl (lt rfl (s9)))) ?_
      intro σ19 s2 s8 s9
      refine ⟨aftP (panm fR) xx, by omega, ⟨s2.trans qo3.symm, s8.trans qo4.symm, s9.trans qo5.symm, trivial⟩, acc ++ [a15], .slice la2 (acc.length + 1) lc2, hxv, hrb, hx, hrow, hst, (by rw [List.length_append, List.length_singleton]; omega), hcl, (by have := cus.size; have := ca15_5.size; omega)⟩
     ·
      refine WL.bsliceR (vs := [_]) Tryz.underlying22 el67 (by decide) (pcons (lh) pnil) rfl (fun u hu => by rw [List.mem_singleton.1 hu]; rfl) (show 1 * 9 ≤ 16777216 by decide) rfl ?_
      intro w30 u15_4; have hu15_4 := u15_4.at_; have cu15_4 := u15_4.ch; have zu15_4 := u15_4.size
      have hS := hS.trans cu15_4 (fun _ _ => id) (by intro i hi hg; exact False.elim hg)
      refine WL.nil Nx.thn ⟨hS, ?_⟩
      refine WH.one 1 rfl (by kernel_rfl) (fun _ _ h => h) ?_
      refine WL.x (X.load pl22 (jt2 rfl (lt rfl (lh))) (cu15_4.at0 hxv) (v := .slice la acc.length lcp) rfl) rfl ?_
      refine WL.nil Nx.thn ⟨hS, ?_⟩
      refine WH.one 5 rfl (by kernel_rfl) (fun _ _ h => h) ?_
      replace hx := hx.ch0 cu15_4
      replace hxv := cu15_4.at0 hxv
      replace hrb := cu15_4.at0 hrb
      replace hcl := hcl.trans cu15_4 (H := fun _ => False) (fun _ _ e => e) (fun j hj e => by exact e.elim)
      replace hrow := orow_mine monAn hrow cu15_4 (fun _ _ e => e) (fun _ _ e => e)
      replace hxa := rd_mine monAn hxa cu15_4 (fun _ _ e => e)
      have zl4 := c15.size
      have zl5 := cu15_4.size
      have hrow9 := hrow
      obtain ⟨ess, he1, he2, hown, he4⟩ := hrow
      refine WL.append Tryz.underlying22 el67 rfl (by decide) (lh) (lt rfl (lh)) (hown) (by assumption) rfl (by exact ones_of rfl) (by unfold maxLen; omega) (by omega) (by omega) rfl ?_
      intro va15_5 w31 ho15_5 ca15_5
      replace hxv := ca15_5.at hxv (fun e => by have := (own_lt hown e).1; omega)
      replace hrb := ca15_5.at hrb (fun e => by have := (own_lt hown e).1; omega)
      replace hcl := hcl.trans ca15_5 (H := fun _ => False) (fun _ _ e => e) (fun j hj e => by have := (own_lt hown e).1; omega)
      replace hx := hx.own ca15_5 (fun j hj e => by have := (own_lt hown e).1; omega)
      have hmf : ∀ j, Mine [85] w.heap.size _ j → ¬ slBlk (.slice la acc.length lcp) j := own_not hown (by decide)
      replace hxa := rd_mine monAn hxa ca15_5 hmf
      have hrow := ORow.push monAn he1 he2 he4 rfl hxa ca15_5 hmf (fun j hj => hj.ch ca15_5 (hmf j hj)) ho15_5
      obtain ⟨la2, lc2, rfl⟩ : ∃ la2 lc2, va15_5 = .slice la2 (acc.length + 1) lc2 := own_form ho15_5
      have hS := hS.trans ca15_5 (fun _ _ e => e) (fun _ _ e => .inr (.inl e))
      refine WL.nil Nx.thn ⟨hS, ?_⟩
      refine WH.take 6 rfl (by kernel_rfl) (by kernel_rfl) (by kernel_rfl) (fun _ _ _ h => h) Gd.none rfl (fun w' hS' => X.fieldAddr fd25_2 (jt4 rfl (jt2 rfl (s9)))) hS ?_
      refine WH.one 7 rfl (by kernel_rfl) (fun _ _ h => h) ?_
      refine WL.store el22 (lh) (lt rfl (lh)) rfl hxv (show 0 + 2 < 6 by decide) ?_
      intro w32 us
      have hob9 := lt_of_blk hxv
      have hxv9 := hxv
      replace hxv : w32.heap[ob]? = some (.cells #[.int .i64 n1, .bool u1, .slice la2 (acc.length + 1) lc2, .int .i64 0, .int .i64 0, .slice none 0 0] 25 (0, 0)) := us.at_
      replace hrb := us.ch.at hrb (fun e => by (try dsimp only at e); omega)
      replace hx := hx.own us.ch (fun j hj e => by (try dsimp only at e); omega)
      have cus := us.ch
      replace hcl := hcl.trans us.ch (H := fun _ => False) (fun _ _ e => e) (fun j hj e => by ((try dsimp only at e); omega))
      replace hrow := orow_mine monAn hrow us.ch (mine_ne hxv9 (by decide)) (fun j hj e => by have := (ORow.lt hrow j hj).1; (try dsimp only at e); omega)
      
      have hS := hS.trans cus (fun _ _ e => e) (fun _ _ e => .inr (.inr e))
      refine WL.nil Nx.thn ⟨hS, ?_⟩
      refine WH.done (by kernel_rfl) ?_
      refine WL.e3 (Nx.blk Nx.thn) 2 8 9 (jt4 rfl (jt2 rfl (lt rfl (s2)))) (jt4 rfl (jt2 rfl (lt rfl (s8)))) (jt4 rfl (jt2 rfl (lt rfl (s9)))) ?_
      intro σ20 s2 s8 s9
      refine ⟨aftP (panm fR) xx, by omega, ⟨s2.trans qo3.symm, s8.trans qo4.symm, s9.trans qo5.symm, trivial⟩, acc ++ [a15], .slice la2 (acc.length + 1) lc2, hxv, hrb, hx, hrow, hst, (by rw [List.length_append, List.length_singleton]; omega), hcl, (by have := cus.size; have := ca15_5.size; omega)⟩
   ·
    obtain ⟨la, lcp, rfl⟩ := orow_form hrow
    replace hst := hst.many_end (seesO_at hs14)
    refine W.exit (Nx.xthn (Nx.xthn (Nx.xblk Nx.thn))) ?_
    refine W.seq ?_
    refine W.region ?_
    refine WL.x (X.mv (s8)) rfl ?_
    have hpT : ∃ cs, w17.heap[p]? = some (.cells cs 57 (0, 0)) := by obtain ⟨_, _, v8, t8, b8, hp8, _⟩ := hx; exact ⟨_, hp8⟩
    obtain ⟨cs8, hpT⟩ := hpT
    refine WL.call2 ce23 (lh) lc (rword_ok (p + 1) p xx wLevel w17 hx) rfl ?_
    rintro _ w33 ⟨hx, c16⟩
    replace hxv := c16.at hxv (fun e => by (try dsimp only at e); omega)
    replace hrb := c16.at hrb (fun e => by (try dsimp only at e); omega)
    replace hcl := hcl.trans c16 (H := fun _ => False) (fun _ _ e => e) (fun j hj e => by ((try dsimp only at e); omega))
    replace hrow := orow_mine monAn hrow c16 (fun j hj e => by (try dsimp only at e); exact mine_ne hpT (by decide) j hj e) (fun j hj e => by have := (ORow.lt hrow j hj).1; (try dsimp only at e); omega)
    replace hst := hst.step (p := ptok 1 wLevel) (val_tok xx 1 wLevel)
    generalize aftP (ptok 1 wLevel) xx = x7 at hx hst
    refine WL.e3 Nx.thn 2 8 9 (jt2 rfl (s2)) (jt2 rfl (s8)) (jt2 rfl (s9)) ?_
    intro σ21 s2 s8 s9
    refine W.seq ?_
    refine W.region ?_
    refine WL.x (X.mv (s8)) rfl ?_
    have hpT : ∃ cs, w33.heap[p]? = some (.cells cs 57 (0, 0)) := by obtain ⟨_, _, v8, t8, b8, hp8, _⟩ := hx; exact ⟨_, hp8⟩
    obtain ⟨cs8, hpT⟩ := hpT
    refine WL.call1 ce28 (lh) (rlevel_ok (p + 1) p x7 w33 hx) rfl ?_
    rintro _ w34 ⟨lv1, rfl, hv, hx, c17⟩
    replace hxv := c17.at hxv (fun e => by (try dsimp only at e); omega)
    replace hrb := c17.at hrb (fun e => by (try dsimp only at e); omega)
    replace hcl := hcl.trans c17 (H := fun _ => False) (fun _ _ e => e) (fun j hj e => by ((try dsimp only at e); omega))
    replace hrow := orow_mine monAn hrow c17 (fun j hj e => by (try dsimp only at e); exact mine_ne hpT (by decide) j hj e) (fun j hj e => by have := (ORow.lt hrow j hj).1; (try dsimp only at e); omega)
    replace hst := hst.step hv
    generalize aftP (pword fR.level) x7 = x8 at hx hst
    refine WL.x (X.fieldAddr fd25_3 (jt2 rfl (s9))) rfl ?_
    refine WL.store el3 (lh) (lt rfl (lh)) rfl hxv (show 0 + 3 < 6 by decide) ?_
    intro w35 us
    have hob9 := lt_of_blk hxv
    have hxv9 := hxv
    replace hxv : w35.heap[ob]? = some (.cells #[.int .i64 n1, .bool u1, .slice la acc.length lcp, .int .i64 lv1, .int .i64 0, .slice none 0 0] 25 (0, 0)) := us.at_
    replace hrb := us.ch.at hrb (fun e => by (try dsimp only at e); omega)
    replace hx := hx.own us.ch (fun j hj e => by (try dsimp only at e); omega)
    have cus := us.ch
    replace hcl := hcl.trans us.ch (H := fun _ => False) (fun _ _ e => e) (fun j hj e => by ((try dsimp only at e); omega))
    replace hrow := orow_mine monAn hrow us.ch (mine_ne hxv9 (by decide)) (fun j hj e => by have := (ORow.lt hrow j hj).1; (try dsimp only at e); omega)
    
    refine WL.e3 Nx.thn 2 8 9 (jt2 rfl (lt rfl (s2))) (jt2 rfl (lt rfl (s8))) (jt2 rfl (lt rfl (s9))) ?_
    intro σ22 s2 s8 s9
    refine W.seq ?_
    refine W.region ?_
    refine WL.x (X.mv (s8)) rfl ?_
    have hpT : ∃ cs, w35.heap[p]? = some (.cells cs 57 (0, 0)) := by obtain ⟨_, _, v8, t8, b8, hp8, _⟩ := hx; exact ⟨_, hp8⟩
    obtain ⟨cs8, hpT⟩ := hpT
    refine WL.call1 ce25 (lh) (rline_ok (p + 1) p x8 w35 hx) rfl ?_
    rintro _ w36 ⟨hx, c18⟩
    replace hxv := c18.at hxv (fun e => by (try dsimp only at e); omega)
    replace hrb := c18.at hrb (fun e => by (try dsimp only at e); omega)
    replace hcl := hcl.trans c18 (H := fun _ => False) (fun _ _ e => e) (fun j hj e => by ((try dsimp only at e); omega))
    replace hrow := orow_mine monAn hrow c18 (fun j hj e => by (try dsimp only at e); exact mine_ne hpT (by decide) j hj e) (fun j hj e => by have := (ORow.lt hrow j hj).1; (try dsimp only at e); omega)
    replace hst := hst.step (p := pends) (val_unit x8)
    generalize aftP pends x8 = x9 at hx hst
    refine WL.e3 Nx.thn 2 8 9 (jt2 rfl (s2)) (jt2 rfl (s8)) (jt2 rfl (s9)) ?_
    intro σ23 s2 s8 s9
    refine W.seq ?_
    refine W.region ?_
    refine WL.x (X.mv (s8)) rfl ?_
    have hpT : ∃ cs, w36.heap[p]? = some (.cells cs 57 (0, 0)) := by obtain ⟨_, _, v8, t8, b8, hp8, _⟩ := hx; exact ⟨_, hp8⟩
    obtain ⟨cs8, hpT⟩ := hpT
    refine WL.call2 ce23 (lh) lc (rword_ok (p + 1) p x9 wAnswer w36 hx) rfl ?_
    rintro _ w37 ⟨hx, c19⟩
    replace hxv := c19.at hxv (fun e => by (try dsimp only at e); omega)
    replace hrb := c19.at hrb (fun e => by (try dsimp only at e); omega)
    replace hcl := hcl.trans c19 (H := fun _ => False) (fun _ _ e => e) (fun j hj e => by ((try dsimp only at e); omega))
    replace hrow := orow_mine monAn hrow c19 (fun j hj e => by (try dsimp only at e); exact mine_ne hpT (by decide) j hj e) (fun j hj e => by have := (ORow.lt hrow j hj).1; (try dsimp only at e); omega)
    replace hst := hst.step (p := ptok 1 wAnswer) (val_tok x9 1 wAnswer)
    generalize aftP (ptok 1 wAnswer) x9 = x10 at hx hst
    refine WL.e3 Nx.thn 2 8 9 (jt2 rfl (s2)) (jt2 rfl (s8)) (jt2 rfl (s9)) ?_
    intro σ24 s2 s8 s9
    refine W.seq ?_
    refine W.region ?_
    refine WL.x (X.mv (s8)) rfl ?_
    refine WL.bslice Tryz.underlying39 el9 rfl (pcons lc (pcons lc (pcons lc (pcons lc pnil)))) rfl (rfl : _ = [_, _, _, _]) rfl ?_
    intro w38 u20_1; have hu20_1 := u20_1.at_; have cu20_1 := u20_1.ch; have zu20_1 := u20_1.size
    obtain ⟨_, _, v8, t8, b8, hpT, _⟩ := (hx.ch0 cu20_1)
    refine WL.call2 ce26 (lt rfl (lh)) (lh) (rone_ok (p + 1) p _ 4 4 x10 AWS w38 (hx.ch0 cu20_1) rfl hu20_1 (by decide) (by decide) (by decide)) rfl ?_
    rintro _ w39 ⟨j, rfl, hj, hv, hx, c20⟩
    replace hxv := cu20_1.at0 hxv
    replace hrb := cu20_1.at0 hrb
    replace hcl := hcl.trans cu20_1 (H := fun _ => False) (fun _ _ e => e) (fun j hj e => by exact e.elim)
    replace hrow := orow_mine monAn hrow cu20_1 (fun _ _ e => e) (fun _ _ e => e)
    replace hxv := c20.at hxv (fun e => by (try dsimp only at e); omega)
    replace hrb := c20.at hrb (fun e => by (try dsimp only at e); omega)
    replace hcl := hcl.trans c20 (H := fun _ => False) (fun _ _ e => e) (fun j hj e => by ((try dsimp only at e); omega))
    replace hrow := orow_mine monAn hrow c20 (fun j hj e => by (try dsimp only at e); exact mine_ne hpT (by decide) j hj e) (fun j hj e => by have := (ORow.lt hrow j hj).1; (try dsimp only at e); omega)
    replace hst := hst.step (p := pword fR.answer) (answer_val.2 hv)
    rw [answer_val (j := 0) |>.1] at hst
    generalize aftP (pword (idxW AWS)) x10 = x11 at hx hst
    obtain ⟨an, han⟩ : ∃ an, an = (j : Int) := ⟨_, rfl⟩
    rw [← han] at hst
    refine WL.x (X.fieldAddr fd25_4 (jt2 rfl (lt rfl (s9)))) rfl ?_
    refine WL.store el3 (lh) (show ev _ (.tmp _) = .int .i64 an from by rw [han]; exact (lt rfl (lh))) rfl hxv (show 0 + 4 < 6 by decide) ?_
    intro w40 us
    have hob9 := lt_of_blk hxv
    have hxv9 := hxv
    replace hxv : w40.heap[ob]? = some (.cells #[.int .i64 n1, .bool u1, .slice la acc.length lcp, .int .i64 lv1, .int .i64 an, .slice none 0 0] 25 (0, 0)) := us.at_
    replace hrb := us.ch.at hrb (fun e => by (try dsimp only at e); omega)
    replace hx := hx.own us.ch (fun j hj e => by (try dsimp only at e); omega)
    have cus := us.ch
    replace hcl := hcl.trans us.ch (H := fun _ => False) (fun _ _ e => e) (fun j hj e => by ((try dsimp only at e); omega))
    replace hrow := orow_mine monAn hrow us.ch (mine_ne hxv9 (by decide)) (fun j hj e => by have := (ORow.lt hrow j hj).1; (try dsimp only at e); omega)
    obtain ⟨wl2, hwl2⟩ : ∃ wl2, wl2 = w40.heap.size := ⟨_, rfl⟩
    obtain ⟨wq, hwq⟩ : ∃ wq, wq = w40 := ⟨_, rfl⟩
    have hcA : Ch (fun j => j = p ∨ j = ob) wq w40 := by rw [hwq]; exact Ch.refl _ _
    have hxvq := hxv
    rw [← hwq] at hxvq hrow
    have hobq := lt_of_blk hxv
    have hclq := hcl.size
    have hpq : ∃ cs, wq.heap[p]? = some (.cells cs 57 (0, 0)) := by
      obtain ⟨_, _, v8, t8, b8, hp8, _⟩ := hx
      exact ⟨_, by rw [hwq]; exact hp8⟩
    refine WL.e3 Nx.thn 2 8 9 (jt4 rfl (s2)) (jt4 rfl (s8)) (jt4 rfl (s9)) ?_
    intro σ25 s2 s8 s9
    have qo8 := s2
    have qo9 := s8
    have qo10 := s9
    refine W.seqJ (fun σ' w' => (σ' 2 = σ25 2 ∧ σ' 8 = σ25 8 ∧ σ' 9 = σ25 9 ∧ True) ∧ ∃ oo uo y, w'.heap[ob]? = some (.cells #[.int .i64 n1, .bool u1, .slice la acc.length lcp, .int .i64 lv1, .int .i64 an, uo] 25 (0, 0)) ∧ w'.heap[rb]? = some (.cells zrep 25 (0, 0)) ∧ RX (p + 1) p y w' ∧ w'.ownsRow wl2 3 1 uo oo.length (ints oo) ∧ Ch (fun j => j = p ∨ j = ob) wq w' ∧ StO y tgt (repK3 n1 u1 acc lv1 an oo) ∧ oo.length ≤ 20001 ∧ (∀ z ∈ oo, in64 z) ∧ Ch0 w w' ∧ wl2 ≤ w'.heap.size) ?_ ?_
    ·
     refine W.seq ?_
     refine W.region ?_
     refine WL.x (X.fieldAddr fd25_4 (s9)) rfl ?_
     refine WL.x (X.load pl3 (lh) hxv (v := .int .i64 an) rfl) rfl ?_
     refine WL.x (X.eql (lh) lc) rfl ?_
     refine WL.e4 Nx.thn 2 8 9 68 (jt2 rfl (lt rfl (s2))) (jt2 rfl (lt rfl (s8))) (jt2 rfl (lt rfl (s9))) (lh) ?_
     intro σ26 s2 s8 s9 s68
     refine W.cndp s68 (fun hyes => ?_) (fun hyes => ?_)
     ·
      replace hst := StO.order_yes hyes hst
      refine W.seq ?_
      refine W.region ?_
      refine WL.x (X.mv (s8)) rfl ?_
      refine WL.call3 ce22 (lh) lc lc (rtake_ok (p + 1) p x11 3 (mk1 40) w40 hx) rfl ?_
      rintro _ w41 ⟨rfl, hx, c22⟩
      replace hxv := c22.at hxv (fun e => by (try dsimp only at e); omega)
      replace hrb := c22.at hrb (fun e => by (try dsimp only at e); omega)
      replace hcl := hcl.trans c22 (H := fun _ => False) (fun _ _ e => e) (fun j hj e => by ((try dsimp only at e); omega))
      replace hcA := hcA.trans c22 (H := fun j => j = p ∨ j = ob) (fun _ _ e => e) (fun j hj e => by ((try dsimp only at e); omega))
      replace hst := hst.step (p := ptok 3 (mk1 40)) (val_tok x11 3 (mk1 40))
      generalize aftP (ptok 3 (mk1 40)) x11 = x12 at hx hst
      refine WL.e3 Nx.thn 2 8 9 (jt2 rfl (s2)) (jt2 rfl (s8)) (jt2 rfl (s9)) ?_
      intro σ27 s2 s8 s9
      refine W.seq ?_
      refine W.block ?_
      have qo11 := s2
      have qo12 := s8
      have qo13 := s9
      -- loop 2: kept [2, 8, 9], varied []
      refine W.loop (G := OT) (fun xx σ' w' => (σ' 2 = σ27 2 ∧ σ' 8 = σ27 8 ∧ σ' 9 = σ27 9 ∧ True) ∧ (∃ oo uo, w'.heap[ob]? = some (.cells #[.int .i64 n1, .bool u1, .slice la acc.length lcp, .int .i64 lv1, .int .i64 an, uo] 25 (0, 0)) ∧ w'.heap[rb]? = some (.cells zrep 25 (0, 0)) ∧ RX (p + 1) p xx w' ∧ w'.ownsRow wl2 3 1 uo oo.length (ints oo) ∧ Ch (fun j => j = p ∨ j = ob) wq w' ∧ StO xx tgt (pbind (pmany (fun ts => seesB ts 2 no) pnum) fun l => repK4 n1 u1 acc lv1 an (oo ++ l)) ∧ oo.length + lenO xx ≤ 20001 ∧ (∀ z ∈ oo, in64 z) ∧ Ch0 w w' ∧ wl2 ≤ w'.heap.size)) (fun xx => lenO xx) (x12) ⟨⟨rfl, rfl, rfl, trivial⟩, [], .slice none 0 0, hxv, hrb, hx, World.ownsRow_nil _ _ _ _, hcA, StO.many_start (K := repK4 n1 u1 acc lv1 an) hst, (by rw [List.length_nil, Nat.zero_add]; exact hx.len), (fun _ h => by cases h), hcl, (by have := c22.size; omega)⟩ ?_
      rintro xx σ28 w42 ⟨⟨f2, f8, f9, _⟩, oo, uo, hxv, hrb, hx, hord, hcA, hst, h20o, hino, hcl, hwo⟩
      have s2 := f2.trans qo11
      have s8 := f8.trans qo12
      have s9 := f9.trans qo13
      refine W.seq ?_
      refine W.seq ?_
      refine W.region ?_
      refine WL.x (X.mv (s8)) rfl ?_
      refine WL.call3 ce21 (lh) lc lc (ris_ok (p + 1) p xx 2 no w42 hx) rfl ?_
      rintro _ _ ⟨rfl, rfl⟩
      refine WL.e4 Nx.thn 2 8 9 72 (jt2 rfl (s2)) (jt2 rfl (s8)) (jt2 rfl (s9)) (lh) ?_
      intro σ29 s2 s8 s9 s72
      refine W.cnd s72 (fun hs23 => ?_) (fun hs23 => ?_)
      ·
       obtain ⟨uo1, uc1, rfl⟩ := own_form hord
       have hln := aft_len pc_num hs23
       refine W.skip Nx.thn ?_
       refine W.block ?_
       refine W.held (fun w' => Ch (fun j => j = p ∨ slBlk (.slice uo1 oo.length uc1) j ∨ j = ob) w42 w') mo ?_
       intro w43 qhh14 qc15
       have hS : Ch (fun j => j = p ∨ slBlk (.slice uo1 oo.length uc1) j ∨ j = ob) w42 w43 := Ch.weak qc15
       have hzqc15 := qc15.size
       have cdh24 := qc15
       replace hx := hx.ch0 cdh24
       replace hxv := cdh24.at0 hxv
       replace hrb := cdh24.at0 hrb
       replace hcl := hcl.trans cdh24 (H := fun _ => False) (fun _ _ e => e) (fun j hj e => by exact e.elim)
       replace hord := own_ch hord cdh24 (fun _ _ => id)
       replace hcA := hcA.trans cdh24 (H := fun j => j = p ∨ j = ob) (fun _ _ e => e) (fun j hj e => by exact e.elim)
       have zcd := cdh24.size
       refine WH.take 0 rfl (by kernel_rfl) (by kernel_rfl) (by kernel_rfl) (fun _ _ _ h => h) Gd.none rfl (fun w' hS' => X.fieldAddr fd25_5 (s9)) hS ?_
       refine WH.take 2 rfl (by kernel_rfl) (by kernel_rfl) (by kernel_rfl) (fun _ _ _ h => h) Gd.none rfl (fun w' hS' => X.mv (lt rfl (s8))) hS ?_
       refine WH.two 1 3 rfl rfl (by kernel_rfl) (fun _ _ h => h) ?_ ?_
       ·
        refine WL.x (X.load pl23 (lt rfl (lh)) hxv (v := .slice uo1 oo.length uc1) rfl) rfl ?_
        refine WL.nil Nx.thn ⟨hS, ?_⟩
        refine WH.one 3 rfl (by kernel_rfl) (fun _ _ h => h) ?_
        refine WL.call1 ce24 (lt rfl (lh)) (rnum_ok (p + 1) p xx w43 hx) rfl ?_
        rintro _ w44 ⟨z2, rfl, i2, hv, hx, c24⟩
        replace hxv := c24.at hxv (fun e => by (try dsimp only at e); omega)
        replace hrb := c24.at hrb (fun e => by (try dsimp only at e); omega)
        replace hcl := hcl.trans c24 (H := fun _ => False) (fun _ _ e => e) (fun j hj e => by ((try dsimp only at e); omega))
        replace hcA := hcA.trans c24 (H := fun j => j = p ∨ j = ob) (fun _ _ e => e) (fun j hj e => by ((try dsimp only at e); omega))
        replace hord := own_ch hord c24 (fun k hk e => by have := (own_lt hord hk).1; (try dsimp only at e); omega)
        replace hst := (hst.many_go pc_num rfl (seesO_at hs23)).step hv
        have hS := hS.trans c24 (fun _ _ e => e) (fun _ _ e => .inl e)
        refine WL.nil Nx.thn ⟨hS, ?_⟩
        refine WH.one 4 rfl (by kernel_rfl) (fun _ _ h => h) ?_
        refine WL.bslice Tryz.underlying23 el3 rfl (pcons (lh) pnil) rfl (rfl : _ = [_]) rfl ?_
        intro w45 u24_4; have hu24_4 := u24_4.at_; have cu24_4 := u24_4.ch; have zu24_4 := u24_4.size
        have hS := hS.trans cu24_4 (fun _ _ => id) (by intro i hi hg; exact False.elim hg)
        refine WL.nil Nx.thn ⟨hS, ?_⟩
        refine WH.one 5 rfl (by kernel_rfl) (fun _ _ h => h) ?_
        replace hx := hx.ch0 cu24_4
        replace hxv := cu24_4.at0 hxv
        replace hrb := cu24_4.at0 hrb
        replace hcl := hcl.trans cu24_4 (H := fun _ => False) (fun _ _ e => e) (fun j hj e => by exact e.elim)
        replace hord := own_ch hord cu24_4 (fun _ _ => id)
        replace hcA := hcA.trans cu24_4 (H := fun j => j = p ∨ j = ob) (fun _ _ e => e) (fun j hj e => by exact e.elim)
        have zl3 := c24.size
        have zl5 := cu24_4.size
        refine WL.append Tryz.underlying23 el3 rfl (by decide) (jt2 rfl (lh)) (lh) (hord) (by assumption) rfl (by exact ones_of rfl) (by unfold maxLen; omega) (by omega) (by omega) rfl ?_
        intro va24_5 w46 ho24_5 ca24_5
        have hord9 := hord
        replace hxv := ca24_5.at hxv (fun e => by have := (own_lt hord9 e).1; omega)
        replace hrb := ca24_5.at hrb (fun e => by have := (own_lt hord9 e).1; omega)
        replace hcl := hcl.trans ca24_5 (H := fun _ => False) (fun _ _ e => e) (fun j hj e => by have := (own_lt hord9 e).1; omega)
        replace hx := hx.own ca24_5 (fun j hj e => by have := (own_lt hord9 e).1; omega)
        replace hcA := hcA.trans ca24_5 (H := fun j => j = p ∨ j = ob) (fun _ _ e => e) (fun j hj e => by have := (own_lt hord9 e).1; rw [hwq, ← hwl2] at hj; omega)
        obtain ⟨uo2, uc2, rfl⟩ : ∃ uo2 uc2, va24_5 = .slice uo2 (oo.length + 1) uc2 := own_form ho24_5
        have hS := hS.trans ca24_5 (fun _ _ e => e) (fun _ _ e => .inr (.inl e))
        refine WL.nil Nx.thn ⟨hS, ?_⟩
        refine WH.take 6 rfl (by kernel_rfl) (by kernel_rfl) (by kernel_rfl) (fun _ _ _ h => h) Gd.none rfl (fun w' hS' => X.fieldAddr fd25_5 (jt4 rfl (jt2 rfl (s9)))) hS ?_
        refine WH.one 7 rfl (by kernel_rfl) (fun _ _ h => h) ?_
        refine WL.store el23 (lh) (lt rfl (lh)) rfl hxv (show 0 + 5 < 6 by decide) ?_
        intro w47 us
        have hob9 := lt_of_blk hxv
        have hxv9 := hxv
        replace hxv : w47.heap[ob]? = some (.cells #[.int .i64 n1, .bool u1, .slice la acc.length lcp, .int .i64 lv1, .int .i64 an, .slice uo2 (oo.length + 1) uc2] 25 (0, 0)) := us.at_
        replace hrb := us.ch.at hrb (fun e => by (try dsimp only at e); omega)
        replace hx := hx.own us.ch (fun j hj e => by (try dsimp only at e); omega)
        have cus := us.ch
        replace hcl := hcl.trans us.ch (H := fun _ => False) (fun _ _ e => e) (fun j hj e => by ((try dsimp only at e); omega))
        replace hord := own_ch ho24_5 us.ch (fun k hk e => by have := (own_lt ho24_5 hk).1; (try dsimp only at e); omega)
        replace hcA := hcA.trans us.ch (H := fun j => j = p ∨ j = ob) (fun _ _ e => e) (fun j hj e => by ((try dsimp only at e); omega))
        
        have hS := hS.trans cus (fun _ _ e => e) (fun _ _ e => .inr (.inr e))
        refine WL.nil Nx.thn ⟨hS, ?_⟩
        refine WH.done (by kernel_rfl) ?_
        refine WL.e3 (Nx.blk Nx.thn) 2 8 9 (jt4 rfl (jt2 rfl (lt rfl (s2)))) (jt4 rfl (jt2 rfl (lt rfl (s8)))) (jt4 rfl (jt2 rfl (lt rfl (s9)))) ?_
        intro σ30 s2 s8 s9
        refine ⟨aftP pnum xx, by omega, ⟨s2.trans qo11.symm, s8.trans qo12.symm, s9.trans qo13.symm, trivial⟩, oo ++ [z2], .slice uo2 (oo.length + 1) uc2, hxv, hrb, hx, (by rw [List.length_append, show ints (oo ++ [z2]) = ints oo ++ [.int .i64 z2] from List.map_append ..]; exact hord), hcA, hst, (by rw [List.length_append, List.length_singleton]; omega), (fun z hz => by rcases List.mem_append.1 hz with hz | hz; (· exact hino z hz); (· rw [List.mem_singleton.1 hz]; exact i2)), hcl, (by have := cus.size; have := ca24_5.size; omega)⟩
       ·
        refine WL.call1 ce24 (lh) (rnum_ok (p + 1) p xx w43 hx) rfl ?_
        rintro _ w48 ⟨z2, rfl, i2, hv, hx, c24⟩
        replace hxv := c24.at hxv (fun e => by (try dsimp only at e); omega)
        replace hrb := c24.at hrb (fun e => by (try dsimp only at e); omega)
        replace hcl := hcl.trans c24 (H := fun _ => False) (fun _ _ e => e) (fun j hj e => by ((try dsimp only at e); omega))
        replace hcA := hcA.trans c24 (H := fun j => j = p ∨ j = ob) (fun _ _ e => e) (fun j hj e => by ((try dsimp only at e); omega))
        replace hord := own_ch hord c24 (fun k hk e => by have := (own_lt hord hk).1; (try dsimp only at e); omega)
        replace hst := (hst.many_go pc_num rfl (seesO_at hs23)).step hv
        have hS := hS.trans c24 (fun _ _ e => e) (fun _ _ e => .inl e)
        refine WL.nil Nx.thn ⟨hS, ?_⟩
        refine WH.two 1 4 rfl rfl (by kernel_rfl) (fun _ _ h => h) ?_ ?_
        ·
         refine WL.x (X.load pl23 (jt2 rfl (lh)) hxv (v := .slice uo1 oo.length uc1) rfl) rfl ?_
         refine WL.nil Nx.thn ⟨hS, ?_⟩
         refine WH.one 4 rfl (by kernel_rfl) (fun _ _ h => h) ?_
         refine WL.bslice Tryz.underlying23 el3 rfl (pcons (lt rfl (lh)) pnil) rfl (rfl : _ = [_]) rfl ?_
         intro w49 u24_4; have hu24_4 := u24_4.at_; have cu24_4 := u24_4.ch; have zu24_4 := u24_4.size
         have hS := hS.trans cu24_4 (fun _ _ => id) (by intro i hi hg; exact False.elim hg)
         refine WL.nil Nx.thn ⟨hS, ?_⟩
         refine WH.one 5 rfl (by kernel_rfl) (fun _ _ h => h) ?_
         replace hx := hx.ch0 cu24_4
         replace hxv := cu24_4.at0 hxv
         replace hrb := cu24_4.at0 hrb
         replace hcl := hcl.trans cu24_4 (H := fun _ => False) (fun _ _ e => e) (fun j hj e => by exact e.elim)
         replace hord := own_ch hord cu24_4 (fun _ _ => id)
         replace hcA := hcA.trans cu24_4 (H := fun j => j = p ∨ j = ob) (fun _ _ e => e) (fun j hj e => by exact e.elim)
         have zl3 := c24.size
         have zl5 := cu24_4.size
         refine WL.append Tryz.underlying23 el3 rfl (by decide) (lt rfl (lh)) (lh) (hord) (by assumption) rfl (by exact ones_of rfl) (by unfold maxLen; omega) (by omega) (by omega) rfl ?_
         intro va24_5 w50 ho24_5 ca24_5
         have hord9 := hord
         replace hxv := ca24_5.at hxv (fun e => by have := (own_lt hord9 e).1; omega)
         replace hrb := ca24_5.at hrb (fun e => by have := (own_lt hord9 e).1; omega)
         replace hcl := hcl.trans ca24_5 (H := fun _ => False) (fun _ _ e => e) (fun j hj e => by have := (own_lt hord9 e).1; omega)
         replace hx := hx.own ca24_5 (fun j hj e => by have := (own_lt hord9 e).1; omega)
         replace hcA := hcA.trans ca24_5 (H := fun j => j = p ∨ j = ob) (fun _ _ e => e) (fun j hj e => by have := (own_lt hord9 e).1; rw [hwq, ← hwl2] at hj; omega)
         obtain ⟨uo2, uc2, rfl⟩ : ∃ uo2 uc2, va24_5 = .slice uo2 (oo.length + 1) uc2 := own_form ho24_5
         have hS := hS.trans ca24_5 (fun _ _ e => e) (fun _ _ e => .inr (.inl e))
         refine WL.nil Nx.thn ⟨hS, ?_⟩
         refine WH.take 6 rfl (by kernel_rfl) (by kernel_rfl) (by kernel_rfl) (fun _ _ _ h => h) Gd.none rfl (fun w' hS' => X.fieldAddr fd25_5 (jt4 rfl (jt2 rfl (s9)))) hS ?_
         refine WH.one 7 rfl (by kernel_rfl) (fun _ _ h => h) ?_
         refine WL.store el23 (lh) (lt rfl (lh)) rfl hxv (show 0 + 5 < 6 by decide) ?_
         intro w51 us
         have hob9 := lt_of_blk hxv
         have hxv9 := hxv
         replace hxv : w51.heap[ob]? = some (.cells #[.int .i64 n1, .bool u1, .slice la acc.length lcp, .int .i64 lv1, .int .i64 an, .slice uo2 (oo.length + 1) uc2] 25 (0, 0)) := us.at_
         replace hrb := us.ch.at hrb (fun e => by (try dsimp only at e); omega)
         replace hx := hx.own us.ch (fun j hj e => by (try dsimp only at e); omega)
         have cus := us.ch
         replace hcl := hcl.trans us.ch (H := fun _ => False) (fun _ _ e => e) (fun j hj e => by ((try dsimp only at e); omega))
         replace hord := own_ch ho24_5 us.ch (fun k hk e => by have := (own_lt ho24_5 hk).1; (try dsimp only at e); omega)
         replace hcA := hcA.trans us.ch (H := fun j => j = p ∨ j = ob) (fun _ _ e => e) (fun j hj e => by ((try dsimp only at e); omega))
         
         have hS := hS.trans cus (fun _ _ e => e) (fun _ _ e => .inr (.inr e))
         refine WL.nil Nx.thn ⟨hS, ?_⟩
         refine WH.done (by kernel_rfl) ?_
         refine WL.e3 (Nx.blk Nx.thn) 2 8 9 (jt4 rfl (jt2 rfl (lt rfl (s2)))) (jt4 rfl (jt2 rfl (lt rfl (s8)))) (jt4 rfl (jt2 rfl (lt rfl (s9)))) ?_
         intro σ31 s2 s8 s9
         refine ⟨aftP pnum xx, by omega, ⟨s2.trans qo11.symm, s8.trans qo12.symm, s9.trans qo13.symm, trivial⟩, oo ++ [z2], .slice uo2 (oo.length + 1) uc2, hxv, hrb, hx, (by rw [List.length_append, show ints (oo ++ [z2]) = ints oo ++ [.int .i64 z2] from List.map_append ..]; exact hord), hcA, hst, (by rw [List.length_append, List.length_singleton]; omega), (fun z hz => by rcases List.mem_append.1 hz with hz | hz; (· exact hino z hz); (· rw [List.mem_singleton.1 hz]; exact i2)), hcl, (by have := cus.size; have := ca24_5.size; omega)⟩
        ·
         refine WL.bslice Tryz.underlying23 el3 rfl (pcons (lh) pnil) rfl (rfl : _ = [_]) rfl ?_
         intro w52 u24_4; have hu24_4 := u24_4.at_; have cu24_4 := u24_4.ch; have zu24_4 := u24_4.size
         have hS := hS.trans cu24_4 (fun _ _ => id) (by intro i hi hg; exact False.elim hg)
         refine WL.nil Nx.thn ⟨hS, ?_⟩
         refine WH.one 1 rfl (by kernel_rfl) (fun _ _ h => h) ?_
         refine WL.x (X.load pl23 (jt2 rfl (lt rfl (lh))) (cu24_4.at0 hxv) (v := .slice uo1 oo.length uc1) rfl) rfl ?_
         refine WL.nil Nx.thn ⟨hS, ?_⟩
         refine WH.one 5 rfl (by kernel_rfl) (fun _ _ h => h) ?_
         replace hx := hx.ch0 cu24_4
         replace hxv := cu24_4.at0 hxv
         replace hrb := cu24_4.at0 hrb
         replace hcl := hcl.trans cu24_4 (H := fun _ => False) (fun _ _ e => e) (fun j hj e => by exact e.elim)
         replace hord := own_ch hord cu24_4 (fun _ _ => id)
         replace hcA := hcA.trans cu24_4 (H := fun j => j = p ∨ j = ob) (fun _ _ e => e) (fun j hj e => by exact e.elim)
         have zl3 := c24.size
         have zl5 := cu24_4.size
         refine WL.append Tryz.underlying23 el3 rfl (by decide) (lh) (lt rfl (lh)) (hord) (by assumption) rfl (by exact ones_of rfl) (by unfold maxLen; omega) (by omega) (by omega) rfl ?_
         intro va24_5 w53 ho24_5 ca24_5
         have hord9 := hord
         replace hxv := ca24_5.at hxv (fun e => by have := (own_lt hord9 e).1; omega)
         replace hrb := ca24_5.at hrb (fun e => by have := (own_lt hord9 e).1; omega)
         replace hcl := hcl.trans ca24_5 (H := fun _ => False) (fun _ _ e => e) (fun j hj e => by have := (own_lt hord9 e).1; omega)
         replace hx := hx.own ca24_5 (fun j hj e => by have := (own_lt hord9 e).1; omega)
         replace hcA := hcA.trans ca24_5 (H := fun j => j = p ∨ j = ob) (fun _ _ e => e) (fun j hj e => by have := (own_lt hord9 e).1; rw [hwq, ← hwl2] at hj; omega)
         obtain ⟨uo2, uc2, rfl⟩ : ∃ uo2 uc2, va24_5 = .slice uo2 (oo.length + 1) uc2 := own_form ho24_5
         have hS := hS.trans ca24_5 (fun _ _ e => e) (fun _ _ e => .inr (.inl e))
         refine WL.nil Nx.thn ⟨hS, ?_⟩
         refine WH.take 6 rfl (by kernel_rfl) (by kernel_rfl) (by kernel_rfl) (fun _ _ _ h => h) Gd.none rfl (fun w' hS' => X.fieldAddr fd25_5 (jt4 rfl (jt2 rfl (s9)))) hS ?_
         refine WH.one 7 rfl (by kernel_rfl) (fun _ _ h => h) ?_
         refine WL.store el23 (lh) (lt rfl (lh)) rfl hxv (show 0 + 5 < 6 by decide) ?_
         intro w54 us
         have hob9 := lt_of_blk hxv
         have hxv9 := hxv
         replace hxv : w54.heap[ob]? = some (.cells #[.int .i64 n1, .bool u1, .slice la acc.length lcp, .int .i64 lv1, .int .i64 an, .slice uo2 (oo.length + 1) uc2] 25 (0, 0)) := us.at_
         replace hrb := us.ch.at hrb (fun e => by (try dsimp only at e); omega)
         replace hx := hx.own us.ch (fun j hj e => by (try dsimp only at e); omega)
         have cus := us.ch
         replace hcl := hcl.trans us.ch (H := fun _ => False) (fun _ _ e => e) (fun j hj e => by ((try dsimp only at e); omega))
         replace hord := own_ch ho24_5 us.ch (fun k hk e => by have := (own_lt ho24_5 hk).1; (try dsimp only at e); omega)
         replace hcA := hcA.trans us.ch (H := fun j => j = p ∨ j = ob) (fun _ _ e => e) (fun j hj e => by ((try dsimp only at e); omega))
         
         have hS := hS.trans cus (fun _ _ e => e) (fun _ _ e => .inr (.inr e))
         refine WL.nil Nx.thn ⟨hS, ?_⟩
         refine WH.done (by kernel_rfl) ?_
         refine WL.e3 (Nx.blk Nx.thn) 2 8 9 (jt4 rfl (jt2 rfl (lt rfl (s2)))) (jt4 rfl (jt2 rfl (lt rfl (s8)))) (jt4 rfl (jt2 rfl (lt rfl (s9)))) ?_
         intro σ32 s2 s8 s9
         refine ⟨aftP pnum xx, by omega, ⟨s2.trans qo11.symm, s8.trans qo12.symm, s9.trans qo13.symm, trivial⟩, oo ++ [z2], .slice uo2 (oo.length + 1) uc2, hxv, hrb, hx, (by rw [List.length_append, show ints (oo ++ [z2]) = ints oo ++ [.int .i64 z2] from List.map_append ..]; exact hord), hcA, hst, (by rw [List.length_append, List.length_singleton]; omega), (fun z hz => by rcases List.mem_append.1 hz with hz | hz; (· exact hino z hz); (· rw [List.mem_singleton.1 hz]; exact i2)), hcl, (by have := cus.size; have := ca24_5.size; omega)⟩
      ·
       replace hst := hst.many_end (K := repK4 n1 u1 acc lv1 an) (seesO_at hs23)
       refine W.exit (Nx.xthn (Nx.xthn (Nx.xblk Nx.thn))) ?_
       refine W.region ?_
       refine WL.x (X.mv (s8)) rfl ?_
       refine WL.call3 ce22 (lh) lc lc (rtake_ok (p + 1) p xx 3 (mk1 41) w42 hx) rfl ?_
       rintro _ w55 ⟨rfl, hx, c25⟩
       replace hxv := c25.at hxv (fun e => by (try dsimp only at e); omega)
       replace hrb := c25.at hrb (fun e => by (try dsimp only at e); omega)
       replace hcl := hcl.trans c25 (H := fun _ => False) (fun _ _ e => e) (fun j hj e => by ((try dsimp only at e); omega))
       replace hcA := hcA.trans c25 (H := fun j => j = p ∨ j = ob) (fun _ _ e => e) (fun j hj e => by ((try dsimp only at e); omega))
       replace hord := own_ch hord c25 (fun k hk e => by have := (own_lt hord hk).1; (try dsimp only at e); omega)
       replace hst := hst.step (p := ptok 3 (mk1 41)) (val_tok xx 3 (mk1 41))
       refine WL.e3 Nx.thn 2 8 9 (jt2 rfl (s2)) (jt2 rfl (s8)) (jt2 rfl (s9)) ?_
       intro σ33 s2 s8 s9
       refine ⟨⟨s2.trans qo8.symm, s8.trans qo9.symm, s9.trans qo10.symm, trivial⟩, oo, uo, _, hxv, hrb, hx, hord, hcA, hst, by omega, hino, hcl, (by have := c25.size; omega)⟩
     ·
      replace hst := StO.order_no hyes hst
      refine W.skip Nx.thn ?_
      refine ⟨⟨s2.trans qo8.symm, s8.trans qo9.symm, s9.trans qo10.symm, trivial⟩, [], _, x11, hxv, hrb, hx, World.ownsRow_nil _ _ _ _, hcA, hst, Nat.zero_le _, (fun _ h => by cases h), hcl, by omega⟩
    ·
     rintro σ34 w56 ⟨⟨f2, f8, f9, _⟩, oo, uo, y, hxv, hrb, hx, hord, hcA, hst, hlo, hino, hcl, hwo⟩
     have s2 := f2.trans qo8
     have s8 := f8.trans qo9
     have s9 := f9.trans qo10
     refine W.seq ?_
     refine W.region ?_
     refine WL.x (X.mv (s8)) rfl ?_
     have hpT : ∃ cs, wq.heap[p]? = some (.cells cs 57 (0, 0)) := hpq
     refine WL.call1 ce25 (lh) (rline_ok (p + 1) p y w56 hx) rfl ?_
     rintro _ w57 ⟨hx, c26⟩
     replace hxv := c26.at hxv (fun e => by (try dsimp only at e); omega)
     replace hrb := c26.at hrb (fun e => by (try dsimp only at e); omega)
     replace hcl := hcl.trans c26 (H := fun _ => False) (fun _ _ e => e) (fun j hj e => by ((try dsimp only at e); omega))
     replace hcA := hcA.trans c26 (H := fun j => j = p ∨ j = ob) (fun _ _ e => e) (fun j hj e => by ((try dsimp only at e); omega))
     replace hord := own_ch hord c26 (fun k hk e => by have := (own_lt hord hk).1; (try dsimp only at e); omega)
     obtain ⟨cs8, hpT⟩ := hpT
     replace hst := hst.step (p := pends) (val_unit y)
     rw [htg] at hst
     obtain ⟨hye, hva⟩ := hst.done
     rw [hye] at hx
     refine WL.e3 Nx.thn 2 8 9 (jt2 rfl (s2)) (jt2 rfl (s8)) (jt2 rfl (s9)) ?_
     intro σ35 s2 s8 s9
     refine W.seq ?_
     refine W.seq ?_
     refine W.region ?_
     refine WL.x (X.mv (s8)) rfl ?_
     obtain ⟨hpB9, hB9, v9, ts9, bad, hp9, hr9, hG9, hL9, hxe⟩ := hx
     obtain ⟨a9, c9, rfl⟩ := hr9.len
     obtain ⟨uo9, uc9, rfl⟩ := own_form hord
     refine WL.x (X.nilck (lh)) rfl ?_
     refine WL.x (X.fieldAddr fd57_1 (lh)) rfl ?_
     refine WL.x (X.load pl4 (lh) hp9 (v := .bool bad) rfl) rfl ?_
     refine WL.x (X.mv (lh)) rfl ?_
     refine WL.split (lh) (fun hb9 => ?_) (fun hb9 => ?_)
     ·
      refine WL.no rfl rfl (lh) (hb9) rfl ?_
      refine WL.no rfl rfl (lt rfl (lh)) (hb9) rfl ?_
      refine WL.no rfl rfl (jt2 rfl (lh)) (hb9) rfl ?_
      refine WL.no rfl rfl (jt2 rfl (lt rfl (lh))) (hb9) rfl ?_
      refine WL.no rfl rfl (jt4 rfl (lh)) (hb9) rfl ?_
      refine WL.no rfl rfl (jt4 rfl (lt rfl (lh))) (hb9) rfl ?_
      refine WL.x (X.pickT (jt4 rfl (jt2 rfl (lh))) (hb9) lc) rfl ?_
      refine WL.x (X.mv (lh)) rfl ?_
      refine WL.no rfl rfl (lh) rfl rfl ?_
      refine WL.no rfl rfl (lt rfl (lh)) rfl rfl ?_
      refine WL.no rfl rfl (jt2 rfl (lh)) rfl rfl ?_
      refine WL.x (X.pickT (jt2 rfl (lt rfl (lh))) rfl lc) rfl ?_
      refine WL.e3 Nx.thn 2 9 100 (jt8 rfl (jt8 rfl (lt rfl (s2)))) (jt8 rfl (jt8 rfl (lt rfl (s9)))) (lh) ?_
      intro σ36 s2 s9 s100
      refine W.cndT s100 ?_
      refine W.seq ?_
      refine W.region ?_
      refine WL.x (X.build bd25 pnil rfl (rfl : _ = [_, _, _, _, _, _])) rfl ?_
      have hrb9 : w57.heap[rb]? = some (.cells zrep 25 (0, 0)) := by exact hrb
      refine WL.storeS (vs := [.int .i64 0, .bool false, .slice none 0 0, .int .i64 0, .int .i64 0, .slice none 0 0]) ag25 (lt rfl (s2)) (lh) rfl rfl hrb9 (by decide) ?_
      intro w58 us
      have hl3 : w58.heap[rb]? = some (.cells zrep 25 (0, 0)) := us.at_
      have chl3 := us.ch
      refine WL.x (X.asg lc) rfl ?_
      refine WL.x (X.asg lc) rfl ?_
      refine WL.e3 Nx.thn 2 3 4 (jt2 rfl (lt rfl (s2))) (lt rfl (lh)) (lh) ?_
      intro σ37 s2 s3 s4
      refine W.retG (Nx.rthn Nx.fG) ⟨[_, _, _], (.cell s2 (by assumption) (by exact ag25) (.tmp s3 (.tmp s4 .nil))), ?_⟩
      exact ⟨⟨_, _, _, rfl, .inr ⟨(0, 210), parseQ_none hsp (repP_none (prep_none (by rw [hxe, hb9]; rfl))), rfl, rfl, rfl, by decide⟩⟩, hcl.trans chl3 (H := fun _ => False) (fun _ _ e => e) (fun j hj e => by (try dsimp only at e); omega)⟩
     ·
      refine WL.yes rfl rfl (lh) (hb9) ?_
      refine WL.x (X.mv (jt4 rfl (lt rfl (s8)))) rfl ?_
      refine WL.yes rfl rfl (lt rfl (lh)) (hb9) ?_
      refine WL.x (X.nilck (lh)) rfl ?_
      refine WL.yes rfl rfl (jt2 rfl (lh)) (hb9) ?_
      refine WL.x (X.fieldAddr fd57_0 (lh)) rfl ?_
      refine WL.yes rfl rfl (jt2 rfl (lt rfl (lh))) (hb9) ?_
      refine WL.x (X.load pl44 (lh) hp9 (v := .slice a9 ts9.length c9) rfl) rfl ?_
      refine WL.yes rfl rfl (jt4 rfl (lh)) (hb9) ?_
      refine WL.x (X.lenSl Tryz.underlying44 (lh)) rfl ?_
      refine WL.yes rfl rfl (jt4 rfl (lt rfl (lh))) (hb9) ?_
      refine WL.x (X.gtr (lh) lc) rfl ?_
      refine WL.x (X.pickF (jt4 rfl (jt2 rfl (lh))) (hb9) (lh)) rfl ?_
      refine WL.x (X.mv (lh)) rfl ?_
      refine WL.splitp (lh) (fun hz => ?_) (fun hz => ?_)
      ·
       refine WL.no rfl rfl (lh) (decide_eq_true hz) rfl ?_
       refine WL.no rfl rfl (lt rfl (lh)) (decide_eq_true hz) rfl ?_
       refine WL.no rfl rfl (jt2 rfl (lh)) (decide_eq_true hz) rfl ?_
       refine WL.x (X.pickT (jt2 rfl (lt rfl (lh))) (decide_eq_true hz) lc) rfl ?_
       refine WL.e3 Nx.thn 2 9 100 (jt8 rfl (jt8 rfl (lt rfl (s2)))) (jt8 rfl (jt8 rfl (lt rfl (s9)))) (lh) ?_
       intro σ38 s2 s9 s100
       refine W.cndT s100 ?_
       refine W.seq ?_
       refine W.region ?_
       refine WL.x (X.build bd25 pnil rfl (rfl : _ = [_, _, _, _, _, _])) rfl ?_
       have hrb9 : w57.heap[rb]? = some (.cells zrep 25 (0, 0)) := by exact hrb
       refine WL.storeS (vs := [.int .i64 0, .bool false, .slice none 0 0, .int .i64 0, .int .i64 0, .slice none 0 0]) ag25 (lt rfl (s2)) (lh) rfl rfl hrb9 (by decide) ?_
       intro w59 us
       have hl3 : w59.heap[rb]? = some (.cells zrep 25 (0, 0)) := us.at_
       have chl3 := us.ch
       refine WL.x (X.asg lc) rfl ?_
       refine WL.x (X.asg lc) rfl ?_
       refine WL.e3 Nx.thn 2 3 4 (jt2 rfl (lt rfl (s2))) (lt rfl (lh)) (lh) ?_
       intro σ39 s2 s3 s4
       refine W.retG (Nx.rthn Nx.fG) ⟨[_, _, _], (.cell s2 (by assumption) (by exact ag25) (.tmp s3 (.tmp s4 .nil))), ?_⟩
       exact ⟨⟨_, _, _, rfl, .inr ⟨(0, 210), parseQ_none hsp (repP_left (prep_some (r := ts9) (by rw [hxe, hb9]; rfl) hva) (fun e => by rw [e] at hz; simp at hz)), rfl, rfl, rfl, by decide⟩⟩, hcl.trans chl3 (H := fun _ => False) (fun _ _ e => e) (fun j hj e => by (try dsimp only at e); omega)⟩
      ·
       refine WL.yes rfl rfl (lh) (decide_eq_false hz) ?_
       have hmF : ∀ j, Mine [85, 67] w.heap.size wq j → ¬ (j = p ∨ j = ob) := fun j hj e => by
         rcases e with e | e
         · exact mine_ne hpT (by decide) j (hj.mono (fun _ h => h) (Nat.le_refl _)) e
         · exact mine_ne hxvq (by decide) j hj e
       have hR : RRep (Mine [3, 67, 85] w.heap.size w57) w57 [.int .i64 n1, .bool u1, .slice la acc.length lcp, .int .i64 lv1, .int .i64 an, .slice uo9 oo.length uc9] (n1, u1, acc, lv1, an, oo) := ⟨_, _, rfl, ((hrow.rsl' (A' := Mine [85, 67] w.heap.size wq) monAn (fun j hj => hj.mono (by decide) (Nat.le_refl _)) (hrow.mine (by decide) (by omega))).ch monAn hcA hmF (fun j hj => (hj.ch hcA (hmF j hj)).mono (by decide) (Nat.le_refl _))), ⟨Sl.own hord, own_mine hord (by decide) (by omega)⟩, by dsimp only; omega, by dsimp only; omega, i1, hino⟩
       refine WL.x (X.loadBox (vs := [.int .i64 n1, .bool u1, .slice la acc.length lcp, .int .i64 lv1, .int .i64 an, .slice uo9 oo.length uc9]) ag25 (jt8 rfl (jt4 rfl (lt rfl (s9)))) hxv rfl) rfl ?_
       refine WL.yes rfl rfl (lt rfl (lh)) (decide_eq_false hz) ?_
       refine WL.call1 ce29 (lh) (rcan_ok _ _ _ w57 hR) rfl ?_
       rintro _ w60 ⟨rfl, c98⟩
       refine WL.yes rfl rfl (jt2 rfl (lh)) (decide_eq_false hz) ?_
       refine WL.x (X.not (lh)) rfl ?_
       refine WL.x (X.pickF (jt2 rfl (lt rfl (lh))) (decide_eq_false hz) (lh)) rfl ?_
       refine WL.e3 Nx.thn 2 9 100 (jt8 rfl (jt8 rfl (lt rfl (s2)))) (jt8 rfl (jt8 rfl (lt rfl (s9)))) (lh) ?_
       intro σ40 s2 s9 s100
       refine W.cnd s100 (fun hcan => ?_) (fun hcan => ?_)
       ·
        refine W.seq ?_
        refine W.region ?_
        refine WL.x (X.build bd25 pnil rfl (rfl : _ = [_, _, _, _, _, _])) rfl ?_
        have hrb9 : w60.heap[rb]? = some (.cells zrep 25 (0, 0)) := by exact c98.at0 hrb
        refine WL.storeS (vs := [.int .i64 0, .bool false, .slice none 0 0, .int .i64 0, .int .i64 0, .slice none 0 0]) ag25 (lt rfl (s2)) (lh) rfl rfl hrb9 (by decide) ?_
        intro w61 us
        have hl3 : w61.heap[rb]? = some (.cells zrep 25 (0, 0)) := us.at_
        have chl3 := us.ch
        refine WL.x (X.asg lc) rfl ?_
        refine WL.x (X.asg lc) rfl ?_
        refine WL.e3 Nx.thn 2 3 4 (jt2 rfl (lt rfl (s2))) (lt rfl (lh)) (lh) ?_
        intro σ41 s2 s3 s4
        refine W.retG (Nx.rthn Nx.fG) ⟨[_, _, _], (.cell s2 (by assumption) (by exact ag25) (.tmp s3 (.tmp s4 .nil))), ?_⟩
        exact ⟨⟨_, _, _, rfl, .inr ⟨(0, 210), parseQ_none hsp (repP_bad (prep_some (by rw [hxe, hb9, show ts9 = [] from List.eq_nil_of_length_eq_zero (by omega)]; rfl) hva) (by simpa using hcan)), rfl, rfl, rfl, by decide⟩⟩, (hcl.trans0 c98).trans chl3 (H := fun _ => False) (fun _ _ e => e) (fun j hj e => by (try dsimp only at e); omega)⟩
       ·
        refine W.skip Nx.thn ?_
        refine W.seq ?_
        refine W.region ?_
        refine WL.x (X.loadBox (vs := [.int .i64 n1, .bool u1, .slice la acc.length lcp, .int .i64 lv1, .int .i64 an, .slice uo9 oo.length uc9]) ag25 (s9) (c98.at0 hxv) rfl) rfl ?_
        refine WL.storeS (vs := [.int .i64 n1, .bool u1, .slice la acc.length lcp, .int .i64 lv1, .int .i64 an, .slice uo9 oo.length uc9]) ag25 (lt rfl (s2)) (lh) rfl rfl (c98.at0 hrb) (by decide) ?_
        intro w62 us
        have hl3 : w62.heap[rb]? = some (.cells #[.int .i64 n1, .bool u1, .slice la acc.length lcp, .int .i64 lv1, .int .i64 an, .slice uo9 oo.length uc9] 25 (0, 0)) := us.at_
        have chl3 := us.ch
        have hR7 := monRep _ _ _ _ _ _ _ c98 (fun _ _ e => e) (fun j hj => hj.ch c98 (fun e => e)) hR
        have hmL : ∀ j, Mine [3, 67, 85] w.heap.size w60 j → ¬ j = rb := mine_ne (c98.at0 hrb) (by decide)
        have hR8 := monRep _ _ _ _ _ _ _ chl3 hmL (fun j hj => hj.ch chl3 (hmL j hj)) hR7
        refine WL.x (X.asg lc) rfl ?_
        refine WL.x (X.asg lc) rfl ?_
        refine WL.e3 Nx.thn 2 3 4 (jt2 rfl (lt rfl (s2))) (lt rfl (lh)) (lh) ?_
        intro σ42 s2 s3 s4
        refine W.retG Nx.fG ⟨[_, _, _], (.cell s2 (by assumption) (by exact ag25) (.tmp s3 (.tmp s4 .nil))), ?_⟩
        exact ⟨⟨_, _, _, rfl, .inl ⟨_, _, parseQ_some hsp (repP_ok (prep_some (by rw [hxe, hb9, show ts9 = [] from List.eq_nil_of_length_eq_zero (by omega)]; rfl) hva) (by simpa using hcan)), rfl, hR8, rfl, rfl⟩⟩, (hcl.trans0 c98).trans chl3 (H := fun _ => False) (fun _ _ e => e) (fun j hj e => by (try dsimp only at e); omega)⟩
end Go.Proofs.YtbnllchicnmkiaaGreatDoor
end
