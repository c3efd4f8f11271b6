/-
  A part of the walk of the program.
-/
import Derived.Test.YtbnllchicnmkiaaGreatDoorSB
import Derived.Test.YtbnllchicnmkiaaGreatDoorRO
import Derived.Test.YtbnllchicnmkiaaGreatDoorRC
import Derived.Test.YtbnllchicnmkiaaGreatDoorDfr
set_option linter.unusedVariables false
set_option linter.unusedSimpArgs false
set_option maxRecDepth 100000
namespace Go.Proofs.YtbnllchicnmkiaaGreatDoor
open Go Go.RowKit Sg
theorem el27 : Sg.Elem Tryz.prog 27 1 (.nilIface) 16 := ⟨_, rfl, rfl, rfl, rfl⟩
theorem bd25 : Sg.Bld Tryz.prog 25 [0, 1, 2, 3, 4, 5] [.int .i64 0, .bool false, .slice none 0 0, .int .i64 0, .int .i64 0, .slice none 0 0] := ⟨_, rfl, rfl, .inl ⟨_, rfl, Sg.allIn rfl, Sg.allAt (n := 6) rfl⟩⟩
theorem pl27 : Sg.Plain Tryz.prog 27 := ⟨_, rfl, trivial⟩
theorem ce16 : Sg.Callee Tryz.prog 16 := ⟨_, Tryz.func16, by decide, rfl⟩
theorem ce17 : Sg.Callee Tryz.prog 17 := ⟨_, Tryz.func17, by decide, rfl⟩
theorem bd51 : Sg.Bld Tryz.prog 51 [0] [.slice none 0 0] := ⟨_, rfl, rfl, .inl ⟨_, rfl, Sg.allIn rfl, Sg.allAt (n := 1) rfl⟩⟩
theorem ce18 : Sg.Callee Tryz.prog 18 := ⟨_, Tryz.func18, by decide, rfl⟩
theorem ce19 : Sg.Callee Tryz.prog 19 := ⟨_, Tryz.func19, by decide, rfl⟩

def flt (at_ why : Int) : Value := .iface 48 (.agg #[.int .i64 at_, .int .i64 why])
theorem errV_one (s : ByteArray) : (errV s).oneCell' = true := by unfold errV; split <;> rfl
/-- The cells of a report that is none. -/
def zrep : Array Value := #[.int .i64 0, .bool false, .slice none 0 0, .int .i64 0, .int .i64 0, .slice none 0 0]
/-- What a text's reading comes to. -/
def parseQ (f : Wds) (s : ByteArray) : Except (Int × Int) QRep := match scanA (sb s) with
  | .error p => .error ((p.1 : Int), (p.2 : Int))
  | .ok ts => match repP f (mayR keyE) ts with
    | some x => .ok x
    | none => .error (0, 210)
theorem parseQ_scan {f : Wds} {s : ByteArray} {p : Nat × Nat} (h : scanA (sb s) = .error p) : parseQ f s = .error ((p.1 : Int), (p.2 : Int)) := by unfold parseQ; rw [h]
theorem parseQ_none {f : Wds} {s : ByteArray} {ts : List Tok} (h : scanA (sb s) = .ok ts) (h2 : repP f (mayR keyE) ts = none) : parseQ f s = .error (0, 210) := by unfold parseQ; rw [h]; simp only; rw [h2]
theorem parseQ_some {f : Wds} {s : ByteArray} {ts : List Tok} {x : QRep} (h : scanA (sb s) = .ok ts) (h2 : repP f (mayR keyE) ts = some x) : parseQ f s = .ok x := by unfold parseQ; rw [h]; simp only; rw [h2]
theorem parseQ_alike (s : ByteArray) : parseQ fR s = parseQ fP s := by
  unfold parseQ
  cases scanA (sb s) with
  | error p => rfl
  | ok ts => simp only; rw [rep_words wds_alike]
theorem repP_none {f : Wds} {may : QRep → Bool} {ts : List Tok} (h : prep f (skipP ts) = none) : repP f may ts = none := by unfold repP; rw [h]
theorem repP_left {f : Wds} {may : QRep → Bool} {ts : List Tok} {x : QRep} {r : List Tok} (h : prep f (skipP ts) = some (x, r)) (hr : r ≠ []) : repP f may ts = none := by
  unfold repP; rw [h]
  cases r with
  | nil => exact absurd rfl hr
  | cons t r => rfl
theorem repP_bad {f : Wds} {may : QRep → Bool} {ts : List Tok} {x : QRep} (h : prep f (skipP ts) = some (x, [])) (hm : may x = false) : repP f may ts = none := by unfold repP; rw [h]; simp only; rw [hm]; rfl
theorem repP_ok {f : Wds} {may : QRep → Bool} {ts : List Tok} {x : QRep} (h : prep f (skipP ts) = some (x, [])) (hm : may x = true) : repP f may ts = some x := by unfold repP; rw [h]; simp only; rw [hm]; rfl
/-- What a reading hands back. -/
def ParR (f : Wds) (s : ByteArray) (A : Nat → Prop) (w : World) (rv er : Value) : Prop :=
  (∃ x es, parseQ f s = .ok x ∧ rv = .agg es.toArray ∧ er = .nilIface ∧ RRep A w es x) ∨ (∃ x : Int × Int, parseQ f s = .error x ∧ rv = .agg zrep ∧ er = flt x.1 x.2)
theorem RRep_one {A : Nat → Prop} {w : World} {es : List Value} {x : GRep} (h : RRep A w es x) : es.all (·.oneCell') = true := by
  obtain ⟨v, u, rfl, h1, h2, _⟩ := h
  obtain ⟨a, c, rfl⟩ := h1.len
  obtain ⟨b, d, rfl⟩ := h2.1.len
  rfl

theorem dfr_none (lcb ecb : Nat) (w : World) :
  Go.CallsD Tryz.prog 17 #[.pointer (some ⟨lcb, 0, none⟩), .pointer (some ⟨ecb, 0, none⟩)] .returning w (fun e u' w' => ∃ v, e = .returned v ∧ u' = .returning ∧ w' = w) := by
 refine enterRec (l := [.pointer (some ⟨lcb, 0, none⟩), .pointer (some ⟨ecb, 0, none⟩)]) Tryz.func17 rfl rfl rfl rfl rfl ?_
 refine W.g3 0 1 2 (v1 := .pointer (some ⟨lcb, 0, none⟩)) (v2 := .pointer (some ⟨ecb, 0, none⟩)) (v3 := .nilIface) rfl rfl rfl ?_; intro σ s0 s1 s2
 refine W.seq ?_
 refine W.region ?_
 refine WL.x (X.mv (s2)) rfl ?_
 refine WL.x (v := .bool (!isNil .nilIface)) (X.neqI Tryz.underlying20 (lh) (.inl rfl)) rfl ?_
 refine WL.e3 Nx.thn 0 1 5 (jt2 rfl (s0)) (jt2 rfl (s1)) (lh) ?_
 intro σ1 s0 s1 s5
 refine W.cndBF s5 (rfl) ?_
 refine W.skip Nx.n0 ?_
 exact ⟨_, rfl, rfl, rfl⟩
theorem dfr_fault (lcb ecb : Nat) (z1 : Array Value) (z2 : Value) (w : World) (h1 : w.heap[lcb]? = some (.cells z1 25 (0, 0))) (hz1 : z1.size = 6) (h2 : w.heap[ecb]? = some (.cells #[z2] 27 (0, 0))) (hne : lcb ≠ ecb) :
  Go.CallsD Tryz.prog 17 #[.pointer (some ⟨lcb, 0, none⟩), .pointer (some ⟨ecb, 0, none⟩)] (.panicking [{ v := wrg, recovered := false }]) w (fun e u' w' => ∃ v, e = .returned v ∧ settle u' = .returning ∧ w'.heap[lcb]? = some (.cells zrep 25 (0, 0)) ∧ w'.heap[ecb]? = some (.cells #[flt 0 210] 27 (0, 0)) ∧ Ch (fun j => j = lcb ∨ j = ecb) w w') := by
 refine enterRec (l := [.pointer (some ⟨lcb, 0, none⟩), .pointer (some ⟨ecb, 0, none⟩)]) Tryz.func17 rfl rfl rfl rfl rfl ?_
 refine W.g3 0 1 2 (v1 := .pointer (some ⟨lcb, 0, none⟩)) (v2 := .pointer (some ⟨ecb, 0, none⟩)) (v3 := wrg) rfl rfl rfl ?_; intro σ s0 s1 s2
 refine W.seq ?_
 refine W.region ?_
 refine WL.x (X.mv (s2)) rfl ?_
 refine WL.x (v := .bool (!isNil wrg)) (X.neqI Tryz.underlying20 (lh) (.inr ⟨_, _, rfl⟩)) rfl ?_
 refine WL.e3 Nx.thn 0 1 5 (jt2 rfl (s0)) (jt2 rfl (s1)) (lh) ?_
 intro σ1 s0 s1 s5
 refine W.cndBT s5 (rfl) ?_
 refine W.region ?_
 refine WL.x (X.build bd25 pnil rfl (rfl : _ = [_, _, _, _, _, _])) rfl ?_
 refine WL.x (X.build bd48 (pcons lc pnil) rfl (rfl : _ = [_, _])) rfl ?_
 refine WL.x (X.iface Tryz.underlying48 trivial (lh)) rfl ?_
 refine WL.storeS (vs := [.int .i64 0, .bool false, .slice none 0 0, .int .i64 0, .int .i64 0, .slice none 0 0]) ag25 (jt2 rfl (lt rfl (s0))) (jt2 rfl (lh)) rfl rfl h1 (by rw [hz1]; decide) ?_
 intro w1 us
 have hl3 := us.at_
 rw [blit_all (by rw [hz1]; rfl)] at hl3
 have cs2 := us.ch
 have h23 := cs2.at h2 (fun e => hne e.symm)
 refine WL.store el27 (jt2 rfl (lt rfl (s1))) (lh) rfl h23 (show 0 + 0 < 1 by decide) ?_
 intro w2 us
 have he3 : w2.heap[ecb]? = some (.cells #[flt 0 210] 27 (0, 0)) := us.at_
 have cs3 := us.ch
 have hl4 := cs3.at hl3 (fun e => hne e)
 refine WL.e0 Nx.n0  ?_
 intro σ2 
 exact ⟨_, rfl, rfl, hl4, he3, cs2.trans cs3 (H := fun j => j = lcb ∨ j = ecb) (fun _ _ e => .inl e) (fun _ _ e => .inr e)⟩
set_option maxHeartbeats 3200000 in
theorem parse_ok (s : ByteArray) (w : World) (hER : ER w) :
  Sg.Ret Tryz.prog 7 #[.string s] w fun v w' => (∃ rv er, v = .tuple #[rv, er] ∧ ParR fP s (Mine [3, 67, 85] w.heap.size w') w' rv er) ∧ Ch0 w w' := by
 refine enterXR (n := 36) (l := [.string s]) Tryz.func7 rfl rfl rfl ?_
 refine WX.g1 0 (v := .string s) rfl ?_; intro σ s0
 refine WX.seqF rfl rfl ?_
 refine W.region ?_
 refine WL.alloc el25 rfl ?_
 intro w1 u0_0; have hu0_0 := u0_0.at_; have cu0_0 := u0_0.ch; have zu0_0 := u0_0.size
 refine WL.alloc el27 rfl ?_
 intro w2 u0_1; have hu0_1 := u0_1.at_; have cu0_1 := u0_1.ch; have zu0_1 := u0_1.size
 refine WL.e3 Nx.thn 0 2 3 (jt2 rfl (s0)) (lt rfl (lh)) (lh) ?_
 intro σ1 s0 s2 s3
 refine WX.seqF rfl rfl ?_
 refine W.region ?_
 refine WL.x (X.mv (s0)) rfl ?_
 refine WL.call1 ce16 (lh) (scan_fn s w2 (hER.ch0 (cu0_0.trans0 cu0_1))) rfl ?_
 rintro _ w3 ⟨⟨u, rfl, hu⟩, csc⟩
 refine WL.x (X.mv (lh)) rfl ?_
 refine WL.x (X.ex2_0 (lh)) rfl ?_
 refine WL.x (X.ex2_1 (lt rfl (lh))) rfl ?_
 refine WL.x (X.asg (lt rfl (lh))) rfl ?_
 have hzu0 := cu0_0.size
 have hzu1 := cu0_1.size
 have hzsc := csc.size
 refine WL.store el27 (jt4 rfl (jt2 rfl (s3))) (lt rfl (lh)) (errV_one s) (csc.at0 hu0_1) (show 0 < 1 by decide) ?_
 intro w4 us
 have hec : w4.heap[w1.heap.size]? = some (.cells #[errV s] 27 (0, 0)) := us.at_
 have cs16 := us.ch
 have hlc : w4.heap[w.heap.size]? = some (.cells zrep 25 (0, 0)) := cs16.at (csc.at0 (cu0_1.at0 hu0_0)) (fun e => by (try dsimp only at e); omega)
 have hcl : Ch0 w w4 := ((cu0_0.trans0 cu0_1).trans0 csc).trans cs16 (fun _ _ e => e) (fun q hq e => by (try dsimp only at e); omega)
 have hu := hu.ch cs16 (fun k hk e => by have := (hu.lt hk).1; (try dsimp only at e); omega)
 obtain ⟨bL, hlcE⟩ : ∃ bL, bL = w.heap.size := ⟨_, rfl⟩
 obtain ⟨bE, hecE⟩ : ∃ bE, bE = w1.heap.size := ⟨_, rfl⟩
 rw [← hlcE] at s2 hlc
 rw [← hecE] at s3 hec
 have hI := errV_isI s
 have hle : w.heap.size ≤ bL ∧ w.heap.size ≤ bE ∧ bL ≠ bE := by omega
 refine WL.e3 Nx.thn 2 3 4 (jt4 rfl (jt2 rfl (s2))) (jt4 rfl (jt2 rfl (s3))) (lh) ?_
 intro σ2 s2 s3 s4
 refine WX.seqF rfl rfl ?_
 refine W.seq ?_
 refine W.region ?_
 refine WL.x (X.load pl27 (s3) hec (v := errV s) rfl) rfl ?_
 refine WL.x (v := .bool (!isNil (errV s))) (X.neqI Tryz.underlying27 (lh) hI) rfl ?_
 refine WL.e4 Nx.thn 2 3 4 12 (jt2 rfl (s2)) (jt2 rfl (s3)) (jt2 rfl (s4)) (lh) ?_
 intro σ3 s2 s3 s4 s12
 refine W.cnd s12 (fun hse => ?_) (fun hse => ?_)
 ·
  obtain ⟨p9, hsp⟩ : ∃ p9, scanA (sb s) = .error p9 := by
    cases h9 : scanA (sb s) with
    | ok l => rw [(scL_ok h9).2.2] at hse; cases hse
    | error p9 => exact ⟨p9, rfl⟩
  refine W.seq ?_
  refine W.held (fun w' => Ch (fun j => j = bL ∨ j = bE) w4 w') mo ?_
  intro w5 qhh1 qc2
  have hS : Ch (fun j => j = bL ∨ j = bE) w4 w5 := Ch.weak qc2
  have hzqc2 := qc2.size
  have cdh3 := qc2
  replace hec := cdh3.at0 hec
  replace hlc := cdh3.at0 hlc
  refine WH.take 0 rfl (by kernel_rfl) (by kernel_rfl) (by kernel_rfl) (fun _ _ _ h => h) Gd.none rfl (fun w' hS' => X.build bd25 pnil rfl (rfl : _ = [_, _, _, _, _, _])) hS ?_
  refine WH.two 1 2 rfl rfl (by kernel_rfl) (fun _ _ h => h) ?_ ?_
  ·
   refine WL.x (X.load pl27 (lt rfl (s3)) hec (v := errV s) rfl) rfl ?_
   refine WL.nil Nx.thn ⟨hS, ?_⟩
   refine WH.one 2 rfl (by kernel_rfl) (fun _ _ h => h) ?_
   refine WL.storeS (vs := [.int .i64 0, .bool false, .slice none 0 0, .int .i64 0, .int .i64 0, .slice none 0 0]) ag25 (jt2 rfl (s2)) (lt rfl (lh)) rfl rfl hlc (by decide) ?_
   intro w6 us
   have hl3 := us.at_
   rw [blit_all (by rfl)] at hl3
   have hl3 : w6.heap[bL]? = some (.cells zrep 25 (0, 0)) := hl3
   have chl3 := us.ch
   replace hec := chl3.at hec (fun e => by (try dsimp only at e); omega)
   have hS := hS.trans chl3 (fun _ _ e => e) (fun _ _ e => .inl e)
   refine WL.nil Nx.thn ⟨hS, ?_⟩
   refine WH.one 3 rfl (by kernel_rfl) (fun _ _ h => h) ?_
   refine WL.store el27 (jt2 rfl (s3)) (lh) (errV_one s) hec (show 0 < 1 by decide) ?_
   intro w7 us
   have he3 : w7.heap[bE]? = some (.cells #[errV s] 27 (0, 0)) := us.at_
   have che3 := us.ch
   have hl4 := che3.at hl3 (fun e => by (try dsimp only at e); omega)
   have hS := hS.trans che3 (fun _ _ e => e) (fun _ _ e => .inr e)
   refine WL.nil Nx.thn ⟨hS, ?_⟩
   refine WH.done (by kernel_rfl) ?_
   refine WL.e2 Nx.thn 2 3 (jt2 rfl (s2)) (jt2 rfl (s3)) ?_
   intro σ4 s2 s3
   refine W.retG (Nx.rthn Nx.fG) ⟨[_, _], (.cell s2 (by first | assumption | exact hS.at (by assumption) (by intro hne; first | exact hne | ((try dsimp only at hne); omega)) | exact hS.at (cs16.at (by assumption) (by intro hne; first | exact hne | ((try dsimp only at hne); omega))) (by intro hne; first | exact hne | ((try dsimp only at hne); omega))) (by first | exact ag25 | (rw [List.size_toArray, hes6]; exact ag25)) (.cell1 s3 pl27 (by first | assumption | exact hS.at (by assumption) (by intro hne; first | exact hne | ((try dsimp only at hne); omega)) | exact hS.at (cs16.at (by assumption) (by intro hne; first | exact hne | ((try dsimp only at hne); omega))) (by intro hne; first | exact hne | ((try dsimp only at hne); omega))) (by rfl) .nil)), ?_⟩
   exact ⟨⟨_, _, rfl, .inr ⟨((p9.1 : Int), (p9.2 : Int)), parseQ_scan hsp, rfl, (scL_err hsp).2.2⟩⟩, hcl.trans hS (fun _ _ e => e) (fun j hj e => by rcases e with e | e <;> omega)⟩
  ·
   refine WL.storeS (vs := [.int .i64 0, .bool false, .slice none 0 0, .int .i64 0, .int .i64 0, .slice none 0 0]) ag25 (lt rfl (s2)) (lh) rfl rfl hlc (by decide) ?_
   intro w8 us
   have hl3 := us.at_
   rw [blit_all (by rfl)] at hl3
   have hl3 : w8.heap[bL]? = some (.cells zrep 25 (0, 0)) := hl3
   have chl3 := us.ch
   replace hec := chl3.at hec (fun e => by (try dsimp only at e); omega)
   have hS := hS.trans chl3 (fun _ _ e => e) (fun _ _ e => .inl e)
   refine WL.nil Nx.thn ⟨hS, ?_⟩
   refine WH.one 1 rfl (by kernel_rfl) (fun _ _ h => h) ?_
   refine WL.x (X.load pl27 (lt rfl (s3)) hec (v := errV s) rfl) rfl ?_
   refine WL.nil Nx.thn ⟨hS, ?_⟩
   refine WH.one 3 rfl (by kernel_rfl) (fun _ _ h => h) ?_
   refine WL.store el27 (jt2 rfl (s3)) (lh) (errV_one s) hec (show 0 < 1 by decide) ?_
   intro w9 us
   have he3 : w9.heap[bE]? = some (.cells #[errV s] 27 (0, 0)) := us.at_
   have che3 := us.ch
   have hl4 := che3.at hl3 (fun e => by (try dsimp only at e); omega)
   have hS := hS.trans che3 (fun _ _ e => e) (fun _ _ e => .inr e)
   refine WL.nil Nx.thn ⟨hS, ?_⟩
   refine WH.done (by kernel_rfl) ?_
   refine WL.e2 Nx.thn 2 3 (jt2 rfl (s2)) (jt2 rfl (s3)) ?_
   intro σ5 s2 s3
   refine W.retG (Nx.rthn Nx.fG) ⟨[_, _], (.cell s2 (by first | assumption | exact hS.at (by assumption) (by intro hne; first | exact hne | ((try dsimp only at hne); omega)) | exact hS.at (cs16.at (by assumption) (by intro hne; first | exact hne | ((try dsimp only at hne); omega))) (by intro hne; first | exact hne | ((try dsimp only at hne); omega))) (by first | exact ag25 | (rw [List.size_toArray, hes6]; exact ag25)) (.cell1 s3 pl27 (by first | assumption | exact hS.at (by assumption) (by intro hne; first | exact hne | ((try dsimp only at hne); omega)) | exact hS.at (cs16.at (by assumption) (by intro hne; first | exact hne | ((try dsimp only at hne); omega))) (by intro hne; first | exact hne | ((try dsimp only at hne); omega))) (by rfl) .nil)), ?_⟩
   exact ⟨⟨_, _, rfl, .inr ⟨((p9.1 : Int), (p9.2 : Int)), parseQ_scan hsp, rfl, (scL_err hsp).2.2⟩⟩, hcl.trans hS (fun _ _ e => e) (fun j hj e => by rcases e with e | e <;> omega)⟩
 ·
  obtain ⟨ts0, hsp⟩ : ∃ ts0, scanA (sb s) = .ok ts0 := by
    cases h9 : scanA (sb s) with
    | ok l => exact ⟨l, rfl⟩
    | error p9 => rw [(scL_err h9).2.2] at hse; cases hse
  have hsl : scL s = ts0 := (scL_ok hsp).1
  rw [(scL_ok hsp).2.2] at hec
  rw [hsl] at hu
  obtain ⟨ua, uc, rfl⟩ := hu.len
  refine W.skip Nx.thn ?_
  refine WX.put_off (mcons (s2) (mcons (s3) mnil)) rfl ?_
  have hpl2 := ag25
  have hpl3 := pl27
  refine WX.rest (E := fun σ v w' => σ 2 = .pointer (some ⟨bL, 0, none⟩) ∧ σ 3 = .pointer (some ⟨bE, 0, none⟩) ∧ v = wrg ∧ parseQ fP s = .error (0, 210) ∧ (∃ z, w'.heap[bL]? = some (.cells z 25 (0, 0)) ∧ z.size = 6) ∧ (∃ z, w'.heap[bE]? = some (.cells #[z] 27 (0, 0))) ∧ Ch0 w w') rfl ce17 ?_ (fun w9 => dfr_none bL bE w9) (fun σ9 v9 w9 ⟨h2, h3, hv, hx, ⟨z1, hz1, hzs⟩, ⟨z2, hz2⟩, hc9⟩ => by subst hv; exact CallsD.mono (dfr_fault bL bE z1 z2 w9 hz1 hzs hz2 (by omega)) (fun e u' w'' ⟨v', he, hu, hl, hee, hch⟩ => ⟨v', he, hu, [_, _], .cell h2 hl (by exact hpl2) (.cell1 h3 hpl3 hee rfl .nil), ⟨⟨_, _, rfl, .inr ⟨(0, 210), hx, rfl, rfl⟩⟩, hc9.trans hch (fun _ _ e => e) (fun j hj e => by rcases e with e | e <;> omega)⟩⟩))
  refine W.g3 2 3 4 (lt rfl (s2)) (lt rfl (s3)) (lt rfl (s4)) ?_; intro σ6 s2 s3 s4
  refine W.seq ?_
  refine W.region ?_
  refine WL.x (X.mv (s4)) rfl ?_
  refine WL.x (X.build bd51 (pcons (lh) pnil) rfl (rfl : _ = [_])) rfl ?_
  refine WL.box (lh) rfl ?_
  intro w10 us
  obtain ⟨p, hpE⟩ : ∃ p, p = w4.heap.size := ⟨_, rfl⟩
  rw [← hpE]
  have hp0 : w10.heap[p]? = some (.cells #[.slice ua ts0.length uc] 51 (0, 0)) := by rw [hpE]; exact us.at_
  have cbx := us.ch
  have hlp : bL < p ∧ bE < p := by have := lt_of_blk hlc; have := lt_of_blk hec; omega
  have hps : PS (p + 1) p ts0 w10 := ⟨by omega, lt_of_blk hp0, ⟨_, hp0, (hu.ch0 cbx).rsl ftk_len (fun k hk => ⟨by have := (hu.lt hk).2; omega, ((hu.ch0 cbx).ty hk).elim fun cs h => ⟨cs, _, h⟩⟩)⟩, scanA_R hsp, scanA_count hsp⟩
  replace hcl := hcl.trans0 cbx
  replace hlc := cbx.at0 hlc
  replace hec := cbx.at0 hec
  have hp1 := lt_of_blk hp0
  refine WL.x (X.asg (lh)) rfl ?_
  refine WL.e3 Nx.thn 2 3 5 (jt4 rfl (s2)) (jt4 rfl (s3)) (lh) ?_
  intro σ7 s2 s3 s5
  refine W.seq ?_
  refine W.region ?_
  refine WL.x (X.mv (s5)) rfl ?_
  refine WL.callP1 ce18 (lh) (report_ok (p + 1) p ts0 w10 hps) rfl (by rintro v w' ⟨hn, rfl, cx⟩; exact ⟨_, rfl, (lt rfl (s2)), (lt rfl (s3)), rfl, parseQ_none hsp (repP_none hn), ⟨_, cx.at hlc (fun e => by (try dsimp only at e); omega), rfl⟩, ⟨_, cx.at hec (fun e => by (try dsimp only at e); omega)⟩, hcl.trans cx (H := fun _ => False) (fun _ _ e => e) (fun j hj e => by (try dsimp only at e); omega)⟩) ?_
  rintro _ w11 ⟨x, rr, es, hrp, rfl, hes6, hR, hps, c6⟩
  have zc6 := c6.size
  have zcl := hcl.size
  replace hlc := c6.at hlc (fun e => by (try dsimp only at e); omega)
  replace hec := c6.at hec (fun e => by (try dsimp only at e); omega)
  replace hcl := hcl.trans c6 (H := fun _ => False) (fun _ _ e => e) (fun j hj e => by (try dsimp only at e); omega)
  replace hR := monRep _ (Mine [3, 67, 85] w.heap.size w11) _ _ _ _ _ (Ch.refl (fun _ => False) _) (fun _ _ => id) (fun j hj => hj.mono (fun _ h => h) (by omega)) hR
  refine WL.storeS (vs := es) ag25 (jt2 rfl (s2)) (lh) (RRep_one hR) hes6 hlc (by decide) ?_
  intro w12 us
  have hl3 := us.at_
  rw [blit_all (by rw [hes6]; rfl)] at hl3
  have hl3 : w12.heap[bL]? = some (.cells es.toArray 25 (0, 0)) := hl3
  have chl3 := us.ch
  replace hec := chl3.at hec (fun e => by (try dsimp only at e); omega)
  replace hps := hps.own2 chl3 (fun e => by (try dsimp only at e); omega) (fun j e => by have e : j = bL := e; subst e; exact ⟨_, _, _, hlc, by decide⟩)
  have hmL : ∀ j, Mine [3, 67, 85] w.heap.size w11 j → ¬ j = bL := mine_ne hlc (by decide)
  replace hR := monRep _ _ _ _ _ _ _ chl3 hmL (fun j hj => hj.ch chl3 (hmL j hj)) hR
  replace hcl := hcl.trans chl3 (H := fun _ => False) (fun _ _ e => e) (fun j hj e => by (try dsimp only at e); omega)
  have hlc := hl3
  refine WL.e3 Nx.thn 2 3 5 (jt2 rfl (s2)) (jt2 rfl (s3)) (jt2 rfl (s5)) ?_
  intro σ8 s2 s3 s5
  refine W.seq ?_
  refine W.seq ?_
  refine W.region ?_
  refine WL.x (X.mv (s5)) rfl ?_
  have hq9 := hps
  obtain ⟨-, -, ⟨v9, hp9, hr9⟩, -, -⟩ := hq9
  obtain ⟨a9, c9, rfl⟩ := hr9.len
  refine WL.x (X.nilck (lh)) rfl ?_
  refine WL.x (X.fieldAddr fd51_0 (lh)) rfl ?_
  refine WL.x (X.load pl44 (lh) (by first | assumption | exact chl3.at (by assumption) (by intro hne; first | exact hne | ((try dsimp only at hne); omega)) | exact chl3.at (c6.at (by assumption) (by intro hne; first | exact hne | ((try dsimp only at hne); omega))) (by intro hne; first | exact hne | ((try dsimp only at hne); omega))) (by first | rfl | assumption)) rfl ?_
  refine WL.x (X.lenSl Tryz.underlying44 (lh)) rfl ?_
  refine WL.x (X.gtr (lh) lc) rfl ?_
  refine WL.x (X.mv (lh)) rfl ?_
  refine WL.splitp (lh) (fun hz => ?_) (fun hz => ?_)
  ·
   refine WL.no rfl rfl (lh) (decide_eq_true hz) rfl ?_
   refine WL.no rfl rfl (lt rfl (lh)) (decide_eq_true hz) rfl ?_
   refine WL.no rfl rfl (jt2 rfl (lh)) (decide_eq_true hz) rfl ?_
   refine WL.x (X.pickT (jt2 rfl (lt rfl (lh))) (decide_eq_true hz) lc) rfl ?_
   refine WL.e3 Nx.thn 2 3 31 (jt8 rfl (jt2 rfl (lt rfl (s2)))) (jt8 rfl (jt2 rfl (lt rfl (s3)))) (lh) ?_
   intro σ9 s2 s3 s31
   refine W.cndT s31 ?_
   refine W.seq ?_
   refine W.region ?_
   refine WL.x (X.build bd25 pnil rfl (rfl : _ = [_, _, _, _, _, _])) rfl ?_
   refine WL.x (X.build bd48 (pcons lc pnil) rfl (rfl : _ = [_, _])) rfl ?_
   refine WL.x (X.iface Tryz.underlying48 trivial (lh)) rfl ?_
   refine WL.storeS (vs := [.int .i64 0, .bool false, .slice none 0 0, .int .i64 0, .int .i64 0, .slice none 0 0]) ag25 (jt2 rfl (lt rfl (s2))) (jt2 rfl (lh)) rfl rfl (by first | exact hlc | exact c7.at0 hlc) (by rw [List.size_toArray, hes6]; decide) ?_
   intro w13 us
   have hl3 := us.at_
   rw [blit_all (by first | (rw [List.size_toArray, hes6]; done) | (rw [List.size_toArray, hes6]; rfl) | (rw [List.size_toArray]; done))] at hl3
   have hl3 : w13.heap[bL]? = some (.cells zrep 25 (0, 0)) := hl3
   have chl3 := us.ch
   have hec9 := chl3.at (by first | exact hec | exact c7.at0 hec : w12.heap[bE]? = some (.cells #[.nilIface] 27 (0, 0))) (fun e => by (try dsimp only at e); omega)
   refine WL.store el27 (jt2 rfl (lt rfl (s3))) (lh) rfl hec9 (show 0 < 1 by decide) ?_
   intro w14 us
   have he3 : w14.heap[bE]? = some (.cells #[flt 0 210] 27 (0, 0)) := us.at_
   have che3 := us.ch
   have hl4 := che3.at hl3 (fun e => by (try dsimp only at e); omega)
   refine WL.e2 Nx.thn 2 3 (jt2 rfl (lt rfl (s2))) (jt2 rfl (lt rfl (s3))) ?_
   intro σ10 s2 s3
   refine W.retG (Nx.rthn (Nx.panSR Nx.fG)) ⟨[_, _], (.cell s2 (by first | assumption | exact che3.at (by assumption) (by intro hne; first | exact hne | ((try dsimp only at hne); omega)) | exact che3.at (chl3.at (by assumption) (by intro hne; first | exact hne | ((try dsimp only at hne); omega))) (by intro hne; first | exact hne | ((try dsimp only at hne); omega))) (by first | exact ag25 | (rw [List.size_toArray, hes6]; exact ag25)) (.cell1 s3 pl27 (by first | assumption | exact che3.at (by assumption) (by intro hne; first | exact hne | ((try dsimp only at hne); omega)) | exact che3.at (chl3.at (by assumption) (by intro hne; first | exact hne | ((try dsimp only at hne); omega))) (by intro hne; first | exact hne | ((try dsimp only at hne); omega))) (by rfl) .nil)), ?_⟩
   first
     | exact ⟨⟨_, _, rfl, .inr ⟨(0, 210), parseQ_none hsp (repP_left hrp (fun e => by rw [e] at hz; simp at hz)), rfl, rfl⟩⟩, (hcl.trans chl3 (H := fun _ => False) (fun _ _ e => e) (fun j hj e => by (try dsimp only at e); omega)).trans che3 (H := fun _ => False) (fun _ _ e => e) (fun j hj e => by (try dsimp only at e); omega)⟩
     | exact ⟨⟨_, _, rfl, .inr ⟨(0, 210), parseQ_none hsp (repP_bad (by rw [hrp, show rr = [] from List.eq_nil_of_length_eq_zero (by omega)]) (by simpa using hcan)), rfl, rfl⟩⟩, ((hcl.trans0 c7).trans chl3 (H := fun _ => False) (fun _ _ e => e) (fun j hj e => by (try dsimp only at e); omega)).trans che3 (H := fun _ => False) (fun _ _ e => e) (fun j hj e => by (try dsimp only at e); omega)⟩
     | exact ⟨⟨_, _, rfl, .inl ⟨x, es, parseQ_some hsp (repP_ok (by rw [hrp, show rr = [] from List.eq_nil_of_length_eq_zero (by omega)]) (by simpa using hcan)), rfl, rfl, hR9⟩⟩, ((hcl.trans0 c7).trans chl3 (H := fun _ => False) (fun _ _ e => e) (fun j hj e => by (try dsimp only at e); omega)).trans che3 (H := fun _ => False) (fun _ _ e => e) (fun j hj e => by (try dsimp only at e); omega)⟩
  ·
   refine WL.yes rfl rfl (lh) (decide_eq_false hz) ?_
   refine WL.x (X.loadBox (vs := es) ag25 (jt4 rfl (jt2 rfl (lt rfl (s2)))) hlc hes6) rfl ?_
   refine WL.yes rfl rfl (lt rfl (lh)) (decide_eq_false hz) ?_
   refine WL.call1 ce19 (lh) (can_ok _ x es w12 hR) rfl ?_
   rintro _ w15 ⟨rfl, c7⟩
   refine WL.yes rfl rfl (jt2 rfl (lh)) (decide_eq_false hz) ?_
   refine WL.x (X.not (lh)) rfl ?_
   refine WL.x (X.pickF (jt2 rfl (lt rfl (lh))) (decide_eq_false hz) (lh)) rfl ?_
   refine WL.e3 Nx.thn 2 3 31 (jt8 rfl (jt2 rfl (lt rfl (s2)))) (jt8 rfl (jt2 rfl (lt rfl (s3)))) (lh) ?_
   intro σ11 s2 s3 s31
   refine W.cnd s31 (fun hcan => ?_) (fun hcan => ?_)
   ·
    refine W.seq ?_
    refine W.region ?_
    refine WL.x (X.build bd25 pnil rfl (rfl : _ = [_, _, _, _, _, _])) rfl ?_
    refine WL.x (X.build bd48 (pcons lc pnil) rfl (rfl : _ = [_, _])) rfl ?_
    refine WL.x (X.iface Tryz.underlying48 trivial (lh)) rfl ?_
    refine WL.storeS (vs := [.int .i64 0, .bool false, .slice none 0 0, .int .i64 0, .int .i64 0, .slice none 0 0]) ag25 (jt2 rfl (lt rfl (s2))) (jt2 rfl (lh)) rfl rfl (by first | exact hlc | exact c7.at0 hlc) (by rw [List.size_toArray, hes6]; decide) ?_
    intro w16 us
    have hl3 := us.at_
    rw [blit_all (by first | (rw [List.size_toArray, hes6]; done) | (rw [List.size_toArray, hes6]; rfl) | (rw [List.size_toArray]; done))] at hl3
    have hl3 : w16.heap[bL]? = some (.cells zrep 25 (0, 0)) := hl3
    have chl3 := us.ch
    have hec9 := chl3.at (by first | exact hec | exact c7.at0 hec : w15.heap[bE]? = some (.cells #[.nilIface] 27 (0, 0))) (fun e => by (try dsimp only at e); omega)
    refine WL.store el27 (jt2 rfl (lt rfl (s3))) (lh) rfl hec9 (show 0 < 1 by decide) ?_
    intro w17 us
    have he3 : w17.heap[bE]? = some (.cells #[flt 0 210] 27 (0, 0)) := us.at_
    have che3 := us.ch
    have hl4 := che3.at hl3 (fun e => by (try dsimp only at e); omega)
    refine WL.e2 Nx.thn 2 3 (jt2 rfl (lt rfl (s2))) (jt2 rfl (lt rfl (s3))) ?_
    intro σ12 s2 s3
    refine W.retG (Nx.rthn (Nx.panSR Nx.fG)) ⟨[_, _], (.cell s2 (by first | assumption | exact che3.at (by assumption) (by intro hne; first | exact hne | ((try dsimp only at hne); omega)) | exact che3.at (chl3.at (by assumption) (by intro hne; first | exact hne | ((try dsimp only at hne); omega))) (by intro hne; first | exact hne | ((try dsimp only at hne); omega))) (by first | exact ag25 | (rw [List.size_toArray, hes6]; exact ag25)) (.cell1 s3 pl27 (by first | assumption | exact che3.at (by assumption) (by intro hne; first | exact hne | ((try dsimp only at hne); omega)) | exact che3.at (chl3.at (by assumption) (by intro hne; first | exact hne | ((try dsimp only at hne); omega))) (by intro hne; first | exact hne | ((try dsimp only at hne); omega))) (by rfl) .nil)), ?_⟩
    first
      | exact ⟨⟨_, _, rfl, .inr ⟨(0, 210), parseQ_none hsp (repP_left hrp (fun e => by rw [e] at hz; simp at hz)), rfl, rfl⟩⟩, (hcl.trans chl3 (H := fun _ => False) (fun _ _ e => e) (fun j hj e => by (try dsimp only at e); omega)).trans che3 (H := fun _ => False) (fun _ _ e => e) (fun j hj e => by (try dsimp only at e); omega)⟩
      | exact ⟨⟨_, _, rfl, .inr ⟨(0, 210), parseQ_none hsp (repP_bad (by rw [hrp, show rr = [] from List.eq_nil_of_length_eq_zero (by omega)]) (by simpa using hcan)), rfl, rfl⟩⟩, ((hcl.trans0 c7).trans chl3 (H := fun _ => False) (fun _ _ e => e) (fun j hj e => by (try dsimp only at e); omega)).trans che3 (H := fun _ => False) (fun _ _ e => e) (fun j hj e => by (try dsimp only at e); omega)⟩
      | exact ⟨⟨_, _, rfl, .inl ⟨x, es, parseQ_some hsp (repP_ok (by rw [hrp, show rr = [] from List.eq_nil_of_length_eq_zero (by omega)]) (by simpa using hcan)), rfl, rfl, hR9⟩⟩, ((hcl.trans0 c7).trans chl3 (H := fun _ => False) (fun _ _ e => e) (fun j hj e => by (try dsimp only at e); omega)).trans che3 (H := fun _ => False) (fun _ _ e => e) (fun j hj e => by (try dsimp only at e); omega)⟩
   ·
    refine W.skip Nx.thn ?_
    refine W.seq ?_
    refine W.region ?_
    refine WL.x (X.loadBox (vs := es) ag25 (s2) (c7.at0 hlc) hes6) rfl ?_
    refine WL.storeS (vs := es) ag25 (lt rfl (s2)) (lh) (RRep_one hR) hes6 (c7.at0 hlc) (by rw [List.size_toArray, hes6]; decide) ?_
    intro w18 us
    have hl3 := us.at_
    rw [blit_all (by first | (rw [List.size_toArray, hes6]; done) | (rw [List.size_toArray, hes6]; rfl) | (rw [List.size_toArray]; done))] at hl3
    have hl3 : w18.heap[bL]? = some (.cells es.toArray 25 (0, 0)) := hl3
    have chl3 := us.ch
    have hec9 := chl3.at (c7.at0 hec) (fun e => by (try dsimp only at e); omega)
    have hR7 := monRep _ _ _ _ _ _ _ c7 (fun _ _ e => e) (fun j hj => hj.ch c7 (fun e => e)) hR
    have hmL : ∀ j, Mine [3, 67, 85] w.heap.size w15 j → ¬ j = bL := mine_ne (c7.at0 hlc) (by decide)
    have hR8 := monRep _ _ _ _ _ _ _ chl3 hmL (fun j hj => hj.ch chl3 (hmL j hj)) hR7
    refine WL.store el27 (lt rfl (s3)) (show ev _ (.const (.nilIface)) = _ from rfl) rfl hec9 (show 0 < 1 by decide) ?_
    intro w19 us
    have he3 : w19.heap[bE]? = some (.cells #[.nilIface] 27 (0, 0)) := us.at_
    have che3 := us.ch
    have hl4 := che3.at hl3 (fun e => by (try dsimp only at e); omega)
    have hmE : ∀ j, Mine [3, 67, 85] w.heap.size w18 j → ¬ j = bE := mine_ne hec9 (by decide)
    have hR9 := monRep _ _ _ _ _ _ _ che3 hmE (fun j hj => hj.ch che3 (hmE j hj)) hR8
    refine WL.e2 Nx.thn 2 3 (lt rfl (s2)) (lt rfl (s3)) ?_
    intro σ13 s2 s3
    refine W.retG (Nx.panSR Nx.fG) ⟨[_, _], (.cell s2 (by first | assumption | exact che3.at (by assumption) (by intro hne; first | exact hne | ((try dsimp only at hne); omega)) | exact che3.at (chl3.at (by assumption) (by intro hne; first | exact hne | ((try dsimp only at hne); omega))) (by intro hne; first | exact hne | ((try dsimp only at hne); omega))) (by first | exact ag25 | (rw [List.size_toArray, hes6]; exact ag25)) (.cell1 s3 pl27 (by first | assumption | exact che3.at (by assumption) (by intro hne; first | exact hne | ((try dsimp only at hne); omega)) | exact che3.at (chl3.at (by assumption) (by intro hne; first | exact hne | ((try dsimp only at hne); omega))) (by intro hne; first | exact hne | ((try dsimp only at hne); omega))) (by rfl) .nil)), ?_⟩
    first
      | exact ⟨⟨_, _, rfl, .inr ⟨(0, 210), parseQ_none hsp (repP_left hrp (fun e => by rw [e] at hz; simp at hz)), rfl, rfl⟩⟩, (hcl.trans chl3 (H := fun _ => False) (fun _ _ e => e) (fun j hj e => by (try dsimp only at e); omega)).trans che3 (H := fun _ => False) (fun _ _ e => e) (fun j hj e => by (try dsimp only at e); omega)⟩
      | exact ⟨⟨_, _, rfl, .inr ⟨(0, 210), parseQ_none hsp (repP_bad (by rw [hrp, show rr = [] from List.eq_nil_of_length_eq_zero (by omega)]) (by simpa using hcan)), rfl, rfl⟩⟩, ((hcl.trans0 c7).trans chl3 (H := fun _ => False) (fun _ _ e => e) (fun j hj e => by (try dsimp only at e); omega)).trans che3 (H := fun _ => False) (fun _ _ e => e) (fun j hj e => by (try dsimp only at e); omega)⟩
      | exact ⟨⟨_, _, rfl, .inl ⟨x, es, parseQ_some hsp (repP_ok (by rw [hrp, show rr = [] from List.eq_nil_of_length_eq_zero (by omega)]) (by simpa using hcan)), rfl, rfl, hR9⟩⟩, ((hcl.trans0 c7).trans chl3 (H := fun _ => False) (fun _ _ e => e) (fun j hj e => by (try dsimp only at e); omega)).trans che3 (H := fun _ => False) (fun _ _ e => e) (fun j hj e => by (try dsimp only at e); omega)⟩
end Go.Proofs.YtbnllchicnmkiaaGreatDoor
