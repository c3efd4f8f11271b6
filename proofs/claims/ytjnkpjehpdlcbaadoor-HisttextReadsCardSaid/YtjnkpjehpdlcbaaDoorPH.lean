/-
  A part of the walk of the program.
-/
import Derived.Test.YtjnkpjehpdlcbaaDoorSB
import Derived.Test.YtjnkpjehpdlcbaaDoorDfr
set_option linter.unusedVariables false
set_option linter.unusedSimpArgs false
set_option maxRecDepth 100000
namespace Go.Proofs.YtjnkpjehpdlcbaaDoor
open Go Go.RowKit Sg
theorem ag73 : Sg.Aggr Tryd.prog 73 2 := ⟨⟨_, rfl, trivial⟩, _, rfl, rfl⟩
theorem el22 : Sg.Elem Tryd.prog 22 1 (.slice none 0 0) 24 := ⟨_, rfl, rfl, rfl, rfl⟩
theorem el28 : Sg.Elem Tryd.prog 28 1 (.nilIface) 16 := ⟨_, rfl, rfl, rfl, rfl⟩
theorem el73 : Sg.Elem Tryd.prog 73 2 (.agg #[.int .i64 0, .int .i64 0]) 16 := ⟨_, rfl, rfl, rfl, rfl⟩
theorem pl22 : Sg.Plain Tryd.prog 22 := ⟨_, rfl, trivial⟩
theorem pl28 : Sg.Plain Tryd.prog 28 := ⟨_, rfl, trivial⟩
theorem ce36 : Sg.Callee Tryd.prog 36 := ⟨_, Tryd.func36, by decide, rfl⟩
theorem ce37 : Sg.Callee Tryd.prog 37 := ⟨_, Tryd.func37, by decide, rfl⟩
theorem bd77 : Sg.Bld Tryd.prog 77 [0, 1] [.slice none 0 0, .int .i64 0] := ⟨_, rfl, rfl, .inl ⟨_, rfl, Sg.allIn rfl, Sg.allAt (n := 2) rfl⟩⟩
theorem ce41 : Sg.Callee Tryd.prog 41 := ⟨_, Tryd.func41, by decide, rfl⟩
theorem dfr_none (lc ec : Nat) (w : World) :
  Go.CallsD Tryd.prog 37 #[.pointer (some ⟨lc, 0, none⟩), .pointer (some ⟨ec, 0, none⟩)] .returning w (fun e u' w' => ∃ v, e = .returned v ∧ u' = .returning ∧ w' = w) := by
 refine enterRec (l := [.pointer (some ⟨lc, 0, none⟩), .pointer (some ⟨ec, 0, none⟩)]) Tryd.func37 rfl rfl rfl rfl rfl ?_
 refine W.g3 0 1 2 (v1 := .pointer (some ⟨lc, 0, none⟩)) (v2 := .pointer (some ⟨ec, 0, none⟩)) (v3 := .nilIface) rfl rfl rfl ?_; intro σ s0 s1 s2
 refine W.seq ?_
 refine W.region ?_
 refine WL.x (X.mv (s2)) rfl ?_
 refine WL.x (v := .bool (!isNil .nilIface)) (X.neqI Tryd.underlying20 (lh) (.inl rfl)) rfl ?_
 refine WL.e4 Nx.thn 0 1 2 7 (jt2 rfl (s0)) (jt2 rfl (s1)) (jt2 rfl (s2)) (lh) ?_
 intro σ1 s0 s1 s2 s7
 refine W.cndBF s7 (rfl) ?_
 refine W.skip Nx.n0 ?_
 exact ⟨_, rfl, rfl, rfl⟩
theorem dfr_fault (lc ec : Nat) (z1 z2 : Value) (at_ why : Int) (w : World) (h1 : w.heap[lc]? = some (.cells #[z1] 22 (0, 0))) (h2 : w.heap[ec]? = some (.cells #[z2] 28 (0, 0))) (hne : lc ≠ ec) :
  Go.CallsD Tryd.prog 37 #[.pointer (some ⟨lc, 0, none⟩), .pointer (some ⟨ec, 0, none⟩)] (.panicking [{ v := flt at_ why, recovered := false }]) w (fun e u' w' => ∃ v, e = .returned v ∧ settle u' = .returning ∧ w'.heap[lc]? = some (.cells #[.slice none 0 0] 22 (0, 0)) ∧ w'.heap[ec]? = some (.cells #[flt at_ why] 28 (0, 0)) ∧ Ch (fun j => j = lc ∨ j = ec) w w') := by
 refine enterRec (l := [.pointer (some ⟨lc, 0, none⟩), .pointer (some ⟨ec, 0, none⟩)]) Tryd.func37 rfl rfl rfl rfl rfl ?_
 refine W.g3 0 1 2 (v1 := .pointer (some ⟨lc, 0, none⟩)) (v2 := .pointer (some ⟨ec, 0, none⟩)) (v3 := (flt at_ why)) rfl rfl rfl ?_; intro σ s0 s1 s2
 refine W.seq ?_
 refine W.region ?_
 refine WL.x (X.mv (s2)) rfl ?_
 refine WL.x (v := .bool (!isNil (flt at_ why))) (X.neqI Tryd.underlying20 (lh) (.inr ⟨_, _, rfl⟩)) rfl ?_
 refine WL.e4 Nx.thn 0 1 2 7 (jt2 rfl (s0)) (jt2 rfl (s1)) (jt2 rfl (s2)) (lh) ?_
 intro σ1 s0 s1 s2 s7
 refine W.cndBT s7 (rfl) ?_
 refine W.seq ?_
 refine W.region ?_
 refine WL.x (X.mv (s2)) rfl ?_
 refine WL.x (X.tassert Tryd.underlying73 trivial (lh)) rfl ?_
 refine WL.x (X.mv (lh)) rfl ?_
 refine WL.x (X.ex2_0 (lh)) rfl ?_
 refine WL.x (X.ex2_1 (lt rfl (lh))) rfl ?_
 refine WL.alloc el73 rfl ?_
 intro w1 u2_5; have hu2_5 := u2_5.at_; have cu2_5 := u2_5.ch; have zu2_5 := u2_5.size
 have hl1 := lt_of_blk h1
 have hl2 := lt_of_blk h2
 refine WL.storeS (vs := [.int .i64 at_, .int .i64 why]) ag73 (lh) (jt2 rfl (lh)) rfl rfl hu2_5 (by first | decide | (simp; done)) ?_
 intro w2 us
 have hf : w2.heap[w.heap.size]? = some (.cells #[.int .i64 at_, .int .i64 why] 73 (0, 0)) := us.at_
 have cst := us.ch
 have hcl : Ch0 w w2 := cu2_5.trans cst (fun _ _ e => e) (fun j hj e => by (try dsimp only at e); omega)
 refine WL.x (X.asg (lt rfl (lh))) rfl ?_
 refine WL.e4 Nx.thn 0 1 3 4 (jt4 rfl (jt2 rfl (lt rfl (s0)))) (jt4 rfl (jt2 rfl (lt rfl (s1)))) (lt rfl (lh)) (lh) ?_
 intro σ2 s0 s1 s3 s4
 refine W.seq ?_
 refine W.seq ?_
 refine W.region ?_
 refine WL.x (X.mv (s4)) rfl ?_
 refine WL.x (X.not (lh)) rfl ?_
 refine WL.e4 Nx.thn 0 1 3 14 (jt2 rfl (s0)) (jt2 rfl (s1)) (jt2 rfl (s3)) (lh) ?_
 intro σ3 s0 s1 s3 s14
 refine W.cndBF s14 (rfl) ?_
 refine W.skip Nx.thn ?_
 refine W.held (fun w' => Ch (fun j => j = lc ∨ j = ec) w2 w') mo ?_
 intro w3 qhh1 qc2
 have hS : Ch (fun j => j = lc ∨ j = ec) w2 w3 := Ch.weak qc2
 have hzqc2 := qc2.size
 have cdh5 := qc2
 refine WH.take 0 rfl (by kernel_rfl) (by kernel_rfl) (by kernel_rfl) (fun _ _ _ h => h) Gd.none rfl (fun w' hS' => X.loadBox (vs := [.int .i64 at_, .int .i64 why]) ag73 (s3) (hS'.at hf (fun e => by (try dsimp only at e); omega)) rfl) hS ?_
 refine WH.take 1 rfl (by kernel_rfl) (by kernel_rfl) (by kernel_rfl) (fun _ _ _ h => h) Gd.none rfl (fun w' hS' => X.iface Tryd.underlying73 trivial (lh)) hS ?_
 refine WH.one 2 rfl (by kernel_rfl) (fun _ _ h => h) ?_
 refine WL.store el22 (jt2 rfl (s0)) (show ev _ (.const (.slice none 0 0)) = _ from rfl) rfl (cdh5.at0 (hcl.at0 h1)) (show 0 + 0 < 1 by decide) ?_
 intro w4 us
 have hl3 : w4.heap[lc]? = some (.cells #[.slice none 0 0] 22 (0, 0)) := us.at_
 have cs2 := us.ch
 have h23 := cs2.at (cdh5.at0 (hcl.at0 h2)) (fun e => hne e.symm)
 have hS := hS.trans cs2 (fun _ _ e => e) (fun _ _ e => .inl e)
 refine WL.nil Nx.thn ⟨hS, ?_⟩
 refine WH.one 3 rfl (by kernel_rfl) (fun _ _ h => h) ?_
 refine WL.store el28 (jt2 rfl (s1)) (lh) rfl h23 (show 0 + 0 < 1 by decide) ?_
 intro w5 us
 have he3 : w5.heap[ec]? = some (.cells #[flt at_ why] 28 (0, 0)) := us.at_
 have cs3 := us.ch
 have hl4 := cs3.at hl3 (fun e => hne e)
 have hS := hS.trans cs3 (fun _ _ e => e) (fun _ _ e => .inr e)
 refine WL.nil Nx.thn ⟨hS, ?_⟩
 refine WH.done (by kernel_rfl) ?_
 refine WL.e0 Nx.n0  ?_
 intro σ4 
 exact ⟨_, rfl, rfl, hl4, he3, hcl.trans hS (fun _ _ e => e.elim) (fun _ _ e => e)⟩

theorem errV_one (s : ByteArray) : (errV s).oneCell' = true := by unfold errV; split <;> rfl
/-- What a text's reading comes to. -/
def parseP (key : ByteArray → Bool) (s : ByteArray) : Except Er (List PEv) := match scanA (sb s) with
  | .error p => .error ((p.1 : Int), (p.2 : Int))
  | .ok l => histP key (s.size : Int) (l.length + 1) l []
theorem parseP_scan {key : ByteArray → Bool} {s : ByteArray} {p : Nat × Nat} (h : scanA (sb s) = .error p) : parseP key s = .error ((p.1 : Int), (p.2 : Int)) := by unfold parseP; rw [h]
theorem parseP_ok {key : ByteArray → Bool} {s : ByteArray} {l : List Tok} (h : scanA (sb s) = .ok l) : parseP key s = histP key (s.size : Int) (l.length + 1) l [] := by unfold parseP; rw [h]
/-- What the program's reading hands back. -/
def ParR (key : ByteArray → Bool) (s : ByteArray) (A : Nat → Prop) (w : World) (lv er : Value) : Prop :=
  (∃ l, parseP key s = .ok l ∧ er = .nilIface ∧ RSl 3 REv A w lv l ∧ l.length ≤ 300) ∨ (∃ x : Er, parseP key s = .error x ∧ lv = .slice none 0 0 ∧ er = flt x.1 x.2)
/-- The tokens of a text: their numbers are in bounds, their words are words. -/
def TokF (t : Tok) : Prop := r64 t.2.2.2 ∧ (t.1 = 1 → wordB t.2.2.1 = true)
theorem numL_r64 {l : Bs} {k : Nat} {z : Int} (h : numL l = .ok (k, z)) : r64 z := by
  unfold numL at h
  simp only at h
  have hq : (if bat l 0 = 45 then 1 else 0) ≤ 1 := by split <;> omega
  generalize (if bat l 0 = 45 then 1 else 0) = q at h hq
  generalize dec (List.take (run digN (List.drop q l)) (List.drop q l)) = v at h
  split at h
  · split at h
    · cases h
    · split at h
      · cases h
      · injection h with h; injection h with _ h; subst h; exact r64_0
  · split at h
    · cases h
    · split at h
      · cases h
      · injection h with h; injection h with _ h
        subst h
        unfold r64
        split <;> constructor <;> omega
theorem word_take {l : Bs} (h : lowN (bat l 0) = true) : wordB (bs (l.take (run innN l))) = true := by
  have hl := run_le innN l
  have h0 : l ≠ [] := fun e => by subst e; simp [bat, lowN] at h
  have h1 : 1 ≤ run innN l := run_ge (List.length_pos_iff.2 h0) (fun j hj => by
    obtain rfl : j = 0 := by omega
    unfold innN; rw [h]; simp)
  have hs : (bs (l.take (run innN l))).size = run innN l := by
    rw [← sb_len, sb_bs, List.length_take]; omega
  have hb : ∀ j, j < run innN l → bat (sb (bs (l.take (run innN l)))) j = bat l j := fun j hj => by
    rw [sb_bs]; unfold bat; rw [List.getD_eq_getElem?_getD, List.getD_eq_getElem?_getD, List.getElem?_take, if_pos hj]
  exact wordB_ok (by omega) (by rw [hb 0 (by omega)]; exact h) (fun j hj => by rw [hb j (by omega)]; exact run_all (by omega))
theorem tokL_F {i : Nat} {l : Bs} {t : Tok} {k : Nat} (h : tokL i l = .ok (t, k)) : TokF t := by
  unfold tokL at h
  simp only at h
  split at h
  · injection h with h; injection h with h _; subst h; exact ⟨r64_0, fun h => by cases h⟩
  · split at h
    · rename_i hw
      injection h with h; injection h with h _; subst h; exact ⟨r64_0, fun _ => word_take hw⟩
    · split at h
      · cases hn : numL l with
        | error e => rw [hn] at h; cases h
        | ok y =>
          obtain ⟨k', v⟩ := y
          rw [hn] at h
          injection h with h; injection h with h _; subst h; exact ⟨numL_r64 hn, fun h => by cases h⟩
      · split at h
        · injection h with h; injection h with h _; subst h; exact ⟨r64_0, fun h => by cases h⟩
        · cases h
theorem scanF_F : ∀ {f i : Nat} {l : Bs} {ts : List Tok}, scanF f i l = .ok ts → ∀ t ∈ ts, TokF t
  | 0, _, _, ts, h => by
    have : ts = [] := by
      have h : Except.ok [] = Except.ok ts := h
      injection h with h; exact h.symm
    subst this; intro t ht; cases ht
  | f + 1, i, l, ts, h => by
    have h : (if l = [] then .ok [] else if bat l 0 = 32 then scanF f (i + 1) (l.drop 1) else match tokL i l with | .error e => .error e | .ok (t, k) => aft [t] (scanF f (i + k) (l.drop k))) = Except.ok ts := h
    split at h
    · injection h with h; subst h; intro t ht; cases ht
    · split at h
      · exact scanF_F h
      · split at h
        · cases h
        · rename_i t k ht
          cases hq : scanF f (i + k) (l.drop k) with
          | error e => rw [hq] at h; cases h
          | ok r =>
            rw [hq] at h
            have h : Except.ok ([t] ++ r) = Except.ok ts := h
            injection h with h
            subst h
            intro t' ht'
            rcases List.mem_append.1 ht' with h' | h'
            · rw [List.mem_singleton.1 h']; exact tokL_F ht
            · exact scanF_F hq t' h'
theorem scanA_F {s : ByteArray} {ts : List Tok} (h : scanA (sb s) = .ok ts) : ∀ t ∈ ts, TokF t := by
  unfold scanA at h
  split at h
  · cases h
  · exact scanF_F h
theorem scan_r64 {s : ByteArray} {ts : List Tok} (h : scanA (sb s) = .ok ts) : TokG r64 ts := fun t ht => (scanA_F h t ht).1

set_option maxHeartbeats 3200000 in
theorem parse_ok (s : ByteArray) (w : World) (hER : ER w) :
  Sg.Ret Tryd.prog 13 #[.string s] w fun v w' => (∃ lv er, v = .tuple #[lv, er] ∧ ParR keyB s (Mine [3, 48, 44] w.heap.size w') w' lv er) ∧ Ch0 w w' := by
 refine enterXR (n := 40) (l := [.string s]) Tryd.func13 rfl rfl rfl ?_
 refine WX.g1 0 (v := .string s) rfl ?_; intro σ s0
 refine WX.seqF rfl rfl ?_
 refine W.region ?_
 refine WL.alloc el22 rfl ?_
 intro w1 u0_0; have hu0_0 := u0_0.at_; have cu0_0 := u0_0.ch; have zu0_0 := u0_0.size
 refine WL.alloc el28 rfl ?_
 intro w2 u0_1; have hu0_1 := u0_1.at_; have cu0_1 := u0_1.ch; have zu0_1 := u0_1.size
 refine WL.e3 Nx.thn 0 2 3 (jt2 rfl (s0)) (lt rfl (lh)) (lh) ?_
 intro σ1 s0 s2 s3
 refine WX.seqF rfl rfl ?_
 refine W.region ?_
 refine WL.x (X.mv (s0)) rfl ?_
 refine WL.call1 ce36 (lh) (scan_fn s w2 (hER.ch0 (cu0_0.trans0 cu0_1))) rfl ?_
 rintro _ w3 ⟨⟨u, rfl, hu⟩, csc⟩
 refine WL.x (X.mv (lh)) rfl ?_
 refine WL.x (X.ex2_0 (lh)) rfl ?_
 refine WL.x (X.ex2_1 (lt rfl (lh))) rfl ?_
 refine WL.x (X.asg (lt rfl (lh))) rfl ?_
 have hzu0 := cu0_0.size
 have hzu1 := cu0_1.size
 have hzsc := csc.size
 refine WL.store el28 (jt4 rfl (jt2 rfl (s3))) (lt rfl (lh)) (errV_one s) (csc.at0 hu0_1) (show 0 < 1 by decide) ?_
 intro w4 us
 have hec : w4.heap[w1.heap.size]? = some (.cells #[errV s] 28 (0, 0)) := us.at_
 have cs16 := us.ch
 have hlc : w4.heap[w.heap.size]? = some (.cells #[.slice none 0 0] 22 (0, 0)) := cs16.at (csc.at0 (cu0_1.at0 hu0_0)) (fun e => by (try dsimp only at e); omega)
 have hcl : Ch0 w w4 := ((cu0_0.trans0 cu0_1).trans0 csc).trans cs16 (fun _ _ e => e) (fun q hq e => by (try dsimp only at e); omega)
 have hu := hu.ch cs16 (fun k hk e => by have := (hu.lt hk).1; (try dsimp only at e); omega)
 obtain ⟨bL, hlcE⟩ : ∃ bL, bL = w.heap.size := ⟨_, rfl⟩
 obtain ⟨bE, hecE⟩ : ∃ bE, bE = w1.heap.size := ⟨_, rfl⟩
 rw [← hlcE] at s2 hlc
 rw [← hecE] at s3 hec
 have hI := errV_isI s
 have hle : w.heap.size ≤ bL ∧ w.heap.size ≤ bE ∧ bL ≠ bE := by omega
 refine WL.e4 Nx.thn 0 2 3 4 (jt4 rfl (jt2 rfl (s0))) (jt4 rfl (jt2 rfl (s2))) (jt4 rfl (jt2 rfl (s3))) (lh) ?_
 intro σ2 s0 s2 s3 s4
 refine WX.seqF rfl rfl ?_
 refine W.seq ?_
 refine W.region ?_
 refine WL.x (X.load pl28 (s3) hec (v := errV s) rfl) rfl ?_
 refine WL.x (v := .bool (!isNil (errV s))) (X.neqI Tryd.underlying28 (lh) hI) rfl ?_
 refine WL.e5 Nx.thn 0 2 3 4 12 (jt2 rfl (s0)) (jt2 rfl (s2)) (jt2 rfl (s3)) (jt2 rfl (s4)) (lh) ?_
 intro σ3 s0 s2 s3 s4 s12
 refine W.cnd s12 (fun hse => ?_) (fun hse => ?_)
 ·
  obtain ⟨p9, hsp⟩ : ∃ p9, scanA (sb s) = .error p9 := by
    cases h9 : scanA (sb s) with
    | ok l => rw [(scL_ok h9).2.2] at hse; cases hse
    | error p9 => exact ⟨p9, rfl⟩
  refine W.seq ?_
  refine W.held (fun w' => Ch (fun j => j = bL ∨ j = bE) w4 w') mo ?_
  intro w5 qhh1 qc2
  have hS : Ch (fun j => j = bL ∨ j = bE) w4 w5 := Ch.weak qc2
  have hzqc2 := qc2.size
  have cdh3 := qc2
  replace hec := cdh3.at0 hec
  replace hlc := cdh3.at0 hlc
  refine WH.two 0 1 rfl rfl (by kernel_rfl) (fun _ _ h => h) ?_ ?_
  ·
   refine WL.x (X.load pl28 (s3) hec (v := errV s) rfl) rfl ?_
   refine WL.nil Nx.thn ⟨hS, ?_⟩
   refine WH.one 1 rfl (by kernel_rfl) (fun _ _ h => h) ?_
   refine WL.store el22 (lt rfl (s2)) (show ev _ (.const (.slice none 0 0)) = _ from rfl) rfl hlc (show 0 < 1 by decide) ?_
   intro w6 us
   have hl3 : w6.heap[bL]? = some (.cells #[.slice none 0 0] 22 (0, 0)) := us.at_
   have chl3 := us.ch
   replace hec := chl3.at hec (fun e => by (try dsimp only at e); omega)
   have hS := hS.trans chl3 (fun _ _ e => e) (fun _ _ e => .inl e)
   refine WL.nil Nx.thn ⟨hS, ?_⟩
   refine WH.one 2 rfl (by kernel_rfl) (fun _ _ h => h) ?_
   refine WL.store el28 (lt rfl (s3)) (lh) (errV_one s) hec (show 0 < 1 by decide) ?_
   intro w7 us
   have he3 : w7.heap[bE]? = some (.cells #[errV s] 28 (0, 0)) := us.at_
   have che3 := us.ch
   have hl4 := che3.at hl3 (fun e => by (try dsimp only at e); omega)
   have hS := hS.trans che3 (fun _ _ e => e) (fun _ _ e => .inr e)
   refine WL.nil Nx.thn ⟨hS, ?_⟩
   refine WH.done (by kernel_rfl) ?_
   refine WL.e2 Nx.thn 2 3 (lt rfl (s2)) (lt rfl (s3)) ?_
   intro σ4 s2 s3
   refine W.retG (Nx.rthn Nx.fG) ⟨[_, _], (.cell1 s2 pl22 (by first | assumption | exact hS.at (by assumption) (by intro hne; first | exact hne | ((try dsimp only at hne); omega)) | exact hS.at (cs16.at (by assumption) (by intro hne; first | exact hne | ((try dsimp only at hne); omega))) (by intro hne; first | exact hne | ((try dsimp only at hne); omega))) (by rfl) (.cell1 s3 pl28 (by first | assumption | exact hS.at (by assumption) (by intro hne; first | exact hne | ((try dsimp only at hne); omega)) | exact hS.at (cs16.at (by assumption) (by intro hne; first | exact hne | ((try dsimp only at hne); omega))) (by intro hne; first | exact hne | ((try dsimp only at hne); omega))) (by rfl) .nil)), ?_⟩
   exact ⟨⟨_, _, rfl, .inr ⟨((p9.1 : Int), (p9.2 : Int)), parseP_scan hsp, rfl, (scL_err hsp).2.2⟩⟩, hcl.trans hS (fun _ _ e => e) (fun j hj e => by rcases e with e | e <;> omega)⟩
  ·
   refine WL.store el22 (s2) (show ev _ (.const (.slice none 0 0)) = _ from rfl) rfl hlc (show 0 < 1 by decide) ?_
   intro w8 us
   have hl3 : w8.heap[bL]? = some (.cells #[.slice none 0 0] 22 (0, 0)) := us.at_
   have chl3 := us.ch
   replace hec := chl3.at hec (fun e => by (try dsimp only at e); omega)
   have hS := hS.trans chl3 (fun _ _ e => e) (fun _ _ e => .inl e)
   refine WL.nil Nx.thn ⟨hS, ?_⟩
   refine WH.one 0 rfl (by kernel_rfl) (fun _ _ h => h) ?_
   refine WL.x (X.load pl28 (s3) hec (v := errV s) rfl) rfl ?_
   refine WL.nil Nx.thn ⟨hS, ?_⟩
   refine WH.one 2 rfl (by kernel_rfl) (fun _ _ h => h) ?_
   refine WL.store el28 (lt rfl (s3)) (lh) (errV_one s) hec (show 0 < 1 by decide) ?_
   intro w9 us
   have he3 : w9.heap[bE]? = some (.cells #[errV s] 28 (0, 0)) := us.at_
   have che3 := us.ch
   have hl4 := che3.at hl3 (fun e => by (try dsimp only at e); omega)
   have hS := hS.trans che3 (fun _ _ e => e) (fun _ _ e => .inr e)
   refine WL.nil Nx.thn ⟨hS, ?_⟩
   refine WH.done (by kernel_rfl) ?_
   refine WL.e2 Nx.thn 2 3 (lt rfl (s2)) (lt rfl (s3)) ?_
   intro σ5 s2 s3
   refine W.retG (Nx.rthn Nx.fG) ⟨[_, _], (.cell1 s2 pl22 (by first | assumption | exact hS.at (by assumption) (by intro hne; first | exact hne | ((try dsimp only at hne); omega)) | exact hS.at (cs16.at (by assumption) (by intro hne; first | exact hne | ((try dsimp only at hne); omega))) (by intro hne; first | exact hne | ((try dsimp only at hne); omega))) (by rfl) (.cell1 s3 pl28 (by first | assumption | exact hS.at (by assumption) (by intro hne; first | exact hne | ((try dsimp only at hne); omega)) | exact hS.at (cs16.at (by assumption) (by intro hne; first | exact hne | ((try dsimp only at hne); omega))) (by intro hne; first | exact hne | ((try dsimp only at hne); omega))) (by rfl) .nil)), ?_⟩
   exact ⟨⟨_, _, rfl, .inr ⟨((p9.1 : Int), (p9.2 : Int)), parseP_scan hsp, rfl, (scL_err hsp).2.2⟩⟩, hcl.trans hS (fun _ _ e => e) (fun j hj e => by rcases e with e | e <;> omega)⟩
 ·
  obtain ⟨ts0, hsp⟩ : ∃ ts0, scanA (sb s) = .ok ts0 := by
    cases h9 : scanA (sb s) with
    | ok l => exact ⟨l, rfl⟩
    | error p9 => rw [(scL_err h9).2.2] at hse; cases hse
  have hsl : scL s = ts0 := (scL_ok hsp).1
  rw [(scL_ok hsp).2.2] at hec
  rw [hsl] at hu
  obtain ⟨ua, uc, rfl⟩ := hu.len
  have hgt := scan_r64 hsp
  refine W.skip Nx.thn ?_
  refine WX.put_off (mcons (s2) (mcons (s3) mnil)) rfl ?_
  have hpl2 := pl22
  have hpl3 := pl28
  refine WX.rest (E := fun σ v w' => σ 2 = .pointer (some ⟨bL, 0, none⟩) ∧ σ 3 = .pointer (some ⟨bE, 0, none⟩) ∧ (∃ x : Er, parseP keyB s = .error x ∧ v = flt x.1 x.2) ∧ (∃ z, w'.heap[bL]? = some (.cells #[z] 22 (0, 0))) ∧ (∃ z, w'.heap[bE]? = some (.cells #[z] 28 (0, 0))) ∧ Ch0 w w') rfl ce37 ?_ (fun w9 => dfr_none bL bE w9) (fun σ9 v9 w9 ⟨h2, h3, ⟨x, hx, hv⟩, ⟨z1, hz1⟩, ⟨z2, hz2⟩, hc9⟩ => by subst hv; exact CallsD.mono (dfr_fault bL bE z1 z2 x.1 x.2 w9 hz1 hz2 (by omega)) (fun e u' w'' ⟨v', he, hu, hl, hee, hch⟩ => ⟨v', he, hu, [_, _], .cell1 h2 hpl2 hl rfl (.cell1 h3 hpl3 hee rfl .nil), ⟨⟨_, _, rfl, .inr ⟨x, hx, rfl, rfl⟩⟩, hc9.trans hch (fun _ _ e => e) (fun j hj e => by rcases e with e | e <;> omega)⟩⟩))
  refine W.g4 0 2 3 4 (lt rfl (s0)) (lt rfl (s2)) (lt rfl (s3)) (lt rfl (s4)) ?_; intro σ6 s0 s2 s3 s4
  refine W.seq ?_
  refine W.region ?_
  refine WL.x (X.mv (s4)) rfl ?_
  refine WL.x (X.mv (lt rfl (s0))) rfl ?_
  refine WL.x (X.lenSt Tryd.underlying9 (lh)) rfl ?_
  refine WL.x (X.build bd77 (pcons (jt2 rfl (lh)) (pcons (lh) pnil)) rfl (rfl : _ = [_, _])) rfl ?_
  refine WL.box (lh) rfl ?_
  intro w10 us
  obtain ⟨p, hpE⟩ : ∃ p, p = w4.heap.size := ⟨_, rfl⟩
  rw [← hpE]
  have hp0 : w10.heap[p]? = some (.cells #[.slice ua ts0.length uc, .int .i64 (s.size : Int)] 77 (0, 0)) := by rw [hpE]; exact us.at_
  have cbx := us.ch
  have hlp : bL < p ∧ bE < p := by have := lt_of_blk hlc; have := lt_of_blk hec; omega
  have hps : PS (p + 1) p (s.size : Int) ts0 w10 := ⟨by omega, lt_of_blk hp0, _, hp0, (hu.ch0 cbx).rsl ftk_len (fun k hk => ⟨by have := (hu.lt hk).2; omega, ((hu.ch0 cbx).ty hk).elim fun cs h => ⟨cs, _, h⟩⟩)⟩
  replace hcl := hcl.trans0 cbx
  replace hlc := cbx.at0 hlc
  replace hec := cbx.at0 hec
  have hp1 := lt_of_blk hp0
  obtain ⟨wl, hwlE⟩ : ∃ wl, wl = w10.heap.size := ⟨_, rfl⟩
  refine WL.x (X.asg (lh)) rfl ?_
  refine WL.e3 Nx.thn 2 3 5 (jt4 rfl (jt2 rfl (s2))) (jt4 rfl (jt2 rfl (s3))) (lh) ?_
  intro σ7 s2 s3 s5
  refine W.block ?_
  have qo3 := s2
  have qo4 := s3
  have qo5 := s5
  -- loop 0: kept [2, 3, 5], varied []
  refine W.loop (G := List Tok) (fun rr σ' w' => (σ' 2 = σ7 2 ∧ σ' 3 = σ7 3 ∧ σ' 5 = σ7 5 ∧ True) ∧ (∃ acc f lv, PS (p + 1) p (s.size : Int) rr w' ∧ w'.heap[bL]? = some (.cells #[lv] 22 (0, 0)) ∧ w'.heap[bE]? = some (.cells #[.nilIface] 28 (0, 0)) ∧ ORow 3 REv (Mine [3, 48] w.heap.size w') w' wl 44 lv acc ∧ histP keyB (s.size : Int) (ts0.length + 1) ts0 [] = histP keyB (s.size : Int) f rr acc ∧ rr.length < f ∧ acc.length ≤ 300 ∧ TokG r64 rr ∧ Ch0 w w' ∧ wl ≤ w'.heap.size)) (fun rr => rr.length) (ts0) ⟨⟨rfl, rfl, rfl, trivial⟩, [], ts0.length + 1, .slice none 0 0, hps, hlc, hec, ORow.nil, rfl, Nat.lt_succ_self _, by simp, hgt, hcl, by omega⟩ ?_
  rintro rr σ8 w11 ⟨⟨f2, f3, f5, _⟩, acc, f, lv, hps, hlc, hec, hrow, heq, hf, h3, hgr, hcl, hwl⟩
  have s2 := f2.trans qo3
  have s3 := f3.trans qo4
  have s5 := f5.trans qo5
  have hpM : ∀ j, Mine [3, 48] w.heap.size w11 j → ¬ j = p := by
    obtain ⟨-, -, vz, hpz, -⟩ := id hps
    exact mine_ne hpz (by decide)
  refine W.block ?_
  refine W.seq ?_
  refine W.block ?_
  have qo6 := s2
  have qo7 := s3
  have qo8 := s5
  -- loop 1: kept [2, 3, 5], varied []
  refine W.loop (G := List Tok) (fun r1 σ' w' => (σ' 2 = σ8 2 ∧ σ' 3 = σ8 3 ∧ σ' 5 = σ8 5 ∧ True) ∧ (PS (p + 1) p (s.size : Int) r1 w' ∧ Ch (fun j => j = p) w11 w' ∧ skipP r1 = skipP rr ∧ r1 <:+ rr)) (fun r1 => r1.length) (rr) ⟨⟨rfl, rfl, rfl, trivial⟩, hps, Ch.refl _ _, rfl, List.suffix_rfl⟩ ?_
  rintro r1 σ9 w12 ⟨⟨f2, f3, f5, _⟩, hps, hci, hsk, hsu⟩
  have s2 := f2.trans qo6
  have s3 := f3.trans qo7
  have s5 := f5.trans qo8
  refine W.seq ?_
  refine W.seq ?_
  refine W.region ?_
  refine WL.x (X.mv (s5)) rfl ?_
  refine WL.call3 ce38 (lh) lc lc (sees_ok (p + 1) p (s.size : Int) r1 4 no w12 hps) rfl ?_
  rintro _ _ ⟨rfl, rfl⟩
  refine WL.e4 Nx.thn 2 3 5 21 (jt2 rfl (s2)) (jt2 rfl (s3)) (jt2 rfl (s5)) (lh) ?_
  intro σ10 s2 s3 s5 s21
  refine W.cnd s21 (fun hln => ?_) (fun hln => ?_)
  ·
   refine W.skip Nx.thn ?_
   refine W.block ?_
   refine W.region ?_
   refine WL.x (X.mv (s5)) rfl ?_
   refine WL.callP3 ce39 (lh) lc lc (take_ok (p + 1) p (s.size : Int) r1 4 no w12 hps) rfl (by rintro v w' ⟨hnb, -, -⟩; rw [hln] at hnb; cases hnb) ?_
   rintro _ w13 ⟨t7, r7, hr7, -, rfl, hps, c7⟩
   refine WL.e3 (Nx.blk Nx.thn) 2 3 5 (jt2 rfl (s2)) (jt2 rfl (s3)) (jt2 rfl (s5)) ?_
   intro σ11 s2 s3 s5
   refine ⟨r7, by rw [hr7]; simp, ⟨s2.trans qo6.symm, s3.trans qo7.symm, s5.trans qo8.symm, trivial⟩, hps, hci.trans c7 (fun _ _ e => e) (fun _ _ e => e), (by rw [← hsk, skipP_line hln, hr7]; rfl), (List.suffix_cons _ _).trans (by rw [← hr7]; exact hsu)⟩
  ·
   have hss : skipP rr = r1 := hsk.symm.trans (skipP_stop hln)
   replace hlc := hci.at hlc (fun e => by (try dsimp only at e); omega)
   replace hec := hci.at hec (fun e => by (try dsimp only at e); omega)
   replace hrow := orow_mine monEv hrow hci (fun j hj e => by have hj0 := hpM _ hj; exact hj0 e) (fun j hj e => by have := (ORow.lt hrow j hj).1; (try dsimp only at e); omega)
   replace hcl := hcl.trans hci (H := fun _ => False) (fun _ _ e => e) (fun j hj e => by (try dsimp only at e); omega)
   have zci := hci.size
   have hg1 : TokG r64 r1 := hgr.suf hsu
   refine W.exit (Nx.xthn (Nx.xthn (Nx.xblk Nx.thn))) ?_
   refine W.seq ?_
   refine W.seq ?_
   refine W.region ?_
   have hq9 := hps
   obtain ⟨-, -, v9, hp9, hr9⟩ := hq9
   obtain ⟨a9, c9, rfl⟩ := hr9.len
   refine WL.x (X.mv (s5)) rfl ?_
   refine WL.x (X.nilck (lh)) rfl ?_
   refine WL.x (X.fieldAddr fd77_0 (lh)) rfl ?_
   refine WL.x (X.load pl69 (lh) (by first | assumption | exact hci.at (by assumption) (by intro hne; first | exact hne | ((try dsimp only at hne); omega)) | exact hci.at (cbx.at0 (by assumption)) (by intro hne; first | exact hne | ((try dsimp only at hne); omega))) (by first | rfl | assumption)) rfl ?_
   refine WL.x (X.lenSl Tryd.underlying69 (lh)) rfl ?_
   refine WL.x (X.eql (lh) lc) rfl ?_
   refine WL.e4 Nx.thn 2 3 5 29 (jt4 rfl (jt2 rfl (s2))) (jt4 rfl (jt2 rfl (s3))) (jt4 rfl (jt2 rfl (s5))) (lh) ?_
   intro σ12 s2 s3 s5 s29
   refine W.cndp s29 (fun hz => ?_) (fun hz => ?_)
   ·
    refine W.seq ?_
    refine W.region ?_
    obtain ⟨la, lcp, rfl⟩ := orow_form hrow
    refine WL.x (X.load pl22 (s2) hlc (v := .slice la acc.length lcp) rfl) rfl ?_
    refine WL.store el22 (lt rfl (s2)) (lh) rfl hlc (show 0 < 1 by decide) ?_
    intro w14 us
    have hl3 : w14.heap[bL]? = some (.cells #[.slice la acc.length lcp] 22 (0, 0)) := us.at_
    have chl3 := us.ch
    replace hec := chl3.at hec (fun e => by (try dsimp only at e); omega)
    replace hrow := orow_mine monEv hrow chl3 (mine_ne hlc (by decide)) (fun j hj e => by have := (ORow.lt hrow j hj).1; (try dsimp only at e); omega)
    replace hcl := hcl.trans chl3 (H := fun _ => False) (fun _ _ e => e) (fun j hj e => by (try dsimp only at e); omega)
    refine WL.store el28 (lt rfl (s3)) (show ev _ (.const (.nilIface)) = _ from rfl) rfl hec (show 0 < 1 by decide) ?_
    intro w15 us
    have he3 : w15.heap[bE]? = some (.cells #[.nilIface] 28 (0, 0)) := us.at_
    have che3 := us.ch
    have hl4 := che3.at hl3 (fun e => by (try dsimp only at e); omega)
    replace hrow := orow_mine monEv hrow che3 (mine_ne hec (by decide)) (fun j hj e => by have := (ORow.lt hrow j hj).1; (try dsimp only at e); omega)
    replace hcl := hcl.trans che3 (H := fun _ => False) (fun _ _ e => e) (fun j hj e => by (try dsimp only at e); omega)
    refine WL.e2 Nx.thn 2 3 (lt rfl (s2)) (lt rfl (s3)) ?_
    intro σ13 s2 s3
    refine W.retG (Nx.rthn (Nx.rblk (Nx.rthn (Nx.rblk (Nx.panSR Nx.fG))))) ⟨[_, _], (.cell1 s2 pl22 (by first | assumption | exact che3.at (by assumption) (by intro hne; first | exact hne | ((try dsimp only at hne); omega)) | exact che3.at (chl3.at (by assumption) (by intro hne; first | exact hne | ((try dsimp only at hne); omega))) (by intro hne; first | exact hne | ((try dsimp only at hne); omega))) (by rfl) (.cell1 s3 pl28 (by first | assumption | exact che3.at (by assumption) (by intro hne; first | exact hne | ((try dsimp only at hne); omega)) | exact che3.at (chl3.at (by assumption) (by intro hne; first | exact hne | ((try dsimp only at hne); omega))) (by intro hne; first | exact hne | ((try dsimp only at hne); omega))) (by rfl) .nil)), ?_⟩
    have hsp2 : skipP rr = [] := by rw [hss]; exact List.eq_nil_of_length_eq_zero (by omega)
    exact ⟨⟨_, _, rfl, .inl ⟨acc, (parseP_ok hsp).trans (heq.trans (histP_end hsp2)), rfl, ORow.rsl' monEv hrow (fun j hj => hj.mono (by decide) (Nat.le_refl _)) (hrow.mine (by decide) (by omega)), h3⟩⟩, hcl⟩
   ·
    obtain ⟨f', rfl⟩ : ∃ f', f = f' + 1 := ⟨f - 1, by omega⟩
    have hnn : skipP rr ≠ [] := by rw [hss]; intro h0; rw [h0] at hz; exact hz rfl
    obtain ⟨la, lcp, rfl⟩ := orow_form hrow
    have hsl9 := skipP_len rr
    rw [hss] at hsl9
    refine W.skip Nx.thn ?_
    refine W.seq ?_
    refine W.region ?_
    refine WL.x (X.mv (s5)) rfl ?_
    refine WL.x (X.load pl22 (lt rfl (s2)) hlc (v := .slice la acc.length lcp) rfl) rfl ?_
    refine WL.x (X.lenSl Tryd.underlying22 (lh)) rfl ?_
    refine WL.callP3 ce40 (jt2 rfl (lh)) (lh) lc (room_ok (p + 1) p (s.size : Int) r1 (acc.length : Int) 300 w12 hps) rfl (by rintro v w' ⟨h9, rfl, rfl⟩; exact ⟨_, rfl, (jt2 rfl (lt rfl (s2))), (jt2 rfl (lt rfl (s3))), ⟨(atP (s.size : Int) r1, 4), (parseP_ok hsp).trans (heq.trans ((histP_full hnn (by omega)).trans (by rw [hss]))), rfl⟩, ⟨_, hlc⟩, ⟨_, hec⟩, hcl⟩) ?_
    rintro _ _ ⟨hroom, rfl⟩
    refine WL.e3 Nx.thn 2 3 5 (jt4 rfl (s2)) (jt4 rfl (s3)) (jt4 rfl (s5)) ?_
    intro σ14 s2 s3 s5
    refine W.held (fun w' => Ch (fun j => j = p ∨ slBlk (.slice la acc.length lcp) j ∨ j = bL) w12 w') mo ?_
    intro w16 qhh9 qc10
    have hS : Ch (fun j => j = p ∨ slBlk (.slice la acc.length lcp) j ∨ j = bL) w12 w16 := Ch.weak qc10
    have hzqc10 := qc10.size
    have cdh11 := qc10
    have hzc0 := hcl.size
    replace hlc := cdh11.at0 hlc
    replace hec := cdh11.at0 hec
    replace hps := hps.ch0 cdh11
    replace hrow := orow_mine monEv hrow cdh11 (fun _ _ e => e) (fun _ _ e => e)
    replace hcl := hcl.trans0 cdh11
    obtain ⟨-, -, v9, hp9, -⟩ := id hps
    have zcd := cdh11.size
    refine WH.takeP 1 rfl (by kernel_rfl) (by kernel_rfl) (by kernel_rfl) (fun c σ σ' w hs ⟨v, h1, h2, h3, h4⟩ => ⟨v, h1, (hs 2 rfl).trans h2, (hs 3 rfl).trans h3, h4⟩) Gd.none rfl (fun w' hS' => X.mv (s5)) hS ?_
    refine WH.two 0 2 rfl rfl (by kernel_rfl) (fun _ _ h => h) ?_ ?_
    ·
     first | refine WL.x (X.load pl22 (lt rfl (s2)) hlc (v := .slice la acc.length lcp) rfl) rfl ?_ | refine WL.x (X.load pl22 (lt rfl (s2)) (cu11_3.at0 hlc) (v := .slice la acc.length lcp) rfl) rfl ?_
     refine WL.nil Nx.thn ⟨hS, ?_⟩
     refine WH.one 2 rfl (by kernel_rfl) (fun _ _ h => h) ?_
     refine WL.callP1 ce41 (lt rfl (lh)) (event_ok (p + 1) p (s.size : Int) r1 w16 hps hg1) rfl (by rintro v w' ⟨x, hx, rfl, cx⟩; exact ⟨_, rfl, (jt2 rfl (s2)), (jt2 rfl (s3)), ⟨x, (parseP_ok hsp).trans (heq.trans (histP_err hnn (by omega) (by rw [hss]; exact hx))), rfl⟩, ⟨_, cx.at hlc (fun e => by (try dsimp only at e); omega)⟩, ⟨_, cx.at hec (fun e => by (try dsimp only at e); omega)⟩, hcl.trans cx (H := fun _ => False) (fun _ _ e => e) (fun j hj e => by (try dsimp only at e); omega)⟩) ?_
     rintro _ w17 ⟨x2, r2, es2, hev, rfl, hes3, hx, hps, c11⟩
     have hpM : ∀ j, Mine [3, 48] w.heap.size _ j → ¬ j = p := mine_ne hp9 (by decide)
     replace hlc := c11.at hlc (fun e => by (try dsimp only at e); omega)
     replace hec := c11.at hec (fun e => by (try dsimp only at e); omega)
     replace hrow := orow_mine monEv hrow c11 hpM (fun j hj e => by have := (ORow.lt hrow j hj).1; (try dsimp only at e); omega)
     replace hcl := hcl.trans c11 (H := fun _ => False) (fun _ _ e => e) (fun j hj e => by (try dsimp only at e); omega)
     have hzcl := hcl.size
     replace hx := rd_mono monEv hx (show w.heap.size ≤ _ by omega)
     have hG := eventP_good hev hg1 r64_0
     obtain ⟨lv3, rfl, hx1⟩ := id hx
     obtain ⟨la3, lc3, rfl⟩ := hx1.1.len
     have hS := hS.trans c11 (fun _ _ e => e) (fun _ _ e => .inl e)
     refine WL.nil Nx.thn ⟨hS, ?_⟩
     refine WH.one 3 rfl (by kernel_rfl) (fun _ _ h => h) ?_
     refine WL.bsliceR (vs := [_]) Tryd.underlying22 el44 (by decide) (pcons (lh) pnil) rfl (fun u hu => by rw [List.mem_singleton.1 hu]; rfl) (show 1 * 3 ≤ 16777216 by decide) rfl ?_
     intro w19 u11_3; have hu11_3 := u11_3.at_; have cu11_3 := u11_3.ch; have zu11_3 := u11_3.size
     have hS := hS.trans cu11_3 (fun _ _ => id) (by intro i hi hg; first | exact hg | exact False.elim hg | omega | ((try dsimp only at hg ⊢); omega))
     refine WL.nil Nx.thn ⟨hS, ?_⟩
     refine WH.one 4 rfl (by kernel_rfl) (fun _ _ h => h) ?_
     replace hlc := cu11_3.at0 hlc
     replace hec := cu11_3.at0 hec
     replace hps := hps.ch0 cu11_3
     replace hrow := orow_mine monEv hrow cu11_3 (fun _ _ e => e) (fun _ _ e => e)
     replace hcl := hcl.trans0 cu11_3
     replace hx := rd_mine monEv hx cu11_3 (fun _ _ e => e)
     have zl4 := c11.size
     have zl5 := cu11_3.size
     obtain ⟨ess, he1, he2, hown, he4⟩ := hrow
     refine WL.append Tryd.underlying22 el44 rfl (by decide) (jt2 rfl (lh)) (lh) (hown) (by first | assumption | exact hS.at (by assumption) (by intro hne; first | exact hne | ((try dsimp only at hne); omega)) | exact hS.at (hci.at (by assumption) (by intro hne; first | exact hne | ((try dsimp only at hne); omega))) (by intro hne; first | exact hne | ((try dsimp only at hne); omega))) rfl (by exact ones_of rfl) (by unfold maxLen; omega) (by omega) (by omega) rfl ?_
     intro va11_4 w20 ho11_4 ca11_4
     replace hlc := ca11_4.at hlc (fun e => by have := (own_lt hown e).1; omega)
     replace hec := ca11_4.at hec (fun e => by have := (own_lt hown e).1; omega)
     replace hps := hps.own ca11_4 (fun j hj e => by have := (own_lt hown e).1; omega)
     have hmf : ∀ j, Mine [3, 48] w.heap.size _ j → ¬ slBlk (.slice la acc.length lcp) j := own_not hown (by decide)
     replace hx := rd_mine monEv hx ca11_4 hmf
     replace hcl := hcl.trans ca11_4 (H := fun _ => False) (fun _ _ e => e) (fun j hj e => by have := (own_lt hown e).1; have := hcl.size; omega)
     have hrow := ORow.push monEv he1 he2 he4 rfl hx ca11_4 hmf (fun j hj => hj.ch ca11_4 (hmf j hj)) ho11_4
     obtain ⟨la2, lc2, rfl⟩ : ∃ la2 lc2, va11_4 = .slice la2 (acc.length + 1) lc2 := own_form ho11_4
     have hS := hS.trans ca11_4 (fun _ _ e => e) (fun _ _ e => .inr (.inl e))
     refine WL.nil Nx.thn ⟨hS, ?_⟩
     refine WH.one 5 rfl (by kernel_rfl) (fun _ _ h => h) ?_
     refine WL.store el22 (jt4 rfl (lt rfl (s2))) (lh) rfl hlc (show 0 < 1 by decide) ?_
     intro w21 us
     have hl3 : w21.heap[bL]? = some (.cells #[.slice la2 (acc.length + 1) lc2] 22 (0, 0)) := us.at_
     have chl3 := us.ch
     replace hec := chl3.at hec (fun e => by (try dsimp only at e); omega)
     replace hrow := orow_mine monEv hrow chl3 (mine_ne hlc (by decide)) (fun j hj e => by have := (ORow.lt hrow j hj).1; (try dsimp only at e); omega)
     replace hcl := hcl.trans chl3 (H := fun _ => False) (fun _ _ e => e) (fun j hj e => by (try dsimp only at e); omega)
     replace hps := hps.own2 chl3 (fun e => by (try dsimp only at e); omega) (fun j e => by have e : j = bL := e; subst e; exact ⟨_, _, _, hlc, by decide⟩)
     have hS := hS.trans chl3 (fun _ _ e => e) (fun _ _ e => .inr (.inr e))
     refine WL.nil Nx.thn ⟨hS, ?_⟩
     refine WH.done (by kernel_rfl) ?_
     refine WL.e3 (Nx.blk Nx.thn) 2 3 5 (jt4 rfl (lt rfl (s2))) (jt4 rfl (lt rfl (s3))) (jt4 rfl (lt rfl (s5))) ?_
     intro σ15 s2 s3 s5
     refine ⟨r2, by have := hG.less; omega, ⟨s2.trans qo3.symm, s3.trans qo4.symm, s5.trans qo5.symm, trivial⟩, acc ++ [x2], f', .slice la2 (acc.length + 1) lc2, hps, hl3, hec, hrow, heq.trans (histP_go hnn (by omega) (by rw [hss]; exact hev)), (by have := hG.less; omega), (by rw [List.length_append]; show acc.length + 1 ≤ 300; omega), hg1.suf hG.suf, hcl, (by have := chl3.size; have := ca11_4.size; omega)⟩
    ·
     refine WL.callP1 ce41 (lh) (event_ok (p + 1) p (s.size : Int) r1 w16 hps hg1) rfl (by rintro v w' ⟨x, hx, rfl, cx⟩; exact ⟨_, rfl, (lt rfl (s2)), (lt rfl (s3)), ⟨x, (parseP_ok hsp).trans (heq.trans (histP_err hnn (by omega) (by rw [hss]; exact hx))), rfl⟩, ⟨_, cx.at hlc (fun e => by (try dsimp only at e); omega)⟩, ⟨_, cx.at hec (fun e => by (try dsimp only at e); omega)⟩, hcl.trans cx (H := fun _ => False) (fun _ _ e => e) (fun j hj e => by (try dsimp only at e); omega)⟩) ?_
     rintro _ w22 ⟨x2, r2, es2, hev, rfl, hes3, hx, hps, c11⟩
     have hpM : ∀ j, Mine [3, 48] w.heap.size _ j → ¬ j = p := mine_ne hp9 (by decide)
     replace hlc := c11.at hlc (fun e => by (try dsimp only at e); omega)
     replace hec := c11.at hec (fun e => by (try dsimp only at e); omega)
     replace hrow := orow_mine monEv hrow c11 hpM (fun j hj e => by have := (ORow.lt hrow j hj).1; (try dsimp only at e); omega)
     replace hcl := hcl.trans c11 (H := fun _ => False) (fun _ _ e => e) (fun j hj e => by (try dsimp only at e); omega)
     have hzcl := hcl.size
     replace hx := rd_mono monEv hx (show w.heap.size ≤ _ by omega)
     have hG := eventP_good hev hg1 r64_0
     obtain ⟨lv3, rfl, hx1⟩ := id hx
     obtain ⟨la3, lc3, rfl⟩ := hx1.1.len
     have hS := hS.trans c11 (fun _ _ e => e) (fun _ _ e => .inl e)
     refine WL.nil Nx.thn ⟨hS, ?_⟩
     refine WH.two 0 3 rfl rfl (by kernel_rfl) (fun _ _ h => h) ?_ ?_
     ·
      first | refine WL.x (X.load pl22 (jt2 rfl (s2)) hlc (v := .slice la acc.length lcp) rfl) rfl ?_ | refine WL.x (X.load pl22 (jt2 rfl (s2)) (cu11_3.at0 hlc) (v := .slice la acc.length lcp) rfl) rfl ?_
      refine WL.nil Nx.thn ⟨hS, ?_⟩
      refine WH.one 3 rfl (by kernel_rfl) (fun _ _ h => h) ?_
      refine WL.bsliceR (vs := [_]) Tryd.underlying22 el44 (by decide) (pcons (lt rfl (lh)) pnil) rfl (fun u hu => by rw [List.mem_singleton.1 hu]; rfl) (show 1 * 3 ≤ 16777216 by decide) rfl ?_
      intro w24 u11_3; have hu11_3 := u11_3.at_; have cu11_3 := u11_3.ch; have zu11_3 := u11_3.size
      have hS := hS.trans cu11_3 (fun _ _ => id) (by intro i hi hg; first | exact hg | exact False.elim hg | omega | ((try dsimp only at hg ⊢); omega))
      refine WL.nil Nx.thn ⟨hS, ?_⟩
      refine WH.one 4 rfl (by kernel_rfl) (fun _ _ h => h) ?_
      replace hlc := cu11_3.at0 hlc
      replace hec := cu11_3.at0 hec
      replace hps := hps.ch0 cu11_3
      replace hrow := orow_mine monEv hrow cu11_3 (fun _ _ e => e) (fun _ _ e => e)
      replace hcl := hcl.trans0 cu11_3
      replace hx := rd_mine monEv hx cu11_3 (fun _ _ e => e)
      have zl4 := c11.size
      have zl5 := cu11_3.size
      obtain ⟨ess, he1, he2, hown, he4⟩ := hrow
      refine WL.append Tryd.underlying22 el44 rfl (by decide) (lt rfl (lh)) (lh) (hown) (by first | assumption | exact hS.at (by assumption) (by intro hne; first | exact hne | ((try dsimp only at hne); omega)) | exact hS.at (hci.at (by assumption) (by intro hne; first | exact hne | ((try dsimp only at hne); omega))) (by intro hne; first | exact hne | ((try dsimp only at hne); omega))) rfl (by exact ones_of rfl) (by unfold maxLen; omega) (by omega) (by omega) rfl ?_
      intro va11_4 w25 ho11_4 ca11_4
      replace hlc := ca11_4.at hlc (fun e => by have := (own_lt hown e).1; omega)
      replace hec := ca11_4.at hec (fun e => by have := (own_lt hown e).1; omega)
      replace hps := hps.own ca11_4 (fun j hj e => by have := (own_lt hown e).1; omega)
      have hmf : ∀ j, Mine [3, 48] w.heap.size _ j → ¬ slBlk (.slice la acc.length lcp) j := own_not hown (by decide)
      replace hx := rd_mine monEv hx ca11_4 hmf
      replace hcl := hcl.trans ca11_4 (H := fun _ => False) (fun _ _ e => e) (fun j hj e => by have := (own_lt hown e).1; have := hcl.size; omega)
      have hrow := ORow.push monEv he1 he2 he4 rfl hx ca11_4 hmf (fun j hj => hj.ch ca11_4 (hmf j hj)) ho11_4
      obtain ⟨la2, lc2, rfl⟩ : ∃ la2 lc2, va11_4 = .slice la2 (acc.length + 1) lc2 := own_form ho11_4
      have hS := hS.trans ca11_4 (fun _ _ e => e) (fun _ _ e => .inr (.inl e))
      refine WL.nil Nx.thn ⟨hS, ?_⟩
      refine WH.one 5 rfl (by kernel_rfl) (fun _ _ h => h) ?_
      refine WL.store el22 (jt4 rfl (lt rfl (s2))) (lh) rfl hlc (show 0 < 1 by decide) ?_
      intro w26 us
      have hl3 : w26.heap[bL]? = some (.cells #[.slice la2 (acc.length + 1) lc2] 22 (0, 0)) := us.at_
      have chl3 := us.ch
      replace hec := chl3.at hec (fun e => by (try dsimp only at e); omega)
      replace hrow := orow_mine monEv hrow chl3 (mine_ne hlc (by decide)) (fun j hj e => by have := (ORow.lt hrow j hj).1; (try dsimp only at e); omega)
      replace hcl := hcl.trans chl3 (H := fun _ => False) (fun _ _ e => e) (fun j hj e => by (try dsimp only at e); omega)
      replace hps := hps.own2 chl3 (fun e => by (try dsimp only at e); omega) (fun j e => by have e : j = bL := e; subst e; exact ⟨_, _, _, hlc, by decide⟩)
      have hS := hS.trans chl3 (fun _ _ e => e) (fun _ _ e => .inr (.inr e))
      refine WL.nil Nx.thn ⟨hS, ?_⟩
      refine WH.done (by kernel_rfl) ?_
      refine WL.e3 (Nx.blk Nx.thn) 2 3 5 (jt4 rfl (lt rfl (s2))) (jt4 rfl (lt rfl (s3))) (jt4 rfl (lt rfl (s5))) ?_
      intro σ16 s2 s3 s5
      refine ⟨r2, by have := hG.less; omega, ⟨s2.trans qo3.symm, s3.trans qo4.symm, s5.trans qo5.symm, trivial⟩, acc ++ [x2], f', .slice la2 (acc.length + 1) lc2, hps, hl3, hec, hrow, heq.trans (histP_go hnn (by omega) (by rw [hss]; exact hev)), (by have := hG.less; omega), (by rw [List.length_append]; show acc.length + 1 ≤ 300; omega), hg1.suf hG.suf, hcl, (by have := chl3.size; have := ca11_4.size; omega)⟩
     ·
      refine WL.bsliceR (vs := [_]) Tryd.underlying22 el44 (by decide) (pcons (lh) pnil) rfl (fun u hu => by rw [List.mem_singleton.1 hu]; rfl) (show 1 * 3 ≤ 16777216 by decide) rfl ?_
      intro w28 u11_3; have hu11_3 := u11_3.at_; have cu11_3 := u11_3.ch; have zu11_3 := u11_3.size
      have hS := hS.trans cu11_3 (fun _ _ => id) (by intro i hi hg; first | exact hg | exact False.elim hg | omega | ((try dsimp only at hg ⊢); omega))
      refine WL.nil Nx.thn ⟨hS, ?_⟩
      refine WH.one 0 rfl (by kernel_rfl) (fun _ _ h => h) ?_
      first | refine WL.x (X.load pl22 (jt2 rfl (lt rfl (s2))) hlc (v := .slice la acc.length lcp) rfl) rfl ?_ | refine WL.x (X.load pl22 (jt2 rfl (lt rfl (s2))) (cu11_3.at0 hlc) (v := .slice la acc.length lcp) rfl) rfl ?_
      refine WL.nil Nx.thn ⟨hS, ?_⟩
      refine WH.one 4 rfl (by kernel_rfl) (fun _ _ h => h) ?_
      replace hlc := cu11_3.at0 hlc
      replace hec := cu11_3.at0 hec
      replace hps := hps.ch0 cu11_3
      replace hrow := orow_mine monEv hrow cu11_3 (fun _ _ e => e) (fun _ _ e => e)
      replace hcl := hcl.trans0 cu11_3
      replace hx := rd_mine monEv hx cu11_3 (fun _ _ e => e)
      have zl4 := c11.size
      have zl5 := cu11_3.size
      obtain ⟨ess, he1, he2, hown, he4⟩ := hrow
      refine WL.append Tryd.underlying22 el44 rfl (by decide) (lh) (lt rfl (lh)) (hown) (by first | assumption | exact hS.at (by assumption) (by intro hne; first | exact hne | ((try dsimp only at hne); omega)) | exact hS.at (hci.at (by assumption) (by intro hne; first | exact hne | ((try dsimp only at hne); omega))) (by intro hne; first | exact hne | ((try dsimp only at hne); omega))) rfl (by exact ones_of rfl) (by unfold maxLen; omega) (by omega) (by omega) rfl ?_
      intro va11_4 w29 ho11_4 ca11_4
      replace hlc := ca11_4.at hlc (fun e => by have := (own_lt hown e).1; omega)
      replace hec := ca11_4.at hec (fun e => by have := (own_lt hown e).1; omega)
      replace hps := hps.own ca11_4 (fun j hj e => by have := (own_lt hown e).1; omega)
      have hmf : ∀ j, Mine [3, 48] w.heap.size _ j → ¬ slBlk (.slice la acc.length lcp) j := own_not hown (by decide)
      replace hx := rd_mine monEv hx ca11_4 hmf
      replace hcl := hcl.trans ca11_4 (H := fun _ => False) (fun _ _ e => e) (fun j hj e => by have := (own_lt hown e).1; have := hcl.size; omega)
      have hrow := ORow.push monEv he1 he2 he4 rfl hx ca11_4 hmf (fun j hj => hj.ch ca11_4 (hmf j hj)) ho11_4
      obtain ⟨la2, lc2, rfl⟩ : ∃ la2 lc2, va11_4 = .slice la2 (acc.length + 1) lc2 := own_form ho11_4
      have hS := hS.trans ca11_4 (fun _ _ e => e) (fun _ _ e => .inr (.inl e))
      refine WL.nil Nx.thn ⟨hS, ?_⟩
      refine WH.one 5 rfl (by kernel_rfl) (fun _ _ h => h) ?_
      refine WL.store el22 (jt4 rfl (lt rfl (s2))) (lh) rfl hlc (show 0 < 1 by decide) ?_
      intro w30 us
      have hl3 : w30.heap[bL]? = some (.cells #[.slice la2 (acc.length + 1) lc2] 22 (0, 0)) := us.at_
      have chl3 := us.ch
      replace hec := chl3.at hec (fun e => by (try dsimp only at e); omega)
      replace hrow := orow_mine monEv hrow chl3 (mine_ne hlc (by decide)) (fun j hj e => by have := (ORow.lt hrow j hj).1; (try dsimp only at e); omega)
      replace hcl := hcl.trans chl3 (H := fun _ => False) (fun _ _ e => e) (fun j hj e => by (try dsimp only at e); omega)
      replace hps := hps.own2 chl3 (fun e => by (try dsimp only at e); omega) (fun j e => by have e : j = bL := e; subst e; exact ⟨_, _, _, hlc, by decide⟩)
      have hS := hS.trans chl3 (fun _ _ e => e) (fun _ _ e => .inr (.inr e))
      refine WL.nil Nx.thn ⟨hS, ?_⟩
      refine WH.done (by kernel_rfl) ?_
      refine WL.e3 (Nx.blk Nx.thn) 2 3 5 (jt4 rfl (lt rfl (s2))) (jt4 rfl (lt rfl (s3))) (jt4 rfl (lt rfl (s5))) ?_
      intro σ17 s2 s3 s5
      refine ⟨r2, by have := hG.less; omega, ⟨s2.trans qo3.symm, s3.trans qo4.symm, s5.trans qo5.symm, trivial⟩, acc ++ [x2], f', .slice la2 (acc.length + 1) lc2, hps, hl3, hec, hrow, heq.trans (histP_go hnn (by omega) (by rw [hss]; exact hev)), (by have := hG.less; omega), (by rw [List.length_append]; show acc.length + 1 ≤ 300; omega), hg1.suf hG.suf, hcl, (by have := chl3.size; have := ca11_4.size; omega)⟩
end Go.Proofs.YtjnkpjehpdlcbaaDoor
