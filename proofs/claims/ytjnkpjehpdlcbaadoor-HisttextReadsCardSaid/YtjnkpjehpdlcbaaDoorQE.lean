/-
  A part of the walk of the program.
-/
import Derived.Test.YtjnkpjehpdlcbaaDoorQC
import Derived.Test.YtjnkpjehpdlcbaaDoorE
set_option linter.unusedVariables false
set_option linter.unusedSimpArgs false
set_option maxRecDepth 100000
namespace Go.Proofs.YtjnkpjehpdlcbaaDoor
open Go Go.RowKit Sg
theorem ce42 : Sg.Callee Tryd.prog 42 := ⟨_, Tryd.func42, by decide, rfl⟩
theorem bd88 : Sg.Bld Tryd.prog 88 [0, 1, 2, 3, 4] [.slice none 0 0, .int .i64 0, .bool false, .int .i64 0, .int .i64 0] := ⟨_, rfl, rfl, .inl ⟨_, rfl, Sg.allIn rfl, Sg.allAt (n := 5) rfl⟩⟩
theorem ce46 : Sg.Callee Tryd.prog 46 := ⟨_, Tryd.func46, by decide, rfl⟩
theorem ce13 : Sg.Callee Tryd.prog 13 := ⟨_, Tryd.func13, by decide, rfl⟩
theorem ce14 : Sg.Callee Tryd.prog 14 := ⟨_, Tryd.func14, by decide, rfl⟩
theorem ce15 : Sg.Callee Tryd.prog 15 := ⟨_, Tryd.func15, by decide, rfl⟩

theorem numL_ne {l : Bs} {k e : Nat} (h : numL l = .error (k, e)) : e ≠ 0 := by
  unfold numL at h
  simp only at h
  repeat' split at h
  all_goals first | (cases h; done) | (injection h with h; injection h with _ h; omega)
theorem tokL_ne {i : Nat} {l : Bs} {p : Nat × Nat} (h : tokL i l = .error p) : p.2 ≠ 0 := by
  unfold tokL at h
  simp only at h
  split at h
  · cases h
  · split at h
    · cases h
    · split at h
      · cases hn : numL l with
        | ok y => obtain ⟨k', v⟩ := y; rw [hn] at h; cases h
        | error e =>
          obtain ⟨k', e⟩ := e
          rw [hn] at h
          injection h with h; subst h
          exact numL_ne hn
      · split at h
        · cases h
        · injection h with h; subst h; simp
theorem scanF_ne : ∀ {f i : Nat} {l : Bs} {p : Nat × Nat}, scanF f i l = .error p → p.2 ≠ 0
  | 0, _, _, p, h => by
    have h : Except.ok [] = (Except.error p : Except (Nat × Nat) (List Tok)) := h
    cases h
  | f + 1, i, l, p, h => by
    have h : (if l = [] then .ok [] else if bat l 0 = 32 then scanF f (i + 1) (l.drop 1) else match tokL i l with | .error e => .error e | .ok (t, k) => aft [t] (scanF f (i + k) (l.drop k))) = Except.error p := h
    split at h
    · cases h
    · split at h
      · exact scanF_ne h
      · split at h
        · rename_i e he; injection h with h; subst h; exact tokL_ne he
        · rename_i t k ht
          cases hq : scanF f (i + k) (l.drop k) with
          | error e => rw [hq] at h; have h : Except.error e = (Except.error p : Except (Nat × Nat) (List Tok)) := h; injection h with h; subst h; exact scanF_ne hq
          | ok r => rw [hq] at h; have h : Except.ok ([t] ++ r) = (Except.error p : Except (Nat × Nat) (List Tok)) := h; cases h
theorem scanA_ne {l : Bs} {p : Nat × Nat} (h : scanA l = .error p) : p.2 ≠ 0 := by
  unfold scanA at h
  split at h
  · injection h with h; subst h; simp
  · exact scanF_ne h
/-- What the reference's reading hands back. -/
def ParX (key : ByteArray → Bool) (s : ByteArray) (A : Nat → Prop) (w : World) (lv : Value) (at_ why : Int) : Prop :=
  (∃ l, parseP key s = .ok l ∧ at_ = 0 ∧ why = 0 ∧ RSl 3 REv A w lv l ∧ l.length ≤ 300) ∨ (∃ x : Er, parseP key s = .error x ∧ lv = .slice none 0 0 ∧ at_ = x.1 ∧ why = x.2)
theorem ev_pick {x x' : Except Er (List Tok)} {e : Int} {Q : GEv → Prop} (h : (∃ y, x' = .error y ∧ bX x (ev0 e) = .error y) ∨ (∃ o r, x' = .ok r ∧ bX x (ev0 e) = .ok (o, r) ∧ Q o)) : ∃ o, (∃ y, x' = .error y ∧ bX x (ev0 e) = .error y) ∨ (∃ r, x' = .ok r ∧ bX x (ev0 e) = .ok (o, r) ∧ Q o) := by
  rcases h with h | ⟨o, h⟩
  · exact ⟨(0, 0, []), .inl h⟩
  · exact ⟨o, .inr h⟩
theorem evO_map {x x' : Except Er (List Tok)} {e : Int} {o : GEv} {Q Q' : Prop} (h : (∃ y, x' = .error y ∧ bX x (ev0 e) = .error y) ∨ (∃ r, x' = .ok r ∧ bX x (ev0 e) = .ok (o, r) ∧ Q)) (hq : Q → Q') : (∃ y, x' = .error y ∧ bX x (ev0 e) = .error y) ∨ (∃ r, x' = .ok r ∧ bX x (ev0 e) = .ok (o, r) ∧ Q') := by
  rcases h with h | ⟨r, h1, h2, h3⟩
  · exact .inl h
  · exact .inr ⟨r, h1, h2, hq h3⟩
theorem ev0_ok {x : Except Er (List Tok)} {e : Int} {y : PEv × List Tok} (h : bX x (ev0 e) = .ok y) : ∃ ts, x = .ok ts ∧ eventP key6 e ts = .ok y := bX_inv h
/-! ### The two readings of a key agree at words -/
def KeyOK (ts : List Tok) : Prop := ∀ t ∈ ts, TokF t
theorem key_eq {t : Tok} (h : TokF t) (h1 : t.1 = 1) : keyB t.2.2.1 = key6 t.2.2.1 := by unfold keyB key6; rw [h.2 h1, Bool.true_and]
theorem opP_key {e : Int} {ts : List Tok} (h : KeyOK ts) : opP keyB e ts = opP key6 e ts := by
  cases hw : wordI ts OWS with
  | none => rw [opP_none hw, opP_none hw]
  | some j =>
    cases hs : seesB ts.tail 1 no with
    | false => rw [opP_take hw hs, opP_take hw hs]
    | true =>
      obtain ⟨t, r, ht⟩ := sees_cons_ hs
      have hk : keyB (hdX ts.tail) = key6 (hdX ts.tail) := by
        rw [ht]
        refine key_eq (h t ((tail_suf ts).subset (by rw [ht]; exact List.mem_cons_self ..))) ?_
        rw [ht] at hs
        unfold seesB at hs
        rw [Bool.and_eq_true] at hs
        exact of_decide_eq_true hs.1
      cases h6 : key6 (hdX ts.tail) with
      | true => rw [opP_go hw hs (hk.trans h6), opP_go hw hs h6]
      | false => rw [opP_bad hw hs (hk.trans h6), opP_bad hw hs h6]
theorem KeyOK.suf {ts r : List Tok} (h : KeyOK ts) (hs : r <:+ ts) : KeyOK r := fun t ht => h t (hs.subset ht)
theorem opsP_key {e : Int} : ∀ {f : Nat} {ts : List Tok} {acc : List POp}, KeyOK ts → opsP keyB e f ts acc = opsP key6 e f ts acc
  | 0, _, _, _ => rfl
  | f + 1, ts, acc, h => by
    cases hs : seesB ts 3 (mk1 91) with
    | false => rw [opsP_stop hs, opsP_stop hs]
    | true =>
      by_cases h8 : 8 ≤ acc.length
      · rw [opsP_full hs h8, opsP_full hs h8]
      · have hk := opP_key (e := e) (h.suf (tail_suf ts))
        cases ho : opP key6 e ts.tail with
        | error y => rw [opsP_err hs (by omega) ho, opsP_err hs (by omega) (hk.trans ho)]
        | ok y =>
          obtain ⟨o, r⟩ := y
          rw [opsP_go hs (by omega) ho, opsP_go hs (by omega) (hk.trans ho)]
          exact opsP_key (h.suf ((opP_good (R := fun _ => True) ho (fun _ _ => trivial) trivial).suf.trans (tail_suf ts)))
theorem eventP_key {e : Int} {ts : List Tok} (h : KeyOK ts) : eventP keyB e ts = eventP key6 e ts := by
  cases hw : wordI ts EWS with
  | none => rw [eventP_none hw, eventP_none hw]
  | some j =>
    cases hs : seesB ts.tail 2 no with
    | false => rw [eventP_take hw hs, eventP_take hw hs]
    | true =>
      by_cases hb : hdN ts.tail < 0 ∨ 99 < hdN ts.tail
      · rw [eventP_bad hw hs hb, eventP_bad hw hs hb]
      · rw [eventP_go hw hs (by omega) (by omega), eventP_go hw hs (by omega) (by omega)]
        unfold evR
        rw [opsP_key ((h.suf (tail_suf ts)).suf (tail_suf _))]
theorem histP_key {e : Int} : ∀ {f : Nat} {ts : List Tok} {acc : List PEv}, KeyOK ts → histP keyB e f ts acc = histP key6 e f ts acc
  | 0, _, _, _ => rfl
  | f + 1, ts, acc, h => by
    by_cases hn : skipP ts = []
    · rw [histP_end hn, histP_end hn]
    · by_cases h3 : 300 ≤ acc.length
      · rw [histP_full hn h3, histP_full hn h3]
      · have hk := eventP_key (e := e) (h.suf (skipP_suf ts))
        cases ho : eventP key6 e (skipP ts) with
        | error y => rw [histP_err hn (by omega) ho, histP_err hn (by omega) (hk.trans ho)]
        | ok y =>
          obtain ⟨x, r⟩ := y
          rw [histP_go hn (by omega) ho, histP_go hn (by omega) (hk.trans ho)]
          exact histP_key (h.suf ((eventP_good (R := fun _ => True) ho (fun _ _ => trivial) trivial).suf.trans (skipP_suf ts)))
theorem parse_key (s : ByteArray) : parseP keyB s = parseP key6 s := by
  cases h : scanA (sb s) with
  | error p => rw [parseP_scan h, parseP_scan h]
  | ok l => rw [parseP_ok h, parseP_ok h]; exact histP_key (scanA_F h)

set_option maxHeartbeats 3200000 in
theorem rparse_ok (s : ByteArray) (w : World) :
  Sg.Ret Tryd.prog 14 #[.string s] w fun v w' => (∃ lv at_ why, v = .tuple #[lv, .int .i64 at_, .int .i64 why] ∧ ParX key6 s (Mine [3, 48, 44] w.heap.size w') w' lv at_ why) ∧ Ch0 w w' := by
 refine enter3 (n := 67) (l := [.string s]) Tryd.func14 rfl rfl rfl rfl ?_
 refine W.g1 0 (v1 := .string s) rfl ?_; intro σ s0
 refine W.seq ?_
 refine W.region ?_
 refine WL.x (X.asg lc) rfl ?_
 refine WL.x (X.asg lc) rfl ?_
 refine WL.x (X.asg lc) rfl ?_
 refine WL.e1 Nx.thn 0 (jt2 rfl (lt rfl (s0))) ?_
 intro σ1 s0
 refine W.seq ?_
 refine W.region ?_
 refine WL.x (X.mv (s0)) rfl ?_
 refine WL.call1 ce42 (lh) (rscan_ok s w) rfl ?_
 rintro _ w1 ⟨⟨u, rfl, hu⟩, csc⟩
 refine WL.x (X.mv (lh)) rfl ?_
 refine WL.x (X.ex3_0 (lh)) rfl ?_
 refine WL.x (X.ex3_1 (lt rfl (lh))) rfl ?_
 refine WL.x (X.ex3_2 (jt2 rfl (lh))) rfl ?_
 refine WL.x (X.asg (jt2 rfl (lh))) rfl ?_
 refine WL.x (X.asg (jt2 rfl (lh))) rfl ?_
 refine WL.x (X.asg (jt2 rfl (lh))) rfl ?_
 refine WL.e4 Nx.thn 0 5 6 7 (jt8 rfl (lt rfl (s0))) (jt2 rfl (lh)) (lt rfl (lh)) (lh) ?_
 intro σ2 s0 s5 s6 s7
 refine W.seq ?_
 refine W.seq ?_
 refine W.region ?_
 refine WL.x (X.mv (s7)) rfl ?_
 refine WL.x (X.neq (lh) lc) rfl ?_
 refine WL.e5 Nx.thn 0 5 6 7 18 (jt2 rfl (s0)) (jt2 rfl (s5)) (jt2 rfl (s6)) (jt2 rfl (s7)) (lh) ?_
 intro σ3 s0 s5 s6 s7 s18
 refine W.cndp s18 (fun hse => ?_) (fun hse => ?_)
 ·
  obtain ⟨p9, hsp⟩ : ∃ p9, scanA (sb s) = .error p9 := by
    cases h9 : scanA (sb s) with
    | ok l => rw [(scL_ok h9).2.1] at hse; exact absurd rfl hse
    | error p9 => exact ⟨p9, rfl⟩
  refine W.seq ?_
  refine W.region ?_
  refine WL.x (X.mv (s6)) rfl ?_
  refine WL.x (X.mv (lt rfl (s7))) rfl ?_
  refine WL.x (X.asg lc) rfl ?_
  refine WL.x (X.asg (jt2 rfl (lh))) rfl ?_
  refine WL.x (X.asg (jt2 rfl (lh))) rfl ?_
  refine WL.e3 Nx.thn 2 3 4 (jt2 rfl (lh)) (lt rfl (lh)) (lh) ?_
  intro σ4 s2 s3 s4
  refine W.ret3 (Nx.rthn Nx.f3) s2 s3 s4 ?_
  exact ⟨⟨_, _, _, rfl, .inr ⟨((p9.1 : Int), (p9.2 : Int)), parseP_scan hsp, rfl, by rw [(scL_err hsp).2.1], by rw [(scL_err hsp).2.1]⟩⟩, csc⟩
 ·
  obtain ⟨ts0, hsp⟩ : ∃ ts0, scanA (sb s) = .ok ts0 := by
    cases h9 : scanA (sb s) with
    | ok l => exact ⟨l, rfl⟩
    | error p9 => rw [(scL_err h9).2.1] at hse; have := scanA_ne h9; omega
  have hsl : scL s = ts0 := (scL_ok hsp).1
  rw [hsl] at hu
  obtain ⟨ua, uc, rfl⟩ := hu.len
  have hgt := scan_r64 hsp
  refine W.skip Nx.thn ?_
  refine W.seq ?_
  refine W.region ?_
  refine WL.x (X.mv (s5)) rfl ?_
  refine WL.x (X.mv (lt rfl (s0))) rfl ?_
  refine WL.x (X.lenSt Tryd.underlying9 (lh)) rfl ?_
  refine WL.x (X.build bd88 (pcons (jt2 rfl (lh)) (pcons (lh) pnil)) rfl (rfl : _ = [_, _, _, _, _])) rfl ?_
  refine WL.box (lh) rfl ?_
  intro w2 us
  obtain ⟨p, hpE⟩ : ∃ p, p = w1.heap.size := ⟨_, rfl⟩
  rw [← hpE]
  have hp0 : w2.heap[p]? = some (.cells #[.slice ua ts0.length uc, .int .i64 (s.size : Int), .bool false, .int .i64 0, .int .i64 0] 88 (0, 0)) := by rw [hpE]; exact us.at_
  have cbx := us.ch
  have hzsc := csc.size
  have hps : RX (p + 1) p (s.size : Int) (.ok ts0) w2 := ⟨(false, 0, 0), ts0, ⟨by omega, lt_of_blk hp0, _, hp0, (hu.ch0 cbx).rsl ftk_len (fun k hk => by have := (hu.lt hk).2; omega)⟩, rfl, rfl⟩
  have hcl := csc.trans0 cbx
  have hp1 := lt_of_blk hp0
  obtain ⟨wl, hwlE⟩ : ∃ wl, wl = w2.heap.size := ⟨_, rfl⟩
  refine WL.x (X.asg (lh)) rfl ?_
  refine WL.e1 Nx.thn 8 (lh) ?_
  intro σ5 s8
  refine W.seq ?_
  refine W.region ?_
  refine WL.x (X.asg lc) rfl ?_
  refine WL.e2 Nx.thn 8 9 (lt rfl (s8)) (lh) ?_
  intro σ6 s8 s9
  refine W.block ?_
  have qo1 := s8
  -- loop 0: kept [8], varied [9]
  refine W.loop (G := List Tok) (fun rr σ' w' => (σ' 8 = σ6 8 ∧ True) ∧ (∃ acc f lv, σ' 9 = lv ∧ RX (p + 1) p (s.size : Int) (.ok rr) w' ∧ ORow 3 REv (Mine [3, 48] w.heap.size w') w' wl 44 lv acc ∧ histP key6 (s.size : Int) (ts0.length + 1) ts0 [] = histP key6 (s.size : Int) f rr acc ∧ rr.length < f ∧ acc.length ≤ 300 ∧ TokG r64 rr ∧ Ch0 w w' ∧ wl ≤ w'.heap.size)) (fun rr => rr.length) (ts0) ⟨⟨rfl, trivial⟩, [], ts0.length + 1, .slice none 0 0, s9, hps, ORow.nil, rfl, Nat.lt_succ_self _, by simp, hgt, hcl, by omega⟩ ?_
  rintro rr σ7 w3 ⟨⟨f8, _⟩, acc, f, lv, s9, hps, hrow, heq, hf, h3, hgr, hcl, hwl⟩
  have s8 := f8.trans qo1
  have hpM0 : ∀ j, Mine [3, 48] w.heap.size w3 j → ¬ j = p := by
    obtain ⟨_, _, ⟨-, -, vz, hpz, -⟩, -⟩ := id hps
    exact mine_ne hpz (by decide)
  refine W.block ?_
  refine W.seq ?_
  refine W.block ?_
  have qo2 := s8
  have qo3 := s9
  -- loop 1: kept [8, 9], varied []
  refine W.loop (G := List Tok) (fun r1 σ' w' => (σ' 8 = σ7 8 ∧ σ' 9 = σ7 9 ∧ True) ∧ (RX (p + 1) p (s.size : Int) (.ok r1) w' ∧ Ch (fun j => j = p) w3 w' ∧ skipP r1 = skipP rr ∧ r1 <:+ rr)) (fun r1 => r1.length) (rr) ⟨⟨rfl, rfl, trivial⟩, hps, Ch.refl _ _, rfl, List.suffix_rfl⟩ ?_
  rintro r1 σ8 w4 ⟨⟨f8, f9, _⟩, hps, hci, hsk, hsu⟩
  have s8 := f8.trans qo2
  have s9 := f9.trans qo3
  refine W.seq ?_
  refine W.seq ?_
  refine W.region ?_
  refine WL.x (X.mv (s8)) rfl ?_
  refine WL.call3 ce43 (lh) lc lc (xis_ok (p + 1) p (s.size : Int) (.ok r1) 4 no w4 hps) rfl ?_
  rintro _ _ ⟨rfl, rfl⟩
  refine WL.e3 Nx.thn 8 9 27 (jt2 rfl (s8)) (jt2 rfl (s9)) (lh) ?_
  intro σ9 s8 s9 s27
  refine W.cnd s27 (fun hln => ?_) (fun hln => ?_)
  ·
   refine W.skip Nx.thn ?_
   refine W.block ?_
   refine W.region ?_
   refine WL.x (X.mv (s8)) rfl ?_
   refine WL.call3 ce44 (lh) lc lc (xwant_ok (p + 1) p (s.size : Int) (.ok r1) 4 no w4 hps) rfl ?_
   rintro _ w5 ⟨⟨t7, rfl, -⟩, hps, c7⟩
   rw [show bX (Except.ok r1) (takeX (s.size : Int) 4 no) = .ok r1.tail from takeP_ok hln] at hps
   refine WL.e2 (Nx.blk Nx.thn) 8 9 (jt2 rfl (s8)) (jt2 rfl (s9)) ?_
   intro σ10 s8 s9
   refine ⟨r1.tail, by have := sees_len hln; omega, ⟨s8.trans qo2.symm, s9.trans qo3.symm, trivial⟩, hps, hci.trans c7 (fun _ _ e => e) (fun _ _ e => e), (by rw [← hsk, skipP_line hln]), (tail_suf r1).trans hsu⟩
  ·
   have hss : skipP rr = r1 := hsk.symm.trans (skipP_stop hln)
   have zci := hci.size
   obtain ⟨la, lcp, rfl⟩ := orow_form hrow
   replace hrow := orow_mine monEv hrow hci hpM0 (fun j hj e => by have := (ORow.lt hrow j hj); (try dsimp only at e); omega)
   replace hcl := hcl.trans hci (H := fun _ => False) (fun _ _ e => e) (fun j hj e => by (try dsimp only at e); omega)
   have hg1 : TokG r64 r1 := hgr.suf hsu
   refine W.exit (Nx.xthn (Nx.xthn (Nx.xblk Nx.thn))) ?_
   refine W.seq ?_
   refine W.seq ?_
   refine W.region ?_
   obtain ⟨fl9, ts9, ⟨-, -, v9, hp9, hr9⟩, hm9⟩ := id hps
   obtain ⟨hf9, ht9⟩ := id hm9
   rw [ht9] at hr9
   obtain ⟨a9, c9, rfl⟩ := hr9.len
   refine WL.x (X.mv (s8)) rfl ?_
   refine WL.x (X.nilck (lh)) rfl ?_
   refine WL.x (X.fieldAddr fd88_0 (lh)) rfl ?_
   refine WL.x (X.load pl69 (lh) (by first | assumption | exact hci.at (by assumption) (by intro hne; first | exact hne | ((try dsimp only at hne); omega)) | exact hci.at (cbx.at0 (by assumption)) (by intro hne; first | exact hne | ((try dsimp only at hne); omega))) (by first | rfl | assumption)) rfl ?_
   refine WL.x (X.lenSl Tryd.underlying69 (lh)) rfl ?_
   refine WL.x (X.eql (lh) lc) rfl ?_
   refine WL.x (X.mv (lh)) rfl ?_
   refine WL.splitp (lh) (fun hz => ?_) (fun hz => ?_)
   ·
    refine WL.yes rfl rfl (lh) (decide_eq_true hz) ?_
    refine WL.x (X.mv (jt4 rfl (jt2 rfl (lt rfl (s8))))) rfl ?_
    refine WL.yes rfl rfl (lt rfl (lh)) (decide_eq_true hz) ?_
    refine WL.x (X.nilck (lh)) rfl ?_
    refine WL.yes rfl rfl (jt2 rfl (lh)) (decide_eq_true hz) ?_
    refine WL.x (X.fieldAddr fd88_2 (lh)) rfl ?_
    refine WL.yes rfl rfl (jt2 rfl (lt rfl (lh))) (decide_eq_true hz) ?_
    refine WL.x (X.load pl4 (lh) (by first | assumption | exact hci.at (by assumption) (by intro hne; first | exact hne | ((try dsimp only at hne); omega)) | exact hci.at (cbx.at0 (by assumption)) (by intro hne; first | exact hne | ((try dsimp only at hne); omega))) (by first | rfl | assumption)) rfl ?_
    refine WL.yes rfl rfl (jt4 rfl (lh)) (decide_eq_true hz) ?_
    refine WL.x (X.not (lh)) rfl ?_
    refine WL.x (X.pickT (jt4 rfl (lt rfl (lh))) (decide_eq_true hz) (lh)) rfl ?_
    refine WL.e3 Nx.thn 8 9 42 (jt8 rfl (jt4 rfl (lt rfl (s8)))) (jt8 rfl (jt4 rfl (lt rfl (s9)))) (lh) ?_
    intro σ11 s8 s9 s42
    refine W.cndBT s42 (by rw [hf9]; rfl) ?_
    refine W.seq ?_
    refine W.region ?_
    refine WL.x (X.mv (s9)) rfl ?_
    refine WL.x (X.asg (lh)) rfl ?_
    refine WL.x (X.asg lc) rfl ?_
    refine WL.x (X.asg lc) rfl ?_
    refine WL.e3 Nx.thn 2 3 4 (jt2 rfl (lh)) (lt rfl (lh)) (lh) ?_
    intro σ12 s2 s3 s4
    refine W.ret3 (Nx.rthn (Nx.rblk (Nx.rthn (Nx.rblk Nx.f3)))) s2 s3 s4 ?_
    have hsp2 : skipP rr = [] := by rw [hss]; exact List.eq_nil_of_length_eq_zero (by omega)
    exact ⟨⟨_, _, _, rfl, .inl ⟨acc, (parseP_ok hsp).trans (heq.trans (histP_end hsp2)), rfl, rfl, ORow.rsl' monEv hrow (fun j hj => hj.mono (by decide) (Nat.le_refl _)) (hrow.mine (by decide) (by omega)), h3⟩⟩, hcl⟩
   ·
    refine WL.no rfl rfl (lh) (decide_eq_false hz) rfl ?_
    refine WL.no rfl rfl (lt rfl (lh)) (decide_eq_false hz) rfl ?_
    refine WL.no rfl rfl (jt2 rfl (lh)) (decide_eq_false hz) rfl ?_
    refine WL.no rfl rfl (jt2 rfl (lt rfl (lh))) (decide_eq_false hz) rfl ?_
    refine WL.no rfl rfl (jt4 rfl (lh)) (decide_eq_false hz) rfl ?_
    refine WL.x (X.pickF (jt4 rfl (lt rfl (lh))) (decide_eq_false hz) lc) rfl ?_
    refine WL.e3 Nx.thn 8 9 42 (jt8 rfl (jt4 rfl (lt rfl (s8)))) (jt8 rfl (jt4 rfl (lt rfl (s9)))) (lh) ?_
    intro σ13 s8 s9 s42
    refine W.cndF s42 ?_
    refine W.skip Nx.thn ?_
    have qo4 := s8
    have qo5 := s9
    refine W.seqJ (fun σ' w' => (σ' 8 = σ13 8 ∧ σ' 9 = σ13 9 ∧ True) ∧ ∃ x2 f', f = f' + 1 ∧ skipP rr ≠ [] ∧ r1.length ≤ rr.length ∧ RX (p + 1) p (s.size : Int) x2 w' ∧ ORow 3 REv (Mine [3, 48] w.heap.size w') w' wl 44 (.slice la acc.length lcp) acc ∧ Ch0 w w' ∧ wl ≤ w'.heap.size ∧ ((x2 = .ok r1 ∧ acc.length < 300) ∨ (x2 = .error (atP (s.size : Int) r1, 4) ∧ 300 ≤ acc.length))) ?_ ?_
    ·
     refine W.seq ?_
     refine W.region ?_
     have hnn : skipP rr ≠ [] := by rw [hss]; intro h0; rw [h0] at hz; exact hz rfl
     obtain ⟨f', rfl⟩ : ∃ f', f = f' + 1 := ⟨f - 1, by omega⟩
     have hsl9 := skipP_len rr
     rw [hss] at hsl9
     refine WL.x (X.mv (s9)) rfl ?_
     refine WL.x (X.lenSl Tryd.underlying22 (lh)) rfl ?_
     refine WL.x (X.eql (lh) lc) rfl ?_
     refine WL.e3 Nx.thn 8 9 46 (jt2 rfl (lt rfl (s8))) (jt2 rfl (lt rfl (s9))) (lh) ?_
     intro σ14 s8 s9 s46
     refine W.cndp s46 (fun hfull => ?_) (fun hfull => ?_)
     ·
      refine W.region ?_
      refine WL.x (X.mv (s8)) rfl ?_
      refine WL.call2 ce45 (lh) lc (xfail_ok (p + 1) p (s.size : Int) (.ok r1) 4 w4 hps) rfl ?_
      rintro _ w6 ⟨hx2, c11⟩
      have hzc1 := c11.size
      obtain ⟨_, _, ⟨-, -, vz9, hpz9, -⟩, -⟩ := id hps
      have hpM : ∀ j, Mine [3, 48] w.heap.size _ j → ¬ j = p := mine_ne hpz9 (by decide)
      replace hrow := orow_mine monEv hrow c11 hpM (fun j hj e => by have := (ORow.lt hrow j hj); (try dsimp only at e); omega)
      replace hcl := hcl.trans c11 (H := fun _ => False) (fun _ _ e => e) (fun j hj e => by (try dsimp only at e); omega)
      refine WL.e2 Nx.thn 8 9 (jt2 rfl (s8)) (jt2 rfl (s9)) ?_
      intro σ15 s8 s9
      refine ⟨⟨s8.trans qo4.symm, s9.trans qo5.symm, trivial⟩, _, f', rfl, hnn, hsl9, hx2, hrow, hcl, by omega, .inr ⟨rfl, by omega⟩⟩
     ·
      refine W.skip Nx.thn ?_
      refine ⟨⟨s8.trans qo4.symm, s9.trans qo5.symm, trivial⟩, .ok _, f', rfl, hnn, hsl9, hps, hrow, hcl, by omega, .inl ⟨rfl, by omega⟩⟩
    ·
     rintro σ16 w7 ⟨⟨f8, f9, _⟩, x2, f', rfl, hnn, hsl9, hx2, hrow, hcl, hwl, hx2e⟩
     have s8 := f8.trans qo4
     have s9 := f9.trans qo5
     refine W.seq ?_
     refine W.region ?_
     refine WL.x (X.mv (s8)) rfl ?_
     have hg2 : TokX x2 := by
       intro ts hts
       rcases hx2e with ⟨h8, _⟩ | ⟨h8, _⟩
       · rw [h8] at hts; injection hts with hts; subst hts; exact hg1
       · rw [h8] at hts; cases hts
     refine WL.call1 ce46 (lh) (revent_ok (p + 1) p (s.size : Int) x2 w7 hx2 hg2) rfl ?_
     rintro _ w8 ⟨es1, x3, rfl, hes3, hone, hx3, c12, hev⟩
     have hzc2 := c12.size
     have hzcl := hcl.size
     obtain ⟨_, _, ⟨-, -, vz9, hpz9, -⟩, -⟩ := id hx2
     have hpM : ∀ j, Mine [3, 48] w.heap.size _ j → ¬ j = p := mine_ne hpz9 (by decide)
     replace hrow := orow_mine monEv hrow c12 hpM (fun j hj e => by have := (ORow.lt hrow j hj); (try dsimp only at e); omega)
     replace hcl := hcl.trans c12 (H := fun _ => False) (fun _ _ e => e) (fun j hj e => by (try dsimp only at e); omega)
     obtain ⟨o2, hoo⟩ := ev_pick hev
     replace hoo := evO_map hoo (fun h3 => rd_mono monEv h3 (show w.heap.size ≤ _ by omega))
     refine WL.alloc el44 rfl ?_
     intro w9 u12_2; have hu12_2 := u12_2.at_; have cu12_2 := u12_2.ch; have zu12_2 := u12_2.size
     obtain ⟨e1, e2, e3, rfl⟩ := three hes3
     refine WL.storeS (vs := [e1, e2, e3]) ag44 (lh) (lt rfl (lh)) hone rfl hu12_2 (by decide) ?_
     intro w10 us
     have hxb : w10.heap[_]? = some (Obj.cells #[e1, e2, e3] 44 (0, 0)) := us.at_
     have cxb := us.ch
     have hzcl2 := hcl.size
     replace hx3 := (hx3.ch0 cu12_2).own cxb (fun j hj e => by have := hx3.bnd.2; (try dsimp only at e); omega)
     have hrlt := ORow.lt hrow
     replace hrow := orow_mine monEv hrow cu12_2 (fun _ _ e => e) (fun _ _ e => e)
     replace hcl := hcl.trans0 cu12_2
     replace hrow := orow_mine monEv hrow cxb (mine_ne hu12_2 (by decide)) (fun j hj e => by have := (hrlt j hj).2; (try dsimp only at e); omega)
     replace hcl := hcl.trans cxb (H := fun _ => False) (fun _ _ e => e) (fun j hj e => by (try dsimp only at e); omega)
     replace hoo := evO_map (evO_map hoo (fun h3 => rd_mine monEv h3 cu12_2 (fun _ _ e => e))) (fun h3 => rd_mine monEv h3 cxb (mine_ne hu12_2 (by decide)))
     refine WL.e3 Nx.thn 8 9 10 (jt2 rfl (lt rfl (s8))) (jt2 rfl (lt rfl (s9))) (lh) ?_
     intro σ17 s8 s9 s10
     refine W.seq ?_
     refine W.seq ?_
     refine W.region ?_
     obtain ⟨fl9, ts9, ⟨-, -, v9, hp9, hr9⟩, hm9⟩ := id hx3
     refine WL.x (X.mv (s8)) rfl ?_
     refine WL.x (X.nilck (lh)) rfl ?_
     refine WL.x (X.fieldAddr fd88_2 (lh)) rfl ?_
     refine WL.x (X.load pl4 (lh) (by first | assumption | exact cxb.at (by assumption) (by intro hne; first | exact hne | ((try dsimp only at hne); omega)) | exact cxb.at (cu12_2.at0 (by assumption)) (by intro hne; first | exact hne | ((try dsimp only at hne); omega))) (by first | rfl | assumption)) rfl ?_
     refine WL.e4 Nx.thn 8 9 10 54 (jt4 rfl (s8)) (jt4 rfl (s9)) (jt4 rfl (s10)) (lh) ?_
     intro σ18 s8 s9 s10 s54
     refine W.cnd s54 (fun hbad => ?_) (fun hbad => ?_)
     ·
      obtain ⟨y9, rfl⟩ : ∃ y9, x3 = .error y9 := by
        cases x3 with
        | ok r => rw [hm9.1] at hbad; cases hbad
        | error y9 => exact ⟨y9, rfl⟩
      have hpe : parseP key6 s = .error y9 := by
        rcases hoo with ⟨y, h1, h2⟩ | ⟨r, h1, _⟩
        · injection h1 with h1
          subst h1
          rcases hx2e with ⟨rfl, h9⟩ | ⟨rfl, h9⟩
          · exact (parseP_ok hsp).trans (heq.trans (histP_err hnn h9 (by rw [hss]; exact h2)))
          · have h3 : (.error (atP (s.size : Int) r1, 4) : Except Er (PEv × List Tok)) = .error y9 := h2
            injection h3 with h3
            subst h3
            exact (parseP_ok hsp).trans (heq.trans ((histP_full hnn h9).trans (by rw [hss])))
        · cases h1
      refine W.seq ?_
      refine W.draw mo (by kernel_rfl) Nx.thn ?_
      refine WQ.x (fun _ => X.mv (s8)) rfl ?_
      refine WQ.x (fun _ => X.nilck (lh)) rfl ?_
      refine WQ.x (fun _ => X.fieldAddr fd88_3 (lh)) rfl ?_
      refine WQ.x (fun _ => X.load pl3 (lh) (by first | assumption | exact cxb.at (by assumption) (by intro hne; first | exact hne | ((try dsimp only at hne); omega)) | exact cxb.at (cu12_2.at0 (by assumption)) (by intro hne; first | exact hne | ((try dsimp only at hne); omega))) (by first | rfl | assumption)) rfl ?_
      refine WQ.x (fun _ => X.mv (jt4 rfl (s8))) rfl ?_
      refine WQ.x (fun _ => X.nilck (lh)) rfl ?_
      refine WQ.x (fun _ => X.fieldAddr fd88_4 (lh)) rfl ?_
      refine WQ.x (fun _ => X.load pl31 (lh) (by first | assumption | exact cxb.at (by assumption) (by intro hne; first | exact hne | ((try dsimp only at hne); omega)) | exact cxb.at (cu12_2.at0 (by assumption)) (by intro hne; first | exact hne | ((try dsimp only at hne); omega))) (by first | rfl | assumption)) rfl ?_
      refine WQ.x (fun _ => X.asg lc) rfl ?_
      refine WQ.x (fun _ => X.asg (jt4 rfl (lt rfl (lh)))) rfl ?_
      refine WQ.x (fun _ => X.asg (jt2 rfl (lh))) rfl ?_
      refine WQ.e3 2 3 4 (jt2 rfl (lh)) (lt rfl (lh)) (lh) ?_
      intro σ19 s2 s3 s4
      intro _; refine gdrew ?_; intro w11 hh14 cd14 dr14
      refine W.ret3 (Nx.rthn (Nx.rblk (Nx.rthn (Nx.rblk Nx.f3)))) s2 s3 s4 ?_
      exact ⟨⟨_, _, _, rfl, .inr ⟨y9, hpe, rfl, by rw [hm9], by rw [hm9]⟩⟩, hcl.trans0 cd14⟩
     ·
      obtain ⟨r2, rfl⟩ : ∃ r2, x3 = .ok r2 := by
        cases x3 with
        | ok r => exact ⟨r, rfl⟩
        | error y9 => rw [hm9] at hbad; cases hbad
      obtain ⟨h2e, hrx⟩ : bX x2 (ev0 (s.size : Int)) = .ok (o2, r2) ∧ REv (Mine [3, 48] w.heap.size w10) w10 [e1, e2, e3] o2 := by
        rcases hoo with ⟨y, h1, _⟩ | ⟨r, h1, h2, h3⟩
        · cases h1
        · injection h1 with h1; subst h1; exact ⟨h2, h3⟩
      have hx2k : x2 = .ok r1 ∧ acc.length < 300 := by
        rcases hx2e with h | ⟨h8, _⟩
        · exact h
        · rw [h8] at h2e; cases h2e
      have hev1 : eventP key6 (s.size : Int) r1 = .ok (o2, r2) := by rw [hx2k.1] at h2e; exact h2e
      have hG := eventP_good hev1 hg1 r64_0
      have h300 := hx2k.2
      refine W.skip Nx.thn ?_
      refine W.region ?_
      refine WL.x (X.mv (s9)) rfl ?_
      refine WL.x (X.loadBox (vs := [e1, e2, e3]) ag44 (lt rfl (s10)) hxb rfl) rfl ?_
      refine WL.bsliceR (vs := [_]) Tryd.underlying22 el44 (by decide) (pcons (lh) pnil) rfl (fun u hu => by rw [List.mem_singleton.1 hu]; rfl) (show 1 * 3 ≤ 16777216 by decide) rfl ?_
      intro w13 u15_2; have hu15_2 := u15_2.at_; have cu15_2 := u15_2.ch; have zu15_2 := u15_2.size
      replace hx3 := hx3.ch0 cu15_2
      replace hrow := orow_mine monEv hrow cu15_2 (fun _ _ e => e) (fun _ _ e => e)
      replace hcl := hcl.trans0 cu15_2
      replace hrx := rd_mine monEv hrx cu15_2 (fun _ _ e => e)
      have hz15 := cu15_2.size
      have hzxb := cxb.size
      have hz12 := cu12_2.size
      have hb9 := hx3.bnd
      obtain ⟨ess, he1, he2, hown, he4⟩ := hrow
      refine WL.append Tryd.underlying22 el44 rfl (by decide) (jt2 rfl (lh)) (lh) (hown) (by first | assumption | exact cu15_2.at0 (by assumption) | exact cu15_2.at0 (cxb.at (by assumption) (by intro hne; first | exact hne | ((try dsimp only at hne); omega)))) rfl (by exact ones_of hone) (by unfold maxLen; omega) (by omega) (by omega) rfl ?_
      intro va15_3 w14 ho15_3 ca15_3
      have hmf : ∀ j, Mine [3, 48] w.heap.size _ j → ¬ slBlk (.slice la acc.length lcp) j := own_not hown (by decide)
      replace hx3 := hx3.own ca15_3 (fun j hj e => by have := (own_lt hown e).1; omega)
      replace hrx := rd_mine monEv hrx ca15_3 hmf
      have hzcl3 := hcl.size
      replace hcl := hcl.trans ca15_3 (H := fun _ => False) (fun _ _ e => e) (fun j hj e => by have := (own_lt hown e).1; omega)
      have hrow := ORow.push monEv he1 he2 he4 rfl hrx ca15_3 hmf (fun j hj => hj.ch ca15_3 (hmf j hj)) ho15_3
      obtain ⟨la2, lc2, rfl⟩ : ∃ la2 lc2, va15_3 = .slice la2 (acc.length + 1) lc2 := own_form ho15_3
      refine WL.x (X.asg (lh)) rfl ?_
      refine WL.e2 (Nx.blk Nx.thn) 8 9 (jt4 rfl (lt rfl (s8))) (lh) ?_
      intro σ20 s8 s9
      refine ⟨r2, by have := hG.less; omega, ⟨s8.trans qo1.symm, trivial⟩, acc ++ [o2], f', .slice la2 (acc.length + 1) lc2, s9, hx3, hrow, heq.trans (histP_go hnn (by omega) (by rw [hss]; exact hev1)), (by have := hG.less; omega), (by rw [List.length_append]; show acc.length + 1 ≤ 300; omega), hg1.suf hG.suf, hcl, (by have := ca15_3.size; omega)⟩

theorem is_tt (er : Value) (a y : Int) (w : World) (h : (er = .nilIface ∧ a = 0 ∧ y = 0) ∨ er = flt a y) : Sg.Ret Tryd.prog 15 #[er, .int .i64 a, .int .i64 y] w fun v w' => v = .bool true ∧ Ch0 w w' := by
  rcases h with ⟨rfl, rfl, rfl⟩ | rfl
  · exact Ret.mono (is_nil 0 0 w) fun v w' hh => ⟨hh.1.trans (congrArg Value.bool (decide_eq_true ⟨rfl, rfl⟩)), hh.2⟩
  · exact Ret.mono (is_fault a y a y w) fun v w' hh => ⟨hh.1.trans (congrArg Value.bool (decide_eq_true ⟨rfl, rfl⟩)), hh.2⟩
/-- What both readings come to. -/
theorem par_both {s : ByteArray} {A A2 : Nat → Prop} {w w2 : World} {lv lm er : Value} {at_ why : Int} (hp : ParR keyB s A w lv er) (hx : ParX key6 s A2 w2 lm at_ why) :
    ∃ L, RSl 3 REv A w lv L ∧ RSl 3 REv A2 w2 lm L ∧ L.length ≤ 300 ∧ ((er = .nilIface ∧ at_ = 0 ∧ why = 0) ∨ er = flt at_ why) ∧ ((∃ l, parseP keyB s = .ok l ∧ l = L ∧ er = .nilIface ∧ why = 0) ∨ (∃ x, parseP keyB s = .error x ∧ L = [] ∧ er = flt x.1 x.2 ∧ why = x.2)) := by
  have hk := parse_key s
  rcases hp with ⟨l, h1, h2, h3, h4⟩ | ⟨x, h1, rfl, h3⟩
  · rcases hx with ⟨l', k1, k2, k2', k3, k4⟩ | ⟨x', k1, _⟩
    · rw [h1, k1] at hk
      injection hk with hk
      subst hk
      exact ⟨l, h3, k3, h4, .inl ⟨h2, k2, k2'⟩, .inl ⟨l, h1, rfl, h2, k2'⟩⟩
    · rw [h1, k1] at hk; cases hk
  · rcases hx with ⟨l', k1, _⟩ | ⟨x', k1, rfl, k2, k3⟩
    · rw [h1, k1] at hk; cases hk
    · rw [h1, k1] at hk
      injection hk with hk
      subst hk
      exact ⟨[], .inl ⟨rfl, _, _, rfl⟩, .inl ⟨rfl, _, _, rfl⟩, by simp, .inr (by rw [h3, k2, k3]), .inr ⟨x, h1, rfl, h3, k3⟩⟩

theorem reads_ok (s : ByteArray) (w : World) (hER : ER w) :
  Sg.Ret Tryd.prog 4 #[.string s] w fun v w' => v = .bool true ∧ Ch0 w w' := by
 refine enter1 (n := 28) (l := [.string s]) Tryd.func4 rfl rfl rfl rfl ?_
 refine W.g1 0 (v1 := .string s) rfl ?_; intro σ s0
 refine W.seq ?_
 refine W.region ?_
 refine WL.x (X.asg lc) rfl ?_
 refine WL.e1 Nx.thn 0 (lt rfl (s0)) ?_
 intro σ1 s0
 refine W.seq ?_
 refine W.region ?_
 refine WL.x (X.mv (s0)) rfl ?_
 refine WL.call1 ce13 (lh) (parse_ok s w hER) rfl ?_
 rintro _ w1 ⟨⟨lv1, er1, rfl, hp1⟩, c1⟩
 refine WL.x (X.mv (lh)) rfl ?_
 refine WL.x (X.ex2_0 (lh)) rfl ?_
 refine WL.x (X.ex2_1 (lt rfl (lh))) rfl ?_
 refine WL.x (X.asg (lt rfl (lh))) rfl ?_
 refine WL.x (X.asg (lt rfl (lh))) rfl ?_
 refine WL.e3 Nx.thn 0 3 4 (jt4 rfl (jt2 rfl (lt rfl (s0)))) (lt rfl (lh)) (lh) ?_
 intro σ2 s0 s3 s4
 refine W.seq ?_
 refine W.region ?_
 refine WL.x (X.mv (s0)) rfl ?_
 refine WL.call1 ce14 (lh) (rparse_ok s w1) rfl ?_
 rintro _ w2 ⟨⟨lm1, at1, why1, rfl, hx1⟩, cx1⟩
 obtain ⟨L1, hl1, hm1, hL1, hI1, hR1⟩ := par_both hp1 hx1
 refine WL.x (X.mv (lh)) rfl ?_
 refine WL.x (X.ex3_0 (lh)) rfl ?_
 refine WL.x (X.ex3_1 (lt rfl (lh))) rfl ?_
 refine WL.x (X.ex3_2 (jt2 rfl (lh))) rfl ?_
 refine WL.x (X.asg (jt2 rfl (lh))) rfl ?_
 refine WL.x (X.asg (jt2 rfl (lh))) rfl ?_
 refine WL.x (X.asg (jt2 rfl (lh))) rfl ?_
 refine WL.e5 Nx.thn 3 4 5 6 7 (jt8 rfl (lt rfl (s3))) (jt8 rfl (lt rfl (s4))) (jt2 rfl (lh)) (lt rfl (lh)) (lh) ?_
 intro σ3 s3 s4 s5 s6 s7
 refine W.seq ?_
 refine W.region ?_
 refine WL.x (X.mv (s4)) rfl ?_
 refine WL.x (X.mv (lt rfl (s6))) rfl ?_
 refine WL.x (X.mv (jt2 rfl (s7))) rfl ?_
 refine WL.call3 ce15 (jt2 rfl (lh)) (lt rfl (lh)) (lh) (is_tt er1 at1 why1 w2 hI1) rfl ?_
 rintro _ w3 ⟨rfl, c3⟩
 refine WL.x (X.mv (lh)) rfl ?_
 refine WL.yes rfl rfl (lh) (rfl) ?_
 refine WL.x (X.mv (jt4 rfl (lt rfl (s3)))) rfl ?_
 refine WL.yes rfl rfl (lt rfl (lh)) (rfl) ?_
 refine WL.x (X.mv (jt4 rfl (jt2 rfl (s5)))) rfl ?_
 refine WL.yes rfl rfl (jt2 rfl (lh)) (rfl) ?_
 refine WL.call2 ce12 (lt rfl (lh)) (lh) (same_ok _ _ lv1 lm1 L1 L1 w3 ((hl1.ch0 monEv cx1).ch0 monEv c3) (hm1.ch0 monEv c3) (by omega)) rfl ?_
 rintro _ w4 ⟨rfl, c4⟩
 refine WL.x (X.pickT (jt2 rfl (lt rfl (lh))) (rfl) (lh)) rfl ?_
 refine WL.x (X.asg (lh)) rfl ?_
 refine WL.e1 Nx.thn 2 (lh) ?_
 intro σ4 s2
 refine W.ret1 Nx.f1 s2 ?_
 exact ⟨congrArg Value.bool (decide_eq_true rfl), ((c1.trans0 cx1).trans0 c3).trans0 c4⟩
end Go.Proofs.YtjnkpjehpdlcbaaDoor
