/-
  A part of the walk of the program.
-/
import Derived.Test.YtjnkpjehpdlcbaaDoorQE
import Derived.Test.YtjnkpjehpdlcbaaDoorHistL
import Derived.Test.YtjnkpjehpdlcbaaDoorSh4
import Derived.ShapedOpen
set_option linter.unusedVariables false
set_option linter.unusedSimpArgs false
set_option maxRecDepth 100000
namespace Go.Proofs.YtjnkpjehpdlcbaaDoor
open Go Go.RowKit Sg
theorem ce17 : Sg.Callee Tryd.prog 17 := ⟨_, Tryd.func17, by decide, rfl⟩

/-- A variable of the library's own holds some number. -/
def ML (w : World) : Prop := ∃ m, w.cell? ⟨0, 0, none⟩ = some (.int .i64 m)
theorem ML.ch0 {w w' : World} (h : ML w) (c : Ch0 w w') : ML w' := by
  obtain ⟨m, h⟩ := h
  refine ⟨m, ?_⟩
  have h0 : 0 < w.heap.size := by
    refine Nat.pos_of_ne_zero fun e => ?_
    have : w.heap[0]? = none := Array.getElem?_eq_none (by omega)
    simp [World.cell?, this] at h
  have hb := c.blk 0 h0 id
  simp only [World.cell?] at h ⊢
  rw [hb]; exact h
theorem ml_of {w : World} (h : w.ShapedOpen Tryd.prog) : ML w := Go.Proofs.cell_of_shapedOpen_int (zero := #[.int .i64 0]) (t := 3) h (of_decide_eq_true (by kernel_rfl)) (by kernel_rfl) rfl (by kernel_rfl) (by kernel_rfl) Tryd.underlying3
theorem pads {q : Nat} (h : q < 3) : ∃ pd : ByteArray, (#[.string ⟨#[10]⟩, .string ⟨#[32, 10]⟩, .string ⟨#[10, 32, 10, 10]⟩] : Array Value)[q]? = some (.string pd) ∧ PadL (sb pd) ∧ sb pd ≠ [] ∧ pd.size ≤ 4 := by
  match q, h with
  | 0, _ => exact ⟨_, rfl, pad_nl, by decide, by decide⟩
  | 1, _ => exact ⟨_, rfl, pad_bl, by decide, by decide⟩
  | 2, _ => exact ⟨_, rfl, pad_2, by decide, by decide⟩
theorem rep_le (pad : Bs) : ∀ (l : Bs), (rep pad l).length ≤ l.length * (pad.length + 1)
  | [] => by simp [rep]
  | c :: l => by
    have := rep_le pad l
    unfold rep
    rw [List.length_cons, Nat.succ_mul]
    split
    · rw [List.length_cons, List.length_append]; omega
    · rw [List.length_cons]; omega
theorem sb_app_ (a b : ByteArray) : sb (a ++ b) = sb a ++ sb b := by
  show (a ++ b).data.toList = a.data.toList ++ b.data.toList
  simp
theorem rall_gen (s od nw : ByteArray) (pad : Bs) (w : World) (hM : ML w) (hs : s.size ≤ 1048576) (ho : sb od = [10]) (hn : sb nw = 10 :: pad) (hp : pad ≠ []) (h4 : pad.length ≤ 4) : Sg.Ret Tryd.prog 17 #[.string s, .string od, .string nw] w fun v w' => v = .string (bs (rep pad (sb s))) ∧ Ch0 w w' := by
  obtain ⟨m, hm⟩ := hM
  have hos : od.size = 1 := by rw [← sb_len, ho]; rfl
  have hns : nw.size ≤ 5 := by rw [← sb_len, hn, List.length_cons]; omega
  have hc : Lib.countB s od ≤ s.size := by
    have h1 : Lib.countB s od = Lib.count (sb s) (sb od) := rfl
    rw [h1, ho, Lib.count_one, ← sb_len]; exact List.count_le_length
  have hmul : Lib.countB s od * nw.size ≤ 1048576 * 5 := Nat.mul_le_mul (by omega) hns
  have hcall := Tryd.strings_ReplaceAll s od nw m w (by omega) hm (by omega) (by omega)
  have h2 := replaceAll_rep hp (sb s)
  have h3 : Lib.replaceAll (sb s) (sb od) (sb nw) = rep pad (sb s) := by rw [ho, hn]; exact h2
  refine Calls.mono hcall ?_
  rintro e w' ⟨he, hb⟩
  refine ⟨_, he, ?_, Ch.of_below hb⟩
  have h5 : ∀ L : Bs, L = rep pad (sb s) → (Value.string ⟨L.toArray⟩) = .string (bs (rep pad (sb s))) := fun L hL => by rw [hL]; rfl
  exact h5 _ h3
theorem rall_ok (s pd : ByteArray) (w : World) (hM : ML w) (hs : s.size ≤ 1048576) (hp : sb pd ≠ []) (h4 : pd.size ≤ 4) : Sg.Ret Tryd.prog 17 #[.string s, .string ⟨#[10]⟩, .string (⟨#[10]⟩ ++ pd)] w fun v w' => v = .string (bs (rep (sb pd) (sb s))) ∧ Ch0 w w' :=
  rall_gen s _ _ (sb pd) w hM hs rfl (by rw [sb_app_]; rfl) hp (by rw [sb_len]; exact h4)
theorem parse_rel {s u : ByteArray} {pad : Bs} (hp : PadL pad) (hu : sb u = pad ++ rep pad (sb s)) (hl : u.size ≤ 20000) : RelH (parseP keyB u) (parseP keyB s) := by
  have h := scan_pad (s := sb s) hp (by rw [← hu, sb_len]; exact hl)
  rw [← hu] at h
  cases hx : scanA (sb u) with
  | error p =>
    cases hy : scanA (sb s) with
    | error q =>
      rw [hx, hy] at h
      rw [parseP_scan hx, parseP_scan hy]
      have h : p.2 = q.2 := h
      show (p.2 : Int) = (q.2 : Int)
      rw [h]
    | ok ts => rw [hx, hy] at h; exact h.elim
  | ok us =>
    cases hy : scanA (sb s) with
    | error q => rw [hx, hy] at h; exact h.elim
    | ok ts =>
      rw [hx, hy] at h
      rw [parseP_ok hx, parseP_ok hy]
      exact rel_hist (Nat.le_refl _) (Nat.lt_succ_self _) (Nat.lt_succ_self _) h
theorem parse_big {u : ByteArray} {A : Nat → Prop} {w : World} {lv er : Value} (hl : 20000 < u.size) (hp : ParR keyB u A w lv er) : er = flt 0 4 := by
  have h1 : scanA (sb u) = .error (0, 4) := by unfold scanA; rw [if_pos (by rw [sb_len]; exact hl)]
  have h2 : parseP keyB u = .error (0, 4) := parseP_scan h1
  rcases hp with ⟨l, h3, _⟩ | ⟨x, h3, _, h4⟩
  · rw [h2] at h3; cases h3
  · rw [h2] at h3; injection h3 with h3; subst h3; exact h4
theorem lines_both {s u : ByteArray} {A : Nat → Prop} {w : World} {lv er er1 : Value} {L : List PEv} {why : Int} (hp : ParR keyB u A w lv er) (hr : RelH (parseP keyB u) (parseP keyB s))
    (hR : (∃ l, parseP keyB s = .ok l ∧ l = L ∧ er1 = .nilIface ∧ why = 0) ∨ (∃ x, parseP keyB s = .error x ∧ L = [] ∧ er1 = flt x.1 x.2 ∧ why = x.2)) : RSl 3 REv A w lv L ∧ ((er = .nilIface ∧ why = 0) ∨ ∃ a, er = flt a why) := by
  rcases hp with ⟨l, h1, h2, h3, _⟩ | ⟨x, h1, h2, h3⟩
  · rcases hR with ⟨l', k1, rfl, _, k4⟩ | ⟨x', k1, _⟩
    · rw [h1, k1] at hr
      have hr : l = l' := hr
      subst hr
      exact ⟨h3, .inl ⟨h2, k4⟩⟩
    · rw [h1, k1] at hr; exact hr.elim
  · rcases hR with ⟨l', k1, _⟩ | ⟨x', k1, rfl, _, k4⟩
    · rw [h1, k1] at hr; exact hr.elim
    · rw [h1, k1] at hr
      have hr : x.2 = x'.2 := hr
      exact ⟨.inl ⟨rfl, none, 0, h2⟩, .inr ⟨x.1, by rw [k4, ← hr]; exact h3⟩⟩
theorem why_any (er : Value) (y : Int) (w : World) (h : (er = .nilIface ∧ y = 0) ∨ ∃ a, er = flt a y) : Sg.Ret Tryd.prog 18 #[er] w fun v w' => (∃ pl : Int, v = .tuple #[.int .i64 y, .int .i64 pl]) ∧ Ch0 w w' := by
  rcases h with ⟨rfl, rfl⟩ | ⟨a, rfl⟩
  · exact Ret.mono (why_nil w) fun v w' hh => ⟨⟨0, hh.1⟩, hh.2⟩
  · exact Ret.mono (why_fault a y w) fun v w' hh => ⟨⟨a, hh.1⟩, hh.2⟩

set_option maxHeartbeats 1600000 in
theorem lines_ok (s : ByteArray) (k : Int) (w : World) (hER : ER w) (hML : ML w) (hs : s.size ≤ 1048576) :
  Sg.Ret Tryd.prog 6 #[.string s, .int .i64 k] w fun v w' => v = .bool true ∧ Ch0 w w' := by
 refine enter1 (n := 74) (l := [.string s, .int .i64 k]) Tryd.func6 rfl rfl rfl rfl ?_
 refine W.g2 0 1 (v1 := .string s) (v2 := .int .i64 k) rfl rfl ?_; intro σ s0 s1
 refine W.seq ?_
 refine W.region ?_
 refine WL.x (X.asg lc) rfl ?_
 refine WL.e2 Nx.thn 0 1 (lt rfl (s0)) (lt rfl (s1)) ?_
 intro σ1 s0 s1
 refine W.seq ?_
 refine W.region ?_
 refine WL.bslice Tryd.underlying36 el9 rfl (pcons lc (pcons lc (pcons lc pnil))) rfl (rfl : _ = [_, _, _]) rfl ?_
 intro w1 u1_0; have hu1_0 := u1_0.at_; have cu1_0 := u1_0.ch; have zu1_0 := u1_0.size
 refine WL.x (X.mv (lt rfl (s1))) rfl ?_
 first | refine WL.x (X.convi Tryd.underlying3 Tryd.underlying37 (lh) (wrap_u64_in (by omega) (by omega))) rfl ?_ | refine WL.x (X.convu Tryd.underlying3 Tryd.underlying37 (lh)) rfl ?_ | refine WL.x (X.conv Tryd.underlying3 Tryd.underlying37 (lh)) rfl ?_
 first | refine WL.x (X.rem (lh) lc (by omega) (by omega)) rfl ?_ | refine WL.x (X.remw (lh) lc (by omega)) rfl ?_
 first | refine WL.x (X.convi Tryd.underlying37 Tryd.underlying3 (lh) (wrap_i64 (by omega) (by omega))) rfl ?_ | refine WL.x (X.conv Tryd.underlying37 Tryd.underlying3 (lh)) rfl ?_
 refine WL.x (X.indexAddr Tryd.underlying36 el9 (jt4 rfl (lh)) (lh) (by omega) (by omega)) rfl ?_
 obtain ⟨q, hq⟩ : ∃ q : Nat, k % 18446744073709551616 % 3 = (q : Int) := ⟨(k % 18446744073709551616 % 3).toNat, by omega⟩
 obtain ⟨pd, hpd, hq1, hq2, hq3⟩ := pads (q := q) (by omega)
 refine WL.x (X.load pl9 (lh) hu1_0 (v := .string pd) (by rw [hq, show 0 + (q : Int).toNat * 1 = q by omega]; exact hpd)) rfl ?_
 refine WL.x (X.asg (lh)) rfl ?_
 refine WL.e2 Nx.thn 0 5 (jt8 rfl (s0)) (lh) ?_
 intro σ2 s0 s5
 refine W.seq ?_
 refine W.region ?_
 refine WL.x (X.mv (s0)) rfl ?_
 refine WL.call1 ce13 (lh) (parse_ok s w1 (hER.ch0 cu1_0)) rfl ?_
 rintro _ w2 ⟨⟨lv1, er1, rfl, hp1⟩, c1⟩
 refine WL.x (X.mv (lh)) rfl ?_
 refine WL.x (X.ex2_0 (lh)) rfl ?_
 refine WL.x (X.ex2_1 (lt rfl (lh))) rfl ?_
 refine WL.x (X.asg (lt rfl (lh))) rfl ?_
 refine WL.x (X.asg (lt rfl (lh))) rfl ?_
 refine WL.e4 Nx.thn 0 5 6 7 (jt4 rfl (jt2 rfl (lt rfl (s0)))) (jt4 rfl (jt2 rfl (lt rfl (s5)))) (lt rfl (lh)) (lh) ?_
 intro σ3 s0 s5 s6 s7
 refine W.seq ?_
 refine W.region ?_
 refine WL.x (X.mv (s0)) rfl ?_
 refine WL.call1 ce14 (lh) (rparse_ok s w2) rfl ?_
 rintro _ w3 ⟨⟨lm1, at1, why1, rfl, hx1⟩, cx1⟩
 obtain ⟨L1, hl1, hm1, hL1, hI1, hR1⟩ := par_both hp1 hx1
 have k2 := (cu1_0.trans0 c1).trans0 cx1
 refine WL.x (X.mv (lh)) rfl ?_
 refine WL.x (X.ex3_0 (lh)) rfl ?_
 refine WL.x (X.ex3_1 (lt rfl (lh))) rfl ?_
 refine WL.x (X.ex3_2 (jt2 rfl (lh))) rfl ?_
 refine WL.x (X.asg (jt2 rfl (lh))) rfl ?_
 refine WL.x (X.asg (jt2 rfl (lh))) rfl ?_
 refine WL.x (X.asg (jt2 rfl (lh))) rfl ?_
 refine WL.e7 Nx.thn 0 5 6 7 8 9 10 (jt8 rfl (lt rfl (s0))) (jt8 rfl (lt rfl (s5))) (jt8 rfl (lt rfl (s6))) (jt8 rfl (lt rfl (s7))) (jt2 rfl (lh)) (lt rfl (lh)) (lh) ?_
 intro σ4 s0 s5 s6 s7 s8 s9 s10
 refine W.seq ?_
 refine W.seq ?_
 refine W.region ?_
 refine WL.x (X.mv (s7)) rfl ?_
 refine WL.x (X.mv (lt rfl (s9))) rfl ?_
 refine WL.x (X.mv (jt2 rfl (s10))) rfl ?_
 refine WL.call3 ce15 (jt2 rfl (lh)) (lt rfl (lh)) (lh) (is_tt er1 at1 why1 w3 hI1) rfl ?_
 rintro _ w4 ⟨rfl, c3⟩
 have k3 := k2.trans0 c3
 have hl3 := (hl1.ch0 monEv cx1).ch0 monEv c3
 refine WL.x (X.not (lh)) rfl ?_
 refine WL.x (X.mv (lh)) rfl ?_
 refine WL.yes rfl rfl (lh) (rfl) ?_
 refine WL.x (X.mv (jt4 rfl (jt2 rfl (s6)))) rfl ?_
 refine WL.yes rfl rfl (lt rfl (lh)) (rfl) ?_
 refine WL.x (X.mv (jt4 rfl (jt2 rfl (lt rfl (s8))))) rfl ?_
 refine WL.yes rfl rfl (jt2 rfl (lh)) (rfl) ?_
 refine WL.call2 ce12 (lt rfl (lh)) (lh) (same_ok _ _ lv1 lm1 L1 L1 w4 hl3 (hm1.ch0 monEv c3) (by omega)) rfl ?_
 rintro _ w5 ⟨rfl, c4⟩
 have k4 := k3.trans0 c4
 have hl4 := hl3.ch0 monEv c4
 refine WL.yes rfl rfl (jt2 rfl (lt rfl (lh))) (rfl) ?_
 refine WL.x (X.notp (lh)) rfl ?_
 refine WL.x (X.pickF (jt4 rfl (lh)) (rfl) (lh)) rfl ?_
 refine WL.e5 Nx.thn 0 5 6 10 44 (jt8 rfl (jt2 rfl (lt rfl (s0)))) (jt8 rfl (jt2 rfl (lt rfl (s5)))) (jt8 rfl (jt2 rfl (lt rfl (s6)))) (jt8 rfl (jt2 rfl (lt rfl (s10)))) (lh) ?_
 intro σ5 s0 s5 s6 s10 s44
 refine W.cndN s44 (fun h => h rfl) ?_
 refine W.skip Nx.thn ?_
 refine W.seq ?_
 refine W.region ?_
 refine WL.x (X.mv (s5)) rfl ?_
 refine WL.x (X.mv (lt rfl (s0))) rfl ?_
 refine WL.x (X.mv (jt2 rfl (s5))) rfl ?_
 refine WL.x (v := .string (⟨#[10]⟩ ++ pd)) (X.addS lc (lh) (by have h9 : (⟨#[10]⟩ : ByteArray).size = 1 := rfl; omega)) rfl ?_
 refine WL.call3 ce17 (jt2 rfl (lh)) lc (lh) (rall_ok s pd w5 (hML.ch0 k4) hs hq2 hq3) rfl ?_
 rintro _ w6 ⟨rfl, c5⟩
 have k5 := k4.trans0 c5
 have hl5 := hl4.ch0 monEv c5
 have hz1 := sb_len pd
 have hz2 := rep_le (sb pd) (sb s)
 have hz3 := sb_len s
 have hz4 : (sb s).length * ((sb pd).length + 1) ≤ 1048576 * 5 := Nat.mul_le_mul (by omega) (by omega)
 have hz5 : (bs (rep (sb pd) (sb s))).size = (rep (sb pd) (sb s)).length := by rw [← sb_len, sb_bs]
 refine WL.x (v := .string (pd ++ bs (rep (sb pd) (sb s)))) (X.addS (jt4 rfl (lh)) (lh) (by omega)) rfl ?_
 refine WL.x (X.asg (lh)) rfl ?_
 refine WL.e3 Nx.thn 6 10 11 (jt4 rfl (jt2 rfl (lt rfl (s6)))) (jt4 rfl (jt2 rfl (lt rfl (s10)))) (lh) ?_
 intro σ6 s6 s10 s11
 refine W.seq ?_
 refine W.region ?_
 refine WL.x (X.mv (s11)) rfl ?_
 refine WL.call1 ce13 (lh) (parse_ok (pd ++ bs (rep (sb pd) (sb s))) w6 (hER.ch0 k5)) rfl ?_
 rintro _ w7 ⟨⟨lv2, er2, rfl, hp2r⟩, c6⟩
 have k6 := k5.trans0 c6
 have hl6 := hl5.ch0 monEv c6
 refine WL.x (X.mv (lh)) rfl ?_
 refine WL.x (X.ex2_0 (lh)) rfl ?_
 refine WL.x (X.ex2_1 (lt rfl (lh))) rfl ?_
 refine WL.x (X.asg (lt rfl (lh))) rfl ?_
 refine WL.x (X.asg (lt rfl (lh))) rfl ?_
 refine WL.e5 Nx.thn 6 10 11 12 13 (jt4 rfl (jt2 rfl (lt rfl (s6)))) (jt4 rfl (jt2 rfl (lt rfl (s10)))) (jt4 rfl (jt2 rfl (lt rfl (s11)))) (lt rfl (lh)) (lh) ?_
 intro σ7 s6 s10 s11 s12 s13
 refine W.seq ?_
 refine W.seq ?_
 refine W.region ?_
 refine WL.x (X.mv (s11)) rfl ?_
 refine WL.x (X.lenSt Tryd.underlying9 (lh)) rfl ?_
 refine WL.x (X.gtr (lh) lc) rfl ?_
 refine WL.e5 Nx.thn 6 10 12 13 58 (jt2 rfl (lt rfl (s6))) (jt2 rfl (lt rfl (s10))) (jt2 rfl (lt rfl (s12))) (jt2 rfl (lt rfl (s13))) (lh) ?_
 intro σ8 s6 s10 s12 s13 s58
 refine W.cndp s58 (fun hbig => ?_) (fun hbig => ?_)
 ·
  refine W.seq ?_
  refine W.region ?_
  refine WL.x (X.mv (s13)) rfl ?_
  refine WL.call3 ce15 (lh) lc lc (is_tt er2 0 4 w7 (.inr (parse_big (by omega) hp2r))) rfl ?_
  rintro _ w8 ⟨rfl, c7⟩
  refine WL.x (X.asg (lh)) rfl ?_
  refine WL.e1 Nx.thn 4 (lh) ?_
  intro σ9 s4
  refine W.ret1 (Nx.rthn Nx.f1) s4 ?_
  first | exact ⟨rfl, k6.trans0 c7⟩ | exact ⟨congrArg Value.bool (decide_eq_true rfl), k8.trans0 c9⟩
 ·
  obtain ⟨hl2, hW⟩ := lines_both (s := s) hp2r (parse_rel hq1 (by rw [sb_app_, sb_bs]) (by omega)) hR1
  refine W.skip Nx.thn ?_
  refine W.seq ?_
  refine W.region ?_
  refine WL.x (X.mv (s13)) rfl ?_
  refine WL.call1 ce18 (lh) (why_any er2 why1 w7 hW) rfl ?_
  rintro _ w9 ⟨⟨pl, rfl⟩, c8⟩
  have k8 := k6.trans0 c8
  refine WL.x (X.mv (lh)) rfl ?_
  refine WL.x (X.ex2_0 (lh)) rfl ?_
  refine WL.x (X.ex2_1 (lt rfl (lh))) rfl ?_
  refine WL.x (X.asg (lt rfl (lh))) rfl ?_
  refine WL.x (X.asg (lt rfl (lh))) rfl ?_
  refine WL.e4 Nx.thn 6 10 12 14 (jt4 rfl (jt2 rfl (lt rfl (s6)))) (jt4 rfl (jt2 rfl (lt rfl (s10)))) (jt4 rfl (jt2 rfl (lt rfl (s12)))) (lt rfl (lh)) ?_
  intro σ10 s6 s10 s12 s14
  refine W.seq ?_
  refine W.region ?_
  refine WL.x (X.mv (s14)) rfl ?_
  refine WL.x (X.mv (lt rfl (s10))) rfl ?_
  refine WL.x (X.eql (lt rfl (lh)) (lh)) rfl ?_
  refine WL.x (X.mv (lh)) rfl ?_
  refine WL.yes rfl rfl (lh) (decide_eq_true (rfl)) ?_
  refine WL.x (X.mv (jt4 rfl (s6))) rfl ?_
  refine WL.yes rfl rfl (lt rfl (lh)) (decide_eq_true (rfl)) ?_
  refine WL.x (X.mv (jt4 rfl (lt rfl (s12)))) rfl ?_
  refine WL.yes rfl rfl (jt2 rfl (lh)) (decide_eq_true (rfl)) ?_
  refine WL.call2 ce12 (lt rfl (lh)) (lh) (same_ok _ _ lv1 lv2 L1 L1 w9 (hl6.ch0 monEv c8) (hl2.ch0 monEv c8) (by omega)) rfl ?_
  rintro _ w10 ⟨rfl, c9⟩
  refine WL.x (X.pickT (jt2 rfl (lt rfl (lh))) (decide_eq_true (rfl)) (lh)) rfl ?_
  refine WL.x (X.asg (lh)) rfl ?_
  refine WL.e1 Nx.thn 4 (lh) ?_
  intro σ11 s4
  refine W.ret1 Nx.f1 s4 ?_
  first | exact ⟨rfl, k6.trans0 c7⟩ | exact ⟨congrArg Value.bool (decide_eq_true rfl), k8.trans0 c9⟩
end Go.Proofs.YtjnkpjehpdlcbaaDoor
