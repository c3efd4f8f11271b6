/-
  A part of the walk of the program.
-/
import Derived.Test.YtjnkpjehpdlcbaaGreatDoorQE
import Derived.Test.YtjnkpjehpdlcbaaGreatDoorV
import Derived.Test.YtjnkpjehpdlcbaaGreatDoorHistB
import Derived.Test.YtjnkpjehpdlcbaaGreatDoorZ
set_option linter.unusedVariables false
set_option linter.unusedSimpArgs false
set_option maxRecDepth 100000
namespace Go.Proofs.YtjnkpjehpdlcbaaGreatDoor
open Go Go.RowKit Sg
theorem ce4 : Sg.Callee Tryz.prog 4 := ⟨_, Tryz.func4, by decide, rfl⟩
theorem ce5 : Sg.Callee Tryz.prog 5 := ⟨_, Tryz.func5, by decide, rfl⟩
theorem ce6 : Sg.Callee Tryz.prog 6 := ⟨_, Tryz.func6, by decide, rfl⟩
theorem ce7 : Sg.Callee Tryz.prog 7 := ⟨_, Tryz.func7, by decide, rfl⟩
theorem ce8 : Sg.Callee Tryz.prog 8 := ⟨_, Tryz.func8, by decide, rfl⟩
theorem ce9 : Sg.Callee Tryz.prog 9 := ⟨_, Tryz.func9, by decide, rfl⟩

theorem isW_of {s : ByteArray} (h : keyB s = true) : isW s := by
  unfold keyB wordB at h
  simp only [Bool.and_eq_true, decide_eq_true_eq] at h
  obtain ⟨⟨h1, h2, h3⟩, h4⟩ := h
  refine ⟨fun e => ?_, h2, fun c hc => ?_⟩
  · have := sb_len s; rw [e, List.length_nil] at this; omega
  · obtain ⟨j, hj, rfl⟩ := List.mem_iff_getElem.1 hc
    have := h3 j (by rw [← sb_len]; exact hj)
    rw [bat_get hj] at this; exact this
theorem oko_of {x : GOp} (h : mayB x = true) (hr : rng x) : OkO keyB x := by
  obtain ⟨k, kt, v, l, hs, n⟩ := x
  unfold mayB at h
  rw [Bool.and_eq_true] at h
  obtain ⟨hk, h⟩ := h
  dsimp only at hk h
  by_cases h13 : k = 1 ∨ k = 3
  · rw [if_pos h13] at h
    simp only [Bool.and_eq_true, decide_eq_true_eq, Bool.not_eq_eq_eq_not, Bool.not_true] at h
    obtain ⟨h1, h2, h3⟩ := h
    have h1 : l = [] := List.eq_nil_of_length_eq_zero (by omega)
    exact ⟨by dsimp only; omega, hk, isW_of hk, hr.1, hr.2, fun _ => ⟨h1, h2, h3⟩, fun h => by dsimp only at h; omega, fun h => by dsimp only at h; omega⟩
  · rw [if_neg h13] at h
    by_cases h2 : k = 2
    · rw [if_pos h2] at h
      simp only [Bool.and_eq_true, Bool.or_eq_true, decide_eq_true_eq, Bool.not_eq_eq_eq_not, Bool.not_true] at h
      obtain ⟨k1, k2, k3, k4⟩ := h
      exact ⟨by dsimp only; omega, hk, isW_of hk, hr.1, hr.2, fun h => absurd h h13, fun _ => ⟨k1, k2, by dsimp only; omega, k4.imp id (fun h => (List.eq_nil_of_length_eq_zero (by have h9 : (l.length : Int) = 0 := h; omega) : l = []))⟩, fun h => by dsimp only at h; omega⟩
    · rw [if_neg h2] at h
      by_cases h4 : k = 4
      · rw [if_pos h4] at h
        simp only [Bool.and_eq_true, Bool.or_eq_true, decide_eq_true_eq, Bool.not_eq_eq_eq_not, Bool.not_true] at h
        obtain ⟨k1, k2, k3⟩ := h
        exact ⟨by dsimp only; omega, hk, isW_of hk, hr.1, hr.2, fun h => absurd h h13, fun h => absurd h h2, fun _ => ⟨(List.eq_nil_of_length_eq_zero (by have h9 : (l.length : Int) = 0 := k1; omega) : l = []), k2, k3⟩⟩
      · rw [if_neg h4] at h; cases h
theorem okv_of {A : Nat → Prop} {w : World} {es : List Value} {e : GEv} (h : REv A w es e) (hb : evB e = true) : OkV keyB e := by
  obtain ⟨h1, h2⟩ := evB_all hb
  obtain ⟨v, _, hs, _⟩ := h
  refine ⟨by omega, by omega, by omega, fun x hx => oko_of (h2 x hx) ?_⟩
  rcases hs with ⟨h0, _⟩ | ⟨b, o, cap, cs, T, fr, _, _, _, _, h3⟩
  · rw [h0] at hx; cases hx
  · obtain ⟨j, hj, rfl⟩ := List.mem_iff_getElem.1 hx
    obtain ⟨es2, _, _, v2, _, _, _, _, hr⟩ := h3 j hj
    exact hr
theorem okh_of {A : Nat → Prop} {w : World} {v : Value} {l : List GEv} (h : RSl 3 REv A w v l) (hc : canB l = true) : l.length ≤ 300 ∧ ∀ e ∈ l, OkV keyB e := by
  obtain ⟨h1, h2⟩ := canB_all hc
  refine ⟨h1, fun e he => ?_⟩
  have hb := h2 e he
  rcases h with ⟨h0, _⟩ | ⟨b, o, cap, cs, T, fr, _, _, _, _, h3⟩
  · rw [h0] at he; cases he
  · obtain ⟨j, hj, rfl⟩ := List.mem_iff_getElem.1 he
    obtain ⟨es2, _, _, hr⟩ := h3 j hj
    exact okv_of hr hb
theorem parse_back {A : Nat → Prop} {w : World} {v : Value} {l : List GEv} (h : RSl 3 REv A w v l) (hc : canB l = true) (hlen : (prT l).length ≤ 20000) : parseP keyB (bs (prT l)) = .ok l := by
  obtain ⟨h1, h2⟩ := okh_of h hc
  have hp : prT l = l.flatMap evT := by unfold prT; rw [if_pos hc]
  rw [hp] at hlen ⊢
  obtain ⟨us, k1, k2⟩ := back_read h1 h2 hlen
  rw [parseP_ok (l := us) (by rw [sb_bs]; exact k1)]
  exact k2 _
theorem parR_ok {key : ByteArray → Bool} {s : ByteArray} {A : Nat → Prop} {w : World} {lv er : Value} {l : List GEv} (hp : ParR key s A w lv er) (h : parseP key s = .ok l) : er = .nilIface ∧ RSl 3 REv A w lv l := by
  rcases hp with ⟨l', h1, h2, h3, _⟩ | ⟨x, h1, _⟩
  · rw [h1] at h; injection h with h; subst h; exact ⟨h2, h3⟩
  · rw [h1] at h; cases h


theorem mayB_of {R : Int → Prop} {ts r : List Tok} {o : GOp} (h : OpG R keyB ts r o) : mayB o = true := by
  obtain ⟨k, kt, v, l, hs, n⟩ := o
  obtain ⟨b, c, hM⟩ := h.mid
  have hk := h.kind
  have hkey := h.key_
  have hl := hM.len
  dsimp only at hk hkey hl
  unfold mayB
  dsimp only
  rw [hkey, Bool.true_and]
  by_cases h13 : k = 1 ∨ k = 3
  · obtain ⟨k1, k2, k3⟩ := hM.else_ (by dsimp only; omega) (by dsimp only; omega)
    have k1 : l = [] := k1
    have k2 : hs = false := k2
    have k3 : n = false := k3
    subst k1; subst k2; subst k3
    rw [if_pos h13]; rfl
  · rw [if_neg h13]
    by_cases h2 : k = 2
    · obtain ⟨k1, k2, k3⟩ := hM.two h2
      rw [if_pos h2]
      simp only [Bool.and_eq_true, Bool.or_eq_true, decide_eq_true_eq, Bool.not_eq_eq_eq_not, Bool.not_true]
      exact ⟨k1, k2, by omega, k3.imp id (fun h => by have h9 : l = [] := h; rw [h9]; rfl)⟩
    · rw [if_neg h2]
      have h4 : k = 4 := by omega
      obtain ⟨k1, k2, k3⟩ := hM.four h4
      have k1 : l = [] := k1
      rw [if_pos h4]
      simp only [Bool.and_eq_true, Bool.or_eq_true, decide_eq_true_eq, Bool.not_eq_eq_eq_not, Bool.not_true]
      exact ⟨by rw [k1]; rfl, k2, k3⟩
theorem evB_of {R : Int → Prop} {ts r : List Tok} {x : GEv} (h : EvG R keyB ts r x) : evB x = true := by
  have h1 := h.kind
  have h2 := h.proc
  have h3 := h.ops
  rw [evB_yes (by omega)]
  exact List.all_eq_true.2 fun o ho => (h3.1 o ho).elim fun ts' h => h.elim fun r' h => mayB_of h
theorem histP_all {e : Int} : ∀ {f : Nat} {ts : List Tok} {acc l : List PEv}, histP keyB e f ts acc = .ok l → (∀ x ∈ acc, evB x = true) → acc.length ≤ 300 → (∀ x ∈ l, evB x = true) ∧ l.length ≤ 300
  | 0, ts, acc, l, h, ha, h3 => by
    have h : (Except.ok acc : Except Er (List PEv)) = .ok l := h
    injection h with h; subst h; exact ⟨ha, h3⟩
  | f + 1, ts, acc, l, h, ha, h3 => by
    by_cases hn : skipP ts = []
    · rw [histP_end hn] at h; injection h with h; subst h; exact ⟨ha, h3⟩
    · by_cases h9 : 300 ≤ acc.length
      · rw [histP_full hn h9] at h; cases h
      · cases ho : eventP keyB e (skipP ts) with
        | error y => rw [histP_err hn (by omega) ho] at h; cases h
        | ok y =>
          obtain ⟨x, r⟩ := y
          rw [histP_go hn (by omega) ho] at h
          have hx := evB_of (eventP_good (R := fun _ => True) ho (fun _ _ => trivial) trivial)
          exact histP_all h (fun z hz => by
            rcases List.mem_append.1 hz with h' | h'
            · exact ha z h'
            · rw [List.mem_singleton.1 h']; exact hx) (by rw [List.length_append, List.length_singleton]; omega)
theorem can_of {s : ByteArray} {l : List GEv} (h : parseP keyB s = .ok l) : canB l = true := by
  cases hs : scanA (sb s) with
  | error p => rw [parseP_scan hs] at h; cases h
  | ok ts =>
    rw [parseP_ok hs] at h
    obtain ⟨h1, h2⟩ := histP_all h (fun _ h => by cases h) (by simp)
    exact canB_ok h2 (fun i hi => h1 _ (List.getElem_mem hi))


theorem print_ok (A : Nat → Prop) (v1 : Value) (l : List GEv) (w : World) (h : RSl 3 REv A w v1 l) (hl : l.length ≤ 140737488355328) (hTab : Tab w) : Sg.Ret Tryz.prog 8 #[v1] w fun v w' => v = .string (bs (prT l)) ∧ Ch0 w w' := by
  obtain ⟨a, c, rfl, h⟩ := h.at'
  exact print_walk A a c l w h hl hTab

set_option maxHeartbeats 800000 in
theorem form_ok (s : ByteArray) (w : World) (hER : ER w) (hTab : Tab w) :
  Sg.Ret Tryz.prog 3 #[.string s] w fun v w' => v = .bool true ∧ Ch0 w w' := by
 refine enter1 (n := 61) (l := [.string s]) Tryz.func3 rfl rfl rfl rfl ?_
 refine W.g1 0 (v1 := .string s) rfl ?_; intro σ s0
 refine W.seq ?_
 refine W.region ?_
 refine WL.x (X.asg lc) rfl ?_
 refine WL.e1 Nx.thn 0 (lt rfl (s0)) ?_
 intro σ1 s0
 refine W.seq ?_
 refine W.region ?_
 refine WL.x (X.mv (s0)) rfl ?_
 refine WL.call1 ce4 (lh) (parse_ok s w hER) rfl ?_
 rintro _ w1 ⟨⟨lv1, er1, rfl, hp1⟩, c1⟩
 refine WL.x (X.mv (lh)) rfl ?_
 refine WL.x (X.ex2_0 (lh)) rfl ?_
 refine WL.x (X.ex2_1 (lt rfl (lh))) rfl ?_
 refine WL.x (X.asg (lt rfl (lh))) rfl ?_
 refine WL.x (X.asg (lt rfl (lh))) rfl ?_
 refine WL.e3 Nx.thn 0 3 4 (jt4 rfl (jt2 rfl (lt rfl (s0)))) (lt rfl (lh)) (lh) ?_
 intro σ2 s0 s3 s4
 refine W.seq ?_
 refine W.region ?_
 refine WL.x (X.mv (s0)) rfl ?_
 refine WL.call1 ce5 (lh) (rparse_ok s w1) rfl ?_
 rintro _ w2 ⟨⟨lm1, at1, why1, rfl, hx1⟩, cx1⟩
 obtain ⟨L1, hl1, hm1, hL1, hI1, hR1⟩ := par_both hp1 hx1
 have k2 := c1.trans0 cx1
 have hcan : canB L1 = true := by
   rcases hR1 with ⟨l, h1, h2, _⟩ | ⟨x, _, h2, _⟩
   · rw [← h2]; exact can_of h1
   · rw [h2]; rfl
 refine WL.x (X.mv (lh)) rfl ?_
 refine WL.x (X.ex3_0 (lh)) rfl ?_
 refine WL.x (X.ex3_1 (lt rfl (lh))) rfl ?_
 refine WL.x (X.ex3_2 (jt2 rfl (lh))) rfl ?_
 refine WL.x (X.asg (jt2 rfl (lh))) rfl ?_
 refine WL.x (X.asg (jt2 rfl (lh))) rfl ?_
 refine WL.x (X.asg (jt2 rfl (lh))) rfl ?_
 refine WL.e5 Nx.thn 3 4 5 6 7 (jt8 rfl (lt rfl (s3))) (jt8 rfl (lt rfl (s4))) (jt2 rfl (lh)) (lt rfl (lh)) (lh) ?_
 intro σ3 s3 s4 s5 s6 s7
 refine W.seq ?_
 refine W.seq ?_
 refine W.region ?_
 refine WL.x (X.mv (s4)) rfl ?_
 refine WL.x (X.mv (lt rfl (s6))) rfl ?_
 refine WL.x (X.mv (jt2 rfl (s7))) rfl ?_
 refine WL.call3 ce6 (jt2 rfl (lh)) (lt rfl (lh)) (lh) (is_tt er1 at1 why1 w2 hI1) rfl ?_
 rintro _ w3 ⟨rfl, c3⟩
 have k3 := k2.trans0 c3
 have hl3 := (hl1.ch0 monEv cx1).ch0 monEv c3
 refine WL.x (X.not (lh)) rfl ?_
 refine WL.x (X.mv (lh)) rfl ?_
 refine WL.yes rfl rfl (lh) (rfl) ?_
 refine WL.x (X.mv (jt4 rfl (jt2 rfl (s3)))) rfl ?_
 refine WL.yes rfl rfl (lt rfl (lh)) (rfl) ?_
 refine WL.x (X.mv (jt4 rfl (jt2 rfl (lt rfl (s5))))) rfl ?_
 refine WL.yes rfl rfl (jt2 rfl (lh)) (rfl) ?_
 refine WL.call2 ce7 (lt rfl (lh)) (lh) (same_ok _ _ lv1 lm1 L1 L1 w3 hl3 (hm1.ch0 monEv c3) (by omega)) rfl ?_
 rintro _ w4 ⟨rfl, c4⟩
 have k4 := k3.trans0 c4
 have hl4 := hl3.ch0 monEv c4
 refine WL.yes rfl rfl (jt2 rfl (lt rfl (lh))) (rfl) ?_
 refine WL.x (X.notp (lh)) rfl ?_
 refine WL.x (X.pickF (jt4 rfl (lh)) (rfl) (lh)) rfl ?_
 refine WL.e3 Nx.thn 3 7 31 (jt8 rfl (jt2 rfl (lt rfl (s3)))) (jt8 rfl (jt2 rfl (lt rfl (s7)))) (lh) ?_
 intro σ4 s3 s7 s31
 refine W.cndN s31 (fun h => h rfl) ?_
 refine W.skip Nx.thn ?_
 refine W.seq ?_
 refine W.seq ?_
 refine W.region ?_
 refine WL.x (X.mv (s7)) rfl ?_
 refine WL.x (X.neq (lh) lc) rfl ?_
 refine WL.e2 Nx.thn 3 33 (jt2 rfl (s3)) (lh) ?_
 intro σ5 s3 s33
 refine W.cndp s33 (fun hwy => ?_) (fun hwy => ?_)
 ·
  refine W.seq ?_
  refine W.region ?_
  refine WL.x (X.asg lc) rfl ?_
  refine WL.e1 Nx.thn 2 (lh) ?_
  intro σ6 s2
  refine W.ret1 (Nx.rthn Nx.f1) s2 ?_
  first | exact ⟨rfl, k4⟩ | exact ⟨congrArg Value.bool (decide_eq_true rfl), k5.trans0 c6⟩ | exact ⟨congrArg Value.bool (decide_eq_true rfl), k8.trans0 c9⟩
 ·
  refine W.skip Nx.thn ?_
  refine W.seq ?_
  refine W.region ?_
  refine WL.x (X.mv (s3)) rfl ?_
  refine WL.call1 ce8 (lh) (print_ok _ lv1 L1 w4 hl4 (by omega) (tab_ch0 hTab k4)) rfl ?_
  rintro _ w5 ⟨rfl, c5⟩
  have k5 := k4.trans0 c5
  have hl5 := hl4.ch0 monEv c5
  refine WL.x (X.asg (lh)) rfl ?_
  refine WL.e2 Nx.thn 3 8 (jt2 rfl (lt rfl (s3))) (lh) ?_
  intro σ7 s3 s8
  refine W.seq ?_
  refine W.seq ?_
  refine W.region ?_
  refine WL.x (X.mv (s8)) rfl ?_
  refine WL.x (X.lenSt Tryz.underlying9 (lh)) rfl ?_
  refine WL.x (X.gtr (lh) lc) rfl ?_
  refine WL.e3 Nx.thn 3 8 38 (jt2 rfl (lt rfl (s3))) (jt2 rfl (lt rfl (s8))) (lh) ?_
  intro σ8 s3 s8 s38
  refine W.cndp s38 (fun hbig => ?_) (fun hbig => ?_)
  ·
   refine W.seq ?_
   refine W.region ?_
   refine WL.x (X.mv (s8)) rfl ?_
   refine WL.x (X.mv (lt rfl (s3))) rfl ?_
   refine WL.call1 ce9 (lh) (rprint_ok _ lv1 L1 w5 hl5 (by omega)) rfl ?_
   rintro _ w6 ⟨rfl, c6⟩
   refine WL.x (X.eqlS (jt2 rfl (lh)) (lh)) rfl ?_
   refine WL.x (X.asg (lh)) rfl ?_
   refine WL.e1 Nx.thn 2 (lh) ?_
   intro σ9 s2
   refine W.ret1 (Nx.rthn Nx.f1) s2 ?_
   first | exact ⟨rfl, k4⟩ | exact ⟨congrArg Value.bool (decide_eq_true rfl), k5.trans0 c6⟩ | exact ⟨congrArg Value.bool (decide_eq_true rfl), k8.trans0 c9⟩
  ·
   have hsz9 : (bs (prT L1)).size = (prT L1).length := by rw [← sb_len, sb_bs]
   have hback := parse_back hl1 hcan (by omega)
   refine W.skip Nx.thn ?_
   refine W.seq ?_
   refine W.region ?_
   refine WL.x (X.mv (s8)) rfl ?_
   refine WL.call1 ce4 (lh) (parse_ok (bs (prT L1)) w5 (hER.ch0 k5)) rfl ?_
   rintro _ w7 ⟨⟨lv2, er2, rfl, hp2⟩, c7⟩
   obtain ⟨rfl, hl2⟩ := parR_ok hp2 hback
   have k7 := k5.trans0 c7
   refine WL.x (X.mv (lh)) rfl ?_
   refine WL.x (X.ex2_0 (lh)) rfl ?_
   refine WL.x (X.ex2_1 (lt rfl (lh))) rfl ?_
   refine WL.x (X.asg (lt rfl (lh))) rfl ?_
   refine WL.x (X.asg (lt rfl (lh))) rfl ?_
   refine WL.e4 Nx.thn 3 4 8 9 (jt4 rfl (jt2 rfl (lt rfl (s3)))) (lh) (jt4 rfl (jt2 rfl (lt rfl (s8)))) (lt rfl (lh)) ?_
   intro σ10 s3 s4 s8 s9
   refine W.seq ?_
   refine W.region ?_
   refine WL.x (X.mv (s4)) rfl ?_
   refine WL.x (v := .bool (isNil .nilIface)) (X.eqlI Tryz.underlying24 (lh) (.inl rfl)) rfl ?_
   refine WL.x (X.mv (lh)) rfl ?_
   refine WL.yes rfl rfl (lh) (rfl) ?_
   refine WL.x (X.mv (jt2 rfl (lt rfl (s3)))) rfl ?_
   refine WL.yes rfl rfl (lt rfl (lh)) (rfl) ?_
   refine WL.x (X.mv (jt4 rfl (s9))) rfl ?_
   refine WL.yes rfl rfl (jt2 rfl (lh)) (rfl) ?_
   refine WL.call2 ce7 (lt rfl (lh)) (lh) (same_ok _ _ lv1 lv2 L1 L1 w7 (hl5.ch0 monEv c7) hl2 (by omega)) rfl ?_
   rintro _ w8 ⟨rfl, c8⟩
   have k8 := k7.trans0 c8
   refine WL.x (X.pickT (jt2 rfl (lt rfl (lh))) (rfl) (lh)) rfl ?_
   refine WL.x (X.mv (lh)) rfl ?_
   refine WL.yes rfl rfl (lh) (decide_eq_true (rfl)) ?_
   refine WL.x (X.mv (jt8 rfl (s9))) rfl ?_
   refine WL.yes rfl rfl (lt rfl (lh)) (decide_eq_true (rfl)) ?_
   refine WL.call1 ce8 (lh) (print_ok _ lv2 L1 w8 (hl2.ch0 monEv c8) (by omega) (tab_ch0 hTab k8)) rfl ?_
   rintro _ w9 ⟨rfl, c9⟩
   refine WL.yes rfl rfl (jt2 rfl (lh)) (decide_eq_true (rfl)) ?_
   refine WL.x (X.mv (jt8 rfl (jt2 rfl (s8)))) rfl ?_
   refine WL.yes rfl rfl (jt2 rfl (lt rfl (lh))) (decide_eq_true (rfl)) ?_
   refine WL.x (X.eqlS (lt rfl (lh)) (lh)) rfl ?_
   refine WL.x (X.pickT (jt4 rfl (lh)) (decide_eq_true (rfl)) (lh)) rfl ?_
   refine WL.x (X.asg (lh)) rfl ?_
   refine WL.e1 Nx.thn 2 (lh) ?_
   intro σ11 s2
   refine W.ret1 Nx.f1 s2 ?_
   first | exact ⟨rfl, k4⟩ | exact ⟨congrArg Value.bool (decide_eq_true rfl), k5.trans0 c6⟩ | exact ⟨congrArg Value.bool (decide_eq_true rfl), k8.trans0 c9⟩
end Go.Proofs.YtjnkpjehpdlcbaaGreatDoor
