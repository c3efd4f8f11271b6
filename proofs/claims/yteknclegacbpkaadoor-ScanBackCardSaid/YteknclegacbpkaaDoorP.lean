/-
  A part of the walk of the program.
-/
import Derived.Test.YteknclegacbpkaaDoorL
import Derived.Test.YteknclegacbpkaaDoorScanMore
import Derived.Test.YteknclegacbpkaaDoorPut1
import Derived.Test.YteknclegacbpkaaDoorSh2
set_option linter.unusedVariables false
set_option linter.unusedSimpArgs false
set_option maxRecDepth 100000
namespace Go.Proofs.YteknclegacbpkaaDoor
open Go Go.RowKit Sg

theorem repeat_blank : ∀ j, Lib.repeatL [32] j = List.replicate j (32 : UInt8)
  | 0 => rfl
  | j + 1 => by rw [Lib.repeatL, repeat_blank j]; rfl
theorem rep_ok (z : Int) (j : Nat) (w : World) (hz : z = (j : Int)) (hj : j < 5) : Sg.Ret Tryd.prog 16 #[.string ⟨#[32]⟩, .int .i64 z] w fun v w' => v = .string (bs (List.replicate j 32)) ∧ Ch0 w w' := by
  subst hz
  refine Calls.mono (Tryd.strings_Repeat ⟨#[32]⟩ j w (by omega) (by rw [show (⟨#[32]⟩ : ByteArray).size = 1 from rfl]; omega)) ?_
  rintro e w' ⟨rfl, hb⟩
  exact ⟨_, rfl, by rw [show (⟨#[32]⟩ : ByteArray).data.toList = [32] from rfl, repeat_blank]; rfl, Ch.of_below hb⟩
theorem scanA_le {l : Bs} (h : l.length ≤ 20000) : scanA l = scanX 0 l := by unfold scanA; rw [if_neg (by omega)]; rfl
theorem scanA_gt {l : Bs} (h : 20000 < l.length) : scanA l = .error (0, 4) := by unfold scanA; rw [if_pos h]
/-- What the scan of a text behind blanks tells. -/
theorem ahead_sc {j : Nat} {s : ByteArray} (h : j + s.size ≤ 20000) : scanA (sb (bs (List.replicate j 32 ++ sb s))) = sh j (scanA (sb s)) := by
  rw [sb_bs, scanA_le (by rw [List.length_append, List.length_replicate, sb_len]; omega), scanA_le (by rw [sb_len]; omega), scanX_ahead]
theorem ahead_big {j : Nat} {s : ByteArray} (h : 20000 < j + s.size) : scE (bs (List.replicate j 32 ++ sb s)) = (0, 4) := (scL_err (scanA_gt (by rw [sb_bs, List.length_append, List.length_replicate, sb_len]; omega))).2.1
theorem scE_ok {s : ByteArray} (h : (scE s).2 = 0) : ∃ l, scanA (sb s) = .ok l := by
  cases hq : scanA (sb s) with
  | ok l => exact ⟨l, rfl⟩
  | error p =>
    exfalso
    rw [(scL_err hq).2.1] at h
    unfold scanA at hq
    split at hq
    · injection hq with hq; rw [← hq] at h; cases h
    · exact scanF_ne (e := p.2) (a := p.1) hq h
theorem scE_le (s : ByteArray) : (scE s).1 ≤ 20001 := by
  cases hq : scanA (sb s) with
  | ok l => rw [(scL_ok hq).2.1]; exact Nat.zero_le _
  | error p =>
    rw [(scL_err hq).2.1]
    unfold scanA at hq
    split at hq
    · injection hq with hq; rw [← hq]; exact Nat.zero_le _
    · have := scanF_at_le (e := p.2) (a := p.1) hq
      omega
theorem ahead_err {j : Nat} {s : ByteArray} (h : j + s.size ≤ 20000) (he : (scE s).2 ≠ 0) : scE (bs (List.replicate j 32 ++ sb s)) = ((scE s).1 + j, (scE s).2) := by
  have h1 := ahead_sc h
  cases hq : scanA (sb s) with
  | ok l => rw [(scL_ok hq).2.1] at he; exact absurd rfl he
  | error p =>
    rw [hq] at h1
    rw [(scL_err hq).2.1, (scL_err (p := (p.1 + j, p.2)) h1).2.1]
theorem ahead_ok {j : Nat} {s : ByteArray} (h : j + s.size ≤ 20000) (he : (scE s).2 = 0) : errV (bs (List.replicate j 32 ++ sb s)) = .nilIface ∧ scL (bs (List.replicate j 32 ++ sb s)) = (scL s).map (shT j) := by
  obtain ⟨l, hl⟩ := scE_ok he
  have h1 := ahead_sc h
  rw [hl] at h1
  obtain ⟨k1, _, k3⟩ := scL_ok (l := l.map (shT j)) h1
  exact ⟨k3, by rw [k1, (scL_ok hl).1]⟩
theorem bare_fin {l L : List Tok} {k : Nat} (h : ∀ q : Nat, L[q]? = if q < k then (l[q]?).map bareT else l[q]?) (hk : l.length ≤ k) : L = l.map bareT := by
  refine List.ext_getElem? fun q => ?_
  rw [h q, List.getElem?_map]
  by_cases e : q < k
  · rw [if_pos e]
  · rw [if_neg e, List.getElem?_eq_none (by omega)]; rfl
theorem bare_step {l L : List Tok} {k : Nat} (h : ∀ q : Nat, L[q]? = if q < k then (l[q]?).map bareT else l[q]?) (hk : k < L.length) : ∀ q : Nat, (L.set k (bareT L[k]))[q]? = if q < k + 1 then (l[q]?).map bareT else l[q]? := fun q => by
  rw [List.getElem?_set]
  by_cases e : k = q
  · subst e
    have h1 := h k
    rw [if_neg (by omega), List.getElem?_eq_getElem hk] at h1
    rw [if_pos rfl, if_pos hk, if_pos (by omega), ← h1]; rfl
  · rw [if_neg e, h q]
    by_cases e2 : q < k
    · rw [if_pos e2, if_pos (by omega)]
    · rw [if_neg e2, if_neg (by omega)]

theorem clone_tk (A : Nat → Prop) (a : Option Addr) (c : Nat) (l : List Gtk) (w : World) (h : RSl 4 (Rc ftk) A w (.slice a l.length c) l) (hl : l.length * 40 ≤ 140737488355328) :
    Sg.Ret Tryd.prog 34 #[.slice a l.length c] w fun v w' => OwnF 4 ftk w' w.heap.size 29 v l ∧ Ch0 w w' := by
  refine enter1 (n := 8) (l := [.slice a l.length c]) Tryd.func34 rfl rfl rfl rfl ?_
  refine W.g1 0 (v1 := .slice a l.length c) rfl ?_; intro σ s0
  refine W.seq ?_
  refine W.region ?_
  refine WL.x (X.asg lc) rfl ?_
  refine WL.e1 Nx.thn 0 (lt rfl (s0)) ?_
  intro σ1 s0
  refine W.seq ?_
  refine W.seq ?_
  refine W.region ?_
  refine WL.x (X.mv (s0)) rfl ?_
  refine WL.x (X.eqlSl Tryd.underlying23 (lh) lc) rfl ?_
  refine WL.e2 Nx.thn 0 4 (lt rfl (lt rfl (s0))) (lh) ?_
  intro σ2 s0 s4
  refine W.cnd s4 (fun hnil => ?_) (fun hnil => ?_)
  · obtain rfl : a = none := by cases a <;> first | rfl | (cases hnil)
    obtain rfl : l = [] := by
      rcases h with ⟨h, _⟩ | ⟨b, o, cap, cs, TT, fr, hv, _⟩
      · exact h
      · cases hv
    refine W.seq ?_
    refine W.region ?_
    refine WL.x (X.asg lc) rfl ?_
    refine WL.e1 Nx.thn 2 (lh) ?_
    intro σ3 s2
    refine W.ret1 (Nx.rthn Nx.f1) s2 ?_
    exact ⟨World.ownsRow_nil _ _ _ _, Ch.refl _ _⟩
  · refine W.skip Nx.thn ?_
    refine W.seq ?_
    refine W.region ?_
    refine WL.bsliceR (vs := []) Tryd.underlying23 el29 (by decide) pnil rfl (fun _ h => by cases h) (by decide) rfl ?_
    intro w1 u3_0; have hu3_0 := u3_0.at_; have cu3_0 := u3_0.ch; have zu3_0 := u3_0.size
    refine WL.x (X.mv (lt rfl (s0))) rfl ?_
    refine WL.appendF Tryd.underlying23 el29 rfl (by decide) ftk_len ftk_one (lt rfl (lh)) (lh) (show OwnF 4 ftk _ w.heap.size 29 _ [] from owns_empty hu3_0 (Nat.le_refl _)) (h.ch0 (monRc _) cu3_0) (by unfold maxLen; simp only [List.length_nil]; omega) (by simp only [List.length_nil]; omega) (by omega) rfl ?_
    intro va3_2 w2 ho3_2 ca3_2
    refine WL.x (X.asg (lh)) rfl ?_
    refine WL.e1 Nx.thn 2 (lh) ?_
    intro σ4 s2
    refine W.ret1 Nx.f1 s2 ?_
    exact ⟨by simpa using ho3_2, cu3_0.trans ca3_2 (fun _ _ => id) (fun i hi e => by have : i = w.heap.size := e; omega)⟩
set_option maxHeartbeats 800000 in
theorem bare_walk (A : Nat → Prop) (a : Option Addr) (c : Nat) (l : List Tok) (w : World) (h : RSl 4 (Rc ftk) A w (.slice a l.length c) l) (hl : l.length ≤ 20000) :
    Sg.Ret Tryd.prog 15 #[.slice a l.length c] w fun v w' => OwnF 4 ftk w' w.heap.size 29 v (l.map bareT) ∧ Ch0 w w' := by
  refine enter1 (n := 18) (l := [.slice a l.length c]) Tryd.func15 rfl rfl rfl rfl ?_
  refine W.g1 0 (v1 := .slice a l.length c) rfl ?_; intro σ s0
  refine W.seq ?_
  refine W.region ?_
  refine WL.x (X.asg lc) rfl ?_
  refine WL.e1 Nx.thn 0 (lt rfl (s0)) ?_
  intro σ1 s0
  refine W.seq ?_
  refine W.region ?_
  refine WL.x (X.mv (s0)) rfl ?_
  refine WL.call1 ce34 (lh) (clone_tk A a c l w h (by omega)) rfl ?_
  rintro v1 w1 ⟨hown, c1⟩
  obtain ⟨a1, cc1, rfl⟩ := (hown.rsl (A := all) ftk_len (fun _ _ => trivial)).len
  refine WL.x (X.asg (lh)) rfl ?_
  refine WL.e1 Nx.thn 3 (lh) ?_
  intro σ2 s3
  refine W.seq ?_
  refine W.seq ?_
  refine W.region ?_
  refine WL.x (X.mv (s3)) rfl ?_
  refine WL.x (X.lenSl Tryd.underlying23 (lh)) rfl ?_
  refine WL.x (X.mv lc) rfl ?_
  refine WL.e3 Nx.thn 3 8 9 (lt rfl (lt rfl (lt rfl (s3)))) (lt rfl (lh)) (lh) ?_
  intro σ3 s3 s8 s9
  refine W.block ?_
  have qo1 := s3
  have qo2 := s8
  -- loop 0: kept [3, 8], varied [9]
  refine W.loop (G := Nat) (fun k σ' w' => (σ' 3 = σ3 3 ∧ σ' 8 = σ3 8 ∧ True) ∧ (∃ L, σ' 9 = .int .i64 (k : Int) ∧ L.length = l.length ∧ OwnF 4 ftk w' w.heap.size 29 (.slice a1 L.length cc1) L ∧ (∀ q : Nat, L[q]? = if q < k then (l[q]?).map bareT else l[q]?) ∧ Ch0 w w' ∧ k ≤ l.length)) (fun k => l.length - k) (0) ⟨⟨rfl, rfl, trivial⟩, l, s9, rfl, hown, (fun q => by rw [if_neg (by omega)]), c1, by omega⟩ ?_
  rintro k σ4 w2 ⟨⟨f3, f8, _⟩, L, s9, hL, hown, hLq, hcl, hk⟩
  have s3 := f3.trans qo1
  have s8 := f8.trans qo2
  refine W.seq ?_
  refine W.region ?_
  refine WL.x (X.lss (s9) (s8)) rfl ?_
  refine WL.e4 Nx.thn 3 8 9 10 (lt rfl (s3)) (lt rfl (s8)) (lt rfl (s9)) (lh) ?_
  intro σ5 s3 s8 s9 s10
  refine W.seq ?_
  refine W.cndp s10 (fun hlt => ?_) (fun hlt => ?_)
  · obtain ⟨g, cur, rfl, hg, hcs, hri, hpi⟩ := OwnF.put ftk_len hown (i := k) (by omega)
    have hgb : w.heap.size ≤ g := (hown.lt (show slBlk (.slice (some ⟨g, 0, none⟩) L.length cc1) g from rfl)).1
    refine W.skip Nx.thn ?_
    refine W.seq ?_
    refine W.block ?_
    refine W.seq ?_
    refine W.region ?_
    refine WL.x (X.mv (s9)) rfl ?_
    refine WL.x (X.asg (lh)) rfl ?_
    refine WL.e4 Nx.thn 3 4 8 9 (lt rfl (lt rfl (s3))) (lh) (lt rfl (lt rfl (s8))) (lt rfl (lt rfl (s9))) ?_
    intro σ6 s3 s4 s8 s9
    refine W.region ?_
    refine WL.x (X.mv (s3)) rfl ?_
    refine WL.x (X.mv (lt rfl (s4))) rfl ?_
    refine WL.x (X.indexAddr Tryd.underlying23 el29 (lt rfl (lh)) (lh) (by omega) (by omega)) rfl ?_
    refine WL.x (X.fieldAddr fd29_1 (lh)) rfl ?_
    refine WL.store el3 (lh) lc rfl hg (by omega) ?_
    intro w3 us
    have cs1 := us.ch
    rw [show 0 + (k : Int).toNat * 4 + 1 = k * 4 + 1 by omega, blit_one (vs := ftk (bareT L[k])) (by rw [ftk_len]; exact hcs) (by rw [ftk_len]; omega) rfl (fun q hq hq1 => by
      rw [ftk_len] at hq
      rw [hri q hq]
      match q, hq, hq1 with
      | 0, _, _ => rfl
      | 1, _, e => exact absurd rfl e
      | 2, _, _ => rfl
      | 3, _, _ => rfl)] at us
    have hown1 := hpi w3 (bareT L[k]) us
    refine WL.e3 (Nx.blk Nx.thn) 3 8 9 (lt rfl (lt rfl (lt rfl (lt rfl (s3))))) (lt rfl (lt rfl (lt rfl (lt rfl (s8))))) (lt rfl (lt rfl (lt rfl (lt rfl (s9))))) ?_
    intro σ7 s3 s8 s9
    refine W.region ?_
    first | refine WL.x (X.add (s9) lc (by omega) (by omega)) rfl ?_ | refine WL.x (X.addw (s9) lc) rfl ?_
    refine WL.x (X.mv (lh)) rfl ?_
    refine WL.e3 Nx.thn 3 8 9 (lt rfl (lt rfl (s3))) (lt rfl (lt rfl (s8))) (lh) ?_
    intro σ8 s3 s8 s9
    refine ⟨k + 1, by (try dsimp only); omega, ⟨s3.trans qo1.symm, s8.trans qo2.symm, trivial⟩, L.set k (bareT L[k]), s9, (by rw [List.length_set]; exact hL), (by rw [List.length_set]; exact hown1), bare_step hLq (by omega), hcl.trans cs1 (H := fun _ => False) (fun _ _ e => e) (fun q hq e => by (try dsimp only at e); omega), by omega⟩
  · refine W.exit (Nx.xthn (Nx.xthn (Nx.xblk Nx.thn))) ?_
    refine W.seq ?_
    refine W.region ?_
    refine WL.x (X.mv (s3)) rfl ?_
    refine WL.x (X.asg (lh)) rfl ?_
    refine WL.e1 Nx.thn 2 (lh) ?_
    intro σ9 s2
    refine W.ret1 Nx.f1 s2 ?_
    have hLr : L = l.map bareT := bare_fin hLq (by omega)
    rw [hL] at hown
    exact ⟨hLr ▸ hown, hcl⟩
theorem bare_ok (A : Nat → Prop) (v1 : Value) (l : List Tok) (w : World) (h : RSl 4 (Rc ftk) A w v1 l) (hl : l.length ≤ 20000) : Sg.Ret Tryd.prog 15 #[v1] w fun v w' => OwnF 4 ftk w' w.heap.size 29 v (l.map bareT) ∧ Ch0 w w' := by
  obtain ⟨a, c, rfl⟩ := h.len
  exact bare_walk A a c l w h hl

end Go.Proofs.YteknclegacbpkaaDoor
