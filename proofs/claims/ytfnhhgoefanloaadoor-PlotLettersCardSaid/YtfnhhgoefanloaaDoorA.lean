/-
  A part of the walk of the program.
-/
import Derived.Test.YtfnhhgoefanloaaDoorFacts
import Derived.Test.YtfnhhgoefanloaaDoorCpx
import Derived.Test.YtfnhhgoefanloaaDoorMapsC
import Derived.Test.YtfnhhgoefanloaaDoorLists
set_option linter.unusedVariables false
set_option linter.unusedSimpArgs false
set_option maxRecDepth 100000
namespace Go.Proofs.YtfnhhgoefanloaaDoor
open Go Go.RowKit Sg
theorem ce10 : Sg.Callee Tryd.prog 10 := ⟨_, Tryd.func10, by decide, rfl⟩
theorem el33 : Sg.Elem Tryd.prog 33 1 (.complex .f64 0 0) 16 := ⟨_, rfl, rfl, rfl, rfl⟩

/-- A row of the call's own that holds these places. -/
def OC (w : World) (base : Nat) (v : Value) (l : List Pl) : Prop := w.ownsRow base 33 1 v l.length (l.map cv)
theorem OC.ch {F : Nat → Prop} {w w' : World} {base : Nat} {v : Value} {l : List Pl} (h : OC w base v l) (c : Ch F w w') (hn : ∀ k, slBlk v k → ¬ F k) : OC w' base v l := own_ch h c hn
theorem OC.ch0 {w w' : World} {base : Nat} {v : Value} {l : List Pl} (h : OC w base v l) (c : Ch0 w w') : OC w' base v l := h.ch c (fun _ _ => id)
theorem OC.sl {w : World} {base : Nat} {v : Value} {l : List Pl} (h : OC w base v l) : Sl w v (l.map cv) := Sl.own h
theorem OC.len {w : World} {base : Nat} {v : Value} {l : List Pl} (h : OC w base v l) : ∃ a c, v = .slice a l.length c := by
  obtain ⟨a, c, e⟩ := h.sl.len
  rw [List.length_map] at e
  exact ⟨a, c, e⟩
theorem OC.nil {w : World} {base : Nat} : OC w base (.slice none 0 0) [] := World.ownsRow_nil _ _ _ _
theorem OC.lt {w : World} {base : Nat} {v : Value} {l : List Pl} (h : OC w base v l) {k : Nat} (hk : slBlk v k) : base ≤ k ∧ k < w.heap.size := own_lt h hk
theorem c_at {w : World} {a : Option Addr} {m c : Nat} {l : List Pl} (h : Sl w (.slice a m c) (l.map cv)) {k : Nat} (hk : k < l.length) :
    ∃ b o cs T fr, a = some ⟨b, o, none⟩ ∧ w.heap[b]? = some (.cells cs T fr) ∧ cs[o + (k : Int).toNat * 1]? = some (cv l[k]) := by
  obtain ⟨a', c', e⟩ := h.len
  rw [List.length_map] at e
  simp only [Value.slice.injEq] at e
  obtain ⟨-, rfl, -⟩ := e
  have h' := h
  rw [show l.length = (l.map cv).length by simp] at h'
  obtain ⟨b, o, cs, T, fr, rfl, h1, h2⟩ := h'.at (k := k) (by simpa using hk)
  refine ⟨b, o, cs, T, fr, rfl, h1, ?_⟩
  rw [show o + (k : Int).toNat * 1 = o + k by omega, h2 k (by simpa using hk), List.getElem?_map, List.getElem?_eq_getElem hk]
  rfl
theorem spl_near {n : Nat} {p : Pl} (h : p ∈ spl n) : -5 ≤ p.1 ∧ p.1 ≤ 5 ∧ -5 ≤ p.2 ∧ p.2 ≤ 5 := of_decide_eq_true (List.all_eq_true.1 spl_in p (List.mem_of_mem_take h))
theorem near_of {p : Pl} (h : -6 ≤ p.1 ∧ p.1 ≤ 6 ∧ -6 ≤ p.2 ∧ p.2 ≤ 6) : Near 10 p := ⟨⟨by omega, by omega⟩, by omega, by omega⟩
theorem spl_nr {n : Nat} {p : Pl} (h : p ∈ spl n) : Near 10 p   := near_of (by have := spl_near h; omega)

theorem plain_ok (p : Pl) (w : World) (hp : Near 10 p)  :
  Sg.Ret Tryd.prog 10 #[cv p] w fun v w' => v = cv p ∧ w = w' := by
 refine enter1 (n := 12) (l := [cv p]) Tryd.func10 rfl rfl rfl rfl ?_
 refine W.g1 0 (v1 := cv p) rfl ?_; intro σ s0
 refine W.seq ?_
 refine W.region ?_
 refine WL.x (X.asg lc) rfl ?_
 refine WL.e1 Nx.thn 0 (lt rfl (s0)) ?_
 intro σ1 s0
 refine W.seq ?_
 refine W.region ?_
 refine WL.x (X.mv (s0)) rfl ?_
 refine WL.x (X.real (lh)) rfl ?_
 refine WL.x (v := .int .i64 (p.1)) (X.f2i Tryd.underlying44 Tryd.underlying3 (lh) (fb_toInt (by have := hp.1.1; omega) (by have := hp.1.2; omega)) (by have := hp.1.1; omega) (by have := hp.1.2; omega)) rfl ?_
 refine WL.x (X.i2f Tryd.underlying3 Tryd.underlying44 (lh)) rfl ?_
 refine WL.x (X.mv (jt4 rfl (s0))) rfl ?_
 refine WL.x (X.imag (lh)) rfl ?_
 refine WL.x (v := .int .i64 (p.2)) (X.f2i Tryd.underlying44 Tryd.underlying3 (lh) (fb_toInt (by have := hp.2.1; omega) (by have := hp.2.2; omega)) (by have := hp.2.1; omega) (by have := hp.2.2; omega)) rfl ?_
 refine WL.x (X.i2f Tryd.underlying3 Tryd.underlying44 (lh)) rfl ?_
 refine WL.x (X.complex (jt4 rfl (lh)) (lh)) rfl ?_
 refine WL.x (X.asg (lh)) rfl ?_
 refine WL.e1 Nx.thn 2 (lh) ?_
 intro σ2 s2
 refine W.ret1 Nx.f1 s2 ?_
 exact ⟨rfl, rfl⟩

def nOf (n : Int) : Nat := (if (100 : Int) < (if n < 0 then 0 else n) then 100 else (if n < 0 then 0 else n)).toNat
theorem nOf_le (n : Int) : nOf n ≤ 100 := by unfold nOf; split <;> (try split) <;> omega
theorem nOf_in {n : Int} (h0 : 0 ≤ n) (h1 : n ≤ 100) : nOf n = n.toNat := by unfold nOf; rw [if_neg (by split <;> omega), if_neg (by omega)]
set_option maxHeartbeats 800000 in
theorem spiral_ok (n : Int) (w : World) :
  Sg.Ret Tryd.prog 5 #[.int .i64 n] w fun v w' => OC w' w.heap.size v (spl (nOf n)) ∧ Ch0 w w' := by
 obtain ⟨N, hN⟩ : ∃ N : Nat, (if (100 : Int) < (if n < 0 then 0 else n) then 100 else (if n < 0 then 0 else n)) = (N : Int) := ⟨_, (Int.toNat_of_nonneg (by split <;> (try split) <;> omega)).symm⟩
 have hN1 : N ≤ 100 := by split at hN <;> (try split at hN) <;> omega
 have hN2 : nOf n = N := by unfold nOf; rw [hN]; omega
 refine enter1 (n := 37) (l := [.int .i64 n]) Tryd.func5 rfl rfl rfl rfl ?_
 refine W.g1 0 (v1 := .int .i64 n) rfl ?_; intro σ s0
 refine W.seq ?_
 refine W.region ?_
 refine WL.x (X.asg lc) rfl ?_
 refine WL.e1 Nx.thn 0 (lt rfl (s0)) ?_
 intro σ1 s0
 refine W.seq ?_
 refine W.region ?_
 refine WL.x (X.mv (s0)) rfl ?_
 refine WL.x (X.max (lh) lc) rfl ?_
 refine WL.x (v := .int .i64 (N : Int)) (hN ▸ X.min (lh) lc) rfl ?_
 refine WL.x (X.asg (lh)) rfl ?_
 refine WL.e1 Nx.thn 0 (lh) ?_
 intro σ2 s0
 refine W.seq ?_
 refine W.region ?_
 refine WL.x (X.asg lc) rfl ?_
 refine WL.e2 Nx.thn 0 3 (lt rfl (s0)) (lh) ?_
 intro σ3 s0 s3
 refine W.seq ?_
 refine W.region ?_
 refine WL.x (X.asg lc) rfl ?_
 refine WL.x (X.asg lc) rfl ?_
 refine WL.e4 Nx.thn 0 3 4 5 (jt2 rfl (s0)) (jt2 rfl (s3)) (lt rfl (lh)) (lh) ?_
 intro σ4 s0 s3 s4 s5
 refine W.seq ?_
 refine W.seq ?_
 refine W.region ?_
 refine WL.x (X.asg lc) rfl ?_
 refine WL.e5 Nx.thn 0 3 4 5 6 (lt rfl (s0)) (lt rfl (s3)) (lt rfl (s4)) (lt rfl (s5)) (lh) ?_
 intro σ5 s0 s3 s4 s5 s6
 refine W.block ?_
 have qo1 := s0
 -- loop 0: kept [0], varied [3, 4, 5, 6]
 refine W.loop (G := Nat × Nat) (fun (r, m) σ' w' => (σ' 0 = σ5 0 ∧ True) ∧ (∃ lv av sv sw, σ' 3 = lv ∧ σ' 4 = av ∧ σ' 5 = .complex .f64 sv sw ∧ σ' 6 = .int .i64 (r : Int) ∧ 2 ≤ r ∧ r ≤ 21 ∧ m ≤ N ∧ OC w' w.heap.size lv (spl m) ∧ (m < N → m = Lr r ∧ av = cv (cor r) ∧ (sv, sw) = sbs r) ∧ Ch0 w w')) (fun (r, m) => 22 - r) ((2, 0)) ⟨⟨rfl, trivial⟩, _, _, _, _, s3, s4, s5, s6, by omega, by omega, by omega, OC.nil, (fun _ => ⟨rfl, rfl, rfl⟩), Ch.refl _ _⟩ ?_
 rintro ⟨r, m⟩ σ6 w1 ⟨⟨f0, _⟩, lv, av, sv, sw, s3, s4, s5, s6, hr1, hr2, hmN, hown, himp, hcl⟩
 have s0 := f0.trans qo1
 have hlm : (spl m).length = m := spl_len (by omega)
 obtain ⟨la, lc9, rfl⟩ := hown.len
 rw [hlm] at s3 hown
 refine W.seq ?_
 refine W.seq ?_
 refine W.region ?_
 refine WL.x (X.mv (s3)) rfl ?_
 refine WL.x (X.lenSl Tryd.underlying23 (lh)) rfl ?_
 refine WL.x (X.mv (jt2 rfl (s0))) rfl ?_
 refine WL.x (X.lss (lt rfl (lh)) (lh)) rfl ?_
 refine WL.e6 Nx.thn 0 3 4 5 6 13 (jt4 rfl (s0)) (jt4 rfl (s3)) (jt4 rfl (s4)) (jt4 rfl (s5)) (jt4 rfl (s6)) (lh) ?_
 intro σ7 s0 s3 s4 s5 s6 s13
 refine W.cndp s13 (fun hlt => ?_) (fun hlt => ?_)
 ·
  have hr20 : r ≤ 20 := by
    refine Nat.le_of_lt_succ (Nat.lt_of_le_of_ne hr2 fun e => ?_)
    have h1 := (himp (by omega)).1
    rw [e, Lr_21] at h1; omega
  obtain ⟨rfl, rfl, hss⟩ := himp (by omega)
  obtain ⟨rfl, rfl⟩ : sv = (sbs r).1 ∧ sw = (sbs r).2 := by rw [← hss]; exact ⟨rfl, rfl⟩
  have hsp := spi_at hr1 hr20
  obtain ⟨c, hc⟩ : ∃ c : Nat, (if (N : Int) - (Lr r : Int) < (r : Int) / 2 then (N : Int) - (Lr r : Int) else (r : Int) / 2) = (c : Int) := ⟨_, (Int.toNat_of_nonneg (by split <;> omega)).symm⟩
  have hc1 : c ≤ r / 2 ∧ Lr r + c ≤ N ∧ (Lr r + c < N → c = r / 2) := by split at hc <;> omega
  refine W.skip Nx.thn ?_
  refine W.seq ?_
  refine W.block ?_
  refine W.seq ?_
  refine W.seq ?_
  refine W.region ?_
  refine WL.x (X.mv (s6)) rfl ?_
  first | refine WL.x (X.quo (lh) lc (by omega) (by omega) (wrap_i64 (by omega) (by omega))) rfl ?_ | refine WL.x (X.quow (lh) lc (by omega)) rfl ?_
  refine WL.x (X.mv (jt2 rfl (s0))) rfl ?_
  refine WL.x (X.mv (jt2 rfl (lt rfl (s3)))) rfl ?_
  refine WL.x (X.lenSl Tryd.underlying23 (lh)) rfl ?_
  first | refine WL.x (X.sub (jt2 rfl (lh)) (lh) (by omega) (by omega)) rfl ?_ | refine WL.x (X.subw (jt2 rfl (lh)) (lh)) rfl ?_
  refine WL.x (v := .int .i64 (c : Int)) (hc ▸ X.min (jt4 rfl (lh)) (lh)) rfl ?_
  refine WL.x (X.mv lc) rfl ?_
  refine WL.e7 Nx.thn 0 3 4 5 6 22 23 (jt8 rfl (s0)) (jt8 rfl (s3)) (jt8 rfl (s4)) (jt8 rfl (s5)) (jt8 rfl (s6)) (lt rfl (lh)) (lh) ?_
  intro σ8 s0 s3 s4 s5 s6 s22 s23
  refine W.block ?_
  have qo2 := s0
  have qo3 := s5
  have qo4 := s6
  have qo5 := s22
  -- loop 1: kept [0, 5, 6, 22], varied [3, 4, 23]
  refine W.loop (G := Nat) (fun i σ' w' => (σ' 0 = σ8 0 ∧ σ' 5 = σ8 5 ∧ σ' 6 = σ8 6 ∧ σ' 22 = σ8 22 ∧ True) ∧ (∃ lv, σ' 3 = lv ∧ σ' 4 = cv (pos r i) ∧ σ' 23 = .int .i64 (i : Int) ∧ i ≤ c ∧ OC w' w.heap.size lv (spl (Lr r + i)) ∧ Ch0 w w')) (fun i => c - i) (0) ⟨⟨rfl, rfl, rfl, rfl, trivial⟩, _, s3, (by rw [pos_zero]; exact s4), s23, by omega, hown, hcl⟩ ?_
  rintro i σ9 w2 ⟨⟨f0, f5, f6, f22, _⟩, lv, s3, s4, s23, hi, hown, hcl2⟩
  have s0 := f0.trans qo2
  have s5 := f5.trans qo3
  have s6 := f6.trans qo4
  have s22 := f22.trans qo5
  refine W.seq ?_
  refine W.region ?_
  refine WL.x (X.lss (s23) (s22)) rfl ?_
  refine WL.e8 Nx.thn 0 3 4 5 6 22 23 24 (lt rfl (s0)) (lt rfl (s3)) (lt rfl (s4)) (lt rfl (s5)) (lt rfl (s6)) (lt rfl (s22)) (lt rfl (s23)) (lh) ?_
  intro σ10 s0 s3 s4 s5 s6 s22 s23 s24
  refine W.seq ?_
  refine W.cndp s24 (fun hlt2 => ?_) (fun hlt2 => ?_)
  ·
   refine W.skip Nx.thn ?_
   refine W.seq ?_
   refine W.block ?_
   refine W.seq ?_
   refine W.region ?_
   refine WL.x (X.mv (s3)) rfl ?_
   refine WL.x (X.mv (lt rfl (s4))) rfl ?_
   refine WL.call1 ce10 (lh) (plain_ok (pos r i) w2 (near_of (hsp.2 i (by omega)).2)) rfl ?_
   rintro _ _ ⟨rfl, rfl⟩
   refine WL.bslice Tryd.underlying23 el33 rfl (pcons (lh) pnil) rfl (rfl : _ = [_]) rfl ?_
   intro w3 u9_3; have hu9_3 := u9_3.at_; have cu9_3 := u9_3.ch; have zu9_3 := u9_3.size
   refine WL.append Tryd.underlying23 el33 rfl (by decide) (jt2 rfl (lt rfl (lh))) (lh) (own_ch hown cu9_3 (fun _ _ => id)) (by first | assumption | exact cu9_3.at0 (by assumption) | exact cu9_3.at0 (hcl2.at0 (by assumption))) rfl (by simp [Value.oneCell']) (by unfold maxLen; have := spl_len (n := Lr r + i) (by omega); omega) (by have := spl_len (n := Lr r + i) (by omega); omega) (by have := hcl2.size; have := cu9_3.size; omega) rfl ?_
   intro va9_4 w4 ho9_4 ca9_4
   have hlen : (spl (Lr r + i)).length = Lr r + i := spl_len (by omega)
   have hown2 : OC w4 w.heap.size va9_4 (spl (Lr r + (i + 1))) := by
     unfold OC
     rw [spl_succ (by omega) (by omega), List.map_append, List.length_append]
     exact ho9_4
   have hcl3 := (hcl2.trans0 cu9_3).trans ca9_4 (H := fun _ => False) (fun _ _ e => e) (fun j hj e => by have := (own_lt hown e).1; omega)
   refine WL.x (X.asg (lh)) rfl ?_
   refine WL.e7 Nx.thn 0 3 4 5 6 22 23 (jt4 rfl (jt2 rfl (s0))) (lh) (jt4 rfl (jt2 rfl (s4))) (jt4 rfl (jt2 rfl (s5))) (jt4 rfl (jt2 rfl (s6))) (jt4 rfl (jt2 rfl (s22))) (jt4 rfl (jt2 rfl (s23))) ?_
   intro σ11 s0 s3 s4 s5 s6 s22 s23
   refine W.region ?_
   refine WL.x (X.mv (s4)) rfl ?_
   refine WL.x (X.mv (lt rfl (s5))) rfl ?_
   refine WL.x (v := cv (pos r (i + 1))) (X.cadd (lt rfl (lh)) (lh) (hsp.2 i (by omega)).1) rfl ?_
   refine WL.x (X.asg (lh)) rfl ?_
   refine WL.e7 (Nx.blk Nx.thn) 0 3 4 5 6 22 23 (jt4 rfl (s0)) (jt4 rfl (s3)) (lh) (jt4 rfl (s5)) (jt4 rfl (s6)) (jt4 rfl (s22)) (jt4 rfl (s23)) ?_
   intro σ12 s0 s3 s4 s5 s6 s22 s23
   refine W.region ?_
   first | refine WL.x (X.add (s23) lc (by omega) (by omega)) rfl ?_ | refine WL.x (X.addw (s23) lc) rfl ?_
   refine WL.x (X.mv (lh)) rfl ?_
   refine WL.e7 Nx.thn 0 3 4 5 6 22 23 (jt2 rfl (s0)) (jt2 rfl (s3)) (jt2 rfl (s4)) (jt2 rfl (s5)) (jt2 rfl (s6)) (jt2 rfl (s22)) (lh) ?_
   intro σ13 s0 s3 s4 s5 s6 s22 s23
   refine ⟨i + 1, by first | omega | (dsimp only; omega), ⟨s0.trans qo2.symm, s5.trans qo3.symm, s6.trans qo4.symm, s22.trans qo5.symm, trivial⟩, _, s3, s4, s23, by omega, hown2, hcl3⟩
  ·
   refine W.exit (Nx.xthn (Nx.xthn (Nx.xblk Nx.thn))) ?_
   refine W.region ?_
   refine WL.x (X.mv (s5)) rfl ?_
   refine WL.x (v := .complex .f64 (sbs (r + 1)).1 (sbs (r + 1)).2) (X.cmul (lh) lc hsp.1) rfl ?_
   refine WL.x (X.asg (lh)) rfl ?_
   refine WL.e5 (Nx.blk Nx.thn) 0 3 4 5 6 (jt2 rfl (lt rfl (s0))) (jt2 rfl (lt rfl (s3))) (jt2 rfl (lt rfl (s4))) (lh) (jt2 rfl (lt rfl (s6))) ?_
   intro σ14 s0 s3 s4 s5 s6
   refine W.region ?_
   refine WL.x (X.mv (s6)) rfl ?_
   first | refine WL.x (X.add (lh) lc (by omega) (by omega)) rfl ?_ | refine WL.x (X.addw (lh) lc) rfl ?_
   refine WL.x (X.asg (lh)) rfl ?_
   refine WL.e5 Nx.thn 0 3 4 5 6 (jt2 rfl (lt rfl (s0))) (jt2 rfl (lt rfl (s3))) (jt2 rfl (lt rfl (s4))) (jt2 rfl (lt rfl (s5))) (lh) ?_
   intro σ15 s0 s3 s4 s5 s6
   obtain rfl : i = c := by omega
   refine ⟨(r + 1, Lr r + i), by (try dsimp only); omega, ⟨s0.trans qo1.symm, trivial⟩, _, _, _, _, s3, s4, s5, s6, by omega, by omega, by omega, hown, (fun h => by have := hc1.2.2 h; subst this; exact ⟨rfl, rfl, rfl⟩), hcl2⟩
 ·
  refine W.exit (Nx.xthn (Nx.xthn (Nx.xblk Nx.thn))) ?_
  refine W.seq ?_
  refine W.region ?_
  refine WL.x (X.mv (s3)) rfl ?_
  refine WL.x (X.asg (lh)) rfl ?_
  refine WL.e1 Nx.thn 2 (lh) ?_
  intro σ16 s2
  refine W.ret1 Nx.f1 s2 ?_
  have hmN2 : m = N := by omega
  subst hmN2
  rw [hN2]
  exact ⟨hown, hcl⟩
end Go.Proofs.YtfnhhgoefanloaaDoor
