/-
  A part of the walk of the program.
-/
import Derived.Test.YtfnhhgoefanloaaDoorF
set_option linter.unusedVariables false
set_option linter.unusedSimpArgs false
set_option maxRecDepth 100000
namespace Go.Proofs.YtfnhhgoefanloaaDoor
open Go Go.RowKit Sg
theorem bd34 : Sg.Bld Tryd.prog 34 [0, 1, 2, 3] [.complex .f64 0 0, .complex .f64 0 0, .complex .f64 0 0, .complex .f64 0 0] := ⟨_, rfl, rfl, .inr ⟨_, _, _, rfl, rfl, rfl, Sg.allAt2 (n := 4) rfl⟩⟩

theorem OC.slice {w : World} {base : Nat} {a : Option Addr} {m c : Nat} {l : List Pl} (h : OC w base (.slice a m c) l) : m = l.length := by
  obtain ⟨a', c', e⟩ := h.len
  simp only [Value.slice.injEq] at e
  exact e.2.1
theorem rot0 (r : Nat) : rot r (0, 0) = (0, 0) := by
  unfold rot
  repeat' split
  all_goals rfl
theorem byb_at {r : Nat} (h : r < 4) : (#[Value.complex .f64 4607182418800017408 0, .complex .f64 0 4607182418800017408, .complex .f64 13830554455654793216 0, .complex .f64 0 13830554455654793216] : Array Value)[r]? = some (.complex .f64 (byb r).1 (byb r).2) := by
  match r, h with
  | 0, _ => rfl
  | 1, _ => rfl
  | 2, _ => rfl
  | 3, _ => rfl
/-- The letter of the k-th place. -/
def letN (k : Nat) : UInt8 := UInt8.ofNat (97 + k % 26)
theorem letN_nat (k : Nat) : (letN k).toNat = 97 + k % 26 := by unfold letN; rw [UInt8.toNat_ofNat']; omega
theorem letN_ok (k : Nat) : letN k ≠ 46 ∧ letN k ≠ 10 := by
  have h := letN_nat k
  refine ⟨fun e => ?_, fun e => ?_⟩
  · rw [e] at h; have h9 : (46 : UInt8).toNat = 46 := rfl; omega
  · rw [e] at h; have h9 : (10 : UInt8).toNat = 10 := rfl; omega
/-- What stands at a place. -/
def gM (M : List (Pl × UInt8)) (q : Pl) : UInt8 := (atG M q).getD 46
theorem gM_lett {M : List (Pl × UInt8)} {l : List Pl} (h1 : M.map Prod.fst = l) (h2 : ∀ x ∈ M, x.2 ≠ 46 ∧ x.2 ≠ 10) : Lett (gM M) l := by
  intro q
  unfold gM
  cases hq : atG M q with
  | none =>
    have hn := atG_none hq
    rw [h1] at hn
    exact ⟨fun h => absurd h hn, fun _ => rfl⟩
  | some c =>
    have hm := atG_mem hq
    refine ⟨fun _ => h2 _ hm, fun h => ?_⟩
    rw [← h1] at h
    exact absurd (List.mem_map.2 ⟨_, hm, rfl⟩) h
theorem gM_some {M : List (Pl × UInt8)} {q : Pl} (h : (atG M q).isSome = true) : (((atG M q).map UInt8.toNat).getD 0 : Nat) = (gM M q).toNat := by
  unfold gM
  cases hq : atG M q with
  | none => rw [hq] at h; cases h
  | some c => rfl
theorem gM_none {M : List (Pl × UInt8)} {q : Pl} (h : (atG M q).isSome = false) : gM M q = 46 := by
  unfold gM
  cases hq : atG M q with
  | none => rfl
  | some c => rw [hq] at h; cases h
def wOf (l : List Pl) : Nat := ((high l).1 - (low l).1 + 1).toNat
def hOf (l : List Pl) : Nat := ((high l).2 - (low l).2 + 1).toNat
theorem low_le_high (l : List Pl) : (low l).1 ≤ 0 ∧ (low l).2 ≤ 0 ∧ 0 ≤ (high l).1 ∧ 0 ≤ (high l).2 := by
  have h1 := foldl_lo l (0, 0)
  have h2 := foldl_hi l (0, 0)
  exact ⟨h1.1, h1.2, h2.1, h2.2⟩
theorem foldl_lo_mem {q : Pl} : ∀ {l : List Pl} {a : Pl}, q ∈ l → (l.foldl lo2 a).1 ≤ q.1 ∧ (l.foldl lo2 a).2 ≤ q.2
  | x :: l, a, h => by
    rw [List.foldl_cons]
    rcases List.mem_cons.1 h with rfl | h
    · have := foldl_lo l (lo2 a q)
      have h1 : (lo2 a q).1 ≤ q.1 ∧ (lo2 a q).2 ≤ q.2 := by unfold lo2; (try dsimp only); omega
      omega
    · exact foldl_lo_mem h
theorem foldl_hi_mem {q : Pl} : ∀ {l : List Pl} {a : Pl}, q ∈ l → q.1 ≤ (l.foldl hi2 a).1 ∧ q.2 ≤ (l.foldl hi2 a).2
  | x :: l, a, h => by
    rw [List.foldl_cons]
    rcases List.mem_cons.1 h with rfl | h
    · have := foldl_hi l (hi2 a q)
      have h1 : q.1 ≤ (hi2 a q).1 ∧ q.2 ≤ (hi2 a q).2 := by unfold hi2; (try dsimp only); omega
      omega
    · exact foldl_hi_mem h
theorem in_grid {l : List Pl} {q : Pl} (h : q ∈ l) : q ∈ gridP (low l).1 (wOf l) (high l).2 (hOf l) := by
  have h1 := foldl_lo_mem (a := (0, 0)) h
  have h2 := foldl_hi_mem (a := (0, 0)) h
  have h1 : (low l).1 ≤ q.1 ∧ (low l).2 ≤ q.2 := h1
  have h2 : q.1 ≤ (high l).1 ∧ q.2 ≤ (high l).2 := h2
  rw [gridP_mem]
  unfold wOf hOf
  omega
/-- The drawing of places, with these letters. -/
def drawT (g : Pl → UInt8) (l : List Pl) : Bs := gridT g (low l).1 (wOf l) (high l).2 (hOf l)
theorem plain_g (u v : Nat) (p : Pl) (w : World) (h1 : (FloatKind.f64.decode u).toInt .zero = some p.1) (h2 : (FloatKind.f64.decode v).toInt .zero = some p.2) (hp : Near 10 p) :
  Sg.Ret Tryd.prog 10 #[.complex .f64 u v] w fun v w' => v = cv p ∧ w = w' := by
 refine enter1 (n := 12) (l := [.complex .f64 u v]) Tryd.func10 rfl rfl rfl rfl ?_
 refine W.g1 0 (v1 := .complex .f64 u v) rfl ?_; intro σ s0
 refine W.seq ?_
 refine W.region ?_
 refine WL.x (X.asg lc) rfl ?_
 refine WL.e1 Nx.thn 0 (lt rfl (s0)) ?_
 intro σ1 s0
 refine W.seq ?_
 refine W.region ?_
 refine WL.x (X.mv (s0)) rfl ?_
 refine WL.x (X.real (lh)) rfl ?_
 refine WL.x (v := .int .i64 (p.1)) (X.f2i Tryd.underlying44 Tryd.underlying3 (lh) h1 (by have := hp.1.1; omega) (by have := hp.1.2; omega)) rfl ?_
 refine WL.x (X.i2f Tryd.underlying3 Tryd.underlying44 (lh)) rfl ?_
 refine WL.x (X.mv (jt4 rfl (s0))) rfl ?_
 refine WL.x (X.imag (lh)) rfl ?_
 refine WL.x (v := .int .i64 (p.2)) (X.f2i Tryd.underlying44 Tryd.underlying3 (lh) h2 (by have := hp.2.1; omega) (by have := hp.2.2; omega)) rfl ?_
 refine WL.x (X.i2f Tryd.underlying3 Tryd.underlying44 (lh)) rfl ?_
 refine WL.x (X.complex (jt4 rfl (lh)) (lh)) rfl ?_
 refine WL.x (X.asg (lh)) rfl ?_
 refine WL.e1 Nx.thn 2 (lh) ?_
 intro σ2 s2
 refine W.ret1 Nx.f1 s2 ?_
 exact ⟨rfl, rfl⟩
set_option maxHeartbeats 800000 in
theorem turn_ok (a : Option Addr) (c : Nat) (l : List Pl) (q : Int) (w : World) (hs : Sl w (.slice a l.length c) (l.map cv)) (h5 : ∀ p ∈ l, -5 ≤ p.1 ∧ p.1 ≤ 5 ∧ -5 ≤ p.2 ∧ p.2 ≤ 5) (hlen : l.length ≤ 100) :
  Sg.Ret Tryd.prog 4 #[.slice a l.length c, .int .i64 q] w fun v w' => OC w' w.heap.size v (l.map (rot (q % 4).toNat)) ∧ Ch0 w w' := by
 obtain ⟨r, hr⟩ : ∃ r : Nat, r = (q % 4).toNat := ⟨_, rfl⟩
 have hr4 : r < 4 := by omega
 rw [← hr]
 refine enter1 (n := 32) (l := [.slice a l.length c, .int .i64 q]) Tryd.func4 rfl rfl rfl rfl ?_
 refine W.g2 0 1 (v1 := .slice a l.length c) (v2 := .int .i64 q) rfl rfl ?_; intro σ s0 s1
 refine W.seq ?_
 refine W.region ?_
 refine WL.x (X.asg lc) rfl ?_
 refine WL.e2 Nx.thn 0 1 (lt rfl (s0)) (lt rfl (s1)) ?_
 intro σ1 s0 s1
 refine W.seq ?_
 refine W.region ?_
 refine WL.x (X.build bd34 (pcons lc (pcons lc (pcons lc (pcons lc pnil)))) rfl (rfl : _ = [_, _, _, _])) rfl ?_
 refine WL.x (X.mv (lt rfl (s1))) rfl ?_
 refine WL.x (v := .int .i64 ((r : Nat) : Int)) (by rw [hr, ← and3 q]; exact X.and (lh) lc) rfl ?_
 refine WL.x (X.indexA Tryd.underlying34 pl33 el33 (jt2 rfl (lh)) (lh) (by omega) (by omega) (byb_at hr4)) rfl ?_
 refine WL.x (X.asg (lh)) rfl ?_
 refine WL.e2 Nx.thn 0 5 (jt4 rfl (lt rfl (s0))) (lh) ?_
 intro σ2 s0 s5
 refine W.seq ?_
 refine W.region ?_
 refine WL.x (X.asg lc) rfl ?_
 refine WL.e3 Nx.thn 0 5 6 (lt rfl (s0)) (lt rfl (s5)) (lh) ?_
 intro σ3 s0 s5 s6
 refine W.seq ?_
 refine W.seq ?_
 refine W.region ?_
 refine WL.x (X.mv (s0)) rfl ?_
 refine WL.x (X.lenSl Tryd.underlying23 (lh)) rfl ?_
 refine WL.x (X.mv lc) rfl ?_
 refine WL.e5 Nx.thn 5 6 13 14 15 (jt2 rfl (lt rfl (s5))) (jt2 rfl (lt rfl (s6))) (jt2 rfl (lh)) (lt rfl (lh)) (lh) ?_
 intro σ4 s5 s6 s13 s14 s15
 refine W.block ?_
 have qo1 := s5
 have qo2 := s13
 have qo3 := s14
 -- loop 0: kept [5, 13, 14], varied [6, 15]
 refine W.loop (G := Nat) (fun k σ' w' => (σ' 5 = σ4 5 ∧ σ' 13 = σ4 13 ∧ σ' 14 = σ4 14 ∧ True) ∧ (∃ ov, σ' 6 = ov ∧ σ' 15 = .int .i64 (k : Int) ∧ k ≤ l.length ∧ OC w' w.heap.size ov ((l.take k).map (rot r)) ∧ Ch0 w w')) (fun k => l.length - k) (0) ⟨⟨rfl, rfl, rfl, trivial⟩, _, s6, s15, by omega, OC.nil, Ch.refl _ _⟩ ?_
 rintro k σ5 w1 ⟨⟨f5, f13, f14, _⟩, ov, s6, s15, hk, hown, hcl⟩
 have s5 := f5.trans qo1
 have s13 := f13.trans qo2
 have s14 := f14.trans qo3
 have hlk : ((l.take k).map (rot r)).length = k := by rw [List.length_map, List.length_take]; omega
 obtain ⟨oa, oc, rfl⟩ := hown.len
 rw [hlk] at s6 hown
 refine W.seq ?_
 refine W.region ?_
 refine WL.x (X.lss (s15) (s14)) rfl ?_
 refine WL.e6 Nx.thn 5 6 13 14 15 16 (lt rfl (s5)) (lt rfl (s6)) (lt rfl (s13)) (lt rfl (s14)) (lt rfl (s15)) (lh) ?_
 intro σ6 s5 s6 s13 s14 s15 s16
 refine W.seq ?_
 refine W.cndp s16 (fun hlt => ?_) (fun hlt => ?_)
 ·
  have hkl : k < l.length := by omega
  obtain ⟨lb, lo, lcs, lT, lfr, rfl, hlm, hle⟩ := c_at hs (k := k) hkl
  have hk5 := h5 _ (List.getElem_mem hkl)
  have hkn : Near 10 l[k] := near_of (by omega)
  obtain ⟨u, v, hm, hu, hv⟩ := mul_at hr4 hk5
  have hrn : Near 10 (rot r l[k]) := near_of (by have := rot_in (r := r) (k := 5) hk5; omega)
  refine W.skip Nx.thn ?_
  refine W.seq ?_
  refine W.block ?_
  refine W.seq ?_
  refine W.region ?_
  refine WL.x (X.indexAddr Tryd.underlying23 el33 (s13) (s15) (by omega) (by omega)) rfl ?_
  refine WL.x (X.load pl33 (lh) (hcl.at0 hlm) (v := cv l[k]) hle) rfl ?_
  refine WL.x (X.asg (lh)) rfl ?_
  refine WL.e6 Nx.thn 5 6 8 13 14 15 (jt2 rfl (lt rfl (s5))) (jt2 rfl (lt rfl (s6))) (lh) (jt2 rfl (lt rfl (s13))) (jt2 rfl (lt rfl (s14))) (jt2 rfl (lt rfl (s15))) ?_
  intro σ7 s5 s6 s8 s13 s14 s15
  refine W.seq ?_
  refine W.seq ?_
  refine W.region ?_
  refine WL.x (X.mv (s8)) rfl ?_
  refine WL.call1 ce9 (lh) (whole_ok l[k] w1 hkn) rfl ?_
  rintro _ _ ⟨rfl, rfl⟩
  refine WL.x (X.not (lh)) rfl ?_
  refine WL.e7 Nx.thn 5 6 8 13 14 15 21 (jt2 rfl (lt rfl (s5))) (jt2 rfl (lt rfl (s6))) (jt2 rfl (lt rfl (s8))) (jt2 rfl (lt rfl (s13))) (jt2 rfl (lt rfl (s14))) (jt2 rfl (lt rfl (s15))) (lh) ?_
  intro σ8 s5 s6 s8 s13 s14 s15 s21
  refine W.cndBF s21 (rfl) ?_
  refine W.skip Nx.thn ?_
  refine W.region ?_
  refine WL.x (X.mv (s6)) rfl ?_
  refine WL.x (X.mv (lt rfl (s8))) rfl ?_
  refine WL.call1 ce10 (lh) (plain_ok l[k] w1 hkn) rfl ?_
  rintro _ _ ⟨rfl, rfl⟩
  refine WL.x (X.mv (jt2 rfl (lt rfl (s5)))) rfl ?_
  refine WL.x (v := .complex .f64 u v) (X.cmul (lt rfl (lh)) (lh) hm) rfl ?_
  refine WL.call1 ce10 (lh) (plain_g u v (rot r l[k]) w1 hu hv hrn) rfl ?_
  rintro _ _ ⟨rfl, rfl⟩
  refine WL.bslice Tryd.underlying23 el33 rfl (pcons (lh) pnil) rfl (rfl : _ = [_]) rfl ?_
  intro w2 u8_6; have hu8_6 := u8_6.at_; have cu8_6 := u8_6.ch; have zu8_6 := u8_6.size
  refine WL.append Tryd.underlying23 el33 rfl (by decide) (jt4 rfl (jt2 rfl (lh))) (lh) (own_ch hown cu8_6 (fun _ _ => id)) (by first | assumption | exact cu8_6.at0 (by assumption) | exact cu8_6.at0 (hcl.at0 (by assumption))) rfl (by simp [Value.oneCell']) (by unfold maxLen; omega) (by omega) (by have := hcl.size; have := cu8_6.size; omega) rfl ?_
  intro va8_7 w3 ho8_7 ca8_7
  have hown2 : OC w3 w.heap.size va8_7 ((l.take (k + 1)).map (rot r)) := by
    unfold OC
    rw [List.take_succ_eq_append_getElem hkl, List.map_append, List.map_append, List.length_append]
    exact ho8_7
  have hcl3 := (hcl.trans0 cu8_6).trans ca8_7 (H := fun _ => False) (fun _ _ e => e) (fun j hj e => by have := (own_lt hown e).1; omega)
  refine WL.x (X.asg (lh)) rfl ?_
  refine WL.e5 (Nx.blk Nx.thn) 5 6 13 14 15 (jt8 rfl (lt rfl (s5))) (lh) (jt8 rfl (lt rfl (s13))) (jt8 rfl (lt rfl (s14))) (jt8 rfl (lt rfl (s15))) ?_
  intro σ9 s5 s6 s13 s14 s15
  refine W.region ?_
  first | refine WL.x (X.add (s15) lc (by omega) (by omega)) rfl ?_ | refine WL.x (X.addw (s15) lc) rfl ?_
  refine WL.x (X.mv (lh)) rfl ?_
  refine WL.e5 Nx.thn 5 6 13 14 15 (jt2 rfl (s5)) (jt2 rfl (s6)) (jt2 rfl (s13)) (jt2 rfl (s14)) (lh) ?_
  intro σ10 s5 s6 s13 s14 s15
  refine ⟨k + 1, by first | omega | (dsimp only; omega), ⟨s5.trans qo1.symm, s13.trans qo2.symm, s14.trans qo3.symm, trivial⟩, _, s6, s15, by omega, hown2, hcl3⟩
 ·
  refine W.exit (Nx.xthn (Nx.xthn (Nx.xblk Nx.thn))) ?_
  refine W.seq ?_
  refine W.region ?_
  refine WL.x (X.mv (s6)) rfl ?_
  refine WL.x (X.asg (lh)) rfl ?_
  refine WL.e1 Nx.thn 4 (lh) ?_
  intro σ11 s4
  refine W.ret1 Nx.f1 s4 ?_
  have hk9 : k = l.length := by omega
  subst hk9
  rw [List.take_length] at hown
  exact ⟨hown, hcl⟩
end Go.Proofs.YtfnhhgoefanloaaDoor
