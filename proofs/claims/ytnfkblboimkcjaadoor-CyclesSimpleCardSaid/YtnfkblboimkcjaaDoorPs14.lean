/-
  A part of the walk of the program. | A part of the walk of the program. | A part of the walk of the program.
-/
import Derived.Test.YtnfkblboimkcjaaDoorPs13
import Derived.Test.YtnfkblboimkcjaaDoorRows
section
set_option linter.unusedVariables false
set_option linter.unusedSimpArgs false
set_option maxRecDepth 100000
namespace Go.Proofs.YtnfkblboimkcjaaDoor
open Go Go.RowKit Sg

theorem neg_dec {p : Prop} {i1 : Decidable p} {i2 : Decidable (¬ p)} {b : Bool} (h : (!b) = decide (¬ p)) : b = decide p := by
  by_cases hp : p
  · rw [decide_eq_false (fun h9 => h9 hp)] at h; rw [decide_eq_true hp]; simpa using h
  · rw [decide_eq_true hp] at h; rw [decide_eq_false hp]; simpa using h
theorem idxw_ok (A : Nat → Prop) (pa : Option Addr) (pc : Nat) (l : List Gwy) (x : Gwy) (w : World) (hl : RSl 8 (Rc fwy) A w (.slice pa l.length pc) l) (hm : l.length ≤ 1000000) (hx : x ∈ l) :
  Sg.Ret Tryd.prog 31 #[.slice pa l.length pc, .agg (fwy x).toArray] w fun v w' => ∃ k : Nat, v = .int .i64 (k : Int) ∧ Ch0 w w' := by
 refine enter1 (n := 19) (l := [.slice pa l.length pc, .agg (fwy x).toArray]) Tryd.func31 rfl rfl rfl rfl ?_
 refine W.g2 0 1 (v1 := .slice pa l.length pc) (v2 := .agg (fwy x).toArray) rfl rfl ?_; intro σ s0 s1
 refine W.seq ?_
 refine W.region ?_
 refine WL.box (s1) rfl ?_
 intro w1 u0_0; have hu0_0 := u0_0.at_; have cu0_0 := u0_0.ch; have zu0_0 := u0_0.size
 refine WL.x (X.asg lc) rfl ?_
 refine WL.e2 Nx.thn 0 3 (jt2 rfl (s0)) (lt rfl (lh)) ?_
 intro σ1 s0 s3
 refine W.seq ?_
 refine W.seq ?_
 refine W.region ?_
 refine WL.x (X.mv (s0)) rfl ?_
 refine WL.x (X.lenSl Tryd.underlying22 (lh)) rfl ?_
 refine WL.x (X.mv lc) rfl ?_
 refine WL.e4 Nx.thn 0 3 7 8 (jt2 rfl (lt rfl (s0))) (jt2 rfl (lt rfl (s3))) (lt rfl (lh)) (lh) ?_
 intro σ2 s0 s3 s7 s8
 refine W.block ?_
 have qo1 := s0
 have qo2 := s3
 have qo3 := s7
 -- loop 0: kept [0, 3, 7], varied [8]
 refine W.loop (G := Nat) (fun k σ' w' => (σ' 0 = σ2 0 ∧ σ' 3 = σ2 3 ∧ σ' 7 = σ2 7 ∧ True) ∧ (σ' 8 = .int .i64 (k : Int) ∧ k ≤ l.length ∧ (∀ i (h : i < l.length), i < k → x ≠ l[i]) ∧ Ch0 w1 w')) (fun k => l.length - k) (0) ⟨⟨rfl, rfl, rfl, trivial⟩, s8, by omega, (fun i _ h => absurd h (by omega)), Ch.refl _ _⟩ ?_
 rintro k σ3 w2 ⟨⟨f0, f3, f7, _⟩, s8, hk, hno, hcl2⟩
 have s0 := f0.trans qo1
 have s3 := f3.trans qo2
 have s7 := f7.trans qo3
 refine W.seq ?_
 refine W.region ?_
 refine WL.x (X.lss (s8) (s7)) rfl ?_
 refine WL.e5 Nx.thn 0 3 7 8 9 (lt rfl (s0)) (lt rfl (s3)) (lt rfl (s7)) (lt rfl (s8)) (lh) ?_
 intro σ4 s0 s3 s7 s8 s9
 refine W.seq ?_
 refine W.cndp s9 (fun hlt => ?_) (fun hlt => ?_)
 ·
  have hkl : k < l.length := by omega
  obtain ⟨lb, lo, lcs, lT, lfr, rfl, hlm, hle9, -, hlc⟩ := hl.get (k := k) hkl
  have hbx := hcl2.at0 hu0_0
  have hlm := (cu0_0.trans0 hcl2).at0 hlm
  refine W.skip Nx.thn ?_
  refine W.seq ?_
  refine W.block ?_
  refine W.seq ?_
  refine W.region ?_
  refine WL.x (X.mv (s8)) rfl ?_
  refine WL.x (X.asg (lh)) rfl ?_
  refine WL.e5 Nx.thn 0 3 5 7 8 (jt2 rfl (s0)) (jt2 rfl (s3)) (lh) (jt2 rfl (s7)) (jt2 rfl (s8)) ?_
  intro σ5 s0 s3 s5 s7 s8
  refine W.seq ?_
  refine W.draw mo (by kernel_rfl) Nx.thn ?_
  refine WQ.x (fun m => X.loadBox (w := w2.drewN m) (vs := fwy x) ag27 (s3) hbx rfl) rfl ?_
  refine WQ.x (fun _ => X.mv (lt rfl (s0))) rfl ?_
  refine WQ.x (fun _ => X.mv (jt2 rfl (s5))) rfl ?_
  refine WQ.x (fun _ => X.indexAddr Tryd.underlying22 el27 (lt rfl (lh)) (lh) (by omega) (by omega)) rfl ?_
  refine WQ.x (fun m => X.loadS (w := w2.drewN m) (vs := fwy l[k]) ag27 (lh) hlm rfl hlc) rfl ?_
  obtain ⟨fs9, hu9, hc9⟩ := cmp_wy x l[k]
  have hv9 := cmpv_wy x l[k]
  refine WQ.x (v := .bool (decide (x = l[k]))) (fun m => X.eqlAgg hu9 hp_wy hg_wy (jt4 rfl (lh)) (lh) hc9 (neg_dec hv9)) rfl ?_
  refine WQ.e6 0 3 5 7 8 16 (jt4 rfl (jt2 rfl (s0))) (jt4 rfl (jt2 rfl (s3))) (jt4 rfl (jt2 rfl (s5))) (jt4 rfl (jt2 rfl (s7))) (jt4 rfl (jt2 rfl (s8))) (lh) ?_
  intro σ6 s0 s3 s5 s7 s8 s16
  intro _; refine gdrew ?_; intro w3 hh4 cd4 dr4
  refine W.cndp s16 (fun hq => ?_) (fun hq => ?_)
  ·
   refine W.seq ?_
   refine W.region ?_
   refine WL.x (X.mv (s5)) rfl ?_
   refine WL.x (X.asg (lh)) rfl ?_
   refine WL.e1 Nx.thn 4 (lh) ?_
   intro σ7 s4
   refine W.ret1 (Nx.rblk (Nx.rthn (Nx.rthn (Nx.rblk (Nx.rthn Nx.f1))))) s4 ?_
   exact ⟨k, rfl, (cu0_0.trans0 hcl2).trans0 cd4⟩
  ·
   refine W.skip (Nx.blk Nx.thn) ?_
   refine W.region ?_
   refine WL.x (X.add (s8) lc (by omega) (by omega)) rfl ?_
   refine WL.x (X.mv (lh)) rfl ?_
   refine WL.e4 Nx.thn 0 3 7 8 (jt2 rfl (s0)) (jt2 rfl (s3)) (jt2 rfl (s7)) (lh) ?_
   intro σ8 s0 s3 s7 s8
   refine ⟨k + 1, by omega, ⟨s0.trans qo1.symm, s3.trans qo2.symm, s7.trans qo3.symm, trivial⟩, s8, by omega, (fun i h1 h2 => by by_cases e9 : i = k; (· subst e9; exact hq); (· exact hno i h1 (by omega))), hcl2.trans0 cd4⟩
 ·
  exfalso
  obtain ⟨i, hi, e⟩ := List.mem_iff_getElem.1 hx
  exact hno i hi (by omega) e.symm
theorem contw_ok (A : Nat → Prop) (pa : Option Addr) (pc : Nat) (l : List Gwy) (x : Gwy) (w : World) (hl : RSl 8 (Rc fwy) A w (.slice pa l.length pc) l) (hm : l.length ≤ 1000000) (hx : x ∈ l) :
  Sg.Ret Tryd.prog 10 #[.slice pa l.length pc, .agg (fwy x).toArray] w fun v w' => v = .bool true ∧ Ch0 w w' := by
 refine enter1 (n := 9) (l := [.slice pa l.length pc, .agg (fwy x).toArray]) Tryd.func10 rfl rfl rfl rfl ?_
 refine W.g2 0 1 (v1 := .slice pa l.length pc) (v2 := .agg (fwy x).toArray) rfl rfl ?_; intro σ s0 s1
 refine W.seq ?_
 refine W.region ?_
 refine WL.box (s1) rfl ?_
 intro w1 u0_0; have hu0_0 := u0_0.at_; have cu0_0 := u0_0.ch; have zu0_0 := u0_0.size
 refine WL.x (X.asg lc) rfl ?_
 refine WL.e2 Nx.thn 0 3 (jt2 rfl (s0)) (lt rfl (lh)) ?_
 intro σ1 s0 s3
 refine W.seq ?_
 refine W.region ?_
 refine WL.x (X.mv (s0)) rfl ?_
 refine WL.x (X.loadBox (vs := fwy x) ag27 (lt rfl (s3)) hu0_0 rfl) rfl ?_
 refine WL.call2 ce31 (lt rfl (lh)) (lh) (idxw_ok A pa pc l x w1 (hl.ch0 (monRc _) cu0_0) hm hx) rfl ?_
 rintro _ w2 ⟨k, rfl, c1⟩
 refine WL.x (X.geq (lh) lc) rfl ?_
 refine WL.x (X.asg (lh)) rfl ?_
 refine WL.e1 Nx.thn 4 (lh) ?_
 intro σ2 s4
 refine W.ret1 Nx.f1 s4 ?_
 exact ⟨congrArg Value.bool (decide_eq_true (by omega)), cu0_0.trans0 c1⟩
set_option maxHeartbeats 800000 in
theorem lsimple_ok (n : Int) (x1 : Option Addr) (c1 : Nat) (l : List Gwy) (r : Bool) (w : World) (hl : RSl 8 (Rc fwy) all w (.slice x1 l.length c1) l) (hm : l.length * 64 ≤ 140737488355328) (htab : Tab w) (hb0 : 0 < w.heap.size)  :
  Sg.Ret Tryd.prog 3 #[.int .i64 n, .slice x1 l.length c1, .bool r] w fun v w' => v = .bool true ∧ Ch0 w w' := by
 obtain ⟨L, hL⟩ : ∃ L, L = l.take (min l.length 60) := ⟨_, rfl⟩
 have hLl : L.length = min l.length 60 := by rw [hL, List.length_take]; omega
 have hLr := hl.take (k := min l.length 60) (by omega)
 rw [← hL, ← hLl] at hLr
 have hcap := hl.cap
 refine enter1 (n := 60) (l := [.int .i64 n, .slice x1 l.length c1, .bool r]) Tryd.func3 rfl rfl rfl rfl ?_
 refine W.g3 0 1 2 (v1 := .int .i64 n) (v2 := .slice x1 l.length c1) (v3 := .bool r) rfl rfl rfl ?_; intro σ s0 s1 s2
 refine W.seq ?_
 refine W.region ?_
 refine WL.x (X.asg lc) rfl ?_
 refine WL.e3 Nx.thn 0 1 2 (lt rfl (s0)) (lt rfl (s1)) (lt rfl (s2)) ?_
 intro σ1 s0 s1 s2
 refine W.seq ?_
 refine W.region ?_
 refine WL.x (X.mv (s1)) rfl ?_
 refine WL.x (X.mv (lt rfl (s1))) rfl ?_
 refine WL.x (X.lenSl Tryd.underlying22 (lh)) rfl ?_
 refine WL.x (v := .int .i64 ((min l.length 60 : Nat) : Int)) (by rw [← mn60]; exact X.min (lh) lc) rfl ?_
 refine WL.x (v := .slice x1 L.length c1) (by rw [hLl]; exact X.slH (h := ((min l.length 60 : Nat) : Int)) Tryd.underlying22 el27 (jt2 rfl (lt rfl (lh))) (lh) (by omega) (by omega)) rfl ?_
 refine WL.x (X.asg (lh)) rfl ?_
 refine WL.e3 Nx.thn 0 1 2 (jt4 rfl (jt2 rfl (s0))) (lh) (jt4 rfl (jt2 rfl (s2))) ?_
 intro σ2 s0 s1 s2
 refine W.seq ?_
 refine W.seq ?_
 refine W.region ?_
 refine WL.x (X.asg lc) rfl ?_
 refine WL.e4 Nx.thn 0 1 2 7 (lt rfl (s0)) (lt rfl (s1)) (lt rfl (s2)) (lh) ?_
 intro σ3 s0 s1 s2 s7
 refine W.block ?_
 have qo1 := s0
 have qo2 := s1
 have qo3 := s2
 -- loop 0: kept [0, 1, 2], varied [7]
 refine W.loop (G := Nat) (fun e σ' w' => (σ' 0 = σ3 0 ∧ σ' 1 = σ3 1 ∧ σ' 2 = σ3 2 ∧ True) ∧ (σ' 7 = .int .i64 ((8 + e : Nat) : Int) ∧ e ≤ 4 ∧ Ch0 w w')) (fun e => 4 - e) (0) ⟨⟨rfl, rfl, rfl, trivial⟩, s7, by omega, Ch.refl _ _⟩ ?_
 rintro e σ4 w1 ⟨⟨f0, f1, f2, _⟩, s7, he, hcl⟩
 have s0 := f0.trans qo1
 have s1 := f1.trans qo2
 have s2 := f2.trans qo3
 refine W.seq ?_
 refine W.seq ?_
 refine W.region ?_
 refine WL.x (X.mv (s7)) rfl ?_
 refine WL.x (X.leq (lh) lc) rfl ?_
 refine WL.e5 Nx.thn 0 1 2 7 20 (jt2 rfl (s0)) (jt2 rfl (s1)) (jt2 rfl (s2)) (jt2 rfl (s7)) (lh) ?_
 intro σ5 s0 s1 s2 s7 s20
 refine W.cndp s20 (fun hle => ?_) (fun hle => ?_)
 ·
  have hkk : okK ((8 + e : Nat) : Int) := by unfold okK; omega
  refine W.skip Nx.thn ?_
  refine W.seq ?_
  refine W.block ?_
  refine W.seq ?_
  refine W.region ?_
  refine WL.x (X.mv (s0)) rfl ?_
  refine WL.x (X.mv (lt rfl (s1))) rfl ?_
  refine WL.x (X.mv (jt2 rfl (s7))) rfl ?_
  refine WL.x (X.mv (jt2 rfl (lt rfl (s2)))) rfl ?_
  refine WL.call4 ce7 (jt2 rfl (lt rfl (lh))) (jt2 rfl (lh)) (lt rfl (lh)) (lh) (cfind_ok all n x1 c1 L ((8 + e : Nat) : Int) r w1 (hLr.ch0 (monRc _) hcl) (by omega) (htab.ch0 hcl) (by have := hcl.size; omega)) rfl ?_
  rintro _ w2 ⟨va, rfl, hown, c2⟩
  have hcl := hcl.trans0 c2
  refine WL.x (X.mv (lh)) rfl ?_
  refine WL.x (X.ex2_0 (lh)) rfl ?_
  refine WL.x (X.ex2_1 (lt rfl (lh))) rfl ?_
  refine WL.x (X.asg (lt rfl (lh))) rfl ?_
  refine WL.x (X.asg (lt rfl (lh))) rfl ?_
  refine WL.e6 Nx.thn 0 1 2 7 8 9 (jt8 rfl (jt2 rfl (s0))) (jt8 rfl (jt2 rfl (s1))) (jt8 rfl (jt2 rfl (s2))) (jt8 rfl (jt2 rfl (s7))) (lt rfl (lh)) (lh) ?_
  intro σ6 s0 s1 s2 s7 s8 s9
  refine W.seq ?_
  refine W.seq ?_
  refine W.region ?_
  refine WL.x (X.mv (s0)) rfl ?_
  refine WL.x (X.mv (lt rfl (s1))) rfl ?_
  refine WL.x (X.mv (jt2 rfl (s7))) rfl ?_
  refine WL.x (X.mv (jt2 rfl (lt rfl (s2)))) rfl ?_
  refine WL.call4 ce8 (jt2 rfl (lt rfl (lh))) (jt2 rfl (lh)) (lt rfl (lh)) (lh) (rcfind_ok all n x1 c1 L ((8 + e : Nat) : Int) r w2 (hLr.ch0 (monRc _) hcl) (by omega)) rfl ?_
  rintro _ w3 ⟨vb, rfl, hob, c3⟩
  have hcl := hcl.trans0 c3
  refine WL.x (X.mv (lh)) rfl ?_
  refine WL.x (X.ex2_0 (lh)) rfl ?_
  refine WL.x (X.ex2_1 (lt rfl (lh))) rfl ?_
  refine WL.x (X.asg (lt rfl (lh))) rfl ?_
  refine WL.x (X.asg (lt rfl (lh))) rfl ?_
  refine WL.e7 Nx.thn 0 1 2 7 8 9 11 (jt8 rfl (jt2 rfl (s0))) (jt8 rfl (jt2 rfl (s1))) (jt8 rfl (jt2 rfl (s2))) (jt8 rfl (jt2 rfl (s7))) (jt8 rfl (jt2 rfl (s8))) (jt8 rfl (jt2 rfl (s9))) (lh) ?_
  intro σ7 s0 s1 s2 s7 s8 s9 s11
  refine W.seq ?_
  refine W.region ?_
  refine WL.x (X.mv (s9)) rfl ?_
  refine WL.x (X.mv (lt rfl (s11))) rfl ?_
  refine WL.x (X.neqB Tryd.underlying4 (lt rfl (lh)) (lh)) rfl ?_
  refine WL.e7 Nx.thn 0 1 2 7 8 9 41 (jt2 rfl (lt rfl (s0))) (jt2 rfl (lt rfl (s1))) (jt2 rfl (lt rfl (s2))) (jt2 rfl (lt rfl (s7))) (jt2 rfl (lt rfl (s8))) (jt2 rfl (lt rfl (s9))) (lh) ?_
  intro σ8 s0 s1 s2 s7 s8 s9 s41
  refine W.cndN s41 (fun h => h rfl) ?_
  refine W.skip Nx.thn ?_
  refine W.seq ?_
  refine W.seq ?_
  refine W.region ?_
  refine WL.x (X.mv (s9)) rfl ?_
  refine WL.x (X.not (lh)) rfl ?_
  refine WL.e6 Nx.thn 0 1 2 7 8 43 (jt2 rfl (s0)) (jt2 rfl (s1)) (jt2 rfl (s2)) (jt2 rfl (s7)) (jt2 rfl (s8)) (lh) ?_
  intro σ9 s0 s1 s2 s7 s8 s43
  refine W.cnd s43 (fun hnf => ?_) (fun hnf => ?_)
  ·
   refine W.exit (Nx.xthn (Nx.xblk Nx.thn)) ?_
   refine W.region ?_
   refine WL.x (X.mv (s7)) rfl ?_
   refine WL.x (X.addN (b := 1) (lh) lc (by omega)) rfl ?_
   refine WL.x (X.asg (lh)) rfl ?_
   refine WL.e4 Nx.thn 0 1 2 7 (jt2 rfl (lt rfl (s0))) (jt2 rfl (lt rfl (s1))) (jt2 rfl (lt rfl (s2))) (lh) ?_
   intro σ10 s0 s1 s2 s7
   refine ⟨e + 1, by omega, ⟨s0.trans qo1.symm, s1.trans qo2.symm, s2.trans qo3.symm, trivial⟩, s7, by omega, hcl⟩
  ·
   obtain ⟨c, hfc⟩ : ∃ c, findC n L ((8 + e : Nat) : Int) r = some c := Option.isSome_iff_exists.1 (by simpa using hnf)
   rw [hfc] at hown
   have hown : OwnF 8 fwy _ _ 27 va c := hown
   obtain ⟨ca, cc, rfl⟩ := hown.len
   have hcr := (OwnF.rsl (A := all) fwy_len hown (fun _ _ => trivial)).ch0 (monRc _) c3
   have hcl9 := find_len n L ((8 + e : Nat) : Int) r
   rw [hfc] at hcl9
   have hcl9 : c.length ≤ 400 := hcl9
   refine W.skip Nx.thn ?_
   refine W.seq ?_
   refine W.seq ?_
   refine W.region ?_
   refine WL.x (X.mv (s8)) rfl ?_
   refine WL.x (X.mv (lt rfl (s7))) rfl ?_
   refine WL.x (X.mv (jt2 rfl (s2))) rfl ?_
   refine WL.call3 ce9 (jt2 rfl (lh)) (lt rfl (lh)) (lh) (ris_ok all ca cc c ((8 + e : Nat) : Int) r w3 hcr (by omega) hkk) rfl ?_
   rintro _ w4 ⟨bb, rfl, hbb, c4⟩
   obtain rfl : bb = true := hbb.2 (find_isC hfc)
   have hcr := hcr.ch0 (monRc _) c4
   have hcl := hcl.trans0 c4
   refine WL.x (X.not (lh)) rfl ?_
   refine WL.e6 Nx.thn 0 1 2 7 8 48 (jt4 rfl (lt rfl (s0))) (jt4 rfl (lt rfl (s1))) (jt4 rfl (lt rfl (s2))) (jt4 rfl (lt rfl (s7))) (jt4 rfl (lt rfl (s8))) (lh) ?_
   intro σ11 s0 s1 s2 s7 s8 s48
   refine W.cndBF s48 (rfl) ?_
   refine W.skip Nx.thn ?_
   refine W.seq ?_
   refine W.region ?_
   refine WL.x (X.mv (s8)) rfl ?_
   refine WL.x (X.lenSl Tryd.underlying22 (lh)) rfl ?_
   refine WL.x (X.mv lc) rfl ?_
   refine WL.e7 Nx.thn 0 1 2 7 49 50 51 (jt2 rfl (lt rfl (s0))) (jt2 rfl (lt rfl (s1))) (jt2 rfl (lt rfl (s2))) (jt2 rfl (lt rfl (s7))) (jt2 rfl (lh)) (lt rfl (lh)) (lh) ?_
   intro σ12 s0 s1 s2 s7 s49 s50 s51
   refine W.block ?_
   have qo4 := s0
   have qo5 := s1
   have qo6 := s2
   have qo7 := s7
   have qo8 := s49
   have qo9 := s50
   -- loop 1: kept [0, 1, 2, 7, 49, 50], varied [51]
   refine W.loop (G := Nat) (fun q σ' w' => (σ' 0 = σ12 0 ∧ σ' 1 = σ12 1 ∧ σ' 2 = σ12 2 ∧ σ' 7 = σ12 7 ∧ σ' 49 = σ12 49 ∧ σ' 50 = σ12 50 ∧ True) ∧ (σ' 51 = .int .i64 (q : Int) ∧ q ≤ c.length ∧ RSl 8 (Rc fwy) all w' (.slice ca c.length cc) c ∧ Ch0 w w')) (fun q => c.length - q) (0) ⟨⟨rfl, rfl, rfl, rfl, rfl, rfl, trivial⟩, s51, by omega, hcr, hcl⟩ ?_
   rintro q σ13 w5 ⟨⟨f0, f1, f2, f7, f49, f50, _⟩, s51, hq, hcr, hcl⟩
   have s0 := f0.trans qo4
   have s1 := f1.trans qo5
   have s2 := f2.trans qo6
   have s7 := f7.trans qo7
   have s49 := f49.trans qo8
   have s50 := f50.trans qo9
   refine W.seq ?_
   refine W.region ?_
   refine WL.x (X.lss (s51) (s50)) rfl ?_
   refine WL.e8 Nx.thn 0 1 2 7 49 50 51 52 (lt rfl (s0)) (lt rfl (s1)) (lt rfl (s2)) (lt rfl (s7)) (lt rfl (s49)) (lt rfl (s50)) (lt rfl (s51)) (lh) ?_
   intro σ14 s0 s1 s2 s7 s49 s50 s51 s52
   refine W.seq ?_
   refine W.cndp s52 (fun hlt => ?_) (fun hlt => ?_)
   ·
    have hql : q < c.length := by omega
    obtain ⟨lb, lo, lcs, lT, lfr, rfl, hlm, hle9, -, hlc⟩ := hcr.get (k := q) hql
    obtain ⟨x, hx⟩ : ∃ x, c[q] = x := ⟨_, rfl⟩
    have hxm := find_mem hfc x (by rw [← hx]; exact List.getElem_mem hql)
    rw [hx] at hlc
    refine W.skip Nx.thn ?_
    refine W.seq ?_
    refine W.block ?_
    refine W.seq ?_
    refine W.region ?_
    refine WL.x (X.indexAddr Tryd.underlying22 el27 (s49) (s51) (by omega) (by omega)) rfl ?_
    refine WL.x (X.loadS (vs := fwy x) ag27 (lh) hlm rfl hlc) rfl ?_
    refine WL.alloc el27 rfl ?_
    intro w6 u14_2; have hu14_2 := u14_2.at_; have cu14_2 := u14_2.ch; have zu14_2 := u14_2.size
    refine WL.storeS ag27 (lh) (lt rfl (lh)) (List.all_eq_true.2 (fwy_one x)) rfl hu14_2 (by decide) ?_
    intro w7 us; have cst := us.ch
    have hxb : w7.heap[(_ : Nat)]? = some (.cells (fwy x).toArray 27 (0, 0)) := us.at_
    have cku := cu14_2.trans cst (H := fun _ => False) (fun _ _ e => e) (fun i hi e => by (try dsimp only at e); omega)
    have hcr := hcr.ch0 (monRc _) cku
    have hcl := hcl.trans0 cku
    refine WL.e8 Nx.thn 0 1 2 7 13 49 50 51 (jt2 rfl (lt rfl (s0))) (jt2 rfl (lt rfl (s1))) (jt2 rfl (lt rfl (s2))) (jt2 rfl (lt rfl (s7))) (lh) (jt2 rfl (lt rfl (s49))) (jt2 rfl (lt rfl (s50))) (jt2 rfl (lt rfl (s51))) ?_
    intro σ15 s0 s1 s2 s7 s13 s49 s50 s51
    refine W.seq ?_
    refine W.region ?_
    refine WL.x (X.mv (s1)) rfl ?_
    refine WL.x (X.loadBox (vs := fwy x) ag27 (lt rfl (s13)) hxb rfl) rfl ?_
    refine WL.call2 ce10 (lt rfl (lh)) (lh) (contw_ok all x1 c1 L x w7 (hLr.ch0 (monRc _) hcl) (by omega) hxm) rfl ?_
    rintro _ w8 ⟨rfl, c5⟩
    have hcr := hcr.ch0 (monRc _) c5
    have hcl := hcl.trans0 c5
    refine WL.x (X.not (lh)) rfl ?_
    refine WL.e8 Nx.thn 0 1 2 7 49 50 51 58 (jt4 rfl (s0)) (jt4 rfl (s1)) (jt4 rfl (s2)) (jt4 rfl (s7)) (jt4 rfl (s49)) (jt4 rfl (s50)) (jt4 rfl (s51)) (lh) ?_
    intro σ16 s0 s1 s2 s7 s49 s50 s51 s58
    refine W.cndBF s58 (rfl) ?_
    refine W.skip (Nx.blk Nx.thn) ?_
    refine W.region ?_
    refine WL.x (X.addN (b := 1) (s51) lc (by omega)) rfl ?_
    refine WL.x (X.mv (lh)) rfl ?_
    refine WL.e7 Nx.thn 0 1 2 7 49 50 51 (jt2 rfl (s0)) (jt2 rfl (s1)) (jt2 rfl (s2)) (jt2 rfl (s7)) (jt2 rfl (s49)) (jt2 rfl (s50)) (lh) ?_
    intro σ17 s0 s1 s2 s7 s49 s50 s51
    refine ⟨q + 1, by omega, ⟨s0.trans qo4.symm, s1.trans qo5.symm, s2.trans qo6.symm, s7.trans qo7.symm, s49.trans qo8.symm, s50.trans qo9.symm, trivial⟩, s51, by omega, hcr, hcl⟩
   ·
    refine W.exit (Nx.xthn (Nx.xthn (Nx.xblk (Nx.blk Nx.thn)))) ?_
    refine W.region ?_
    refine WL.x (X.mv (s7)) rfl ?_
    refine WL.x (X.addN (b := 1) (lh) lc (by omega)) rfl ?_
    refine WL.x (X.asg (lh)) rfl ?_
    refine WL.e4 Nx.thn 0 1 2 7 (jt2 rfl (lt rfl (s0))) (jt2 rfl (lt rfl (s1))) (jt2 rfl (lt rfl (s2))) (lh) ?_
    intro σ18 s0 s1 s2 s7
    refine ⟨e + 1, by omega, ⟨s0.trans qo1.symm, s1.trans qo2.symm, s2.trans qo3.symm, trivial⟩, s7, by omega, hcl⟩
 ·
  refine W.exit (Nx.xthn (Nx.xthn (Nx.xblk Nx.thn))) ?_
  refine W.seq ?_
  refine W.region ?_
  refine WL.x (X.asg lc) rfl ?_
  refine WL.e1 Nx.thn 6 (lh) ?_
  intro σ19 s6
  refine W.ret1 Nx.f1 s6 ?_
  exact ⟨rfl, hcl⟩
end Go.Proofs.YtnfkblboimkcjaaDoor
end

section
set_option linter.unusedVariables false
set_option linter.unusedSimpArgs false
set_option maxRecDepth 100000
namespace Go.Proofs.YtnfkblboimkcjaaDoor
open Go Go.RowKit Go.ChangeShapes Sg
theorem opn_wy {W : World} : Opn Tryd.prog W 27 (Rc fwy) := by
  intro H enc fuel cs x h hw
  obtain ⟨xs, n, _, rfl, hl, hlen, hf⟩ := DataW.trod_struct Tryd.underlying27 h
  rw [show Tryd.prog.cellsOf 27 = 8 by kernel_rfl] at hl
  obtain ⟨y0, y1, y2, y3, y4, y5, y6, y7, rfl⟩ : ∃ y0 y1 y2 y3 y4 y5 y6 y7, xs = [y0, y1, y2, y3, y4, y5, y6, y7] := by
    match xs, hlen with | [y0, y1, y2, y3, y4, y5, y6, y7], _ => exact ⟨_, _, _, _, _, _, _, _, rfl⟩
  obtain ⟨c0, c1, c2, c3, c4, c5, c6, c7, rfl⟩ : ∃ c0 c1 c2 c3 c4 c5 c6 c7, cs = [c0, c1, c2, c3, c4, c5, c6, c7] := by
    match cs, hl with | [c0, c1, c2, c3, c4, c5, c6, c7], _ => exact ⟨_, _, _, _, _, _, _, _, rfl⟩
  have f0 : DataW.trod enc Tryd.prog W 0 (fun _ => true) true n 3 [c0] = some y0 := (congrArg (fun k => DataW.trod enc Tryd.prog W 0 (fun _ => true) true n 3 (([c0, c1, c2, c3, c4, c5, c6, c7].drop 0).take k)) (show Tryd.prog.cellsOf 3 = 1 by kernel_rfl)).symm.trans (hf 0 _ rfl)
  have g0 := weights_struct Tryd.underlying27 hw 0 _ y0.1 rfl rfl
  have f1 : DataW.trod enc Tryd.prog W 0 (fun _ => true) true n 3 [c1] = some y1 := (congrArg (fun k => DataW.trod enc Tryd.prog W 0 (fun _ => true) true n 3 (([c0, c1, c2, c3, c4, c5, c6, c7].drop 1).take k)) (show Tryd.prog.cellsOf 3 = 1 by kernel_rfl)).symm.trans (hf 1 _ rfl)
  have g1 := weights_struct Tryd.underlying27 hw 1 _ y1.1 rfl rfl
  have f2 : DataW.trod enc Tryd.prog W 0 (fun _ => true) true n 3 [c2] = some y2 := (congrArg (fun k => DataW.trod enc Tryd.prog W 0 (fun _ => true) true n 3 (([c0, c1, c2, c3, c4, c5, c6, c7].drop 2).take k)) (show Tryd.prog.cellsOf 3 = 1 by kernel_rfl)).symm.trans (hf 2 _ rfl)
  have g2 := weights_struct Tryd.underlying27 hw 2 _ y2.1 rfl rfl
  have f3 : DataW.trod enc Tryd.prog W 0 (fun _ => true) true n 9 [c3] = some y3 := (congrArg (fun k => DataW.trod enc Tryd.prog W 0 (fun _ => true) true n 9 (([c0, c1, c2, c3, c4, c5, c6, c7].drop 3).take k)) (show Tryd.prog.cellsOf 9 = 1 by kernel_rfl)).symm.trans (hf 3 _ rfl)
  have g3 := weights_struct Tryd.underlying27 hw 3 _ y3.1 rfl rfl
  have f4 : DataW.trod enc Tryd.prog W 0 (fun _ => true) true n 3 [c4] = some y4 := (congrArg (fun k => DataW.trod enc Tryd.prog W 0 (fun _ => true) true n 3 (([c0, c1, c2, c3, c4, c5, c6, c7].drop 4).take k)) (show Tryd.prog.cellsOf 3 = 1 by kernel_rfl)).symm.trans (hf 4 _ rfl)
  have g4 := weights_struct Tryd.underlying27 hw 4 _ y4.1 rfl rfl
  have f5 : DataW.trod enc Tryd.prog W 0 (fun _ => true) true n 3 [c5] = some y5 := (congrArg (fun k => DataW.trod enc Tryd.prog W 0 (fun _ => true) true n 3 (([c0, c1, c2, c3, c4, c5, c6, c7].drop 5).take k)) (show Tryd.prog.cellsOf 3 = 1 by kernel_rfl)).symm.trans (hf 5 _ rfl)
  have g5 := weights_struct Tryd.underlying27 hw 5 _ y5.1 rfl rfl
  have f6 : DataW.trod enc Tryd.prog W 0 (fun _ => true) true n 4 [c6] = some y6 := (congrArg (fun k => DataW.trod enc Tryd.prog W 0 (fun _ => true) true n 4 (([c0, c1, c2, c3, c4, c5, c6, c7].drop 6).take k)) (show Tryd.prog.cellsOf 4 = 1 by kernel_rfl)).symm.trans (hf 6 _ rfl)
  have g6 := weights_struct Tryd.underlying27 hw 6 _ y6.1 rfl rfl
  have f7 : DataW.trod enc Tryd.prog W 0 (fun _ => true) true n 4 [c7] = some y7 := (congrArg (fun k => DataW.trod enc Tryd.prog W 0 (fun _ => true) true n 4 (([c0, c1, c2, c3, c4, c5, c6, c7].drop 7).take k)) (show Tryd.prog.cellsOf 4 = 1 by kernel_rfl)).symm.trans (hf 7 _ rfl)
  have g7 := weights_struct Tryd.underlying27 hw 7 _ y7.1 rfl rfl
  obtain ⟨n0, e0, rfl, wf0⟩ := DataW.trod_int Tryd.underlying3 f0
  obtain rfl : c0 = .int .i64 n0 := by simpa using e0
  obtain ⟨n1, e1, rfl, wf1⟩ := DataW.trod_int Tryd.underlying3 f1
  obtain rfl : c1 = .int .i64 n1 := by simpa using e1
  obtain ⟨n2, e2, rfl, wf2⟩ := DataW.trod_int Tryd.underlying3 f2
  obtain rfl : c2 = .int .i64 n2 := by simpa using e2
  obtain ⟨s3, e3, rfl, ws3⟩ := DataW.trod_string Tryd.underlying9 f3
  obtain rfl : c3 = .string s3 := by simpa using e3
  obtain ⟨n4, e4, rfl, wf4⟩ := DataW.trod_int Tryd.underlying3 f4
  obtain rfl : c4 = .int .i64 n4 := by simpa using e4
  obtain ⟨n5, e5, rfl, wf5⟩ := DataW.trod_int Tryd.underlying3 f5
  obtain rfl : c5 = .int .i64 n5 := by simpa using e5
  obtain ⟨b6, e6, rfl⟩ := DataW.trod_bool Tryd.underlying4 f6
  obtain rfl : c6 = .bool b6 := by simpa using e6
  obtain ⟨b7, e7, rfl⟩ := DataW.trod_bool Tryd.underlying4 f7
  obtain rfl : c7 = .bool b7 := by simpa using e7
  exact ⟨(n0, n1, n2, s3, n4, n5, b6, b7), rfl⟩
end Go.Proofs.YtnfkblboimkcjaaDoor
end

section
set_option linter.unusedVariables false
set_option linter.unusedSimpArgs false
set_option maxRecDepth 100000
namespace Go.Proofs.YtnfkblboimkcjaaDoor
open Go Go.RowKit Sg

theorem tab_of_laid {W : World} (hL : laidMet Tryd.prog [("math/bits.deBruijn64tab", Rows.laid_math_bits_deBruijn64tab)] W) : Tab W := by
  have hT : Lib.TabIs Tryd.prog W "math/bits.deBruijn64tab" .u8 (Lib.deBruijn64tab.map fun (n : Nat) => (n : Int)) := Lib.tabIs_of_head (g := 0) (t := 134) (e := 5) (n := 64) (by kernel_rfl) (by kernel_rfl) Tryd.underlying134 Tryd.underlying5 (by kernel_rfl) (by kernel_rfl) hL
  obtain ⟨TT, fr, h⟩ := tab_block hT (by kernel_rfl)
  exact ⟨TT, fr, by rw [h]; simp [tzTab]⟩

end Go.Proofs.YtnfkblboimkcjaaDoor
end
