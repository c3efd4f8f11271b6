/-
  A part of the walk of the program. | A part of the walk of the program. | A part of the walk of the program. | A part of the walk of the program. | A part of the walk of the program. | A part of the walk of the program. | A part of the walk of the program. | A part of the walk of the program.
-/
import Derived.Test.YtnfkblboimkcjaaDoorPr8
section
set_option linter.unusedVariables false
set_option linter.unusedSimpArgs false
set_option maxRecDepth 100000
namespace Go.Proofs.YtnfkblboimkcjaaDoor
open Go Go.RowKit Sg

def selW (l : List Gwy) (a b o : Int) : List Gwy := l.filter fun x => decide (x.1 = a) && decide (x.2.1 = b) && decide (x.2.2.1 = o)
def findW (l : List Gwy) (a b o : Int) : Option Gwy := (stb cnd (selW l a b o)).head?
def zeroW : Gwy := (0, 0, 0, ⟨#[]⟩, 0, 0, false, false)
theorem selW_take {l : List Gwy} {a b o : Int} {k : Nat} (hk : k < l.length) : selW (l.take (k + 1)) a b o = if l[k].1 = a ∧ l[k].2.1 = b ∧ l[k].2.2.1 = o then selW (l.take k) a b o ++ [l[k]] else selW (l.take k) a b o := by
  unfold selW
  rw [List.take_succ_eq_append_getElem hk, List.filter_append]
  by_cases h : l[k].1 = a ∧ l[k].2.1 = b ∧ l[k].2.2.1 = o
  · rw [if_pos h]; obtain ⟨h1, h2, h3⟩ := h; simp [List.filter_cons, h1, h2, h3]
  · rw [if_neg h]
    have : (decide (l[k].1 = a) && decide (l[k].2.1 = b) && decide (l[k].2.2.1 = o)) = false := by
      simp only [Bool.and_eq_false_iff, decide_eq_false_iff_not]
      by_cases e1 : l[k].1 = a
      · by_cases e2 : l[k].2.1 = b
        · exact .inr fun e3 => h ⟨e1, e2, e3⟩
        · exact .inl (.inr e2)
      · exact .inl (.inl e1)
    simp [List.filter_cons, this]
theorem selW_le (l : List Gwy) (a b o : Int) : (selW l a b o).length ≤ l.length := List.length_filter_le ..
set_option maxHeartbeats 1600000 in
theorem find_ok (A : Nat → Prop) (pa : Option Addr) (pc : Nat) (l : List Gwy) (a b o : Int) (w : World) (hl : RSl 8 (Rc fwy) A w (.slice pa l.length pc) l) (hm : l.length ≤ 1000000) :
  Sg.Ret Tryd.prog 23 #[.slice pa l.length pc, .int .i64 a, .int .i64 b, .int .i64 o] w fun v w' => v = .tuple #[.agg (fwy ((findW l a b o).getD zeroW)).toArray, .bool (findW l a b o).isSome] ∧ Ch0 w w' := by
 refine enterG (n := 51) (l := [.slice pa l.length pc, .int .i64 a, .int .i64 b, .int .i64 o]) Tryd.func23 rfl rfl rfl rfl ?_
 refine W.g4 0 1 2 3 (v1 := .slice pa l.length pc) (v2 := .int .i64 a) (v3 := .int .i64 b) (v4 := .int .i64 o) rfl rfl rfl rfl ?_; intro σ s0 s1 s2 s3
 refine W.seq ?_
 refine W.region ?_
 refine WL.alloc el27 rfl ?_
 intro w1 u0_0; have hu0_0 := u0_0.at_; have cu0_0 := u0_0.ch; have zu0_0 := u0_0.size
 refine WL.x (X.asg lc) rfl ?_
 refine WL.e5 Nx.thn 0 1 2 3 8 (jt2 rfl (s0)) (jt2 rfl (s1)) (jt2 rfl (s2)) (jt2 rfl (s3)) (lt rfl (lh)) ?_
 intro σ1 s0 s1 s2 s3 s8
 refine W.seq ?_
 refine W.region ?_
 refine WL.alloc el22 rfl ?_
 intro w2 u1_0; have hu1_0 := u1_0.at_; have cu1_0 := u1_0.ch; have zu1_0 := u1_0.size
 refine WL.e6 Nx.thn 0 1 2 3 8 10 (lt rfl (s0)) (lt rfl (s1)) (lt rfl (s2)) (lt rfl (s3)) (lt rfl (s8)) (lh) ?_
 intro σ2 s0 s1 s2 s3 s8 s10
 refine W.seq ?_
 refine W.seq ?_
 refine W.region ?_
 refine WL.x (X.mv (s0)) rfl ?_
 refine WL.x (X.lenSl Tryd.underlying22 (lh)) rfl ?_
 refine WL.x (X.mv lc) rfl ?_
 refine WL.e8 Nx.thn 1 2 3 8 10 13 14 15 (jt2 rfl (lt rfl (s1))) (jt2 rfl (lt rfl (s2))) (jt2 rfl (lt rfl (s3))) (jt2 rfl (lt rfl (s8))) (jt2 rfl (lt rfl (s10))) (jt2 rfl (lh)) (lt rfl (lh)) (lh) ?_
 intro σ3 s1 s2 s3 s8 s10 s13 s14 s15
 refine W.block ?_
 have qo1 := s1
 have qo2 := s2
 have qo3 := s3
 have qo4 := s8
 have qo5 := s10
 have qo6 := s13
 have qo7 := s14
 -- loop 0: kept [1, 2, 3, 8, 10, 13, 14], varied [15]
 refine W.loop (G := Nat) (fun k σ' w' => (σ' 1 = σ3 1 ∧ σ' 2 = σ3 2 ∧ σ' 3 = σ3 3 ∧ σ' 8 = σ3 8 ∧ σ' 10 = σ3 10 ∧ σ' 13 = σ3 13 ∧ σ' 14 = σ3 14 ∧ True) ∧ (∃ vo, σ' 15 = .int .i64 (k : Int) ∧ k ≤ l.length ∧ (w').heap[w1.heap.size]? = some (.cells #[vo] 22 (0, 0)) ∧ (w').heap[w.heap.size]? = some (.cells (fwy zeroW).toArray 27 (0, 0)) ∧ OwnF 8 fwy w' (w.heap.size + 2) 27 vo (selW (l.take k) a b o) ∧ Ch0 w w')) (fun k => l.length - k) (0) ⟨⟨rfl, rfl, rfl, rfl, rfl, rfl, rfl, trivial⟩, _, s15, by omega, hu1_0, (cu1_0.at0 hu0_0), OwnF.nil, cu0_0.trans0 cu1_0⟩ ?_
 rintro k σ4 w3 ⟨⟨f1, f2, f3, f8, f10, f13, f14, _⟩, vo, s15, hk, hall, hz8, hown, hcl⟩
 have s1 := f1.trans qo1
 have s2 := f2.trans qo2
 have s3 := f3.trans qo3
 have s8 := f8.trans qo4
 have s10 := f10.trans qo5
 have s13 := f13.trans qo6
 have s14 := f14.trans qo7
 have hzc := hcl.size
 have hzz1 := lt_of_blk hall
 have hw12 : w1.heap.size = w.heap.size + 1 := zu0_0
 refine W.seq ?_
 refine W.region ?_
 refine WL.x (X.lss (s15) (s14)) rfl ?_
 refine WL.e9 Nx.thn 1 2 3 8 10 13 14 15 16 (lt rfl (s1)) (lt rfl (s2)) (lt rfl (s3)) (lt rfl (s8)) (lt rfl (s10)) (lt rfl (s13)) (lt rfl (s14)) (lt rfl (s15)) (lh) ?_
 intro σ5 s1 s2 s3 s8 s10 s13 s14 s15 s16
 refine W.seq ?_
 refine W.cndp s16 (fun hlt => ?_) (fun hlt => ?_)
 ·
  have hkl : k < l.length := by omega
  obtain ⟨lb, lo, lcs, lT, lfr, rfl, hlm, hle9, -, hlc⟩ := hl.get (k := k) hkl
  obtain ⟨x, hx⟩ : ∃ x, l[k] = x := ⟨_, rfl⟩
  rw [hx] at hlc
  have hst := selW_take (a := a) (b := b) (o := o) hkl
  rw [hx] at hst
  have hsl := selW_le (l.take k) a b o
  rw [List.length_take] at hsl
  refine W.skip Nx.thn ?_
  refine W.seq ?_
  refine W.block ?_
  refine W.seq ?_
  refine W.region ?_
  refine WL.x (X.indexAddr Tryd.underlying22 el27 (s13) (s15) (by omega) (by omega)) rfl ?_
  refine WL.x (X.loadS (vs := fwy x) ag27 (lh) (hcl.at0 hlm) rfl hlc) rfl ?_
  refine WL.alloc el27 rfl ?_
  intro w4 u4_2; have hu4_2 := u4_2.at_; have cu4_2 := u4_2.ch; have zu4_2 := u4_2.size
  refine WL.storeS ag27 (lh) (lt rfl (lh)) (List.all_eq_true.2 (fwy_one x)) rfl hu4_2 (by decide) ?_
  intro w5 us; have cst := us.ch
  have hkb : w5.heap[w3.heap.size]? = some (.cells (fwy x).toArray 27 (0, 0)) := us.at_
  have cku : Ch0 w3 w5 := cu4_2.trans cst (fun _ _ e => e) (fun i hi e => by (try dsimp only at e); omega)
  have hall := cku.at0 hall
  have hz8 := cku.at0 hz8
  have hown := hown.ch0 cku
  have hcl := hcl.trans0 cku
  have hzk := lt_of_blk hkb
  have hz3 := cku.size
  refine WL.e9 Nx.thn 1 2 3 8 10 12 13 14 15 (jt2 rfl (lt rfl (s1))) (jt2 rfl (lt rfl (s2))) (jt2 rfl (lt rfl (s3))) (jt2 rfl (lt rfl (s8))) (jt2 rfl (lt rfl (s10))) (lh) (jt2 rfl (lt rfl (s13))) (jt2 rfl (lt rfl (s14))) (jt2 rfl (lt rfl (s15))) ?_
  intro σ6 s1 s2 s3 s8 s10 s12 s13 s14 s15
  refine W.seq ?_
  refine W.region ?_
  refine WL.x (X.fieldAddr fd27_0 (s12)) rfl ?_
  refine WL.x (X.load pl3 (lh) hkb (v := .int .i64 x.1) rfl) rfl ?_
  refine WL.x (X.mv (jt2 rfl (s1))) rfl ?_
  refine WL.x (X.eql (lt rfl (lh)) (lh)) rfl ?_
  refine WL.x (X.mv (lh)) rfl ?_
  refine WL.splitp (lh) (fun q1 => ?_) (fun q1 => ?_)
  ·
   refine WL.yes rfl rfl (lh) (decide_eq_true q1) ?_
   refine WL.x (X.fieldAddr fd27_1 (jt4 rfl (lt rfl (s12)))) rfl ?_
   refine WL.yes rfl rfl (lt rfl (lh)) (decide_eq_true q1) ?_
   refine WL.x (X.load pl3 (lh) hkb (v := .int .i64 x.2.1) rfl) rfl ?_
   refine WL.yes rfl rfl (jt2 rfl (lh)) (decide_eq_true q1) ?_
   refine WL.x (X.mv (jt4 rfl (jt2 rfl (lt rfl (s2))))) rfl ?_
   refine WL.yes rfl rfl (jt2 rfl (lt rfl (lh))) (decide_eq_true q1) ?_
   refine WL.x (X.eql (lt rfl (lh)) (lh)) rfl ?_
   refine WL.x (X.pickT (jt4 rfl (lh)) (decide_eq_true q1) (lh)) rfl ?_
   refine WL.x (X.mv (lh)) rfl ?_
   refine WL.splitp (lh) (fun q2 => ?_) (fun q2 => ?_)
   ·
    refine WL.yes rfl rfl (lh) (decide_eq_true q2) ?_
    refine WL.x (X.fieldAddr fd27_2 (jt8 rfl (jt2 rfl (lt rfl (s12))))) rfl ?_
    refine WL.yes rfl rfl (lt rfl (lh)) (decide_eq_true q2) ?_
    refine WL.x (X.load pl3 (lh) hkb (v := .int .i64 x.2.2.1) rfl) rfl ?_
    refine WL.yes rfl rfl (jt2 rfl (lh)) (decide_eq_true q2) ?_
    refine WL.x (X.mv (jt8 rfl (jt4 rfl (lt rfl (s3))))) rfl ?_
    refine WL.yes rfl rfl (jt2 rfl (lt rfl (lh))) (decide_eq_true q2) ?_
    refine WL.x (X.eql (lt rfl (lh)) (lh)) rfl ?_
    refine WL.x (X.pickT (jt4 rfl (lh)) (decide_eq_true q2) (lh)) rfl ?_
    refine WL.e10 Nx.thn 1 2 3 8 10 12 13 14 15 34 (jt8 rfl (jt8 rfl (s1))) (jt8 rfl (jt8 rfl (s2))) (jt8 rfl (jt8 rfl (s3))) (jt8 rfl (jt8 rfl (s8))) (jt8 rfl (jt8 rfl (s10))) (jt8 rfl (jt8 rfl (s12))) (jt8 rfl (jt8 rfl (s13))) (jt8 rfl (jt8 rfl (s14))) (jt8 rfl (jt8 rfl (s15))) (lh) ?_
    intro σ7 s1 s2 s3 s8 s10 s12 s13 s14 s15 s34
    refine W.cndp s34 (fun q3 => ?_) (fun q3 => ?_)
    ·
     rw [if_pos ⟨q1, q2, q3⟩] at hst
     refine W.region ?_
     refine WL.x (X.load pl22 (s10) hall (v := vo) rfl) rfl ?_
     refine WL.x (X.loadBox (vs := fwy x) ag27 (lt rfl (s12)) hkb rfl) rfl ?_
     refine WL.bsliceR (vs := [_]) Tryd.underlying22 el27 (by decide) (pcons (lh) pnil) rfl (fun u hu => by rw [List.mem_singleton.1 hu]; exact fwy_len x) (show 1 * 8 ≤ 16777216 by decide) rfl ?_
     intro w7 u6_2; have hu6_2 := u6_2.at_; have cu6_2 := u6_2.ch; have zu6_2 := u6_2.size
     refine WL.appendF Tryd.underlying22 el27 rfl (by decide) fwy_len fwy_one (jt2 rfl (lh)) (lh) (hown.ch0 cu6_2) (rsl_one (A := fun _ => True) (x := x) fwy_len hu6_2 (by simp [Value.cells]) trivial) (by unfold maxLen; simp only [List.length_cons, List.length_nil]; omega) (by simp only [List.length_cons, List.length_nil]; omega) (by have := cu6_2.size; have := hcl.size; omega) rfl ?_
     intro va6_3 w8 ho6_3 ca6_3
     have hone : va6_3.oneCell' = true := by obtain ⟨p9, c9, e9⟩ := ho6_3.len; rw [e9]; rfl
     have hall6 := ca6_3.at (cu6_2.at0 hall) (fun hk => by have := (hown.lt hk).1; omega)
     have hz86 := ca6_3.at (cu6_2.at0 hz8) (fun hk => by have := (hown.lt hk).1; omega)
     have hown6 : OwnF 8 fwy w8 (w.heap.size + 2) 27 va6_3 (selW (l.take (k + 1)) a b o) := by rw [hst]; exact ho6_3
     have hcl6 := (hcl.trans0 cu6_2).trans ca6_3 (H := fun _ => False) (fun _ _ e => e) (fun i hi e => by have := (hown.lt e).1; omega)
     refine WL.store el22 (jt4 rfl (s10)) (lh) hone hall6 (by (simp; done)) ?_
     intro w9 us; have cs6 := us.ch
     have hall7 : w9.heap[w1.heap.size]? = some (.cells #[va6_3] 22 (0, 0)) := us.at_
     have hz87 := cs6.at hz86 (fun e => by (try dsimp only at e); omega)
     have hown7 := hown6.ch cs6 (fun i hi e => by have := (hown6.lt hi).1; (try dsimp only at e); omega)
     have hcl7 := hcl6.trans cs6 (H := fun _ => False) (fun _ _ e => e) (fun i hi e => by (try dsimp only at e); omega)
     refine WL.e8 (Nx.blk Nx.thn) 1 2 3 8 10 13 14 15 (jt4 rfl (s1)) (jt4 rfl (s2)) (jt4 rfl (s3)) (jt4 rfl (s8)) (jt4 rfl (s10)) (jt4 rfl (s13)) (jt4 rfl (s14)) (jt4 rfl (s15)) ?_
     intro σ8 s1 s2 s3 s8 s10 s13 s14 s15
     refine W.region ?_
     refine WL.x (X.add (s15) lc (by omega) (by omega)) rfl ?_
     refine WL.x (X.mv (lh)) rfl ?_
     refine WL.e8 Nx.thn 1 2 3 8 10 13 14 15 (jt2 rfl (s1)) (jt2 rfl (s2)) (jt2 rfl (s3)) (jt2 rfl (s8)) (jt2 rfl (s10)) (jt2 rfl (s13)) (jt2 rfl (s14)) (lh) ?_
     intro σ9 s1 s2 s3 s8 s10 s13 s14 s15
     refine ⟨k + 1, by omega, ⟨s1.trans qo1.symm, s2.trans qo2.symm, s3.trans qo3.symm, s8.trans qo4.symm, s10.trans qo5.symm, s13.trans qo6.symm, s14.trans qo7.symm, trivial⟩, _, s15, by omega, hall7, hz87, hown7, hcl7⟩
    ·
     rw [if_neg (by exact (fun h => q3 h.2.2))] at hst
     refine W.skip (Nx.blk Nx.thn) ?_
     refine W.region ?_
     refine WL.x (X.add (s15) lc (by omega) (by omega)) rfl ?_
     refine WL.x (X.mv (lh)) rfl ?_
     refine WL.e8 Nx.thn 1 2 3 8 10 13 14 15 (jt2 rfl (s1)) (jt2 rfl (s2)) (jt2 rfl (s3)) (jt2 rfl (s8)) (jt2 rfl (s10)) (jt2 rfl (s13)) (jt2 rfl (s14)) (lh) ?_
     intro σ10 s1 s2 s3 s8 s10 s13 s14 s15
     refine ⟨k + 1, by omega, ⟨s1.trans qo1.symm, s2.trans qo2.symm, s3.trans qo3.symm, s8.trans qo4.symm, s10.trans qo5.symm, s13.trans qo6.symm, s14.trans qo7.symm, trivial⟩, _, s15, by omega, hall, hz8, (by (rw [hst]; exact hown)), hcl⟩
   ·
    refine WL.no rfl rfl (lh) (decide_eq_false q2) rfl ?_
    refine WL.no rfl rfl (lt rfl (lh)) (decide_eq_false q2) rfl ?_
    refine WL.no rfl rfl (jt2 rfl (lh)) (decide_eq_false q2) rfl ?_
    refine WL.no rfl rfl (jt2 rfl (lt rfl (lh))) (decide_eq_false q2) rfl ?_
    refine WL.x (X.pickF (jt4 rfl (lh)) (decide_eq_false q2) lc) rfl ?_
    refine WL.e10 Nx.thn 1 2 3 8 10 12 13 14 15 34 (jt8 rfl (jt8 rfl (s1))) (jt8 rfl (jt8 rfl (s2))) (jt8 rfl (jt8 rfl (s3))) (jt8 rfl (jt8 rfl (s8))) (jt8 rfl (jt8 rfl (s10))) (jt8 rfl (jt8 rfl (s12))) (jt8 rfl (jt8 rfl (s13))) (jt8 rfl (jt8 rfl (s14))) (jt8 rfl (jt8 rfl (s15))) (lh) ?_
    intro σ11 s1 s2 s3 s8 s10 s12 s13 s14 s15 s34
    refine W.cndF s34 ?_
    refine W.skip (Nx.blk Nx.thn) ?_
    refine W.region ?_
    refine WL.x (X.add (s15) lc (by omega) (by omega)) rfl ?_
    refine WL.x (X.mv (lh)) rfl ?_
    refine WL.e8 Nx.thn 1 2 3 8 10 13 14 15 (jt2 rfl (s1)) (jt2 rfl (s2)) (jt2 rfl (s3)) (jt2 rfl (s8)) (jt2 rfl (s10)) (jt2 rfl (s13)) (jt2 rfl (s14)) (lh) ?_
    intro σ12 s1 s2 s3 s8 s10 s13 s14 s15
    refine ⟨k + 1, by omega, ⟨s1.trans qo1.symm, s2.trans qo2.symm, s3.trans qo3.symm, s8.trans qo4.symm, s10.trans qo5.symm, s13.trans qo6.symm, s14.trans qo7.symm, trivial⟩, _, s15, by omega, hall, hz8, (by (rw [hst, if_neg (fun h => q2 h.2.1)]; exact hown)), hcl⟩
  ·
   refine WL.no rfl rfl (lh) (decide_eq_false q1) rfl ?_
   refine WL.no rfl rfl (lt rfl (lh)) (decide_eq_false q1) rfl ?_
   refine WL.no rfl rfl (jt2 rfl (lh)) (decide_eq_false q1) rfl ?_
   refine WL.no rfl rfl (jt2 rfl (lt rfl (lh))) (decide_eq_false q1) rfl ?_
   refine WL.x (X.pickF (jt4 rfl (lh)) (decide_eq_false q1) lc) rfl ?_
   refine WL.x (X.mv (lh)) rfl ?_
   refine WL.no rfl rfl (lh) rfl rfl ?_
   refine WL.no rfl rfl (lt rfl (lh)) rfl rfl ?_
   refine WL.no rfl rfl (jt2 rfl (lh)) rfl rfl ?_
   refine WL.no rfl rfl (jt2 rfl (lt rfl (lh))) rfl rfl ?_
   refine WL.x (X.pickF (jt4 rfl (lh)) rfl lc) rfl ?_
   refine WL.e10 Nx.thn 1 2 3 8 10 12 13 14 15 34 (jt8 rfl (jt8 rfl (s1))) (jt8 rfl (jt8 rfl (s2))) (jt8 rfl (jt8 rfl (s3))) (jt8 rfl (jt8 rfl (s8))) (jt8 rfl (jt8 rfl (s10))) (jt8 rfl (jt8 rfl (s12))) (jt8 rfl (jt8 rfl (s13))) (jt8 rfl (jt8 rfl (s14))) (jt8 rfl (jt8 rfl (s15))) (lh) ?_
   intro σ13 s1 s2 s3 s8 s10 s12 s13 s14 s15 s34
   refine W.cndF s34 ?_
   refine W.skip (Nx.blk Nx.thn) ?_
   refine W.region ?_
   refine WL.x (X.add (s15) lc (by omega) (by omega)) rfl ?_
   refine WL.x (X.mv (lh)) rfl ?_
   refine WL.e8 Nx.thn 1 2 3 8 10 13 14 15 (jt2 rfl (s1)) (jt2 rfl (s2)) (jt2 rfl (s3)) (jt2 rfl (s8)) (jt2 rfl (s10)) (jt2 rfl (s13)) (jt2 rfl (s14)) (lh) ?_
   intro σ14 s1 s2 s3 s8 s10 s13 s14 s15
   refine ⟨k + 1, by omega, ⟨s1.trans qo1.symm, s2.trans qo2.symm, s3.trans qo3.symm, s8.trans qo4.symm, s10.trans qo5.symm, s13.trans qo6.symm, s14.trans qo7.symm, trivial⟩, _, s15, by omega, hall, hz8, (by (rw [hst, if_neg (fun h => q1 h.1)]; exact hown)), hcl⟩
 ·
  obtain rfl : k = l.length := by omega
  rw [List.take_length] at hown
  have hsl := selW_le l a b o
  refine W.exit (Nx.xthn (Nx.xthn (Nx.xblk Nx.thn))) ?_
  refine W.seq ?_
  refine W.region ?_
  refine WL.x (X.load pl22 (s10) hall (v := vo) rfl) rfl ?_
  refine WL.x (X.ifaceW Tryd.underlying22 trivial (lh)) rfl ?_
  refine WL.x (X.mkfn mnil (mcons (jt2 rfl (s10)) mnil)) rfl ?_
  refine WL.call2 ce49 (lt rfl (lh)) (lh) (slst_ok (w.heap.size + 2) w1.heap.size vo (selW l a b o) w3 hown hall (by omega)) rfl ?_
  rintro _ w10 ⟨hownS, cS⟩
  have hall := cS.at hall (fun hk => by have := (hown.lt hk).1; omega)
  have hz8 := cS.at hz8 (fun hk => by have := (hown.lt hk).1; omega)
  have hcl := hcl.trans cS (H := fun _ => False) (fun _ _ e => e) (fun i hi e => by have := (hown.lt e).1; omega)
  have hown := hownS
  refine WL.e2 Nx.thn 8 10 (jt4 rfl (s8)) (jt4 rfl (s10)) ?_
  intro σ15 s8 s10
  refine W.seq ?_
  refine W.seq ?_
  refine W.region ?_
  refine WL.x (X.load pl22 (s10) hall (v := vo) rfl) rfl ?_
  refine WL.x (v := .int .i64 ((selW l a b o).length : Int)) (by obtain ⟨p9, c9, rfl⟩ := hown.len; rw [← stb_len (c := cnd) (selW l a b o)]; exact X.lenSl Tryd.underlying22 (lh)) rfl ?_
  refine WL.x (X.eql (lh) lc) rfl ?_
  refine WL.e3 Nx.thn 8 10 46 (jt2 rfl (lt rfl (s8))) (jt2 rfl (lt rfl (s10))) (lh) ?_
  intro σ16 s8 s10 s46
  refine W.cndp s46 (fun hz => ?_) (fun hz => ?_)
  ·
   refine W.seq ?_
   refine W.region ?_
   refine WL.x (X.build bd27 pnil rfl (rfl : _ = [_, _, _, _, _, _, _, _])) rfl ?_
   refine WL.storeS ag27 (lt rfl (s8)) (lh) rfl rfl hz8 (by decide) ?_
   intro w11 us; have cs10 := us.ch
   have hres : w11.heap[w.heap.size]? = some (.cells (fwy zeroW).toArray 27 (0, 0)) := us.at_
   have hclr := hcl.trans cs10 (H := fun _ => False) (fun _ _ e => e) (fun i hi e => by (try dsimp only at e); omega)
   refine WL.x (X.asg lc) rfl ?_
   refine WL.e2 Nx.thn 8 9 (jt2 rfl (s8)) (lh) ?_
   intro σ17 s8 s9
   refine W.retG (Nx.rthn Nx.fG) ⟨[_, _], (.cell s8 (by assumption) (by exact ag27) (.tmp s9 .nil)), ?_⟩
   have hs0 : stb cnd (selW l a b o) = [] := List.eq_nil_of_length_eq_zero (by rw [stb_len]; omega)
   unfold findW
   rw [hs0]
   exact ⟨rfl, hclr⟩
  ·
   have h0 : 0 < (stb cnd (selW l a b o)).length := by rw [stb_len]; omega
   obtain ⟨gx, gc, gcur, hgv, -, hgx, -, -, -, hgcel⟩ := OwnF.form fwy_len hown (fun e => by rw [e] at h0; exact absurd h0 (by simp))
   subst hgv
   refine W.skip Nx.thn ?_
   refine W.seq ?_
   refine W.region ?_
   refine WL.x (X.load pl22 (s10) hall (v := .slice (some ⟨gx, 0, none⟩) (stb cnd (selW l a b o)).length gc) rfl) rfl ?_
   refine WL.x (X.indexAddr Tryd.underlying22 el27 (lh) lc (by omega) (by omega)) rfl ?_
   refine WL.x (X.loadS (vs := fwy ((stb cnd (selW l a b o))[0]'h0)) ag27 (lh) hgx rfl (fun r hr => by have h9 := hgcel 0 h0 r hr; rw [Nat.zero_mul] at h9; exact h9)) rfl ?_
   refine WL.storeS ag27 (jt2 rfl (lt rfl (s8))) (lh) (List.all_eq_true.2 (fwy_one _)) rfl hz8 (by decide) ?_
   intro w12 us; have cs11 := us.ch
   have hres : w12.heap[w.heap.size]? = some (.cells (fwy ((stb cnd (selW l a b o))[0]'h0)).toArray 27 (0, 0)) := us.at_
   have hclr := hcl.trans cs11 (H := fun _ => False) (fun _ _ e => e) (fun i hi e => by (try dsimp only at e); omega)
   refine WL.x (X.asg lc) rfl ?_
   refine WL.e2 Nx.thn 8 9 (jt4 rfl (s8)) (lh) ?_
   intro σ18 s8 s9
   refine W.retG Nx.fG ⟨[_, _], (.cell s8 (by assumption) (by exact ag27) (.tmp s9 .nil)), ?_⟩
   unfold findW
   rw [List.head?_eq_getElem?, List.getElem?_eq_getElem h0]
   exact ⟨rfl, hclr⟩
end Go.Proofs.YtnfkblboimkcjaaDoor
end

section
set_option linter.unusedVariables false
set_option linter.unusedSimpArgs false
set_option maxRecDepth 100000
namespace Go.Proofs.YtnfkblboimkcjaaDoor
open Go Go.RowKit Sg

abbrev eW (x : Gwy) : GE := (x.1, x.2.1, x.2.2.1)
def okG (n : Int) (l : List Gwy) : Prop := (0 ≤ n ∧ n ≤ 300) ∧ ∀ x ∈ l, errE n.toNat (eW x) = 0
instance (n : Int) (l : List Gwy) : Decidable (okG n l) := by unfold okG; infer_instance
theorem foldW {n : Nat} {l : List Gwy} {k : Nat} (hk : k < l.length) : foldE n ((l.take (k + 1)).map eW) = addE n (foldE n ((l.take k).map eW)) (eW l[k]) := by rw [List.take_succ_eq_append_getElem hk, List.map_append, List.map_cons, List.map_nil, foldE_snoc]

theorem dgraph_out (A : Nat → Prop) (n : Int) (pa : Option Addr) (pc : Nat) (l : List Gwy) (w : World) (hl : RSl 8 (Rc fwy) A w (.slice pa l.length pc) l) (hm : l.length ≤ 1000000) (hn : ¬ (0 ≤ n ∧ n ≤ 300)) :
  Sg.Ret Tryd.prog 18 #[.int .i64 n, .slice pa l.length pc] w fun v w' => Ch0 w w' ∧ (if okG n l then ∃ g, v = .tuple #[.pointer (some ⟨g, 0, none⟩), .int .i64 0] ∧ IsG w' w.heap.size g n.toNat (foldE n.toNat (l.map eW)) else ∃ e : Int, e ≠ 0 ∧ v = .tuple #[.pointer none, .int .i64 e]) := by
 refine enter2 (n := 38) (l := [.int .i64 n, .slice pa l.length pc]) Tryd.func18 rfl rfl rfl rfl ?_
 refine W.g2 0 1 (v1 := .int .i64 n) (v2 := .slice pa l.length pc) rfl rfl ?_; intro σ s0 s1
 refine W.seq ?_
 refine W.region ?_
 refine WL.x (X.asg lc) rfl ?_
 refine WL.x (X.asg lc) rfl ?_
 refine WL.e2 Nx.thn 0 1 (jt2 rfl (s0)) (jt2 rfl (s1)) ?_
 intro σ1 s0 s1
 refine W.seq ?_
 refine W.region ?_
 refine WL.x (X.mv (s0)) rfl ?_
 refine WL.call1 ce36 (lh) (gnew_ok n w) rfl ?_
 rintro vg w1 ⟨k1, hv⟩
 rw [if_neg hn] at hv
 subst hv
 refine WL.x (X.mv (lh)) rfl ?_
 refine WL.x (X.ex2_0 (lh)) rfl ?_
 refine WL.x (X.ex2_1 (lt rfl (lh))) rfl ?_
 refine WL.x (X.asg (lt rfl (lh))) rfl ?_
 refine WL.x (X.asg (lt rfl (lh))) rfl ?_
 refine WL.e3 Nx.thn 1 6 7 (jt4 rfl (jt2 rfl (lt rfl (s1)))) (lt rfl (lh)) (lh) ?_
 intro σ2 s1 s6 s7
 refine W.seq ?_
 refine W.seq ?_
 refine W.region ?_
 refine WL.x (X.mv (s7)) rfl ?_
 refine WL.x (X.neq (lh) lc) rfl ?_
 refine WL.e4 Nx.thn 1 6 7 17 (jt2 rfl (s1)) (jt2 rfl (s6)) (jt2 rfl (s7)) (lh) ?_
 intro σ3 s1 s6 s7 s17
 refine W.cndY s17 (by decide) ?_
 refine W.seq ?_
 refine W.region ?_
 refine WL.x (X.mv (s7)) rfl ?_
 refine WL.x (X.asg lc) rfl ?_
 refine WL.x (X.asg (lt rfl (lh))) rfl ?_
 refine WL.e2 Nx.thn 4 5 (lt rfl (lh)) (lh) ?_
 intro σ4 s4 s5
 refine W.ret2 (Nx.rthn Nx.f2) s4 s5 ?_
 refine ⟨k1, ?_⟩
 rw [if_neg (fun h => hn h.1)]
 exact ⟨1, by decide, rfl⟩
set_option maxHeartbeats 800000 in
theorem dgraph_in (A : Nat → Prop) (n : Int) (pa : Option Addr) (pc : Nat) (l : List Gwy) (w : World) (hl : RSl 8 (Rc fwy) A w (.slice pa l.length pc) l) (hm : l.length ≤ 1000000) (hn : 0 ≤ n ∧ n ≤ 300) :
  Sg.Ret Tryd.prog 18 #[.int .i64 n, .slice pa l.length pc] w fun v w' => Ch0 w w' ∧ (if okG n l then ∃ g, v = .tuple #[.pointer (some ⟨g, 0, none⟩), .int .i64 0] ∧ IsG w' w.heap.size g n.toNat (foldE n.toNat (l.map eW)) else ∃ e : Int, e ≠ 0 ∧ v = .tuple #[.pointer none, .int .i64 e]) := by
 obtain ⟨N, hN⟩ : ∃ N : Nat, n = (N : Int) := ⟨n.toNat, by omega⟩
 have hNt : n.toNat = N := by omega
 refine enter2 (n := 38) (l := [.int .i64 n, .slice pa l.length pc]) Tryd.func18 rfl rfl rfl rfl ?_
 refine W.g2 0 1 (v1 := .int .i64 n) (v2 := .slice pa l.length pc) rfl rfl ?_; intro σ s0 s1
 refine W.seq ?_
 refine W.region ?_
 refine WL.x (X.asg lc) rfl ?_
 refine WL.x (X.asg lc) rfl ?_
 refine WL.e2 Nx.thn 0 1 (jt2 rfl (s0)) (jt2 rfl (s1)) ?_
 intro σ1 s0 s1
 refine W.seq ?_
 refine W.region ?_
 refine WL.x (X.mv (s0)) rfl ?_
 refine WL.call1 ce36 (lh) (gnew_ok n w) rfl ?_
 rintro vg w1 ⟨k1, hv⟩
 rw [if_pos hn] at hv
 obtain ⟨g, rfl, hg0⟩ := hv
 rw [hNt] at hg0
 refine WL.x (X.mv (lh)) rfl ?_
 refine WL.x (X.ex2_0 (lh)) rfl ?_
 refine WL.x (X.ex2_1 (lt rfl (lh))) rfl ?_
 refine WL.x (X.asg (lt rfl (lh))) rfl ?_
 refine WL.x (X.asg (lt rfl (lh))) rfl ?_
 refine WL.e3 Nx.thn 1 6 7 (jt4 rfl (jt2 rfl (lt rfl (s1)))) (lt rfl (lh)) (lh) ?_
 intro σ2 s1 s6 s7
 refine W.seq ?_
 refine W.seq ?_
 refine W.region ?_
 refine WL.x (X.mv (s7)) rfl ?_
 refine WL.x (X.neq (lh) lc) rfl ?_
 refine WL.e4 Nx.thn 1 6 7 17 (jt2 rfl (s1)) (jt2 rfl (s6)) (jt2 rfl (s7)) (lh) ?_
 intro σ3 s1 s6 s7 s17
 refine W.cndN s17 (fun h => h rfl) ?_
 refine W.skip Nx.thn ?_
 refine W.seq ?_
 refine W.seq ?_
 refine W.region ?_
 refine WL.x (X.mv (s1)) rfl ?_
 refine WL.x (X.lenSl Tryd.underlying22 (lh)) rfl ?_
 refine WL.x (X.mv lc) rfl ?_
 refine WL.e4 Nx.thn 6 19 20 21 (jt2 rfl (lt rfl (s6))) (jt2 rfl (lh)) (lt rfl (lh)) (lh) ?_
 intro σ4 s6 s19 s20 s21
 refine W.block ?_
 have qo1 := s6
 have qo2 := s19
 have qo3 := s20
 -- loop 0: kept [6, 19, 20], varied [21]
 refine W.loop (G := Nat) (fun k σ' w' => (σ' 6 = σ4 6 ∧ σ' 19 = σ4 19 ∧ σ' 20 = σ4 20 ∧ True) ∧ (σ' 21 = .int .i64 (k : Int) ∧ k ≤ l.length ∧ IsG w' w.heap.size g N (foldE N ((l.take k).map eW)) ∧ (∀ x ∈ l.take k, errE N (eW x) = 0) ∧ Ch0 w w')) (fun k => l.length - k) (0) ⟨⟨rfl, rfl, rfl, trivial⟩, s21, by omega, hg0, (fun x hx => by rw [List.take_zero] at hx; cases hx), k1⟩ ?_
 rintro k σ5 w2 ⟨⟨f6, f19, f20, _⟩, s21, hk, hg, hall, hcl⟩
 have s6 := f6.trans qo1
 have s19 := f19.trans qo2
 have s20 := f20.trans qo3
 have hzc := hcl.size
 refine W.seq ?_
 refine W.region ?_
 refine WL.x (X.lss (s21) (s20)) rfl ?_
 refine WL.e5 Nx.thn 6 19 20 21 22 (lt rfl (s6)) (lt rfl (s19)) (lt rfl (s20)) (lt rfl (s21)) (lh) ?_
 intro σ6 s6 s19 s20 s21 s22
 refine W.seq ?_
 refine W.cndp s22 (fun hlt => ?_) (fun hlt => ?_)
 ·
  have hkl : k < l.length := by omega
  obtain ⟨lb, lo, lcs, lT, lfr, rfl, hlm, hle9, -, hlc⟩ := hl.get (k := k) hkl
  have hft := foldW (n := N) hkl
  obtain ⟨x, hx⟩ : ∃ x, l[k] = x := ⟨_, rfl⟩
  rw [hx] at hlc hft
  have hxm : x ∈ l := by rw [← hx]; exact List.getElem_mem hkl
  refine W.skip Nx.thn ?_
  refine W.seq ?_
  refine W.block ?_
  refine W.seq ?_
  refine W.region ?_
  refine WL.x (X.indexAddr Tryd.underlying22 el27 (s19) (s21) (by omega) (by omega)) rfl ?_
  refine WL.x (X.loadS (vs := fwy x) ag27 (lh) (hcl.at0 hlm) rfl hlc) rfl ?_
  refine WL.alloc el27 rfl ?_
  intro w3 u6_2; have hu6_2 := u6_2.at_; have cu6_2 := u6_2.ch; have zu6_2 := u6_2.size
  refine WL.storeS ag27 (lh) (lt rfl (lh)) (List.all_eq_true.2 (fwy_one x)) rfl hu6_2 (by decide) ?_
  intro w4 us; have cst := us.ch
  have hkb : w4.heap[w2.heap.size]? = some (.cells (fwy x).toArray 27 (0, 0)) := us.at_
  have cku : Ch0 w2 w4 := cu6_2.trans cst (fun _ _ e => e) (fun i hi e => by (try dsimp only at e); omega)
  have hg3 := hg.ch0 cku
  have hcl3 := hcl.trans0 cku
  have hzk := lt_of_blk hkb
  refine WL.e5 Nx.thn 6 9 19 20 21 (jt2 rfl (lt rfl (s6))) (lh) (jt2 rfl (lt rfl (s19))) (jt2 rfl (lt rfl (s20))) (jt2 rfl (lt rfl (s21))) ?_
  intro σ7 s6 s9 s19 s20 s21
  refine W.seq ?_
  refine W.region ?_
  refine WL.x (X.mv (s6)) rfl ?_
  refine WL.x (X.fieldAddr fd27_0 (lt rfl (s9))) rfl ?_
  refine WL.x (X.load pl3 (lh) hkb (v := .int .i64 x.1) rfl) rfl ?_
  refine WL.x (X.fieldAddr fd27_1 (jt2 rfl (lt rfl (s9)))) rfl ?_
  refine WL.x (X.load pl3 (lh) hkb (v := .int .i64 x.2.1) rfl) rfl ?_
  refine WL.x (X.fieldAddr fd27_2 (jt4 rfl (lt rfl (s9)))) rfl ?_
  refine WL.x (X.load pl3 (lh) hkb (v := .int .i64 x.2.2.1) rfl) rfl ?_
  refine WL.call4 ce37 (jt4 rfl (jt2 rfl (lh))) (jt4 rfl (lh)) (jt2 rfl (lh)) (lh) (gadd_ok _ g N _ w4 hg3 (eW x)) rfl ?_
  rintro _ w5 ⟨rfl, hg4, c4⟩
  have hcl4 := hcl3.trans c4 (H := fun _ => False) (fun _ _ e => e) (fun i hi e => by have := e.1; omega)
  refine WL.x (X.asg (lh)) rfl ?_
  refine WL.e5 Nx.thn 6 10 19 20 21 (jt8 rfl (lt rfl (s6))) (lh) (jt8 rfl (lt rfl (s19))) (jt8 rfl (lt rfl (s20))) (jt8 rfl (lt rfl (s21))) ?_
  intro σ8 s6 s10 s19 s20 s21
  refine W.seq ?_
  refine W.region ?_
  refine WL.x (X.mv (s10)) rfl ?_
  refine WL.x (X.neq (lh) lc) rfl ?_
  refine WL.e6 Nx.thn 6 10 19 20 21 34 (jt2 rfl (s6)) (jt2 rfl (s10)) (jt2 rfl (s19)) (jt2 rfl (s20)) (jt2 rfl (s21)) (lh) ?_
  intro σ9 s6 s10 s19 s20 s21 s34
  refine W.cndp s34 (fun herr => ?_) (fun herr => ?_)
  ·
   refine W.seq ?_
   refine W.region ?_
   refine WL.x (X.mv (s10)) rfl ?_
   refine WL.x (X.asg lc) rfl ?_
   refine WL.x (X.asg (lt rfl (lh))) rfl ?_
   refine WL.e2 Nx.thn 4 5 (lt rfl (lh)) (lh) ?_
   intro σ10 s4 s5
   refine W.ret2 (Nx.rblk (Nx.rthn (Nx.rthn (Nx.rblk (Nx.rthn Nx.f2))))) s4 s5 ?_
   refine ⟨hcl4, ?_⟩
   rw [if_neg (fun h => herr (by have h8 := h.2 x hxm; rw [hNt] at h8; exact h8))]
   exact ⟨_, herr, rfl⟩
  ·
   have herr : errE N (eW x) = 0 := Classical.not_not.1 herr
   refine W.skip (Nx.blk Nx.thn) ?_
   refine W.region ?_
   refine WL.x (X.add (s21) lc (by omega) (by omega)) rfl ?_
   refine WL.x (X.mv (lh)) rfl ?_
   refine WL.e4 Nx.thn 6 19 20 21 (jt2 rfl (s6)) (jt2 rfl (s19)) (jt2 rfl (s20)) (lh) ?_
   intro σ11 s6 s19 s20 s21
   refine ⟨k + 1, by omega, ⟨s6.trans qo1.symm, s19.trans qo2.symm, s20.trans qo3.symm, trivial⟩, s21, by omega, (by rw [hft]; exact hg4), (fun y hy => by rw [List.take_succ_eq_append_getElem hkl, hx] at hy; rcases List.mem_append.1 hy with h9 | h9; (· exact hall y h9); (· rw [List.mem_singleton.1 h9]; exact herr)), hcl4⟩
 ·
  refine W.exit (Nx.xthn (Nx.xthn (Nx.xblk Nx.thn))) ?_
  refine W.seq ?_
  refine W.region ?_
  refine WL.x (X.mv (s6)) rfl ?_
  refine WL.x (X.asg (lh)) rfl ?_
  refine WL.x (X.asg lc) rfl ?_
  refine WL.e2 Nx.thn 4 5 (lt rfl (lh)) (lh) ?_
  intro σ12 s4 s5
  refine W.ret2 Nx.f2 s4 s5 ?_
  have hke : k = l.length := by omega
  subst hke
  rw [List.take_length] at hg hall
  refine ⟨hcl, ?_⟩
  rw [if_pos ⟨hn, fun x hx => by rw [hNt]; exact hall x hx⟩, hNt]
  exact ⟨g, rfl, hg⟩
theorem dgraph_ok (A : Nat → Prop) (n : Int) (pa : Option Addr) (pc : Nat) (l : List Gwy) (w : World) (hl : RSl 8 (Rc fwy) A w (.slice pa l.length pc) l) (hm : l.length ≤ 1000000) : Sg.Ret Tryd.prog 18 #[.int .i64 n, .slice pa l.length pc] w (fun v w' => Ch0 w w' ∧ (if okG n l then ∃ g, v = .tuple #[.pointer (some ⟨g, 0, none⟩), .int .i64 0] ∧ IsG w' w.heap.size g n.toNat (foldE n.toNat (l.map eW)) else ∃ e : Int, e ≠ 0 ∧ v = .tuple #[.pointer none, .int .i64 e])) := by
  by_cases hn : 0 ≤ n ∧ n ≤ 300
  · exact dgraph_in A n pa pc l w hl hm hn
  · exact dgraph_out A n pa pc l w hl hm hn

end Go.Proofs.YtnfkblboimkcjaaDoor
end

section
set_option linter.unusedVariables false
set_option linter.unusedSimpArgs false
set_option maxRecDepth 100000
namespace Go.Proofs.YtnfkblboimkcjaaDoor
open Go Go.RowKit Sg

def wf (l : List Gwy) (a b o : Int) : Gwy := (findW l a b o).getD zeroW
/-- The dependency of one step back. -/
def stepW (l : List Gwy) (Lb : Nat → Nat → Nat) (oth : Nat) (B : List Int) (i : Nat) : Gwy := wf l (B.getD i 0) (B.getD (i + 1) 0) (lsb (lbv Lb (B.getD i 0) (B.getD (i + 1) 0) &&& oth) : Int)
def chainW (l : List Gwy) (Lb : Nat → Nat → Nat) (oth : Nat) (B : List Int) (m : Nat) : List Gwy := (List.range m).map (stepW l Lb oth B)
theorem chainW_succ (l : List Gwy) (Lb : Nat → Nat → Nat) (oth : Nat) (B : List Int) (m : Nat) : chainW l Lb oth B (m + 1) = chainW l Lb oth B m ++ [stepW l Lb oth B m] := by unfold chainW; rw [List.range_succ, List.map_append]; rfl
theorem chainW_len (l : List Gwy) (Lb : Nat → Nat → Nat) (oth : Nat) (B : List Int) (m : Nat) : (chainW l Lb oth B m).length = m := by unfold chainW; rw [List.length_map, List.length_range]
/-- The way back from an edge. -/
noncomputable def backW (n : Nat) (Lb : Nat → Nat → Nat) (oth : Nat) (e : GE) : List Int := shI n Lb (oth : Int) e.2.1 e.1
noncomputable def cycW (l : List Gwy) (n : Nat) (Lb : Nat → Nat → Nat) (want oth : Nat) (e : GE) : List Gwy := wf l e.1 e.2.1 (want : Int) :: chainW l Lb oth (backW n Lb oth e) ((backW n Lb oth e).length - 1)
noncomputable def pX (n : Nat) (Lb : Nat → Nat → Nat) (want oth : Nat) (e : GE) : Bool := decide (e.2.2.toNat &&& want ≠ 0) && decide (0 ≤ dsI n Lb (oth : Int) e.2.1 e.1)
noncomputable def LbW (n : Int) (l : List Gwy) : Nat → Nat → Nat := foldE n.toNat (l.map eW)
/-- A cycle of a class, as the document says. -/
noncomputable def findC (n : Int) (l : List Gwy) (k : Int) (r : Bool) : Option (List Gwy) :=
  if okK k ∧ (l.all (fun x => oneL x.2.2.1) = true) ∧ okG n l then ((edL n.toNat (LbW n l) n.toNat).find? (pX n.toNat (LbW n l) (wantN k) (othN k r))).map (cycW l n.toNat (LbW n l) (wantN k) (othN k r)) else none
theorem ed_mem {n : Nat} {Lb : Nat → Nat → Nat} {k : Nat} (hk : k ≤ n) {e : GE} (h : e ∈ edL n Lb k) : ∃ a b : Nat, a < n ∧ b < n ∧ Lb a b ≠ 0 ∧ e = ((a : Int), (b : Int), (Lb a b : Int)) := by
  unfold edL rowE at h
  obtain ⟨a, ha, h⟩ := List.mem_flatMap.1 h
  obtain ⟨b, hb, rfl⟩ := List.mem_map.1 h
  have hb2 := List.mem_filter.1 hb
  exact ⟨a, b, by have := List.mem_range.1 ha; omega, List.mem_range.1 hb2.1, of_decide_eq_true hb2.2, rfl⟩
theorem all_succ {l : List Gwy} {k : Nat} (hk : k < l.length) : (l.take (k + 1)).all (fun x => oneL x.2.2.1) = ((l.take k).all (fun x => oneL x.2.2.1) && oneL l[k].2.2.1) := by
  rw [List.take_succ_eq_append_getElem hk, List.all_append]
  simp
/-- None of the first. -/
theorem pX_none {n : Nat} {Lb : Nat → Nat → Nat} {w o : Nat} {es : List GE} (h : ∀ i (hi : i < es.length), pX n Lb w o es[i] = false) : es.find? (pX n Lb w o) = none :=
  List.find?_eq_none.2 fun x hx => by obtain ⟨i, hi, rfl⟩ := List.mem_iff_getElem.1 hx; rw [h i hi]; simp
theorem pX_some {n : Nat} {Lb : Nat → Nat → Nat} {w o : Nat} {es : List GE} {k : Nat} (hk : k < es.length) (h : ∀ i (hi : i < es.length), i < k → pX n Lb w o es[i] = false) (hx : pX n Lb w o es[k] = true) : es.find? (pX n Lb w o) = some es[k] :=
  List.find?_eq_some_iff_getElem.2 ⟨hx, k, hk, rfl, fun j hj => by rw [h j (by omega) hj]; rfl⟩
theorem and_oth {z w : Nat} (hz : z < 16) (hw : w < 16) : bitop .and .i64 (z : Int) (w : Int) = ((z &&& w : Nat) : Int) := by
  rw [and_ofm hz, ofm_in (by omega) (by omega), Int.toNat_natCast]
theorem wk_mono {E E' : Nat → Nat → Prop} (h : ∀ a b, E a b → E' a b) : ∀ {k a b}, Wk E k a b → Wk E' k a b
  | 0, _, _, e => e
  | _ + 1, _, _, ⟨c, h1, h2⟩ => ⟨c, h _ _ h1, wk_mono h h2⟩
theorem or_two {L w o : Nat} (h : L &&& w ≠ 0 ∨ L &&& o ≠ 0) : L &&& (w ||| o) ≠ 0 := by
  rw [Nat.and_or_distrib_left]
  intro e
  have h2 := Nat.or_eq_zero_iff.1 e
  rcases h with h | h
  · exact h h2.1
  · exact h h2.2
theorem ee_nat {Lb : Nat → Nat → Nat} {o : Nat} (ho : o < 16) {a b : Nat} : EE Lb (o : Int) a b ↔ Lb a b &&& o ≠ 0 := by unfold EE; rw [ofm_in (by omega) (by omega), Int.toNat_natCast]
theorem no_cyc {n : Nat} {Lb : Nat → Nat → Nat} {w o : Nat} (hw : w < 16) (ho : o < 16) (h : ∀ k a, 1 ≤ k → ¬ Wk (EE Lb ((w ||| o : Nat) : Int)) k a a) {e : GE} (he : e ∈ edL n Lb n) : pX n Lb w o e = false := by
  obtain ⟨a, b, ha, hb, hn, rfl⟩ := ed_mem (Nat.le_refl n) he
  refine Bool.eq_false_iff.2 fun hp => ?_
  unfold pX at hp
  rw [Bool.and_eq_true] at hp
  have h1 := of_decide_eq_true hp.1
  have h2 := of_decide_eq_true hp.2
  have hwo : w ||| o < 16 := or_lt16 hw ho
  have h1 : Lb a b &&& w ≠ 0 := by have : (Lb a b : Int).toNat &&& w ≠ 0 := h1; rwa [Int.toNat_natCast] at this
  rcases dsI_pos (n := n) (Lb := Lb) (o := (o : Int)) (a := (b : Int)) (b := (a : Int)) with k1 | k1
  · have h2 : 0 ≤ dsI n Lb (o : Int) (b : Int) (a : Int) := h2
    omega
  · have h3 := k1.2.2.2
    rw [Int.toNat_natCast, Int.toNat_natCast] at h3
    have h4 := dst_is (E := EE Lb (o : Int)) (a := b) (b := a) (by omega)
    exact h _ a (Nat.succ_le_succ (Nat.zero_le _)) ⟨b, (ee_nat hwo).2 (or_two (.inl h1)), wk_mono (fun x y hxy => (ee_nat hwo).2 (or_two (.inr ((ee_nat ho).1 hxy)))) h4.2.1⟩
theorem and_lt16 {z w : Nat} (hz : z < 16) : z &&& w < 16 := Nat.lt_of_le_of_lt Nat.and_le_left hz


theorem short3_ok (base g n : Nat) (Lb : Nat → Nat → Nat) (w : World) (h : IsG w base g n Lb) (htab : Tab w) (hb0 : 0 < w.heap.size) (o a b : Int) : Sg.Ret Tryd.prog 22 #[.pointer (some ⟨g, 0, none⟩), .int .i64 o, .int .i64 a, .int .i64 b] w fun v w' =>
    ∃ p c, v = .slice p (shI n Lb o a b).length c ∧ p.isNone = decide (dsI n Lb o a b < 0) ∧ Sl w' v ((shI n Lb o a b).map (Value.int .i64)) ∧ dsI n Lb o a b ≤ n ∧ Ch0 w w' := by
  by_cases hneg : dsI n Lb o a b < 0
  · refine Ret.mono (short_out base g n Lb w h htab hb0 o a b hneg) fun v w' k => ?_
    have e : shI n Lb o a b = [] := by unfold shI; rw [if_pos hneg]
    rw [e, k.1]
    exact ⟨none, 0, rfl, (decide_eq_true hneg).symm, QRow.sl (QRow.nil (w := w') (base := 0) (e := 0)), by omega, k.2⟩
  · refine Ret.mono (short_ok base g n Lb w h htab hb0 o a b) fun v w' k => ?_
    obtain ⟨hs, hd, hc⟩ := k
    rcases hs with ⟨he, _⟩ | ⟨b9, o9, cap, cs, TT, fr, rfl, h1, h2, h3⟩
    · exfalso
      have : shI n Lb o a b ≠ [] := by unfold shI; rw [if_neg hneg]; simp
      exact this (List.map_eq_nil_iff.1 he)
    · exact ⟨_, _, by rw [List.length_map], by rw [decide_eq_false hneg]; rfl, .inr ⟨b9, o9, cap, cs, TT, fr, rfl, h1, h2, h3⟩, hd, hc⟩
theorem sh_len {n : Nat} {Lb : Nat → Nat → Nat} {o a b : Int} (h : ¬ dsI n Lb o a b < 0) : 2 ≤ (shI n Lb o a b).length := by
  unfold shI
  rw [if_neg h, List.length_map, List.length_cons, spath_len]
  rcases dsI_pos (n := n) (Lb := Lb) (o := o) (a := a) (b := b) with k1 | k1 <;> omega
theorem sl_int {w : World} {p : Option Addr} {c : Nat} {B : List Int} (h : Sl w (.slice p B.length c) (B.map (Value.int .i64))) {i : Nat} (hi : i < B.length) : ∃ b o cs TT fr, p = some ⟨b, o, none⟩ ∧ w.heap[b]? = some (.cells cs TT fr) ∧ ∀ j, j < B.length → cs[o + (j : Int).toNat * 1]? = some (.int .i64 (B.getD j 0)) := by
  rw [show B.length = (B.map (Value.int .i64)).length by simp] at h
  obtain ⟨b, o, cs, TT, fr, rfl, h1, h2⟩ := h.at (k := i) (by simpa using hi)
  refine ⟨b, o, cs, TT, fr, rfl, h1, fun j hj => ?_⟩
  rw [show o + (j : Int).toNat * 1 = o + j by omega, h2 j (by simpa using hj), List.getElem?_map, List.getElem?_eq_getElem hj, List.getD_eq_getElem?_getD, List.getElem?_eq_getElem hj]
  rfl

end Go.Proofs.YtnfkblboimkcjaaDoor
end

section
set_option linter.unusedVariables false
set_option linter.unusedSimpArgs false
set_option maxRecDepth 100000
namespace Go.Proofs.YtnfkblboimkcjaaDoor
open Go Go.RowKit Sg

def mtW (x : Gwy) (a b o : Int) : Bool := decide (x.1 = a) && decide (x.2.1 = b) && decide (x.2.2.1 = o)
theorem findW_eq (l : List Gwy) (a b o : Int) : findW l a b o = (l.find? fun x => mtW x a b o && !cnd x).or (l.find? fun x => mtW x a b o && cnd x) := by
  unfold findW stb zs os selW
  rw [List.head?_append, List.filter_filter, List.filter_filter, List.head?_filter, List.head?_filter]
  congr 1
  · congr 1; funext x; exact Bool.and_comm _ _
  · congr 1; funext x; exact Bool.and_comm _ _
end Go.Proofs.YtnfkblboimkcjaaDoor
end

section
set_option linter.unusedVariables false
set_option linter.unusedSimpArgs false
set_option maxRecDepth 100000
namespace Go.Proofs.YtnfkblboimkcjaaDoor
open Go Go.RowKit Sg
end Go.Proofs.YtnfkblboimkcjaaDoor
end

section
set_option linter.unusedVariables false
set_option linter.unusedSimpArgs false
set_option maxRecDepth 100000
namespace Go.Proofs.YtnfkblboimkcjaaDoor
open Go Go.RowKit Sg
end Go.Proofs.YtnfkblboimkcjaaDoor
end

section
set_option linter.unusedVariables false
set_option linter.unusedSimpArgs false
set_option maxRecDepth 100000
namespace Go.Proofs.YtnfkblboimkcjaaDoor
open Go Go.RowKit Sg
set_option maxHeartbeats 3200000 in
theorem cfind_out (A : Nat → Prop) (n : Int) (pa : Option Addr) (pc : Nat) (l : List Gwy) (k : Int) (r : Bool) (w : World) (hl : RSl 8 (Rc fwy) A w (.slice pa l.length pc) l) (hm : l.length ≤ 1000000) (htab : Tab w) (hb0 : 0 < w.heap.size) (hG : ¬ okG n l) :
  Sg.Ret Tryd.prog 7 #[.int .i64 n, .slice pa l.length pc, .int .i64 k, .bool r] w fun v w' => ∃ vl, v = .tuple #[vl, .bool (findC n l k r).isSome] ∧ OwnF 8 fwy w' w.heap.size 27 vl ((findC n l k r).getD []) ∧ Ch0 w w' := by
 refine enter2 (n := 151) (l := [.int .i64 n, .slice pa l.length pc, .int .i64 k, .bool r]) Tryd.func7 rfl rfl rfl rfl ?_
 refine W.g4 0 1 2 3 (v1 := .int .i64 n) (v2 := .slice pa l.length pc) (v3 := .int .i64 k) (v4 := .bool r) rfl rfl rfl rfl ?_; intro σ s0 s1 s2 s3
 refine W.seq ?_
 refine W.region ?_
 refine WL.x (X.asg lc) rfl ?_
 refine WL.x (X.asg lc) rfl ?_
 refine WL.e4 Nx.thn 0 1 2 3 (jt2 rfl (s0)) (jt2 rfl (s1)) (jt2 rfl (s2)) (jt2 rfl (s3)) ?_
 intro σ1 s0 s1 s2 s3
 refine W.seq ?_
 refine W.region ?_
 refine WL.x (X.mv (s2)) rfl ?_
 refine WL.x (X.mv (lt rfl (s3))) rfl ?_
 refine WL.call2 ce16 (lt rfl (lh)) (lh) (of_ok k r w) rfl ?_
 rintro _ w1 ⟨⟨wv, ov, mv, rfl, hc⟩, c1⟩
 refine WL.x (X.mv (lh)) rfl ?_
 refine WL.x (X.ex2_0 (lh)) rfl ?_
 refine WL.x (X.ex2_1 (lt rfl (lh))) rfl ?_
 refine WL.alloc el43 rfl ?_
 intro w2 u1_6; have hu1_6 := u1_6.at_; have cu1_6 := u1_6.ch; have zu1_6 := u1_6.size
 refine WL.storeS (vs := [.int .i64 wv, .int .i64 ov, .int .i64 mv]) ag43 (lh) (jt2 rfl (lh)) rfl rfl hu1_6 (by decide) ?_
 intro w3 us; have cst := us.ch
 have hcb : w3.heap[w1.heap.size]? = some (.cells #[.int .i64 wv, .int .i64 ov, .int .i64 mv] 43 (0, 0)) := us.at_
 have hcl := (c1.trans0 cu1_6).trans cst (H := fun _ => False) (fun _ _ e => e) (fun i hi e => by have := c1.size; (try dsimp only at e); omega)
 have hzb := lt_of_blk hcb
 have hz1 := c1.size
 refine WL.x (X.asg (lt rfl (lh))) rfl ?_
 refine WL.e4 Nx.thn 0 1 10 11 (jt8 rfl (s0)) (jt8 rfl (s1)) (lt rfl (lh)) (lh) ?_
 intro σ2 s0 s1 s10 s11
 refine W.seq ?_
 refine W.seq ?_
 refine W.region ?_
 refine WL.x (X.mv (s1)) rfl ?_
 refine WL.x (X.lenSl Tryd.underlying22 (lh)) rfl ?_
 refine WL.x (X.mv lc) rfl ?_
 refine WL.e7 Nx.thn 0 1 10 11 33 34 35 (jt2 rfl (lt rfl (s0))) (jt2 rfl (lt rfl (s1))) (jt2 rfl (lt rfl (s10))) (jt2 rfl (lt rfl (s11))) (jt2 rfl (lh)) (lt rfl (lh)) (lh) ?_
 intro σ3 s0 s1 s10 s11 s33 s34 s35
 refine W.block ?_
 have qo1 := s0
 have qo2 := s1
 have qo3 := s10
 have qo4 := s33
 have qo5 := s34
 -- loop 0: kept [0, 1, 10, 33, 34], varied [11, 35]
 refine W.loop (G := Nat) (fun j σ' w' => (σ' 0 = σ3 0 ∧ σ' 1 = σ3 1 ∧ σ' 10 = σ3 10 ∧ σ' 33 = σ3 33 ∧ σ' 34 = σ3 34 ∧ True) ∧ (σ' 35 = .int .i64 (j : Int) ∧ j ≤ l.length ∧ σ' 11 = .bool (decide (okK k) && (l.take j).all (fun x => oneL x.2.2.1)) ∧ (w').heap[w1.heap.size]? = some (.cells #[.int .i64 wv, .int .i64 ov, .int .i64 mv] 43 (0, 0)) ∧ Ch0 w w')) (fun j => l.length - j) (0) ⟨⟨rfl, rfl, rfl, rfl, rfl, trivial⟩, s35, by omega, s11.trans (by simp), hcb, hcl⟩ ?_
 rintro j σ4 w4 ⟨⟨f0, f1, f10, f33, f34, _⟩, s35, hj, s11, hcb, hcl⟩
 have s0 := f0.trans qo1
 have s1 := f1.trans qo2
 have s10 := f10.trans qo3
 have s33 := f33.trans qo4
 have s34 := f34.trans qo5
 have hzb := lt_of_blk hcb
 refine W.seq ?_
 refine W.region ?_
 refine WL.x (X.lss (s35) (s34)) rfl ?_
 refine WL.e8 Nx.thn 0 1 10 11 33 34 35 36 (lt rfl (s0)) (lt rfl (s1)) (lt rfl (s10)) (lt rfl (s11)) (lt rfl (s33)) (lt rfl (s34)) (lt rfl (s35)) (lh) ?_
 intro σ5 s0 s1 s10 s11 s33 s34 s35 s36
 refine W.seq ?_
 refine W.cndp s36 (fun hlt => ?_) (fun hlt => ?_)
 ·
  have hjl : j < l.length := by omega
  obtain ⟨lb, lo, lcs, lT, lfr, rfl, hlm, hle9, -, hlc⟩ := hl.get (k := j) hjl
  obtain ⟨x, hx⟩ : ∃ x, l[j] = x := ⟨_, rfl⟩
  have has := all_succ hjl
  rw [hx] at hlc has
  refine W.skip Nx.thn ?_
  refine W.seq ?_
  refine W.block ?_
  refine W.seq ?_
  refine W.region ?_
  refine WL.x (X.indexAddr Tryd.underlying22 el27 (s33) (s35) (by omega) (by omega)) rfl ?_
  refine WL.x (X.loadS (vs := fwy x) ag27 (lh) (hcl.at0 hlm) rfl hlc) rfl ?_
  refine WL.alloc el27 rfl ?_
  intro w5 u4_2; have hu4_2 := u4_2.at_; have cu4_2 := u4_2.ch; have zu4_2 := u4_2.size
  refine WL.storeS ag27 (lh) (lt rfl (lh)) (List.all_eq_true.2 (fwy_one x)) rfl hu4_2 (by decide) ?_
  intro w6 us; have cst := us.ch
  have hkb : w6.heap[w4.heap.size]? = some (.cells (fwy x).toArray 27 (0, 0)) := us.at_
  have cku : Ch0 w4 w6 := cu4_2.trans cst (fun _ _ e => e) (fun i hi e => by (try dsimp only at e); omega)
  have hcb := cku.at0 hcb
  have hcl := hcl.trans0 cku
  refine WL.e8 Nx.thn 0 1 10 11 13 33 34 35 (jt2 rfl (lt rfl (s0))) (jt2 rfl (lt rfl (s1))) (jt2 rfl (lt rfl (s10))) (jt2 rfl (lt rfl (s11))) (lh) (jt2 rfl (lt rfl (s33))) (jt2 rfl (lt rfl (s34))) (jt2 rfl (lt rfl (s35))) ?_
  intro σ6 s0 s1 s10 s11 s13 s33 s34 s35
  refine W.region ?_
  refine WL.x (X.mv (s11)) rfl ?_
  refine WL.x (X.mv (lh)) rfl ?_
  refine WL.split (lh) (fun hok => ?_) (fun hok => ?_)
  ·
   refine WL.yes rfl rfl (lh) (hok) ?_
   refine WL.x (X.fieldAddr fd27_2 (jt2 rfl (s13))) rfl ?_
   refine WL.yes rfl rfl (lt rfl (lh)) (hok) ?_
   refine WL.x (X.load pl3 (lh) hkb (v := .int .i64 x.2.2.1) rfl) rfl ?_
   refine WL.yes rfl rfl (jt2 rfl (lh)) (hok) ?_
   refine WL.call1 ce17 (lh) (one_ok x.2.2.1 w6) rfl ?_
   rintro _ _ ⟨rfl, rfl⟩
   refine WL.x (X.pickT (jt2 rfl (lt rfl (lh))) (hok) (lh)) rfl ?_
   refine WL.x (X.asg (lh)) rfl ?_
   refine WL.e7 (Nx.blk Nx.thn) 0 1 10 11 33 34 35 (jt4 rfl (jt2 rfl (lt rfl (s0)))) (jt4 rfl (jt2 rfl (lt rfl (s1)))) (jt4 rfl (jt2 rfl (lt rfl (s10)))) (lh) (jt4 rfl (jt2 rfl (lt rfl (s33)))) (jt4 rfl (jt2 rfl (lt rfl (s34)))) (jt4 rfl (jt2 rfl (lt rfl (s35)))) ?_
   intro σ7 s0 s1 s10 s11 s33 s34 s35
   refine W.region ?_
   refine WL.x (X.add (s35) lc (by omega) (by omega)) rfl ?_
   refine WL.x (X.mv (lh)) rfl ?_
   refine WL.e7 Nx.thn 0 1 10 11 33 34 35 (jt2 rfl (s0)) (jt2 rfl (s1)) (jt2 rfl (s10)) (jt2 rfl (s11)) (jt2 rfl (s33)) (jt2 rfl (s34)) (lh) ?_
   intro σ8 s0 s1 s10 s11 s33 s34 s35
   refine ⟨j + 1, by omega, ⟨s0.trans qo1.symm, s1.trans qo2.symm, s10.trans qo3.symm, s33.trans qo4.symm, s34.trans qo5.symm, trivial⟩, s35, by omega, s11.trans (congrArg Value.bool (by rw [has, ← Bool.and_assoc, hok, Bool.true_and])), hcb, hcl⟩
  ·
   refine WL.no rfl rfl (lh) (hok) rfl ?_
   refine WL.no rfl rfl (lt rfl (lh)) (hok) rfl ?_
   refine WL.no rfl rfl (jt2 rfl (lh)) (hok) rfl ?_
   refine WL.x (X.pickF (jt2 rfl (lt rfl (lh))) (hok) lc) rfl ?_
   refine WL.x (X.asg (lh)) rfl ?_
   refine WL.e7 (Nx.blk Nx.thn) 0 1 10 11 33 34 35 (jt4 rfl (jt2 rfl (lt rfl (s0)))) (jt4 rfl (jt2 rfl (lt rfl (s1)))) (jt4 rfl (jt2 rfl (lt rfl (s10)))) (lh) (jt4 rfl (jt2 rfl (lt rfl (s33)))) (jt4 rfl (jt2 rfl (lt rfl (s34)))) (jt4 rfl (jt2 rfl (lt rfl (s35)))) ?_
   intro σ9 s0 s1 s10 s11 s33 s34 s35
   refine W.region ?_
   refine WL.x (X.add (s35) lc (by omega) (by omega)) rfl ?_
   refine WL.x (X.mv (lh)) rfl ?_
   refine WL.e7 Nx.thn 0 1 10 11 33 34 35 (jt2 rfl (s0)) (jt2 rfl (s1)) (jt2 rfl (s10)) (jt2 rfl (s11)) (jt2 rfl (s33)) (jt2 rfl (s34)) (lh) ?_
   intro σ10 s0 s1 s10 s11 s33 s34 s35
   refine ⟨j + 1, by omega, ⟨s0.trans qo1.symm, s1.trans qo2.symm, s10.trans qo3.symm, s33.trans qo4.symm, s34.trans qo5.symm, trivial⟩, s35, by omega, s11.trans (congrArg Value.bool (by rw [has, ← Bool.and_assoc, hok, Bool.false_and])), hcb, hcl⟩
 ·
  have hke : j = l.length := by omega
  subst hke
  rw [List.take_length] at s11
  refine W.exit (Nx.xthn (Nx.xthn (Nx.xblk Nx.thn))) ?_
  refine W.seq ?_
  refine W.region ?_
  refine WL.x (X.mv (s0)) rfl ?_
  refine WL.x (X.mv (lt rfl (s1))) rfl ?_
  refine WL.call2 ce18 (lt rfl (lh)) (lh) (dgraph_ok A n pa pc l w4 (hl.ch0 (monRc _) hcl) hm) rfl ?_
  rintro vg w7 ⟨c2, hv⟩
  rw [if_neg hG] at hv
  obtain ⟨er, her, rfl⟩ := hv
  have hcb := c2.at0 hcb
  have hzg := hcl.size
  have hcl := hcl.trans0 c2
  obtain ⟨okv, hokv⟩ : ∃ okv, okv = (decide (okK k) && l.all (fun x => oneL x.2.2.1)) := ⟨_, rfl⟩
  rw [← hokv] at s11
  refine WL.x (X.mv (lh)) rfl ?_
  refine WL.x (X.ex2_0 (lh)) rfl ?_
  refine WL.x (X.ex2_1 (lt rfl (lh))) rfl ?_
  refine WL.x (X.asg (lt rfl (lh))) rfl ?_
  refine WL.x (X.asg (lt rfl (lh))) rfl ?_
  refine WL.e5 Nx.thn 1 10 11 14 15 (jt8 rfl (s1)) (jt8 rfl (s10)) (jt8 rfl (s11)) (lt rfl (lh)) (lh) ?_
  intro σ11 s1 s10 s11 s14 s15
  refine W.seq ?_
  refine W.seq ?_
  refine W.region ?_
  refine WL.x (X.mv (s11)) rfl ?_
  refine WL.x (X.not (lh)) rfl ?_
  refine WL.x (X.mv (lh)) rfl ?_
  refine WL.split (lh) (fun hnok => ?_) (fun hnok => ?_)
  ·
   refine WL.no rfl rfl (lh) (hnok) rfl ?_
   refine WL.no rfl rfl (lt rfl (lh)) (hnok) rfl ?_
   refine WL.x (X.pickT (jt2 rfl (lh)) (hnok) lc) rfl ?_
   refine WL.x (X.mv (lh)) rfl ?_
   refine WL.no rfl rfl (lh) rfl rfl ?_
   refine WL.no rfl rfl (lt rfl (lh)) rfl rfl ?_
   refine WL.no rfl rfl (jt2 rfl (lh)) rfl rfl ?_
   refine WL.no rfl rfl (jt2 rfl (lt rfl (lh))) rfl rfl ?_
   refine WL.no rfl rfl (jt4 rfl (lh)) rfl rfl ?_
   refine WL.no rfl rfl (jt4 rfl (lt rfl (lh))) rfl rfl ?_
   refine WL.no rfl rfl (jt4 rfl (jt2 rfl (lh))) rfl rfl ?_
   refine WL.no rfl rfl (jt4 rfl (jt2 rfl (lt rfl (lh)))) rfl rfl ?_
   refine WL.x (X.pickT (jt8 rfl (lh)) rfl lc) rfl ?_
   refine WL.e4 Nx.thn 1 10 14 67 (jt8 rfl (jt8 rfl (s1))) (jt8 rfl (jt8 rfl (s10))) (jt8 rfl (jt8 rfl (s14))) (lh) ?_
   intro σ12 s1 s10 s14 s67
   refine W.cndT s67 ?_
   refine W.seq ?_
   refine W.region ?_
   refine WL.x (X.asg lc) rfl ?_
   refine WL.x (X.asg lc) rfl ?_
   refine WL.e2 Nx.thn 8 9 (lt rfl (lh)) (lh) ?_
   intro σ13 s8 s9
   refine W.ret2 (Nx.rthn Nx.f2) s8 s9 ?_
   have hno9 : findC n l k r = none := by unfold findC; rw [if_neg (fun h => hG h.2.2)]
   exact ⟨_, by rw [hno9]; rfl, by rw [hno9]; exact OwnF.nil, hcl⟩
  ·
   refine WL.yes rfl rfl (lh) (hnok) ?_
   refine WL.x (X.mv (jt2 rfl (lt rfl (s15)))) rfl ?_
   refine WL.yes rfl rfl (lt rfl (lh)) (hnok) ?_
   refine WL.x (X.neq (lh) lc) rfl ?_
   refine WL.x (X.pickF (jt2 rfl (lh)) (hnok) (lh)) rfl ?_
   refine WL.x (X.mv (lh)) rfl ?_
   refine WL.no rfl rfl (lh) (decide_eq_true (her)) rfl ?_
   refine WL.no rfl rfl (lt rfl (lh)) (decide_eq_true (her)) rfl ?_
   refine WL.no rfl rfl (jt2 rfl (lh)) (decide_eq_true (her)) rfl ?_
   refine WL.no rfl rfl (jt2 rfl (lt rfl (lh))) (decide_eq_true (her)) rfl ?_
   refine WL.no rfl rfl (jt4 rfl (lh)) (decide_eq_true (her)) rfl ?_
   refine WL.no rfl rfl (jt4 rfl (lt rfl (lh))) (decide_eq_true (her)) rfl ?_
   refine WL.no rfl rfl (jt4 rfl (jt2 rfl (lh))) (decide_eq_true (her)) rfl ?_
   refine WL.no rfl rfl (jt4 rfl (jt2 rfl (lt rfl (lh)))) (decide_eq_true (her)) rfl ?_
   refine WL.x (X.pickT (jt8 rfl (lh)) (decide_eq_true (her)) lc) rfl ?_
   refine WL.e4 Nx.thn 1 10 14 67 (jt8 rfl (jt8 rfl (s1))) (jt8 rfl (jt8 rfl (s10))) (jt8 rfl (jt8 rfl (s14))) (lh) ?_
   intro σ14 s1 s10 s14 s67
   refine W.cndT s67 ?_
   refine W.seq ?_
   refine W.region ?_
   refine WL.x (X.asg lc) rfl ?_
   refine WL.x (X.asg lc) rfl ?_
   refine WL.e2 Nx.thn 8 9 (lt rfl (lh)) (lh) ?_
   intro σ15 s8 s9
   refine W.ret2 (Nx.rthn Nx.f2) s8 s9 ?_
   have hno9 : findC n l k r = none := by unfold findC; rw [if_neg (fun h => hG h.2.2)]
   exact ⟨_, by rw [hno9]; rfl, by rw [hno9]; exact OwnF.nil, hcl⟩
end Go.Proofs.YtnfkblboimkcjaaDoor
end

section
set_option linter.unusedVariables false
set_option linter.unusedSimpArgs false
set_option maxRecDepth 100000
namespace Go.Proofs.YtnfkblboimkcjaaDoor
open Go Go.RowKit Sg
set_option maxHeartbeats 3200000 in
theorem cfind_in (A : Nat → Prop) (n : Int) (pa : Option Addr) (pc : Nat) (l : List Gwy) (k : Int) (r : Bool) (w : World) (hl : RSl 8 (Rc fwy) A w (.slice pa l.length pc) l) (hm : l.length ≤ 1000000) (htab : Tab w) (hb0 : 0 < w.heap.size) (hG : okG n l) :
  Sg.Ret Tryd.prog 7 #[.int .i64 n, .slice pa l.length pc, .int .i64 k, .bool r] w fun v w' => ∃ vl, v = .tuple #[vl, .bool (findC n l k r).isSome] ∧ OwnF 8 fwy w' w.heap.size 27 vl ((findC n l k r).getD []) ∧ Ch0 w w' := by
 refine enter2 (n := 151) (l := [.int .i64 n, .slice pa l.length pc, .int .i64 k, .bool r]) Tryd.func7 rfl rfl rfl rfl ?_
 refine W.g4 0 1 2 3 (v1 := .int .i64 n) (v2 := .slice pa l.length pc) (v3 := .int .i64 k) (v4 := .bool r) rfl rfl rfl rfl ?_; intro σ s0 s1 s2 s3
 refine W.seq ?_
 refine W.region ?_
 refine WL.x (X.asg lc) rfl ?_
 refine WL.x (X.asg lc) rfl ?_
 refine WL.e4 Nx.thn 0 1 2 3 (jt2 rfl (s0)) (jt2 rfl (s1)) (jt2 rfl (s2)) (jt2 rfl (s3)) ?_
 intro σ1 s0 s1 s2 s3
 refine W.seq ?_
 refine W.region ?_
 refine WL.x (X.mv (s2)) rfl ?_
 refine WL.x (X.mv (lt rfl (s3))) rfl ?_
 refine WL.call2 ce16 (lt rfl (lh)) (lh) (of_ok k r w) rfl ?_
 rintro _ w1 ⟨⟨wv, ov, mv, rfl, hc⟩, c1⟩
 refine WL.x (X.mv (lh)) rfl ?_
 refine WL.x (X.ex2_0 (lh)) rfl ?_
 refine WL.x (X.ex2_1 (lt rfl (lh))) rfl ?_
 refine WL.alloc el43 rfl ?_
 intro w2 u1_6; have hu1_6 := u1_6.at_; have cu1_6 := u1_6.ch; have zu1_6 := u1_6.size
 refine WL.storeS (vs := [.int .i64 wv, .int .i64 ov, .int .i64 mv]) ag43 (lh) (jt2 rfl (lh)) rfl rfl hu1_6 (by decide) ?_
 intro w3 us; have cst := us.ch
 have hcb : w3.heap[w1.heap.size]? = some (.cells #[.int .i64 wv, .int .i64 ov, .int .i64 mv] 43 (0, 0)) := us.at_
 have hcl := (c1.trans0 cu1_6).trans cst (H := fun _ => False) (fun _ _ e => e) (fun i hi e => by have := c1.size; (try dsimp only at e); omega)
 have hzb := lt_of_blk hcb
 have hz1 := c1.size
 refine WL.x (X.asg (lt rfl (lh))) rfl ?_
 refine WL.e4 Nx.thn 0 1 10 11 (jt8 rfl (s0)) (jt8 rfl (s1)) (lt rfl (lh)) (lh) ?_
 intro σ2 s0 s1 s10 s11
 refine W.seq ?_
 refine W.seq ?_
 refine W.region ?_
 refine WL.x (X.mv (s1)) rfl ?_
 refine WL.x (X.lenSl Tryd.underlying22 (lh)) rfl ?_
 refine WL.x (X.mv lc) rfl ?_
 refine WL.e7 Nx.thn 0 1 10 11 33 34 35 (jt2 rfl (lt rfl (s0))) (jt2 rfl (lt rfl (s1))) (jt2 rfl (lt rfl (s10))) (jt2 rfl (lt rfl (s11))) (jt2 rfl (lh)) (lt rfl (lh)) (lh) ?_
 intro σ3 s0 s1 s10 s11 s33 s34 s35
 refine W.block ?_
 have qo1 := s0
 have qo2 := s1
 have qo3 := s10
 have qo4 := s33
 have qo5 := s34
 -- loop 0: kept [0, 1, 10, 33, 34], varied [11, 35]
 refine W.loop (G := Nat) (fun j σ' w' => (σ' 0 = σ3 0 ∧ σ' 1 = σ3 1 ∧ σ' 10 = σ3 10 ∧ σ' 33 = σ3 33 ∧ σ' 34 = σ3 34 ∧ True) ∧ (σ' 35 = .int .i64 (j : Int) ∧ j ≤ l.length ∧ σ' 11 = .bool (decide (okK k) && (l.take j).all (fun x => oneL x.2.2.1)) ∧ (w').heap[w1.heap.size]? = some (.cells #[.int .i64 wv, .int .i64 ov, .int .i64 mv] 43 (0, 0)) ∧ Ch0 w w')) (fun j => l.length - j) (0) ⟨⟨rfl, rfl, rfl, rfl, rfl, trivial⟩, s35, by omega, s11.trans (by simp), hcb, hcl⟩ ?_
 rintro j σ4 w4 ⟨⟨f0, f1, f10, f33, f34, _⟩, s35, hj, s11, hcb, hcl⟩
 have s0 := f0.trans qo1
 have s1 := f1.trans qo2
 have s10 := f10.trans qo3
 have s33 := f33.trans qo4
 have s34 := f34.trans qo5
 have hzb := lt_of_blk hcb
 refine W.seq ?_
 refine W.region ?_
 refine WL.x (X.lss (s35) (s34)) rfl ?_
 refine WL.e8 Nx.thn 0 1 10 11 33 34 35 36 (lt rfl (s0)) (lt rfl (s1)) (lt rfl (s10)) (lt rfl (s11)) (lt rfl (s33)) (lt rfl (s34)) (lt rfl (s35)) (lh) ?_
 intro σ5 s0 s1 s10 s11 s33 s34 s35 s36
 refine W.seq ?_
 refine W.cndp s36 (fun hlt => ?_) (fun hlt => ?_)
 ·
  have hjl : j < l.length := by omega
  obtain ⟨lb, lo, lcs, lT, lfr, rfl, hlm, hle9, -, hlc⟩ := hl.get (k := j) hjl
  obtain ⟨x, hx⟩ : ∃ x, l[j] = x := ⟨_, rfl⟩
  have has := all_succ hjl
  rw [hx] at hlc has
  refine W.skip Nx.thn ?_
  refine W.seq ?_
  refine W.block ?_
  refine W.seq ?_
  refine W.region ?_
  refine WL.x (X.indexAddr Tryd.underlying22 el27 (s33) (s35) (by omega) (by omega)) rfl ?_
  refine WL.x (X.loadS (vs := fwy x) ag27 (lh) (hcl.at0 hlm) rfl hlc) rfl ?_
  refine WL.alloc el27 rfl ?_
  intro w5 u4_2; have hu4_2 := u4_2.at_; have cu4_2 := u4_2.ch; have zu4_2 := u4_2.size
  refine WL.storeS ag27 (lh) (lt rfl (lh)) (List.all_eq_true.2 (fwy_one x)) rfl hu4_2 (by decide) ?_
  intro w6 us; have cst := us.ch
  have hkb : w6.heap[w4.heap.size]? = some (.cells (fwy x).toArray 27 (0, 0)) := us.at_
  have cku : Ch0 w4 w6 := cu4_2.trans cst (fun _ _ e => e) (fun i hi e => by (try dsimp only at e); omega)
  have hcb := cku.at0 hcb
  have hcl := hcl.trans0 cku
  refine WL.e8 Nx.thn 0 1 10 11 13 33 34 35 (jt2 rfl (lt rfl (s0))) (jt2 rfl (lt rfl (s1))) (jt2 rfl (lt rfl (s10))) (jt2 rfl (lt rfl (s11))) (lh) (jt2 rfl (lt rfl (s33))) (jt2 rfl (lt rfl (s34))) (jt2 rfl (lt rfl (s35))) ?_
  intro σ6 s0 s1 s10 s11 s13 s33 s34 s35
  refine W.region ?_
  refine WL.x (X.mv (s11)) rfl ?_
  refine WL.x (X.mv (lh)) rfl ?_
  refine WL.split (lh) (fun hok => ?_) (fun hok => ?_)
  ·
   refine WL.yes rfl rfl (lh) (hok) ?_
   refine WL.x (X.fieldAddr fd27_2 (jt2 rfl (s13))) rfl ?_
   refine WL.yes rfl rfl (lt rfl (lh)) (hok) ?_
   refine WL.x (X.load pl3 (lh) hkb (v := .int .i64 x.2.2.1) rfl) rfl ?_
   refine WL.yes rfl rfl (jt2 rfl (lh)) (hok) ?_
   refine WL.call1 ce17 (lh) (one_ok x.2.2.1 w6) rfl ?_
   rintro _ _ ⟨rfl, rfl⟩
   refine WL.x (X.pickT (jt2 rfl (lt rfl (lh))) (hok) (lh)) rfl ?_
   refine WL.x (X.asg (lh)) rfl ?_
   refine WL.e7 (Nx.blk Nx.thn) 0 1 10 11 33 34 35 (jt4 rfl (jt2 rfl (lt rfl (s0)))) (jt4 rfl (jt2 rfl (lt rfl (s1)))) (jt4 rfl (jt2 rfl (lt rfl (s10)))) (lh) (jt4 rfl (jt2 rfl (lt rfl (s33)))) (jt4 rfl (jt2 rfl (lt rfl (s34)))) (jt4 rfl (jt2 rfl (lt rfl (s35)))) ?_
   intro σ7 s0 s1 s10 s11 s33 s34 s35
   refine W.region ?_
   refine WL.x (X.addN (b := 1) (s35) lc (by omega)) rfl ?_
   refine WL.x (X.mv (lh)) rfl ?_
   refine WL.e7 Nx.thn 0 1 10 11 33 34 35 (jt2 rfl (s0)) (jt2 rfl (s1)) (jt2 rfl (s10)) (jt2 rfl (s11)) (jt2 rfl (s33)) (jt2 rfl (s34)) (lh) ?_
   intro σ8 s0 s1 s10 s11 s33 s34 s35
   refine ⟨j + 1, by omega, ⟨s0.trans qo1.symm, s1.trans qo2.symm, s10.trans qo3.symm, s33.trans qo4.symm, s34.trans qo5.symm, trivial⟩, s35, by omega, s11.trans (congrArg Value.bool (by rw [has, ← Bool.and_assoc, hok, Bool.true_and])), hcb, hcl⟩
  ·
   refine WL.no rfl rfl (lh) (hok) rfl ?_
   refine WL.no rfl rfl (lt rfl (lh)) (hok) rfl ?_
   refine WL.no rfl rfl (jt2 rfl (lh)) (hok) rfl ?_
   refine WL.x (X.pickF (jt2 rfl (lt rfl (lh))) (hok) lc) rfl ?_
   refine WL.x (X.asg (lh)) rfl ?_
   refine WL.e7 (Nx.blk Nx.thn) 0 1 10 11 33 34 35 (jt4 rfl (jt2 rfl (lt rfl (s0)))) (jt4 rfl (jt2 rfl (lt rfl (s1)))) (jt4 rfl (jt2 rfl (lt rfl (s10)))) (lh) (jt4 rfl (jt2 rfl (lt rfl (s33)))) (jt4 rfl (jt2 rfl (lt rfl (s34)))) (jt4 rfl (jt2 rfl (lt rfl (s35)))) ?_
   intro σ9 s0 s1 s10 s11 s33 s34 s35
   refine W.region ?_
   refine WL.x (X.addN (b := 1) (s35) lc (by omega)) rfl ?_
   refine WL.x (X.mv (lh)) rfl ?_
   refine WL.e7 Nx.thn 0 1 10 11 33 34 35 (jt2 rfl (s0)) (jt2 rfl (s1)) (jt2 rfl (s10)) (jt2 rfl (s11)) (jt2 rfl (s33)) (jt2 rfl (s34)) (lh) ?_
   intro σ10 s0 s1 s10 s11 s33 s34 s35
   refine ⟨j + 1, by omega, ⟨s0.trans qo1.symm, s1.trans qo2.symm, s10.trans qo3.symm, s33.trans qo4.symm, s34.trans qo5.symm, trivial⟩, s35, by omega, s11.trans (congrArg Value.bool (by rw [has, ← Bool.and_assoc, hok, Bool.false_and])), hcb, hcl⟩
 ·
  have hke : j = l.length := by omega
  subst hke
  rw [List.take_length] at s11
  refine W.exit (Nx.xthn (Nx.xthn (Nx.xblk Nx.thn))) ?_
  refine W.seq ?_
  refine W.region ?_
  refine WL.x (X.mv (s0)) rfl ?_
  refine WL.x (X.mv (lt rfl (s1))) rfl ?_
  refine WL.call2 ce18 (lt rfl (lh)) (lh) (dgraph_ok A n pa pc l w4 (hl.ch0 (monRc _) hcl) hm) rfl ?_
  rintro vg w7 ⟨c2, hv⟩
  rw [if_pos hG] at hv
  obtain ⟨g, rfl, hg0⟩ := hv
  obtain ⟨N, hN⟩ : ∃ N, n.toNat = N := ⟨_, rfl⟩
  obtain ⟨Lb, hLb⟩ : ∃ Lb, LbW n l = Lb := ⟨_, rfl⟩
  obtain ⟨gb, hg⟩ : ∃ gb, IsG w7 gb g N Lb := ⟨_, by rw [← hLb, ← hN]; exact hg0⟩
  have hok9 := hg.ok
  have hgle := hg.le
  have hcb := c2.at0 hcb
  have hzg := hcl.size
  have hcl := hcl.trans0 c2
  obtain ⟨okv, hokv⟩ : ∃ okv, okv = (decide (okK k) && l.all (fun x => oneL x.2.2.1)) := ⟨_, rfl⟩
  rw [← hokv] at s11
  refine WL.x (X.mv (lh)) rfl ?_
  refine WL.x (X.ex2_0 (lh)) rfl ?_
  refine WL.x (X.ex2_1 (lt rfl (lh))) rfl ?_
  refine WL.x (X.asg (lt rfl (lh))) rfl ?_
  refine WL.x (X.asg (lt rfl (lh))) rfl ?_
  refine WL.e5 Nx.thn 1 10 11 14 15 (jt8 rfl (s1)) (jt8 rfl (s10)) (jt8 rfl (s11)) (lt rfl (lh)) (lh) ?_
  intro σ11 s1 s10 s11 s14 s15
  refine W.seq ?_
  refine W.seq ?_
  refine W.region ?_
  refine WL.x (X.mv (s11)) rfl ?_
  refine WL.x (X.not (lh)) rfl ?_
  refine WL.x (X.mv (lh)) rfl ?_
  refine WL.split (lh) (fun hnok => ?_) (fun hnok => ?_)
  ·
   refine WL.no rfl rfl (lh) (hnok) rfl ?_
   refine WL.no rfl rfl (lt rfl (lh)) (hnok) rfl ?_
   refine WL.x (X.pickT (jt2 rfl (lh)) (hnok) lc) rfl ?_
   refine WL.x (X.mv (lh)) rfl ?_
   refine WL.no rfl rfl (lh) rfl rfl ?_
   refine WL.no rfl rfl (lt rfl (lh)) rfl rfl ?_
   refine WL.no rfl rfl (jt2 rfl (lh)) rfl rfl ?_
   refine WL.no rfl rfl (jt2 rfl (lt rfl (lh))) rfl rfl ?_
   refine WL.no rfl rfl (jt4 rfl (lh)) rfl rfl ?_
   refine WL.no rfl rfl (jt4 rfl (lt rfl (lh))) rfl rfl ?_
   refine WL.no rfl rfl (jt4 rfl (jt2 rfl (lh))) rfl rfl ?_
   refine WL.no rfl rfl (jt4 rfl (jt2 rfl (lt rfl (lh)))) rfl rfl ?_
   refine WL.x (X.pickT (jt8 rfl (lh)) rfl lc) rfl ?_
   refine WL.e4 Nx.thn 1 10 14 67 (jt8 rfl (jt8 rfl (s1))) (jt8 rfl (jt8 rfl (s10))) (jt8 rfl (jt8 rfl (s14))) (lh) ?_
   intro σ12 s1 s10 s14 s67
   refine W.cndT s67 ?_
   refine W.seq ?_
   refine W.region ?_
   refine WL.x (X.asg lc) rfl ?_
   refine WL.x (X.asg lc) rfl ?_
   refine WL.e2 Nx.thn 8 9 (lt rfl (lh)) (lh) ?_
   intro σ13 s8 s9
   refine W.ret2 (Nx.rthn Nx.f2) s8 s9 ?_
   have hno9 : findC n l k r = none := by
     unfold findC
     rw [if_neg]
     intro h
     have h8 : okv = true := by rw [hokv, decide_eq_true h.1, h.2.1]; rfl
     rw [h8] at hnok
     cases hnok
   exact ⟨_, by rw [hno9]; rfl, by rw [hno9]; exact OwnF.nil, hcl⟩
  ·
   refine WL.yes rfl rfl (lh) (hnok) ?_
   refine WL.x (X.mv (jt2 rfl (lt rfl (s15)))) rfl ?_
   refine WL.yes rfl rfl (lt rfl (lh)) (hnok) ?_
   refine WL.x (X.neq (lh) lc) rfl ?_
   refine WL.x (X.pickF (jt2 rfl (lh)) (hnok) (lh)) rfl ?_
   refine WL.x (X.mv (lh)) rfl ?_
   refine WL.yes rfl rfl (lh) (decide_eq_false (fun h => h rfl)) ?_
   refine WL.x (X.mv (jt4 rfl (jt2 rfl (lt rfl (s14))))) rfl ?_
   refine WL.yes rfl rfl (lt rfl (lh)) (decide_eq_false (fun h => h rfl)) ?_
   refine WL.x (X.fieldAddr fd43_0 (jt8 rfl (s10))) rfl ?_
   refine WL.yes rfl rfl (jt2 rfl (lh)) (decide_eq_false (fun h => h rfl)) ?_
   have hokt : okv = true := by simpa using hnok
   rw [hokv, Bool.and_eq_true] at hokt
   obtain ⟨hkk, hall⟩ := hokt
   have hkk := of_decide_eq_true hkk
   obtain ⟨rfl, rfl, rfl⟩ := hc hkk
   have hwl := want_lt k
   have hol := oth_lt k r
   have hfc : findC n l k r = ((edL N Lb N).find? (pX N Lb (wantN k) (othN k r))).map (cycW l N Lb (wantN k) (othN k r)) := by unfold findC; rw [if_pos ⟨hkk, hall, hG⟩, hLb, hN]
   refine WL.x (X.load pl3 (lh) hcb (v := .int .i64 (wantN k : Int)) rfl) rfl ?_
   refine WL.yes rfl rfl (jt2 rfl (lt rfl (lh))) (decide_eq_false (fun h => h rfl)) ?_
   refine WL.x (X.fieldAddr fd43_1 (jt8 rfl (jt2 rfl (s10)))) rfl ?_
   refine WL.yes rfl rfl (jt4 rfl (lh)) (decide_eq_false (fun h => h rfl)) ?_
   refine WL.x (X.load pl3 (lh) hcb (v := .int .i64 (othN k r : Int)) rfl) rfl ?_
   refine WL.yes rfl rfl (jt4 rfl (lt rfl (lh))) (decide_eq_false (fun h => h rfl)) ?_
   refine WL.x (v := .int .i64 ((wantN k ||| othN k r : Nat) : Int)) (by rw [← or_nat hwl hol]; exact X.or (jt2 rfl (lh)) (lh)) rfl ?_
   refine WL.yes rfl rfl (jt4 rfl (jt2 rfl (lh))) (decide_eq_false (fun h => h rfl)) ?_
   refine WL.call2 ce19 (jt4 rfl (lt rfl (lh))) (lh) (cyclic_ok gb g N Lb w7 hg (htab.ch0 hcl) (by have := hcl.size; omega) ((wantN k ||| othN k r : Nat) : Int)) rfl ?_
   rintro _ w8 ⟨cyv, rfl, hcy, c3⟩
   have hg := hg.ch0 c3
   have hcb := c3.at0 hcb
   have hcl := hcl.trans0 c3
   refine WL.yes rfl rfl (jt4 rfl (jt2 rfl (lt rfl (lh)))) (decide_eq_false (fun h => h rfl)) ?_
   refine WL.x (X.not (lh)) rfl ?_
   refine WL.x (X.pickF (jt8 rfl (lh)) (decide_eq_false (fun h => h rfl)) (lh)) rfl ?_
   refine WL.e4 Nx.thn 1 10 14 67 (jt8 rfl (jt8 rfl (s1))) (jt8 rfl (jt8 rfl (s10))) (jt8 rfl (jt8 rfl (s14))) (lh) ?_
   intro σ14 s1 s10 s14 s67
   refine W.cnd s67 (fun hcyc => ?_) (fun hcyc => ?_)
   ·
    refine W.seq ?_
    refine W.region ?_
    refine WL.x (X.asg lc) rfl ?_
    refine WL.x (X.asg lc) rfl ?_
    refine WL.e2 Nx.thn 8 9 (lt rfl (lh)) (lh) ?_
    intro σ15 s8 s9
    refine W.ret2 (Nx.rthn Nx.f2) s8 s9 ?_
    have hno9 : findC n l k r = none := by
      rw [hfc, pX_none (fun i hi => no_cyc hwl hol (hcy (by cases cyv <;> simp_all)) (List.getElem_mem hi))]; rfl
    exact ⟨_, by rw [hno9]; rfl, by rw [hno9]; exact OwnF.nil, hcl⟩
   ·
    refine W.skip Nx.thn ?_
    refine W.seq ?_
    refine W.region ?_
    refine WL.x (X.mv (s14)) rfl ?_
    refine WL.x (X.mkfn (mcons (lh) mnil) mnil) rfl ?_
    refine WL.x (X.asg (lh)) rfl ?_
    refine WL.e4 Nx.thn 1 10 14 16 (jt2 rfl (lt rfl (s1))) (jt2 rfl (lt rfl (s10))) (jt2 rfl (lt rfl (s14))) (lh) ?_
    intro σ16 s1 s10 s14 s16
    refine W.seq ?_
    refine W.seq ?_
    refine W.region ?_
    refine WL.x (X.mv (s14)) rfl ?_
    refine WL.call1 ce21 (lh) (gedges_ok gb g N Lb w8 hg (htab.ch0 hcl) (by have := hcl.size; omega)) rfl ?_
    rintro ve w9 ⟨hes0, c4⟩
    obtain ⟨es, hes9⟩ : ∃ es, es = edL N Lb N := ⟨_, rfl⟩
    rw [← hes9] at hes0
    obtain ⟨ea, ec, rfl⟩ := hes0.len
    have hes := OwnF.rsl (A := all) fed_len hes0 (fun _ _ => trivial)
    have hg := hg.ch0 c4
    have hcb := c4.at0 hcb
    have hcl := hcl.trans0 c4
    have hesl : es.length ≤ 90000 := by rw [hes9]; have h8 := edL_len hgle Lb N; have h7 : 300 * N ≤ 300 * 300 := Nat.mul_le_mul_left _ hgle; omega
    refine WL.x (X.lenSl Tryd.underlying52 (lh)) rfl ?_
    refine WL.x (X.mv lc) rfl ?_
    refine WL.e7 Nx.thn 1 10 14 16 71 72 73 (jt4 rfl (s1)) (jt4 rfl (s10)) (jt4 rfl (s14)) (jt4 rfl (s16)) (jt2 rfl (lh)) (lt rfl (lh)) (lh) ?_
    intro σ17 s1 s10 s14 s16 s71 s72 s73
    refine W.block ?_
    have qo7 := s1
    have qo8 := s10
    have qo9 := s14
    have qo10 := s16
    have qo11 := s71
    have qo12 := s72
    -- loop 1: kept [1, 10, 14, 16, 71, 72], varied [73]
    refine W.loop (G := Nat) (fun q σ' w' => (σ' 1 = σ17 1 ∧ σ' 10 = σ17 10 ∧ σ' 14 = σ17 14 ∧ σ' 16 = σ17 16 ∧ σ' 71 = σ17 71 ∧ σ' 72 = σ17 72 ∧ True) ∧ (σ' 73 = .int .i64 (q : Int) ∧ q ≤ es.length ∧ (∀ i (hi : i < es.length), i < q → pX N Lb (wantN k) (othN k r) es[i] = false) ∧ IsG w' gb g N Lb ∧ (w').heap[w1.heap.size]? = some (.cells #[.int .i64 (wantN k : Int), .int .i64 (othN k r : Int), .int .i64 (mostN k : Int)] 43 (0, 0)) ∧ RSl 3 (Rc fed) all w' (.slice ea es.length ec) es ∧ Ch0 w w')) (fun q => es.length - q) (0) ⟨⟨rfl, rfl, rfl, rfl, rfl, rfl, trivial⟩, s73, by omega, (fun i _ h => absurd h (by omega)), hg, hcb, hes, hcl⟩ ?_
    rintro q σ18 w10 ⟨⟨f1, f10, f14, f16, f71, f72, _⟩, s73, hq, hno, hg, hcb, hes, hcl⟩
    have s1 := f1.trans qo7
    have s10 := f10.trans qo8
    have s14 := f14.trans qo9
    have s16 := f16.trans qo10
    have s71 := f71.trans qo11
    have s72 := f72.trans qo12
    have hzb := lt_of_blk hcb
    refine W.seq ?_
    refine W.region ?_
    refine WL.x (X.lss (s73) (s72)) rfl ?_
    refine WL.e8 Nx.thn 1 10 14 16 71 72 73 74 (lt rfl (s1)) (lt rfl (s10)) (lt rfl (s14)) (lt rfl (s16)) (lt rfl (s71)) (lt rfl (s72)) (lt rfl (s73)) (lh) ?_
    intro σ19 s1 s10 s14 s16 s71 s72 s73 s74
    refine W.seq ?_
    refine W.cndp s74 (fun hlt2 => ?_) (fun hlt2 => ?_)
    ·
     have hql : q < es.length := by omega
     obtain ⟨eb, eo, ecs, eT, efr, rfl, heb, hele, -, hec⟩ := hes.get (k := q) hql
     obtain ⟨e, he9⟩ : ∃ e, es[q] = e := ⟨_, rfl⟩
     obtain ⟨na, nb, hna, hnb, hnz, hee⟩ := ed_mem (Nat.le_refl N) (show e ∈ edL N Lb N by rw [← hes9, ← he9]; exact List.getElem_mem hql)
     rw [he9] at hec
     refine W.skip Nx.thn ?_
     refine W.seq ?_
     refine W.block ?_
     refine W.seq ?_
     refine W.region ?_
     refine WL.x (X.indexAddr Tryd.underlying52 el55 (s71) (s73) (by omega) (by omega)) rfl ?_
     refine WL.x (X.loadS (vs := fed e) ag55 (lh) heb rfl hec) rfl ?_
     refine WL.alloc el55 rfl ?_
     intro w11 u13_2; have hu13_2 := u13_2.at_; have cu13_2 := u13_2.ch; have zu13_2 := u13_2.size
     refine WL.storeS ag55 (lh) (lt rfl (lh)) rfl rfl hu13_2 (by decide) ?_
     intro w12 us; have cst := us.ch
     have hxb : w12.heap[(_ : Nat)]? = some (.cells (fed e).toArray 55 (0, 0)) := us.at_
     have cku := cu13_2.trans cst (H := fun _ => False) (fun _ _ e => e) (fun i hi e => by (try dsimp only at e); omega)
     have hg := hg.ch0 cku
     have hcb := cku.at0 hcb
     have hes := hes.ch0 (monRc _) cku
     have hcl := hcl.trans0 cku
     refine WL.e8 Nx.thn 1 10 14 16 18 71 72 73 (jt2 rfl (lt rfl (s1))) (jt2 rfl (lt rfl (s10))) (jt2 rfl (lt rfl (s14))) (jt2 rfl (lt rfl (s16))) (lh) (jt2 rfl (lt rfl (s71))) (jt2 rfl (lt rfl (s72))) (jt2 rfl (lt rfl (s73))) ?_
     intro σ20 s1 s10 s14 s16 s18 s71 s72 s73
     refine W.seq ?_
     refine W.seq ?_
     refine W.region ?_
     refine WL.x (X.fieldAddr fd55_2 (s18)) rfl ?_
     refine WL.x (X.load pl3 (lh) hxb (v := .int .i64 (Lb na nb : Int)) (by rw [hee]; rfl)) rfl ?_
     refine WL.x (X.fieldAddr fd43_0 (jt2 rfl (s10))) rfl ?_
     refine WL.x (X.load pl3 (lh) hcb (v := .int .i64 (wantN k : Int)) rfl) rfl ?_
     refine WL.x (v := .int .i64 ((Lb na nb &&& wantN k : Nat) : Int)) (by rw [← and_oth (hok9.lt _ _) hwl]; exact X.and (jt2 rfl (lh)) (lh)) rfl ?_
     refine WL.x (X.eql (lh) lc) rfl ?_
     refine WL.e9 Nx.thn 1 10 14 16 18 71 72 73 82 (jt4 rfl (jt2 rfl (s1))) (jt4 rfl (jt2 rfl (s10))) (jt4 rfl (jt2 rfl (s14))) (jt4 rfl (jt2 rfl (s16))) (jt4 rfl (jt2 rfl (s18))) (jt4 rfl (jt2 rfl (s71))) (jt4 rfl (jt2 rfl (s72))) (jt4 rfl (jt2 rfl (s73))) (lh) ?_
     intro σ21 s1 s10 s14 s16 s18 s71 s72 s73 s82
     refine W.cndp s82 (fun hw0 => ?_) (fun hw0 => ?_)
     ·
      have hpf : pX N Lb (wantN k) (othN k r) e = false := by unfold pX; rw [hee, show ((na : Int), (nb : Int), (Lb na nb : Int)).2.2.toNat &&& wantN k = 0 by show (Lb na nb : Int).toNat &&& wantN k = 0; rw [Int.toNat_natCast]; omega]; rfl
      refine W.exit (Nx.xthn (Nx.xblk Nx.thn)) ?_
      refine W.region ?_
      refine WL.x (X.addN (b := 1) (s73) lc (by omega)) rfl ?_
      refine WL.x (X.mv (lh)) rfl ?_
      refine WL.e7 Nx.thn 1 10 14 16 71 72 73 (jt2 rfl (s1)) (jt2 rfl (s10)) (jt2 rfl (s14)) (jt2 rfl (s16)) (jt2 rfl (s71)) (jt2 rfl (s72)) (lh) ?_
      intro σ22 s1 s10 s14 s16 s71 s72 s73
      refine ⟨q + 1, by omega, ⟨s1.trans qo7.symm, s10.trans qo8.symm, s14.trans qo9.symm, s16.trans qo10.symm, s71.trans qo11.symm, s72.trans qo12.symm, trivial⟩, s73, by omega, (fun i hi h9 => by by_cases e8 : i = q; (· subst e8; rw [he9]; exact hpf); (· exact hno i hi (by omega))), hg, hcb, hes, hcl⟩
     ·
      have hnw : Lb na nb &&& wantN k ≠ 0 := by omega
      refine W.skip Nx.thn ?_
      refine W.seq ?_
      refine W.region ?_
      refine WL.x (X.mv (s14)) rfl ?_
      refine WL.x (X.fieldAddr fd43_1 (lt rfl (s10))) rfl ?_
      refine WL.x (X.load pl3 (lh) hcb (v := .int .i64 (othN k r : Int)) rfl) rfl ?_
      refine WL.x (X.fieldAddr fd55_1 (jt2 rfl (lt rfl (s18)))) rfl ?_
      refine WL.x (X.load pl3 (lh) hxb (v := .int .i64 e.2.1) rfl) rfl ?_
      refine WL.x (X.fieldAddr fd55_0 (jt4 rfl (lt rfl (s18)))) rfl ?_
      refine WL.x (X.load pl3 (lh) hxb (v := .int .i64 e.1) rfl) rfl ?_
      refine WL.call4 ce22 (jt4 rfl (jt2 rfl (lh))) (jt4 rfl (lh)) (jt2 rfl (lh)) (lh) (short3_ok gb g N Lb w12 hg (htab.ch0 hcl) (by have := hcl.size; omega) (othN k r : Int) e.2.1 e.1) rfl ?_
      rintro vb w13 ⟨bp, bc9, hvb, hpn, hbk, hbd, c5⟩
      have hg := hg.ch0 c5
      have hcb := c5.at0 hcb
      have hes := hes.ch0 (monRc _) c5
      have hcl := hcl.trans0 c5
      have hxb := c5.at0 hxb
      have hbl := shI_len hbd
      obtain ⟨B, hB⟩ : ∃ B, shI N Lb (othN k r : Int) e.2.1 e.1 = B := ⟨_, rfl⟩
      have hb2 : ¬ dsI N Lb (othN k r : Int) e.2.1 e.1 < 0 → 2 ≤ B.length := fun h9 => by rw [← hB]; exact sh_len h9
      rw [hB] at hvb hbk hbl
      subst hvb
      refine WL.x (X.asg (lh)) rfl ?_
      refine WL.e9 Nx.thn 1 10 14 16 18 19 71 72 73 (jt8 rfl (lt rfl (s1))) (jt8 rfl (lt rfl (s10))) (jt8 rfl (lt rfl (s14))) (jt8 rfl (lt rfl (s16))) (jt8 rfl (lt rfl (s18))) (lh) (jt8 rfl (lt rfl (s71))) (jt8 rfl (lt rfl (s72))) (jt8 rfl (lt rfl (s73))) ?_
      intro σ23 s1 s10 s14 s16 s18 s19 s71 s72 s73
      refine W.seq ?_
      refine W.seq ?_
      refine W.region ?_
      refine WL.x (X.mv (s19)) rfl ?_
      refine WL.x (X.eqlSl Tryd.underlying40 (lh) lc) rfl ?_
      refine WL.e10 Nx.thn 1 10 14 16 18 19 71 72 73 92 (jt2 rfl (s1)) (jt2 rfl (s10)) (jt2 rfl (s14)) (jt2 rfl (s16)) (jt2 rfl (s18)) (jt2 rfl (s19)) (jt2 rfl (s71)) (jt2 rfl (s72)) (jt2 rfl (s73)) (lh) ?_
      intro σ24 s1 s10 s14 s16 s18 s19 s71 s72 s73 s92
      refine W.cnd s92 (fun hnil => ?_) (fun hnil => ?_)
      ·
       have hds : dsI N Lb (othN k r : Int) e.2.1 e.1 < 0 := of_decide_eq_true (hpn.symm.trans hnil)
       have hpf : pX N Lb (wantN k) (othN k r) e = false := by unfold pX; rw [decide_eq_false (show ¬ 0 ≤ dsI N Lb (othN k r : Int) e.2.1 e.1 by omega), Bool.and_false]
       refine W.exit (Nx.xthn (Nx.xblk Nx.thn)) ?_
       refine W.region ?_
       refine WL.x (X.addN (b := 1) (s73) lc (by omega)) rfl ?_
       refine WL.x (X.mv (lh)) rfl ?_
       refine WL.e7 Nx.thn 1 10 14 16 71 72 73 (jt2 rfl (s1)) (jt2 rfl (s10)) (jt2 rfl (s14)) (jt2 rfl (s16)) (jt2 rfl (s71)) (jt2 rfl (s72)) (lh) ?_
       intro σ25 s1 s10 s14 s16 s71 s72 s73
       refine ⟨q + 1, by omega, ⟨s1.trans qo7.symm, s10.trans qo8.symm, s14.trans qo9.symm, s16.trans qo10.symm, s71.trans qo11.symm, s72.trans qo12.symm, trivial⟩, s73, by omega, (fun i hi h9 => by by_cases e8 : i = q; (· subst e8; rw [he9]; exact hpf); (· exact hno i hi (by omega))), hg, hcb, hes, hcl⟩
      ·
       obtain ⟨ba, rfl⟩ : ∃ ba, bp = some ba := by cases bp with | none => cases hnil | some z => exact ⟨z, rfl⟩
       have hds : ¬ dsI N Lb (othN k r : Int) e.2.1 e.1 < 0 := of_decide_eq_false (hpn.symm.trans hnil)
       have hb2 := hb2 hds
       have hpt : pX N Lb (wantN k) (othN k r) e = true := by unfold pX; rw [decide_eq_true (show 0 ≤ dsI N Lb (othN k r : Int) e.2.1 e.1 by omega), Bool.and_true, hee]; exact decide_eq_true (by show (Lb na nb : Int).toNat &&& wantN k ≠ 0; rw [Int.toNat_natCast]; exact hnw)
       refine W.skip Nx.thn ?_
       refine W.seq ?_
       refine W.region ?_
       refine WL.x (X.mv (s1)) rfl ?_
       refine WL.x (X.fieldAddr fd55_0 (lt rfl (s18))) rfl ?_
       refine WL.x (X.load pl3 (lh) hxb (v := .int .i64 e.1) rfl) rfl ?_
       refine WL.x (X.fieldAddr fd55_1 (jt2 rfl (lt rfl (s18)))) rfl ?_
       refine WL.x (X.load pl3 (lh) hxb (v := .int .i64 e.2.1) rfl) rfl ?_
       refine WL.x (X.fieldAddr fd43_0 (jt4 rfl (lt rfl (s10)))) rfl ?_
       refine WL.x (X.load pl3 (lh) hcb (v := .int .i64 (wantN k : Int)) rfl) rfl ?_
       refine WL.call4 ce23 (jt4 rfl (jt2 rfl (lh))) (jt4 rfl (lh)) (jt2 rfl (lh)) (lh) (find_ok A pa pc l e.1 e.2.1 (wantN k : Int) w13 (hl.ch0 (monRc _) hcl) hm) rfl ?_
       rintro _ w14 ⟨rfl, c6⟩
       have hg := hg.ch0 c6
       have hcb := c6.at0 hcb
       have hes := hes.ch0 (monRc _) c6
       have hcl := hcl.trans0 c6
       have hbk := hbk.ch0 c6
       refine WL.x (X.mv (lh)) rfl ?_
       refine WL.x (X.ex2_0 (lh)) rfl ?_
       refine WL.x (X.ex2_1 (lt rfl (lh))) rfl ?_
       refine WL.alloc el27 rfl ?_
       intro w15 u17_11; have hu17_11 := u17_11.at_; have cu17_11 := u17_11.ch; have zu17_11 := u17_11.size
       refine WL.storeS (vs := fwy (wf l e.1 e.2.1 (wantN k : Int))) ag27 (lh) (jt2 rfl (lh)) (List.all_eq_true.2 (fwy_one _)) rfl hu17_11 (by decide) ?_
       intro w16 us; have cst := us.ch
       have hwb : w16.heap[(_ : Nat)]? = some (.cells (fwy (wf l e.1 e.2.1 (wantN k : Int))).toArray 27 (0, 0)) := us.at_
       have cku2 := cu17_11.trans cst (H := fun _ => False) (fun _ _ e => e) (fun i hi e => by (try dsimp only at e); omega)
       have hbk := hbk.ch0 cku2
       have hg := hg.ch0 cku2
       have hcb := cku2.at0 hcb
       have hes := hes.ch0 (monRc _) cku2
       have hcl := hcl.trans0 cku2
       refine WL.x (X.asg (lt rfl (lh))) rfl ?_
       refine WL.e5 Nx.thn 1 10 16 19 20 (jt8 rfl (jt4 rfl (lt rfl (s1)))) (jt8 rfl (jt4 rfl (lt rfl (s10)))) (jt8 rfl (jt4 rfl (lt rfl (s16)))) (jt8 rfl (jt4 rfl (lt rfl (s19)))) (lt rfl (lh)) ?_
       intro σ26 s1 s10 s16 s19 s20
       refine W.seq ?_
       refine W.region ?_
       refine WL.x (X.loadBox (vs := fwy (wf l e.1 e.2.1 (wantN k : Int))) ag27 (s20) hwb rfl) rfl ?_
       refine WL.bsliceR (vs := [_]) Tryd.underlying22 el27 (by decide) (pcons (lh) pnil) rfl (fun u hu => by rw [List.mem_singleton.1 hu]; exact fwy_len _) (show 1 * 8 ≤ 16777216 by decide) rfl ?_
       intro w18 u18_1; have hu18_1 := u18_1.at_; have cu18_1 := u18_1.ch; have zu18_1 := u18_1.size
       refine WL.x (X.asg (lh)) rfl ?_
       refine WL.e5 Nx.thn 1 10 16 19 22 (jt2 rfl (lt rfl (s1))) (jt2 rfl (lt rfl (s10))) (jt2 rfl (lt rfl (s16))) (jt2 rfl (lt rfl (s19))) (lh) ?_
       intro σ27 s1 s10 s16 s19 s22
       refine W.seq ?_
       refine W.seq ?_
       refine W.region ?_
       refine WL.x (X.mv (s19)) rfl ?_
       refine WL.x (X.slL (l := 1) Tryd.underlying40 el3 (lh) lc (by omega) (by omega)) rfl ?_
       refine WL.x (v := .int .i64 ((B.length - 1 : Nat) : Int)) (by rw [show B.length - 1 = ((B.length : Int) - 1).toNat by omega]; exact X.lenSl Tryd.underlying40 (lh)) rfl ?_
       refine WL.x (X.mv lc) rfl ?_
       refine WL.e7 Nx.thn 1 10 16 19 22 108 109 (jt4 rfl (s1)) (jt4 rfl (s10)) (jt4 rfl (s16)) (jt4 rfl (s19)) (jt4 rfl (s22)) (lt rfl (lh)) (lh) ?_
       intro σ28 s1 s10 s16 s19 s22 s108 s109
       refine W.block ?_
       have qo13 := s1
       have qo14 := s10
       have qo15 := s16
       have qo16 := s19
       have qo17 := s108
       obtain ⟨bb, bo, bcs, bT, bfr, hbpe, hbm, hbe⟩ := sl_int hbk (i := 0) (by omega)
       obtain rfl : ba = ⟨bb, bo, none⟩ := by simpa using hbpe
       obtain ⟨ob, hob⟩ : ∃ ob, ob + 1 = w18.heap.size := ⟨w18.heap.size - 1, by omega⟩
       have hbob : bb < ob := by have := lt_of_blk hbm; omega
       have hcob : w1.heap.size < ob := by have := lt_of_blk hcb; omega
       have hwob : w.heap.size ≤ ob := by have := hcl.size; omega
       -- loop 2: kept [1, 10, 16, 19, 108], varied [22, 109]
       refine W.loop (G := Nat) (fun i σ' w' => (σ' 1 = σ28 1 ∧ σ' 10 = σ28 10 ∧ σ' 16 = σ28 16 ∧ σ' 19 = σ28 19 ∧ σ' 108 = σ28 108 ∧ True) ∧ (∃ vo, σ' 109 = .int .i64 (i : Int) ∧ i ≤ B.length - 1 ∧ σ' 22 = vo ∧ OwnF 8 fwy w' ob 27 vo ((wf l e.1 e.2.1 (wantN k : Int)) :: chainW l Lb (othN k r) B i) ∧ IsG w' gb g N Lb ∧ (w').heap[w1.heap.size]? = some (.cells #[.int .i64 (wantN k : Int), .int .i64 (othN k r : Int), .int .i64 (mostN k : Int)] 43 (0, 0)) ∧ (w').heap[bb]? = some (.cells bcs bT bfr) ∧ ob ≤ (w').heap.size ∧ Ch0 w w')) (fun i => B.length - 1 - i) (0) ⟨⟨rfl, rfl, rfl, rfl, rfl, trivial⟩, _, s109, by omega, s22, (own_one (x := (wf l e.1 e.2.1 (wantN k : Int))) fwy_len hu18_1 (by simp [Value.cells]) (by omega)), hg.ch0 cu18_1, cu18_1.at0 hcb, cu18_1.at0 hbm, by omega, hcl.trans0 cu18_1⟩ ?_
       rintro i σ29 w19 ⟨⟨f1, f10, f16, f19, f108, _⟩, vo, s109, hi, s22, hown, hg, hcb, hbm, hobw, hcl⟩
       have s1 := f1.trans qo13
       have s10 := f10.trans qo14
       have s16 := f16.trans qo15
       have s19 := f19.trans qo16
       have s108 := f108.trans qo17
       have hzc := hcl.size
       refine W.seq ?_
       refine W.region ?_
       refine WL.x (X.lss (s109) (s108)) rfl ?_
       refine WL.e8 Nx.thn 1 10 16 19 22 108 109 110 (lt rfl (s1)) (lt rfl (s10)) (lt rfl (s16)) (lt rfl (s19)) (lt rfl (s22)) (lt rfl (s108)) (lt rfl (s109)) (lh) ?_
       intro σ30 s1 s10 s16 s19 s22 s108 s109 s110
       refine W.seq ?_
       refine W.cndp s110 (fun hlt3 => ?_) (fun hlt3 => ?_)
       ·
        refine W.skip Nx.thn ?_
        refine W.seq ?_
        refine W.block ?_
        refine W.seq ?_
        refine W.region ?_
        refine WL.x (X.mv (s109)) rfl ?_
        refine WL.x (X.asg (lh)) rfl ?_
        refine WL.e8 Nx.thn 1 10 16 19 22 23 108 109 (jt2 rfl (s1)) (jt2 rfl (s10)) (jt2 rfl (s16)) (jt2 rfl (s19)) (jt2 rfl (s22)) (lh) (jt2 rfl (s108)) (jt2 rfl (s109)) ?_
        intro σ31 s1 s10 s16 s19 s22 s23 s108 s109
        refine W.seq ?_
        refine W.held (fun w' => Ch (fun _ => False) w19 w') mo ?_
        intro w20 qhh18 qc19
        have hS : Ch (fun _ => False) w19 w20 := Ch.weak qc19
        have hzqc19 := qc19.size
        have cdh22 := qc19
        refine WH.take 0 rfl (by kernel_rfl) (by kernel_rfl) (by kernel_rfl) (fun _ _ _ h => h) Gd.none rfl (fun w' hS' => X.mv (s16)) hS ?_
        refine WH.take 1 rfl (by kernel_rfl) (by kernel_rfl) (by kernel_rfl) (fun _ _ _ h => h) Gd.none rfl (fun w' hS' => X.mv (lt rfl (s19))) hS ?_
        refine WH.take 2 rfl (by kernel_rfl) (by kernel_rfl) (by kernel_rfl) (fun _ _ _ h => h) Gd.none rfl (fun w' hS' => X.mv (jt2 rfl (s23))) hS ?_
        refine WH.take 3 rfl (by kernel_rfl) (by kernel_rfl) (by kernel_rfl) (fun _ _ _ h => h) Gd.none rfl (fun w' hS' => X.indexAddr Tryd.underlying40 el3 (lt rfl (lh)) (lh) (by omega) (by omega)) hS ?_
        refine WH.take 4 rfl (by kernel_rfl) (by kernel_rfl) (by kernel_rfl) (fun _ _ _ h => h) Gd.none rfl (fun w' hS' => X.load pl3 (lh) (hS'.at0 hbm) (v := .int .i64 (B.getD i 0)) (hbe i (by omega))) hS ?_
        refine WH.take 5 rfl (by kernel_rfl) (by kernel_rfl) (by kernel_rfl) (fun _ _ _ h => h) Gd.none rfl (fun w' hS' => X.mv (jt4 rfl (lt rfl (s19)))) hS ?_
        refine WH.take 6 rfl (by kernel_rfl) (by kernel_rfl) (by kernel_rfl) (fun _ _ _ h => h) Gd.none rfl (fun w' hS' => X.mv (jt4 rfl (jt2 rfl (s23)))) hS ?_
        refine WH.take 7 rfl (by kernel_rfl) (by kernel_rfl) (by kernel_rfl) (fun _ _ _ h => h) Gd.none rfl (fun w' hS' => X.addN (b := 1) (lh) lc (by omega)) hS ?_
        refine WH.take 8 rfl (by kernel_rfl) (by kernel_rfl) (by kernel_rfl) (fun _ _ _ h => h) Gd.none rfl (fun w' hS' => X.indexAddr Tryd.underlying40 el3 (jt2 rfl (lh)) (lh) (by omega) (by omega)) hS ?_
        refine WH.take 9 rfl (by kernel_rfl) (by kernel_rfl) (by kernel_rfl) (fun _ _ _ h => h) Gd.none rfl (fun w' hS' => X.load pl3 (lh) (hS'.at0 hbm) (v := .int .i64 (B.getD (i + 1) 0)) (hbe (i + 1) (by omega))) hS ?_
        refine WH.take 11 rfl (by kernel_rfl) (by kernel_rfl) (by kernel_rfl) (fun _ _ _ h => h) Gd.none rfl (fun w' hS' => X.fieldAddr fd43_1 (jt8 rfl (jt2 rfl (s10)))) hS ?_
        refine WH.take 12 rfl (by kernel_rfl) (by kernel_rfl) (by kernel_rfl) (fun _ _ _ h => h) Gd.none rfl (fun w' hS' => X.load pl3 (lh) (hS'.at0 hcb) (v := .int .i64 (othN k r : Int)) rfl) hS ?_
        refine WH.one 10 rfl (by kernel_rfl) (fun _ _ h => h) ?_
        refine WL.callf2 (firsts := [_]) ce20 (jt8 rfl (jt2 rfl (lt rfl (lh)))) (jt4 rfl (jt2 rfl (lt rfl (lh)))) (jt2 rfl (lh)) (glab_ok gb g N Lb w20 (hg.ch0 hS) (B.getD i 0) (B.getD (i + 1) 0)) rfl ?_
        rintro _ w21 ⟨rfl, hd9⟩
        have cl9 := hd9.ch0
        have k22 := cdh22.trans0 cl9
        have hg2 := hg.ch0 k22
        have hcb2 := k22.at0 hcb
        have hbm2 := k22.at0 hbm
        have hown2 := hown.ch0 k22
        have hcl2 := hcl.trans0 k22
        have hzk22 := k22.size
        have hS := hS.trans cl9 (fun _ _ => id) (by intro i hi hg; exact hg)
        refine WL.nil Nx.thn ⟨hS, ?_⟩
        refine WH.take 13 rfl (by kernel_rfl) (by kernel_rfl) (by kernel_rfl) (fun _ _ _ h => h) Gd.none rfl (fun w' hS' => (show Sg.X Tryd.prog _ w' _ _ (.int .i64 (((lbv Lb (B.getD i 0) (B.getD (i + 1) 0) &&& othN k r) : Nat) : Int)) from by rw [← and_oth (lbv_lt hok9 _ _) hol]; exact X.and (lh) (lt rfl (lh)))) hS ?_
        refine WH.take 14 rfl (by kernel_rfl) (by kernel_rfl) (by kernel_rfl) (fun _ _ _ h => h) Gd.none rfl (fun w' hS' => X.asg (lh)) hS ?_
        refine WH.done (by kernel_rfl) ?_
        refine WL.e9 Nx.thn 1 10 16 19 22 23 24 108 109 (jt8 rfl (jt4 rfl (jt2 rfl (lt rfl (s1))))) (jt8 rfl (jt4 rfl (jt2 rfl (lt rfl (s10))))) (jt8 rfl (jt4 rfl (jt2 rfl (lt rfl (s16))))) (jt8 rfl (jt4 rfl (jt2 rfl (lt rfl (s19))))) (jt8 rfl (jt4 rfl (jt2 rfl (lt rfl (s22))))) (jt8 rfl (jt4 rfl (jt2 rfl (lt rfl (s23))))) (lh) (jt8 rfl (jt4 rfl (jt2 rfl (lt rfl (s108))))) (jt8 rfl (jt4 rfl (jt2 rfl (lt rfl (s109))))) ?_
        intro σ32 s1 s10 s16 s19 s22 s23 s24 s108 s109
        refine W.seq ?_
        refine W.held (fun w' => Ch (fun _ => False) w21 w') mo ?_
        intro w22 qhh20 qc21
        have hS : Ch (fun _ => False) w21 w22 := Ch.weak qc21
        have hzqc21 := qc21.size
        have cdh23 := qc21
        have hM16 : (lbv Lb (B.getD i 0) (B.getD (i + 1) 0) &&& othN k r) < 16 := and_lt16 (lbv_lt hok9 _ _)
        refine WH.take 0 rfl (by kernel_rfl) (by kernel_rfl) (by kernel_rfl) (fun _ _ _ h => h) Gd.none rfl (fun w' hS' => X.mv (s1)) hS ?_
        refine WH.take 1 rfl (by kernel_rfl) (by kernel_rfl) (by kernel_rfl) (fun _ _ _ h => h) Gd.none rfl (fun w' hS' => X.mv (lt rfl (s19))) hS ?_
        refine WH.take 2 rfl (by kernel_rfl) (by kernel_rfl) (by kernel_rfl) (fun _ _ _ h => h) Gd.none rfl (fun w' hS' => X.mv (jt2 rfl (s23))) hS ?_
        refine WH.take 3 rfl (by kernel_rfl) (by kernel_rfl) (by kernel_rfl) (fun _ _ _ h => h) Gd.none rfl (fun w' hS' => X.indexAddr Tryd.underlying40 el3 (lt rfl (lh)) (lh) (by omega) (by omega)) hS ?_
        refine WH.take 4 rfl (by kernel_rfl) (by kernel_rfl) (by kernel_rfl) (fun _ _ _ h => h) Gd.none rfl (fun w' hS' => X.load pl3 (lh) (hS'.at0 hbm2) (v := .int .i64 (B.getD i 0)) (hbe i (by omega))) hS ?_
        refine WH.take 5 rfl (by kernel_rfl) (by kernel_rfl) (by kernel_rfl) (fun _ _ _ h => h) Gd.none rfl (fun w' hS' => X.mv (jt4 rfl (lt rfl (s19)))) hS ?_
        refine WH.take 6 rfl (by kernel_rfl) (by kernel_rfl) (by kernel_rfl) (fun _ _ _ h => h) Gd.none rfl (fun w' hS' => X.mv (jt4 rfl (jt2 rfl (s23)))) hS ?_
        refine WH.take 7 rfl (by kernel_rfl) (by kernel_rfl) (by kernel_rfl) (fun _ _ _ h => h) Gd.none rfl (fun w' hS' => X.addN (b := 1) (lh) lc (by omega)) hS ?_
        refine WH.take 8 rfl (by kernel_rfl) (by kernel_rfl) (by kernel_rfl) (fun _ _ _ h => h) Gd.none rfl (fun w' hS' => X.indexAddr Tryd.underlying40 el3 (jt2 rfl (lh)) (lh) (by omega) (by omega)) hS ?_
        refine WH.take 9 rfl (by kernel_rfl) (by kernel_rfl) (by kernel_rfl) (fun _ _ _ h => h) Gd.none rfl (fun w' hS' => X.load pl3 (lh) (hS'.at0 hbm2) (v := .int .i64 (B.getD (i + 1) 0)) (hbe (i + 1) (by omega))) hS ?_
        refine WH.take 10 rfl (by kernel_rfl) (by kernel_rfl) (by kernel_rfl) (fun _ _ _ h => h) Gd.none rfl (fun w' hS' => X.mv (jt8 rfl (jt2 rfl (s24)))) hS ?_
        refine WH.take 11 rfl (by kernel_rfl) (by kernel_rfl) (by kernel_rfl) (fun _ _ _ h => h) Gd.none rfl (fun w' hS' => X.mv (jt8 rfl (jt2 rfl (lt rfl (s24))))) hS ?_
        refine WH.take 12 rfl (by kernel_rfl) (by kernel_rfl) (by kernel_rfl) (fun _ _ _ h => h) Gd.none rfl (fun w' hS' => X.neg (lh) (by omega) (by omega)) hS ?_
        refine WH.take 13 rfl (by kernel_rfl) (by kernel_rfl) (by kernel_rfl) (fun _ _ _ h => h) Gd.none rfl (fun w' hS' => (show Sg.X Tryd.prog _ w' _ _ (.int .i64 ((lsb (lbv Lb (B.getD i 0) (B.getD (i + 1) 0) &&& othN k r) : Int))) from by rw [← lsb_all _ (and_lt16 (lbv_lt hok9 _ _))]; exact X.and (jt2 rfl (lh)) (lh))) hS ?_
        refine WH.two 14 18 rfl rfl (by kernel_rfl) (fun _ _ h => h) ?_ ?_
        ·
         refine WL.call4 ce23 (jt8 rfl (jt4 rfl (lt rfl (lh)))) (jt8 rfl (lt rfl (lh))) (jt4 rfl (lh)) (lh) (find_ok A pa pc l (B.getD i 0) (B.getD (i + 1) 0) (lsb (lbv Lb (B.getD i 0) (B.getD (i + 1) 0) &&& othN k r) : Int) w22 (hl.ch0 (monRc _) (hcl2.trans0 hS)) hm) rfl ?_
         rintro _ w23 ⟨rfl, c7⟩
         have hz7 := c7.size
         have hS := hS.trans c7 (fun _ _ => id) (by intro i hi hg; exact hg)
         refine WL.nil Nx.thn ⟨hS, ?_⟩
         refine WH.take 15 rfl (by kernel_rfl) (by kernel_rfl) (by kernel_rfl) (fun _ _ _ h => h) Gd.none rfl (fun w' hS' => X.mv (lh)) hS ?_
         refine WH.take 16 rfl (by kernel_rfl) (by kernel_rfl) (by kernel_rfl) (fun _ _ _ h => h) Gd.none rfl (fun w' hS' => X.ex2_0 (lh)) hS ?_
         refine WH.take 17 rfl (by kernel_rfl) (by kernel_rfl) (by kernel_rfl) (fun _ _ _ h => h) Gd.none rfl (fun w' hS' => X.ex2_1 (lt rfl (lh))) hS ?_
         refine WH.one 18 rfl (by kernel_rfl) (fun _ _ h => h) ?_
         refine WL.alloc el27 rfl ?_
         intro w24 u23_18; have hu23_18 := u23_18.at_; have cu23_18 := u23_18.ch; have zu23_18 := u23_18.size
         have hS := hS.trans cu23_18 (fun _ _ => id) (by intro i hi hg; exact hg)
         refine WL.nil Nx.thn ⟨hS, ?_⟩
         refine WH.one 19 rfl (by kernel_rfl) (fun _ _ h => h) ?_
         refine WL.storeS (vs := fwy (stepW l Lb (othN k r) B i)) ag27 (lh) (jt2 rfl (lh)) (List.all_eq_true.2 (fwy_one _)) rfl (by exact hu23_18) (by decide) ?_
         intro w25 us; have cst := us.ch
         have hwb2 : w25.heap[(_ : Nat)]? = some (.cells (fwy (stepW l Lb (othN k r) B i)).toArray 27 (0, 0)) := us.at_
         have hS := hS.trans cst (fun _ _ e => e) (fun i hi hg => by have h8 := cdh23.size; (try dsimp only at hg); omega)
         refine WL.nil Nx.thn ⟨hS, ?_⟩
         refine WH.take 20 rfl (by kernel_rfl) (by kernel_rfl) (by kernel_rfl) (fun _ _ _ h => h) Gd.none rfl (fun w' hS' => X.asg (lt rfl (lh))) hS ?_
         refine WH.done (by kernel_rfl) ?_
         refine WL.e8 Nx.thn 1 10 16 19 22 25 108 109 (jt8 rfl (jt8 rfl (jt4 rfl (s1)))) (jt8 rfl (jt8 rfl (jt4 rfl (s10)))) (jt8 rfl (jt8 rfl (jt4 rfl (s16)))) (jt8 rfl (jt8 rfl (jt4 rfl (s19)))) (jt8 rfl (jt8 rfl (jt4 rfl (s22)))) (lt rfl (lh)) (jt8 rfl (jt8 rfl (jt4 rfl (s108)))) (jt8 rfl (jt8 rfl (jt4 rfl (s109)))) ?_
         intro σ33 s1 s10 s16 s19 s22 s25 s108 s109
         refine W.region ?_
         have hown3 := hown2.ch0 hS
         have hg3 := hg2.ch0 hS
         have hcb3 := hS.at0 hcb2
         have hbm3 := hS.at0 hbm2
         have hcl3 := hcl2.trans0 hS
         have hz3 := hcl3.size
         have hzS := hS.size
         refine WL.x (X.mv (s22)) rfl ?_
         refine WL.x (X.loadBox (vs := fwy (stepW l Lb (othN k r) B i)) ag27 (lt rfl (s25)) hwb2 rfl) rfl ?_
         refine WL.bsliceR (vs := [_]) Tryd.underlying22 el27 (by decide) (pcons (lh) pnil) rfl (fun u hu => by rw [List.mem_singleton.1 hu]; exact fwy_len _) (show 1 * 8 ≤ 16777216 by decide) rfl ?_
         intro w27 u24_2; have hu24_2 := u24_2.at_; have cu24_2 := u24_2.ch; have zu24_2 := u24_2.size
         refine WL.appendF Tryd.underlying22 el27 rfl (by decide) fwy_len fwy_one (jt2 rfl (lh)) (lh) (hown3.ch0 cu24_2) (rsl_one (A := fun _ => True) (x := (stepW l Lb (othN k r) B i)) fwy_len hu24_2 (by simp [Value.cells]) trivial) (by unfold maxLen; simp only [List.length_cons, List.length_nil, chainW_len]; omega) (by simp only [List.length_cons, List.length_nil, chainW_len]; omega) (by have := cu24_2.size; omega) rfl ?_
         intro va24_3 w28 ho24_3 ca24_3
         have hcb4 := ca24_3.at (cu24_2.at0 hcb3) (fun hk => by have := (hown3.lt hk).1; omega)
         have hbm4 := ca24_3.at (cu24_2.at0 hbm3) (fun hk => by have := (hown3.lt hk).1; omega)
         have hg4 := (hg3.ch0 cu24_2).keep (ts := [27]) (b := ob) (ca24_3.mono (fun i _ e9 => own_mine (hown3.ch0 cu24_2) (by simp) (Nat.le_refl _) i e9)) (by decide)
         have hcl4 := (hcl3.trans0 cu24_2).trans ca24_3 (H := fun _ => False) (fun _ _ e => e) (fun i hi e9 => by have := (hown3.lt e9).1; omega)
         refine WL.x (X.asg (lh)) rfl ?_
         refine WL.e7 (Nx.blk Nx.thn) 1 10 16 19 22 108 109 (jt4 rfl (lt rfl (s1))) (jt4 rfl (lt rfl (s10))) (jt4 rfl (lt rfl (s16))) (jt4 rfl (lt rfl (s19))) (lh) (jt4 rfl (lt rfl (s108))) (jt4 rfl (lt rfl (s109))) ?_
         intro σ34 s1 s10 s16 s19 s22 s108 s109
         refine W.region ?_
         refine WL.x (X.addN (b := 1) (s109) lc (by omega)) rfl ?_
         refine WL.x (X.mv (lh)) rfl ?_
         refine WL.e7 Nx.thn 1 10 16 19 22 108 109 (jt2 rfl (s1)) (jt2 rfl (s10)) (jt2 rfl (s16)) (jt2 rfl (s19)) (jt2 rfl (s22)) (jt2 rfl (s108)) (lh) ?_
         intro σ35 s1 s10 s16 s19 s22 s108 s109
         refine ⟨i + 1, by omega, ⟨s1.trans qo13.symm, s10.trans qo14.symm, s16.trans qo15.symm, s19.trans qo16.symm, s108.trans qo17.symm, trivial⟩, _, s109, by omega, s22, (by rw [chainW_succ, ← List.cons_append]; exact ho24_3), hg4, hcb4, hbm4, (by have := ca24_3.size; have := cu24_2.size; omega), hcl4⟩
        ·
         refine WL.alloc el27 rfl ?_
         intro w29 u23_18; have hu23_18 := u23_18.at_; have cu23_18 := u23_18.ch; have zu23_18 := u23_18.size
         have hS := hS.trans cu23_18 (fun _ _ => id) (by intro i hi hg; exact hg)
         refine WL.nil Nx.thn ⟨hS, ?_⟩
         refine WH.one 14 rfl (by kernel_rfl) (fun _ _ h => h) ?_
         refine WL.call4 ce23 (jt8 rfl (jt4 rfl (jt2 rfl (lh)))) (jt8 rfl (jt2 rfl (lh))) (jt4 rfl (lt rfl (lh))) (lt rfl (lh)) (find_ok A pa pc l (B.getD i 0) (B.getD (i + 1) 0) (lsb (lbv Lb (B.getD i 0) (B.getD (i + 1) 0) &&& othN k r) : Int) w29 (hl.ch0 (monRc _) (hcl2.trans0 hS)) hm) rfl ?_
         rintro _ w30 ⟨rfl, c7⟩
         have hz7 := c7.size
         have hS := hS.trans c7 (fun _ _ => id) (by intro i hi hg; exact hg)
         refine WL.nil Nx.thn ⟨hS, ?_⟩
         refine WH.take 15 rfl (by kernel_rfl) (by kernel_rfl) (by kernel_rfl) (fun _ _ _ h => h) Gd.none rfl (fun w' hS' => X.mv (lh)) hS ?_
         refine WH.take 16 rfl (by kernel_rfl) (by kernel_rfl) (by kernel_rfl) (fun _ _ _ h => h) Gd.none rfl (fun w' hS' => X.ex2_0 (lh)) hS ?_
         refine WH.take 17 rfl (by kernel_rfl) (by kernel_rfl) (by kernel_rfl) (fun _ _ _ h => h) Gd.none rfl (fun w' hS' => X.ex2_1 (lt rfl (lh))) hS ?_
         refine WH.one 19 rfl (by kernel_rfl) (fun _ _ h => h) ?_
         refine WL.storeS (vs := fwy (stepW l Lb (othN k r) B i)) ag27 (jt4 rfl (lh)) (lt rfl (lh)) (List.all_eq_true.2 (fwy_one _)) rfl (by exact c7.at0 hu23_18) (by decide) ?_
         intro w31 us; have cst := us.ch
         have hwb2 : w31.heap[(_ : Nat)]? = some (.cells (fwy (stepW l Lb (othN k r) B i)).toArray 27 (0, 0)) := us.at_
         have hS := hS.trans cst (fun _ _ e => e) (fun i hi hg => by have h8 := cdh23.size; (try dsimp only at hg); omega)
         refine WL.nil Nx.thn ⟨hS, ?_⟩
         refine WH.take 20 rfl (by kernel_rfl) (by kernel_rfl) (by kernel_rfl) (fun _ _ _ h => h) Gd.none rfl (fun w' hS' => X.asg (lh)) hS ?_
         refine WH.done (by kernel_rfl) ?_
         refine WL.e8 Nx.thn 1 10 16 19 22 25 108 109 (jt8 rfl (jt8 rfl (jt4 rfl (s1)))) (jt8 rfl (jt8 rfl (jt4 rfl (s10)))) (jt8 rfl (jt8 rfl (jt4 rfl (s16)))) (jt8 rfl (jt8 rfl (jt4 rfl (s19)))) (jt8 rfl (jt8 rfl (jt4 rfl (s22)))) (jt4 rfl (lt rfl (lh))) (jt8 rfl (jt8 rfl (jt4 rfl (s108)))) (jt8 rfl (jt8 rfl (jt4 rfl (s109)))) ?_
         intro σ36 s1 s10 s16 s19 s22 s25 s108 s109
         refine W.region ?_
         have hown3 := hown2.ch0 hS
         have hg3 := hg2.ch0 hS
         have hcb3 := hS.at0 hcb2
         have hbm3 := hS.at0 hbm2
         have hcl3 := hcl2.trans0 hS
         have hz3 := hcl3.size
         have hzS := hS.size
         refine WL.x (X.mv (s22)) rfl ?_
         refine WL.x (X.loadBox (vs := fwy (stepW l Lb (othN k r) B i)) ag27 (lt rfl (s25)) hwb2 rfl) rfl ?_
         refine WL.bsliceR (vs := [_]) Tryd.underlying22 el27 (by decide) (pcons (lh) pnil) rfl (fun u hu => by rw [List.mem_singleton.1 hu]; exact fwy_len _) (show 1 * 8 ≤ 16777216 by decide) rfl ?_
         intro w33 u24_2; have hu24_2 := u24_2.at_; have cu24_2 := u24_2.ch; have zu24_2 := u24_2.size
         refine WL.appendF Tryd.underlying22 el27 rfl (by decide) fwy_len fwy_one (jt2 rfl (lh)) (lh) (hown3.ch0 cu24_2) (rsl_one (A := fun _ => True) (x := (stepW l Lb (othN k r) B i)) fwy_len hu24_2 (by simp [Value.cells]) trivial) (by unfold maxLen; simp only [List.length_cons, List.length_nil, chainW_len]; omega) (by simp only [List.length_cons, List.length_nil, chainW_len]; omega) (by have := cu24_2.size; omega) rfl ?_
         intro va24_3 w34 ho24_3 ca24_3
         have hcb4 := ca24_3.at (cu24_2.at0 hcb3) (fun hk => by have := (hown3.lt hk).1; omega)
         have hbm4 := ca24_3.at (cu24_2.at0 hbm3) (fun hk => by have := (hown3.lt hk).1; omega)
         have hg4 := (hg3.ch0 cu24_2).keep (ts := [27]) (b := ob) (ca24_3.mono (fun i _ e9 => own_mine (hown3.ch0 cu24_2) (by simp) (Nat.le_refl _) i e9)) (by decide)
         have hcl4 := (hcl3.trans0 cu24_2).trans ca24_3 (H := fun _ => False) (fun _ _ e => e) (fun i hi e9 => by have := (hown3.lt e9).1; omega)
         refine WL.x (X.asg (lh)) rfl ?_
         refine WL.e7 (Nx.blk Nx.thn) 1 10 16 19 22 108 109 (jt4 rfl (lt rfl (s1))) (jt4 rfl (lt rfl (s10))) (jt4 rfl (lt rfl (s16))) (jt4 rfl (lt rfl (s19))) (lh) (jt4 rfl (lt rfl (s108))) (jt4 rfl (lt rfl (s109))) ?_
         intro σ37 s1 s10 s16 s19 s22 s108 s109
         refine W.region ?_
         refine WL.x (X.addN (b := 1) (s109) lc (by omega)) rfl ?_
         refine WL.x (X.mv (lh)) rfl ?_
         refine WL.e7 Nx.thn 1 10 16 19 22 108 109 (jt2 rfl (s1)) (jt2 rfl (s10)) (jt2 rfl (s16)) (jt2 rfl (s19)) (jt2 rfl (s22)) (jt2 rfl (s108)) (lh) ?_
         intro σ38 s1 s10 s16 s19 s22 s108 s109
         refine ⟨i + 1, by omega, ⟨s1.trans qo13.symm, s10.trans qo14.symm, s16.trans qo15.symm, s19.trans qo16.symm, s108.trans qo17.symm, trivial⟩, _, s109, by omega, s22, (by rw [chainW_succ, ← List.cons_append]; exact ho24_3), hg4, hcb4, hbm4, (by have := ca24_3.size; have := cu24_2.size; omega), hcl4⟩
       ·
        refine W.exit (Nx.xthn (Nx.xthn (Nx.xblk Nx.thn))) ?_
        refine W.seq ?_
        refine W.region ?_
        refine WL.x (X.mv (s22)) rfl ?_
        refine WL.x (X.asg (lh)) rfl ?_
        refine WL.x (X.asg lc) rfl ?_
        refine WL.e2 Nx.thn 8 9 (lt rfl (lh)) (lh) ?_
        intro σ39 s8 s9
        refine W.ret2 (Nx.rblk (Nx.rthn (Nx.rthn (Nx.rblk (Nx.rthn Nx.f2))))) s8 s9 ?_
        have hfs : findC n l k r = some ((wf l e.1 e.2.1 (wantN k : Int)) :: chainW l Lb (othN k r) B (B.length - 1)) := by
          rw [hfc, ← hes9, pX_some hql hno (by rw [he9]; exact hpt), he9]
          show some (cycW l N Lb (wantN k) (othN k r) e) = _
          unfold cycW
          rw [show backW N Lb (othN k r) e = B from hB]
        rw [show i = B.length - 1 by omega] at hown
        exact ⟨_, by rw [hfs]; rfl, by rw [hfs]; exact hown.lower hwob, hcl⟩
    ·
     refine W.exit (Nx.xthn (Nx.xthn (Nx.xblk Nx.thn))) ?_
     refine W.seq ?_
     refine W.region ?_
     refine WL.x (X.asg lc) rfl ?_
     refine WL.x (X.asg lc) rfl ?_
     refine WL.e2 Nx.thn 8 9 (lt rfl (lh)) (lh) ?_
     intro σ40 s8 s9
     refine W.ret2 Nx.f2 s8 s9 ?_
     have hno9 : findC n l k r = none := by
       rw [hfc, ← hes9, pX_none (fun i hi => hno i hi (by omega))]; rfl
     exact ⟨_, by rw [hno9]; rfl, by rw [hno9]; exact OwnF.nil, hcl⟩

theorem cfind_ok (A : Nat → Prop) (n : Int) (pa : Option Addr) (pc : Nat) (l : List Gwy) (k : Int) (r : Bool) (w : World) (hl : RSl 8 (Rc fwy) A w (.slice pa l.length pc) l) (hm : l.length ≤ 1000000) (htab : Tab w) (hb0 : 0 < w.heap.size) : Sg.Ret Tryd.prog 7 #[.int .i64 n, .slice pa l.length pc, .int .i64 k, .bool r] w (fun v w' => ∃ vl, v = .tuple #[vl, .bool (findC n l k r).isSome] ∧ OwnF 8 fwy w' w.heap.size 27 vl ((findC n l k r).getD []) ∧ Ch0 w w') := by
  by_cases hG : okG n l
  · exact cfind_in A n pa pc l k r w hl hm htab hb0 hG
  · exact cfind_out A n pa pc l k r w hl hm htab hb0 hG

end Go.Proofs.YtnfkblboimkcjaaDoor
end
