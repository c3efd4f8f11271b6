/-
  A part of the walk of the program. | A part of the walk of the program. | A part of the walk of the program. | A part of the walk of the program.
-/
import Derived.Test.YtnfkblboimkcjaaDoorPt10
section
set_option linter.unusedVariables false
set_option linter.unusedSimpArgs false
set_option maxRecDepth 100000
namespace Go.Proofs.YtnfkblboimkcjaaDoor
open Go Go.RowKit Sg

abbrev eW (x : Gwy) : GE := (x.1, x.2.1, x.2.2.1)
def okG (n : Int) (l : List Gwy) : Prop := (0 ≤ n ∧ n ≤ 300) ∧ ∀ x ∈ l, errE n.toNat (eW x) = 0
instance (n : Int) (l : List Gwy) : Decidable (okG n l) := by unfold okG; infer_instance
theorem foldW {n : Nat} {l : List Gwy} {k : Nat} (hk : k < l.length) : foldE n ((l.take (k + 1)).map eW) = addE n (foldE n ((l.take k).map eW)) (eW l[k]) := by rw [List.take_succ_eq_append_getElem hk, List.map_append, List.map_cons, List.map_nil, foldE_snoc]

theorem dgraph_out (A : Nat → Prop) (n : Int) (pa : Option Addr) (pc : Nat) (l : List Gwy) (w : World) (hl : RSl 8 (Rc fwy) A w (.slice pa l.length pc) l) (hm : l.length ≤ 1000000) (hn : ¬ (0 ≤ n ∧ n ≤ 300)) :
  Sg.Ret Tryd.prog 18 #[.int .i64 n, .slice pa l.length pc] w fun v w' => Ch0 w w' ∧ (if okG n l then ∃ g, v = .tuple #[.pointer (some ⟨g, 0, none⟩), .int .i64 0] ∧ IsG w' w.heap.size g n.toNat (foldE n.toNat (l.map eW)) else ∃ e : Int, e ≠ 0 ∧ v = .tuple #[.pointer none, .int .i64 e]) := by
 refine enter2 (n := 38) (l := [.int .i64 n, .slice pa l.length pc]) Tryd.func18 rfl rfl rfl rfl ?_
 refine W.g2 0 1 (v1 := .int .i64 n) (v2 := .slice pa l.length pc) rfl rfl ?_; intro σ s0 s1
 refine W.seq ?_
 refine W.region ?_
 refine WL.x (X.asg lc) rfl ?_
 refine WL.x (X.asg lc) rfl ?_
 refine WL.e2 Nx.thn 0 1 (jt2 rfl (s0)) (jt2 rfl (s1)) ?_
 intro σ1 s0 s1
 refine W.seq ?_
 refine W.region ?_
 refine WL.x (X.mv (s0)) rfl ?_
 refine WL.call1 ce36 (lh) (gnew_ok n w) rfl ?_
 rintro vg w1 ⟨k1, hv⟩
 rw [if_neg hn] at hv
 subst hv
 refine WL.x (X.mv (lh)) rfl ?_
 refine WL.x (X.ex2_0 (lh)) rfl ?_
 refine WL.x (X.ex2_1 (lt rfl (lh))) rfl ?_
 refine WL.x (X.asg (lt rfl (lh))) rfl ?_
 refine WL.x (X.asg (lt rfl (lh))) rfl ?_
 refine WL.e3 Nx.thn 1 6 7 (jt4 rfl (jt2 rfl (lt rfl (s1)))) (lt rfl (lh)) (lh) ?_
 intro σ2 s1 s6 s7
 refine W.seq ?_
 refine W.seq ?_
 refine W.region ?_
 refine WL.x (X.mv (s7)) rfl ?_
 refine WL.x (X.neq (lh) lc) rfl ?_
 refine WL.e4 Nx.thn 1 6 7 17 (jt2 rfl (s1)) (jt2 rfl (s6)) (jt2 rfl (s7)) (lh) ?_
 intro σ3 s1 s6 s7 s17
 refine W.cndY s17 (by decide) ?_
 refine W.seq ?_
 refine W.region ?_
 refine WL.x (X.mv (s7)) rfl ?_
 refine WL.x (X.asg lc) rfl ?_
 refine WL.x (X.asg (lt rfl (lh))) rfl ?_
 refine WL.e2 Nx.thn 4 5 (lt rfl (lh)) (lh) ?_
 intro σ4 s4 s5
 refine W.ret2 (Nx.rthn Nx.f2) s4 s5 ?_
 refine ⟨k1, ?_⟩
 rw [if_neg (fun h => hn h.1)]
 exact ⟨1, by decide, rfl⟩
set_option maxHeartbeats 800000 in
theorem dgraph_in (A : Nat → Prop) (n : Int) (pa : Option Addr) (pc : Nat) (l : List Gwy) (w : World) (hl : RSl 8 (Rc fwy) A w (.slice pa l.length pc) l) (hm : l.length ≤ 1000000) (hn : 0 ≤ n ∧ n ≤ 300) :
  Sg.Ret Tryd.prog 18 #[.int .i64 n, .slice pa l.length pc] w fun v w' => Ch0 w w' ∧ (if okG n l then ∃ g, v = .tuple #[.pointer (some ⟨g, 0, none⟩), .int .i64 0] ∧ IsG w' w.heap.size g n.toNat (foldE n.toNat (l.map eW)) else ∃ e : Int, e ≠ 0 ∧ v = .tuple #[.pointer none, .int .i64 e]) := by
 obtain ⟨N, hN⟩ : ∃ N : Nat, n = (N : Int) := ⟨n.toNat, by omega⟩
 have hNt : n.toNat = N := by omega
 refine enter2 (n := 38) (l := [.int .i64 n, .slice pa l.length pc]) Tryd.func18 rfl rfl rfl rfl ?_
 refine W.g2 0 1 (v1 := .int .i64 n) (v2 := .slice pa l.length pc) rfl rfl ?_; intro σ s0 s1
 refine W.seq ?_
 refine W.region ?_
 refine WL.x (X.asg lc) rfl ?_
 refine WL.x (X.asg lc) rfl ?_
 refine WL.e2 Nx.thn 0 1 (jt2 rfl (s0)) (jt2 rfl (s1)) ?_
 intro σ1 s0 s1
 refine W.seq ?_
 refine W.region ?_
 refine WL.x (X.mv (s0)) rfl ?_
 refine WL.call1 ce36 (lh) (gnew_ok n w) rfl ?_
 rintro vg w1 ⟨k1, hv⟩
 rw [if_pos hn] at hv
 obtain ⟨g, rfl, hg0⟩ := hv
 rw [hNt] at hg0
 refine WL.x (X.mv (lh)) rfl ?_
 refine WL.x (X.ex2_0 (lh)) rfl ?_
 refine WL.x (X.ex2_1 (lt rfl (lh))) rfl ?_
 refine WL.x (X.asg (lt rfl (lh))) rfl ?_
 refine WL.x (X.asg (lt rfl (lh))) rfl ?_
 refine WL.e3 Nx.thn 1 6 7 (jt4 rfl (jt2 rfl (lt rfl (s1)))) (lt rfl (lh)) (lh) ?_
 intro σ2 s1 s6 s7
 refine W.seq ?_
 refine W.seq ?_
 refine W.region ?_
 refine WL.x (X.mv (s7)) rfl ?_
 refine WL.x (X.neq (lh) lc) rfl ?_
 refine WL.e4 Nx.thn 1 6 7 17 (jt2 rfl (s1)) (jt2 rfl (s6)) (jt2 rfl (s7)) (lh) ?_
 intro σ3 s1 s6 s7 s17
 refine W.cndN s17 (fun h => h rfl) ?_
 refine W.skip Nx.thn ?_
 refine W.seq ?_
 refine W.seq ?_
 refine W.region ?_
 refine WL.x (X.mv (s1)) rfl ?_
 refine WL.x (X.lenSl Tryd.underlying22 (lh)) rfl ?_
 refine WL.x (X.mv lc) rfl ?_
 refine WL.e4 Nx.thn 6 19 20 21 (jt2 rfl (lt rfl (s6))) (jt2 rfl (lh)) (lt rfl (lh)) (lh) ?_
 intro σ4 s6 s19 s20 s21
 refine W.block ?_
 have qo1 := s6
 have qo2 := s19
 have qo3 := s20
 -- loop 0: kept [6, 19, 20], varied [21]
 refine W.loop (G := Nat) (fun k σ' w' => (σ' 6 = σ4 6 ∧ σ' 19 = σ4 19 ∧ σ' 20 = σ4 20 ∧ True) ∧ (σ' 21 = .int .i64 (k : Int) ∧ k ≤ l.length ∧ IsG w' w.heap.size g N (foldE N ((l.take k).map eW)) ∧ (∀ x ∈ l.take k, errE N (eW x) = 0) ∧ Ch0 w w')) (fun k => l.length - k) (0) ⟨⟨rfl, rfl, rfl, trivial⟩, s21, by omega, hg0, (fun x hx => by rw [List.take_zero] at hx; cases hx), k1⟩ ?_
 rintro k σ5 w2 ⟨⟨f6, f19, f20, _⟩, s21, hk, hg, hall, hcl⟩
 have s6 := f6.trans qo1
 have s19 := f19.trans qo2
 have s20 := f20.trans qo3
 have hzc := hcl.size
 refine W.seq ?_
 refine W.region ?_
 refine WL.x (X.lss (s21) (s20)) rfl ?_
 refine WL.e5 Nx.thn 6 19 20 21 22 (lt rfl (s6)) (lt rfl (s19)) (lt rfl (s20)) (lt rfl (s21)) (lh) ?_
 intro σ6 s6 s19 s20 s21 s22
 refine W.seq ?_
 refine W.cndp s22 (fun hlt => ?_) (fun hlt => ?_)
 ·
  have hkl : k < l.length := by omega
  obtain ⟨lb, lo, lcs, lT, lfr, rfl, hlm, hle9, -, hlc⟩ := hl.get (k := k) hkl
  have hft := foldW (n := N) hkl
  obtain ⟨x, hx⟩ : ∃ x, l[k] = x := ⟨_, rfl⟩
  rw [hx] at hlc hft
  have hxm : x ∈ l := by rw [← hx]; exact List.getElem_mem hkl
  refine W.skip Nx.thn ?_
  refine W.seq ?_
  refine W.block ?_
  refine W.seq ?_
  refine W.region ?_
  refine WL.x (X.indexAddr Tryd.underlying22 el27 (s19) (s21) (by omega) (by omega)) rfl ?_
  refine WL.x (X.loadS (vs := fwy x) ag27 (lh) (hcl.at0 hlm) rfl hlc) rfl ?_
  refine WL.alloc el27 rfl ?_
  intro w3 u6_2; have hu6_2 := u6_2.at_; have cu6_2 := u6_2.ch; have zu6_2 := u6_2.size
  refine WL.storeS ag27 (lh) (lt rfl (lh)) (List.all_eq_true.2 (fwy_one x)) rfl hu6_2 (by decide) ?_
  intro w4 us; have cst := us.ch
  have hkb : w4.heap[w2.heap.size]? = some (.cells (fwy x).toArray 27 (0, 0)) := us.at_
  have cku : Ch0 w2 w4 := cu6_2.trans cst (fun _ _ e => e) (fun i hi e => by (try dsimp only at e); omega)
  have hg3 := hg.ch0 cku
  have hcl3 := hcl.trans0 cku
  have hzk := lt_of_blk hkb
  refine WL.e5 Nx.thn 6 9 19 20 21 (jt2 rfl (lt rfl (s6))) (lh) (jt2 rfl (lt rfl (s19))) (jt2 rfl (lt rfl (s20))) (jt2 rfl (lt rfl (s21))) ?_
  intro σ7 s6 s9 s19 s20 s21
  refine W.seq ?_
  refine W.region ?_
  refine WL.x (X.mv (s6)) rfl ?_
  refine WL.x (X.fieldAddr fd27_0 (lt rfl (s9))) rfl ?_
  refine WL.x (X.load pl3 (lh) hkb (v := .int .i64 x.1) rfl) rfl ?_
  refine WL.x (X.fieldAddr fd27_1 (jt2 rfl (lt rfl (s9)))) rfl ?_
  refine WL.x (X.load pl3 (lh) hkb (v := .int .i64 x.2.1) rfl) rfl ?_
  refine WL.x (X.fieldAddr fd27_2 (jt4 rfl (lt rfl (s9)))) rfl ?_
  refine WL.x (X.load pl3 (lh) hkb (v := .int .i64 x.2.2.1) rfl) rfl ?_
  refine WL.call4 ce37 (jt4 rfl (jt2 rfl (lh))) (jt4 rfl (lh)) (jt2 rfl (lh)) (lh) (gadd_ok _ g N _ w4 hg3 (eW x)) rfl ?_
  rintro _ w5 ⟨rfl, hg4, c4⟩
  have hcl4 := hcl3.trans c4 (H := fun _ => False) (fun _ _ e => e) (fun i hi e => by have := e.1; omega)
  refine WL.x (X.asg (lh)) rfl ?_
  refine WL.e5 Nx.thn 6 10 19 20 21 (jt8 rfl (lt rfl (s6))) (lh) (jt8 rfl (lt rfl (s19))) (jt8 rfl (lt rfl (s20))) (jt8 rfl (lt rfl (s21))) ?_
  intro σ8 s6 s10 s19 s20 s21
  refine W.seq ?_
  refine W.region ?_
  refine WL.x (X.mv (s10)) rfl ?_
  refine WL.x (X.neq (lh) lc) rfl ?_
  refine WL.e6 Nx.thn 6 10 19 20 21 34 (jt2 rfl (s6)) (jt2 rfl (s10)) (jt2 rfl (s19)) (jt2 rfl (s20)) (jt2 rfl (s21)) (lh) ?_
  intro σ9 s6 s10 s19 s20 s21 s34
  refine W.cndp s34 (fun herr => ?_) (fun herr => ?_)
  ·
   refine W.seq ?_
   refine W.region ?_
   refine WL.x (X.mv (s10)) rfl ?_
   refine WL.x (X.asg lc) rfl ?_
   refine WL.x (X.asg (lt rfl (lh))) rfl ?_
   refine WL.e2 Nx.thn 4 5 (lt rfl (lh)) (lh) ?_
   intro σ10 s4 s5
   refine W.ret2 (Nx.rblk (Nx.rthn (Nx.rthn (Nx.rblk (Nx.rthn Nx.f2))))) s4 s5 ?_
   refine ⟨hcl4, ?_⟩
   rw [if_neg (fun h => herr (by have h8 := h.2 x hxm; rw [hNt] at h8; exact h8))]
   exact ⟨_, herr, rfl⟩
  ·
   have herr : errE N (eW x) = 0 := Classical.not_not.1 herr
   refine W.skip (Nx.blk Nx.thn) ?_
   refine W.region ?_
   refine WL.x (X.add (s21) lc (by omega) (by omega)) rfl ?_
   refine WL.x (X.mv (lh)) rfl ?_
   refine WL.e4 Nx.thn 6 19 20 21 (jt2 rfl (s6)) (jt2 rfl (s19)) (jt2 rfl (s20)) (lh) ?_
   intro σ11 s6 s19 s20 s21
   refine ⟨k + 1, by omega, ⟨s6.trans qo1.symm, s19.trans qo2.symm, s20.trans qo3.symm, trivial⟩, s21, by omega, (by rw [hft]; exact hg4), (fun y hy => by rw [List.take_succ_eq_append_getElem hkl, hx] at hy; rcases List.mem_append.1 hy with h9 | h9; (· exact hall y h9); (· rw [List.mem_singleton.1 h9]; exact herr)), hcl4⟩
 ·
  refine W.exit (Nx.xthn (Nx.xthn (Nx.xblk Nx.thn))) ?_
  refine W.seq ?_
  refine W.region ?_
  refine WL.x (X.mv (s6)) rfl ?_
  refine WL.x (X.asg (lh)) rfl ?_
  refine WL.x (X.asg lc) rfl ?_
  refine WL.e2 Nx.thn 4 5 (lt rfl (lh)) (lh) ?_
  intro σ12 s4 s5
  refine W.ret2 Nx.f2 s4 s5 ?_
  have hke : k = l.length := by omega
  subst hke
  rw [List.take_length] at hg hall
  refine ⟨hcl, ?_⟩
  rw [if_pos ⟨hn, fun x hx => by rw [hNt]; exact hall x hx⟩, hNt]
  exact ⟨g, rfl, hg⟩
theorem dgraph_ok (A : Nat → Prop) (n : Int) (pa : Option Addr) (pc : Nat) (l : List Gwy) (w : World) (hl : RSl 8 (Rc fwy) A w (.slice pa l.length pc) l) (hm : l.length ≤ 1000000) : Sg.Ret Tryd.prog 18 #[.int .i64 n, .slice pa l.length pc] w (fun v w' => Ch0 w w' ∧ (if okG n l then ∃ g, v = .tuple #[.pointer (some ⟨g, 0, none⟩), .int .i64 0] ∧ IsG w' w.heap.size g n.toNat (foldE n.toNat (l.map eW)) else ∃ e : Int, e ≠ 0 ∧ v = .tuple #[.pointer none, .int .i64 e])) := by
  by_cases hn : 0 ≤ n ∧ n ≤ 300
  · exact dgraph_in A n pa pc l w hl hm hn
  · exact dgraph_out A n pa pc l w hl hm hn

theorem rgraph_out (A : Nat → Prop) (n : Int) (pa : Option Addr) (pc : Nat) (l : List Gwy) (w : World) (hl : RSl 8 (Rc fwy) A w (.slice pa l.length pc) l) (hm : l.length ≤ 1000000) (hn : ¬ (0 ≤ n ∧ n ≤ 300)) :
  Sg.Ret Tryd.prog 11 #[.int .i64 n, .slice pa l.length pc] w fun v w' => Ch0 w w' ∧ (if okG n l then ∃ g, v = .tuple #[.pointer (some ⟨g, 0, none⟩), .int .i64 0] ∧ IsRG w' w.heap.size g n.toNat (foldE n.toNat (l.map eW)) else ∃ e : Int, e ≠ 0 ∧ v = .tuple #[.pointer none, .int .i64 e]) := by
 refine enter2 (n := 38) (l := [.int .i64 n, .slice pa l.length pc]) Tryd.func11 rfl rfl rfl rfl ?_
 refine W.g2 0 1 (v1 := .int .i64 n) (v2 := .slice pa l.length pc) rfl rfl ?_; intro σ s0 s1
 refine W.seq ?_
 refine W.region ?_
 refine WL.x (X.asg lc) rfl ?_
 refine WL.x (X.asg lc) rfl ?_
 refine WL.e2 Nx.thn 0 1 (jt2 rfl (s0)) (jt2 rfl (s1)) ?_
 intro σ1 s0 s1
 refine W.seq ?_
 refine W.region ?_
 refine WL.x (X.mv (s0)) rfl ?_
 refine WL.call1 ce32 (lh) (rnew_ok n w) rfl ?_
 rintro vg w1 ⟨k1, hv⟩
 rw [if_neg hn] at hv
 subst hv
 refine WL.x (X.mv (lh)) rfl ?_
 refine WL.x (X.ex2_0 (lh)) rfl ?_
 refine WL.x (X.ex2_1 (lt rfl (lh))) rfl ?_
 refine WL.x (X.asg (lt rfl (lh))) rfl ?_
 refine WL.x (X.asg (lt rfl (lh))) rfl ?_
 refine WL.e3 Nx.thn 1 6 7 (jt4 rfl (jt2 rfl (lt rfl (s1)))) (lt rfl (lh)) (lh) ?_
 intro σ2 s1 s6 s7
 refine W.seq ?_
 refine W.seq ?_
 refine W.region ?_
 refine WL.x (X.mv (s7)) rfl ?_
 refine WL.x (X.neq (lh) lc) rfl ?_
 refine WL.e4 Nx.thn 1 6 7 17 (jt2 rfl (s1)) (jt2 rfl (s6)) (jt2 rfl (s7)) (lh) ?_
 intro σ3 s1 s6 s7 s17
 refine W.cndY s17 (by decide) ?_
 refine W.seq ?_
 refine W.region ?_
 refine WL.x (X.mv (s7)) rfl ?_
 refine WL.x (X.asg lc) rfl ?_
 refine WL.x (X.asg (lt rfl (lh))) rfl ?_
 refine WL.e2 Nx.thn 4 5 (lt rfl (lh)) (lh) ?_
 intro σ4 s4 s5
 refine W.ret2 (Nx.rthn Nx.f2) s4 s5 ?_
 refine ⟨k1, ?_⟩
 rw [if_neg (fun h => hn h.1)]
 exact ⟨1, by decide, rfl⟩
set_option maxHeartbeats 800000 in
theorem rgraph_in (A : Nat → Prop) (n : Int) (pa : Option Addr) (pc : Nat) (l : List Gwy) (w : World) (hl : RSl 8 (Rc fwy) A w (.slice pa l.length pc) l) (hm : l.length ≤ 1000000) (hn : 0 ≤ n ∧ n ≤ 300) :
  Sg.Ret Tryd.prog 11 #[.int .i64 n, .slice pa l.length pc] w fun v w' => Ch0 w w' ∧ (if okG n l then ∃ g, v = .tuple #[.pointer (some ⟨g, 0, none⟩), .int .i64 0] ∧ IsRG w' w.heap.size g n.toNat (foldE n.toNat (l.map eW)) else ∃ e : Int, e ≠ 0 ∧ v = .tuple #[.pointer none, .int .i64 e]) := by
 obtain ⟨N, hN⟩ : ∃ N : Nat, n = (N : Int) := ⟨n.toNat, by omega⟩
 have hNt : n.toNat = N := by omega
 refine enter2 (n := 38) (l := [.int .i64 n, .slice pa l.length pc]) Tryd.func11 rfl rfl rfl rfl ?_
 refine W.g2 0 1 (v1 := .int .i64 n) (v2 := .slice pa l.length pc) rfl rfl ?_; intro σ s0 s1
 refine W.seq ?_
 refine W.region ?_
 refine WL.x (X.asg lc) rfl ?_
 refine WL.x (X.asg lc) rfl ?_
 refine WL.e2 Nx.thn 0 1 (jt2 rfl (s0)) (jt2 rfl (s1)) ?_
 intro σ1 s0 s1
 refine W.seq ?_
 refine W.region ?_
 refine WL.x (X.mv (s0)) rfl ?_
 refine WL.call1 ce32 (lh) (rnew_ok n w) rfl ?_
 rintro vg w1 ⟨k1, hv⟩
 rw [if_pos hn] at hv
 obtain ⟨g, rfl, hg0⟩ := hv
 rw [hNt] at hg0
 refine WL.x (X.mv (lh)) rfl ?_
 refine WL.x (X.ex2_0 (lh)) rfl ?_
 refine WL.x (X.ex2_1 (lt rfl (lh))) rfl ?_
 refine WL.x (X.asg (lt rfl (lh))) rfl ?_
 refine WL.x (X.asg (lt rfl (lh))) rfl ?_
 refine WL.e3 Nx.thn 1 6 7 (jt4 rfl (jt2 rfl (lt rfl (s1)))) (lt rfl (lh)) (lh) ?_
 intro σ2 s1 s6 s7
 refine W.seq ?_
 refine W.seq ?_
 refine W.region ?_
 refine WL.x (X.mv (s7)) rfl ?_
 refine WL.x (X.neq (lh) lc) rfl ?_
 refine WL.e4 Nx.thn 1 6 7 17 (jt2 rfl (s1)) (jt2 rfl (s6)) (jt2 rfl (s7)) (lh) ?_
 intro σ3 s1 s6 s7 s17
 refine W.cndN s17 (fun h => h rfl) ?_
 refine W.skip Nx.thn ?_
 refine W.seq ?_
 refine W.seq ?_
 refine W.region ?_
 refine WL.x (X.mv (s1)) rfl ?_
 refine WL.x (X.lenSl Tryd.underlying22 (lh)) rfl ?_
 refine WL.x (X.mv lc) rfl ?_
 refine WL.e4 Nx.thn 6 19 20 21 (jt2 rfl (lt rfl (s6))) (jt2 rfl (lh)) (lt rfl (lh)) (lh) ?_
 intro σ4 s6 s19 s20 s21
 refine W.block ?_
 have qo1 := s6
 have qo2 := s19
 have qo3 := s20
 -- loop 0: kept [6, 19, 20], varied [21]
 refine W.loop (G := Nat) (fun k σ' w' => (σ' 6 = σ4 6 ∧ σ' 19 = σ4 19 ∧ σ' 20 = σ4 20 ∧ True) ∧ (σ' 21 = .int .i64 (k : Int) ∧ k ≤ l.length ∧ IsRG w' w.heap.size g N (foldE N ((l.take k).map eW)) ∧ (∀ x ∈ l.take k, errE N (eW x) = 0) ∧ Ch0 w w')) (fun k => l.length - k) (0) ⟨⟨rfl, rfl, rfl, trivial⟩, s21, by omega, hg0, (fun x hx => by rw [List.take_zero] at hx; cases hx), k1⟩ ?_
 rintro k σ5 w2 ⟨⟨f6, f19, f20, _⟩, s21, hk, hg, hall, hcl⟩
 have s6 := f6.trans qo1
 have s19 := f19.trans qo2
 have s20 := f20.trans qo3
 have hzc := hcl.size
 refine W.seq ?_
 refine W.region ?_
 refine WL.x (X.lss (s21) (s20)) rfl ?_
 refine WL.e5 Nx.thn 6 19 20 21 22 (lt rfl (s6)) (lt rfl (s19)) (lt rfl (s20)) (lt rfl (s21)) (lh) ?_
 intro σ6 s6 s19 s20 s21 s22
 refine W.seq ?_
 refine W.cndp s22 (fun hlt => ?_) (fun hlt => ?_)
 ·
  have hkl : k < l.length := by omega
  obtain ⟨lb, lo, lcs, lT, lfr, rfl, hlm, hle9, -, hlc⟩ := hl.get (k := k) hkl
  have hft := foldW (n := N) hkl
  obtain ⟨x, hx⟩ : ∃ x, l[k] = x := ⟨_, rfl⟩
  rw [hx] at hlc hft
  have hxm : x ∈ l := by rw [← hx]; exact List.getElem_mem hkl
  refine W.skip Nx.thn ?_
  refine W.seq ?_
  refine W.block ?_
  refine W.seq ?_
  refine W.region ?_
  refine WL.x (X.indexAddr Tryd.underlying22 el27 (s19) (s21) (by omega) (by omega)) rfl ?_
  refine WL.x (X.loadS (vs := fwy x) ag27 (lh) (hcl.at0 hlm) rfl hlc) rfl ?_
  refine WL.alloc el27 rfl ?_
  intro w3 u6_2; have hu6_2 := u6_2.at_; have cu6_2 := u6_2.ch; have zu6_2 := u6_2.size
  refine WL.storeS ag27 (lh) (lt rfl (lh)) (List.all_eq_true.2 (fwy_one x)) rfl hu6_2 (by decide) ?_
  intro w4 us; have cst := us.ch
  have hkb : w4.heap[w2.heap.size]? = some (.cells (fwy x).toArray 27 (0, 0)) := us.at_
  have cku : Ch0 w2 w4 := cu6_2.trans cst (fun _ _ e => e) (fun i hi e => by (try dsimp only at e); omega)
  have hg3 := hg.ch0 cku
  have hcl3 := hcl.trans0 cku
  have hzk := lt_of_blk hkb
  refine WL.e5 Nx.thn 6 9 19 20 21 (jt2 rfl (lt rfl (s6))) (lh) (jt2 rfl (lt rfl (s19))) (jt2 rfl (lt rfl (s20))) (jt2 rfl (lt rfl (s21))) ?_
  intro σ7 s6 s9 s19 s20 s21
  refine W.seq ?_
  refine W.region ?_
  refine WL.x (X.mv (s6)) rfl ?_
  refine WL.x (X.fieldAddr fd27_0 (lt rfl (s9))) rfl ?_
  refine WL.x (X.load pl3 (lh) hkb (v := .int .i64 x.1) rfl) rfl ?_
  refine WL.x (X.fieldAddr fd27_1 (jt2 rfl (lt rfl (s9)))) rfl ?_
  refine WL.x (X.load pl3 (lh) hkb (v := .int .i64 x.2.1) rfl) rfl ?_
  refine WL.x (X.fieldAddr fd27_2 (jt4 rfl (lt rfl (s9)))) rfl ?_
  refine WL.x (X.load pl3 (lh) hkb (v := .int .i64 x.2.2.1) rfl) rfl ?_
  refine WL.call4 ce33 (jt4 rfl (jt2 rfl (lh))) (jt4 rfl (lh)) (jt2 rfl (lh)) (lh) (radd_ok _ g N _ w4 hg3 (eW x)) rfl ?_
  rintro _ w5 ⟨rfl, hg4, c4⟩
  have hcl4 := hcl3.trans c4 (H := fun _ => False) (fun _ _ e => e) (fun i hi e => by have := e.1; omega)
  refine WL.x (X.asg (lh)) rfl ?_
  refine WL.e5 Nx.thn 6 10 19 20 21 (jt8 rfl (lt rfl (s6))) (lh) (jt8 rfl (lt rfl (s19))) (jt8 rfl (lt rfl (s20))) (jt8 rfl (lt rfl (s21))) ?_
  intro σ8 s6 s10 s19 s20 s21
  refine W.seq ?_
  refine W.region ?_
  refine WL.x (X.mv (s10)) rfl ?_
  refine WL.x (X.neq (lh) lc) rfl ?_
  refine WL.e6 Nx.thn 6 10 19 20 21 34 (jt2 rfl (s6)) (jt2 rfl (s10)) (jt2 rfl (s19)) (jt2 rfl (s20)) (jt2 rfl (s21)) (lh) ?_
  intro σ9 s6 s10 s19 s20 s21 s34
  refine W.cndp s34 (fun herr => ?_) (fun herr => ?_)
  ·
   refine W.seq ?_
   refine W.region ?_
   refine WL.x (X.mv (s10)) rfl ?_
   refine WL.x (X.asg lc) rfl ?_
   refine WL.x (X.asg (lt rfl (lh))) rfl ?_
   refine WL.e2 Nx.thn 4 5 (lt rfl (lh)) (lh) ?_
   intro σ10 s4 s5
   refine W.ret2 (Nx.rblk (Nx.rthn (Nx.rthn (Nx.rblk (Nx.rthn Nx.f2))))) s4 s5 ?_
   refine ⟨hcl4, ?_⟩
   rw [if_neg (fun h => herr (by have h8 := h.2 x hxm; rw [hNt] at h8; exact h8))]
   exact ⟨_, herr, rfl⟩
  ·
   have herr : errE N (eW x) = 0 := Classical.not_not.1 herr
   refine W.skip (Nx.blk Nx.thn) ?_
   refine W.region ?_
   refine WL.x (X.add (s21) lc (by omega) (by omega)) rfl ?_
   refine WL.x (X.mv (lh)) rfl ?_
   refine WL.e4 Nx.thn 6 19 20 21 (jt2 rfl (s6)) (jt2 rfl (s19)) (jt2 rfl (s20)) (lh) ?_
   intro σ11 s6 s19 s20 s21
   refine ⟨k + 1, by omega, ⟨s6.trans qo1.symm, s19.trans qo2.symm, s20.trans qo3.symm, trivial⟩, s21, by omega, (by rw [hft]; exact hg4), (fun y hy => by rw [List.take_succ_eq_append_getElem hkl, hx] at hy; rcases List.mem_append.1 hy with h9 | h9; (· exact hall y h9); (· rw [List.mem_singleton.1 h9]; exact herr)), hcl4⟩
 ·
  refine W.exit (Nx.xthn (Nx.xthn (Nx.xblk Nx.thn))) ?_
  refine W.seq ?_
  refine W.region ?_
  refine WL.x (X.mv (s6)) rfl ?_
  refine WL.x (X.asg (lh)) rfl ?_
  refine WL.x (X.asg lc) rfl ?_
  refine WL.e2 Nx.thn 4 5 (lt rfl (lh)) (lh) ?_
  intro σ12 s4 s5
  refine W.ret2 Nx.f2 s4 s5 ?_
  have hke : k = l.length := by omega
  subst hke
  rw [List.take_length] at hg hall
  refine ⟨hcl, ?_⟩
  rw [if_pos ⟨hn, fun x hx => by rw [hNt]; exact hall x hx⟩, hNt]
  exact ⟨g, rfl, hg⟩
theorem rgraph_ok (A : Nat → Prop) (n : Int) (pa : Option Addr) (pc : Nat) (l : List Gwy) (w : World) (hl : RSl 8 (Rc fwy) A w (.slice pa l.length pc) l) (hm : l.length ≤ 1000000) : Sg.Ret Tryd.prog 11 #[.int .i64 n, .slice pa l.length pc] w (fun v w' => Ch0 w w' ∧ (if okG n l then ∃ g, v = .tuple #[.pointer (some ⟨g, 0, none⟩), .int .i64 0] ∧ IsRG w' w.heap.size g n.toNat (foldE n.toNat (l.map eW)) else ∃ e : Int, e ≠ 0 ∧ v = .tuple #[.pointer none, .int .i64 e])) := by
  by_cases hn : 0 ≤ n ∧ n ≤ 300
  · exact rgraph_in A n pa pc l w hl hm hn
  · exact rgraph_out A n pa pc l w hl hm hn

end Go.Proofs.YtnfkblboimkcjaaDoor
end

section
set_option linter.unusedVariables false
set_option linter.unusedSimpArgs false
set_option maxRecDepth 100000
namespace Go.Proofs.YtnfkblboimkcjaaDoor
open Go Go.RowKit Sg

def wf (l : List Gwy) (a b o : Int) : Gwy := (findW l a b o).getD zeroW
/-- The dependency of one step back. -/
def stepW (l : List Gwy) (Lb : Nat → Nat → Nat) (oth : Nat) (B : List Int) (i : Nat) : Gwy := wf l (B.getD i 0) (B.getD (i + 1) 0) (lsb (lbv Lb (B.getD i 0) (B.getD (i + 1) 0) &&& oth) : Int)
def chainW (l : List Gwy) (Lb : Nat → Nat → Nat) (oth : Nat) (B : List Int) (m : Nat) : List Gwy := (List.range m).map (stepW l Lb oth B)
theorem chainW_succ (l : List Gwy) (Lb : Nat → Nat → Nat) (oth : Nat) (B : List Int) (m : Nat) : chainW l Lb oth B (m + 1) = chainW l Lb oth B m ++ [stepW l Lb oth B m] := by unfold chainW; rw [List.range_succ, List.map_append]; rfl
theorem chainW_len (l : List Gwy) (Lb : Nat → Nat → Nat) (oth : Nat) (B : List Int) (m : Nat) : (chainW l Lb oth B m).length = m := by unfold chainW; rw [List.length_map, List.length_range]
/-- The way back from an edge. -/
noncomputable def backW (n : Nat) (Lb : Nat → Nat → Nat) (oth : Nat) (e : GE) : List Int := shI n Lb (oth : Int) e.2.1 e.1
noncomputable def cycW (l : List Gwy) (n : Nat) (Lb : Nat → Nat → Nat) (want oth : Nat) (e : GE) : List Gwy := wf l e.1 e.2.1 (want : Int) :: chainW l Lb oth (backW n Lb oth e) ((backW n Lb oth e).length - 1)
noncomputable def pX (n : Nat) (Lb : Nat → Nat → Nat) (want oth : Nat) (e : GE) : Bool := decide (e.2.2.toNat &&& want ≠ 0) && decide (0 ≤ dsI n Lb (oth : Int) e.2.1 e.1)
noncomputable def LbW (n : Int) (l : List Gwy) : Nat → Nat → Nat := foldE n.toNat (l.map eW)
/-- A cycle of a class, as the document says. -/
noncomputable def findC (n : Int) (l : List Gwy) (k : Int) (r : Bool) : Option (List Gwy) :=
  if okK k ∧ (l.all (fun x => oneL x.2.2.1) = true) ∧ okG n l then ((edL n.toNat (LbW n l) n.toNat).find? (pX n.toNat (LbW n l) (wantN k) (othN k r))).map (cycW l n.toNat (LbW n l) (wantN k) (othN k r)) else none
theorem ed_mem {n : Nat} {Lb : Nat → Nat → Nat} {k : Nat} (hk : k ≤ n) {e : GE} (h : e ∈ edL n Lb k) : ∃ a b : Nat, a < n ∧ b < n ∧ Lb a b ≠ 0 ∧ e = ((a : Int), (b : Int), (Lb a b : Int)) := by
  unfold edL rowE at h
  obtain ⟨a, ha, h⟩ := List.mem_flatMap.1 h
  obtain ⟨b, hb, rfl⟩ := List.mem_map.1 h
  have hb2 := List.mem_filter.1 hb
  exact ⟨a, b, by have := List.mem_range.1 ha; omega, List.mem_range.1 hb2.1, of_decide_eq_true hb2.2, rfl⟩
theorem all_succ {l : List Gwy} {k : Nat} (hk : k < l.length) : (l.take (k + 1)).all (fun x => oneL x.2.2.1) = ((l.take k).all (fun x => oneL x.2.2.1) && oneL l[k].2.2.1) := by
  rw [List.take_succ_eq_append_getElem hk, List.all_append]
  simp
/-- None of the first. -/
theorem pX_none {n : Nat} {Lb : Nat → Nat → Nat} {w o : Nat} {es : List GE} (h : ∀ i (hi : i < es.length), pX n Lb w o es[i] = false) : es.find? (pX n Lb w o) = none :=
  List.find?_eq_none.2 fun x hx => by obtain ⟨i, hi, rfl⟩ := List.mem_iff_getElem.1 hx; rw [h i hi]; simp
theorem pX_some {n : Nat} {Lb : Nat → Nat → Nat} {w o : Nat} {es : List GE} {k : Nat} (hk : k < es.length) (h : ∀ i (hi : i < es.length), i < k → pX n Lb w o es[i] = false) (hx : pX n Lb w o es[k] = true) : es.find? (pX n Lb w o) = some es[k] :=
  List.find?_eq_some_iff_getElem.2 ⟨hx, k, hk, rfl, fun j hj => by rw [h j (by omega) hj]; rfl⟩
theorem and_oth {z w : Nat} (hz : z < 16) (hw : w < 16) : bitop .and .i64 (z : Int) (w : Int) = ((z &&& w : Nat) : Int) := by
  rw [and_ofm hz, ofm_in (by omega) (by omega), Int.toNat_natCast]
theorem dst_prev {E : Nat → Nat → Prop} {a b k : Nat} (h : dst E a b = k + 2) : ∃ c, dst E a c = k + 1 := by
  have h1 := dst_is (E := E) (a := a) (b := b) (by omega)
  rw [h] at h1
  obtain ⟨c, hw, he⟩ := Wk.unsnoc h1.2.1
  have h2 := dst_le (by omega) hw
  refine ⟨c, ?_⟩
  have h3 := dst_is h2.1
  have h4 := h1.2.2 (dst E a c + 1) (by omega) (h3.2.1.snoc he)
  omega
theorem dst_seq {E : Nat → Nat → Prop} {a : Nat} : ∀ (k b : Nat), dst E a b = k + 1 → ∃ l : List Nat, l.length = k + 1 ∧ l.Nodup ∧ ∀ c ∈ l, dst E a c ≠ 0 ∧ dst E a c ≤ k + 1
  | 0, b, h => by
    refine ⟨[b], rfl, by simp, fun c hc => ?_⟩
    rw [List.mem_singleton.1 hc]
    omega
  | k + 1, b, h => by
    obtain ⟨c, hc⟩ := dst_prev h
    obtain ⟨l, h1, h2, h3⟩ := dst_seq k c hc
    refine ⟨b :: l, by rw [List.length_cons, h1], List.nodup_cons.2 ⟨fun hm => ?_, h2⟩, fun d hd => ?_⟩
    · have := (h3 b hm).2; omega
    · rcases List.mem_cons.1 hd with rfl | hd
      · omega
      · have := h3 d hd; omega
theorem dst_bound {E : Nat → Nat → Prop} {n : Nat} (hE : ∀ x y, E x y → x < n ∧ y < n) (a b : Nat) : dst E a b ≤ n := by
  by_cases h0 : dst E a b = 0
  · omega
  · obtain ⟨l, h1, h2, h3⟩ := dst_seq (E := E) (a := a) (dst E a b - 1) b (by omega)
    have := nd_le2 (l := l) (k := List.range n) h2 fun c hc => List.mem_range.2 (dst_lt hE (h3 c hc).1).2
    rw [List.length_range] at this
    omega
theorem dsI_le {n : Nat} {Lb : Nat → Nat → Nat} (h : LbOk n Lb) (o a b : Int) : dsI n Lb o a b ≤ n := by
  have := dst_bound (EE.lt h (o := o)) a.toNat b.toNat
  unfold dsI dI
  split
  · split <;> omega
  · omega
theorem wk_mono {E E' : Nat → Nat → Prop} (h : ∀ a b, E a b → E' a b) : ∀ {k a b}, Wk E k a b → Wk E' k a b
  | 0, _, _, e => e
  | _ + 1, _, _, ⟨c, h1, h2⟩ => ⟨c, h _ _ h1, wk_mono h h2⟩
theorem or_two {L w o : Nat} (h : L &&& w ≠ 0 ∨ L &&& o ≠ 0) : L &&& (w ||| o) ≠ 0 := by
  rw [Nat.and_or_distrib_left]
  intro e
  have h2 := Nat.or_eq_zero_iff.1 e
  rcases h with h | h
  · exact h h2.1
  · exact h h2.2
theorem ee_nat {Lb : Nat → Nat → Nat} {o : Nat} (ho : o < 16) {a b : Nat} : EE Lb (o : Int) a b ↔ Lb a b &&& o ≠ 0 := by unfold EE; rw [ofm_in (by omega) (by omega), Int.toNat_natCast]
theorem no_cyc {n : Nat} {Lb : Nat → Nat → Nat} {w o : Nat} (hw : w < 16) (ho : o < 16) (h : ∀ k a, 1 ≤ k → ¬ Wk (EE Lb ((w ||| o : Nat) : Int)) k a a) {e : GE} (he : e ∈ edL n Lb n) : pX n Lb w o e = false := by
  obtain ⟨a, b, ha, hb, hn, rfl⟩ := ed_mem (Nat.le_refl n) he
  refine Bool.eq_false_iff.2 fun hp => ?_
  unfold pX at hp
  rw [Bool.and_eq_true] at hp
  have h1 := of_decide_eq_true hp.1
  have h2 := of_decide_eq_true hp.2
  have hwo : w ||| o < 16 := or_lt16 hw ho
  have h1 : Lb a b &&& w ≠ 0 := by have : (Lb a b : Int).toNat &&& w ≠ 0 := h1; rwa [Int.toNat_natCast] at this
  rcases dsI_pos (n := n) (Lb := Lb) (o := (o : Int)) (a := (b : Int)) (b := (a : Int)) with k1 | k1
  · have h2 : 0 ≤ dsI n Lb (o : Int) (b : Int) (a : Int) := h2
    omega
  · have h3 := k1.2.2.2
    rw [Int.toNat_natCast, Int.toNat_natCast] at h3
    have h4 := dst_is (E := EE Lb (o : Int)) (a := b) (b := a) (by omega)
    exact h _ a (Nat.succ_le_succ (Nat.zero_le _)) ⟨b, (ee_nat hwo).2 (or_two (.inl h1)), wk_mono (fun x y hxy => (ee_nat hwo).2 (or_two (.inr ((ee_nat ho).1 hxy)))) h4.2.1⟩
theorem and_lt16 {z w : Nat} (hz : z < 16) : z &&& w < 16 := Nat.lt_of_le_of_lt Nat.and_le_left hz


theorem short3_ok (base g n : Nat) (Lb : Nat → Nat → Nat) (w : World) (h : IsG w base g n Lb) (htab : Tab w) (hb0 : 0 < w.heap.size) (o a b : Int) : Sg.Ret Tryd.prog 22 #[.pointer (some ⟨g, 0, none⟩), .int .i64 o, .int .i64 a, .int .i64 b] w fun v w' =>
    ∃ p c, v = .slice p (shI n Lb o a b).length c ∧ p.isNone = decide (dsI n Lb o a b < 0) ∧ Sl w' v ((shI n Lb o a b).map (Value.int .i64)) ∧ dsI n Lb o a b ≤ n ∧ Ch0 w w' := by
  by_cases hneg : dsI n Lb o a b < 0
  · refine Ret.mono (short_out base g n Lb w h htab hb0 o a b hneg) fun v w' k => ?_
    have e : shI n Lb o a b = [] := by unfold shI; rw [if_pos hneg]
    rw [e, k.1]
    exact ⟨none, 0, rfl, (decide_eq_true hneg).symm, QRow.sl (QRow.nil (w := w') (base := 0) (e := 0)), by omega, k.2⟩
  · refine Ret.mono (short_ok base g n Lb w h htab hb0 o a b) fun v w' k => ?_
    obtain ⟨hs, hd, hc⟩ := k
    rcases hs with ⟨he, _⟩ | ⟨b9, o9, cap, cs, TT, fr, rfl, h1, h2, h3⟩
    · exfalso
      have : shI n Lb o a b ≠ [] := by unfold shI; rw [if_neg hneg]; simp
      exact this (List.map_eq_nil_iff.1 he)
    · exact ⟨_, _, by rw [List.length_map], by rw [decide_eq_false hneg]; rfl, .inr ⟨b9, o9, cap, cs, TT, fr, rfl, h1, h2, h3⟩, hd, hc⟩
theorem sh_len {n : Nat} {Lb : Nat → Nat → Nat} {o a b : Int} (h : ¬ dsI n Lb o a b < 0) : 2 ≤ (shI n Lb o a b).length := by
  unfold shI
  rw [if_neg h, List.length_map, List.length_cons, spath_len]
  rcases dsI_pos (n := n) (Lb := Lb) (o := o) (a := a) (b := b) with k1 | k1 <;> omega
theorem sl_int {w : World} {p : Option Addr} {c : Nat} {B : List Int} (h : Sl w (.slice p B.length c) (B.map (Value.int .i64))) {i : Nat} (hi : i < B.length) : ∃ b o cs TT fr, p = some ⟨b, o, none⟩ ∧ w.heap[b]? = some (.cells cs TT fr) ∧ ∀ j, j < B.length → cs[o + (j : Int).toNat * 1]? = some (.int .i64 (B.getD j 0)) := by
  rw [show B.length = (B.map (Value.int .i64)).length by simp] at h
  obtain ⟨b, o, cs, TT, fr, rfl, h1, h2⟩ := h.at (k := i) (by simpa using hi)
  refine ⟨b, o, cs, TT, fr, rfl, h1, fun j hj => ?_⟩
  rw [show o + (j : Int).toNat * 1 = o + j by omega, h2 j (by simpa using hj), List.getElem?_map, List.getElem?_eq_getElem hj, List.getD_eq_getElem?_getD, List.getElem?_eq_getElem hj]
  rfl

end Go.Proofs.YtnfkblboimkcjaaDoor
end

section
set_option linter.unusedVariables false
set_option linter.unusedSimpArgs false
set_option maxRecDepth 100000
namespace Go.Proofs.YtnfkblboimkcjaaDoor
open Go Go.RowKit Sg

def mtW (x : Gwy) (a b o : Int) : Bool := decide (x.1 = a) && decide (x.2.1 = b) && decide (x.2.2.1 = o)
theorem findW_eq (l : List Gwy) (a b o : Int) : findW l a b o = (l.find? fun x => mtW x a b o && !cnd x).or (l.find? fun x => mtW x a b o && cnd x) := by
  unfold findW stb zs os selW
  rw [List.head?_append, List.filter_filter, List.filter_filter, List.head?_filter, List.head?_filter]
  congr 1
  · congr 1; funext x; exact Bool.and_comm _ _
  · congr 1; funext x; exact Bool.and_comm _ _
/-- None so far. -/
def noW (l : List Gwy) (a b o : Int) (cc : Bool) (k : Nat) : Prop := ∀ i (h : i < l.length), i < k → (mtW l[i] a b o && (cnd l[i] == cc)) = false
theorem noW_find {l : List Gwy} {a b o : Int} {cc : Bool} {k : Nat} (h : noW l a b o cc k) (hk : k < l.length) (hx : (mtW l[k] a b o && (cnd l[k] == cc)) = true) : l.find? (fun x => mtW x a b o && (cnd x == cc)) = some l[k] :=
  List.find?_eq_some_iff_getElem.2 ⟨hx, k, hk, rfl, fun j hj => by rw [h j (by omega) hj]; rfl⟩
theorem noW_none {l : List Gwy} {a b o : Int} {cc : Bool} (h : noW l a b o cc l.length) : l.find? (fun x => mtW x a b o && (cnd x == cc)) = none :=
  List.find?_eq_none.2 fun x hx => by obtain ⟨i, hi, rfl⟩ := List.mem_iff_getElem.1 hx; rw [h i hi hi]; simp
theorem findW_eq2 (l : List Gwy) (a b o : Int) : findW l a b o = (l.find? fun x => mtW x a b o && (cnd x == false)).or (l.find? fun x => mtW x a b o && (cnd x == true)) := by
  rw [findW_eq]
  congr 1
  · congr 1; funext x; cases cnd x <;> rfl
  · congr 1; funext x; cases cnd x <;> rfl
theorem noW_succ {l : List Gwy} {a b o : Int} {cc : Bool} {k : Nat} (h : noW l a b o cc k) (hx : ∀ hk : k < l.length, (mtW l[k] a b o && (cnd l[k] == cc)) = false) : noW l a b o cc (k + 1) := fun i hi hk => by
  by_cases e : i = k
  · subst e; exact hx hi
  · exact h i hi (by omega)
set_option maxHeartbeats 1600000 in
theorem rfind_ok (A : Nat → Prop) (pa : Option Addr) (pc : Nat) (l : List Gwy) (a b o : Int) (w : World) (hl : RSl 8 (Rc fwy) A w (.slice pa l.length pc) l) (hm : l.length ≤ 1000000) :
  Sg.Ret Tryd.prog 28 #[.slice pa l.length pc, .int .i64 a, .int .i64 b, .int .i64 o] w fun v w' => v = .tuple #[.agg (fwy ((findW l a b o).getD zeroW)).toArray, .bool (findW l a b o).isSome] ∧ Ch0 w w' := by
 refine enterG (n := 52) (l := [.slice pa l.length pc, .int .i64 a, .int .i64 b, .int .i64 o]) Tryd.func28 rfl rfl rfl rfl ?_
 refine W.g4 0 1 2 3 (v1 := .slice pa l.length pc) (v2 := .int .i64 a) (v3 := .int .i64 b) (v4 := .int .i64 o) rfl rfl rfl rfl ?_; intro σ s0 s1 s2 s3
 refine W.seq ?_
 refine W.region ?_
 refine WL.alloc el27 rfl ?_
 intro w1 u0_0; have hu0_0 := u0_0.at_; have cu0_0 := u0_0.ch; have zu0_0 := u0_0.size
 refine WL.x (X.asg lc) rfl ?_
 refine WL.e5 Nx.thn 0 1 2 3 8 (jt2 rfl (s0)) (jt2 rfl (s1)) (jt2 rfl (s2)) (jt2 rfl (s3)) (lt rfl (lh)) ?_
 intro σ1 s0 s1 s2 s3 s8
 refine W.seq ?_
 refine W.seq ?_
 refine W.region ?_
 refine WL.bslice Tryd.underlying93 el4 rfl (pcons lc (pcons lc pnil)) rfl (rfl : _ = [_, _]) rfl ?_
 intro w2 u1; have hbb := u1.at_; have cub := u1.ch; have zub := u1.size
 have hz8 := cub.at0 hu0_0
 have hcl := cu0_0.trans0 cub
 refine WL.x (X.lenSl Tryd.underlying93 (lh)) rfl ?_
 refine WL.x (X.mv lc) rfl ?_
 refine WL.e8 Nx.thn 0 1 2 3 8 14 15 16 (jt2 rfl (lt rfl (s0))) (jt2 rfl (lt rfl (s1))) (jt2 rfl (lt rfl (s2))) (jt2 rfl (lt rfl (s3))) (jt2 rfl (lt rfl (s8))) (jt2 rfl (lh)) (lt rfl (lh)) (lh) ?_
 intro σ2 s0 s1 s2 s3 s8 s14 s15 s16
 refine W.block ?_
 have qo1 := s0
 have qo2 := s1
 have qo3 := s2
 have qo4 := s3
 have qo5 := s8
 have qo6 := s14
 have qo7 := s15
 -- loop 0: kept [0, 1, 2, 3, 8, 14, 15], varied [16]
 refine W.loop (G := Nat) (fun e σ' w' => (σ' 0 = σ2 0 ∧ σ' 1 = σ2 1 ∧ σ' 2 = σ2 2 ∧ σ' 3 = σ2 3 ∧ σ' 8 = σ2 8 ∧ σ' 14 = σ2 14 ∧ σ' 15 = σ2 15 ∧ True) ∧ (σ' 16 = .int .i64 (e : Int) ∧ e ≤ 2 ∧ (0 < e → noW l a b o false l.length) ∧ (1 < e → noW l a b o true l.length) ∧ (w').heap[w1.heap.size]? = some (.cells #[.bool false, .bool true] 4 (0, 0)) ∧ (w').heap[w.heap.size]? = some (.cells (fwy zeroW).toArray 27 (0, 0)) ∧ Ch0 w w')) (fun e => 2 - e) (0) ⟨⟨rfl, rfl, rfl, rfl, rfl, rfl, rfl, trivial⟩, s16, by omega, (fun h => absurd h (by omega)), (fun h => absurd h (by omega)), hbb, hz8, hcl⟩ ?_
 rintro e σ3 w3 ⟨⟨f0, f1, f2, f3, f8, f14, f15, _⟩, s16, he, hn0, hn1, hbb, hz8, hcl⟩
 have s0 := f0.trans qo1
 have s1 := f1.trans qo2
 have s2 := f2.trans qo3
 have s3 := f3.trans qo4
 have s8 := f8.trans qo5
 have s14 := f14.trans qo6
 have s15 := f15.trans qo7
 refine W.seq ?_
 refine W.region ?_
 refine WL.x (X.lss (s16) (s15)) rfl ?_
 refine WL.e9 Nx.thn 0 1 2 3 8 14 15 16 17 (lt rfl (s0)) (lt rfl (s1)) (lt rfl (s2)) (lt rfl (s3)) (lt rfl (s8)) (lt rfl (s14)) (lt rfl (s15)) (lt rfl (s16)) (lh) ?_
 intro σ4 s0 s1 s2 s3 s8 s14 s15 s16 s17
 refine W.seq ?_
 refine W.cndp s17 (fun hlt => ?_) (fun hlt => ?_)
 ·
  obtain ⟨cc, hcc⟩ : ∃ cc : Bool, (#[Value.bool false, .bool true] : Array Value)[0 + (e : Int).toNat * 1]? = some (.bool cc) ∧ (e = 0 → cc = false) ∧ (e = 1 → cc = true) := by
    have : e = 0 ∨ e = 1 := by omega
    rcases this with rfl | rfl
    · exact ⟨false, rfl, (fun _ => rfl), (fun h => by cases h)⟩
    · exact ⟨true, rfl, (fun h => by cases h), (fun _ => rfl)⟩
  refine W.skip Nx.thn ?_
  refine W.seq ?_
  refine W.block ?_
  refine W.seq ?_
  refine W.region ?_
  refine WL.x (X.indexAddr Tryd.underlying93 el4 (s14) (s16) (by omega) (by omega)) rfl ?_
  refine WL.x (X.load pl4 (lh) hbb (v := .bool cc) hcc.1) rfl ?_
  refine WL.x (X.asg (lh)) rfl ?_
  refine WL.e9 Nx.thn 0 1 2 3 8 11 14 15 16 (jt2 rfl (lt rfl (s0))) (jt2 rfl (lt rfl (s1))) (jt2 rfl (lt rfl (s2))) (jt2 rfl (lt rfl (s3))) (jt2 rfl (lt rfl (s8))) (lh) (jt2 rfl (lt rfl (s14))) (jt2 rfl (lt rfl (s15))) (jt2 rfl (lt rfl (s16))) ?_
  intro σ5 s0 s1 s2 s3 s8 s11 s14 s15 s16
  refine W.seq ?_
  refine W.region ?_
  refine WL.x (X.mv (s0)) rfl ?_
  refine WL.x (X.lenSl Tryd.underlying22 (lh)) rfl ?_
  refine WL.x (X.mv lc) rfl ?_
  refine WL.e12 Nx.thn 0 1 2 3 8 11 14 15 16 20 21 22 (jt2 rfl (lt rfl (s0))) (jt2 rfl (lt rfl (s1))) (jt2 rfl (lt rfl (s2))) (jt2 rfl (lt rfl (s3))) (jt2 rfl (lt rfl (s8))) (jt2 rfl (lt rfl (s11))) (jt2 rfl (lt rfl (s14))) (jt2 rfl (lt rfl (s15))) (jt2 rfl (lt rfl (s16))) (jt2 rfl (lh)) (lt rfl (lh)) (lh) ?_
  intro σ6 s0 s1 s2 s3 s8 s11 s14 s15 s16 s20 s21 s22
  refine W.block ?_
  have qo8 := s0
  have qo9 := s1
  have qo10 := s2
  have qo11 := s3
  have qo12 := s8
  have qo13 := s11
  have qo14 := s14
  have qo15 := s15
  have qo16 := s16
  have qo17 := s20
  have qo18 := s21
  -- loop 1: kept [0, 1, 2, 3, 8, 11, 14, 15, 16, 20, 21], varied [22]
  refine W.loop (G := Nat) (fun k σ' w' => (σ' 0 = σ6 0 ∧ σ' 1 = σ6 1 ∧ σ' 2 = σ6 2 ∧ σ' 3 = σ6 3 ∧ σ' 8 = σ6 8 ∧ σ' 11 = σ6 11 ∧ σ' 14 = σ6 14 ∧ σ' 15 = σ6 15 ∧ σ' 16 = σ6 16 ∧ σ' 20 = σ6 20 ∧ σ' 21 = σ6 21 ∧ True) ∧ (σ' 22 = .int .i64 (k : Int) ∧ k ≤ l.length ∧ noW l a b o cc k ∧ (w').heap[w1.heap.size]? = some (.cells #[.bool false, .bool true] 4 (0, 0)) ∧ (w').heap[w.heap.size]? = some (.cells (fwy zeroW).toArray 27 (0, 0)) ∧ Ch0 w w')) (fun k => l.length - k) (0) ⟨⟨rfl, rfl, rfl, rfl, rfl, rfl, rfl, rfl, rfl, rfl, rfl, trivial⟩, s22, by omega, (fun i _ h => absurd h (by omega)), hbb, hz8, hcl⟩ ?_
  rintro k σ7 w4 ⟨⟨f0, f1, f2, f3, f8, f11, f14, f15, f16, f20, f21, _⟩, s22, hk, hno, hbb, hz8, hcl⟩
  have s0 := f0.trans qo8
  have s1 := f1.trans qo9
  have s2 := f2.trans qo10
  have s3 := f3.trans qo11
  have s8 := f8.trans qo12
  have s11 := f11.trans qo13
  have s14 := f14.trans qo14
  have s15 := f15.trans qo15
  have s16 := f16.trans qo16
  have s20 := f20.trans qo17
  have s21 := f21.trans qo18
  have hzz := lt_of_blk hz8
  refine W.seq ?_
  refine W.region ?_
  refine WL.x (X.lss (s22) (s21)) rfl ?_
  refine WL.e13 Nx.thn 0 1 2 3 8 11 14 15 16 20 21 22 23 (lt rfl (s0)) (lt rfl (s1)) (lt rfl (s2)) (lt rfl (s3)) (lt rfl (s8)) (lt rfl (s11)) (lt rfl (s14)) (lt rfl (s15)) (lt rfl (s16)) (lt rfl (s20)) (lt rfl (s21)) (lt rfl (s22)) (lh) ?_
  intro σ8 s0 s1 s2 s3 s8 s11 s14 s15 s16 s20 s21 s22 s23
  refine W.seq ?_
  refine W.cndp s23 (fun hlt2 => ?_) (fun hlt2 => ?_)
  ·
   have hkl : k < l.length := by omega
   obtain ⟨lb, lo, lcs, lT, lfr, rfl, hlm, hle9, -, hlc⟩ := hl.get (k := k) hkl
   obtain ⟨x, hx⟩ : ∃ x, l[k] = x := ⟨_, rfl⟩
   rw [hx] at hlc
   refine W.skip Nx.thn ?_
   refine W.seq ?_
   refine W.block ?_
   refine W.seq ?_
   refine W.region ?_
   refine WL.x (X.indexAddr Tryd.underlying22 el27 (s20) (s22) (by omega) (by omega)) rfl ?_
   refine WL.x (X.loadS (vs := fwy x) ag27 (lh) (hcl.at0 hlm) rfl hlc) rfl ?_
   refine WL.alloc el27 rfl ?_
   intro w5 u6_2; have hu6_2 := u6_2.at_; have cu6_2 := u6_2.ch; have zu6_2 := u6_2.size
   refine WL.storeS ag27 (lh) (lt rfl (lh)) (List.all_eq_true.2 (fwy_one x)) rfl hu6_2 (by decide) ?_
   intro w6 us; have cst := us.ch
   have hkb : w6.heap[w4.heap.size]? = some (.cells (fwy x).toArray 27 (0, 0)) := us.at_
   have cku : Ch0 w4 w6 := cu6_2.trans cst (fun _ _ e => e) (fun i hi e => by (try dsimp only at e); omega)
   have hz8 := cku.at0 hz8
   have hbb := cku.at0 hbb
   have hcl := hcl.trans0 cku
   refine WL.e13 Nx.thn 0 1 2 3 8 11 13 14 15 16 20 21 22 (jt2 rfl (lt rfl (s0))) (jt2 rfl (lt rfl (s1))) (jt2 rfl (lt rfl (s2))) (jt2 rfl (lt rfl (s3))) (jt2 rfl (lt rfl (s8))) (jt2 rfl (lt rfl (s11))) (lh) (jt2 rfl (lt rfl (s14))) (jt2 rfl (lt rfl (s15))) (jt2 rfl (lt rfl (s16))) (jt2 rfl (lt rfl (s20))) (jt2 rfl (lt rfl (s21))) (jt2 rfl (lt rfl (s22))) ?_
   intro σ9 s0 s1 s2 s3 s8 s11 s13 s14 s15 s16 s20 s21 s22
   refine W.seq ?_
   refine W.region ?_
   refine WL.x (X.fieldAddr fd27_0 (s13)) rfl ?_
   refine WL.x (X.load pl3 (lh) hkb (v := .int .i64 x.1) rfl) rfl ?_
   refine WL.x (X.mv (jt2 rfl (s1))) rfl ?_
   refine WL.x (X.eql (lt rfl (lh)) (lh)) rfl ?_
   refine WL.x (X.mv (lh)) rfl ?_
   refine WL.splitp (lh) (fun q1 => ?_) (fun q1 => ?_)
   ·
    refine WL.yes rfl rfl (lh) (decide_eq_true q1) ?_
    refine WL.x (X.fieldAddr fd27_1 (jt4 rfl (lt rfl (s13)))) rfl ?_
    refine WL.yes rfl rfl (lt rfl (lh)) (decide_eq_true q1) ?_
    refine WL.x (X.load pl3 (lh) hkb (v := .int .i64 x.2.1) rfl) rfl ?_
    refine WL.yes rfl rfl (jt2 rfl (lh)) (decide_eq_true q1) ?_
    refine WL.x (X.mv (jt4 rfl (jt2 rfl (lt rfl (s2))))) rfl ?_
    refine WL.yes rfl rfl (jt2 rfl (lt rfl (lh))) (decide_eq_true q1) ?_
    refine WL.x (X.eql (lt rfl (lh)) (lh)) rfl ?_
    refine WL.x (X.pickT (jt4 rfl (lh)) (decide_eq_true q1) (lh)) rfl ?_
    refine WL.x (X.mv (lh)) rfl ?_
    refine WL.splitp (lh) (fun q2 => ?_) (fun q2 => ?_)
    ·
     refine WL.yes rfl rfl (lh) (decide_eq_true q2) ?_
     refine WL.x (X.fieldAddr fd27_2 (jt8 rfl (jt2 rfl (lt rfl (s13))))) rfl ?_
     refine WL.yes rfl rfl (lt rfl (lh)) (decide_eq_true q2) ?_
     refine WL.x (X.load pl3 (lh) hkb (v := .int .i64 x.2.2.1) rfl) rfl ?_
     refine WL.yes rfl rfl (jt2 rfl (lh)) (decide_eq_true q2) ?_
     refine WL.x (X.mv (jt8 rfl (jt4 rfl (lt rfl (s3))))) rfl ?_
     refine WL.yes rfl rfl (jt2 rfl (lt rfl (lh))) (decide_eq_true q2) ?_
     refine WL.x (X.eql (lt rfl (lh)) (lh)) rfl ?_
     refine WL.x (X.pickT (jt4 rfl (lh)) (decide_eq_true q2) (lh)) rfl ?_
     refine WL.x (X.mv (lh)) rfl ?_
     refine WL.splitp (lh) (fun q3 => ?_) (fun q3 => ?_)
     ·
      refine WL.yes rfl rfl (lh) (decide_eq_true q3) ?_
      refine WL.x (X.fieldAddr fd27_7 (jt8 rfl (jt8 rfl (lt rfl (s13))))) rfl ?_
      refine WL.yes rfl rfl (lt rfl (lh)) (decide_eq_true q3) ?_
      refine WL.x (X.load pl4 (lh) hkb (v := .bool (cnd x)) rfl) rfl ?_
      refine WL.yes rfl rfl (jt2 rfl (lh)) (decide_eq_true q3) ?_
      refine WL.x (X.mv (jt8 rfl (jt8 rfl (jt2 rfl (lt rfl (s11)))))) rfl ?_
      refine WL.yes rfl rfl (jt2 rfl (lt rfl (lh))) (decide_eq_true q3) ?_
      refine WL.x (X.eqlB Tryd.underlying4 (lt rfl (lh)) (lh)) rfl ?_
      refine WL.x (X.pickT (jt4 rfl (lh)) (decide_eq_true q3) (lh)) rfl ?_
      refine WL.e14 Nx.thn 0 1 2 3 8 11 13 14 15 16 20 21 22 47 (jt8 rfl (jt8 rfl (jt4 rfl (jt2 rfl (s0))))) (jt8 rfl (jt8 rfl (jt4 rfl (jt2 rfl (s1))))) (jt8 rfl (jt8 rfl (jt4 rfl (jt2 rfl (s2))))) (jt8 rfl (jt8 rfl (jt4 rfl (jt2 rfl (s3))))) (jt8 rfl (jt8 rfl (jt4 rfl (jt2 rfl (s8))))) (jt8 rfl (jt8 rfl (jt4 rfl (jt2 rfl (s11))))) (jt8 rfl (jt8 rfl (jt4 rfl (jt2 rfl (s13))))) (jt8 rfl (jt8 rfl (jt4 rfl (jt2 rfl (s14))))) (jt8 rfl (jt8 rfl (jt4 rfl (jt2 rfl (s15))))) (jt8 rfl (jt8 rfl (jt4 rfl (jt2 rfl (s16))))) (jt8 rfl (jt8 rfl (jt4 rfl (jt2 rfl (s20))))) (jt8 rfl (jt8 rfl (jt4 rfl (jt2 rfl (s21))))) (jt8 rfl (jt8 rfl (jt4 rfl (jt2 rfl (s22))))) (lh) ?_
      intro σ10 s0 s1 s2 s3 s8 s11 s13 s14 s15 s16 s20 s21 s22 s47
      refine W.cndp s47 (fun q4 => ?_) (fun q4 => ?_)
      ·
       have hmt : (mtW l[k] a b o && (cnd l[k] == cc)) = true := by rw [hx]; unfold mtW; rw [decide_eq_true q1, decide_eq_true q2, decide_eq_true q3]; simpa using q4
       refine W.seq ?_
       refine W.region ?_
       refine WL.x (X.loadBox (vs := fwy x) ag27 (s13) hkb rfl) rfl ?_
       refine WL.storeS (vs := fwy x) ag27 (lt rfl (s8)) (lh) (List.all_eq_true.2 (fwy_one _)) rfl hz8 (by decide) ?_
       intro w7 us9; have cst9 := us9.ch
       have hres : w7.heap[w.heap.size]? = some (.cells (fwy x).toArray 27 (0, 0)) := us9.at_
       have hclr := hcl.trans cst9 (H := fun _ => False) (fun _ _ e => e) (fun i hi e => by (try dsimp only at e); omega)
       refine WL.x (X.asg lc) rfl ?_
       refine WL.e2 Nx.thn 8 9 (jt2 rfl (s8)) (lh) ?_
       intro σ11 s8 s9
       refine W.retG (Nx.rblk (Nx.rthn (Nx.rthn (Nx.rblk (Nx.rblk (Nx.rthn (Nx.rthn (Nx.rblk (Nx.rthn Nx.fG))))))))) ⟨[_, _], (.cell s8 (by assumption) (by exact ag27) (.tmp s9 .nil)), ?_⟩
       have hfw : findW l a b o = some l[k] := by
         rw [findW_eq2]
         have he01 : e = 0 ∨ e = 1 := by omega
         rcases he01 with h7 | h7
         · have h9 := hcc.2.1 h7
           subst h9
           rw [noW_find hno hkl hmt]; rfl
         · have h9 := hcc.2.2 h7
           subst h9
           rw [noW_none (hn0 (by omega)), noW_find hno hkl hmt]; rfl
       rw [hfw, hx]
       exact ⟨rfl, hclr⟩
      ·
       refine W.skip (Nx.blk Nx.thn) ?_
       refine W.region ?_
       refine WL.x (X.add (s22) lc (by omega) (by omega)) rfl ?_
       refine WL.x (X.mv (lh)) rfl ?_
       refine WL.e12 Nx.thn 0 1 2 3 8 11 14 15 16 20 21 22 (jt2 rfl (s0)) (jt2 rfl (s1)) (jt2 rfl (s2)) (jt2 rfl (s3)) (jt2 rfl (s8)) (jt2 rfl (s11)) (jt2 rfl (s14)) (jt2 rfl (s15)) (jt2 rfl (s16)) (jt2 rfl (s20)) (jt2 rfl (s21)) (lh) ?_
       intro σ12 s0 s1 s2 s3 s8 s11 s14 s15 s16 s20 s21 s22
       refine ⟨k + 1, by omega, ⟨s0.trans qo8.symm, s1.trans qo9.symm, s2.trans qo10.symm, s3.trans qo11.symm, s8.trans qo12.symm, s11.trans qo13.symm, s14.trans qo14.symm, s15.trans qo15.symm, s16.trans qo16.symm, s20.trans qo17.symm, s21.trans qo18.symm, trivial⟩, s22, by omega, (noW_succ hno fun _ => by rw [hx]; unfold mtW; (simp [q4]; done)), hbb, hz8, hcl⟩
     ·
      refine WL.no rfl rfl (lh) (decide_eq_false q3) rfl ?_
      refine WL.no rfl rfl (lt rfl (lh)) (decide_eq_false q3) rfl ?_
      refine WL.no rfl rfl (jt2 rfl (lh)) (decide_eq_false q3) rfl ?_
      refine WL.no rfl rfl (jt2 rfl (lt rfl (lh))) (decide_eq_false q3) rfl ?_
      refine WL.x (X.pickF (jt4 rfl (lh)) (decide_eq_false q3) lc) rfl ?_
      refine WL.e14 Nx.thn 0 1 2 3 8 11 13 14 15 16 20 21 22 47 (jt8 rfl (jt8 rfl (jt4 rfl (jt2 rfl (s0))))) (jt8 rfl (jt8 rfl (jt4 rfl (jt2 rfl (s1))))) (jt8 rfl (jt8 rfl (jt4 rfl (jt2 rfl (s2))))) (jt8 rfl (jt8 rfl (jt4 rfl (jt2 rfl (s3))))) (jt8 rfl (jt8 rfl (jt4 rfl (jt2 rfl (s8))))) (jt8 rfl (jt8 rfl (jt4 rfl (jt2 rfl (s11))))) (jt8 rfl (jt8 rfl (jt4 rfl (jt2 rfl (s13))))) (jt8 rfl (jt8 rfl (jt4 rfl (jt2 rfl (s14))))) (jt8 rfl (jt8 rfl (jt4 rfl (jt2 rfl (s15))))) (jt8 rfl (jt8 rfl (jt4 rfl (jt2 rfl (s16))))) (jt8 rfl (jt8 rfl (jt4 rfl (jt2 rfl (s20))))) (jt8 rfl (jt8 rfl (jt4 rfl (jt2 rfl (s21))))) (jt8 rfl (jt8 rfl (jt4 rfl (jt2 rfl (s22))))) (lh) ?_
      intro σ13 s0 s1 s2 s3 s8 s11 s13 s14 s15 s16 s20 s21 s22 s47
      refine W.cndF s47 ?_
      refine W.skip (Nx.blk Nx.thn) ?_
      refine W.region ?_
      refine WL.x (X.add (s22) lc (by omega) (by omega)) rfl ?_
      refine WL.x (X.mv (lh)) rfl ?_
      refine WL.e12 Nx.thn 0 1 2 3 8 11 14 15 16 20 21 22 (jt2 rfl (s0)) (jt2 rfl (s1)) (jt2 rfl (s2)) (jt2 rfl (s3)) (jt2 rfl (s8)) (jt2 rfl (s11)) (jt2 rfl (s14)) (jt2 rfl (s15)) (jt2 rfl (s16)) (jt2 rfl (s20)) (jt2 rfl (s21)) (lh) ?_
      intro σ14 s0 s1 s2 s3 s8 s11 s14 s15 s16 s20 s21 s22
      refine ⟨k + 1, by omega, ⟨s0.trans qo8.symm, s1.trans qo9.symm, s2.trans qo10.symm, s3.trans qo11.symm, s8.trans qo12.symm, s11.trans qo13.symm, s14.trans qo14.symm, s15.trans qo15.symm, s16.trans qo16.symm, s20.trans qo17.symm, s21.trans qo18.symm, trivial⟩, s22, by omega, (noW_succ hno fun _ => by rw [hx]; unfold mtW; (simp [q3]; done)), hbb, hz8, hcl⟩
    ·
     refine WL.no rfl rfl (lh) (decide_eq_false q2) rfl ?_
     refine WL.no rfl rfl (lt rfl (lh)) (decide_eq_false q2) rfl ?_
     refine WL.no rfl rfl (jt2 rfl (lh)) (decide_eq_false q2) rfl ?_
     refine WL.no rfl rfl (jt2 rfl (lt rfl (lh))) (decide_eq_false q2) rfl ?_
     refine WL.x (X.pickF (jt4 rfl (lh)) (decide_eq_false q2) lc) rfl ?_
     refine WL.x (X.mv (lh)) rfl ?_
     refine WL.no rfl rfl (lh) rfl rfl ?_
     refine WL.no rfl rfl (lt rfl (lh)) rfl rfl ?_
     refine WL.no rfl rfl (jt2 rfl (lh)) rfl rfl ?_
     refine WL.no rfl rfl (jt2 rfl (lt rfl (lh))) rfl rfl ?_
     refine WL.x (X.pickF (jt4 rfl (lh)) rfl lc) rfl ?_
     refine WL.e14 Nx.thn 0 1 2 3 8 11 13 14 15 16 20 21 22 47 (jt8 rfl (jt8 rfl (jt4 rfl (jt2 rfl (s0))))) (jt8 rfl (jt8 rfl (jt4 rfl (jt2 rfl (s1))))) (jt8 rfl (jt8 rfl (jt4 rfl (jt2 rfl (s2))))) (jt8 rfl (jt8 rfl (jt4 rfl (jt2 rfl (s3))))) (jt8 rfl (jt8 rfl (jt4 rfl (jt2 rfl (s8))))) (jt8 rfl (jt8 rfl (jt4 rfl (jt2 rfl (s11))))) (jt8 rfl (jt8 rfl (jt4 rfl (jt2 rfl (s13))))) (jt8 rfl (jt8 rfl (jt4 rfl (jt2 rfl (s14))))) (jt8 rfl (jt8 rfl (jt4 rfl (jt2 rfl (s15))))) (jt8 rfl (jt8 rfl (jt4 rfl (jt2 rfl (s16))))) (jt8 rfl (jt8 rfl (jt4 rfl (jt2 rfl (s20))))) (jt8 rfl (jt8 rfl (jt4 rfl (jt2 rfl (s21))))) (jt8 rfl (jt8 rfl (jt4 rfl (jt2 rfl (s22))))) (lh) ?_
     intro σ15 s0 s1 s2 s3 s8 s11 s13 s14 s15 s16 s20 s21 s22 s47
     refine W.cndF s47 ?_
     refine W.skip (Nx.blk Nx.thn) ?_
     refine W.region ?_
     refine WL.x (X.add (s22) lc (by omega) (by omega)) rfl ?_
     refine WL.x (X.mv (lh)) rfl ?_
     refine WL.e12 Nx.thn 0 1 2 3 8 11 14 15 16 20 21 22 (jt2 rfl (s0)) (jt2 rfl (s1)) (jt2 rfl (s2)) (jt2 rfl (s3)) (jt2 rfl (s8)) (jt2 rfl (s11)) (jt2 rfl (s14)) (jt2 rfl (s15)) (jt2 rfl (s16)) (jt2 rfl (s20)) (jt2 rfl (s21)) (lh) ?_
     intro σ16 s0 s1 s2 s3 s8 s11 s14 s15 s16 s20 s21 s22
     refine ⟨k + 1, by omega, ⟨s0.trans qo8.symm, s1.trans qo9.symm, s2.trans qo10.symm, s3.trans qo11.symm, s8.trans qo12.symm, s11.trans qo13.symm, s14.trans qo14.symm, s15.trans qo15.symm, s16.trans qo16.symm, s20.trans qo17.symm, s21.trans qo18.symm, trivial⟩, s22, by omega, (noW_succ hno fun _ => by rw [hx]; unfold mtW; (simp [q2]; done)), hbb, hz8, hcl⟩
   ·
    refine WL.no rfl rfl (lh) (decide_eq_false q1) rfl ?_
    refine WL.no rfl rfl (lt rfl (lh)) (decide_eq_false q1) rfl ?_
    refine WL.no rfl rfl (jt2 rfl (lh)) (decide_eq_false q1) rfl ?_
    refine WL.no rfl rfl (jt2 rfl (lt rfl (lh))) (decide_eq_false q1) rfl ?_
    refine WL.x (X.pickF (jt4 rfl (lh)) (decide_eq_false q1) lc) rfl ?_
    refine WL.x (X.mv (lh)) rfl ?_
    refine WL.no rfl rfl (lh) rfl rfl ?_
    refine WL.no rfl rfl (lt rfl (lh)) rfl rfl ?_
    refine WL.no rfl rfl (jt2 rfl (lh)) rfl rfl ?_
    refine WL.no rfl rfl (jt2 rfl (lt rfl (lh))) rfl rfl ?_
    refine WL.x (X.pickF (jt4 rfl (lh)) rfl lc) rfl ?_
    refine WL.x (X.mv (lh)) rfl ?_
    refine WL.no rfl rfl (lh) rfl rfl ?_
    refine WL.no rfl rfl (lt rfl (lh)) rfl rfl ?_
    refine WL.no rfl rfl (jt2 rfl (lh)) rfl rfl ?_
    refine WL.no rfl rfl (jt2 rfl (lt rfl (lh))) rfl rfl ?_
    refine WL.x (X.pickF (jt4 rfl (lh)) rfl lc) rfl ?_
    refine WL.e14 Nx.thn 0 1 2 3 8 11 13 14 15 16 20 21 22 47 (jt8 rfl (jt8 rfl (jt4 rfl (jt2 rfl (s0))))) (jt8 rfl (jt8 rfl (jt4 rfl (jt2 rfl (s1))))) (jt8 rfl (jt8 rfl (jt4 rfl (jt2 rfl (s2))))) (jt8 rfl (jt8 rfl (jt4 rfl (jt2 rfl (s3))))) (jt8 rfl (jt8 rfl (jt4 rfl (jt2 rfl (s8))))) (jt8 rfl (jt8 rfl (jt4 rfl (jt2 rfl (s11))))) (jt8 rfl (jt8 rfl (jt4 rfl (jt2 rfl (s13))))) (jt8 rfl (jt8 rfl (jt4 rfl (jt2 rfl (s14))))) (jt8 rfl (jt8 rfl (jt4 rfl (jt2 rfl (s15))))) (jt8 rfl (jt8 rfl (jt4 rfl (jt2 rfl (s16))))) (jt8 rfl (jt8 rfl (jt4 rfl (jt2 rfl (s20))))) (jt8 rfl (jt8 rfl (jt4 rfl (jt2 rfl (s21))))) (jt8 rfl (jt8 rfl (jt4 rfl (jt2 rfl (s22))))) (lh) ?_
    intro σ17 s0 s1 s2 s3 s8 s11 s13 s14 s15 s16 s20 s21 s22 s47
    refine W.cndF s47 ?_
    refine W.skip (Nx.blk Nx.thn) ?_
    refine W.region ?_
    refine WL.x (X.add (s22) lc (by omega) (by omega)) rfl ?_
    refine WL.x (X.mv (lh)) rfl ?_
    refine WL.e12 Nx.thn 0 1 2 3 8 11 14 15 16 20 21 22 (jt2 rfl (s0)) (jt2 rfl (s1)) (jt2 rfl (s2)) (jt2 rfl (s3)) (jt2 rfl (s8)) (jt2 rfl (s11)) (jt2 rfl (s14)) (jt2 rfl (s15)) (jt2 rfl (s16)) (jt2 rfl (s20)) (jt2 rfl (s21)) (lh) ?_
    intro σ18 s0 s1 s2 s3 s8 s11 s14 s15 s16 s20 s21 s22
    refine ⟨k + 1, by omega, ⟨s0.trans qo8.symm, s1.trans qo9.symm, s2.trans qo10.symm, s3.trans qo11.symm, s8.trans qo12.symm, s11.trans qo13.symm, s14.trans qo14.symm, s15.trans qo15.symm, s16.trans qo16.symm, s20.trans qo17.symm, s21.trans qo18.symm, trivial⟩, s22, by omega, (noW_succ hno fun _ => by rw [hx]; unfold mtW; (simp [q1]; done)), hbb, hz8, hcl⟩
  ·
   have hkL : k = l.length := by omega
   subst hkL
   refine W.exit (Nx.xthn (Nx.xthn (Nx.xblk (Nx.blk Nx.thn)))) ?_
   refine W.region ?_
   refine WL.x (X.add (s16) lc (by omega) (by omega)) rfl ?_
   refine WL.x (X.mv (lh)) rfl ?_
   refine WL.e8 Nx.thn 0 1 2 3 8 14 15 16 (jt2 rfl (s0)) (jt2 rfl (s1)) (jt2 rfl (s2)) (jt2 rfl (s3)) (jt2 rfl (s8)) (jt2 rfl (s14)) (jt2 rfl (s15)) (lh) ?_
   intro σ19 s0 s1 s2 s3 s8 s14 s15 s16
   refine ⟨e + 1, by omega, ⟨s0.trans qo1.symm, s1.trans qo2.symm, s2.trans qo3.symm, s3.trans qo4.symm, s8.trans qo5.symm, s14.trans qo6.symm, s15.trans qo7.symm, trivial⟩, s16, by omega, (fun _ => by by_cases h9 : e = 0; (· have h8 := hcc.2.1 h9; subst h8; exact hno); (· exact hn0 (by omega))), (fun h => by have h9 : e = 1 := (by omega); have h8 := hcc.2.2 h9; subst h8; exact hno), hbb, hz8, hcl⟩
 ·
  refine W.exit (Nx.xthn (Nx.xthn (Nx.xblk Nx.thn))) ?_
  refine W.seq ?_
  refine W.region ?_
  refine WL.x (X.build bd27 pnil rfl (rfl : _ = [_, _, _, _, _, _, _, _])) rfl ?_
  refine WL.storeS (vs := fwy zeroW) ag27 (lt rfl (s8)) (lh) (List.all_eq_true.2 (fwy_one _)) rfl hz8 (by decide) ?_
  intro w8 us9; have cst9 := us9.ch
  have hres : w8.heap[w.heap.size]? = some (.cells (fwy zeroW).toArray 27 (0, 0)) := us9.at_
  have hclr := hcl.trans cst9 (H := fun _ => False) (fun _ _ e => e) (fun i hi e => by (try dsimp only at e); omega)
  refine WL.x (X.asg lc) rfl ?_
  refine WL.e2 Nx.thn 8 9 (jt2 rfl (s8)) (lh) ?_
  intro σ20 s8 s9
  refine W.retG Nx.fG ⟨[_, _], (.cell s8 (by assumption) (by exact ag27) (.tmp s9 .nil)), ?_⟩
  have hfw : findW l a b o = none := by rw [findW_eq2, noW_none (hn0 (by omega)), noW_none (hn1 (by omega))]; rfl
  rw [hfw]
  exact ⟨rfl, hclr⟩
end Go.Proofs.YtnfkblboimkcjaaDoor
end

section
set_option linter.unusedVariables false
set_option linter.unusedSimpArgs false
set_option maxRecDepth 100000
namespace Go.Proofs.YtnfkblboimkcjaaDoor
open Go Go.RowKit Sg
set_option maxHeartbeats 3200000 in
theorem rcfind_out (A : Nat → Prop) (n : Int) (pa : Option Addr) (pc : Nat) (l : List Gwy) (k : Int) (r : Bool) (w : World) (hl : RSl 8 (Rc fwy) A w (.slice pa l.length pc) l) (hm : l.length ≤ 1000000) (hG : ¬ okG n l) :
  Sg.Ret Tryd.prog 8 #[.int .i64 n, .slice pa l.length pc, .int .i64 k, .bool r] w fun v w' => ∃ vl, v = .tuple #[vl, .bool (findC n l k r).isSome] ∧ OwnF 8 fwy w' w.heap.size 27 vl ((findC n l k r).getD []) ∧ Ch0 w w' := by
 refine enter2 (n := 129) (l := [.int .i64 n, .slice pa l.length pc, .int .i64 k, .bool r]) Tryd.func8 rfl rfl rfl rfl ?_
 refine W.g4 0 1 2 3 (v1 := .int .i64 n) (v2 := .slice pa l.length pc) (v3 := .int .i64 k) (v4 := .bool r) rfl rfl rfl rfl ?_; intro σ s0 s1 s2 s3
 refine W.seq ?_
 refine W.region ?_
 refine WL.x (X.asg lc) rfl ?_
 refine WL.x (X.asg lc) rfl ?_
 refine WL.e4 Nx.thn 0 1 2 3 (jt2 rfl (s0)) (jt2 rfl (s1)) (jt2 rfl (s2)) (jt2 rfl (s3)) ?_
 intro σ1 s0 s1 s2 s3
 refine W.seq ?_
 refine W.region ?_
 refine WL.x (X.mv (s2)) rfl ?_
 refine WL.x (X.mv (lt rfl (s3))) rfl ?_
 refine WL.call2 ce24 (lt rfl (lh)) (lh) (wants_ok k r w) rfl ?_
 rintro _ _ ⟨rfl, rfl⟩
 refine WL.x (X.mv (lh)) rfl ?_
 refine WL.x (X.ex2_0 (lh)) rfl ?_
 refine WL.x (X.ex2_1 (lt rfl (lh))) rfl ?_
 refine WL.x (X.asg (lt rfl (lh))) rfl ?_
 refine WL.x (X.asg (lt rfl (lh))) rfl ?_
 refine WL.e4 Nx.thn 0 1 10 11 (jt8 rfl (s0)) (jt8 rfl (s1)) (lt rfl (lh)) (lh) ?_
 intro σ2 s0 s1 s10 s11
 refine W.seq ?_
 refine W.seq ?_
 refine W.region ?_
 refine WL.x (X.mv (s1)) rfl ?_
 refine WL.x (X.lenSl Tryd.underlying22 (lh)) rfl ?_
 refine WL.x (X.mv lc) rfl ?_
 refine WL.e7 Nx.thn 0 1 10 11 31 32 33 (jt2 rfl (lt rfl (s0))) (jt2 rfl (lt rfl (s1))) (jt2 rfl (lt rfl (s10))) (jt2 rfl (lt rfl (s11))) (jt2 rfl (lh)) (lt rfl (lh)) (lh) ?_
 intro σ3 s0 s1 s10 s11 s31 s32 s33
 refine W.block ?_
 have qo1 := s0
 have qo2 := s1
 have qo3 := s10
 have qo4 := s11
 have qo5 := s31
 have qo6 := s32
 -- loop 0: kept [0, 1, 10, 11, 31, 32], varied [33]
 refine W.loop (G := Nat) (fun j σ' w' => (σ' 0 = σ3 0 ∧ σ' 1 = σ3 1 ∧ σ' 10 = σ3 10 ∧ σ' 11 = σ3 11 ∧ σ' 31 = σ3 31 ∧ σ' 32 = σ3 32 ∧ True) ∧ (σ' 33 = .int .i64 (j : Int) ∧ j ≤ l.length ∧ (l.take j).all (fun x => oneL x.2.2.1) = true ∧ Ch0 w w')) (fun j => l.length - j) (0) ⟨⟨rfl, rfl, rfl, rfl, rfl, rfl, trivial⟩, s33, by omega, by simp, Ch.refl _ _⟩ ?_
 rintro j σ4 w1 ⟨⟨f0, f1, f10, f11, f31, f32, _⟩, s33, hj, hall, hcl⟩
 have s0 := f0.trans qo1
 have s1 := f1.trans qo2
 have s10 := f10.trans qo3
 have s11 := f11.trans qo4
 have s31 := f31.trans qo5
 have s32 := f32.trans qo6
 refine W.seq ?_
 refine W.region ?_
 refine WL.x (X.lss (s33) (s32)) rfl ?_
 refine WL.e8 Nx.thn 0 1 10 11 31 32 33 34 (lt rfl (s0)) (lt rfl (s1)) (lt rfl (s10)) (lt rfl (s11)) (lt rfl (s31)) (lt rfl (s32)) (lt rfl (s33)) (lh) ?_
 intro σ5 s0 s1 s10 s11 s31 s32 s33 s34
 refine W.seq ?_
 refine W.cndp s34 (fun hlt => ?_) (fun hlt => ?_)
 ·
  have hjl : j < l.length := by omega
  obtain ⟨lb, lo, lcs, lT, lfr, rfl, hlm, hle9, -, hlc⟩ := hl.get (k := j) hjl
  obtain ⟨x, hx⟩ : ∃ x, l[j] = x := ⟨_, rfl⟩
  have has := all_succ hjl
  rw [hx] at hlc has
  refine W.skip Nx.thn ?_
  refine W.seq ?_
  refine W.block ?_
  refine W.seq ?_
  refine W.region ?_
  refine WL.x (X.indexAddr Tryd.underlying22 el27 (s31) (s33) (by omega) (by omega)) rfl ?_
  refine WL.x (X.loadS (vs := fwy x) ag27 (lh) (hcl.at0 hlm) rfl hlc) rfl ?_
  refine WL.alloc el27 rfl ?_
  intro w2 u4_2; have hu4_2 := u4_2.at_; have cu4_2 := u4_2.ch; have zu4_2 := u4_2.size
  refine WL.storeS ag27 (lh) (lt rfl (lh)) (List.all_eq_true.2 (fwy_one x)) rfl hu4_2 (by decide) ?_
  intro w3 us; have cst := us.ch
  have hkb : w3.heap[(_ : Nat)]? = some (.cells (fwy x).toArray 27 (0, 0)) := us.at_
  have cku := cu4_2.trans cst (H := fun _ => False) (fun _ _ e => e) (fun i hi e => by (try dsimp only at e); omega)
  have hcl := hcl.trans0 cku
  refine WL.e8 Nx.thn 0 1 10 11 13 31 32 33 (jt2 rfl (lt rfl (s0))) (jt2 rfl (lt rfl (s1))) (jt2 rfl (lt rfl (s10))) (jt2 rfl (lt rfl (s11))) (lh) (jt2 rfl (lt rfl (s31))) (jt2 rfl (lt rfl (s32))) (jt2 rfl (lt rfl (s33))) ?_
  intro σ6 s0 s1 s10 s11 s13 s31 s32 s33
  refine W.seq ?_
  refine W.region ?_
  refine WL.x (X.fieldAddr fd27_2 (s13)) rfl ?_
  refine WL.x (X.load pl3 (lh) hkb (v := .int .i64 x.2.2.1) rfl) rfl ?_
  refine WL.call1 ce25 (lh) (rone_ok x.2.2.1 w3) rfl ?_
  rintro _ _ ⟨rfl, rfl⟩
  refine WL.x (X.not (lh)) rfl ?_
  refine WL.e8 Nx.thn 0 1 10 11 31 32 33 40 (jt4 rfl (s0)) (jt4 rfl (s1)) (jt4 rfl (s10)) (jt4 rfl (s11)) (jt4 rfl (s31)) (jt4 rfl (s32)) (jt4 rfl (s33)) (lh) ?_
  intro σ7 s0 s1 s10 s11 s31 s32 s33 s40
  refine W.cnd s40 (fun hone9 => ?_) (fun hone9 => ?_)
  ·
   refine W.seq ?_
   refine W.region ?_
   refine WL.x (X.asg lc) rfl ?_
   refine WL.x (X.asg lc) rfl ?_
   refine WL.e2 Nx.thn 8 9 (lt rfl (lh)) (lh) ?_
   intro σ8 s8 s9
   refine W.ret2 (Nx.rblk (Nx.rthn (Nx.rthn (Nx.rblk (Nx.rthn Nx.f2))))) s8 s9 ?_
   have hno9 : findC n l k r = none := by
     unfold findC
     rw [if_neg]
     intro h
     have h8 := List.all_eq_true.1 h.2.1 x (by rw [← hx]; exact List.getElem_mem hjl)
     have h8 : oneL x.2.2.1 = true := h8
     rw [h8] at hone9
     cases hone9
   exact ⟨_, by rw [hno9]; rfl, by rw [hno9]; exact OwnF.nil, hcl⟩
  ·
   refine W.skip (Nx.blk Nx.thn) ?_
   refine W.region ?_
   refine WL.x (X.add (s33) lc (by omega) (by omega)) rfl ?_
   refine WL.x (X.mv (lh)) rfl ?_
   refine WL.e7 Nx.thn 0 1 10 11 31 32 33 (jt2 rfl (s0)) (jt2 rfl (s1)) (jt2 rfl (s10)) (jt2 rfl (s11)) (jt2 rfl (s31)) (jt2 rfl (s32)) (lh) ?_
   intro σ9 s0 s1 s10 s11 s31 s32 s33
   refine ⟨j + 1, by omega, ⟨s0.trans qo1.symm, s1.trans qo2.symm, s10.trans qo3.symm, s11.trans qo4.symm, s31.trans qo5.symm, s32.trans qo6.symm, trivial⟩, s33, by omega, (by rw [has, hall, Bool.true_and]; simpa using hone9), hcl⟩
 ·
  have hke : j = l.length := by omega
  subst hke
  rw [List.take_length] at hall
  refine W.exit (Nx.xthn (Nx.xthn (Nx.xblk Nx.thn))) ?_
  refine W.seq ?_
  refine W.region ?_
  refine WL.x (X.mv (s0)) rfl ?_
  refine WL.x (X.mv (lt rfl (s1))) rfl ?_
  refine WL.call2 ce11 (lt rfl (lh)) (lh) (rgraph_ok A n pa pc l w1 (hl.ch0 (monRc _) hcl) hm) rfl ?_
  rintro vg w4 ⟨c2, hv⟩
  rw [if_neg hG] at hv
  obtain ⟨er, her, rfl⟩ := hv
  have hcl := hcl.trans0 c2
  have hwl := want_lt k
  have hol := oth_lt k r
  refine WL.x (X.mv (lh)) rfl ?_
  refine WL.x (X.ex2_0 (lh)) rfl ?_
  refine WL.x (X.ex2_1 (lt rfl (lh))) rfl ?_
  refine WL.x (X.asg (lt rfl (lh))) rfl ?_
  refine WL.x (X.asg (lt rfl (lh))) rfl ?_
  refine WL.e5 Nx.thn 1 10 11 14 15 (jt8 rfl (s1)) (jt8 rfl (s10)) (jt8 rfl (s11)) (lt rfl (lh)) (lh) ?_
  intro σ10 s1 s10 s11 s14 s15
  refine W.seq ?_
  refine W.seq ?_
  refine W.region ?_
  refine WL.x (X.mv (s15)) rfl ?_
  refine WL.x (X.neq (lh) lc) rfl ?_
  refine WL.x (X.mv (lh)) rfl ?_
  refine WL.no rfl rfl (lh) (decide_eq_true (her)) rfl ?_
  refine WL.no rfl rfl (lt rfl (lh)) (decide_eq_true (her)) rfl ?_
  refine WL.x (X.pickT (jt2 rfl (lh)) (decide_eq_true (her)) lc) rfl ?_
  refine WL.e5 Nx.thn 1 10 11 14 53 (jt4 rfl (jt2 rfl (s1))) (jt4 rfl (jt2 rfl (s10))) (jt4 rfl (jt2 rfl (s11))) (jt4 rfl (jt2 rfl (s14))) (lh) ?_
  intro σ11 s1 s10 s11 s14 s53
  refine W.cndT s53 ?_
  refine W.seq ?_
  refine W.region ?_
  refine WL.x (X.asg lc) rfl ?_
  refine WL.x (X.asg lc) rfl ?_
  refine WL.e2 Nx.thn 8 9 (lt rfl (lh)) (lh) ?_
  intro σ12 s8 s9
  refine W.ret2 (Nx.rthn Nx.f2) s8 s9 ?_
  have hno9 : findC n l k r = none := by unfold findC; rw [if_neg (fun h => hG h.2.2)]
  exact ⟨_, by rw [hno9]; rfl, by rw [hno9]; exact OwnF.nil, hcl⟩
end Go.Proofs.YtnfkblboimkcjaaDoor
end
