/-
  A part of the walk of the program.
-/
import Derived.Test.YtjnkpjehpdlcbaaDoorA
set_option linter.unusedVariables false
set_option linter.unusedSimpArgs false
set_option maxRecDepth 100000
namespace Go.Proofs.YtjnkpjehpdlcbaaDoor
open Go Go.RowKit Sg

theorem clone_ok (v : Value) (l : List Int) (w : World) (h : Sl w v (ints l)) (hl : l.length * 8 ≤ 140737488355328) : Sg.Ret Tryd.prog 50 #[v] w fun v w' => ∃ a c, v = .slice a l.length c ∧ w'.ownsRow w.heap.size 3 1 (.slice a l.length c) l.length (ints l) ∧ Ch0 w w' := by
  obtain ⟨a, c, rfl⟩ := h.len
  rw [List.length_map] at h ⊢
  refine Ret.mono (clone_walk a c l w h hl) fun v w' hh => ?_
  obtain ⟨a5, c5, rfl⟩ := (Sl.own hh.1).len
  rw [List.length_map] at hh ⊢
  exact ⟨a5, c5, rfl, hh⟩

theorem ops_walk (A : Nat → Prop) (a : Option Addr) (c : Nat) (l : List GOp) (w : World) (h : RSl 6 ROp A w (.slice a l.length c) l) (hl : l.length * 64 ≤ 140737488355328) :
    Sg.Ret Tryd.prog 19 #[.slice a l.length c] w fun v w' => ORow 6 ROp (Mine [3] w.heap.size w') w' w.heap.size 48 v l ∧ Ch0 w w' := by
  refine enter1 (n := 22) (l := [.slice a l.length c]) Tryd.func19 rfl rfl rfl rfl ?_
  refine W.g1 0 (v1 := .slice a l.length c) rfl ?_; intro σ s0
  refine W.seq ?_
  refine W.region ?_
  refine WL.x (X.asg lc) rfl ?_
  refine WL.e1 Nx.thn 0 (lt rfl (s0)) ?_
  intro σ1 s0
  refine W.seq ?_
  refine W.region ?_
  refine WL.x (X.asg lc) rfl ?_
  refine WL.e2 Nx.thn 0 3 (lt rfl (s0)) (lh) ?_
  intro σ2 s0 s3
  refine W.seq ?_
  refine W.seq ?_
  refine W.region ?_
  refine WL.x (X.mv (s0)) rfl ?_
  refine WL.x (X.lenSl Tryd.underlying42 (lh)) rfl ?_
  refine WL.x (X.mv lc) rfl ?_
  refine WL.e4 Nx.thn 3 6 7 8 (lt rfl (lt rfl (lt rfl (s3)))) (lt rfl (lt rfl (lh))) (lt rfl (lh)) (lh) ?_
  intro σ3 s3 s6 s7 s8
  refine W.block ?_
  have qo1 := s6
  have qo2 := s7
  -- loop 0: kept [6, 7], varied [3, 8]
  refine W.loop (G := Nat) (fun k σ' w' => (σ' 6 = σ3 6 ∧ σ' 7 = σ3 7 ∧ True) ∧ (∃ lv ess, σ' 8 = .int .i64 (k : Int) ∧ k ≤ l.length ∧ σ' 3 = lv ∧ ess.length = (l.take k).length ∧ (∀ es ∈ ess, es.length = 6) ∧ w'.ownsRow w.heap.size 48 6 lv (l.take k).length ess.flatten ∧ (∀ j (hj : j < (l.take k).length), ROp (Mine [3] w.heap.size w') w' (ess.getD j []) (l.take k)[j]) ∧ Ch0 w w')) (fun k => l.length - k) (0) ⟨⟨rfl, rfl, trivial⟩, _, [], s8, by omega, s3, rfl, (fun _ h => by cases h), World.ownsRow_nil _ _ _ _, (fun j hj => absurd hj (by simp)), Ch.refl _ _⟩ ?_
  rintro k σ4 w1 ⟨⟨f6, f7, _⟩, lv, ess, s8, hk, s3, he1, he2, hown, he4, hcl⟩
  have s6 := f6.trans qo1
  have s7 := f7.trans qo2
  refine W.seq ?_
  refine W.region ?_
  refine WL.x (X.lss (s8) (s7)) rfl ?_
  refine WL.e5 Nx.thn 3 6 7 8 9 (lt rfl (s3)) (lt rfl (s6)) (lt rfl (s7)) (lt rfl (s8)) (lh) ?_
  intro σ5 s3 s6 s7 s8 s9
  refine W.seq ?_
  refine W.cndp s9 (fun hlt => ?_) (fun hlt => ?_)
  · obtain ⟨b1, o1, cs1, T1, fr1, es1, rfl, hml1, hes1, hgl1, v1, rfl, hs1, hb1⟩ := (h.ch0 monOp hcl).at (k := k) (by omega)
    obtain ⟨va1, vc1, rfl⟩ := hs1.1.len
    refine W.skip Nx.thn ?_
    refine W.seq ?_
    refine W.block ?_
    refine W.seq ?_
    refine W.region ?_
    refine WL.x (X.indexAddr Tryd.underlying42 el48 (s6) (s8) (by omega) (by omega)) rfl ?_
    refine WL.x (X.loadS ag48 (lh) hml1 hes1 hgl1) rfl ?_
    refine WL.alloc el48 rfl ?_
    intro w2 u4_2; have hu4_2 := u4_2.at_; have cu4_2 := u4_2.ch; have zu4_2 := u4_2.size
    refine WL.storeS ag48 (lh) (lt rfl (lh)) rfl hes1 hu4_2 (by decide) ?_
    intro w3 us; have hu4_3 := us.at_; have cu4_3 := us.ch; have zu4_3 := us.size
    rw [show (Value.agg #[.int .i64 0, .string ⟨#[]⟩, .int .i64 0, .slice none 0 0, .bool false, .bool false]).cells = (#[.int .i64 0, .string ⟨#[]⟩, .int .i64 0, .slice none 0 0, .bool false, .bool false] : Array Value) from rfl, blit_all (by rfl)] at hu4_3
    refine WL.e5 Nx.thn 3 5 6 7 8 (lt rfl (lt rfl (lt rfl (s3)))) (lh) (lt rfl (lt rfl (lt rfl (s6)))) (lt rfl (lt rfl (lt rfl (s7)))) (lt rfl (lt rfl (lt rfl (s8)))) ?_
    intro σ6 s3 s5 s6 s7 s8
    refine W.seq ?_
    refine W.region ?_
    refine WL.x (X.fieldAddr fd48_3 (s5)) rfl ?_
    refine WL.x (X.load pl46 (lh) (by first | assumption | exact cu4_3.at (by assumption) (by intro hne; first | exact hne | ((try dsimp only at hne); omega)) | exact cu4_3.at (cu4_2.at0 (by assumption)) (by intro hne; first | exact hne | ((try dsimp only at hne); omega)) | exact cu4_3.at (cu4_2.at0 (hcl.at0 (by assumption))) (by intro hne; first | exact hne | ((try dsimp only at hne); omega))) (by first | rfl | assumption)) rfl ?_
    refine WL.call1 ce50 (lh) (clone_ok _ l[k].2.2.2.1 w3 (hs1.1.ch0 (cu4_2.trans cu4_3 (fun _ _ => id) (fun i hi e => by (try dsimp only at e); omega))) hb1.1) rfl ?_
    rintro _ w4 ⟨a5, c5, rfl, hown5, cc⟩
    have zcc := cc.size
    refine WL.x (X.fieldAddr fd48_3 (lt rfl (lt rfl (lt rfl (s5))))) rfl ?_
    refine WL.store el46 (lh) (lt rfl (lh)) rfl (cc.at0 hu4_3) (show 0 + 3 < 6 by decide) ?_
    intro w5 us; have hu5_4 : w5.heap[_]? = some (Obj.cells #[.int .i64 l[k].1, .string l[k].2.1, .int .i64 l[k].2.2.1, .slice a5 l[k].2.2.2.1.length c5, .bool l[k].2.2.2.2.1, .bool l[k].2.2.2.2.2] 48 (0, 0)) := us.at_; have cu5_4 := us.ch; have zu5_4 := us.size
    refine WL.e5 Nx.thn 3 5 6 7 8 (lt rfl (lt rfl (lt rfl (lt rfl (s3))))) (lt rfl (lt rfl (lt rfl (lt rfl (s5))))) (lt rfl (lt rfl (lt rfl (lt rfl (s6))))) (lt rfl (lt rfl (lt rfl (lt rfl (s7))))) (lt rfl (lt rfl (lt rfl (lt rfl (s8))))) ?_
    intro σ7 s3 s5 s6 s7 s8
    refine W.region ?_
    refine WL.x (X.mv (s3)) rfl ?_
    refine WL.x (X.loadBox (vs := [.int .i64 l[k].1, .string l[k].2.1, .int .i64 l[k].2.2.1, .slice a5 l[k].2.2.2.1.length c5, .bool l[k].2.2.2.2.1, .bool l[k].2.2.2.2.2]) ag48 (lt rfl (s5)) hu5_4 rfl) rfl ?_
    refine WL.bsliceR (vs := [_]) Tryd.underlying42 el48 (by decide) (pcons (lh) pnil) rfl (fun u hu => by rw [List.mem_singleton.1 hu]; rfl) (show 1 * 6 ≤ 16777216 by decide) rfl ?_
    intro w7 u6_2; have hu6_2 := u6_2.at_; have cu6_2 := u6_2.ch; have zu6_2 := u6_2.size
    have hsz := hcl.size
    have hc4 : Ch0 w1 w3 := cu4_2.trans cu4_3 (fun _ _ => id) (fun i hi e => by (try dsimp only at e); omega)
    have hc6 : Ch0 w1 w7 := (((hc4.trans0 cc).trans cu5_4 (H := fun _ => False) (fun _ _ => id) (fun i hi e => by (try dsimp only at e); omega))).trans0 cu6_2
    obtain ⟨w4h, hw4h⟩ : ∃ w4h, w4h = w3.heap.size := ⟨_, rfl⟩
    rw [← hw4h] at hown5
    have c56 : Ch (fun j => j = w1.heap.size) w4 w7 := cu5_4.trans cu6_2 (fun _ _ => id) (fun _ _ e => e.elim)
    have c57 : ∀ wz, Ch (slBlk lv) w7 wz → Ch (fun j => j = w1.heap.size ∨ slBlk lv j) w4 wz := fun wz c => c56.trans c (fun _ _ => .inl) (fun _ _ => .inr)
    refine WL.append Tryd.underlying42 el48 rfl (by decide) (lt rfl (lt rfl (lh))) (lh) (own_ch hown hc6 (fun _ _ => id)) (by first | assumption | exact cu6_2.at0 (by assumption) | exact cu6_2.at0 (cu5_4.at (by assumption) (by intro hne; first | exact hne | ((try dsimp only at hne); omega))) | exact cu6_2.at0 (cu5_4.at (cc.at0 (by assumption)) (by intro hne; first | exact hne | ((try dsimp only at hne); omega))) | exact cu6_2.at0 (cu5_4.at (cc.at0 (cu4_3.at (by assumption) (by intro hne; first | exact hne | ((try dsimp only at hne); omega)))) (by intro hne; first | exact hne | ((try dsimp only at hne); omega))) | exact cu6_2.at0 (cu5_4.at (cc.at0 (cu4_3.at (cu4_2.at0 (by assumption)) (by intro hne; first | exact hne | ((try dsimp only at hne); omega)))) (by intro hne; first | exact hne | ((try dsimp only at hne); omega))) | exact cu6_2.at0 (cu5_4.at (cc.at0 (cu4_3.at (cu4_2.at0 (hcl.at0 (by assumption))) (by intro hne; first | exact hne | ((try dsimp only at hne); omega)))) (by intro hne; first | exact hne | ((try dsimp only at hne); omega)))) rfl (by exact ones_of rfl) (by unfold maxLen; rw [List.length_take]; omega) (by rw [List.length_take]; omega) (by omega) rfl ?_
    intro va6_3 w8 ho6_3 ca6_3
    have hcw : Ch (slBlk lv) w1 w8 := (Ch.weak hc6).trans ca6_3 (fun _ _ => id) (fun _ _ => id)
    have hcn : Ch0 w w8 := hcl.trans hcw (fun _ _ => id) (fun i hi e => by have := (own_lt hown e).1; omega)
    have hmf : ∀ j, Mine [3] w.heap.size w1 j → ¬ slBlk lv j := own_not hown (by decide)
    have hma : ∀ j, Mine [3] w.heap.size w1 j → Mine [3] w.heap.size w8 j := fun j hj => hj.ch hcw (hmf j hj)
    have hsz := hcl.size
    have hown7 : w8.ownsRow w4h 3 1 (.slice a5 l[k].2.2.2.1.length c5) l[k].2.2.2.1.length (ints l[k].2.2.2.1) := own_ch hown5 (c57 w8 ca6_3) (fun j hj => by have h1 := (own_lt hown5 hj).1; rintro (e | e); (· omega); (· have := (own_lt hown e).2; omega))
    have hx7 : ROp (Mine [3] w.heap.size w8) w8 [.int .i64 l[k].1, .string l[k].2.1, .int .i64 l[k].2.2.1, .slice a5 l[k].2.2.2.1.length c5, .bool l[k].2.2.2.2.1, .bool l[k].2.2.2.2.2] l[k] := ⟨_, rfl, ⟨Sl.own hown7, own_mine hown7 (by decide) (by omega)⟩, hb1⟩
    have htk : l.take (k + 1) = l.take k ++ [l[k]] := List.take_succ_eq_append_getElem (by omega)
    obtain ⟨ess', hp1, hp2, hp3, hp4⟩ := ORow.push monOp he1 he2 he4 rfl hx7 hcw hmf hma ho6_3
    rw [← htk] at hp1 hp3 hp4
    refine WL.x (X.asg (lh)) rfl ?_
    refine WL.e4 (Nx.blk Nx.thn) 3 6 7 8 (lh) (lt rfl (lt rfl (lt rfl (lt rfl (lt rfl (s6)))))) (lt rfl (lt rfl (lt rfl (lt rfl (lt rfl (s7)))))) (lt rfl (lt rfl (lt rfl (lt rfl (lt rfl (s8)))))) ?_
    intro σ8 s3 s6 s7 s8
    refine W.region ?_
    first | refine WL.x (X.add (s8) lc (by omega) (by omega)) rfl ?_ | refine WL.x (X.addw (s8) lc) rfl ?_
    refine WL.x (X.mv (lh)) rfl ?_
    refine WL.e4 Nx.thn 3 6 7 8 (lt rfl (lt rfl (s3))) (lt rfl (lt rfl (s6))) (lt rfl (lt rfl (s7))) (lh) ?_
    intro σ9 s3 s6 s7 s8
    refine ⟨k + 1, by first | omega | (dsimp only; omega), ⟨s6.trans qo1.symm, s7.trans qo2.symm, trivial⟩, _, ess', s8, by omega, s3, hp1, hp2, hp3, (fun j hj => by have := hp4 j (htk ▸ hj); simpa only [htk] using this), hcn⟩
  · refine W.exit (Nx.xthn (Nx.xthn (Nx.xblk Nx.thn))) ?_
    refine W.seq ?_
    refine W.region ?_
    refine WL.x (X.mv (s3)) rfl ?_
    refine WL.x (X.asg (lh)) rfl ?_
    refine WL.e1 Nx.thn 2 (lh) ?_
    intro σ10 s2
    refine W.ret1 Nx.f1 s2 ?_
    have hke : l.length = k := by omega
    subst hke
    rw [List.take_length] at *
    exact ⟨⟨ess, he1, he2, hown, he4⟩, hcl⟩
end Go.Proofs.YtjnkpjehpdlcbaaDoor
