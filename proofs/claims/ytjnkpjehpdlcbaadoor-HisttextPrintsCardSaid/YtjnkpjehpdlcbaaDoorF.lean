/-
  A part of the walk of the program.
-/
import Derived.Test.YtjnkpjehpdlcbaaDoorD
set_option linter.unusedVariables false
set_option linter.unusedSimpArgs false
set_option maxRecDepth 100000
namespace Go.Proofs.YtjnkpjehpdlcbaaDoor
open Go Go.RowKit Sg

theorem ops_ok (A : Nat → Prop) (v : Value) (l : List GOp) (w : World) (h : RSl 6 ROp A w v l) (hl : l.length * 64 ≤ 140737488355328) : Sg.Ret Tryd.prog 19 #[v] w fun v w' => ∃ a c, v = .slice a l.length c ∧ ORow 6 ROp (Mine [3] w.heap.size w') w' w.heap.size 48 (.slice a l.length c) l ∧ Ch0 w w' := by
  obtain ⟨a, c, rfl, h⟩ := h.at'
  refine Ret.mono (ops_walk A a c l w h hl) fun v w' hh => ?_
  obtain ⟨hh, hc⟩ := hh
  obtain ⟨ess, e1, e2, e3, e4⟩ := hh
  rcases e3.2 with ⟨rfl, h0⟩ | ⟨g, cap, cur, rfl, rest⟩
  · exact ⟨none, 0, by rw [h0], ⟨ess, e1, e2, by rw [h0] at e3 ⊢; exact e3, e4⟩, hc⟩
  · exact ⟨_, cap, rfl, ⟨ess, e1, e2, e3, e4⟩, hc⟩

theorem events_walk (A : Nat → Prop) (a : Option Addr) (c : Nat) (l : List GEv) (w : World) (h : RSl 3 REv A w (.slice a l.length c) l) (hl : l.length * 40 ≤ 140737488355328) :
    Sg.Ret Tryd.prog 7 #[.slice a l.length c] w fun v w' => ORow 3 REv (Mine [3, 48] w.heap.size w') w' w.heap.size 44 v l ∧ Ch0 w w' := by
  refine enter1 (n := 25) (l := [.slice a l.length c]) Tryd.func7 rfl rfl rfl rfl ?_
  refine W.g1 0 (v1 := .slice a l.length c) rfl ?_; intro σ s0
  refine W.seq ?_
  refine W.region ?_
  refine WL.x (X.asg lc) rfl ?_
  refine WL.e1 Nx.thn 0 (lt rfl (s0)) ?_
  intro σ1 s0
  refine W.seq ?_
  refine W.region ?_
  refine WL.x (X.asg lc) rfl ?_
  refine WL.e2 Nx.thn 0 3 (lt rfl (s0)) (lh) ?_
  intro σ2 s0 s3
  refine W.seq ?_
  refine W.seq ?_
  refine W.region ?_
  refine WL.x (X.mv (s0)) rfl ?_
  refine WL.x (X.lenSl Tryd.underlying22 (lh)) rfl ?_
  refine WL.x (X.mv lc) rfl ?_
  refine WL.e4 Nx.thn 3 6 7 8 (lt rfl (lt rfl (lt rfl (s3)))) (lt rfl (lt rfl (lh))) (lt rfl (lh)) (lh) ?_
  intro σ3 s3 s6 s7 s8
  refine W.block ?_
  have qo1 := s6
  have qo2 := s7
  -- loop 0: kept [6, 7], varied [3, 8]
  refine W.loop (G := Nat) (fun k σ' w' => (σ' 6 = σ3 6 ∧ σ' 7 = σ3 7 ∧ True) ∧ (∃ lv ess, σ' 8 = .int .i64 (k : Int) ∧ k ≤ l.length ∧ σ' 3 = lv ∧ ess.length = (l.take k).length ∧ (∀ es ∈ ess, es.length = 3) ∧ w'.ownsRow w.heap.size 44 3 lv (l.take k).length ess.flatten ∧ (∀ j (hj : j < (l.take k).length), REv (Mine [3, 48] w.heap.size w') w' (ess.getD j []) (l.take k)[j]) ∧ Ch0 w w')) (fun k => l.length - k) (0) ⟨⟨rfl, rfl, trivial⟩, _, [], s8, by omega, s3, rfl, (fun _ h => by cases h), World.ownsRow_nil _ _ _ _, (fun j hj => absurd hj (by simp)), Ch.refl _ _⟩ ?_
  rintro k σ4 w1 ⟨⟨f6, f7, _⟩, lv, ess, s8, hk, s3, he1, he2, hown, he4, hcl⟩
  have s6 := f6.trans qo1
  have s7 := f7.trans qo2
  refine W.seq ?_
  refine W.region ?_
  refine WL.x (X.lss (s8) (s7)) rfl ?_
  refine WL.e5 Nx.thn 3 6 7 8 9 (lt rfl (s3)) (lt rfl (s6)) (lt rfl (s7)) (lt rfl (s8)) (lh) ?_
  intro σ5 s3 s6 s7 s8 s9
  refine W.seq ?_
  refine W.cndp s9 (fun hlt => ?_) (fun hlt => ?_)
  · obtain ⟨b1, o1, cs1, T1, fr1, es1, rfl, hml1, hes1, hgl1, v1, rfl, hs1, hb1⟩ := (h.ch0 monEv hcl).at (k := k) (by omega)
    obtain ⟨va1, vc1, rfl⟩ := hs1.len
    refine W.skip Nx.thn ?_
    refine W.seq ?_
    refine W.block ?_
    refine W.seq ?_
    refine W.region ?_
    refine WL.x (X.indexAddr Tryd.underlying22 el44 (s6) (s8) (by omega) (by omega)) rfl ?_
    refine WL.x (X.loadS ag44 (lh) hml1 hes1 hgl1) rfl ?_
    refine WL.alloc el44 rfl ?_
    intro w2 u4_2; have hu4_2 := u4_2.at_; have cu4_2 := u4_2.ch; have zu4_2 := u4_2.size
    refine WL.storeS ag44 (lh) (lt rfl (lh)) rfl hes1 hu4_2 (by decide) ?_
    intro w3 us; have hu4_3 := us.at_; have cu4_3 := us.ch; have zu4_3 := us.size
    rw [show (Value.agg #[.int .i64 0, .int .i64 0, .slice none 0 0]).cells = (#[.int .i64 0, .int .i64 0, .slice none 0 0] : Array Value) from rfl, blit_all (by rfl)] at hu4_3
    have hbx : ¬ slBlk lv w1.heap.size := fun e => by have := (own_lt hown e).2; omega
    refine WL.e5 Nx.thn 3 5 6 7 8 (lt rfl (lt rfl (lt rfl (s3)))) (lh) (lt rfl (lt rfl (lt rfl (s6)))) (lt rfl (lt rfl (lt rfl (s7)))) (lt rfl (lt rfl (lt rfl (s8)))) ?_
    intro σ6 s3 s5 s6 s7 s8
    refine W.held (fun w' => Ch (slBlk lv) w3 w') mo ?_
    intro w4 qhh3 qc4
    have hS : Ch (slBlk lv) w3 w4 := Ch.weak qc4
    have hzqc4 := qc4.size
    have cdh5 := qc4
    refine WH.take 0 rfl (by kernel_rfl) (by kernel_rfl) (by kernel_rfl) (fun _ _ _ h => h) Gd.none rfl (fun w' hS' => X.mv (s3)) hS ?_
    refine WH.take 1 rfl (by kernel_rfl) (by kernel_rfl) (by kernel_rfl) (fun _ _ _ h => h) Gd.none rfl (fun w' hS' => X.fieldAddr fd44_0 (lt rfl (s5))) hS ?_
    refine WH.take 2 rfl (by kernel_rfl) (by kernel_rfl) (by kernel_rfl) (fun _ _ _ h => h) Gd.none rfl (fun w' hS' => X.load pl3 (lh) (hS'.at hu4_3 hbx) (by rfl)) hS ?_
    refine WH.take 3 rfl (by kernel_rfl) (by kernel_rfl) (by kernel_rfl) (fun _ _ _ h => h) Gd.none rfl (fun w' hS' => X.fieldAddr fd44_1 (lt rfl (lt rfl (lt rfl (s5))))) hS ?_
    refine WH.take 4 rfl (by kernel_rfl) (by kernel_rfl) (by kernel_rfl) (fun _ _ _ h => h) Gd.none rfl (fun w' hS' => X.load pl3 (lh) (hS'.at hu4_3 hbx) (by rfl)) hS ?_
    refine WH.take 5 rfl (by kernel_rfl) (by kernel_rfl) (by kernel_rfl) (fun _ _ _ h => h) Gd.none rfl (fun w' hS' => X.fieldAddr fd44_2 (lt rfl (lt rfl (lt rfl (lt rfl (lt rfl (s5))))))) hS ?_
    refine WH.take 6 rfl (by kernel_rfl) (by kernel_rfl) (by kernel_rfl) (fun _ _ _ h => h) Gd.none rfl (fun w' hS' => X.load pl42 (lh) (hS'.at hu4_3 hbx) (by rfl)) hS ?_
    refine WH.one 7 rfl (by kernel_rfl) (fun _ _ h => h) ?_
    refine WL.call1 ce19 (lh) (ops_ok A _ l[k].2.2 w4 (hs1.ch0 monOp ((cu4_2.trans cu4_3 (fun _ _ => id) (fun i hi e => by (try dsimp only at e); omega)).trans0 cdh5)) hb1) rfl ?_
    rintro _ w5 ⟨a5, c5, rfl, hrow, cc⟩
    have zcc := cc.size
    have hS := hS.trans cc (fun _ _ => id) (by intro i hi hg; first | exact hg | exact False.elim hg | omega | ((try dsimp only at hg ⊢); omega))
    refine WL.nil Nx.thn ⟨hS, ?_⟩
    refine WH.take 8 rfl (by kernel_rfl) (by kernel_rfl) (by kernel_rfl) (fun _ _ _ h => h) Gd.none rfl (fun w' hS' => X.build bd44 (pcons (lt rfl (lt rfl (lt rfl (lt rfl (lt rfl (lh)))))) (pcons (lt rfl (lt rfl (lt rfl (lh)))) (pcons (lh) pnil))) rfl (rfl : _ = [_, _, _])) hS ?_
    refine WH.one 9 rfl (by kernel_rfl) (fun _ _ h => h) ?_
    refine WL.bsliceR (vs := [_]) Tryd.underlying22 el44 (by decide) (pcons (lh) pnil) rfl (fun u hu => by rw [List.mem_singleton.1 hu]; rfl) (show 1 * 3 ≤ 16777216 by decide) rfl ?_
    intro w7 u5_9; have hu5_9 := u5_9.at_; have cu5_9 := u5_9.ch; have zu5_9 := u5_9.size
    have hS := hS.trans cu5_9 (fun _ _ => id) (by intro i hi hg; first | exact hg | exact False.elim hg | omega | ((try dsimp only at hg ⊢); omega))
    refine WL.nil Nx.thn ⟨hS, ?_⟩
    refine WH.one 10 rfl (by kernel_rfl) (fun _ _ h => h) ?_
    have hsz := hcl.size
    have hc4 : Ch0 w1 w3 := cu4_2.trans cu4_3 (fun _ _ => id) (fun i hi e => by (try dsimp only at e); omega)
    have zcd := cdh5.size
    have hc6 : Ch0 w1 w7 := ((hc4.trans0 cdh5).trans0 cc).trans0 cu5_9
    have c57 : ∀ wz, Ch (slBlk lv) w7 wz → Ch (slBlk lv) w5 wz := fun wz c => (Ch.weak cu5_9).trans c (fun _ _ => id) (fun _ _ => id)
    refine WL.append Tryd.underlying22 el44 rfl (by decide) (lt rfl (lt rfl (lt rfl (lt rfl (lt rfl (lt rfl (lt rfl (lt rfl (lt rfl (lh)))))))))) (lh) (own_ch hown hc6 (fun _ _ => id)) (by first | assumption | exact hS.at (by assumption) (by intro hne; first | exact hne | ((try dsimp only at hne); omega)) | exact hS.at (cu4_3.at (by assumption) (by intro hne; first | exact hne | ((try dsimp only at hne); omega))) (by intro hne; first | exact hne | ((try dsimp only at hne); omega)) | exact hS.at (cu4_3.at (cu4_2.at0 (by assumption)) (by intro hne; first | exact hne | ((try dsimp only at hne); omega))) (by intro hne; first | exact hne | ((try dsimp only at hne); omega)) | exact hS.at (cu4_3.at (cu4_2.at0 (hcl.at0 (by assumption))) (by intro hne; first | exact hne | ((try dsimp only at hne); omega))) (by intro hne; first | exact hne | ((try dsimp only at hne); omega))) rfl (by exact ones_of rfl) (by unfold maxLen; rw [List.length_take]; omega) (by rw [List.length_take]; omega) (by omega) rfl ?_
    intro va5_10 w8 ho5_10 ca5_10
    have hcw : Ch (slBlk lv) w1 w8 := (Ch.weak hc6).trans ca5_10 (fun _ _ => id) (fun _ _ => id)
    have hcn : Ch0 w w8 := hcl.trans hcw (fun _ _ => id) (fun i hi e => by have := (own_lt hown e).1; omega)
    have hmf : ∀ j, Mine [3, 48] w.heap.size w1 j → ¬ slBlk lv j := own_not hown (by decide)
    have hma : ∀ j, Mine [3, 48] w.heap.size w1 j → Mine [3, 48] w.heap.size w8 j := fun j hj => hj.ch hcw (hmf j hj)
    have hnl : ∀ j, Mine [3, 48] w.heap.size w5 j → ¬ slBlk lv j := own_not (own_ch hown ((hc4.trans0 cdh5).trans0 cc) (fun _ _ => id)) (by decide)
    have h7 := (ORow.rsl' monOp hrow (A' := Mine [3, 48] w.heap.size w5) (fun j hj => hj.mono (by decide) (by omega)) (hrow.mine (by decide) (by omega))).ch monOp (c57 w8 ca5_10) hnl (fun j hj => hj.ch (c57 w8 ca5_10) (hnl j hj))
    have hx7 : REv (Mine [3, 48] w.heap.size w8) w8 [.int .i64 l[k].1, .int .i64 l[k].2.1, .slice a5 l[k].2.2.length c5] l[k] := ⟨_, rfl, h7, hb1⟩
    have htk : l.take (k + 1) = l.take k ++ [l[k]] := List.take_succ_eq_append_getElem (by omega)
    obtain ⟨ess', hp1, hp2, hp3, hp4⟩ := ORow.push monEv he1 he2 he4 rfl hx7 hcw hmf hma ho5_10
    rw [← htk] at hp1 hp3 hp4
    have hS := hS.trans ca5_10 (fun _ _ => id) (by intro i hi hg; first | exact hg | exact False.elim hg | omega | ((try dsimp only at hg ⊢); omega))
    refine WL.nil Nx.thn ⟨hS, ?_⟩
    refine WH.take 11 rfl (by kernel_rfl) (by kernel_rfl) (by kernel_rfl) (fun _ _ _ h => h) Gd.none rfl (fun w' hS' => X.asg (lh)) hS ?_
    refine WH.done (by kernel_rfl) ?_
    refine WL.e4 (Nx.blk Nx.thn) 3 6 7 8 (lh) (lt rfl (lt rfl (lt rfl (lt rfl (lt rfl (lt rfl (lt rfl (lt rfl (lt rfl (lt rfl (lt rfl (lt rfl (s6))))))))))))) (lt rfl (lt rfl (lt rfl (lt rfl (lt rfl (lt rfl (lt rfl (lt rfl (lt rfl (lt rfl (lt rfl (lt rfl (s7))))))))))))) (lt rfl (lt rfl (lt rfl (lt rfl (lt rfl (lt rfl (lt rfl (lt rfl (lt rfl (lt rfl (lt rfl (lt rfl (s8))))))))))))) ?_
    intro σ7 s3 s6 s7 s8
    refine W.region ?_
    first | refine WL.x (X.add (s8) lc (by omega) (by omega)) rfl ?_ | refine WL.x (X.addw (s8) lc) rfl ?_
    refine WL.x (X.mv (lh)) rfl ?_
    refine WL.e4 Nx.thn 3 6 7 8 (lt rfl (lt rfl (s3))) (lt rfl (lt rfl (s6))) (lt rfl (lt rfl (s7))) (lh) ?_
    intro σ8 s3 s6 s7 s8
    refine ⟨k + 1, by first | omega | (dsimp only; omega), ⟨s6.trans qo1.symm, s7.trans qo2.symm, trivial⟩, _, ess', s8, by omega, s3, hp1, hp2, hp3, (fun j hj => by have := hp4 j (htk ▸ hj); simpa only [htk] using this), hcn⟩
  · refine W.exit (Nx.xthn (Nx.xthn (Nx.xblk Nx.thn))) ?_
    refine W.seq ?_
    refine W.region ?_
    refine WL.x (X.mv (s3)) rfl ?_
    refine WL.x (X.asg (lh)) rfl ?_
    refine WL.e1 Nx.thn 2 (lh) ?_
    intro σ9 s2
    refine W.ret1 Nx.f1 s2 ?_
    have hke : l.length = k := by omega
    subst hke
    rw [List.take_length] at *
    exact ⟨⟨ess, he1, he2, hown, he4⟩, hcl⟩
end Go.Proofs.YtjnkpjehpdlcbaaDoor
