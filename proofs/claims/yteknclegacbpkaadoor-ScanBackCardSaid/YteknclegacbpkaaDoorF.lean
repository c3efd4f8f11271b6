/-
  A part of the walk of the program.
-/
import Derived.Test.YteknclegacbpkaaDoorD
import Derived.Test.YteknclegacbpkaaDoorE
set_option linter.unusedVariables false
set_option linter.unusedSimpArgs false
set_option maxRecDepth 100000
namespace Go.Proofs.YteknclegacbpkaaDoor
open Go Go.RowKit Sg

theorem NumR.cases {s : ByteArray} {i x : Nat} {v : Value} {w' : World} (h : NumR s i x v w') : ∃ (t : Tok) (e : Value), v = .tuple #[.agg (ftk t).toArray, e] ∧ IsI e ∧
    (isNil e = true → ∃ k, numL ((sb s).drop i) = .ok (k, t.2.2.2) ∧ i + k ≤ s.size ∧ t = (2, (i : Int), s.extract i (i + k), t.2.2.2) ∧ w'.heap[x]? = some (.cells #[.string s, .int .i64 ((i + k : Nat) : Int)] 48 (0, 0))) ∧
    (isNil e = false → ∃ k e', numL ((sb s).drop i) = .error (k, e') ∧ e = .iface 45 (.agg #[.int .i64 ((i + k : Nat) : Int), .int .i64 (e' : Int)])) := by
  rcases h with ⟨k, z, h1, h2, rfl, h3⟩ | ⟨k, e, h1, rfl⟩
  · exact ⟨_, _, rfl, .inl rfl, (fun _ => ⟨k, h1, h2, rfl, h3⟩), (fun h => by cases h)⟩
  · exact ⟨_, _, rfl, .inr ⟨_, _, rfl⟩, (fun h => by cases h), (fun _ => ⟨k, e, h1, rfl⟩)⟩

theorem num_tok {s : ByteArray} {j : Nat} {t : Tok} {C : Nat → Prop} (htl : tokL j ((sb s).drop j) = match numL ((sb s).drop j) with | .ok (k, v) => .ok ((2, (j : Int), s.extract j (j + k), v), k) | .error (k, e) => .error (j + k, e))
    (h : ∃ k, numL ((sb s).drop j) = .ok (k, t.2.2.2) ∧ j + k ≤ s.size ∧ t = (2, (j : Int), s.extract j (j + k), t.2.2.2) ∧ C k) : ∃ k, tokL j ((sb s).drop j) = .ok (t, k) ∧ C k := by
  obtain ⟨k, h1, _, h3, h4⟩ := h
  refine ⟨k, ?_, h4⟩
  rw [htl, h1]
  conv => rhs; rw [h3]
set_option maxHeartbeats 6400000 in
theorem scan_ok (s : ByteArray) (w : World) (hER : ER w) :
    Sg.Ret Tryd.prog 9 #[.string s] w fun v w' => ScanR s w.heap.size v w' ∧ Ch0 w w' := by
  obtain ⟨tp9, p9, T9, fr9, hE9⟩ := hER
  have hE8 := lt_of_blk hE9
  have hER : ER w := ⟨tp9, p9, T9, fr9, hE9⟩
  refine enter2 (n := 98) (l := [.string s]) Tryd.func9 rfl rfl rfl rfl ?_
  refine W.g1 0 (v1 := .string s) rfl ?_; intro σ s0
  refine W.seq ?_
  refine W.region ?_
  refine WL.x (X.asg lc) rfl ?_
  refine WL.x (X.asg lc) rfl ?_
  refine WL.e1 Nx.thn 0 (lt rfl (lt rfl (s0))) ?_
  intro σ1 s0
  refine W.scope ?_
  refine W.seq ?_
  refine W.seq ?_
  refine W.region ?_
  refine WL.x (X.mv (s0)) rfl ?_
  refine WL.x (X.lenSt Tryd.underlying9 (lh)) rfl ?_
  refine WL.x (X.gtr (lh) lc) rfl ?_
  refine WL.e2 Nx.thn 0 12 (lt rfl (lt rfl (lt rfl (s0)))) (lh) ?_
  intro σ2 s0 s12
  refine W.cndp s12 (fun hbig => ?_) (fun hbig => ?_)
  · refine W.seq ?_
    refine W.region ?_
    refine WL.x (X.build bd45 (pcons lc pnil) rfl (rfl : _ = [_, _])) rfl ?_
    refine WL.x (X.iface Tryd.underlying45 trivial (lh)) rfl ?_
    refine WL.x (X.asg lc) rfl ?_
    refine WL.x (X.asg (lt rfl (lh))) rfl ?_
    refine WL.e2 Nx.thn 2 3 (lt rfl (lh)) (lh) ?_
    intro σ3 s2 s3
    refine W.ret2 (Nx.rthn (Nx.ngR Nx.f2)) s2 s3 ?_
    exact ⟨.inr ⟨0, 4, by unfold scanA; rw [if_pos (by rw [sb_len]; omega)], rfl⟩, Ch.refl _ _⟩
  · have hsz : s.size ≤ 20000 := by omega
    refine W.skip Nx.thn ?_
    refine W.seq ?_
    refine W.region ?_
    refine WL.x (X.asg lc) rfl ?_
    refine WL.e2 Nx.thn 0 4 (lt rfl (s0)) (lh) ?_
    intro σ4 s0 s4
    refine W.seq ?_
    refine W.region ?_
    refine WL.x (X.mv (s0)) rfl ?_
    refine WL.x (X.build bd48 (pcons (lh) pnil) rfl (rfl : _ = [_, _])) rfl ?_
    refine WL.box (lh) rfl ?_
    intro w1 u4_2; have hu4_2 := u4_2.at_; have cu4_2 := u4_2.ch; have zu4_2 := u4_2.size
    refine WL.x (X.asg (lh)) rfl ?_
    refine WL.e3 Nx.thn 0 4 5 (lt rfl (lt rfl (lt rfl (lt rfl (s0))))) (lt rfl (lt rfl (lt rfl (lt rfl (s4))))) (lh) ?_
    intro σ5 s0 s4 s5
    refine W.seq ?_
    refine W.label Nx.thn ?_
    refine W.seq ?_
    refine W.block ?_
    have qo1 := s0
    have qo2 := s5
    -- loop 0: kept [0, 5], varied [4]
    refine W.loop (G := Nat × List Tok) (fun (i, acc) σ' w' => (σ' 0 = σ5 0 ∧ σ' 5 = σ5 5 ∧ True) ∧ (∃ lv, σ' 4 = lv ∧ w'.heap[w.heap.size]? = some (.cells #[.string s, .int .i64 ((i : Nat) : Int)] 48 (0, 0)) ∧ At s acc i ∧ OwnF 4 ftk w' (w.heap.size + 1) 29 lv acc ∧ Ch0 w w')) (fun (i, acc) => s.size - i) ((0, [])) ⟨⟨rfl, rfl, trivial⟩, _, s4, hu4_2, At.start s, OwnF.nil, cu4_2⟩ ?_
    rintro ⟨i, acc⟩ σ6 w2 ⟨⟨f0, f5, _⟩, lv, s4, hm, hat, hown, hcl⟩
    have s0 := f0.trans qo1
    have s5 := f5.trans qo2
    have his := hat.2.1
    have hxm := lt_of_blk hm
    refine W.block ?_
    refine W.seq ?_
    refine W.region ?_
    refine WL.x (X.mv (s5)) rfl ?_
    refine WL.call2 ce20 (lh) lf (while_ok w.heap.size 21 (fun c => decide (c = 32)) s (i) w2 ce21 (fun c w0 _ => blank_fn c w0) hm (by omega) (by omega)) rfl ?_
    rintro _ w3 ⟨rfl, hm, cw⟩
    obtain ⟨j, hj⟩ : ∃ j, j = i + run (fun c => decide (c = 32)) ((sb s).drop i) := ⟨_, rfl⟩
    rw [← hj] at hm
    have hatj : At s acc j := by rw [hj]; exact hat.blanks
    have hjs := hatj.2.1
    have hb : bat (sb s) j ≠ 32 := by
      intro e
      have h1 : j < s.size := bat_in (by omega)
      have := run_end (p := fun c => decide (c = 32)) (l := (sb s).drop i) (by rw [List.length_drop, sb_len]; omega)
      rw [bat_drop, ← hj, e] at this
      cases this
    have hown := hown.ch cw (fun k9 hk9 e9 => by have := (hown.lt hk9).1; (try dsimp only at e9); omega)
    have hcl := hcl.trans cw (H := fun _ => False) (fun _ _ e => e) (fun q hq e => by first | exact False.elim e | ((try dsimp only at e); omega))
    have hxm := lt_of_blk hm
    refine WL.e3 Nx.thn 0 4 5 (lt rfl (lt rfl (s0))) (lt rfl (lt rfl (s4))) (lt rfl (lt rfl (s5))) ?_
    intro σ7 s0 s4 s5
    refine W.seq ?_
    refine W.region ?_
    refine WL.x (X.mv (s5)) rfl ?_
    refine WL.x (X.nilck (lh)) rfl ?_
    refine WL.x (X.fieldAddr fd48_1 (lh)) rfl ?_
    refine WL.x (X.load pl3 (lh) (by first | assumption | exact cw.at (by assumption) (by intro hne; first | exact hne | ((try dsimp only at hne); omega)) | exact cw.at (hcl.at0 (by assumption)) (by intro hne; first | exact hne | ((try dsimp only at hne); omega)) | exact cw.at (hcl.at0 (cu4_2.at0 (by assumption))) (by intro hne; first | exact hne | ((try dsimp only at hne); omega))) (by first | rfl | assumption)) rfl ?_
    refine WL.x (X.build bd29 (pcons (lh) pnil) rfl (rfl : _ = [_, _, _, _])) rfl ?_
    refine WL.alloc el29 rfl ?_
    intro w4 u1
    have ht0 := u1.at_
    have cu6_5 := u1.ch
    have zu6_5 := u1.size
    refine WL.storeS ag29 (lh) (lt rfl (lh)) rfl rfl ht0 (by first | decide | (simp; done)) ?_
    intro w5 us
    have htk : w5.heap[w3.heap.size]? = some (.cells (ftk (0, (j : Int), ⟨#[]⟩, 0)).toArray 29 (0, 0)) := us.at_
    have cst0 := us.ch
    have hm := cst0.at (cu6_5.at0 hm) (fun e => by (try dsimp only at e); omega)
    have hxt : ∀ {w9 : World} {l9 : List Tok}, OwnF 4 ftk w9 (w.heap.size + 1) 29 lv l9 → ∀ k9, slBlk lv k9 → ¬ k9 = w3.heap.size := fun _ k9 hk9 e9 => by have := (hown.lt hk9).2; omega
    have hown := (hown.ch0 cu6_5).ch cst0 (hxt hown)
    have hcl := (hcl.trans0 cu6_5).trans cst0 (H := fun _ => False) (fun _ _ e => e) (fun q hq e => by first | exact False.elim e | ((try dsimp only at e); omega))
    refine WL.e4 Nx.thn 0 4 5 6 (lt rfl (lt rfl (lt rfl (lt rfl (lt rfl (lt rfl (s0))))))) (lt rfl (lt rfl (lt rfl (lt rfl (lt rfl (lt rfl (s4))))))) (lt rfl (lt rfl (lt rfl (lt rfl (lt rfl (lt rfl (s5))))))) (lh) ?_
    intro σ8 s0 s4 s5 s6
    have qo3 := s0
    have qo4 := s4
    have qo5 := s5
    have qo6 := s6
    refine W.seqJ (fun σ' w' => (σ' 0 = σ8 0 ∧ σ' 4 = σ8 4 ∧ σ' 5 = σ8 5 ∧ σ' 6 = σ8 6 ∧ True) ∧ ∃ tk k, w'.heap[w3.heap.size]? = some (.cells (ftk tk).toArray 29 (0, 0)) ∧ w'.heap[w.heap.size]? = some (.cells #[.string s, .int .i64 ((j + k : Nat) : Int)] 48 (0, 0)) ∧ tokL j ((sb s).drop j) = .ok (tk, k) ∧ j < s.size ∧ (∀ k9, slBlk lv k9 → k9 ≠ w3.heap.size) ∧ OwnF 4 ftk w' (w.heap.size + 1) 29 lv acc ∧ Ch0 w w') ?_ ?_
    · refine W.seq ?_
      refine W.region ?_
      refine WL.x (X.mv (s5)) rfl ?_
      refine WL.call2 ce22 (lh) lc (peek0_ok w.heap.size s j w5 hm hjs hsz) rfl ?_
      rintro _ w6 ⟨rfl, p1⟩
      have cp1 := p1.ch0
      have hm := cp1.at0 hm
      have htk := cp1.at0 htk
      have hown := hown.ch0 cp1
      have hcl := hcl.trans0 cp1
      refine WL.x (X.asg (lh)) rfl ?_
      refine WL.e5 Nx.thn 0 4 5 6 7 (lt rfl (lt rfl (lt rfl (s0)))) (lt rfl (lt rfl (lt rfl (s4)))) (lt rfl (lt rfl (lt rfl (s5)))) (lt rfl (lt rfl (lt rfl (s6)))) (lh) ?_
      intro σ9 s0 s4 s5 s6 s7
      refine W.block ?_
      refine W.seq ?_
      refine W.region ?_
      refine WL.x (X.mv (s5)) rfl ?_
      refine WL.x (X.nilck (lh)) rfl ?_
      refine WL.x (X.fieldAddr fd48_1 (lh)) rfl ?_
      refine WL.x (X.load pl3 (lh) (by first | assumption | exact cp1.at0 (by assumption) | exact cp1.at0 (cst0.at (by assumption) (by intro hne; first | exact hne | ((try dsimp only at hne); omega))) | exact cp1.at0 (cst0.at (cu6_5.at0 (by assumption)) (by intro hne; first | exact hne | ((try dsimp only at hne); omega))) | exact cp1.at0 (cst0.at (cu6_5.at0 (cw.at (by assumption) (by intro hne; first | exact hne | ((try dsimp only at hne); omega)))) (by intro hne; first | exact hne | ((try dsimp only at hne); omega))) | exact cp1.at0 (cst0.at (cu6_5.at0 (cw.at (hcl.at0 (by assumption)) (by intro hne; first | exact hne | ((try dsimp only at hne); omega)))) (by intro hne; first | exact hne | ((try dsimp only at hne); omega))) | exact cp1.at0 (cst0.at (cu6_5.at0 (cw.at (hcl.at0 (cu4_2.at0 (by assumption))) (by intro hne; first | exact hne | ((try dsimp only at hne); omega)))) (by intro hne; first | exact hne | ((try dsimp only at hne); omega)))) (by first | rfl | assumption)) rfl ?_
      refine WL.x (X.mv (lt rfl (lt rfl (lt rfl (lt rfl (s0)))))) rfl ?_
      refine WL.x (X.lenSt Tryd.underlying9 (lh)) rfl ?_
      refine WL.x (X.eql (lt rfl (lt rfl (lh))) (lh)) rfl ?_
      refine WL.x (X.asg (lh)) rfl ?_
      refine WL.e6 Nx.thn 0 4 5 6 7 33 (lt rfl (lt rfl (lt rfl (lt rfl (lt rfl (lt rfl (lt rfl (lt rfl (s0))))))))) (lt rfl (lt rfl (lt rfl (lt rfl (lt rfl (lt rfl (lt rfl (lt rfl (s4))))))))) (lt rfl (lt rfl (lt rfl (lt rfl (lt rfl (lt rfl (lt rfl (lt rfl (s5))))))))) (lt rfl (lt rfl (lt rfl (lt rfl (lt rfl (lt rfl (lt rfl (lt rfl (s6))))))))) (lt rfl (lt rfl (lt rfl (lt rfl (lt rfl (lt rfl (lt rfl (lt rfl (s7))))))))) (lh) ?_
      intro σ10 s0 s4 s5 s6 s7 s33
      refine W.cndp s33 (fun hend => ?_) (fun hend => ?_)
      · refine W.exit (Nx.xblk' rfl (Nx.xthn (Nx.xblk' rfl (Nx.xthn (Nx.xblk Nx.thn))))) ?_
        refine W.seq ?_
        refine W.region ?_
        refine WL.x (X.mv (s4)) rfl ?_
        refine WL.x (X.asg (lh)) rfl ?_
        refine WL.x (X.asg lc) rfl ?_
        refine WL.e2 Nx.thn 2 3 (lt rfl (lh)) (lh) ?_
        intro σ11 s2 s3
        refine W.ret2 (Nx.ngR Nx.f2) s2 s3 ?_
        have hjn : j = s.size := by omega
        subst hjn
        exact ⟨.inl ⟨acc, _, by rw [scanA_X hsz]; exact hatj.fin, rfl, hown.lower (by omega), by have := hatj.2.2; omega⟩, hcl⟩
      · refine W.seq ?_
        refine W.region ?_
        refine WL.x (X.mv (s7)) rfl ?_
        refine WL.call1 ce23 (lh) (letter_fn _ w6) rfl ?_
        rintro _ _ ⟨rfl, rfl⟩
        refine WL.x (X.asg (lh)) rfl ?_
        refine WL.e6 Nx.thn 0 4 5 6 7 41 (lt rfl (lt rfl (lt rfl (s0)))) (lt rfl (lt rfl (lt rfl (s4)))) (lt rfl (lt rfl (lt rfl (s5)))) (lt rfl (lt rfl (lt rfl (s6)))) (lt rfl (lt rfl (lt rfl (s7)))) (lh) ?_
        intro σ12 s0 s4 s5 s6 s7 s41
        refine W.cnd s41 (fun hlow => ?_) (fun hlow => ?_)
        · refine W.region ?_
          refine WL.x (X.mv (s5)) rfl ?_
          refine WL.call2 ce20 (lh) lf (while_ok w.heap.size 24 innN s (j) w6 ce24 (fun c w0 _ => inner_fn c w0) hm (by omega) (by omega)) rfl ?_
          rintro _ w7 ⟨rfl, hm, cw2⟩
          have htk := cw2.at htk (fun e => by (try dsimp only at e); omega)
          have hown := hown.ch cw2 (fun k9 hk9 e9 => by have := (hown.lt hk9).1; (try dsimp only at e9); omega)
          have hcl := hcl.trans cw2 (H := fun _ => False) (fun _ _ e => e) (fun q hq e => by first | exact False.elim e | ((try dsimp only at e); omega))
          refine WL.x (X.fieldAddr fd29_0 (lt rfl (lt rfl (s6)))) rfl ?_
          have hzt := lt_of_blk htk
          refine WL.store el3 (lh) lc rfl htk (by simp [ftk]) ?_
          intro w8 us
          have htk : w8.heap[w3.heap.size]? = some (.cells (ftk (1, (j : Int), ⟨#[]⟩, 0)).toArray 29 (0, 0)) := us.at_
          have ct1 := us.ch
          have hm := ct1.at hm (fun e => by (try dsimp only at e); omega)
          have hown := hown.ch ct1 (hxt hown)
          have hcl := hcl.trans ct1 (H := fun _ => False) (fun _ _ e => e) (fun q hq e => by first | exact False.elim e | ((try dsimp only at e); omega))
          refine WL.x (X.fieldAddr fd29_2 (lt rfl (lt rfl (lt rfl (s6))))) rfl ?_
          have hzt := lt_of_blk htk
          refine WL.store el9 (lh) (lt rfl (lt rfl (lh))) rfl htk (by simp [ftk]) ?_
          intro w9 us
          have htk : w9.heap[w3.heap.size]? = some (.cells (ftk (1, (j : Int), s.extract j (j + run innN ((sb s).drop j)), 0)).toArray 29 (0, 0)) := us.at_
          have ct2 := us.ch
          have hm := ct2.at hm (fun e => by (try dsimp only at e); omega)
          have hown := hown.ch ct2 (hxt hown)
          have hcl := hcl.trans ct2 (H := fun _ => False) (fun _ _ e => e) (fun q hq e => by first | exact False.elim e | ((try dsimp only at e); omega))
          refine WL.e4 (Nx.blk Nx.thn) 0 4 5 6 (lt rfl (lt rfl (lt rfl (lt rfl (s0))))) (lt rfl (lt rfl (lt rfl (lt rfl (s4))))) (lt rfl (lt rfl (lt rfl (lt rfl (s5))))) (lt rfl (lt rfl (lt rfl (lt rfl (s6))))) ?_
          intro σ13 s0 s4 s5 s6
          refine ⟨⟨s0.trans qo3.symm, s4.trans qo4.symm, s5.trans qo5.symm, s6.trans qo6.symm, trivial⟩, _, _, htk, hm, tokL_word hlow, bat_in (fun e => by rw [e] at hlow; cases hlow), hxt hown, hown, hcl⟩
        · refine W.seq ?_
          refine W.seq ?_
          refine W.region ?_
          refine WL.x (X.mv (s7)) rfl ?_
          refine WL.call1 ce25 (lh) (digit_fn _ w6) rfl ?_
          rintro _ _ ⟨rfl, rfl⟩
          refine WL.x (X.asg (lh)) rfl ?_
          refine WL.e6 Nx.thn 0 4 5 6 7 48 (lt rfl (lt rfl (lt rfl (s0)))) (lt rfl (lt rfl (lt rfl (s4)))) (lt rfl (lt rfl (lt rfl (s5)))) (lt rfl (lt rfl (lt rfl (s6)))) (lt rfl (lt rfl (lt rfl (s7)))) (lh) ?_
          intro σ14 s0 s4 s5 s6 s7 s48
          refine W.cnd s48 (fun hd => ?_) (fun hd => ?_)
          · refine W.skip Nx.thn ?_
            refine W.cndBT s48 (hd) ?_
            refine W.seq ?_
            refine W.region ?_
            refine WL.x (X.mv (s5)) rfl ?_
            refine WL.call1 ce26 (lh) (number_ok w.heap.size s j w6 hm (bat_in (by first | (unfold digN at hd; have := of_decide_eq_true hd; omega) | omega)) hsz (hER.ch0 hcl) (by omega) (by first | exact .inl hd | exact .inr ⟨by omega, hd⟩)) rfl ?_
            rintro v1 w10 ⟨hnr, cn⟩
            obtain ⟨tn, en, rfl, hie, hn1, hn2⟩ := hnr.cases
            have htk := cn.at htk (fun e => by (try dsimp only at e); omega)
            have hown := hown.ch cn (fun k9 hk9 e9 => by have := (hown.lt hk9).1; (try dsimp only at e9); omega)
            have hcl := hcl.trans cn (H := fun _ => False) (fun _ _ e => e) (fun q hq e => by first | exact False.elim e | ((try dsimp only at e); omega))
            have hlow2 : lowN (bat (sb s) j) = false := hlow
            have hnum9 : digN (bat (sb s) j) = true ∨ (bat (sb s) j = 45 ∧ digN (bat (sb s) (j + 1)) = true) := by first | exact .inl hd | exact .inr ⟨by omega, hd⟩
            have hjl : j < s.size := bat_in (by rcases hnum9 with e | e; (· unfold digN at e; have := of_decide_eq_true e; omega); (· omega))
            have htl := tokL_num hlow2 hnum9
            refine WL.x (X.mv (lh)) rfl ?_
            refine WL.x (X.ex2_0 (lh)) rfl ?_
            refine WL.x (X.ex2_1 (lt rfl (lh))) rfl ?_
            refine WL.alloc el29 rfl ?_
            intro w11 u2
            have ht8 := u2.at_
            have cu14_5 := u2.ch
            have zu14_5 := u2.size
            have hm9 := cu14_5.at0 htk
            have hzt9 := lt_of_blk htk
            refine WL.storeS (vs := ftk tn) ag29 (lh) (lt rfl (lt rfl (lh))) (List.all_eq_true.2 (ftk_one tn)) rfl ht8 (by first | decide | (simp; done)) ?_
            intro w12 us
            have ht8b := show (w12.heap[(_ : Nat)]? = some (Obj.cells (ftk tn).toArray 29 (0, 0))) from us.at_
            have cst8 := us.ch
            have hm8 : isNil en = true → ∃ k, numL ((sb s).drop j) = .ok (k, tn.2.2.2) ∧ j + k ≤ s.size ∧ tn = (2, (j : Int), s.extract j (j + k), tn.2.2.2) ∧ w12.heap[w.heap.size]? = some (.cells #[.string s, .int .i64 ((j + k : Nat) : Int)] 48 (0, 0)) := fun e => by
              obtain ⟨k, a1, a2, a3, a4⟩ := hn1 e
              exact ⟨k, a1, a2, a3, cst8.at (cu14_5.at0 a4) (fun e => by (try dsimp only at e); have := lt_of_blk a4; omega)⟩
            have htk := cst8.at (cu14_5.at0 htk) (fun e => by (try dsimp only at e); omega)
            have hown := (hown.ch0 cu14_5).ch cst8 (fun k9 hk9 e9 => by have := (hown.lt hk9).2; (try dsimp only at e9); omega)
            have hcl := (hcl.trans0 cu14_5).trans cst8 (H := fun _ => False) (fun _ _ e => e) (fun q hq e => by first | exact False.elim e | ((try dsimp only at e); omega))
            refine WL.x (X.asg (lt rfl (lh))) rfl ?_
            refine WL.e6 Nx.thn 0 4 5 6 8 9 (lt rfl (lt rfl (lt rfl (lt rfl (lt rfl (lt rfl (lt rfl (s0)))))))) (lt rfl (lt rfl (lt rfl (lt rfl (lt rfl (lt rfl (lt rfl (s4)))))))) (lt rfl (lt rfl (lt rfl (lt rfl (lt rfl (lt rfl (lt rfl (s5)))))))) (lt rfl (lt rfl (lt rfl (lt rfl (lt rfl (lt rfl (lt rfl (s6)))))))) (lt rfl (lh)) (lh) ?_
            intro σ15 s0 s4 s5 s6 s8 s9
            refine W.seq ?_
            refine W.seq ?_
            refine W.region ?_
            refine WL.x (X.mv (s9)) rfl ?_
            refine WL.x (X.neqI Tryd.underlying25 (lh) (by first | exact .inl rfl | exact .inr ⟨_, _, rfl⟩ | assumption)) rfl ?_
            refine WL.e7 Nx.thn 0 4 5 6 8 9 64 (lt rfl (lt rfl (s0))) (lt rfl (lt rfl (s4))) (lt rfl (lt rfl (s5))) (lt rfl (lt rfl (s6))) (lt rfl (lt rfl (s8))) (lt rfl (lt rfl (s9))) (lh) ?_
            intro σ16 s0 s4 s5 s6 s8 s9 s64
            refine W.cnd s64 (fun he => ?_) (fun he => ?_)
            · refine W.seq ?_
              refine W.region ?_
              refine WL.x (X.mv (s9)) rfl ?_
              refine WL.x (X.asg lc) rfl ?_
              refine WL.x (X.asg (lt rfl (lh))) rfl ?_
              refine WL.e2 Nx.thn 2 3 (lt rfl (lh)) (lh) ?_
              intro σ17 s2 s3
              refine W.ret2 (Nx.rthn (Nx.rblk (Nx.rthn (Nx.rblk (Nx.rthn (Nx.rblk (Nx.rthn (Nx.ngR Nx.f2)))))))) s2 s3 ?_
              obtain ⟨k, e9, h1, rfl⟩ := hn2 (by simpa using he)
              exact ⟨.inr ⟨j + k, e9, by rw [scanA_X hsz]; exact hatj.err hjl hb (by rw [htl, h1]), rfl⟩, hcl⟩
            · refine W.skip Nx.thn ?_
              refine W.region ?_
              refine WL.x (X.loadBox (vs := ftk tn) ag29 (s8) ht8b rfl) rfl ?_
              refine WL.storeS (vs := ftk tn) ag29 (lt rfl (s6)) (lh) (List.all_eq_true.2 (ftk_one tn)) rfl htk (by first | decide | (simp [ftk]; done)) ?_
              intro w13 us
              have htk : w13.heap[w3.heap.size]? = some (.cells (ftk tn).toArray 29 (0, 0)) := us.at_
              have cst9 := us.ch
              obtain ⟨kn, hkt, hm⟩ := num_tok htl (hm8 (by simpa using he))
              have hm := cst9.at hm (fun e => by (try dsimp only at e); omega)
              have hown := hown.ch cst9 (hxt hown)
              have hcl := hcl.trans cst9 (H := fun _ => False) (fun _ _ e => e) (fun q hq e => by first | exact False.elim e | ((try dsimp only at e); omega))
              refine WL.e4 (Nx.blk Nx.thn) 0 4 5 6 (lt rfl (s0)) (lt rfl (s4)) (lt rfl (s5)) (lt rfl (s6)) ?_
              intro σ18 s0 s4 s5 s6
              refine ⟨⟨s0.trans qo3.symm, s4.trans qo4.symm, s5.trans qo5.symm, s6.trans qo6.symm, trivial⟩, tn, kn, htk, hm, hkt, hjl, hxt hown, hown, hcl⟩
          · first | have hd0 : digN (bat (sb s) j) = false := hd | have hd1 := hd
            refine W.region ?_
            refine WL.x (X.mv (s7)) rfl ?_
            refine WL.x (X.eql (lh) lc) rfl ?_
            refine WL.x (X.mv (lh)) rfl ?_
            refine WL.splitp (lh) (fun hneg => ?_) (fun hneg => ?_)
            · refine WL.yes rfl rfl (lh) (decide_eq_true hneg) ?_
              refine WL.x (X.mv (lt rfl (lt rfl (lt rfl (s5))))) rfl ?_
              refine WL.yes rfl rfl (lt rfl (lh)) (decide_eq_true hneg) ?_
              refine WL.call2 ce22 (lh) lc (peek1_ok w.heap.size s j w6 hm hjs hsz) rfl ?_
              rintro _ w14 ⟨rfl, p2⟩
              have cp2 := p2.ch0
              have hm := cp2.at0 hm
              have htk := cp2.at0 htk
              have hown := hown.ch0 cp2
              have hcl := hcl.trans0 cp2
              refine WL.yes rfl rfl (lt rfl (lt rfl (lh))) (decide_eq_true hneg) ?_
              refine WL.call1 ce25 (lh) (digit_fn _ w14) rfl ?_
              rintro _ _ ⟨rfl, rfl⟩
              refine WL.x (X.pickT (lt rfl (lt rfl (lt rfl (lh)))) (decide_eq_true hneg) (lh)) rfl ?_
              refine WL.x (X.asg (lh)) rfl ?_
              refine WL.e6 Nx.thn 0 4 5 6 7 48 (lt rfl (lt rfl (lt rfl (lt rfl (lt rfl (lt rfl (lt rfl (lt rfl (s0))))))))) (lt rfl (lt rfl (lt rfl (lt rfl (lt rfl (lt rfl (lt rfl (lt rfl (s4))))))))) (lt rfl (lt rfl (lt rfl (lt rfl (lt rfl (lt rfl (lt rfl (lt rfl (s5))))))))) (lt rfl (lt rfl (lt rfl (lt rfl (lt rfl (lt rfl (lt rfl (lt rfl (s6))))))))) (lt rfl (lt rfl (lt rfl (lt rfl (lt rfl (lt rfl (lt rfl (lt rfl (s7))))))))) (lh) ?_
              intro σ19 s0 s4 s5 s6 s7 s48
              refine W.cnd s48 (fun hd => ?_) (fun hd => ?_)
              · refine W.seq ?_
                refine W.region ?_
                refine WL.x (X.mv (s5)) rfl ?_
                refine WL.call1 ce26 (lh) (number_ok w.heap.size s j w14 hm (bat_in (by first | (unfold digN at hd; have := of_decide_eq_true hd; omega) | omega)) hsz (hER.ch0 hcl) (by omega) (by first | exact .inl hd | exact .inr ⟨by omega, hd⟩)) rfl ?_
                rintro v1 w15 ⟨hnr, cn⟩
                obtain ⟨tn, en, rfl, hie, hn1, hn2⟩ := hnr.cases
                have htk := cn.at htk (fun e => by (try dsimp only at e); omega)
                have hown := hown.ch cn (fun k9 hk9 e9 => by have := (hown.lt hk9).1; (try dsimp only at e9); omega)
                have hcl := hcl.trans cn (H := fun _ => False) (fun _ _ e => e) (fun q hq e => by first | exact False.elim e | ((try dsimp only at e); omega))
                have hlow2 : lowN (bat (sb s) j) = false := hlow
                have hnum9 : digN (bat (sb s) j) = true ∨ (bat (sb s) j = 45 ∧ digN (bat (sb s) (j + 1)) = true) := by first | exact .inl hd | exact .inr ⟨by omega, hd⟩
                have hjl : j < s.size := bat_in (by rcases hnum9 with e | e; (· unfold digN at e; have := of_decide_eq_true e; omega); (· omega))
                have htl := tokL_num hlow2 hnum9
                refine WL.x (X.mv (lh)) rfl ?_
                refine WL.x (X.ex2_0 (lh)) rfl ?_
                refine WL.x (X.ex2_1 (lt rfl (lh))) rfl ?_
                refine WL.alloc el29 rfl ?_
                intro w16 u2
                have ht8 := u2.at_
                have cu14_5 := u2.ch
                have zu14_5 := u2.size
                have hm9 := cu14_5.at0 htk
                have hzt9 := lt_of_blk htk
                refine WL.storeS (vs := ftk tn) ag29 (lh) (lt rfl (lt rfl (lh))) (List.all_eq_true.2 (ftk_one tn)) rfl ht8 (by first | decide | (simp; done)) ?_
                intro w17 us
                have ht8b := show (w17.heap[(_ : Nat)]? = some (Obj.cells (ftk tn).toArray 29 (0, 0))) from us.at_
                have cst8 := us.ch
                have hm8 : isNil en = true → ∃ k, numL ((sb s).drop j) = .ok (k, tn.2.2.2) ∧ j + k ≤ s.size ∧ tn = (2, (j : Int), s.extract j (j + k), tn.2.2.2) ∧ w17.heap[w.heap.size]? = some (.cells #[.string s, .int .i64 ((j + k : Nat) : Int)] 48 (0, 0)) := fun e => by
                  obtain ⟨k, a1, a2, a3, a4⟩ := hn1 e
                  exact ⟨k, a1, a2, a3, cst8.at (cu14_5.at0 a4) (fun e => by (try dsimp only at e); have := lt_of_blk a4; omega)⟩
                have htk := cst8.at (cu14_5.at0 htk) (fun e => by (try dsimp only at e); omega)
                have hown := (hown.ch0 cu14_5).ch cst8 (fun k9 hk9 e9 => by have := (hown.lt hk9).2; (try dsimp only at e9); omega)
                have hcl := (hcl.trans0 cu14_5).trans cst8 (H := fun _ => False) (fun _ _ e => e) (fun q hq e => by first | exact False.elim e | ((try dsimp only at e); omega))
                refine WL.x (X.asg (lt rfl (lh))) rfl ?_
                refine WL.e6 Nx.thn 0 4 5 6 8 9 (lt rfl (lt rfl (lt rfl (lt rfl (lt rfl (lt rfl (lt rfl (s0)))))))) (lt rfl (lt rfl (lt rfl (lt rfl (lt rfl (lt rfl (lt rfl (s4)))))))) (lt rfl (lt rfl (lt rfl (lt rfl (lt rfl (lt rfl (lt rfl (s5)))))))) (lt rfl (lt rfl (lt rfl (lt rfl (lt rfl (lt rfl (lt rfl (s6)))))))) (lt rfl (lh)) (lh) ?_
                intro σ20 s0 s4 s5 s6 s8 s9
                refine W.seq ?_
                refine W.seq ?_
                refine W.region ?_
                refine WL.x (X.mv (s9)) rfl ?_
                refine WL.x (X.neqI Tryd.underlying25 (lh) (by first | exact .inl rfl | exact .inr ⟨_, _, rfl⟩ | assumption)) rfl ?_
                refine WL.e7 Nx.thn 0 4 5 6 8 9 64 (lt rfl (lt rfl (s0))) (lt rfl (lt rfl (s4))) (lt rfl (lt rfl (s5))) (lt rfl (lt rfl (s6))) (lt rfl (lt rfl (s8))) (lt rfl (lt rfl (s9))) (lh) ?_
                intro σ21 s0 s4 s5 s6 s8 s9 s64
                refine W.cnd s64 (fun he => ?_) (fun he => ?_)
                · refine W.seq ?_
                  refine W.region ?_
                  refine WL.x (X.mv (s9)) rfl ?_
                  refine WL.x (X.asg lc) rfl ?_
                  refine WL.x (X.asg (lt rfl (lh))) rfl ?_
                  refine WL.e2 Nx.thn 2 3 (lt rfl (lh)) (lh) ?_
                  intro σ22 s2 s3
                  refine W.ret2 (Nx.rthn (Nx.rblk (Nx.rthn (Nx.rblk (Nx.rthn (Nx.rblk (Nx.rthn (Nx.ngR Nx.f2)))))))) s2 s3 ?_
                  obtain ⟨k, e9, h1, rfl⟩ := hn2 (by simpa using he)
                  exact ⟨.inr ⟨j + k, e9, by rw [scanA_X hsz]; exact hatj.err hjl hb (by rw [htl, h1]), rfl⟩, hcl⟩
                · refine W.skip Nx.thn ?_
                  refine W.region ?_
                  refine WL.x (X.loadBox (vs := ftk tn) ag29 (s8) ht8b rfl) rfl ?_
                  refine WL.storeS (vs := ftk tn) ag29 (lt rfl (s6)) (lh) (List.all_eq_true.2 (ftk_one tn)) rfl htk (by first | decide | (simp [ftk]; done)) ?_
                  intro w18 us
                  have htk : w18.heap[w3.heap.size]? = some (.cells (ftk tn).toArray 29 (0, 0)) := us.at_
                  have cst9 := us.ch
                  obtain ⟨kn, hkt, hm⟩ := num_tok htl (hm8 (by simpa using he))
                  have hm := cst9.at hm (fun e => by (try dsimp only at e); omega)
                  have hown := hown.ch cst9 (hxt hown)
                  have hcl := hcl.trans cst9 (H := fun _ => False) (fun _ _ e => e) (fun q hq e => by first | exact False.elim e | ((try dsimp only at e); omega))
                  refine WL.e4 (Nx.blk Nx.thn) 0 4 5 6 (lt rfl (s0)) (lt rfl (s4)) (lt rfl (s5)) (lt rfl (s6)) ?_
                  intro σ23 s0 s4 s5 s6
                  refine ⟨⟨s0.trans qo3.symm, s4.trans qo4.symm, s5.trans qo5.symm, s6.trans qo6.symm, trivial⟩, tn, kn, htk, hm, hkt, hjl, hxt hown, hown, hcl⟩
              · first | have hd0 : digN (bat (sb s) j) = false := hd | have hd1 := hd
                refine W.seq ?_
                refine W.seq ?_
                refine W.region ?_
                refine WL.x (X.mv (s7)) rfl ?_
                refine WL.x (X.eql (lh) lc) rfl ?_
                refine WL.x (X.asg (lh)) rfl ?_
                refine WL.e6 Nx.thn 0 4 5 6 7 67 (lt rfl (lt rfl (lt rfl (s0)))) (lt rfl (lt rfl (lt rfl (s4)))) (lt rfl (lt rfl (lt rfl (s5)))) (lt rfl (lt rfl (lt rfl (s6)))) (lt rfl (lt rfl (lt rfl (s7)))) (lh) ?_
                intro σ24 s0 s4 s5 s6 s7 s67
                refine W.cndp s67 (fun hmk => ?_) (fun hmk => ?_)
                · refine W.skip Nx.thn ?_
                  refine W.cndBT s67 (decide_eq_true hmk) ?_
                  refine W.seq ?_
                  refine W.region ?_
                  refine WL.x (X.fieldAddr fd29_0 (s6)) rfl ?_
                  have hzt := lt_of_blk htk
                  refine WL.store el3 (lh) lc rfl htk (by simp [ftk]) ?_
                  intro w19 us
                  have htk : w19.heap[w3.heap.size]? = some (.cells (ftk (3, (j : Int), ⟨#[]⟩, 0)).toArray 29 (0, 0)) := us.at_
                  have ct3 := us.ch
                  have hm := ct3.at hm (fun e => by (try dsimp only at e); omega)
                  have hown := hown.ch ct3 (hxt hown)
                  have hcl := hcl.trans ct3 (H := fun _ => False) (fun _ _ e => e) (fun q hq e => by first | exact False.elim e | ((try dsimp only at e); omega))
                  refine WL.e5 Nx.thn 0 4 5 6 7 (lt rfl (s0)) (lt rfl (s4)) (lt rfl (s5)) (lt rfl (s6)) (lt rfl (s7)) ?_
                  intro σ25 s0 s4 s5 s6 s7
                  have qo7 := s0
                  have qo8 := s4
                  have qo9 := s5
                  have qo10 := s6
                  refine W.seqJ (fun σ' w' => (σ' 0 = σ25 0 ∧ σ' 4 = σ25 4 ∧ σ' 5 = σ25 5 ∧ σ' 6 = σ25 6 ∧ True) ∧ w'.heap[w3.heap.size]? = some (.cells (ftk ((if bat (sb s) j = 10 then 4 else 3 : Int), (j : Int), ⟨#[]⟩, 0)).toArray 29 (0, 0)) ∧ w'.heap[w.heap.size]? = some (.cells #[.string s, .int .i64 ((j : Nat) : Int)] 48 (0, 0)) ∧ (markN (bat (sb s) j) = true ∨ bat (sb s) j = 10) ∧ OwnF 4 ftk w' (w.heap.size + 1) 29 lv acc ∧ Ch0 w w') ?_ ?_
                  · refine W.seq ?_
                    refine W.region ?_
                    refine WL.x (X.mv (s7)) rfl ?_
                    refine WL.x (X.eql (lh) lc) rfl ?_
                    refine WL.e5 Nx.thn 0 4 5 6 75 (lt rfl (lt rfl (s0))) (lt rfl (lt rfl (s4))) (lt rfl (lt rfl (s5))) (lt rfl (lt rfl (s6))) (lh) ?_
                    intro σ26 s0 s4 s5 s6 s75
                    refine W.cndp s75 (fun h10 => ?_) (fun h10 => ?_)
                    · refine W.region ?_
                      refine WL.x (X.fieldAddr fd29_0 (s6)) rfl ?_
                      have hzt := lt_of_blk htk
                      refine WL.store el3 (lh) lc rfl htk (by simp [ftk]) ?_
                      intro w20 us
                      have htk : w20.heap[w3.heap.size]? = some (.cells (ftk (4, (j : Int), ⟨#[]⟩, 0)).toArray 29 (0, 0)) := us.at_
                      have ct4 := us.ch
                      have hm := ct4.at hm (fun e => by (try dsimp only at e); omega)
                      have hown := hown.ch ct4 (hxt hown)
                      have hcl := hcl.trans ct4 (H := fun _ => False) (fun _ _ e => e) (fun q hq e => by first | exact False.elim e | ((try dsimp only at e); omega))
                      refine WL.e4 Nx.thn 0 4 5 6 (lt rfl (s0)) (lt rfl (s4)) (lt rfl (s5)) (lt rfl (s6)) ?_
                      intro σ27 s0 s4 s5 s6
                      refine ⟨⟨s0.trans qo7.symm, s4.trans qo8.symm, s5.trans qo9.symm, s6.trans qo10.symm, trivial⟩, (by rw [if_pos (by omega)]; exact htk), hm, .inr (by omega), hown, hcl⟩
                    · refine W.skip Nx.thn ?_
                      refine ⟨⟨s0.trans qo7.symm, s4.trans qo8.symm, s5.trans qo9.symm, s6.trans qo10.symm, trivial⟩, (by rw [if_neg (by omega)]; exact htk), hm, (by first | exact .inl (by rw [← hz9]; exact hmk) | exact .inl (by rw [← hz9]; exact decide_eq_true hmk) | exact .inr (by omega)), hown, hcl⟩
                  · rintro σ28 w21 ⟨⟨f0, f4, f5, f6, _⟩, htk, hm, hmk9, hown, hcl⟩
                    have s0 := f0.trans qo7
                    have s4 := f4.trans qo8
                    have s5 := f5.trans qo9
                    have s6 := f6.trans qo10
                    refine W.seq ?_
                    refine W.region ?_
                    refine WL.x (X.mv (s5)) rfl ?_
                    refine WL.x (X.nilck (lh)) rfl ?_
                    refine WL.x (X.fieldAddr fd48_1 (lh)) rfl ?_
                    refine WL.x (X.load pl3 (lh) (by first | assumption | exact ct3.at (by assumption) (by intro hne; first | exact hne | ((try dsimp only at hne); omega)) | exact ct3.at (cp2.at0 (by assumption)) (by intro hne; first | exact hne | ((try dsimp only at hne); omega)) | exact ct3.at (cp2.at0 (cp1.at0 (by assumption))) (by intro hne; first | exact hne | ((try dsimp only at hne); omega)) | exact ct3.at (cp2.at0 (cp1.at0 (cst0.at (by assumption) (by intro hne; first | exact hne | ((try dsimp only at hne); omega))))) (by intro hne; first | exact hne | ((try dsimp only at hne); omega)) | exact ct3.at (cp2.at0 (cp1.at0 (cst0.at (cu6_5.at0 (by assumption)) (by intro hne; first | exact hne | ((try dsimp only at hne); omega))))) (by intro hne; first | exact hne | ((try dsimp only at hne); omega)) | exact ct3.at (cp2.at0 (cp1.at0 (cst0.at (cu6_5.at0 (cw.at (by assumption) (by intro hne; first | exact hne | ((try dsimp only at hne); omega)))) (by intro hne; first | exact hne | ((try dsimp only at hne); omega))))) (by intro hne; first | exact hne | ((try dsimp only at hne); omega)) | exact ct3.at (cp2.at0 (cp1.at0 (cst0.at (cu6_5.at0 (cw.at (hcl.at0 (by assumption)) (by intro hne; first | exact hne | ((try dsimp only at hne); omega)))) (by intro hne; first | exact hne | ((try dsimp only at hne); omega))))) (by intro hne; first | exact hne | ((try dsimp only at hne); omega)) | exact ct3.at (cp2.at0 (cp1.at0 (cst0.at (cu6_5.at0 (cw.at (hcl.at0 (cu4_2.at0 (by assumption))) (by intro hne; first | exact hne | ((try dsimp only at hne); omega)))) (by intro hne; first | exact hne | ((try dsimp only at hne); omega))))) (by intro hne; first | exact hne | ((try dsimp only at hne); omega))) (by first | rfl | assumption)) rfl ?_
                    first | refine WL.x (X.add (lh) lc (by omega) (by omega)) rfl ?_ | refine WL.x (X.addw (lh) lc) rfl ?_
                    refine WL.x (X.nilck (lt rfl (lt rfl (lt rfl (lt rfl (lh)))))) rfl ?_
                    refine WL.x (X.fieldAddr fd48_1 (lh)) rfl ?_
                    refine WL.store el3 (lh) (lt rfl (lt rfl (lh))) rfl hm (by simp) ?_
                    intro w22 us
                    have hm : w22.heap[w.heap.size]? = some (.cells #[.string s, .int .i64 ((j + 1 : Nat) : Int)] 48 (0, 0)) := us.at_
                    have csx := us.ch
                    have htk := csx.at htk (fun e => by (try dsimp only at e); omega)
                    have hown := hown.ch csx (fun k9 hk9 e9 => by have := (hown.lt hk9).1; (try dsimp only at e9); omega)
                    have hcl := hcl.trans csx (H := fun _ => False) (fun _ _ e => e) (fun q hq e => by first | exact False.elim e | ((try dsimp only at e); omega))
                    refine WL.e4 Nx.thn 0 4 5 6 (lt rfl (lt rfl (lt rfl (lt rfl (lt rfl (lt rfl (lt rfl (s0)))))))) (lt rfl (lt rfl (lt rfl (lt rfl (lt rfl (lt rfl (lt rfl (s4)))))))) (lt rfl (lt rfl (lt rfl (lt rfl (lt rfl (lt rfl (lt rfl (s5)))))))) (lt rfl (lt rfl (lt rfl (lt rfl (lt rfl (lt rfl (lt rfl (s6)))))))) ?_
                    intro σ29 s0 s4 s5 s6
                    refine W.tail 9 mo (by kernel_rfl) ?_
                    intro w23 hh24 cd24 dr24
                    refine WS.x (X.mv (s0)) rfl ?_
                    refine WS.x (X.fieldAddr fd29_1 (lt rfl (s6))) rfl ?_
                    refine WS.x (X.load pl3 (lh) (by first | assumption | exact cd24.at0 (by assumption) | exact cd24.at0 (csx.at (by assumption) (by intro hne; first | exact hne | ((try dsimp only at hne); omega))) | exact cd24.at0 (csx.at (ct3.at (by assumption) (by intro hne; first | exact hne | ((try dsimp only at hne); omega))) (by intro hne; first | exact hne | ((try dsimp only at hne); omega))) | exact cd24.at0 (csx.at (ct3.at (cp2.at0 (by assumption)) (by intro hne; first | exact hne | ((try dsimp only at hne); omega))) (by intro hne; first | exact hne | ((try dsimp only at hne); omega))) | exact cd24.at0 (csx.at (ct3.at (cp2.at0 (cp1.at0 (by assumption))) (by intro hne; first | exact hne | ((try dsimp only at hne); omega))) (by intro hne; first | exact hne | ((try dsimp only at hne); omega))) | exact cd24.at0 (csx.at (ct3.at (cp2.at0 (cp1.at0 (cst0.at (by assumption) (by intro hne; first | exact hne | ((try dsimp only at hne); omega))))) (by intro hne; first | exact hne | ((try dsimp only at hne); omega))) (by intro hne; first | exact hne | ((try dsimp only at hne); omega))) | exact cd24.at0 (csx.at (ct3.at (cp2.at0 (cp1.at0 (cst0.at (cu6_5.at0 (by assumption)) (by intro hne; first | exact hne | ((try dsimp only at hne); omega))))) (by intro hne; first | exact hne | ((try dsimp only at hne); omega))) (by intro hne; first | exact hne | ((try dsimp only at hne); omega))) | exact cd24.at0 (csx.at (ct3.at (cp2.at0 (cp1.at0 (cst0.at (cu6_5.at0 (cw.at (by assumption) (by intro hne; first | exact hne | ((try dsimp only at hne); omega)))) (by intro hne; first | exact hne | ((try dsimp only at hne); omega))))) (by intro hne; first | exact hne | ((try dsimp only at hne); omega))) (by intro hne; first | exact hne | ((try dsimp only at hne); omega))) | exact cd24.at0 (csx.at (ct3.at (cp2.at0 (cp1.at0 (cst0.at (cu6_5.at0 (cw.at (hcl.at0 (by assumption)) (by intro hne; first | exact hne | ((try dsimp only at hne); omega)))) (by intro hne; first | exact hne | ((try dsimp only at hne); omega))))) (by intro hne; first | exact hne | ((try dsimp only at hne); omega))) (by intro hne; first | exact hne | ((try dsimp only at hne); omega))) | exact cd24.at0 (csx.at (ct3.at (cp2.at0 (cp1.at0 (cst0.at (cu6_5.at0 (cw.at (hcl.at0 (cu4_2.at0 (by assumption))) (by intro hne; first | exact hne | ((try dsimp only at hne); omega)))) (by intro hne; first | exact hne | ((try dsimp only at hne); omega))))) (by intro hne; first | exact hne | ((try dsimp only at hne); omega))) (by intro hne; first | exact hne | ((try dsimp only at hne); omega)))) (by first | rfl | assumption)) rfl ?_
                    refine WS.x (X.mv (lt rfl (lt rfl (lt rfl (s5))))) rfl ?_
                    refine WS.x (X.nilck (lh)) rfl ?_
                    refine WS.x (X.fieldAddr fd48_1 (lh)) rfl ?_
                    refine WS.x (X.load pl3 (lh) (by first | assumption | exact cd24.at0 (by assumption) | exact cd24.at0 (csx.at (by assumption) (by intro hne; first | exact hne | ((try dsimp only at hne); omega))) | exact cd24.at0 (csx.at (ct3.at (by assumption) (by intro hne; first | exact hne | ((try dsimp only at hne); omega))) (by intro hne; first | exact hne | ((try dsimp only at hne); omega))) | exact cd24.at0 (csx.at (ct3.at (cp2.at0 (by assumption)) (by intro hne; first | exact hne | ((try dsimp only at hne); omega))) (by intro hne; first | exact hne | ((try dsimp only at hne); omega))) | exact cd24.at0 (csx.at (ct3.at (cp2.at0 (cp1.at0 (by assumption))) (by intro hne; first | exact hne | ((try dsimp only at hne); omega))) (by intro hne; first | exact hne | ((try dsimp only at hne); omega))) | exact cd24.at0 (csx.at (ct3.at (cp2.at0 (cp1.at0 (cst0.at (by assumption) (by intro hne; first | exact hne | ((try dsimp only at hne); omega))))) (by intro hne; first | exact hne | ((try dsimp only at hne); omega))) (by intro hne; first | exact hne | ((try dsimp only at hne); omega))) | exact cd24.at0 (csx.at (ct3.at (cp2.at0 (cp1.at0 (cst0.at (cu6_5.at0 (by assumption)) (by intro hne; first | exact hne | ((try dsimp only at hne); omega))))) (by intro hne; first | exact hne | ((try dsimp only at hne); omega))) (by intro hne; first | exact hne | ((try dsimp only at hne); omega))) | exact cd24.at0 (csx.at (ct3.at (cp2.at0 (cp1.at0 (cst0.at (cu6_5.at0 (cw.at (by assumption) (by intro hne; first | exact hne | ((try dsimp only at hne); omega)))) (by intro hne; first | exact hne | ((try dsimp only at hne); omega))))) (by intro hne; first | exact hne | ((try dsimp only at hne); omega))) (by intro hne; first | exact hne | ((try dsimp only at hne); omega))) | exact cd24.at0 (csx.at (ct3.at (cp2.at0 (cp1.at0 (cst0.at (cu6_5.at0 (cw.at (hcl.at0 (by assumption)) (by intro hne; first | exact hne | ((try dsimp only at hne); omega)))) (by intro hne; first | exact hne | ((try dsimp only at hne); omega))))) (by intro hne; first | exact hne | ((try dsimp only at hne); omega))) (by intro hne; first | exact hne | ((try dsimp only at hne); omega))) | exact cd24.at0 (csx.at (ct3.at (cp2.at0 (cp1.at0 (cst0.at (cu6_5.at0 (cw.at (hcl.at0 (cu4_2.at0 (by assumption))) (by intro hne; first | exact hne | ((try dsimp only at hne); omega)))) (by intro hne; first | exact hne | ((try dsimp only at hne); omega))))) (by intro hne; first | exact hne | ((try dsimp only at hne); omega))) (by intro hne; first | exact hne | ((try dsimp only at hne); omega)))) (by first | rfl | assumption)) rfl ?_
                    first | refine WS.x (X.subN Tryd.underlying9 (lt rfl (lt rfl (lt rfl (lt rfl (lt rfl (lt rfl (lh))))))) (lt rfl (lt rfl (lt rfl (lt rfl (lh))))) (lh) (by omega) (by omega)) rfl ?_ | refine WS.x (X.subS Tryd.underlying9 (lt rfl (lt rfl (lt rfl (lt rfl (lt rfl (lt rfl (lh))))))) (lt rfl (lt rfl (lt rfl (lt rfl (lh))))) (lh) (by omega) (by omega) (by omega)) rfl ?_
                    refine WS.x (X.fieldAddr fd29_2 (lt rfl (lt rfl (lt rfl (lt rfl (lt rfl (lt rfl (lt rfl (lt rfl (s6)))))))))) rfl ?_
                    refine WS.nil ?_
                    show WL _ _ _ _ _ _ _
                    have hzt := lt_of_blk htk
                    have htk := cd24.at0 htk
                    have hm := cd24.at0 hm
                    have hown := hown.ch0 cd24
                    have hcl := hcl.trans0 cd24
                    have hzt := lt_of_blk htk
                    refine WL.store el9 (lh) (lt rfl (lh)) rfl htk (by simp [ftk]) ?_
                    intro w24 us
                    have htk : w24.heap[w3.heap.size]? = some (.cells (ftk ((if bat (sb s) j = 10 then 4 else 3 : Int), (j : Int), s.extract j (j + 1), 0)).toArray 29 (0, 0)) := us.at_
                    have ct5 := us.ch
                    have hm := ct5.at hm (fun e => by (try dsimp only at e); omega)
                    have hown := hown.ch ct5 (hxt hown)
                    have hcl := hcl.trans ct5 (H := fun _ => False) (fun _ _ e => e) (fun q hq e => by first | exact False.elim e | ((try dsimp only at e); omega))
                    refine WL.e4 (Nx.blk Nx.thn) 0 4 5 6 (lt rfl (lt rfl (lt rfl (lt rfl (lt rfl (lt rfl (lt rfl (lt rfl (lt rfl (s0)))))))))) (lt rfl (lt rfl (lt rfl (lt rfl (lt rfl (lt rfl (lt rfl (lt rfl (lt rfl (s4)))))))))) (lt rfl (lt rfl (lt rfl (lt rfl (lt rfl (lt rfl (lt rfl (lt rfl (lt rfl (s5)))))))))) (lt rfl (lt rfl (lt rfl (lt rfl (lt rfl (lt rfl (lt rfl (lt rfl (lt rfl (s6)))))))))) ?_
                    intro σ30 s0 s4 s5 s6
                    refine ⟨⟨s0.trans qo3.symm, s4.trans qo4.symm, s5.trans qo5.symm, s6.trans qo6.symm, trivial⟩, _, 1, htk, hm, tokL_mark (by omega) hmk9, by omega, hxt hown, hown, hcl⟩
                · first | (have hm10 : ¬ ((bat (sb s) j : Nat) : Int) = 10 := hmk) | (have hmz : ¬ 0 ≤ z9 := hmk)
                  refine W.region ?_
                  refine WL.x (X.mv (s7)) rfl ?_
                  refine WL.call2 ce27 lc (lh) (index_ok (bat (sb s) j) w14 (bat_lt _ _)) rfl ?_
                  rintro _ _ ⟨⟨z9, rfl, hz9⟩, rfl⟩
                  refine WL.x (X.geq (lh) lc) rfl ?_
                  refine WL.x (X.asg (lh)) rfl ?_
                  refine WL.e6 Nx.thn 0 4 5 6 7 67 (lt rfl (lt rfl (lt rfl (lt rfl (s0))))) (lt rfl (lt rfl (lt rfl (lt rfl (s4))))) (lt rfl (lt rfl (lt rfl (lt rfl (s5))))) (lt rfl (lt rfl (lt rfl (lt rfl (s6))))) (lt rfl (lt rfl (lt rfl (lt rfl (s7))))) (lh) ?_
                  intro σ31 s0 s4 s5 s6 s7 s67
                  refine W.cndp s67 (fun hmk => ?_) (fun hmk => ?_)
                  · refine W.seq ?_
                    refine W.region ?_
                    refine WL.x (X.fieldAddr fd29_0 (s6)) rfl ?_
                    have hzt := lt_of_blk htk
                    refine WL.store el3 (lh) lc rfl htk (by simp [ftk]) ?_
                    intro w25 us
                    have htk : w25.heap[w3.heap.size]? = some (.cells (ftk (3, (j : Int), ⟨#[]⟩, 0)).toArray 29 (0, 0)) := us.at_
                    have ct3 := us.ch
                    have hm := ct3.at hm (fun e => by (try dsimp only at e); omega)
                    have hown := hown.ch ct3 (hxt hown)
                    have hcl := hcl.trans ct3 (H := fun _ => False) (fun _ _ e => e) (fun q hq e => by first | exact False.elim e | ((try dsimp only at e); omega))
                    refine WL.e5 Nx.thn 0 4 5 6 7 (lt rfl (s0)) (lt rfl (s4)) (lt rfl (s5)) (lt rfl (s6)) (lt rfl (s7)) ?_
                    intro σ32 s0 s4 s5 s6 s7
                    have qo11 := s0
                    have qo12 := s4
                    have qo13 := s5
                    have qo14 := s6
                    refine W.seqJ (fun σ' w' => (σ' 0 = σ32 0 ∧ σ' 4 = σ32 4 ∧ σ' 5 = σ32 5 ∧ σ' 6 = σ32 6 ∧ True) ∧ w'.heap[w3.heap.size]? = some (.cells (ftk ((if bat (sb s) j = 10 then 4 else 3 : Int), (j : Int), ⟨#[]⟩, 0)).toArray 29 (0, 0)) ∧ w'.heap[w.heap.size]? = some (.cells #[.string s, .int .i64 ((j : Nat) : Int)] 48 (0, 0)) ∧ (markN (bat (sb s) j) = true ∨ bat (sb s) j = 10) ∧ OwnF 4 ftk w' (w.heap.size + 1) 29 lv acc ∧ Ch0 w w') ?_ ?_
                    · refine W.seq ?_
                      refine W.region ?_
                      refine WL.x (X.mv (s7)) rfl ?_
                      refine WL.x (X.eql (lh) lc) rfl ?_
                      refine WL.e5 Nx.thn 0 4 5 6 75 (lt rfl (lt rfl (s0))) (lt rfl (lt rfl (s4))) (lt rfl (lt rfl (s5))) (lt rfl (lt rfl (s6))) (lh) ?_
                      intro σ33 s0 s4 s5 s6 s75
                      refine W.cndp s75 (fun h10 => ?_) (fun h10 => ?_)
                      · refine W.region ?_
                        refine WL.x (X.fieldAddr fd29_0 (s6)) rfl ?_
                        have hzt := lt_of_blk htk
                        refine WL.store el3 (lh) lc rfl htk (by simp [ftk]) ?_
                        intro w26 us
                        have htk : w26.heap[w3.heap.size]? = some (.cells (ftk (4, (j : Int), ⟨#[]⟩, 0)).toArray 29 (0, 0)) := us.at_
                        have ct4 := us.ch
                        have hm := ct4.at hm (fun e => by (try dsimp only at e); omega)
                        have hown := hown.ch ct4 (hxt hown)
                        have hcl := hcl.trans ct4 (H := fun _ => False) (fun _ _ e => e) (fun q hq e => by first | exact False.elim e | ((try dsimp only at e); omega))
                        refine WL.e4 Nx.thn 0 4 5 6 (lt rfl (s0)) (lt rfl (s4)) (lt rfl (s5)) (lt rfl (s6)) ?_
                        intro σ34 s0 s4 s5 s6
                        refine ⟨⟨s0.trans qo11.symm, s4.trans qo12.symm, s5.trans qo13.symm, s6.trans qo14.symm, trivial⟩, (by rw [if_pos (by omega)]; exact htk), hm, .inr (by omega), hown, hcl⟩
                      · refine W.skip Nx.thn ?_
                        refine ⟨⟨s0.trans qo11.symm, s4.trans qo12.symm, s5.trans qo13.symm, s6.trans qo14.symm, trivial⟩, (by rw [if_neg (by omega)]; exact htk), hm, (by first | exact .inl (by rw [← hz9]; exact hmk) | exact .inl (by rw [← hz9]; exact decide_eq_true hmk) | exact .inr (by omega)), hown, hcl⟩
                    · rintro σ35 w27 ⟨⟨f0, f4, f5, f6, _⟩, htk, hm, hmk9, hown, hcl⟩
                      have s0 := f0.trans qo11
                      have s4 := f4.trans qo12
                      have s5 := f5.trans qo13
                      have s6 := f6.trans qo14
                      refine W.seq ?_
                      refine W.region ?_
                      refine WL.x (X.mv (s5)) rfl ?_
                      refine WL.x (X.nilck (lh)) rfl ?_
                      refine WL.x (X.fieldAddr fd48_1 (lh)) rfl ?_
                      refine WL.x (X.load pl3 (lh) (by first | assumption | exact ct3.at (by assumption) (by intro hne; first | exact hne | ((try dsimp only at hne); omega)) | exact ct3.at (cp2.at0 (by assumption)) (by intro hne; first | exact hne | ((try dsimp only at hne); omega)) | exact ct3.at (cp2.at0 (cp1.at0 (by assumption))) (by intro hne; first | exact hne | ((try dsimp only at hne); omega)) | exact ct3.at (cp2.at0 (cp1.at0 (cst0.at (by assumption) (by intro hne; first | exact hne | ((try dsimp only at hne); omega))))) (by intro hne; first | exact hne | ((try dsimp only at hne); omega)) | exact ct3.at (cp2.at0 (cp1.at0 (cst0.at (cu6_5.at0 (by assumption)) (by intro hne; first | exact hne | ((try dsimp only at hne); omega))))) (by intro hne; first | exact hne | ((try dsimp only at hne); omega)) | exact ct3.at (cp2.at0 (cp1.at0 (cst0.at (cu6_5.at0 (cw.at (by assumption) (by intro hne; first | exact hne | ((try dsimp only at hne); omega)))) (by intro hne; first | exact hne | ((try dsimp only at hne); omega))))) (by intro hne; first | exact hne | ((try dsimp only at hne); omega)) | exact ct3.at (cp2.at0 (cp1.at0 (cst0.at (cu6_5.at0 (cw.at (hcl.at0 (by assumption)) (by intro hne; first | exact hne | ((try dsimp only at hne); omega)))) (by intro hne; first | exact hne | ((try dsimp only at hne); omega))))) (by intro hne; first | exact hne | ((try dsimp only at hne); omega)) | exact ct3.at (cp2.at0 (cp1.at0 (cst0.at (cu6_5.at0 (cw.at (hcl.at0 (cu4_2.at0 (by assumption))) (by intro hne; first | exact hne | ((try dsimp only at hne); omega)))) (by intro hne; first | exact hne | ((try dsimp only at hne); omega))))) (by intro hne; first | exact hne | ((try dsimp only at hne); omega))) (by first | rfl | assumption)) rfl ?_
                      first | refine WL.x (X.add (lh) lc (by omega) (by omega)) rfl ?_ | refine WL.x (X.addw (lh) lc) rfl ?_
                      refine WL.x (X.nilck (lt rfl (lt rfl (lt rfl (lt rfl (lh)))))) rfl ?_
                      refine WL.x (X.fieldAddr fd48_1 (lh)) rfl ?_
                      refine WL.store el3 (lh) (lt rfl (lt rfl (lh))) rfl hm (by simp) ?_
                      intro w28 us
                      have hm : w28.heap[w.heap.size]? = some (.cells #[.string s, .int .i64 ((j + 1 : Nat) : Int)] 48 (0, 0)) := us.at_
                      have csx := us.ch
                      have htk := csx.at htk (fun e => by (try dsimp only at e); omega)
                      have hown := hown.ch csx (fun k9 hk9 e9 => by have := (hown.lt hk9).1; (try dsimp only at e9); omega)
                      have hcl := hcl.trans csx (H := fun _ => False) (fun _ _ e => e) (fun q hq e => by first | exact False.elim e | ((try dsimp only at e); omega))
                      refine WL.e4 Nx.thn 0 4 5 6 (lt rfl (lt rfl (lt rfl (lt rfl (lt rfl (lt rfl (lt rfl (s0)))))))) (lt rfl (lt rfl (lt rfl (lt rfl (lt rfl (lt rfl (lt rfl (s4)))))))) (lt rfl (lt rfl (lt rfl (lt rfl (lt rfl (lt rfl (lt rfl (s5)))))))) (lt rfl (lt rfl (lt rfl (lt rfl (lt rfl (lt rfl (lt rfl (s6)))))))) ?_
                      intro σ36 s0 s4 s5 s6
                      refine W.tail 9 mo (by kernel_rfl) ?_
                      intro w29 hh24 cd24 dr24
                      refine WS.x (X.mv (s0)) rfl ?_
                      refine WS.x (X.fieldAddr fd29_1 (lt rfl (s6))) rfl ?_
                      refine WS.x (X.load pl3 (lh) (by first | assumption | exact cd24.at0 (by assumption) | exact cd24.at0 (csx.at (by assumption) (by intro hne; first | exact hne | ((try dsimp only at hne); omega))) | exact cd24.at0 (csx.at (ct3.at (by assumption) (by intro hne; first | exact hne | ((try dsimp only at hne); omega))) (by intro hne; first | exact hne | ((try dsimp only at hne); omega))) | exact cd24.at0 (csx.at (ct3.at (cp2.at0 (by assumption)) (by intro hne; first | exact hne | ((try dsimp only at hne); omega))) (by intro hne; first | exact hne | ((try dsimp only at hne); omega))) | exact cd24.at0 (csx.at (ct3.at (cp2.at0 (cp1.at0 (by assumption))) (by intro hne; first | exact hne | ((try dsimp only at hne); omega))) (by intro hne; first | exact hne | ((try dsimp only at hne); omega))) | exact cd24.at0 (csx.at (ct3.at (cp2.at0 (cp1.at0 (cst0.at (by assumption) (by intro hne; first | exact hne | ((try dsimp only at hne); omega))))) (by intro hne; first | exact hne | ((try dsimp only at hne); omega))) (by intro hne; first | exact hne | ((try dsimp only at hne); omega))) | exact cd24.at0 (csx.at (ct3.at (cp2.at0 (cp1.at0 (cst0.at (cu6_5.at0 (by assumption)) (by intro hne; first | exact hne | ((try dsimp only at hne); omega))))) (by intro hne; first | exact hne | ((try dsimp only at hne); omega))) (by intro hne; first | exact hne | ((try dsimp only at hne); omega))) | exact cd24.at0 (csx.at (ct3.at (cp2.at0 (cp1.at0 (cst0.at (cu6_5.at0 (cw.at (by assumption) (by intro hne; first | exact hne | ((try dsimp only at hne); omega)))) (by intro hne; first | exact hne | ((try dsimp only at hne); omega))))) (by intro hne; first | exact hne | ((try dsimp only at hne); omega))) (by intro hne; first | exact hne | ((try dsimp only at hne); omega))) | exact cd24.at0 (csx.at (ct3.at (cp2.at0 (cp1.at0 (cst0.at (cu6_5.at0 (cw.at (hcl.at0 (by assumption)) (by intro hne; first | exact hne | ((try dsimp only at hne); omega)))) (by intro hne; first | exact hne | ((try dsimp only at hne); omega))))) (by intro hne; first | exact hne | ((try dsimp only at hne); omega))) (by intro hne; first | exact hne | ((try dsimp only at hne); omega))) | exact cd24.at0 (csx.at (ct3.at (cp2.at0 (cp1.at0 (cst0.at (cu6_5.at0 (cw.at (hcl.at0 (cu4_2.at0 (by assumption))) (by intro hne; first | exact hne | ((try dsimp only at hne); omega)))) (by intro hne; first | exact hne | ((try dsimp only at hne); omega))))) (by intro hne; first | exact hne | ((try dsimp only at hne); omega))) (by intro hne; first | exact hne | ((try dsimp only at hne); omega)))) (by first | rfl | assumption)) rfl ?_
                      refine WS.x (X.mv (lt rfl (lt rfl (lt rfl (s5))))) rfl ?_
                      refine WS.x (X.nilck (lh)) rfl ?_
                      refine WS.x (X.fieldAddr fd48_1 (lh)) rfl ?_
                      refine WS.x (X.load pl3 (lh) (by first | assumption | exact cd24.at0 (by assumption) | exact cd24.at0 (csx.at (by assumption) (by intro hne; first | exact hne | ((try dsimp only at hne); omega))) | exact cd24.at0 (csx.at (ct3.at (by assumption) (by intro hne; first | exact hne | ((try dsimp only at hne); omega))) (by intro hne; first | exact hne | ((try dsimp only at hne); omega))) | exact cd24.at0 (csx.at (ct3.at (cp2.at0 (by assumption)) (by intro hne; first | exact hne | ((try dsimp only at hne); omega))) (by intro hne; first | exact hne | ((try dsimp only at hne); omega))) | exact cd24.at0 (csx.at (ct3.at (cp2.at0 (cp1.at0 (by assumption))) (by intro hne; first | exact hne | ((try dsimp only at hne); omega))) (by intro hne; first | exact hne | ((try dsimp only at hne); omega))) | exact cd24.at0 (csx.at (ct3.at (cp2.at0 (cp1.at0 (cst0.at (by assumption) (by intro hne; first | exact hne | ((try dsimp only at hne); omega))))) (by intro hne; first | exact hne | ((try dsimp only at hne); omega))) (by intro hne; first | exact hne | ((try dsimp only at hne); omega))) | exact cd24.at0 (csx.at (ct3.at (cp2.at0 (cp1.at0 (cst0.at (cu6_5.at0 (by assumption)) (by intro hne; first | exact hne | ((try dsimp only at hne); omega))))) (by intro hne; first | exact hne | ((try dsimp only at hne); omega))) (by intro hne; first | exact hne | ((try dsimp only at hne); omega))) | exact cd24.at0 (csx.at (ct3.at (cp2.at0 (cp1.at0 (cst0.at (cu6_5.at0 (cw.at (by assumption) (by intro hne; first | exact hne | ((try dsimp only at hne); omega)))) (by intro hne; first | exact hne | ((try dsimp only at hne); omega))))) (by intro hne; first | exact hne | ((try dsimp only at hne); omega))) (by intro hne; first | exact hne | ((try dsimp only at hne); omega))) | exact cd24.at0 (csx.at (ct3.at (cp2.at0 (cp1.at0 (cst0.at (cu6_5.at0 (cw.at (hcl.at0 (by assumption)) (by intro hne; first | exact hne | ((try dsimp only at hne); omega)))) (by intro hne; first | exact hne | ((try dsimp only at hne); omega))))) (by intro hne; first | exact hne | ((try dsimp only at hne); omega))) (by intro hne; first | exact hne | ((try dsimp only at hne); omega))) | exact cd24.at0 (csx.at (ct3.at (cp2.at0 (cp1.at0 (cst0.at (cu6_5.at0 (cw.at (hcl.at0 (cu4_2.at0 (by assumption))) (by intro hne; first | exact hne | ((try dsimp only at hne); omega)))) (by intro hne; first | exact hne | ((try dsimp only at hne); omega))))) (by intro hne; first | exact hne | ((try dsimp only at hne); omega))) (by intro hne; first | exact hne | ((try dsimp only at hne); omega)))) (by first | rfl | assumption)) rfl ?_
                      first | refine WS.x (X.subN Tryd.underlying9 (lt rfl (lt rfl (lt rfl (lt rfl (lt rfl (lt rfl (lh))))))) (lt rfl (lt rfl (lt rfl (lt rfl (lh))))) (lh) (by omega) (by omega)) rfl ?_ | refine WS.x (X.subS Tryd.underlying9 (lt rfl (lt rfl (lt rfl (lt rfl (lt rfl (lt rfl (lh))))))) (lt rfl (lt rfl (lt rfl (lt rfl (lh))))) (lh) (by omega) (by omega) (by omega)) rfl ?_
                      refine WS.x (X.fieldAddr fd29_2 (lt rfl (lt rfl (lt rfl (lt rfl (lt rfl (lt rfl (lt rfl (lt rfl (s6)))))))))) rfl ?_
                      refine WS.nil ?_
                      show WL _ _ _ _ _ _ _
                      have hzt := lt_of_blk htk
                      have htk := cd24.at0 htk
                      have hm := cd24.at0 hm
                      have hown := hown.ch0 cd24
                      have hcl := hcl.trans0 cd24
                      have hzt := lt_of_blk htk
                      refine WL.store el9 (lh) (lt rfl (lh)) rfl htk (by simp [ftk]) ?_
                      intro w30 us
                      have htk : w30.heap[w3.heap.size]? = some (.cells (ftk ((if bat (sb s) j = 10 then 4 else 3 : Int), (j : Int), s.extract j (j + 1), 0)).toArray 29 (0, 0)) := us.at_
                      have ct5 := us.ch
                      have hm := ct5.at hm (fun e => by (try dsimp only at e); omega)
                      have hown := hown.ch ct5 (hxt hown)
                      have hcl := hcl.trans ct5 (H := fun _ => False) (fun _ _ e => e) (fun q hq e => by first | exact False.elim e | ((try dsimp only at e); omega))
                      refine WL.e4 (Nx.blk Nx.thn) 0 4 5 6 (lt rfl (lt rfl (lt rfl (lt rfl (lt rfl (lt rfl (lt rfl (lt rfl (lt rfl (s0)))))))))) (lt rfl (lt rfl (lt rfl (lt rfl (lt rfl (lt rfl (lt rfl (lt rfl (lt rfl (s4)))))))))) (lt rfl (lt rfl (lt rfl (lt rfl (lt rfl (lt rfl (lt rfl (lt rfl (lt rfl (s5)))))))))) (lt rfl (lt rfl (lt rfl (lt rfl (lt rfl (lt rfl (lt rfl (lt rfl (lt rfl (s6)))))))))) ?_
                      intro σ37 s0 s4 s5 s6
                      refine ⟨⟨s0.trans qo3.symm, s4.trans qo4.symm, s5.trans qo5.symm, s6.trans qo6.symm, trivial⟩, _, 1, htk, hm, tokL_mark (by omega) hmk9, by omega, hxt hown, hown, hcl⟩
                  · first | (have hm10 : ¬ ((bat (sb s) j : Nat) : Int) = 10 := hmk) | (have hmz : ¬ 0 ≤ z9 := hmk)
                    refine W.seq ?_
                    refine W.draw mo (by kernel_rfl) Nx.thn ?_
                    refine WQ.x (fun _ => X.mv (s5)) rfl ?_
                    refine WQ.x (fun _ => X.nilck (lh)) rfl ?_
                    refine WQ.x (fun _ => X.fieldAddr fd48_1 (lh)) rfl ?_
                    refine WQ.x (fun _ => X.load pl3 (lh) (by first | assumption | exact cp2.at0 (by assumption) | exact cp2.at0 (cp1.at0 (by assumption)) | exact cp2.at0 (cp1.at0 (cst0.at (by assumption) (by intro hne; first | exact hne | ((try dsimp only at hne); omega)))) | exact cp2.at0 (cp1.at0 (cst0.at (cu6_5.at0 (by assumption)) (by intro hne; first | exact hne | ((try dsimp only at hne); omega)))) | exact cp2.at0 (cp1.at0 (cst0.at (cu6_5.at0 (cw.at (by assumption) (by intro hne; first | exact hne | ((try dsimp only at hne); omega)))) (by intro hne; first | exact hne | ((try dsimp only at hne); omega)))) | exact cp2.at0 (cp1.at0 (cst0.at (cu6_5.at0 (cw.at (hcl.at0 (by assumption)) (by intro hne; first | exact hne | ((try dsimp only at hne); omega)))) (by intro hne; first | exact hne | ((try dsimp only at hne); omega)))) | exact cp2.at0 (cp1.at0 (cst0.at (cu6_5.at0 (cw.at (hcl.at0 (cu4_2.at0 (by assumption))) (by intro hne; first | exact hne | ((try dsimp only at hne); omega)))) (by intro hne; first | exact hne | ((try dsimp only at hne); omega))))) (by first | rfl | assumption)) rfl ?_
                    refine WQ.x (fun _ => X.build bd45 (pcons (lh) (pcons lc pnil)) rfl (rfl : _ = [_, _])) rfl ?_
                    refine WQ.x (fun _ => X.iface Tryd.underlying45 trivial (lh)) rfl ?_
                    refine WQ.x (fun _ => X.asg lc) rfl ?_
                    refine WQ.x (fun _ => X.asg (lt rfl (lh))) rfl ?_
                    refine WQ.e2 2 3 (lt rfl (lh)) (lh) ?_
                    intro σ38 s2 s3
                    intro _; refine gdrew ?_; intro w31 hh8 cd8 dr8
                    refine W.ret2 (Nx.rblk (Nx.rthn (Nx.rblk (Nx.rthn (Nx.rblk (Nx.rthn (Nx.ngR Nx.f2))))))) s2 s3 ?_
                    exact ⟨.inr ⟨j, 10, by rw [scanA_X hsz]; exact hatj.err (by omega) hb (tokL_bad (by omega) hlow hd0 (fun h => by have h1 := h.1; first | omega | (have h2 := h.2; rw [hd1] at h2; cases h2)) (by rw [← hz9]; exact decide_eq_false hmz)), rfl⟩, hcl.trans0 cd8⟩
            · refine WL.no rfl rfl (lh) (decide_eq_false hneg) rfl ?_
              refine WL.no rfl rfl (lt rfl (lh)) (decide_eq_false hneg) rfl ?_
              refine WL.no rfl rfl (lt rfl (lt rfl (lh))) (decide_eq_false hneg) rfl ?_
              refine WL.x (X.pickF (lt rfl (lt rfl (lt rfl (lh)))) (decide_eq_false hneg) lc) rfl ?_
              refine WL.x (X.asg (lh)) rfl ?_
              refine WL.e6 Nx.thn 0 4 5 6 7 48 (lt rfl (lt rfl (lt rfl (lt rfl (lt rfl (lt rfl (lt rfl (lt rfl (s0))))))))) (lt rfl (lt rfl (lt rfl (lt rfl (lt rfl (lt rfl (lt rfl (lt rfl (s4))))))))) (lt rfl (lt rfl (lt rfl (lt rfl (lt rfl (lt rfl (lt rfl (lt rfl (s5))))))))) (lt rfl (lt rfl (lt rfl (lt rfl (lt rfl (lt rfl (lt rfl (lt rfl (s6))))))))) (lt rfl (lt rfl (lt rfl (lt rfl (lt rfl (lt rfl (lt rfl (lt rfl (s7))))))))) (lh) ?_
              intro σ39 s0 s4 s5 s6 s7 s48
              refine W.cndF s48 ?_
              refine W.seq ?_
              refine W.seq ?_
              refine W.region ?_
              refine WL.x (X.mv (s7)) rfl ?_
              refine WL.x (X.eql (lh) lc) rfl ?_
              refine WL.x (X.asg (lh)) rfl ?_
              refine WL.e6 Nx.thn 0 4 5 6 7 67 (lt rfl (lt rfl (lt rfl (s0)))) (lt rfl (lt rfl (lt rfl (s4)))) (lt rfl (lt rfl (lt rfl (s5)))) (lt rfl (lt rfl (lt rfl (s6)))) (lt rfl (lt rfl (lt rfl (s7)))) (lh) ?_
              intro σ40 s0 s4 s5 s6 s7 s67
              refine W.cndp s67 (fun hmk => ?_) (fun hmk => ?_)
              · refine W.skip Nx.thn ?_
                refine W.cndBT s67 (decide_eq_true hmk) ?_
                refine W.seq ?_
                refine W.region ?_
                refine WL.x (X.fieldAddr fd29_0 (s6)) rfl ?_
                have hzt := lt_of_blk htk
                refine WL.store el3 (lh) lc rfl htk (by simp [ftk]) ?_
                intro w32 us
                have htk : w32.heap[w3.heap.size]? = some (.cells (ftk (3, (j : Int), ⟨#[]⟩, 0)).toArray 29 (0, 0)) := us.at_
                have ct3 := us.ch
                have hm := ct3.at hm (fun e => by (try dsimp only at e); omega)
                have hown := hown.ch ct3 (hxt hown)
                have hcl := hcl.trans ct3 (H := fun _ => False) (fun _ _ e => e) (fun q hq e => by first | exact False.elim e | ((try dsimp only at e); omega))
                refine WL.e5 Nx.thn 0 4 5 6 7 (lt rfl (s0)) (lt rfl (s4)) (lt rfl (s5)) (lt rfl (s6)) (lt rfl (s7)) ?_
                intro σ41 s0 s4 s5 s6 s7
                have qo15 := s0
                have qo16 := s4
                have qo17 := s5
                have qo18 := s6
                refine W.seqJ (fun σ' w' => (σ' 0 = σ41 0 ∧ σ' 4 = σ41 4 ∧ σ' 5 = σ41 5 ∧ σ' 6 = σ41 6 ∧ True) ∧ w'.heap[w3.heap.size]? = some (.cells (ftk ((if bat (sb s) j = 10 then 4 else 3 : Int), (j : Int), ⟨#[]⟩, 0)).toArray 29 (0, 0)) ∧ w'.heap[w.heap.size]? = some (.cells #[.string s, .int .i64 ((j : Nat) : Int)] 48 (0, 0)) ∧ (markN (bat (sb s) j) = true ∨ bat (sb s) j = 10) ∧ OwnF 4 ftk w' (w.heap.size + 1) 29 lv acc ∧ Ch0 w w') ?_ ?_
                · refine W.seq ?_
                  refine W.region ?_
                  refine WL.x (X.mv (s7)) rfl ?_
                  refine WL.x (X.eql (lh) lc) rfl ?_
                  refine WL.e5 Nx.thn 0 4 5 6 75 (lt rfl (lt rfl (s0))) (lt rfl (lt rfl (s4))) (lt rfl (lt rfl (s5))) (lt rfl (lt rfl (s6))) (lh) ?_
                  intro σ42 s0 s4 s5 s6 s75
                  refine W.cndp s75 (fun h10 => ?_) (fun h10 => ?_)
                  · refine W.region ?_
                    refine WL.x (X.fieldAddr fd29_0 (s6)) rfl ?_
                    have hzt := lt_of_blk htk
                    refine WL.store el3 (lh) lc rfl htk (by simp [ftk]) ?_
                    intro w33 us
                    have htk : w33.heap[w3.heap.size]? = some (.cells (ftk (4, (j : Int), ⟨#[]⟩, 0)).toArray 29 (0, 0)) := us.at_
                    have ct4 := us.ch
                    have hm := ct4.at hm (fun e => by (try dsimp only at e); omega)
                    have hown := hown.ch ct4 (hxt hown)
                    have hcl := hcl.trans ct4 (H := fun _ => False) (fun _ _ e => e) (fun q hq e => by first | exact False.elim e | ((try dsimp only at e); omega))
                    refine WL.e4 Nx.thn 0 4 5 6 (lt rfl (s0)) (lt rfl (s4)) (lt rfl (s5)) (lt rfl (s6)) ?_
                    intro σ43 s0 s4 s5 s6
                    refine ⟨⟨s0.trans qo15.symm, s4.trans qo16.symm, s5.trans qo17.symm, s6.trans qo18.symm, trivial⟩, (by rw [if_pos (by omega)]; exact htk), hm, .inr (by omega), hown, hcl⟩
                  · refine W.skip Nx.thn ?_
                    refine ⟨⟨s0.trans qo15.symm, s4.trans qo16.symm, s5.trans qo17.symm, s6.trans qo18.symm, trivial⟩, (by rw [if_neg (by omega)]; exact htk), hm, (by first | exact .inl (by rw [← hz9]; exact hmk) | exact .inl (by rw [← hz9]; exact decide_eq_true hmk) | exact .inr (by omega)), hown, hcl⟩
                · rintro σ44 w34 ⟨⟨f0, f4, f5, f6, _⟩, htk, hm, hmk9, hown, hcl⟩
                  have s0 := f0.trans qo15
                  have s4 := f4.trans qo16
                  have s5 := f5.trans qo17
                  have s6 := f6.trans qo18
                  refine W.seq ?_
                  refine W.region ?_
                  refine WL.x (X.mv (s5)) rfl ?_
                  refine WL.x (X.nilck (lh)) rfl ?_
                  refine WL.x (X.fieldAddr fd48_1 (lh)) rfl ?_
                  refine WL.x (X.load pl3 (lh) (by first | assumption | exact ct3.at (by assumption) (by intro hne; first | exact hne | ((try dsimp only at hne); omega)) | exact ct3.at (cp1.at0 (by assumption)) (by intro hne; first | exact hne | ((try dsimp only at hne); omega)) | exact ct3.at (cp1.at0 (cst0.at (by assumption) (by intro hne; first | exact hne | ((try dsimp only at hne); omega)))) (by intro hne; first | exact hne | ((try dsimp only at hne); omega)) | exact ct3.at (cp1.at0 (cst0.at (cu6_5.at0 (by assumption)) (by intro hne; first | exact hne | ((try dsimp only at hne); omega)))) (by intro hne; first | exact hne | ((try dsimp only at hne); omega)) | exact ct3.at (cp1.at0 (cst0.at (cu6_5.at0 (cw.at (by assumption) (by intro hne; first | exact hne | ((try dsimp only at hne); omega)))) (by intro hne; first | exact hne | ((try dsimp only at hne); omega)))) (by intro hne; first | exact hne | ((try dsimp only at hne); omega)) | exact ct3.at (cp1.at0 (cst0.at (cu6_5.at0 (cw.at (hcl.at0 (by assumption)) (by intro hne; first | exact hne | ((try dsimp only at hne); omega)))) (by intro hne; first | exact hne | ((try dsimp only at hne); omega)))) (by intro hne; first | exact hne | ((try dsimp only at hne); omega)) | exact ct3.at (cp1.at0 (cst0.at (cu6_5.at0 (cw.at (hcl.at0 (cu4_2.at0 (by assumption))) (by intro hne; first | exact hne | ((try dsimp only at hne); omega)))) (by intro hne; first | exact hne | ((try dsimp only at hne); omega)))) (by intro hne; first | exact hne | ((try dsimp only at hne); omega))) (by first | rfl | assumption)) rfl ?_
                  first | refine WL.x (X.add (lh) lc (by omega) (by omega)) rfl ?_ | refine WL.x (X.addw (lh) lc) rfl ?_
                  refine WL.x (X.nilck (lt rfl (lt rfl (lt rfl (lt rfl (lh)))))) rfl ?_
                  refine WL.x (X.fieldAddr fd48_1 (lh)) rfl ?_
                  refine WL.store el3 (lh) (lt rfl (lt rfl (lh))) rfl hm (by simp) ?_
                  intro w35 us
                  have hm : w35.heap[w.heap.size]? = some (.cells #[.string s, .int .i64 ((j + 1 : Nat) : Int)] 48 (0, 0)) := us.at_
                  have csx := us.ch
                  have htk := csx.at htk (fun e => by (try dsimp only at e); omega)
                  have hown := hown.ch csx (fun k9 hk9 e9 => by have := (hown.lt hk9).1; (try dsimp only at e9); omega)
                  have hcl := hcl.trans csx (H := fun _ => False) (fun _ _ e => e) (fun q hq e => by first | exact False.elim e | ((try dsimp only at e); omega))
                  refine WL.e4 Nx.thn 0 4 5 6 (lt rfl (lt rfl (lt rfl (lt rfl (lt rfl (lt rfl (lt rfl (s0)))))))) (lt rfl (lt rfl (lt rfl (lt rfl (lt rfl (lt rfl (lt rfl (s4)))))))) (lt rfl (lt rfl (lt rfl (lt rfl (lt rfl (lt rfl (lt rfl (s5)))))))) (lt rfl (lt rfl (lt rfl (lt rfl (lt rfl (lt rfl (lt rfl (s6)))))))) ?_
                  intro σ45 s0 s4 s5 s6
                  refine W.tail 9 mo (by kernel_rfl) ?_
                  intro w36 hh24 cd24 dr24
                  refine WS.x (X.mv (s0)) rfl ?_
                  refine WS.x (X.fieldAddr fd29_1 (lt rfl (s6))) rfl ?_
                  refine WS.x (X.load pl3 (lh) (by first | assumption | exact cd24.at0 (by assumption) | exact cd24.at0 (csx.at (by assumption) (by intro hne; first | exact hne | ((try dsimp only at hne); omega))) | exact cd24.at0 (csx.at (ct3.at (by assumption) (by intro hne; first | exact hne | ((try dsimp only at hne); omega))) (by intro hne; first | exact hne | ((try dsimp only at hne); omega))) | exact cd24.at0 (csx.at (ct3.at (cp1.at0 (by assumption)) (by intro hne; first | exact hne | ((try dsimp only at hne); omega))) (by intro hne; first | exact hne | ((try dsimp only at hne); omega))) | exact cd24.at0 (csx.at (ct3.at (cp1.at0 (cst0.at (by assumption) (by intro hne; first | exact hne | ((try dsimp only at hne); omega)))) (by intro hne; first | exact hne | ((try dsimp only at hne); omega))) (by intro hne; first | exact hne | ((try dsimp only at hne); omega))) | exact cd24.at0 (csx.at (ct3.at (cp1.at0 (cst0.at (cu6_5.at0 (by assumption)) (by intro hne; first | exact hne | ((try dsimp only at hne); omega)))) (by intro hne; first | exact hne | ((try dsimp only at hne); omega))) (by intro hne; first | exact hne | ((try dsimp only at hne); omega))) | exact cd24.at0 (csx.at (ct3.at (cp1.at0 (cst0.at (cu6_5.at0 (cw.at (by assumption) (by intro hne; first | exact hne | ((try dsimp only at hne); omega)))) (by intro hne; first | exact hne | ((try dsimp only at hne); omega)))) (by intro hne; first | exact hne | ((try dsimp only at hne); omega))) (by intro hne; first | exact hne | ((try dsimp only at hne); omega))) | exact cd24.at0 (csx.at (ct3.at (cp1.at0 (cst0.at (cu6_5.at0 (cw.at (hcl.at0 (by assumption)) (by intro hne; first | exact hne | ((try dsimp only at hne); omega)))) (by intro hne; first | exact hne | ((try dsimp only at hne); omega)))) (by intro hne; first | exact hne | ((try dsimp only at hne); omega))) (by intro hne; first | exact hne | ((try dsimp only at hne); omega))) | exact cd24.at0 (csx.at (ct3.at (cp1.at0 (cst0.at (cu6_5.at0 (cw.at (hcl.at0 (cu4_2.at0 (by assumption))) (by intro hne; first | exact hne | ((try dsimp only at hne); omega)))) (by intro hne; first | exact hne | ((try dsimp only at hne); omega)))) (by intro hne; first | exact hne | ((try dsimp only at hne); omega))) (by intro hne; first | exact hne | ((try dsimp only at hne); omega)))) (by first | rfl | assumption)) rfl ?_
                  refine WS.x (X.mv (lt rfl (lt rfl (lt rfl (s5))))) rfl ?_
                  refine WS.x (X.nilck (lh)) rfl ?_
                  refine WS.x (X.fieldAddr fd48_1 (lh)) rfl ?_
                  refine WS.x (X.load pl3 (lh) (by first | assumption | exact cd24.at0 (by assumption) | exact cd24.at0 (csx.at (by assumption) (by intro hne; first | exact hne | ((try dsimp only at hne); omega))) | exact cd24.at0 (csx.at (ct3.at (by assumption) (by intro hne; first | exact hne | ((try dsimp only at hne); omega))) (by intro hne; first | exact hne | ((try dsimp only at hne); omega))) | exact cd24.at0 (csx.at (ct3.at (cp1.at0 (by assumption)) (by intro hne; first | exact hne | ((try dsimp only at hne); omega))) (by intro hne; first | exact hne | ((try dsimp only at hne); omega))) | exact cd24.at0 (csx.at (ct3.at (cp1.at0 (cst0.at (by assumption) (by intro hne; first | exact hne | ((try dsimp only at hne); omega)))) (by intro hne; first | exact hne | ((try dsimp only at hne); omega))) (by intro hne; first | exact hne | ((try dsimp only at hne); omega))) | exact cd24.at0 (csx.at (ct3.at (cp1.at0 (cst0.at (cu6_5.at0 (by assumption)) (by intro hne; first | exact hne | ((try dsimp only at hne); omega)))) (by intro hne; first | exact hne | ((try dsimp only at hne); omega))) (by intro hne; first | exact hne | ((try dsimp only at hne); omega))) | exact cd24.at0 (csx.at (ct3.at (cp1.at0 (cst0.at (cu6_5.at0 (cw.at (by assumption) (by intro hne; first | exact hne | ((try dsimp only at hne); omega)))) (by intro hne; first | exact hne | ((try dsimp only at hne); omega)))) (by intro hne; first | exact hne | ((try dsimp only at hne); omega))) (by intro hne; first | exact hne | ((try dsimp only at hne); omega))) | exact cd24.at0 (csx.at (ct3.at (cp1.at0 (cst0.at (cu6_5.at0 (cw.at (hcl.at0 (by assumption)) (by intro hne; first | exact hne | ((try dsimp only at hne); omega)))) (by intro hne; first | exact hne | ((try dsimp only at hne); omega)))) (by intro hne; first | exact hne | ((try dsimp only at hne); omega))) (by intro hne; first | exact hne | ((try dsimp only at hne); omega))) | exact cd24.at0 (csx.at (ct3.at (cp1.at0 (cst0.at (cu6_5.at0 (cw.at (hcl.at0 (cu4_2.at0 (by assumption))) (by intro hne; first | exact hne | ((try dsimp only at hne); omega)))) (by intro hne; first | exact hne | ((try dsimp only at hne); omega)))) (by intro hne; first | exact hne | ((try dsimp only at hne); omega))) (by intro hne; first | exact hne | ((try dsimp only at hne); omega)))) (by first | rfl | assumption)) rfl ?_
                  first | refine WS.x (X.subN Tryd.underlying9 (lt rfl (lt rfl (lt rfl (lt rfl (lt rfl (lt rfl (lh))))))) (lt rfl (lt rfl (lt rfl (lt rfl (lh))))) (lh) (by omega) (by omega)) rfl ?_ | refine WS.x (X.subS Tryd.underlying9 (lt rfl (lt rfl (lt rfl (lt rfl (lt rfl (lt rfl (lh))))))) (lt rfl (lt rfl (lt rfl (lt rfl (lh))))) (lh) (by omega) (by omega) (by omega)) rfl ?_
                  refine WS.x (X.fieldAddr fd29_2 (lt rfl (lt rfl (lt rfl (lt rfl (lt rfl (lt rfl (lt rfl (lt rfl (s6)))))))))) rfl ?_
                  refine WS.nil ?_
                  show WL _ _ _ _ _ _ _
                  have hzt := lt_of_blk htk
                  have htk := cd24.at0 htk
                  have hm := cd24.at0 hm
                  have hown := hown.ch0 cd24
                  have hcl := hcl.trans0 cd24
                  have hzt := lt_of_blk htk
                  refine WL.store el9 (lh) (lt rfl (lh)) rfl htk (by simp [ftk]) ?_
                  intro w37 us
                  have htk : w37.heap[w3.heap.size]? = some (.cells (ftk ((if bat (sb s) j = 10 then 4 else 3 : Int), (j : Int), s.extract j (j + 1), 0)).toArray 29 (0, 0)) := us.at_
                  have ct5 := us.ch
                  have hm := ct5.at hm (fun e => by (try dsimp only at e); omega)
                  have hown := hown.ch ct5 (hxt hown)
                  have hcl := hcl.trans ct5 (H := fun _ => False) (fun _ _ e => e) (fun q hq e => by first | exact False.elim e | ((try dsimp only at e); omega))
                  refine WL.e4 (Nx.blk Nx.thn) 0 4 5 6 (lt rfl (lt rfl (lt rfl (lt rfl (lt rfl (lt rfl (lt rfl (lt rfl (lt rfl (s0)))))))))) (lt rfl (lt rfl (lt rfl (lt rfl (lt rfl (lt rfl (lt rfl (lt rfl (lt rfl (s4)))))))))) (lt rfl (lt rfl (lt rfl (lt rfl (lt rfl (lt rfl (lt rfl (lt rfl (lt rfl (s5)))))))))) (lt rfl (lt rfl (lt rfl (lt rfl (lt rfl (lt rfl (lt rfl (lt rfl (lt rfl (s6)))))))))) ?_
                  intro σ46 s0 s4 s5 s6
                  refine ⟨⟨s0.trans qo3.symm, s4.trans qo4.symm, s5.trans qo5.symm, s6.trans qo6.symm, trivial⟩, _, 1, htk, hm, tokL_mark (by omega) hmk9, by omega, hxt hown, hown, hcl⟩
              · first | (have hm10 : ¬ ((bat (sb s) j : Nat) : Int) = 10 := hmk) | (have hmz : ¬ 0 ≤ z9 := hmk)
                refine W.region ?_
                refine WL.x (X.mv (s7)) rfl ?_
                refine WL.call2 ce27 lc (lh) (index_ok (bat (sb s) j) w6 (bat_lt _ _)) rfl ?_
                rintro _ _ ⟨⟨z9, rfl, hz9⟩, rfl⟩
                refine WL.x (X.geq (lh) lc) rfl ?_
                refine WL.x (X.asg (lh)) rfl ?_
                refine WL.e6 Nx.thn 0 4 5 6 7 67 (lt rfl (lt rfl (lt rfl (lt rfl (s0))))) (lt rfl (lt rfl (lt rfl (lt rfl (s4))))) (lt rfl (lt rfl (lt rfl (lt rfl (s5))))) (lt rfl (lt rfl (lt rfl (lt rfl (s6))))) (lt rfl (lt rfl (lt rfl (lt rfl (s7))))) (lh) ?_
                intro σ47 s0 s4 s5 s6 s7 s67
                refine W.cndp s67 (fun hmk => ?_) (fun hmk => ?_)
                · refine W.seq ?_
                  refine W.region ?_
                  refine WL.x (X.fieldAddr fd29_0 (s6)) rfl ?_
                  have hzt := lt_of_blk htk
                  refine WL.store el3 (lh) lc rfl htk (by simp [ftk]) ?_
                  intro w38 us
                  have htk : w38.heap[w3.heap.size]? = some (.cells (ftk (3, (j : Int), ⟨#[]⟩, 0)).toArray 29 (0, 0)) := us.at_
                  have ct3 := us.ch
                  have hm := ct3.at hm (fun e => by (try dsimp only at e); omega)
                  have hown := hown.ch ct3 (hxt hown)
                  have hcl := hcl.trans ct3 (H := fun _ => False) (fun _ _ e => e) (fun q hq e => by first | exact False.elim e | ((try dsimp only at e); omega))
                  refine WL.e5 Nx.thn 0 4 5 6 7 (lt rfl (s0)) (lt rfl (s4)) (lt rfl (s5)) (lt rfl (s6)) (lt rfl (s7)) ?_
                  intro σ48 s0 s4 s5 s6 s7
                  have qo19 := s0
                  have qo20 := s4
                  have qo21 := s5
                  have qo22 := s6
                  refine W.seqJ (fun σ' w' => (σ' 0 = σ48 0 ∧ σ' 4 = σ48 4 ∧ σ' 5 = σ48 5 ∧ σ' 6 = σ48 6 ∧ True) ∧ w'.heap[w3.heap.size]? = some (.cells (ftk ((if bat (sb s) j = 10 then 4 else 3 : Int), (j : Int), ⟨#[]⟩, 0)).toArray 29 (0, 0)) ∧ w'.heap[w.heap.size]? = some (.cells #[.string s, .int .i64 ((j : Nat) : Int)] 48 (0, 0)) ∧ (markN (bat (sb s) j) = true ∨ bat (sb s) j = 10) ∧ OwnF 4 ftk w' (w.heap.size + 1) 29 lv acc ∧ Ch0 w w') ?_ ?_
                  · refine W.seq ?_
                    refine W.region ?_
                    refine WL.x (X.mv (s7)) rfl ?_
                    refine WL.x (X.eql (lh) lc) rfl ?_
                    refine WL.e5 Nx.thn 0 4 5 6 75 (lt rfl (lt rfl (s0))) (lt rfl (lt rfl (s4))) (lt rfl (lt rfl (s5))) (lt rfl (lt rfl (s6))) (lh) ?_
                    intro σ49 s0 s4 s5 s6 s75
                    refine W.cndp s75 (fun h10 => ?_) (fun h10 => ?_)
                    · refine W.region ?_
                      refine WL.x (X.fieldAddr fd29_0 (s6)) rfl ?_
                      have hzt := lt_of_blk htk
                      refine WL.store el3 (lh) lc rfl htk (by simp [ftk]) ?_
                      intro w39 us
                      have htk : w39.heap[w3.heap.size]? = some (.cells (ftk (4, (j : Int), ⟨#[]⟩, 0)).toArray 29 (0, 0)) := us.at_
                      have ct4 := us.ch
                      have hm := ct4.at hm (fun e => by (try dsimp only at e); omega)
                      have hown := hown.ch ct4 (hxt hown)
                      have hcl := hcl.trans ct4 (H := fun _ => False) (fun _ _ e => e) (fun q hq e => by first | exact False.elim e | ((try dsimp only at e); omega))
                      refine WL.e4 Nx.thn 0 4 5 6 (lt rfl (s0)) (lt rfl (s4)) (lt rfl (s5)) (lt rfl (s6)) ?_
                      intro σ50 s0 s4 s5 s6
                      refine ⟨⟨s0.trans qo19.symm, s4.trans qo20.symm, s5.trans qo21.symm, s6.trans qo22.symm, trivial⟩, (by rw [if_pos (by omega)]; exact htk), hm, .inr (by omega), hown, hcl⟩
                    · refine W.skip Nx.thn ?_
                      refine ⟨⟨s0.trans qo19.symm, s4.trans qo20.symm, s5.trans qo21.symm, s6.trans qo22.symm, trivial⟩, (by rw [if_neg (by omega)]; exact htk), hm, (by first | exact .inl (by rw [← hz9]; exact hmk) | exact .inl (by rw [← hz9]; exact decide_eq_true hmk) | exact .inr (by omega)), hown, hcl⟩
                  · rintro σ51 w40 ⟨⟨f0, f4, f5, f6, _⟩, htk, hm, hmk9, hown, hcl⟩
                    have s0 := f0.trans qo19
                    have s4 := f4.trans qo20
                    have s5 := f5.trans qo21
                    have s6 := f6.trans qo22
                    refine W.seq ?_
                    refine W.region ?_
                    refine WL.x (X.mv (s5)) rfl ?_
                    refine WL.x (X.nilck (lh)) rfl ?_
                    refine WL.x (X.fieldAddr fd48_1 (lh)) rfl ?_
                    refine WL.x (X.load pl3 (lh) (by first | assumption | exact ct3.at (by assumption) (by intro hne; first | exact hne | ((try dsimp only at hne); omega)) | exact ct3.at (cp1.at0 (by assumption)) (by intro hne; first | exact hne | ((try dsimp only at hne); omega)) | exact ct3.at (cp1.at0 (cst0.at (by assumption) (by intro hne; first | exact hne | ((try dsimp only at hne); omega)))) (by intro hne; first | exact hne | ((try dsimp only at hne); omega)) | exact ct3.at (cp1.at0 (cst0.at (cu6_5.at0 (by assumption)) (by intro hne; first | exact hne | ((try dsimp only at hne); omega)))) (by intro hne; first | exact hne | ((try dsimp only at hne); omega)) | exact ct3.at (cp1.at0 (cst0.at (cu6_5.at0 (cw.at (by assumption) (by intro hne; first | exact hne | ((try dsimp only at hne); omega)))) (by intro hne; first | exact hne | ((try dsimp only at hne); omega)))) (by intro hne; first | exact hne | ((try dsimp only at hne); omega)) | exact ct3.at (cp1.at0 (cst0.at (cu6_5.at0 (cw.at (hcl.at0 (by assumption)) (by intro hne; first | exact hne | ((try dsimp only at hne); omega)))) (by intro hne; first | exact hne | ((try dsimp only at hne); omega)))) (by intro hne; first | exact hne | ((try dsimp only at hne); omega)) | exact ct3.at (cp1.at0 (cst0.at (cu6_5.at0 (cw.at (hcl.at0 (cu4_2.at0 (by assumption))) (by intro hne; first | exact hne | ((try dsimp only at hne); omega)))) (by intro hne; first | exact hne | ((try dsimp only at hne); omega)))) (by intro hne; first | exact hne | ((try dsimp only at hne); omega))) (by first | rfl | assumption)) rfl ?_
                    first | refine WL.x (X.add (lh) lc (by omega) (by omega)) rfl ?_ | refine WL.x (X.addw (lh) lc) rfl ?_
                    refine WL.x (X.nilck (lt rfl (lt rfl (lt rfl (lt rfl (lh)))))) rfl ?_
                    refine WL.x (X.fieldAddr fd48_1 (lh)) rfl ?_
                    refine WL.store el3 (lh) (lt rfl (lt rfl (lh))) rfl hm (by simp) ?_
                    intro w41 us
                    have hm : w41.heap[w.heap.size]? = some (.cells #[.string s, .int .i64 ((j + 1 : Nat) : Int)] 48 (0, 0)) := us.at_
                    have csx := us.ch
                    have htk := csx.at htk (fun e => by (try dsimp only at e); omega)
                    have hown := hown.ch csx (fun k9 hk9 e9 => by have := (hown.lt hk9).1; (try dsimp only at e9); omega)
                    have hcl := hcl.trans csx (H := fun _ => False) (fun _ _ e => e) (fun q hq e => by first | exact False.elim e | ((try dsimp only at e); omega))
                    refine WL.e4 Nx.thn 0 4 5 6 (lt rfl (lt rfl (lt rfl (lt rfl (lt rfl (lt rfl (lt rfl (s0)))))))) (lt rfl (lt rfl (lt rfl (lt rfl (lt rfl (lt rfl (lt rfl (s4)))))))) (lt rfl (lt rfl (lt rfl (lt rfl (lt rfl (lt rfl (lt rfl (s5)))))))) (lt rfl (lt rfl (lt rfl (lt rfl (lt rfl (lt rfl (lt rfl (s6)))))))) ?_
                    intro σ52 s0 s4 s5 s6
                    refine W.tail 9 mo (by kernel_rfl) ?_
                    intro w42 hh24 cd24 dr24
                    refine WS.x (X.mv (s0)) rfl ?_
                    refine WS.x (X.fieldAddr fd29_1 (lt rfl (s6))) rfl ?_
                    refine WS.x (X.load pl3 (lh) (by first | assumption | exact cd24.at0 (by assumption) | exact cd24.at0 (csx.at (by assumption) (by intro hne; first | exact hne | ((try dsimp only at hne); omega))) | exact cd24.at0 (csx.at (ct3.at (by assumption) (by intro hne; first | exact hne | ((try dsimp only at hne); omega))) (by intro hne; first | exact hne | ((try dsimp only at hne); omega))) | exact cd24.at0 (csx.at (ct3.at (cp1.at0 (by assumption)) (by intro hne; first | exact hne | ((try dsimp only at hne); omega))) (by intro hne; first | exact hne | ((try dsimp only at hne); omega))) | exact cd24.at0 (csx.at (ct3.at (cp1.at0 (cst0.at (by assumption) (by intro hne; first | exact hne | ((try dsimp only at hne); omega)))) (by intro hne; first | exact hne | ((try dsimp only at hne); omega))) (by intro hne; first | exact hne | ((try dsimp only at hne); omega))) | exact cd24.at0 (csx.at (ct3.at (cp1.at0 (cst0.at (cu6_5.at0 (by assumption)) (by intro hne; first | exact hne | ((try dsimp only at hne); omega)))) (by intro hne; first | exact hne | ((try dsimp only at hne); omega))) (by intro hne; first | exact hne | ((try dsimp only at hne); omega))) | exact cd24.at0 (csx.at (ct3.at (cp1.at0 (cst0.at (cu6_5.at0 (cw.at (by assumption) (by intro hne; first | exact hne | ((try dsimp only at hne); omega)))) (by intro hne; first | exact hne | ((try dsimp only at hne); omega)))) (by intro hne; first | exact hne | ((try dsimp only at hne); omega))) (by intro hne; first | exact hne | ((try dsimp only at hne); omega))) | exact cd24.at0 (csx.at (ct3.at (cp1.at0 (cst0.at (cu6_5.at0 (cw.at (hcl.at0 (by assumption)) (by intro hne; first | exact hne | ((try dsimp only at hne); omega)))) (by intro hne; first | exact hne | ((try dsimp only at hne); omega)))) (by intro hne; first | exact hne | ((try dsimp only at hne); omega))) (by intro hne; first | exact hne | ((try dsimp only at hne); omega))) | exact cd24.at0 (csx.at (ct3.at (cp1.at0 (cst0.at (cu6_5.at0 (cw.at (hcl.at0 (cu4_2.at0 (by assumption))) (by intro hne; first | exact hne | ((try dsimp only at hne); omega)))) (by intro hne; first | exact hne | ((try dsimp only at hne); omega)))) (by intro hne; first | exact hne | ((try dsimp only at hne); omega))) (by intro hne; first | exact hne | ((try dsimp only at hne); omega)))) (by first | rfl | assumption)) rfl ?_
                    refine WS.x (X.mv (lt rfl (lt rfl (lt rfl (s5))))) rfl ?_
                    refine WS.x (X.nilck (lh)) rfl ?_
                    refine WS.x (X.fieldAddr fd48_1 (lh)) rfl ?_
                    refine WS.x (X.load pl3 (lh) (by first | assumption | exact cd24.at0 (by assumption) | exact cd24.at0 (csx.at (by assumption) (by intro hne; first | exact hne | ((try dsimp only at hne); omega))) | exact cd24.at0 (csx.at (ct3.at (by assumption) (by intro hne; first | exact hne | ((try dsimp only at hne); omega))) (by intro hne; first | exact hne | ((try dsimp only at hne); omega))) | exact cd24.at0 (csx.at (ct3.at (cp1.at0 (by assumption)) (by intro hne; first | exact hne | ((try dsimp only at hne); omega))) (by intro hne; first | exact hne | ((try dsimp only at hne); omega))) | exact cd24.at0 (csx.at (ct3.at (cp1.at0 (cst0.at (by assumption) (by intro hne; first | exact hne | ((try dsimp only at hne); omega)))) (by intro hne; first | exact hne | ((try dsimp only at hne); omega))) (by intro hne; first | exact hne | ((try dsimp only at hne); omega))) | exact cd24.at0 (csx.at (ct3.at (cp1.at0 (cst0.at (cu6_5.at0 (by assumption)) (by intro hne; first | exact hne | ((try dsimp only at hne); omega)))) (by intro hne; first | exact hne | ((try dsimp only at hne); omega))) (by intro hne; first | exact hne | ((try dsimp only at hne); omega))) | exact cd24.at0 (csx.at (ct3.at (cp1.at0 (cst0.at (cu6_5.at0 (cw.at (by assumption) (by intro hne; first | exact hne | ((try dsimp only at hne); omega)))) (by intro hne; first | exact hne | ((try dsimp only at hne); omega)))) (by intro hne; first | exact hne | ((try dsimp only at hne); omega))) (by intro hne; first | exact hne | ((try dsimp only at hne); omega))) | exact cd24.at0 (csx.at (ct3.at (cp1.at0 (cst0.at (cu6_5.at0 (cw.at (hcl.at0 (by assumption)) (by intro hne; first | exact hne | ((try dsimp only at hne); omega)))) (by intro hne; first | exact hne | ((try dsimp only at hne); omega)))) (by intro hne; first | exact hne | ((try dsimp only at hne); omega))) (by intro hne; first | exact hne | ((try dsimp only at hne); omega))) | exact cd24.at0 (csx.at (ct3.at (cp1.at0 (cst0.at (cu6_5.at0 (cw.at (hcl.at0 (cu4_2.at0 (by assumption))) (by intro hne; first | exact hne | ((try dsimp only at hne); omega)))) (by intro hne; first | exact hne | ((try dsimp only at hne); omega)))) (by intro hne; first | exact hne | ((try dsimp only at hne); omega))) (by intro hne; first | exact hne | ((try dsimp only at hne); omega)))) (by first | rfl | assumption)) rfl ?_
                    first | refine WS.x (X.subN Tryd.underlying9 (lt rfl (lt rfl (lt rfl (lt rfl (lt rfl (lt rfl (lh))))))) (lt rfl (lt rfl (lt rfl (lt rfl (lh))))) (lh) (by omega) (by omega)) rfl ?_ | refine WS.x (X.subS Tryd.underlying9 (lt rfl (lt rfl (lt rfl (lt rfl (lt rfl (lt rfl (lh))))))) (lt rfl (lt rfl (lt rfl (lt rfl (lh))))) (lh) (by omega) (by omega) (by omega)) rfl ?_
                    refine WS.x (X.fieldAddr fd29_2 (lt rfl (lt rfl (lt rfl (lt rfl (lt rfl (lt rfl (lt rfl (lt rfl (s6)))))))))) rfl ?_
                    refine WS.nil ?_
                    show WL _ _ _ _ _ _ _
                    have hzt := lt_of_blk htk
                    have htk := cd24.at0 htk
                    have hm := cd24.at0 hm
                    have hown := hown.ch0 cd24
                    have hcl := hcl.trans0 cd24
                    have hzt := lt_of_blk htk
                    refine WL.store el9 (lh) (lt rfl (lh)) rfl htk (by simp [ftk]) ?_
                    intro w43 us
                    have htk : w43.heap[w3.heap.size]? = some (.cells (ftk ((if bat (sb s) j = 10 then 4 else 3 : Int), (j : Int), s.extract j (j + 1), 0)).toArray 29 (0, 0)) := us.at_
                    have ct5 := us.ch
                    have hm := ct5.at hm (fun e => by (try dsimp only at e); omega)
                    have hown := hown.ch ct5 (hxt hown)
                    have hcl := hcl.trans ct5 (H := fun _ => False) (fun _ _ e => e) (fun q hq e => by first | exact False.elim e | ((try dsimp only at e); omega))
                    refine WL.e4 (Nx.blk Nx.thn) 0 4 5 6 (lt rfl (lt rfl (lt rfl (lt rfl (lt rfl (lt rfl (lt rfl (lt rfl (lt rfl (s0)))))))))) (lt rfl (lt rfl (lt rfl (lt rfl (lt rfl (lt rfl (lt rfl (lt rfl (lt rfl (s4)))))))))) (lt rfl (lt rfl (lt rfl (lt rfl (lt rfl (lt rfl (lt rfl (lt rfl (lt rfl (s5)))))))))) (lt rfl (lt rfl (lt rfl (lt rfl (lt rfl (lt rfl (lt rfl (lt rfl (lt rfl (s6)))))))))) ?_
                    intro σ53 s0 s4 s5 s6
                    refine ⟨⟨s0.trans qo3.symm, s4.trans qo4.symm, s5.trans qo5.symm, s6.trans qo6.symm, trivial⟩, _, 1, htk, hm, tokL_mark (by omega) hmk9, by omega, hxt hown, hown, hcl⟩
                · first | (have hm10 : ¬ ((bat (sb s) j : Nat) : Int) = 10 := hmk) | (have hmz : ¬ 0 ≤ z9 := hmk)
                  refine W.seq ?_
                  refine W.draw mo (by kernel_rfl) Nx.thn ?_
                  refine WQ.x (fun _ => X.mv (s5)) rfl ?_
                  refine WQ.x (fun _ => X.nilck (lh)) rfl ?_
                  refine WQ.x (fun _ => X.fieldAddr fd48_1 (lh)) rfl ?_
                  refine WQ.x (fun _ => X.load pl3 (lh) (by first | assumption | exact cp1.at0 (by assumption) | exact cp1.at0 (cst0.at (by assumption) (by intro hne; first | exact hne | ((try dsimp only at hne); omega))) | exact cp1.at0 (cst0.at (cu6_5.at0 (by assumption)) (by intro hne; first | exact hne | ((try dsimp only at hne); omega))) | exact cp1.at0 (cst0.at (cu6_5.at0 (cw.at (by assumption) (by intro hne; first | exact hne | ((try dsimp only at hne); omega)))) (by intro hne; first | exact hne | ((try dsimp only at hne); omega))) | exact cp1.at0 (cst0.at (cu6_5.at0 (cw.at (hcl.at0 (by assumption)) (by intro hne; first | exact hne | ((try dsimp only at hne); omega)))) (by intro hne; first | exact hne | ((try dsimp only at hne); omega))) | exact cp1.at0 (cst0.at (cu6_5.at0 (cw.at (hcl.at0 (cu4_2.at0 (by assumption))) (by intro hne; first | exact hne | ((try dsimp only at hne); omega)))) (by intro hne; first | exact hne | ((try dsimp only at hne); omega)))) (by first | rfl | assumption)) rfl ?_
                  refine WQ.x (fun _ => X.build bd45 (pcons (lh) (pcons lc pnil)) rfl (rfl : _ = [_, _])) rfl ?_
                  refine WQ.x (fun _ => X.iface Tryd.underlying45 trivial (lh)) rfl ?_
                  refine WQ.x (fun _ => X.asg lc) rfl ?_
                  refine WQ.x (fun _ => X.asg (lt rfl (lh))) rfl ?_
                  refine WQ.e2 2 3 (lt rfl (lh)) (lh) ?_
                  intro σ54 s2 s3
                  intro _; refine gdrew ?_; intro w44 hh8 cd8 dr8
                  refine W.ret2 (Nx.rblk (Nx.rthn (Nx.rblk (Nx.rthn (Nx.rblk (Nx.rthn (Nx.ngR Nx.f2))))))) s2 s3 ?_
                  exact ⟨.inr ⟨j, 10, by rw [scanA_X hsz]; exact hatj.err (by omega) hb (tokL_bad (by omega) hlow hd0 (fun h => by have h1 := h.1; first | omega | (have h2 := h.2; rw [hd1] at h2; cases h2)) (by rw [← hz9]; exact decide_eq_false hmz)), rfl⟩, hcl.trans0 cd8⟩
    · rintro σ55 w45 ⟨⟨f0, f4, f5, f6, _⟩, tk, k, htk, hm, htl, hjl, hne, hown, hcl⟩
      have s0 := f0.trans qo3
      have s4 := f4.trans qo4
      have s5 := f5.trans qo5
      have s6 := f6.trans qo6
      refine W.region ?_
      refine WL.x (X.mv (s4)) rfl ?_
      refine WL.x (X.loadBox (vs := ftk tk) ag29 (lt rfl (s6)) htk rfl) rfl ?_
      refine WL.bsliceR (vs := [_]) Tryd.underlying23 el29 (by decide) (pcons (lh) pnil) rfl (fun u hu => by rw [List.mem_singleton.1 hu]; rfl) (show 1 * 4 ≤ 16777216 by decide) rfl ?_
      intro w47 u25_2; have hu25_2 := u25_2.at_; have cu25_2 := u25_2.ch; have zu25_2 := u25_2.size
      refine WL.appendF Tryd.underlying23 el29 rfl (by decide) ftk_len ftk_one (lt rfl (lt rfl (lh))) (lh) (hown.ch0 cu25_2) (rsl_one (x := tk) (A := all) ftk_len hu25_2 rfl trivial) (by simp only [List.length_cons, List.length_nil]; unfold maxLen; have := hatj.2.2; omega) (by simp only [List.length_cons, List.length_nil]; have := hatj.2.2; omega) (by have := cu25_2.size; have := lt_of_blk hm; omega) rfl ?_
      intro va25_3 w48 ho25_3 ca25_3
      have hm := ca25_3.at (cu25_2.at0 hm) (fun hk => by have := (hown.lt hk).1; omega)
      have hcl := (hcl.trans0 cu25_2).trans ca25_3 (H := fun _ => False) (fun _ _ e => e) (fun q hq e => by have := (hown.lt e).1; omega)
      refine WL.x (X.asg (lh)) rfl ?_
      refine WL.e3 (Nx.blk Nx.thn) 0 4 5 (lt rfl (lt rfl (lt rfl (lt rfl (lt rfl (s0)))))) (lh) (lt rfl (lt rfl (lt rfl (lt rfl (lt rfl (s5)))))) ?_
      intro σ56 s0 s4 s5
      have hk9 := tokL_len (drop_ne hjl) htl
      refine ⟨(j + k, acc ++ [tk]), by (try dsimp only); omega, ⟨s0.trans qo1.symm, s5.trans qo2.symm, trivial⟩, _, s4, hm, hatj.tok hjl hb htl, ho25_3, hcl⟩
end Go.Proofs.YteknclegacbpkaaDoor
