/-
  A part of the walk of the program.
-/
import Derived.Test.YtfifholofkobhaaF
set_option linter.unusedVariables false
set_option linter.unusedSimpArgs false
set_option maxRecDepth 100000
namespace Go.Proofs.Ytfifholofkobhaa
open Go Go.RowKit Sg

theorem sl_pre {w : World} {base : Nat} {a : Option Addr} {c N M : Nat} (h : N ≤ M) (ho : OC w base (.slice a (spl M).length c) (spl M)) : Sl w (.slice a (spl N).length c) ((spl N).map cv) ∧ (spl M).length ≤ c := by
  obtain ⟨r, hr⟩ := spl_more h
  rcases ho.2 with ⟨h1, h2⟩ | ⟨g, cap, cur, h1, hb, hg, hc, hm, hsz, ht⟩
  · simp only [Value.slice.injEq] at h1
    obtain ⟨rfl, h3, rfl⟩ := h1
    have h4 : (spl N).length = 0 := by rw [hr, List.length_append] at h3; omega
    exact ⟨.inl ⟨by rw [List.eq_nil_of_length_eq_zero h4]; rfl, none, 0, by rw [h4]⟩, by omega⟩
  · simp only [Value.slice.injEq] at h1
    obtain ⟨rfl, -, rfl⟩ := h1
    have hl : (spl N).length ≤ (spl M).length := by rw [hr, List.length_append]; omega
    refine ⟨.inr ⟨g, 0, c, cur, _, (0, 0), by rw [List.length_map], by rw [List.length_map]; omega, hg, fun j hj => ?_⟩, hc⟩
    rw [List.length_map] at hj
    have h5 : ((spl M).map cv)[j]? = ((spl N).map cv)[j]? := by
      rw [hr, List.map_append, List.getElem?_append_left (by rw [List.length_map]; exact hj)]
    rw [← h5, ← ht, List.getElem?_take, if_pos (by omega), Nat.zero_add, Array.getElem?_toList]

set_option maxHeartbeats 800000 in
theorem corners_ok (a : Option Addr) (c : Nat) (l : List Pl) (w : World) (hs : Sl w (.slice a l.length c) (l.map cv)) (h6 : ∀ p ∈ l, In6 p) (hlen : l.length ≤ 100) (h0 : ∀ h : 0 < l.length, l[0] = (0, 0)) :
    Sg.Ret Try.prog 10 #[.slice a l.length c] w fun v w' => v = .tuple #[cv (low l), cv (high l)] ∧ Dr w w' := by
  refine enter2 (n := 56) (l := [.slice a l.length c]) Try.func10 rfl rfl rfl rfl ?_
  refine W.g1 0 (v1 := .slice a l.length c) rfl ?_; intro σ s0
  refine W.seq ?_
  refine W.region ?_
  refine WL.x (X.asg lc) rfl ?_
  refine WL.x (X.asg lc) rfl ?_
  refine WL.e1 Nx.thn 0 (lt rfl (lt rfl (s0))) ?_
  intro σ1 s0
  refine W.seq ?_
  refine W.seq ?_
  refine W.region ?_
  refine WL.x (X.mv (s0)) rfl ?_
  refine WL.x (X.lenSl Try.underlying22 (lh)) rfl ?_
  refine WL.x (X.eql (lh) lc) rfl ?_
  refine WL.x (X.mv (lh)) rfl ?_
  refine WL.splitp (lh) (fun hz => ?_) (fun hz => ?_)
  · refine WL.no rfl rfl (lh) (decide_eq_true hz) rfl ?_
    refine WL.no rfl rfl (lt rfl (lh)) (decide_eq_true hz) rfl ?_
    refine WL.x (X.pickT (lt rfl (lt rfl (lh))) (decide_eq_true hz) lc) rfl ?_
    refine WL.e2 Nx.thn 0 14 (lt rfl (lt rfl (lt rfl (lt rfl (lt rfl (lt rfl (lt rfl (s0)))))))) (lh) ?_
    intro σ2 s0 s14
    refine W.cndT s14 ?_
    refine W.seq ?_
    refine W.region ?_
    refine WL.x (X.asg lc) rfl ?_
    refine WL.x (X.asg lc) rfl ?_
    refine WL.e2 Nx.thn 2 3 (lt rfl (lh)) (lh) ?_
    intro σ3 s2 s3
    refine W.ret2 (Nx.rthn Nx.f2) s2 s3 ?_
    obtain rfl : l = [] := List.eq_nil_of_length_eq_zero (by omega)
    rw [c00]
    exact ⟨rfl, Dr.refl _⟩
  · refine WL.yes rfl rfl (lh) (decide_eq_false hz) ?_
    refine WL.x (X.mv (lt rfl (lt rfl (lt rfl (lt rfl (s0)))))) rfl ?_
    refine WL.yes rfl rfl (lt rfl (lh)) (decide_eq_false hz) ?_
    refine WL.call2 ce15 (lh) lf (conc_ok 16 ce16 a c l w hs (fun p hp => (h6 p hp).near) (fun p w0 hp => corn_fn p w0 hp) hlen) rfl ?_
    rintro _ _ ⟨rfl, rfl⟩
    have hpos : 0 < l.length := by omega
    obtain ⟨lb, lo, lcs, lT, lfr, rfl, hlm0, hle0⟩ := c_at hs (k := 0) hpos
    rw [h0 hpos] at hle0
    refine WL.x (X.pickF (lt rfl (lt rfl (lh))) (decide_eq_false hz) (lh)) rfl ?_
    refine WL.e2 Nx.thn 0 14 (lt rfl (lt rfl (lt rfl (lt rfl (lt rfl (lt rfl (lt rfl (s0)))))))) (lh) ?_
    intro σ4 s0 s14
    refine W.cndF s14 ?_
    refine W.skip Nx.thn ?_
    refine W.seq ?_
    refine W.draw mo (by kernel_rfl) Nx.thn ?_
    refine WQ.x (fun _ => X.mv (s0)) rfl ?_
    refine WQ.x (fun _ => X.indexAddr Try.underlying22 el25 (lh) lc (by omega) (by omega)) rfl ?_
    refine WQ.x (fun m => X.load (w := w.drewN m) pl25 (lh) hlm0 (v := cv (0, 0)) hle0) rfl ?_
    refine WQ.call1 ce11 (lh) (fun m => (Ret.quiet (plain_ok (0, 0) _ in6_0.near))) rfl ?_
    refine WQ.x (fun _ => X.mv (lt rfl (lt rfl (lt rfl (lt rfl (s0)))))) rfl ?_
    refine WQ.x (fun _ => X.indexAddr Try.underlying22 el25 (lh) lc (by omega) (by omega)) rfl ?_
    refine WQ.x (fun m => X.load (w := w.drewN m) pl25 (lh) hlm0 (v := cv (0, 0)) hle0) rfl ?_
    refine WQ.call1 ce11 (lh) (fun m => (Ret.quiet (plain_ok (0, 0) _ in6_0.near))) rfl ?_
    refine WQ.x (fun _ => X.asg (lt rfl (lt rfl (lt rfl (lt rfl (lh)))))) rfl ?_
    refine WQ.x (fun _ => X.asg (lt rfl (lh))) rfl ?_
    refine WQ.e3 0 4 5 (lt rfl (lt rfl (lt rfl (lt rfl (lt rfl (lt rfl (lt rfl (lt rfl (lt rfl (lt rfl (s0))))))))))) (lt rfl (lh)) (lh) ?_
    intro σ5 s0 s4 s5
    intro _; refine gdrew ?_; intro w1 hh3 cd3 dr3
    refine W.seq ?_
    refine W.seq ?_
    refine W.region ?_
    refine WL.x (X.mv (s0)) rfl ?_
    refine WL.x (X.lenSl Try.underlying22 (lh)) rfl ?_
    refine WL.x (X.mv lc) rfl ?_
    refine WL.e5 Nx.thn 4 5 23 24 25 (lt rfl (lt rfl (lt rfl (s4)))) (lt rfl (lt rfl (lt rfl (s5)))) (lt rfl (lt rfl (lh))) (lt rfl (lh)) (lh) ?_
    intro σ6 s4 s5 s23 s24 s25
    refine W.block ?_
    have qo1 := s23
    have qo2 := s24
    -- loop 0: kept [23, 24], varied [4, 5, 25]
    refine W.loop (G := Nat) (fun k σ' w' => (σ' 23 = σ6 23 ∧ σ' 24 = σ6 24 ∧ True) ∧ w1 = w' ∧ (σ' 25 = .int .i64 (k : Int) ∧ k ≤ l.length ∧ σ' 4 = cv ((l.take k).foldl lo2 (0, 0)) ∧ σ' 5 = cv ((l.take k).foldl hi2 (0, 0)))) (fun k => l.length - k) (0) ⟨⟨rfl, rfl, trivial⟩, rfl, s25, by omega, s4, s5⟩ ?_
    rintro k σ7 w2 ⟨⟨f23, f24, _⟩, rfl, s25, hk, s4, s5⟩
    have s23 := f23.trans qo1
    have s24 := f24.trans qo2
    refine W.seq ?_
    refine W.region ?_
    refine WL.x (X.lss (s25) (s24)) rfl ?_
    refine WL.e6 Nx.thn 4 5 23 24 25 26 (lt rfl (s4)) (lt rfl (s5)) (lt rfl (s23)) (lt rfl (s24)) (lt rfl (s25)) (lh) ?_
    intro σ8 s4 s5 s23 s24 s25 s26
    refine W.seq ?_
    refine W.cndp s26 (fun hlt => ?_) (fun hlt => ?_)
    · have hkl : k < l.length := by omega
      obtain ⟨lb2, lo2', lcs2, lT2, lfr2, elb, hlm, hle⟩ := c_at hs (k := k) hkl
      simp only [Option.some.injEq, Addr.mk.injEq, and_true] at elb
      obtain ⟨rfl, rfl⟩ := elb
      have hk6 := h6 _ (List.getElem_mem hkl)
      have h6a := foldl_lo6 (l.take k) (0, 0) in6_0 (fun p hp => h6 p (List.mem_of_mem_take hp))
      have h6b := foldl_hi6 (l.take k) (0, 0) in6_0 (fun p hp => h6 p (List.mem_of_mem_take hp))
      refine W.skip Nx.thn ?_
      refine W.seq ?_
      refine W.block ?_
      refine W.seq ?_
      refine W.region ?_
      refine WL.x (X.indexAddr Try.underlying22 el25 (s23) (s25) (by omega) (by omega)) rfl ?_
      refine WL.x (X.load pl25 (lh) (cd3.at0 hlm) (v := cv l[k]) hle) rfl ?_
      refine WL.x (X.asg (lh)) rfl ?_
      refine WL.e6 Nx.thn 4 5 7 23 24 25 (lt rfl (lt rfl (lt rfl (s4)))) (lt rfl (lt rfl (lt rfl (s5)))) (lh) (lt rfl (lt rfl (lt rfl (s23)))) (lt rfl (lt rfl (lt rfl (s24)))) (lt rfl (lt rfl (lt rfl (s25)))) ?_
      intro σ9 s4 s5 s7 s23 s24 s25
      refine W.seq ?_
      refine W.region ?_
      refine WL.x (X.mv (s4)) rfl ?_
      refine WL.x (X.real (lh)) rfl ?_
      refine WL.x (X.mv (lt rfl (lt rfl (s7)))) rfl ?_
      refine WL.x (X.real (lh)) rfl ?_
      refine WL.x (X.fmin (lt rfl (lt rfl (lh))) (lh) (by have := h6a.1; omega) (by have := h6a.1; omega) (by have := hk6.1; omega) (by have := hk6.1; omega)) rfl ?_
      refine WL.x (X.mv (lt rfl (lt rfl (lt rfl (lt rfl (lt rfl (s4))))))) rfl ?_
      refine WL.x (X.imag (lh)) rfl ?_
      refine WL.x (X.mv (lt rfl (lt rfl (lt rfl (lt rfl (lt rfl (lt rfl (lt rfl (s7))))))))) rfl ?_
      refine WL.x (X.imag (lh)) rfl ?_
      refine WL.x (X.fmin (lt rfl (lt rfl (lh))) (lh) (by have := h6a.2; omega) (by have := h6a.2; omega) (by have := hk6.2; omega) (by have := hk6.2; omega)) rfl ?_
      refine WL.x (X.complex (lt rfl (lt rfl (lt rfl (lt rfl (lt rfl (lh)))))) (lh)) rfl ?_
      refine WL.x (X.asg (lh)) rfl ?_
      refine WL.e6 Nx.thn 4 5 7 23 24 25 (lh) (lt rfl (lt rfl (lt rfl (lt rfl (lt rfl (lt rfl (lt rfl (lt rfl (lt rfl (lt rfl (lt rfl (lt rfl (s5))))))))))))) (lt rfl (lt rfl (lt rfl (lt rfl (lt rfl (lt rfl (lt rfl (lt rfl (lt rfl (lt rfl (lt rfl (lt rfl (s7))))))))))))) (lt rfl (lt rfl (lt rfl (lt rfl (lt rfl (lt rfl (lt rfl (lt rfl (lt rfl (lt rfl (lt rfl (lt rfl (s23))))))))))))) (lt rfl (lt rfl (lt rfl (lt rfl (lt rfl (lt rfl (lt rfl (lt rfl (lt rfl (lt rfl (lt rfl (lt rfl (s24))))))))))))) (lt rfl (lt rfl (lt rfl (lt rfl (lt rfl (lt rfl (lt rfl (lt rfl (lt rfl (lt rfl (lt rfl (lt rfl (s25))))))))))))) ?_
      intro σ10 s4 s5 s7 s23 s24 s25
      refine W.region ?_
      refine WL.x (X.mv (s5)) rfl ?_
      refine WL.x (X.real (lh)) rfl ?_
      refine WL.x (X.mv (lt rfl (lt rfl (s7)))) rfl ?_
      refine WL.x (X.real (lh)) rfl ?_
      refine WL.x (X.fmax (lt rfl (lt rfl (lh))) (lh) (by have := h6b.1; omega) (by have := h6b.1; omega) (by have := hk6.1; omega) (by have := hk6.1; omega)) rfl ?_
      refine WL.x (X.mv (lt rfl (lt rfl (lt rfl (lt rfl (lt rfl (s5))))))) rfl ?_
      refine WL.x (X.imag (lh)) rfl ?_
      refine WL.x (X.mv (lt rfl (lt rfl (lt rfl (lt rfl (lt rfl (lt rfl (lt rfl (s7))))))))) rfl ?_
      refine WL.x (X.imag (lh)) rfl ?_
      refine WL.x (X.fmax (lt rfl (lt rfl (lh))) (lh) (by have := h6b.2; omega) (by have := h6b.2; omega) (by have := hk6.2; omega) (by have := hk6.2; omega)) rfl ?_
      refine WL.x (X.complex (lt rfl (lt rfl (lt rfl (lt rfl (lt rfl (lh)))))) (lh)) rfl ?_
      refine WL.x (X.asg (lh)) rfl ?_
      refine WL.e5 (Nx.blk Nx.thn) 4 5 23 24 25 (lt rfl (lt rfl (lt rfl (lt rfl (lt rfl (lt rfl (lt rfl (lt rfl (lt rfl (lt rfl (lt rfl (lt rfl (s4))))))))))))) (lh) (lt rfl (lt rfl (lt rfl (lt rfl (lt rfl (lt rfl (lt rfl (lt rfl (lt rfl (lt rfl (lt rfl (lt rfl (s23))))))))))))) (lt rfl (lt rfl (lt rfl (lt rfl (lt rfl (lt rfl (lt rfl (lt rfl (lt rfl (lt rfl (lt rfl (lt rfl (s24))))))))))))) (lt rfl (lt rfl (lt rfl (lt rfl (lt rfl (lt rfl (lt rfl (lt rfl (lt rfl (lt rfl (lt rfl (lt rfl (s25))))))))))))) ?_
      intro σ11 s4 s5 s23 s24 s25
      refine W.region ?_
      first | refine WL.x (X.add (s25) lc (by omega) (by omega)) rfl ?_ | refine WL.x (X.addw (s25) lc) rfl ?_
      refine WL.x (X.mv (lh)) rfl ?_
      refine WL.e5 Nx.thn 4 5 23 24 25 (lt rfl (lt rfl (s4))) (lt rfl (lt rfl (s5))) (lt rfl (lt rfl (s23))) (lt rfl (lt rfl (s24))) (lh) ?_
      intro σ12 s4 s5 s23 s24 s25
      have e1 : ((l.take (k + 1)).foldl lo2 (0, 0)) = lo2 ((l.take k).foldl lo2 (0, 0)) l[k] := by rw [List.take_succ_eq_append_getElem hkl, List.foldl_append]; rfl
      have e2 : ((l.take (k + 1)).foldl hi2 (0, 0)) = hi2 ((l.take k).foldl hi2 (0, 0)) l[k] := by rw [List.take_succ_eq_append_getElem hkl, List.foldl_append]; rfl
      refine ⟨k + 1, by first | omega | (dsimp only; omega), ⟨s23.trans qo1.symm, s24.trans qo2.symm, trivial⟩, rfl, s25, by omega, (by rw [e1]; exact s4), (by rw [e2]; exact s5)⟩
    · obtain rfl : l.length = k := by omega
      rw [List.take_of_length_le (Nat.le_refl _)] at s4 s5
      refine W.exit (Nx.xthn (Nx.xthn (Nx.xblk Nx.thn))) ?_
      refine W.seq ?_
      refine W.region ?_
      refine WL.x (X.mv (s4)) rfl ?_
      refine WL.call1 ce11 (lh) (plain_ok (low l) w1 (low6 h6).near) rfl ?_
      rintro _ _ ⟨rfl, rfl⟩
      refine WL.x (X.mv (lt rfl (lt rfl (s5)))) rfl ?_
      refine WL.call1 ce11 (lh) (plain_ok (high l) w1 (high6 h6).near) rfl ?_
      rintro _ _ ⟨rfl, rfl⟩
      refine WL.x (X.asg (lt rfl (lt rfl (lh)))) rfl ?_
      refine WL.x (X.asg (lt rfl (lh))) rfl ?_
      refine WL.e2 Nx.thn 2 3 (lt rfl (lh)) (lh) ?_
      intro σ13 s2 s3
      refine W.ret2 Nx.f2 s2 s3 ?_
      exact ⟨rfl, dr3⟩
theorem eqc_ok (a1 a2 : Option Addr) (c1 c2 : Nat) (l : List Pl) (w : World) (h1 : Sl w (.slice a1 l.length c1) (l.map cv)) (h2 : Sl w (.slice a2 l.length c2) (l.map cv)) (hn : ∀ p ∈ l, Near 10 p) (hlen : l.length ≤ 100) :
    Sg.Ret Try.prog 9 #[.slice a1 l.length c1, .slice a2 l.length c2] w fun v w' => v = .bool true ∧ Dr w w' := by
  refine enter1 (n := 26) (l := [.slice a1 l.length c1, .slice a2 l.length c2]) Try.func9 rfl rfl rfl rfl ?_
  refine W.g2 0 1 (v1 := .slice a1 l.length c1) (v2 := .slice a2 l.length c2) rfl rfl ?_; intro σ s0 s1
  refine W.seq ?_
  refine W.region ?_
  refine WL.x (X.asg lc) rfl ?_
  refine WL.e2 Nx.thn 0 1 (lt rfl (s0)) (lt rfl (s1)) ?_
  intro σ1 s0 s1
  refine W.seq ?_
  refine W.seq ?_
  refine W.region ?_
  refine WL.x (X.mv (s0)) rfl ?_
  refine WL.x (X.lenSl Try.underlying22 (lh)) rfl ?_
  refine WL.x (X.mv (lt rfl (lt rfl (s1)))) rfl ?_
  refine WL.x (X.lenSl Try.underlying22 (lh)) rfl ?_
  refine WL.x (X.neq (lt rfl (lt rfl (lh))) (lh)) rfl ?_
  refine WL.e3 Nx.thn 0 1 10 (lt rfl (lt rfl (lt rfl (lt rfl (lt rfl (s0)))))) (lt rfl (lt rfl (lt rfl (lt rfl (lt rfl (s1)))))) (lh) ?_
  intro σ2 s0 s1 s10
  refine W.cndN s10 (fun h => h rfl) ?_
  refine W.skip Nx.thn ?_
  refine W.seq ?_
  refine W.seq ?_
  refine W.region ?_
  refine WL.x (X.mv (s0)) rfl ?_
  refine WL.x (X.lenSl Try.underlying22 (lh)) rfl ?_
  refine WL.x (X.mv lc) rfl ?_
  refine WL.e4 Nx.thn 0 1 12 13 (lt rfl (lt rfl (lt rfl (s0)))) (lt rfl (lt rfl (lt rfl (s1)))) (lt rfl (lh)) (lh) ?_
  intro σ3 s0 s1 s12 s13
  refine W.block ?_
  have qo1 := s0
  have qo2 := s1
  have qo3 := s12
  -- loop 0: kept [0, 1, 12], varied [13]
  refine W.loop (G := Nat) (fun k σ' w' => (σ' 0 = σ3 0 ∧ σ' 1 = σ3 1 ∧ σ' 12 = σ3 12 ∧ True) ∧ (σ' 13 = .int .i64 (k : Int) ∧ k ≤ l.length ∧ Dr w w')) (fun k => l.length - k) (0) ⟨⟨rfl, rfl, rfl, trivial⟩, s13, by omega, Dr.refl _⟩ ?_
  rintro k σ4 w1 ⟨⟨f0, f1, f12, _⟩, s13, hk, hdr⟩
  have s0 := f0.trans qo1
  have s1 := f1.trans qo2
  have s12 := f12.trans qo3
  refine W.seq ?_
  refine W.region ?_
  refine WL.x (X.lss (s13) (s12)) rfl ?_
  refine WL.e5 Nx.thn 0 1 12 13 14 (lt rfl (s0)) (lt rfl (s1)) (lt rfl (s12)) (lt rfl (s13)) (lh) ?_
  intro σ5 s0 s1 s12 s13 s14
  refine W.seq ?_
  refine W.cndp s14 (fun hlt => ?_) (fun hlt => ?_)
  · have hkl : k < l.length := by omega
    obtain ⟨b1, o1, cs1, T1, fr1, rfl, hm1, he1⟩ := c_at h1 (k := k) hkl
    obtain ⟨b2, o2, cs2, T2, fr2, rfl, hm2, he2⟩ := c_at h2 (k := k) hkl
    have hm1 := hdr.ch0.at0 hm1
    have hm2 := hdr.ch0.at0 hm2
    have hk9 := hn _ (List.getElem_mem hkl)
    refine W.skip Nx.thn ?_
    refine W.seq ?_
    refine W.block ?_
    refine W.seq ?_
    refine W.region ?_
    refine WL.x (X.mv (s13)) rfl ?_
    refine WL.x (X.asg (lh)) rfl ?_
    refine WL.e5 Nx.thn 0 1 5 12 13 (lt rfl (lt rfl (s0))) (lt rfl (lt rfl (s1))) (lh) (lt rfl (lt rfl (s12))) (lt rfl (lt rfl (s13))) ?_
    intro σ6 s0 s1 s5 s12 s13
    refine W.seq ?_
    refine W.draw mo (by kernel_rfl) Nx.thn ?_
    refine WQ.x (fun _ => X.mv (s0)) rfl ?_
    refine WQ.x (fun _ => X.mv (lt rfl (s5))) rfl ?_
    refine WQ.x (fun _ => X.indexAddr Try.underlying22 el25 (lt rfl (lh)) (lh) (by omega) (by omega)) rfl ?_
    refine WQ.x (fun m => X.load (w := w1.drewN m) pl25 (lh) hm1 (v := cv l[k]) he1) rfl ?_
    refine WQ.x (fun _ => X.mv (lt rfl (lt rfl (lt rfl (lt rfl (s1)))))) rfl ?_
    refine WQ.x (fun _ => X.mv (lt rfl (lt rfl (lt rfl (lt rfl (lt rfl (s5))))))) rfl ?_
    refine WQ.x (fun _ => X.indexAddr Try.underlying22 el25 (lt rfl (lh)) (lh) (by omega) (by omega)) rfl ?_
    refine WQ.x (fun m => X.load (w := w1.drewN m) pl25 (lh) hm2 (v := cv l[k]) he2) rfl ?_
    refine WQ.x (fun _ => X.cneq (lt rfl (lt rfl (lt rfl (lt rfl (lh))))) (lh) (feq hk9.1.1 hk9.1.2 hk9.1.1 hk9.1.2) (feq hk9.2.1 hk9.2.2 hk9.2.1 hk9.2.2)) rfl ?_
    refine WQ.e5 0 1 12 13 24 (lt rfl (lt rfl (lt rfl (lt rfl (lt rfl (lt rfl (lt rfl (lt rfl (lt rfl (s0)))))))))) (lt rfl (lt rfl (lt rfl (lt rfl (lt rfl (lt rfl (lt rfl (lt rfl (lt rfl (s1)))))))))) (lt rfl (lt rfl (lt rfl (lt rfl (lt rfl (lt rfl (lt rfl (lt rfl (lt rfl (s12)))))))))) (lt rfl (lt rfl (lt rfl (lt rfl (lt rfl (lt rfl (lt rfl (lt rfl (lt rfl (s13)))))))))) (lh) ?_
    intro σ7 s0 s1 s12 s13 s24
    intro _; refine gdrew ?_; intro w2 hh6 cd6 dr6
    refine W.cndN s24 (fun h => h ⟨rfl, rfl⟩) ?_
    refine W.skip (Nx.blk Nx.thn) ?_
    refine W.region ?_
    first | refine WL.x (X.add (s13) lc (by omega) (by omega)) rfl ?_ | refine WL.x (X.addw (s13) lc) rfl ?_
    refine WL.x (X.mv (lh)) rfl ?_
    refine WL.e4 Nx.thn 0 1 12 13 (lt rfl (lt rfl (s0))) (lt rfl (lt rfl (s1))) (lt rfl (lt rfl (s12))) (lh) ?_
    intro σ8 s0 s1 s12 s13
    refine ⟨k + 1, by first | omega | (dsimp only; omega), ⟨s0.trans qo1.symm, s1.trans qo2.symm, s12.trans qo3.symm, trivial⟩, s13, by omega, hdr.trans dr6⟩
  · refine W.exit (Nx.xthn (Nx.xthn (Nx.xblk Nx.thn))) ?_
    refine W.seq ?_
    refine W.region ?_
    refine WL.x (X.asg lc) rfl ?_
    refine WL.e1 Nx.thn 4 (lh) ?_
    intro σ9 s4
    refine W.ret1 Nx.f1 s4 ?_
    exact ⟨rfl, hdr⟩
end Go.Proofs.Ytfifholofkobhaa
