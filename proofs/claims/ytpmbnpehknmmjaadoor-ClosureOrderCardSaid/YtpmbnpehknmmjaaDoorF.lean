/-
  A part of the walk of the program.
-/
import Derived.Test.YtpmbnpehknmmjaaDoorE
set_option linter.unusedVariables false
set_option linter.unusedSimpArgs false
set_option maxRecDepth 100000
namespace Go.Proofs.YtpmbnpehknmmjaaDoor
open Go Go.RowKit Sg

theorem POrd.o_notw {w : World} {base o n : Nat} {bs bs' : List (Nat × Nat)} {M S : Nat → Nat → Bool} {v1 v2 : Value} (h : POrd w base o n bs bs' M S v1 v2) : ¬ inB bs o ∧ ¬ inB bs' o :=
  ⟨fun hb => ty_ne ⟨_, h.hd⟩ (h.r.fam.ty hb) (by decide) rfl, fun hb => ty_ne ⟨_, h.hd⟩ (h.s.fam.ty hb) (by decide) rfl⟩
/-- Rows of others than bs2 stay where those of bs2 change. -/
theorem Rws.apart {w w' : World} {base n m : Nat} {v : Value} {bs bs2 : List (Nat × Nat)} {M M2 : Nat → Nat → Bool} (h : Rws w base n v bs M) (f : Fam w base m bs2 M2) (c : Ch (inB bs2) w w') (hap : ∀ b ∈ bs, ∀ c ∈ bs2, b.2 ≠ c.2) : Rws w' base n v bs M :=
  h.ch c (fun b hb => by
    obtain ⟨p, hp⟩ := h.fam.at hb
    refine ⟨fun hk => ?_, fun hk => ?_⟩
    · exact ty_ne hp.ty.1 (f.ty hk) (by decide) rfl
    · obtain ⟨c, hc, e⟩ := hk
      exact hap b hb c hc e) (fun k hk => h.notw hk f)
theorem inB_mine {w : World} {base n : Nat} {bs : List (Nat × Nat)} {M : Nat → Nat → Bool} (f : Fam w base n bs M) {k : Nat} (hk : inB bs k) : Mine [78] base w k := by
  obtain ⟨cs, h⟩ := f.ty hk
  exact ⟨(f.lt hk).1, cs, 78, by simp, h⟩
theorem Mine.back {ts : List TypeId} {base : Nat} {F : Nat → Prop} {w w' : World} {k : Nat} (h : Mine ts base w' k) (c : Ch F w w') (hk : k < w.heap.size) (hn : ¬ F k) : Mine ts base w k := by
  obtain ⟨h1, cs, T, hT, h2⟩ := h
  exact ⟨h1, cs, T, hT, by rw [← c.blk k hk hn]; exact h2⟩

theorem oadd_in (base o n : Nat) (M S : Nat → Nat → Bool) (w : World) (h : IsOrd w base o n M S) (a b : Int) (s : Bool) (ha0 : 0 ≤ a) (ha : a < n) (hb0 : 0 ≤ b) (hb : b < n) :
    Sg.Ret Tryd.prog 17 #[.pointer (some ⟨o, 0, none⟩), .int .i64 a, .int .i64 b, .bool s] w fun v w' => v = .int .i64 0 ∧ IsOrd w' base o n (joinM M a.toNat b.toNat) (if s then joinM S a.toNat b.toNat else S) ∧ Ch (Mine [78] base w) w w' := by
  obtain ⟨bs, bs', v1, v2, hp, hl1, hl2, hn3⟩ := h
  have hd := hp.hd
  obtain ⟨va, vc, rfl⟩ := q_len hp.r.sl
  obtain ⟨va', vc', rfl⟩ := q_len hp.s.sl
  refine enter1 (n := 57) (l := [.pointer (some ⟨o, 0, none⟩), .int .i64 a, .int .i64 b, .bool s]) Tryd.func17 rfl rfl rfl rfl ?_
  refine W.g4 0 1 2 3 (v1 := .pointer (some ⟨o, 0, none⟩)) (v2 := .int .i64 a) (v3 := .int .i64 b) (v4 := .bool s) rfl rfl rfl rfl ?_; intro σ s0 s1 s2 s3
  refine W.seq ?_
  refine W.region ?_
  refine WL.x (X.asg lc) rfl ?_
  refine WL.e4 Nx.thn 0 1 2 3 (lt rfl (s0)) (lt rfl (s1)) (lt rfl (s2)) (lt rfl (s3)) ?_
  intro σ1 s0 s1 s2 s3
  refine W.seq ?_
  refine W.seq ?_
  refine W.region ?_
  refine WL.x (X.mv (s0)) rfl ?_
  refine WL.x (X.eqlN Tryd.underlying24 (lh) lc) rfl ?_
  refine WL.x (X.mv (lh)) rfl ?_
  refine WL.yes rfl rfl (lh) (rfl) ?_
  refine WL.x (X.mv (lt rfl (lt rfl (lt rfl (s0))))) rfl ?_
  refine WL.yes rfl rfl (lt rfl (lh)) (rfl) ?_
  refine WL.x (X.nilck (lh)) rfl ?_
  refine WL.yes rfl rfl (lt rfl (lt rfl (lh))) (rfl) ?_
  refine WL.x (X.fieldAddr fd42_2 (lh)) rfl ?_
  refine WL.yes rfl rfl (lt rfl (lt rfl (lt rfl (lh)))) (rfl) ?_
  refine WL.x (X.load pl4 (lh) (by first | assumption) (by first | rfl | assumption)) rfl ?_
  refine WL.yes rfl rfl (lt rfl (lt rfl (lt rfl (lt rfl (lh))))) (rfl) ?_
  refine WL.x (X.not (lh)) rfl ?_
  refine WL.x (X.pickF (lt rfl (lt rfl (lt rfl (lt rfl (lt rfl (lh)))))) (rfl) (lh)) rfl ?_
  refine WL.e5 Nx.thn 0 1 2 3 17 (lt rfl (lt rfl (lt rfl (lt rfl (lt rfl (lt rfl (lt rfl (lt rfl (lt rfl (s0)))))))))) (lt rfl (lt rfl (lt rfl (lt rfl (lt rfl (lt rfl (lt rfl (lt rfl (lt rfl (s1)))))))))) (lt rfl (lt rfl (lt rfl (lt rfl (lt rfl (lt rfl (lt rfl (lt rfl (lt rfl (s2)))))))))) (lt rfl (lt rfl (lt rfl (lt rfl (lt rfl (lt rfl (lt rfl (lt rfl (lt rfl (s3)))))))))) (lh) ?_
  intro σ2 s0 s1 s2 s3 s17
  refine W.cndBF s17 (rfl) ?_
  refine W.skip Nx.thn ?_
  refine W.seq ?_
  refine W.seq ?_
  refine W.region ?_
  refine WL.x (X.mv (s1)) rfl ?_
  refine WL.x (X.lss (lh) lc) rfl ?_
  refine WL.x (X.mv (lh)) rfl ?_
  refine WL.yes rfl rfl (lh) (decide_eq_false (by omega)) ?_
  refine WL.x (X.mv (lt rfl (lt rfl (lt rfl (s1))))) rfl ?_
  refine WL.yes rfl rfl (lt rfl (lh)) (decide_eq_false (by omega)) ?_
  refine WL.x (X.mv (lt rfl (lt rfl (lt rfl (lt rfl (s0)))))) rfl ?_
  refine WL.yes rfl rfl (lt rfl (lt rfl (lh))) (decide_eq_false (by omega)) ?_
  refine WL.x (X.nilck (lh)) rfl ?_
  refine WL.yes rfl rfl (lt rfl (lt rfl (lt rfl (lh)))) (decide_eq_false (by omega)) ?_
  refine WL.x (X.fieldAddr fd42_0 (lh)) rfl ?_
  refine WL.yes rfl rfl (lt rfl (lt rfl (lt rfl (lt rfl (lh))))) (decide_eq_false (by omega)) ?_
  refine WL.x (X.fieldAddr fd40_0 (lh)) rfl ?_
  refine WL.yes rfl rfl (lt rfl (lt rfl (lt rfl (lt rfl (lt rfl (lh)))))) (decide_eq_false (by omega)) ?_
  refine WL.x (X.load pl38 (lh) (by first | assumption) (by first | rfl | assumption)) rfl ?_
  refine WL.yes rfl rfl (lt rfl (lt rfl (lt rfl (lt rfl (lt rfl (lt rfl (lh))))))) (decide_eq_false (by omega)) ?_
  refine WL.x (X.lenSl Tryd.underlying38 (lh)) rfl ?_
  refine WL.yes rfl rfl (lt rfl (lt rfl (lt rfl (lt rfl (lt rfl (lt rfl (lt rfl (lh)))))))) (decide_eq_false (by omega)) ?_
  refine WL.x (X.geq (lt rfl (lt rfl (lt rfl (lt rfl (lt rfl (lt rfl (lh))))))) (lh)) rfl ?_
  refine WL.x (X.pickF (lt rfl (lt rfl (lt rfl (lt rfl (lt rfl (lt rfl (lt rfl (lt rfl (lh))))))))) (decide_eq_false (by omega)) (lh)) rfl ?_
  refine WL.x (X.mv (lh)) rfl ?_
  refine WL.yes rfl rfl (lh) (decide_eq_false (by omega)) ?_
  refine WL.x (X.mv (lt rfl (lt rfl (lt rfl (lt rfl (lt rfl (lt rfl (lt rfl (lt rfl (lt rfl (lt rfl (lt rfl (lt rfl (lt rfl (s2))))))))))))))) rfl ?_
  refine WL.yes rfl rfl (lt rfl (lh)) (decide_eq_false (by omega)) ?_
  refine WL.x (X.lss (lh) lc) rfl ?_
  refine WL.x (X.pickF (lt rfl (lt rfl (lh))) (decide_eq_false (by omega)) (lh)) rfl ?_
  refine WL.x (X.mv (lh)) rfl ?_
  refine WL.yes rfl rfl (lh) (decide_eq_false (by omega)) ?_
  refine WL.x (X.mv (lt rfl (lt rfl (lt rfl (lt rfl (lt rfl (lt rfl (lt rfl (lt rfl (lt rfl (lt rfl (lt rfl (lt rfl (lt rfl (lt rfl (lt rfl (lt rfl (lt rfl (s2))))))))))))))))))) rfl ?_
  refine WL.yes rfl rfl (lt rfl (lh)) (decide_eq_false (by omega)) ?_
  refine WL.x (X.mv (lt rfl (lt rfl (lt rfl (lt rfl (lt rfl (lt rfl (lt rfl (lt rfl (lt rfl (lt rfl (lt rfl (lt rfl (lt rfl (lt rfl (lt rfl (lt rfl (lt rfl (lt rfl (s0)))))))))))))))))))) rfl ?_
  refine WL.yes rfl rfl (lt rfl (lt rfl (lh))) (decide_eq_false (by omega)) ?_
  refine WL.x (X.nilck (lh)) rfl ?_
  refine WL.yes rfl rfl (lt rfl (lt rfl (lt rfl (lh)))) (decide_eq_false (by omega)) ?_
  refine WL.x (X.fieldAddr fd42_0 (lh)) rfl ?_
  refine WL.yes rfl rfl (lt rfl (lt rfl (lt rfl (lt rfl (lh))))) (decide_eq_false (by omega)) ?_
  refine WL.x (X.fieldAddr fd40_0 (lh)) rfl ?_
  refine WL.yes rfl rfl (lt rfl (lt rfl (lt rfl (lt rfl (lt rfl (lh)))))) (decide_eq_false (by omega)) ?_
  refine WL.x (X.load pl38 (lh) (by first | assumption) (by first | rfl | assumption)) rfl ?_
  refine WL.yes rfl rfl (lt rfl (lt rfl (lt rfl (lt rfl (lt rfl (lt rfl (lh))))))) (decide_eq_false (by omega)) ?_
  refine WL.x (X.lenSl Tryd.underlying38 (lh)) rfl ?_
  refine WL.yes rfl rfl (lt rfl (lt rfl (lt rfl (lt rfl (lt rfl (lt rfl (lt rfl (lh)))))))) (decide_eq_false (by omega)) ?_
  refine WL.x (X.geq (lt rfl (lt rfl (lt rfl (lt rfl (lt rfl (lt rfl (lh))))))) (lh)) rfl ?_
  refine WL.x (X.pickF (lt rfl (lt rfl (lt rfl (lt rfl (lt rfl (lt rfl (lt rfl (lt rfl (lh))))))))) (decide_eq_false (by omega)) (lh)) rfl ?_
  refine WL.e5 Nx.thn 0 1 2 3 43 (lt rfl (lt rfl (lt rfl (lt rfl (lt rfl (lt rfl (lt rfl (lt rfl (lt rfl (lt rfl (lt rfl (lt rfl (lt rfl (lt rfl (lt rfl (lt rfl (lt rfl (lt rfl (lt rfl (lt rfl (lt rfl (lt rfl (lt rfl (lt rfl (lt rfl (lt rfl (s0))))))))))))))))))))))))))) (lt rfl (lt rfl (lt rfl (lt rfl (lt rfl (lt rfl (lt rfl (lt rfl (lt rfl (lt rfl (lt rfl (lt rfl (lt rfl (lt rfl (lt rfl (lt rfl (lt rfl (lt rfl (lt rfl (lt rfl (lt rfl (lt rfl (lt rfl (lt rfl (lt rfl (lt rfl (s1))))))))))))))))))))))))))) (lt rfl (lt rfl (lt rfl (lt rfl (lt rfl (lt rfl (lt rfl (lt rfl (lt rfl (lt rfl (lt rfl (lt rfl (lt rfl (lt rfl (lt rfl (lt rfl (lt rfl (lt rfl (lt rfl (lt rfl (lt rfl (lt rfl (lt rfl (lt rfl (lt rfl (lt rfl (s2))))))))))))))))))))))))))) (lt rfl (lt rfl (lt rfl (lt rfl (lt rfl (lt rfl (lt rfl (lt rfl (lt rfl (lt rfl (lt rfl (lt rfl (lt rfl (lt rfl (lt rfl (lt rfl (lt rfl (lt rfl (lt rfl (lt rfl (lt rfl (lt rfl (lt rfl (lt rfl (lt rfl (lt rfl (s3))))))))))))))))))))))))))) (lh) ?_
  intro σ3 s0 s1 s2 s3 s43
  refine W.cndN s43 (by omega) ?_
  refine W.skip Nx.thn ?_
  refine W.seq ?_
  refine W.region ?_
  refine WL.x (X.mv (s0)) rfl ?_
  refine WL.x (X.nilck (lh)) rfl ?_
  refine WL.x (X.fieldAddr fd42_0 (lh)) rfl ?_
  refine WL.x (X.mv (lt rfl (lt rfl (lt rfl (s1))))) rfl ?_
  refine WL.x (X.mv (lt rfl (lt rfl (lt rfl (lt rfl (s2)))))) rfl ?_
  refine WL.call3 ce27 (lt rfl (lt rfl (lh))) (lt rfl (lh)) (lh) (put_ok base n o 0 _ bs M _ _ w hd rfl hp.r hl1 hn3 a b ha0 ha hb0 hb (by decide)) rfl ?_
  rintro _ w1 ⟨hr1, c1⟩
  have hd1 := c1.at hd hp.o_notw.1
  have hs1 := hp.s.apart hp.r.fam c1 (fun b hb c hc e => hp.ap c hc b hb e.symm)
  have hm1 : Ch (Mine [78] base w) w w1 := c1.mono (fun i _ hi => inB_mine hp.r.fam hi)
  refine WL.e4 Nx.thn 0 1 2 3 (lt rfl (lt rfl (lt rfl (lt rfl (lt rfl (lt rfl (s0))))))) (lt rfl (lt rfl (lt rfl (lt rfl (lt rfl (lt rfl (s1))))))) (lt rfl (lt rfl (lt rfl (lt rfl (lt rfl (lt rfl (s2))))))) (lt rfl (lt rfl (lt rfl (lt rfl (lt rfl (lt rfl (s3))))))) ?_
  intro σ4 s0 s1 s2 s3
  refine W.seq ?_
  refine W.seq ?_
  refine W.region ?_
  refine WL.x (X.mv (s3)) rfl ?_
  refine WL.e4 Nx.thn 0 1 2 50 (lt rfl (s0)) (lt rfl (s1)) (lt rfl (s2)) (lh) ?_
  intro σ5 s0 s1 s2 s50
  refine W.cnd s50 (fun hs => ?_) (fun hs => ?_)
  · refine W.region ?_
    refine WL.x (X.mv (s0)) rfl ?_
    refine WL.x (X.nilck (lh)) rfl ?_
    refine WL.x (X.fieldAddr fd42_1 (lh)) rfl ?_
    refine WL.x (X.mv (lt rfl (lt rfl (lt rfl (s1))))) rfl ?_
    refine WL.x (X.mv (lt rfl (lt rfl (lt rfl (lt rfl (s2)))))) rfl ?_
    refine WL.call3 ce27 (lt rfl (lt rfl (lh))) (lt rfl (lh)) (lh) (put_ok base n o 1 _ bs' S _ _ w1 hd1 rfl hs1 hl2 hn3 a b ha0 ha hb0 hb (by decide)) rfl ?_
    rintro _ w2 ⟨hr2, c2⟩
    have hd2 := c2.at hd1 (fun hb => hp.o_notw.2 hb)
    have hr3 := hr1.apart hs1.fam c2 hp.ap
    have hm2 := hm1.trans c2 (fun _ _ => id) (fun i _ hi => inB_mine hp.s.fam hi)
    refine WL.e0 Nx.thn  ?_
    intro σ6 
    refine W.seq ?_
    refine W.region ?_
    refine WL.x (X.asg lc) rfl ?_
    refine WL.e1 Nx.thn 8 (lh) ?_
    intro σ7 s8
    refine W.ret1 Nx.f1 s8 ?_
    exact ⟨rfl, ⟨bs, bs', _, _, ⟨hd2, hr3, by rw [if_pos hs]; exact hr2, hp.ap, hp.lo⟩, hl1, hl2, hn3⟩, hm2⟩
  · refine W.skip Nx.thn ?_
    refine W.seq ?_
    refine W.region ?_
    refine WL.x (X.asg lc) rfl ?_
    refine WL.e1 Nx.thn 8 (lh) ?_
    intro σ8 s8
    refine W.ret1 Nx.f1 s8 ?_
    exact ⟨rfl, ⟨bs, bs', _, _, ⟨hd1, hr1, by rw [if_neg (by simp [hs])]; exact hs1, hp.ap, hp.lo⟩, hl1, hl2, hn3⟩, hm1⟩
theorem oadd_out (base o n : Nat) (M S : Nat → Nat → Bool) (w : World) (h : IsOrd w base o n M S) (a b : Int) (s : Bool) (hno : ¬ (0 ≤ a ∧ a < n ∧ 0 ≤ b ∧ b < n)) :
    Sg.Ret Tryd.prog 17 #[.pointer (some ⟨o, 0, none⟩), .int .i64 a, .int .i64 b, .bool s] w fun v w' => v = .int .i64 1 ∧ w = w' := by
  obtain ⟨bs, bs', v1, v2, hp, hl1, hl2, hn3⟩ := h
  have hd := hp.hd
  obtain ⟨va, vc, rfl⟩ := q_len hp.r.sl
  obtain ⟨va', vc', rfl⟩ := q_len hp.s.sl
  refine enter1 (n := 57) (l := [.pointer (some ⟨o, 0, none⟩), .int .i64 a, .int .i64 b, .bool s]) Tryd.func17 rfl rfl rfl rfl ?_
  refine W.g4 0 1 2 3 (v1 := .pointer (some ⟨o, 0, none⟩)) (v2 := .int .i64 a) (v3 := .int .i64 b) (v4 := .bool s) rfl rfl rfl rfl ?_; intro σ s0 s1 s2 s3
  refine W.seq ?_
  refine W.region ?_
  refine WL.x (X.asg lc) rfl ?_
  refine WL.e4 Nx.thn 0 1 2 3 (lt rfl (s0)) (lt rfl (s1)) (lt rfl (s2)) (lt rfl (s3)) ?_
  intro σ1 s0 s1 s2 s3
  refine W.seq ?_
  refine W.seq ?_
  refine W.region ?_
  refine WL.x (X.mv (s0)) rfl ?_
  refine WL.x (X.eqlN Tryd.underlying24 (lh) lc) rfl ?_
  refine WL.x (X.mv (lh)) rfl ?_
  refine WL.yes rfl rfl (lh) (rfl) ?_
  refine WL.x (X.mv (lt rfl (lt rfl (lt rfl (s0))))) rfl ?_
  refine WL.yes rfl rfl (lt rfl (lh)) (rfl) ?_
  refine WL.x (X.nilck (lh)) rfl ?_
  refine WL.yes rfl rfl (lt rfl (lt rfl (lh))) (rfl) ?_
  refine WL.x (X.fieldAddr fd42_2 (lh)) rfl ?_
  refine WL.yes rfl rfl (lt rfl (lt rfl (lt rfl (lh)))) (rfl) ?_
  refine WL.x (X.load pl4 (lh) (by first | assumption) (by first | rfl | assumption)) rfl ?_
  refine WL.yes rfl rfl (lt rfl (lt rfl (lt rfl (lt rfl (lh))))) (rfl) ?_
  refine WL.x (X.not (lh)) rfl ?_
  refine WL.x (X.pickF (lt rfl (lt rfl (lt rfl (lt rfl (lt rfl (lh)))))) (rfl) (lh)) rfl ?_
  refine WL.e5 Nx.thn 0 1 2 3 17 (lt rfl (lt rfl (lt rfl (lt rfl (lt rfl (lt rfl (lt rfl (lt rfl (lt rfl (s0)))))))))) (lt rfl (lt rfl (lt rfl (lt rfl (lt rfl (lt rfl (lt rfl (lt rfl (lt rfl (s1)))))))))) (lt rfl (lt rfl (lt rfl (lt rfl (lt rfl (lt rfl (lt rfl (lt rfl (lt rfl (s2)))))))))) (lt rfl (lt rfl (lt rfl (lt rfl (lt rfl (lt rfl (lt rfl (lt rfl (lt rfl (s3)))))))))) (lh) ?_
  intro σ2 s0 s1 s2 s3 s17
  refine W.cndBF s17 (rfl) ?_
  refine W.skip Nx.thn ?_
  refine W.seq ?_
  refine W.seq ?_
  refine W.region ?_
  refine WL.x (X.mv (s1)) rfl ?_
  refine WL.x (X.lss (lh) lc) rfl ?_
  refine WL.x (X.mv (lh)) rfl ?_
  refine WL.splitp (lh) (fun q1 => ?_) (fun q1 => ?_)
  · refine WL.no rfl rfl (lh) (decide_eq_true q1) rfl ?_
    refine WL.no rfl rfl (lt rfl (lh)) (decide_eq_true q1) rfl ?_
    refine WL.no rfl rfl (lt rfl (lt rfl (lh))) (decide_eq_true q1) rfl ?_
    refine WL.no rfl rfl (lt rfl (lt rfl (lt rfl (lh)))) (decide_eq_true q1) rfl ?_
    refine WL.no rfl rfl (lt rfl (lt rfl (lt rfl (lt rfl (lh))))) (decide_eq_true q1) rfl ?_
    refine WL.no rfl rfl (lt rfl (lt rfl (lt rfl (lt rfl (lt rfl (lh)))))) (decide_eq_true q1) rfl ?_
    refine WL.no rfl rfl (lt rfl (lt rfl (lt rfl (lt rfl (lt rfl (lt rfl (lh))))))) (decide_eq_true q1) rfl ?_
    refine WL.no rfl rfl (lt rfl (lt rfl (lt rfl (lt rfl (lt rfl (lt rfl (lt rfl (lh)))))))) (decide_eq_true q1) rfl ?_
    refine WL.x (X.pickT (lt rfl (lt rfl (lt rfl (lt rfl (lt rfl (lt rfl (lt rfl (lt rfl (lh))))))))) (decide_eq_true q1) lc) rfl ?_
    refine WL.x (X.mv (lh)) rfl ?_
    refine WL.no rfl rfl (lh) rfl rfl ?_
    refine WL.no rfl rfl (lt rfl (lh)) rfl rfl ?_
    refine WL.x (X.pickT (lt rfl (lt rfl (lh))) rfl lc) rfl ?_
    refine WL.x (X.mv (lh)) rfl ?_
    refine WL.no rfl rfl (lh) rfl rfl ?_
    refine WL.no rfl rfl (lt rfl (lh)) rfl rfl ?_
    refine WL.no rfl rfl (lt rfl (lt rfl (lh))) rfl rfl ?_
    refine WL.no rfl rfl (lt rfl (lt rfl (lt rfl (lh)))) rfl rfl ?_
    refine WL.no rfl rfl (lt rfl (lt rfl (lt rfl (lt rfl (lh))))) rfl rfl ?_
    refine WL.no rfl rfl (lt rfl (lt rfl (lt rfl (lt rfl (lt rfl (lh)))))) rfl rfl ?_
    refine WL.no rfl rfl (lt rfl (lt rfl (lt rfl (lt rfl (lt rfl (lt rfl (lh))))))) rfl rfl ?_
    refine WL.no rfl rfl (lt rfl (lt rfl (lt rfl (lt rfl (lt rfl (lt rfl (lt rfl (lh)))))))) rfl rfl ?_
    refine WL.x (X.pickT (lt rfl (lt rfl (lt rfl (lt rfl (lt rfl (lt rfl (lt rfl (lt rfl (lh))))))))) rfl lc) rfl ?_
    refine WL.e5 Nx.thn 0 1 2 3 43 (lt rfl (lt rfl (lt rfl (lt rfl (lt rfl (lt rfl (lt rfl (lt rfl (lt rfl (lt rfl (lt rfl (lt rfl (lt rfl (lt rfl (lt rfl (lt rfl (lt rfl (lt rfl (lt rfl (lt rfl (lt rfl (lt rfl (lt rfl (lt rfl (lt rfl (lt rfl (s0))))))))))))))))))))))))))) (lt rfl (lt rfl (lt rfl (lt rfl (lt rfl (lt rfl (lt rfl (lt rfl (lt rfl (lt rfl (lt rfl (lt rfl (lt rfl (lt rfl (lt rfl (lt rfl (lt rfl (lt rfl (lt rfl (lt rfl (lt rfl (lt rfl (lt rfl (lt rfl (lt rfl (lt rfl (s1))))))))))))))))))))))))))) (lt rfl (lt rfl (lt rfl (lt rfl (lt rfl (lt rfl (lt rfl (lt rfl (lt rfl (lt rfl (lt rfl (lt rfl (lt rfl (lt rfl (lt rfl (lt rfl (lt rfl (lt rfl (lt rfl (lt rfl (lt rfl (lt rfl (lt rfl (lt rfl (lt rfl (lt rfl (s2))))))))))))))))))))))))))) (lt rfl (lt rfl (lt rfl (lt rfl (lt rfl (lt rfl (lt rfl (lt rfl (lt rfl (lt rfl (lt rfl (lt rfl (lt rfl (lt rfl (lt rfl (lt rfl (lt rfl (lt rfl (lt rfl (lt rfl (lt rfl (lt rfl (lt rfl (lt rfl (lt rfl (lt rfl (s3))))))))))))))))))))))))))) (lh) ?_
    intro σ3 s0 s1 s2 s3 s43
    refine W.cndT s43 ?_
    refine W.seq ?_
    refine W.region ?_
    refine WL.x (X.asg lc) rfl ?_
    refine WL.e1 Nx.thn 8 (lh) ?_
    intro σ4 s8
    refine W.ret1 (Nx.rthn Nx.f1) s8 ?_
    exact ⟨rfl, rfl⟩
  · refine WL.yes rfl rfl (lh) (decide_eq_false q1) ?_
    refine WL.x (X.mv (lt rfl (lt rfl (lt rfl (s1))))) rfl ?_
    refine WL.yes rfl rfl (lt rfl (lh)) (decide_eq_false q1) ?_
    refine WL.x (X.mv (lt rfl (lt rfl (lt rfl (lt rfl (s0)))))) rfl ?_
    refine WL.yes rfl rfl (lt rfl (lt rfl (lh))) (decide_eq_false q1) ?_
    refine WL.x (X.nilck (lh)) rfl ?_
    refine WL.yes rfl rfl (lt rfl (lt rfl (lt rfl (lh)))) (decide_eq_false q1) ?_
    refine WL.x (X.fieldAddr fd42_0 (lh)) rfl ?_
    refine WL.yes rfl rfl (lt rfl (lt rfl (lt rfl (lt rfl (lh))))) (decide_eq_false q1) ?_
    refine WL.x (X.fieldAddr fd40_0 (lh)) rfl ?_
    refine WL.yes rfl rfl (lt rfl (lt rfl (lt rfl (lt rfl (lt rfl (lh)))))) (decide_eq_false q1) ?_
    refine WL.x (X.load pl38 (lh) (by first | assumption) (by first | rfl | assumption)) rfl ?_
    refine WL.yes rfl rfl (lt rfl (lt rfl (lt rfl (lt rfl (lt rfl (lt rfl (lh))))))) (decide_eq_false q1) ?_
    refine WL.x (X.lenSl Tryd.underlying38 (lh)) rfl ?_
    refine WL.yes rfl rfl (lt rfl (lt rfl (lt rfl (lt rfl (lt rfl (lt rfl (lt rfl (lh)))))))) (decide_eq_false q1) ?_
    refine WL.x (X.geq (lt rfl (lt rfl (lt rfl (lt rfl (lt rfl (lt rfl (lh))))))) (lh)) rfl ?_
    refine WL.x (X.pickF (lt rfl (lt rfl (lt rfl (lt rfl (lt rfl (lt rfl (lt rfl (lt rfl (lh))))))))) (decide_eq_false q1) (lh)) rfl ?_
    refine WL.x (X.mv (lh)) rfl ?_
    refine WL.splitp (lh) (fun q2 => ?_) (fun q2 => ?_)
    · refine WL.no rfl rfl (lh) (decide_eq_true q2) rfl ?_
      refine WL.no rfl rfl (lt rfl (lh)) (decide_eq_true q2) rfl ?_
      refine WL.x (X.pickT (lt rfl (lt rfl (lh))) (decide_eq_true q2) lc) rfl ?_
      refine WL.x (X.mv (lh)) rfl ?_
      refine WL.no rfl rfl (lh) rfl rfl ?_
      refine WL.no rfl rfl (lt rfl (lh)) rfl rfl ?_
      refine WL.no rfl rfl (lt rfl (lt rfl (lh))) rfl rfl ?_
      refine WL.no rfl rfl (lt rfl (lt rfl (lt rfl (lh)))) rfl rfl ?_
      refine WL.no rfl rfl (lt rfl (lt rfl (lt rfl (lt rfl (lh))))) rfl rfl ?_
      refine WL.no rfl rfl (lt rfl (lt rfl (lt rfl (lt rfl (lt rfl (lh)))))) rfl rfl ?_
      refine WL.no rfl rfl (lt rfl (lt rfl (lt rfl (lt rfl (lt rfl (lt rfl (lh))))))) rfl rfl ?_
      refine WL.no rfl rfl (lt rfl (lt rfl (lt rfl (lt rfl (lt rfl (lt rfl (lt rfl (lh)))))))) rfl rfl ?_
      refine WL.x (X.pickT (lt rfl (lt rfl (lt rfl (lt rfl (lt rfl (lt rfl (lt rfl (lt rfl (lh))))))))) rfl lc) rfl ?_
      refine WL.e5 Nx.thn 0 1 2 3 43 (lt rfl (lt rfl (lt rfl (lt rfl (lt rfl (lt rfl (lt rfl (lt rfl (lt rfl (lt rfl (lt rfl (lt rfl (lt rfl (lt rfl (lt rfl (lt rfl (lt rfl (lt rfl (lt rfl (lt rfl (lt rfl (lt rfl (lt rfl (lt rfl (lt rfl (lt rfl (s0))))))))))))))))))))))))))) (lt rfl (lt rfl (lt rfl (lt rfl (lt rfl (lt rfl (lt rfl (lt rfl (lt rfl (lt rfl (lt rfl (lt rfl (lt rfl (lt rfl (lt rfl (lt rfl (lt rfl (lt rfl (lt rfl (lt rfl (lt rfl (lt rfl (lt rfl (lt rfl (lt rfl (lt rfl (s1))))))))))))))))))))))))))) (lt rfl (lt rfl (lt rfl (lt rfl (lt rfl (lt rfl (lt rfl (lt rfl (lt rfl (lt rfl (lt rfl (lt rfl (lt rfl (lt rfl (lt rfl (lt rfl (lt rfl (lt rfl (lt rfl (lt rfl (lt rfl (lt rfl (lt rfl (lt rfl (lt rfl (lt rfl (s2))))))))))))))))))))))))))) (lt rfl (lt rfl (lt rfl (lt rfl (lt rfl (lt rfl (lt rfl (lt rfl (lt rfl (lt rfl (lt rfl (lt rfl (lt rfl (lt rfl (lt rfl (lt rfl (lt rfl (lt rfl (lt rfl (lt rfl (lt rfl (lt rfl (lt rfl (lt rfl (lt rfl (lt rfl (s3))))))))))))))))))))))))))) (lh) ?_
      intro σ5 s0 s1 s2 s3 s43
      refine W.cndT s43 ?_
      refine W.seq ?_
      refine W.region ?_
      refine WL.x (X.asg lc) rfl ?_
      refine WL.e1 Nx.thn 8 (lh) ?_
      intro σ6 s8
      refine W.ret1 (Nx.rthn Nx.f1) s8 ?_
      exact ⟨rfl, rfl⟩
    · refine WL.yes rfl rfl (lh) (decide_eq_false q2) ?_
      refine WL.x (X.mv (lt rfl (lt rfl (lt rfl (lt rfl (lt rfl (lt rfl (lt rfl (lt rfl (lt rfl (lt rfl (lt rfl (lt rfl (lt rfl (s2))))))))))))))) rfl ?_
      refine WL.yes rfl rfl (lt rfl (lh)) (decide_eq_false q2) ?_
      refine WL.x (X.lss (lh) lc) rfl ?_
      refine WL.x (X.pickF (lt rfl (lt rfl (lh))) (decide_eq_false q2) (lh)) rfl ?_
      refine WL.x (X.mv (lh)) rfl ?_
      refine WL.splitp (lh) (fun q3 => ?_) (fun q3 => ?_)
      · refine WL.no rfl rfl (lh) (decide_eq_true q3) rfl ?_
        refine WL.no rfl rfl (lt rfl (lh)) (decide_eq_true q3) rfl ?_
        refine WL.no rfl rfl (lt rfl (lt rfl (lh))) (decide_eq_true q3) rfl ?_
        refine WL.no rfl rfl (lt rfl (lt rfl (lt rfl (lh)))) (decide_eq_true q3) rfl ?_
        refine WL.no rfl rfl (lt rfl (lt rfl (lt rfl (lt rfl (lh))))) (decide_eq_true q3) rfl ?_
        refine WL.no rfl rfl (lt rfl (lt rfl (lt rfl (lt rfl (lt rfl (lh)))))) (decide_eq_true q3) rfl ?_
        refine WL.no rfl rfl (lt rfl (lt rfl (lt rfl (lt rfl (lt rfl (lt rfl (lh))))))) (decide_eq_true q3) rfl ?_
        refine WL.no rfl rfl (lt rfl (lt rfl (lt rfl (lt rfl (lt rfl (lt rfl (lt rfl (lh)))))))) (decide_eq_true q3) rfl ?_
        refine WL.x (X.pickT (lt rfl (lt rfl (lt rfl (lt rfl (lt rfl (lt rfl (lt rfl (lt rfl (lh))))))))) (decide_eq_true q3) lc) rfl ?_
        refine WL.e5 Nx.thn 0 1 2 3 43 (lt rfl (lt rfl (lt rfl (lt rfl (lt rfl (lt rfl (lt rfl (lt rfl (lt rfl (lt rfl (lt rfl (lt rfl (lt rfl (lt rfl (lt rfl (lt rfl (lt rfl (lt rfl (lt rfl (lt rfl (lt rfl (lt rfl (lt rfl (lt rfl (lt rfl (lt rfl (s0))))))))))))))))))))))))))) (lt rfl (lt rfl (lt rfl (lt rfl (lt rfl (lt rfl (lt rfl (lt rfl (lt rfl (lt rfl (lt rfl (lt rfl (lt rfl (lt rfl (lt rfl (lt rfl (lt rfl (lt rfl (lt rfl (lt rfl (lt rfl (lt rfl (lt rfl (lt rfl (lt rfl (lt rfl (s1))))))))))))))))))))))))))) (lt rfl (lt rfl (lt rfl (lt rfl (lt rfl (lt rfl (lt rfl (lt rfl (lt rfl (lt rfl (lt rfl (lt rfl (lt rfl (lt rfl (lt rfl (lt rfl (lt rfl (lt rfl (lt rfl (lt rfl (lt rfl (lt rfl (lt rfl (lt rfl (lt rfl (lt rfl (s2))))))))))))))))))))))))))) (lt rfl (lt rfl (lt rfl (lt rfl (lt rfl (lt rfl (lt rfl (lt rfl (lt rfl (lt rfl (lt rfl (lt rfl (lt rfl (lt rfl (lt rfl (lt rfl (lt rfl (lt rfl (lt rfl (lt rfl (lt rfl (lt rfl (lt rfl (lt rfl (lt rfl (lt rfl (s3))))))))))))))))))))))))))) (lh) ?_
        intro σ7 s0 s1 s2 s3 s43
        refine W.cndT s43 ?_
        refine W.seq ?_
        refine W.region ?_
        refine WL.x (X.asg lc) rfl ?_
        refine WL.e1 Nx.thn 8 (lh) ?_
        intro σ8 s8
        refine W.ret1 (Nx.rthn Nx.f1) s8 ?_
        exact ⟨rfl, rfl⟩
      · refine WL.yes rfl rfl (lh) (decide_eq_false q3) ?_
        refine WL.x (X.mv (lt rfl (lt rfl (lt rfl (lt rfl (lt rfl (lt rfl (lt rfl (lt rfl (lt rfl (lt rfl (lt rfl (lt rfl (lt rfl (lt rfl (lt rfl (lt rfl (lt rfl (s2))))))))))))))))))) rfl ?_
        refine WL.yes rfl rfl (lt rfl (lh)) (decide_eq_false q3) ?_
        refine WL.x (X.mv (lt rfl (lt rfl (lt rfl (lt rfl (lt rfl (lt rfl (lt rfl (lt rfl (lt rfl (lt rfl (lt rfl (lt rfl (lt rfl (lt rfl (lt rfl (lt rfl (lt rfl (lt rfl (s0)))))))))))))))))))) rfl ?_
        refine WL.yes rfl rfl (lt rfl (lt rfl (lh))) (decide_eq_false q3) ?_
        refine WL.x (X.nilck (lh)) rfl ?_
        refine WL.yes rfl rfl (lt rfl (lt rfl (lt rfl (lh)))) (decide_eq_false q3) ?_
        refine WL.x (X.fieldAddr fd42_0 (lh)) rfl ?_
        refine WL.yes rfl rfl (lt rfl (lt rfl (lt rfl (lt rfl (lh))))) (decide_eq_false q3) ?_
        refine WL.x (X.fieldAddr fd40_0 (lh)) rfl ?_
        refine WL.yes rfl rfl (lt rfl (lt rfl (lt rfl (lt rfl (lt rfl (lh)))))) (decide_eq_false q3) ?_
        refine WL.x (X.load pl38 (lh) (by first | assumption) (by first | rfl | assumption)) rfl ?_
        refine WL.yes rfl rfl (lt rfl (lt rfl (lt rfl (lt rfl (lt rfl (lt rfl (lh))))))) (decide_eq_false q3) ?_
        refine WL.x (X.lenSl Tryd.underlying38 (lh)) rfl ?_
        refine WL.yes rfl rfl (lt rfl (lt rfl (lt rfl (lt rfl (lt rfl (lt rfl (lt rfl (lh)))))))) (decide_eq_false q3) ?_
        refine WL.x (X.geq (lt rfl (lt rfl (lt rfl (lt rfl (lt rfl (lt rfl (lh))))))) (lh)) rfl ?_
        refine WL.x (X.pickF (lt rfl (lt rfl (lt rfl (lt rfl (lt rfl (lt rfl (lt rfl (lt rfl (lh))))))))) (decide_eq_false q3) (lh)) rfl ?_
        refine WL.e5 Nx.thn 0 1 2 3 43 (lt rfl (lt rfl (lt rfl (lt rfl (lt rfl (lt rfl (lt rfl (lt rfl (lt rfl (lt rfl (lt rfl (lt rfl (lt rfl (lt rfl (lt rfl (lt rfl (lt rfl (lt rfl (lt rfl (lt rfl (lt rfl (lt rfl (lt rfl (lt rfl (lt rfl (lt rfl (s0))))))))))))))))))))))))))) (lt rfl (lt rfl (lt rfl (lt rfl (lt rfl (lt rfl (lt rfl (lt rfl (lt rfl (lt rfl (lt rfl (lt rfl (lt rfl (lt rfl (lt rfl (lt rfl (lt rfl (lt rfl (lt rfl (lt rfl (lt rfl (lt rfl (lt rfl (lt rfl (lt rfl (lt rfl (s1))))))))))))))))))))))))))) (lt rfl (lt rfl (lt rfl (lt rfl (lt rfl (lt rfl (lt rfl (lt rfl (lt rfl (lt rfl (lt rfl (lt rfl (lt rfl (lt rfl (lt rfl (lt rfl (lt rfl (lt rfl (lt rfl (lt rfl (lt rfl (lt rfl (lt rfl (lt rfl (lt rfl (lt rfl (s2))))))))))))))))))))))))))) (lt rfl (lt rfl (lt rfl (lt rfl (lt rfl (lt rfl (lt rfl (lt rfl (lt rfl (lt rfl (lt rfl (lt rfl (lt rfl (lt rfl (lt rfl (lt rfl (lt rfl (lt rfl (lt rfl (lt rfl (lt rfl (lt rfl (lt rfl (lt rfl (lt rfl (lt rfl (s3))))))))))))))))))))))))))) (lh) ?_
        intro σ9 s0 s1 s2 s3 s43
        refine W.cndp s43 (fun q4 => ?_) (fun q4 => ?_)
        · refine W.seq ?_
          refine W.region ?_
          refine WL.x (X.asg lc) rfl ?_
          refine WL.e1 Nx.thn 8 (lh) ?_
          intro σ10 s8
          refine W.ret1 (Nx.rthn Nx.f1) s8 ?_
          exact ⟨rfl, rfl⟩
        · exact absurd ⟨by omega, by omega, by omega, by omega⟩ hno

theorem any_range_succ (p : Nat → Bool) (k : Nat) : (List.range (k + 1)).any p = ((List.range k).any p || p k) := by
  rw [List.range_succ, List.any_append]; simp
theorem any_range_at {p : Nat → Bool} {k n : Nat} (hk : k < n) (h : p k = true) : (List.range n).any p = true :=
  List.any_eq_true.2 ⟨k, List.mem_range.2 hk, h⟩
theorem oless_ok (base o n : Nat) (M S : Nat → Nat → Bool) (w : World) (h : IsOrd w base o n M S) (a b : Int) :
    Sg.Ret Tryd.prog 9 #[.pointer (some ⟨o, 0, none⟩), .int .i64 a, .int .i64 b] w fun v w' => v = .bool (lessB n M a b) ∧ Dr w w' := by
  obtain ⟨bs, bs', v1, v2, hp, hl1, hl2, hn3⟩ := h
  have hd := hp.hd
  obtain ⟨va, vc, rfl⟩ := q_len hp.r.sl
  obtain ⟨va', vc', rfl⟩ := q_len hp.s.sl
  refine enter1 (n := 17) (l := [.pointer (some ⟨o, 0, none⟩), .int .i64 a, .int .i64 b]) Tryd.func9 rfl rfl rfl rfl ?_
  refine W.g3 0 1 2 (v1 := .pointer (some ⟨o, 0, none⟩)) (v2 := .int .i64 a) (v3 := .int .i64 b) rfl rfl rfl ?_; intro σ s0 s1 s2
  refine W.seq ?_
  refine W.region ?_
  refine WL.x (X.asg lc) rfl ?_
  refine WL.e3 Nx.thn 0 1 2 (lt rfl (s0)) (lt rfl (s1)) (lt rfl (s2)) ?_
  intro σ1 s0 s1 s2
  refine W.seq ?_
  refine W.region ?_
  refine WL.x (X.mv (s0)) rfl ?_
  refine WL.x (X.neqN Tryd.underlying24 (lh) lc) rfl ?_
  refine WL.x (X.mv (lh)) rfl ?_
  refine WL.yes rfl rfl (lh) (rfl) ?_
  refine WL.x (X.mv (lt rfl (lt rfl (lt rfl (s0))))) rfl ?_
  refine WL.yes rfl rfl (lt rfl (lh)) (rfl) ?_
  refine WL.x (X.nilck (lh)) rfl ?_
  refine WL.yes rfl rfl (lt rfl (lt rfl (lh))) (rfl) ?_
  refine WL.x (X.fieldAddr fd42_0 (lh)) rfl ?_
  refine WL.yes rfl rfl (lt rfl (lt rfl (lt rfl (lh)))) (rfl) ?_
  refine WL.x (X.mv (lt rfl (lt rfl (lt rfl (lt rfl (lt rfl (lt rfl (s1)))))))) rfl ?_
  refine WL.yes rfl rfl (lt rfl (lt rfl (lt rfl (lt rfl (lh))))) (rfl) ?_
  refine WL.x (X.mv (lt rfl (lt rfl (lt rfl (lt rfl (lt rfl (lt rfl (lt rfl (s2))))))))) rfl ?_
  refine WL.yes rfl rfl (lt rfl (lt rfl (lt rfl (lt rfl (lt rfl (lh)))))) (rfl) ?_
  refine WL.call3 ce23 (lt rfl (lt rfl (lh))) (lt rfl (lh)) (lh) (less_ok base n o 0 _ bs M _ _ w hd rfl hp.r hl1 hn3 a b) rfl ?_
  rintro _ w1 ⟨rfl, hdr⟩
  refine WL.x (X.pickT (lt rfl (lt rfl (lt rfl (lt rfl (lt rfl (lt rfl (lh))))))) (rfl) (lh)) rfl ?_
  refine WL.x (X.asg (lh)) rfl ?_
  refine WL.e1 Nx.thn 6 (lh) ?_
  intro σ2 s6
  refine W.ret1 Nx.f1 s6 ?_
  exact ⟨rfl, hdr⟩
theorem osure_ok (base o n : Nat) (M S : Nat → Nat → Bool) (w : World) (h : IsOrd w base o n M S) (a b : Int) :
    Sg.Ret Tryd.prog 8 #[.pointer (some ⟨o, 0, none⟩), .int .i64 a, .int .i64 b] w fun v w' => v = .bool (lessB n S a b) ∧ Dr w w' := by
  obtain ⟨bs, bs', v1, v2, hp, hl1, hl2, hn3⟩ := h
  have hd := hp.hd
  obtain ⟨va, vc, rfl⟩ := q_len hp.r.sl
  obtain ⟨va', vc', rfl⟩ := q_len hp.s.sl
  refine enter1 (n := 17) (l := [.pointer (some ⟨o, 0, none⟩), .int .i64 a, .int .i64 b]) Tryd.func8 rfl rfl rfl rfl ?_
  refine W.g3 0 1 2 (v1 := .pointer (some ⟨o, 0, none⟩)) (v2 := .int .i64 a) (v3 := .int .i64 b) rfl rfl rfl ?_; intro σ s0 s1 s2
  refine W.seq ?_
  refine W.region ?_
  refine WL.x (X.asg lc) rfl ?_
  refine WL.e3 Nx.thn 0 1 2 (lt rfl (s0)) (lt rfl (s1)) (lt rfl (s2)) ?_
  intro σ1 s0 s1 s2
  refine W.seq ?_
  refine W.region ?_
  refine WL.x (X.mv (s0)) rfl ?_
  refine WL.x (X.neqN Tryd.underlying24 (lh) lc) rfl ?_
  refine WL.x (X.mv (lh)) rfl ?_
  refine WL.yes rfl rfl (lh) (rfl) ?_
  refine WL.x (X.mv (lt rfl (lt rfl (lt rfl (s0))))) rfl ?_
  refine WL.yes rfl rfl (lt rfl (lh)) (rfl) ?_
  refine WL.x (X.nilck (lh)) rfl ?_
  refine WL.yes rfl rfl (lt rfl (lt rfl (lh))) (rfl) ?_
  refine WL.x (X.fieldAddr fd42_1 (lh)) rfl ?_
  refine WL.yes rfl rfl (lt rfl (lt rfl (lt rfl (lh)))) (rfl) ?_
  refine WL.x (X.mv (lt rfl (lt rfl (lt rfl (lt rfl (lt rfl (lt rfl (s1)))))))) rfl ?_
  refine WL.yes rfl rfl (lt rfl (lt rfl (lt rfl (lt rfl (lh))))) (rfl) ?_
  refine WL.x (X.mv (lt rfl (lt rfl (lt rfl (lt rfl (lt rfl (lt rfl (lt rfl (s2))))))))) rfl ?_
  refine WL.yes rfl rfl (lt rfl (lt rfl (lt rfl (lt rfl (lt rfl (lh)))))) (rfl) ?_
  refine WL.call3 ce23 (lt rfl (lt rfl (lh))) (lt rfl (lh)) (lh) (less_ok base n o 1 _ bs' S _ _ w hd rfl hp.s hl2 hn3 a b) rfl ?_
  rintro _ w1 ⟨rfl, hdr⟩
  refine WL.x (X.pickT (lt rfl (lt rfl (lt rfl (lt rfl (lt rfl (lt rfl (lh))))))) (rfl) (lh)) rfl ?_
  refine WL.x (X.asg (lh)) rfl ?_
  refine WL.e1 Nx.thn 6 (lh) ?_
  intro σ2 s6
  refine W.ret1 Nx.f1 s6 ?_
  exact ⟨rfl, hdr⟩
theorem ocyc_ok (base o n : Nat) (M S : Nat → Nat → Bool) (w : World) (h : IsOrd w base o n M S)  :
    Sg.Ret Tryd.prog 15 #[.pointer (some ⟨o, 0, none⟩)] w fun v w' => v = .bool ((List.range n).any fun a => M a a) ∧ Dr w w' := by
  obtain ⟨bs, bs', v1, v2, hp, hl1, hl2, hn3⟩ := h
  have hd := hp.hd
  obtain ⟨va, vc, rfl⟩ := q_len hp.r.sl
  obtain ⟨va', vc', rfl⟩ := q_len hp.s.sl
  have hh : IsOrd w base o n M S := ⟨bs, bs', _, _, hp, hl1, hl2, hn3⟩
  refine enter1 (n := 22) (l := [.pointer (some ⟨o, 0, none⟩)]) Tryd.func15 rfl rfl rfl rfl ?_
  refine W.g1 0 (v1 := .pointer (some ⟨o, 0, none⟩)) rfl ?_; intro σ s0
  refine W.seq ?_
  refine W.region ?_
  refine WL.x (X.asg lc) rfl ?_
  refine WL.e1 Nx.thn 0 (lt rfl (s0)) ?_
  intro σ1 s0
  refine W.seq ?_
  refine W.seq ?_
  refine W.region ?_
  refine WL.x (X.mv (s0)) rfl ?_
  refine WL.x (X.eqlN Tryd.underlying24 (lh) lc) rfl ?_
  refine WL.e2 Nx.thn 0 5 (lt rfl (lt rfl (s0))) (lh) ?_
  intro σ2 s0 s5
  refine W.cndBF s5 (rfl) ?_
  refine W.skip Nx.thn ?_
  refine W.seq ?_
  refine W.seq ?_
  refine W.region ?_
  refine WL.x (X.mv (s0)) rfl ?_
  refine WL.x (X.nilck (lh)) rfl ?_
  refine WL.x (X.fieldAddr fd42_0 (lh)) rfl ?_
  refine WL.x (X.fieldAddr fd40_0 (lh)) rfl ?_
  refine WL.x (X.load pl38 (lh) (by first | assumption) (by first | rfl | assumption)) rfl ?_
  refine WL.x (X.lenSl Tryd.underlying38 (lh)) rfl ?_
  refine WL.x (X.mv lc) rfl ?_
  refine WL.e3 Nx.thn 0 11 12 (lt rfl (lt rfl (lt rfl (lt rfl (lt rfl (lt rfl (lt rfl (s0)))))))) (lt rfl (lh)) (lh) ?_
  intro σ3 s0 s11 s12
  refine W.block ?_
  have qo1 := s0
  have qo2 := s11
  -- loop 0: kept [0, 11], varied [12]
  refine W.loop (G := Nat) (fun k σ' w' => (σ' 0 = σ3 0 ∧ σ' 11 = σ3 11 ∧ True) ∧ (σ' 12 = .int .i64 (k : Int) ∧ k ≤ n ∧ Dr w w' ∧ ((List.range k).any fun a => M a a) = false)) (fun k => n - k) (0) ⟨⟨rfl, rfl, trivial⟩, s12, by omega, Dr.refl _, rfl⟩ ?_
  rintro k σ4 w1 ⟨⟨f0, f11, _⟩, s12, hk, hdr, hno⟩
  have s0 := f0.trans qo1
  have s11 := f11.trans qo2
  refine W.seq ?_
  refine W.region ?_
  refine WL.x (X.lss (s12) (s11)) rfl ?_
  refine WL.e4 Nx.thn 0 11 12 13 (lt rfl (s0)) (lt rfl (s11)) (lt rfl (s12)) (lh) ?_
  intro σ5 s0 s11 s12 s13
  refine W.seq ?_
  refine W.cndp s13 (fun hlt => ?_) (fun hlt => ?_)
  · refine W.skip Nx.thn ?_
    refine W.seq ?_
    refine W.block ?_
    refine W.seq ?_
    refine W.region ?_
    refine WL.x (X.mv (s12)) rfl ?_
    refine WL.x (X.asg (lh)) rfl ?_
    refine WL.e4 Nx.thn 0 3 11 12 (lt rfl (lt rfl (s0))) (lh) (lt rfl (lt rfl (s11))) (lt rfl (lt rfl (s12))) ?_
    intro σ6 s0 s3 s11 s12
    refine W.seq ?_
    refine W.region ?_
    refine WL.x (X.mv (s0)) rfl ?_
    refine WL.x (X.nilck (lh)) rfl ?_
    refine WL.x (X.fieldAddr fd42_0 (lh)) rfl ?_
    refine WL.x (X.mv (lt rfl (lt rfl (lt rfl (s3))))) rfl ?_
    refine WL.x (X.mv (lt rfl (lt rfl (lt rfl (lt rfl (s3)))))) rfl ?_
    refine WL.call3 ce23 (lt rfl (lt rfl (lh))) (lt rfl (lh)) (lh) (less_ok base n o 0 _ bs M _ _ w1 (hdr.ch0.at0 hd) rfl (hp.r.ch0 hdr.ch0) hl1 hn3 k k) rfl ?_
    rintro _ w2 ⟨rfl, hdr2⟩
    refine WL.e4 Nx.thn 0 11 12 20 (lt rfl (lt rfl (lt rfl (lt rfl (lt rfl (lt rfl (s0))))))) (lt rfl (lt rfl (lt rfl (lt rfl (lt rfl (lt rfl (s11))))))) (lt rfl (lt rfl (lt rfl (lt rfl (lt rfl (lt rfl (s12))))))) (lh) ?_
    intro σ7 s0 s11 s12 s20
    refine W.cnd s20 (fun hc => ?_) (fun hc => ?_)
    · refine W.seq ?_
      refine W.region ?_
      refine WL.x (X.asg lc) rfl ?_
      refine WL.e1 Nx.thn 2 (lh) ?_
      intro σ8 s2
      refine W.ret1 (Nx.rblk (Nx.rthn (Nx.rthn (Nx.rblk (Nx.rthn Nx.f1))))) s2 ?_
      have hc2 : M k k = true := by unfold lessB at hc; rw [show decide (0 ≤ (k : Int) ∧ (k : Int) < (n : Int)) = true from decide_eq_true ⟨by omega, by omega⟩] at hc; simpa using hc
      exact ⟨congrArg Value.bool (any_range_at (p := fun a => M a a) (by omega) hc2).symm, hdr.trans hdr2⟩
    · refine W.skip (Nx.blk Nx.thn) ?_
      refine W.region ?_
      first | refine WL.x (X.add (s12) lc (by omega) (by omega)) rfl ?_ | refine WL.x (X.addw (s12) lc) rfl ?_
      refine WL.x (X.mv (lh)) rfl ?_
      refine WL.e3 Nx.thn 0 11 12 (lt rfl (lt rfl (s0))) (lt rfl (lt rfl (s11))) (lh) ?_
      intro σ9 s0 s11 s12
      refine ⟨k + 1, by first | omega | (dsimp only; omega), ⟨s0.trans qo1.symm, s11.trans qo2.symm, trivial⟩, s12, by omega, hdr.trans hdr2, by rw [any_range_succ, hno, Bool.false_or]; unfold lessB at hc; rw [show decide (0 ≤ (k : Int) ∧ (k : Int) < (n : Int)) = true from decide_eq_true ⟨by omega, by omega⟩] at hc; simpa using hc⟩
  · refine W.exit (Nx.xthn (Nx.xthn (Nx.xblk Nx.thn))) ?_
    refine W.seq ?_
    refine W.region ?_
    refine WL.x (X.asg lc) rfl ?_
    refine WL.e1 Nx.thn 2 (lh) ?_
    intro σ10 s2
    refine W.ret1 Nx.f1 s2 ?_
    have hke : k = n := by omega
    subst hke
    exact ⟨congrArg Value.bool hno.symm, hdr⟩
end Go.Proofs.YtpmbnpehknmmjaaDoor
