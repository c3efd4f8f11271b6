/-
  A part of the walk of the program.
-/
import Derived.Test.YtbnllchicnmkiaaGreatDoorSG
import Derived.Test.YtbnllchicnmkiaaGreatDoorLA
set_option linter.unusedVariables false
set_option linter.unusedSimpArgs false
set_option maxRecDepth 100000
namespace Go.Proofs.YtbnllchicnmkiaaGreatDoor
open Go Go.RowKit Sg
theorem ag48 : Sg.Aggr Tryz.prog 48 2 := ⟨⟨_, rfl, trivial⟩, _, rfl, rfl⟩
theorem el48 : Sg.Elem Tryz.prog 48 2 (.agg #[.int .i64 0, .int .i64 0]) 16 := ⟨_, rfl, rfl, rfl, rfl⟩
theorem fd48_1 : Sg.Fld Tryz.prog 48 1 1 := ⟨_, _, _, rfl, rfl, rfl, rfl, by decide⟩
theorem pl30 : Sg.Plain Tryz.prog 30 := ⟨_, rfl, trivial⟩
theorem fd48_0 : Sg.Fld Tryz.prog 48 0 0 := ⟨_, _, _, rfl, rfl, rfl, rfl, by decide⟩
theorem ce30 : Sg.Callee Tryz.prog 30 := ⟨_, Tryz.func30, by decide, rfl⟩
theorem ce7 : Sg.Callee Tryz.prog 7 := ⟨_, Tryz.func7, by decide, rfl⟩
theorem ce8 : Sg.Callee Tryz.prog 8 := ⟨_, Tryz.func8, by decide, rfl⟩
theorem ce9 : Sg.Callee Tryz.prog 9 := ⟨_, Tryz.func9, by decide, rfl⟩
theorem ce10 : Sg.Callee Tryz.prog 10 := ⟨_, Tryz.func10, by decide, rfl⟩
theorem why_nil (w : World) :
  Sg.Ret Tryz.prog 30 #[.nilIface] w fun v w' => v = .tuple #[.int .i64 0, .int .i64 0] ∧ Ch0 w w' := by
 refine enter2 (n := 19) (l := [.nilIface]) Tryz.func30 rfl rfl rfl rfl ?_
 refine W.g1 0 (v1 := .nilIface) rfl ?_; intro σ s0
 refine W.seq ?_
 refine W.region ?_
 refine WL.x (X.asg lc) rfl ?_
 refine WL.x (X.asg lc) rfl ?_
 refine WL.e1 Nx.thn 0 (jt2 rfl (s0)) ?_
 intro σ1 s0
 refine W.seq ?_
 refine W.seq ?_
 refine W.region ?_
 refine WL.x (X.mv (s0)) rfl ?_
 refine WL.x (X.eqlI Tryz.underlying27 (lh) (by first | exact .inl rfl | exact .inr ⟨_, _, rfl⟩ | assumption)) rfl ?_
 refine WL.e2 Nx.thn 0 7 (jt2 rfl (s0)) (lh) ?_
 intro σ2 s0 s7
 refine W.cndBT s7 (rfl) ?_
 refine W.seq ?_
 refine W.region ?_
 refine WL.x (X.asg lc) rfl ?_
 refine WL.x (X.asg lc) rfl ?_
 refine WL.e2 Nx.thn 2 3 (lt rfl (lh)) (lh) ?_
 intro σ3 s2 s3
 refine W.ret2 (Nx.rthn Nx.f2) s2 s3 ?_
 exact ⟨rfl, Ch.refl _ _⟩
theorem why_fault (a e : Int) (w : World) :
  Sg.Ret Tryz.prog 30 #[.iface 48 (.agg #[.int .i64 a, .int .i64 e])] w fun v w' => v = .tuple #[.int .i64 e, .int .i64 a] ∧ Ch0 w w' := by
 refine enter2 (n := 19) (l := [.iface 48 (.agg #[.int .i64 a, .int .i64 e])]) Tryz.func30 rfl rfl rfl rfl ?_
 refine W.g1 0 (v1 := .iface 48 (.agg #[.int .i64 a, .int .i64 e])) rfl ?_; intro σ s0
 refine W.seq ?_
 refine W.region ?_
 refine WL.x (X.asg lc) rfl ?_
 refine WL.x (X.asg lc) rfl ?_
 refine WL.e1 Nx.thn 0 (jt2 rfl (s0)) ?_
 intro σ1 s0
 refine W.seq ?_
 refine W.seq ?_
 refine W.region ?_
 refine WL.x (X.mv (s0)) rfl ?_
 refine WL.x (X.eqlI Tryz.underlying27 (lh) (by first | exact .inl rfl | exact .inr ⟨_, _, rfl⟩ | assumption)) rfl ?_
 refine WL.e2 Nx.thn 0 7 (jt2 rfl (s0)) (lh) ?_
 intro σ2 s0 s7
 refine W.cndBF s7 (rfl) ?_
 refine W.skip Nx.thn ?_
 refine W.seq ?_
 refine W.region ?_
 refine WL.x (X.mv (s0)) rfl ?_
 refine WL.x (X.tassert Tryz.underlying48 trivial (lh)) rfl ?_
 refine WL.x (X.mv (lh)) rfl ?_
 refine WL.x (X.ex2_0 (lh)) rfl ?_
 refine WL.x (X.ex2_1 (lt rfl (lh))) rfl ?_
 refine WL.alloc el48 rfl ?_
 intro w1 u3_5; have hu3_5 := u3_5.at_; have cu3_5 := u3_5.ch; have zu3_5 := u3_5.size
 refine WL.storeS ag48 (lh) (jt2 rfl (lh)) rfl rfl hu3_5 (by first | decide | (simp; done)) ?_
 intro w2 us
 have hf : w2.heap[w.heap.size]? = some (.cells #[.int .i64 a, .int .i64 e] 48 (0, 0)) := us.at_
 have cst := us.ch
 have hcl : Ch0 w w2 := cu3_5.trans cst (fun _ _ e => e) (fun j hj e => by (try dsimp only at e); omega)
 refine WL.x (X.asg (lt rfl (lh))) rfl ?_
 refine WL.e2 Nx.thn 4 5 (lt rfl (lh)) (lh) ?_
 intro σ3 s4 s5
 refine W.seq ?_
 refine W.seq ?_
 refine W.region ?_
 refine WL.x (X.mv (s5)) rfl ?_
 refine WL.x (X.not (lh)) rfl ?_
 refine WL.e2 Nx.thn 4 14 (jt2 rfl (s4)) (lh) ?_
 intro σ4 s4 s14
 refine W.cndBF s14 (rfl) ?_
 refine W.skip Nx.thn ?_
 refine W.seq ?_
 refine W.draw mo (by kernel_rfl) Nx.thn ?_
 refine WQ.x (fun _ => X.fieldAddr fd48_1 (s4)) rfl ?_
 refine WQ.x (fun _ => X.load pl30 (lh) (by first | assumption | exact cst.at (by assumption) (by intro hne; first | exact hne | ((try dsimp only at hne); omega)) | exact cst.at (cu3_5.at0 (by assumption)) (by intro hne; first | exact hne | ((try dsimp only at hne); omega))) (by first | rfl | assumption)) rfl ?_
 refine WQ.x (fun _ => X.fieldAddr fd48_0 (jt2 rfl (s4))) rfl ?_
 refine WQ.x (fun _ => X.load pl3 (lh) (by first | assumption | exact cst.at (by assumption) (by intro hne; first | exact hne | ((try dsimp only at hne); omega)) | exact cst.at (cu3_5.at0 (by assumption)) (by intro hne; first | exact hne | ((try dsimp only at hne); omega))) (by first | rfl | assumption)) rfl ?_
 refine WQ.x (fun _ => X.asg (jt2 rfl (lh))) rfl ?_
 refine WQ.x (fun _ => X.asg (lt rfl (lh))) rfl ?_
 refine WQ.e2 2 3 (lt rfl (lh)) (lh) ?_
 intro σ5 s2 s3
 intro _; refine gdrew ?_; intro w3 hh6 cd6 dr6
 refine W.ret2 Nx.f2 s2 s3 ?_
 exact ⟨rfl, hcl.trans0 cd6⟩
theorem is_nil (b y : Int) (w : World) :
  Sg.Ret Tryz.prog 9 #[.nilIface, .int .i64 b, .int .i64 y] w fun v w' => v = .bool (decide (0 = y ∧ 0 = b)) ∧ Ch0 w w' := by
 refine enter1 (n := 22) (l := [.nilIface, .int .i64 b, .int .i64 y]) Tryz.func9 rfl rfl rfl rfl ?_
 refine W.g3 0 1 2 (v1 := .nilIface) (v2 := .int .i64 b) (v3 := .int .i64 y) rfl rfl rfl ?_; intro σ s0 s1 s2
 refine W.seq ?_
 refine W.region ?_
 refine WL.x (X.asg lc) rfl ?_
 refine WL.e3 Nx.thn 0 1 2 (lt rfl (s0)) (lt rfl (s1)) (lt rfl (s2)) ?_
 intro σ1 s0 s1 s2
 refine W.seq ?_
 refine W.region ?_
 refine WL.x (X.mv (s0)) rfl ?_
 refine WL.call1 ce30 (lh) (why_nil w) rfl ?_
 rintro _ w1 ⟨rfl, c1⟩
 refine WL.x (X.mv (lh)) rfl ?_
 refine WL.x (X.ex2_0 (lh)) rfl ?_
 refine WL.x (X.ex2_1 (lt rfl (lh))) rfl ?_
 refine WL.x (X.asg (lt rfl (lh))) rfl ?_
 refine WL.x (X.asg (lt rfl (lh))) rfl ?_
 refine WL.e4 Nx.thn 1 2 7 8 (jt4 rfl (jt2 rfl (lt rfl (s1)))) (jt4 rfl (jt2 rfl (lt rfl (s2)))) (lt rfl (lh)) (lh) ?_
 intro σ2 s1 s2 s7 s8
 refine W.seq ?_
 refine W.region ?_
 refine WL.x (X.mv (s7)) rfl ?_
 refine WL.x (X.mv (lt rfl (s2))) rfl ?_
 refine WL.x (X.eql (lt rfl (lh)) (lh)) rfl ?_
 refine WL.x (X.mv (lh)) rfl ?_
 refine WL.splitp (lh) (fun h1 => ?_) (fun h1 => ?_)
 ·
  refine WL.yes rfl rfl (lh) (decide_eq_true h1) ?_
  refine WL.x (X.mv (jt4 rfl (s8))) rfl ?_
  refine WL.yes rfl rfl (lt rfl (lh)) (decide_eq_true h1) ?_
  refine WL.x (X.mv (jt4 rfl (lt rfl (s1)))) rfl ?_
  refine WL.yes rfl rfl (jt2 rfl (lh)) (decide_eq_true h1) ?_
  refine WL.x (X.eql (lt rfl (lh)) (lh)) rfl ?_
  refine WL.x (X.pickT (jt2 rfl (lt rfl (lh))) (decide_eq_true h1) (lh)) rfl ?_
  refine WL.x (X.asg (lh)) rfl ?_
  refine WL.e1 Nx.thn 6 (lh) ?_
  intro σ3 s6
  refine W.ret1 Nx.f1 s6 ?_
  exact ⟨congrArg Value.bool (decide_eq_decide.2 ⟨fun h => ⟨h1, h⟩, fun h => h.2⟩), c1⟩
 ·
  refine WL.no rfl rfl (lh) (decide_eq_false h1) rfl ?_
  refine WL.no rfl rfl (lt rfl (lh)) (decide_eq_false h1) rfl ?_
  refine WL.no rfl rfl (jt2 rfl (lh)) (decide_eq_false h1) rfl ?_
  refine WL.x (X.pickF (jt2 rfl (lt rfl (lh))) (decide_eq_false h1) lc) rfl ?_
  refine WL.x (X.asg (lh)) rfl ?_
  refine WL.e1 Nx.thn 6 (lh) ?_
  intro σ4 s6
  refine W.ret1 Nx.f1 s6 ?_
  exact ⟨congrArg Value.bool (decide_eq_false (fun h => h1 h.1)).symm, c1⟩
theorem is_fault (a e : Int) (b y : Int) (w : World) :
  Sg.Ret Tryz.prog 9 #[.iface 48 (.agg #[.int .i64 a, .int .i64 e]), .int .i64 b, .int .i64 y] w fun v w' => v = .bool (decide (e = y ∧ a = b)) ∧ Ch0 w w' := by
 refine enter1 (n := 22) (l := [.iface 48 (.agg #[.int .i64 a, .int .i64 e]), .int .i64 b, .int .i64 y]) Tryz.func9 rfl rfl rfl rfl ?_
 refine W.g3 0 1 2 (v1 := .iface 48 (.agg #[.int .i64 a, .int .i64 e])) (v2 := .int .i64 b) (v3 := .int .i64 y) rfl rfl rfl ?_; intro σ s0 s1 s2
 refine W.seq ?_
 refine W.region ?_
 refine WL.x (X.asg lc) rfl ?_
 refine WL.e3 Nx.thn 0 1 2 (lt rfl (s0)) (lt rfl (s1)) (lt rfl (s2)) ?_
 intro σ1 s0 s1 s2
 refine W.seq ?_
 refine W.region ?_
 refine WL.x (X.mv (s0)) rfl ?_
 refine WL.call1 ce30 (lh) (why_fault a e w) rfl ?_
 rintro _ w1 ⟨rfl, c1⟩
 refine WL.x (X.mv (lh)) rfl ?_
 refine WL.x (X.ex2_0 (lh)) rfl ?_
 refine WL.x (X.ex2_1 (lt rfl (lh))) rfl ?_
 refine WL.x (X.asg (lt rfl (lh))) rfl ?_
 refine WL.x (X.asg (lt rfl (lh))) rfl ?_
 refine WL.e4 Nx.thn 1 2 7 8 (jt4 rfl (jt2 rfl (lt rfl (s1)))) (jt4 rfl (jt2 rfl (lt rfl (s2)))) (lt rfl (lh)) (lh) ?_
 intro σ2 s1 s2 s7 s8
 refine W.seq ?_
 refine W.region ?_
 refine WL.x (X.mv (s7)) rfl ?_
 refine WL.x (X.mv (lt rfl (s2))) rfl ?_
 refine WL.x (X.eql (lt rfl (lh)) (lh)) rfl ?_
 refine WL.x (X.mv (lh)) rfl ?_
 refine WL.splitp (lh) (fun h1 => ?_) (fun h1 => ?_)
 ·
  refine WL.yes rfl rfl (lh) (decide_eq_true h1) ?_
  refine WL.x (X.mv (jt4 rfl (s8))) rfl ?_
  refine WL.yes rfl rfl (lt rfl (lh)) (decide_eq_true h1) ?_
  refine WL.x (X.mv (jt4 rfl (lt rfl (s1)))) rfl ?_
  refine WL.yes rfl rfl (jt2 rfl (lh)) (decide_eq_true h1) ?_
  refine WL.x (X.eql (lt rfl (lh)) (lh)) rfl ?_
  refine WL.x (X.pickT (jt2 rfl (lt rfl (lh))) (decide_eq_true h1) (lh)) rfl ?_
  refine WL.x (X.asg (lh)) rfl ?_
  refine WL.e1 Nx.thn 6 (lh) ?_
  intro σ3 s6
  refine W.ret1 Nx.f1 s6 ?_
  exact ⟨congrArg Value.bool (decide_eq_decide.2 ⟨fun h => ⟨h1, h⟩, fun h => h.2⟩), c1⟩
 ·
  refine WL.no rfl rfl (lh) (decide_eq_false h1) rfl ?_
  refine WL.no rfl rfl (lt rfl (lh)) (decide_eq_false h1) rfl ?_
  refine WL.no rfl rfl (jt2 rfl (lh)) (decide_eq_false h1) rfl ?_
  refine WL.x (X.pickF (jt2 rfl (lt rfl (lh))) (decide_eq_false h1) lc) rfl ?_
  refine WL.x (X.asg (lh)) rfl ?_
  refine WL.e1 Nx.thn 6 (lh) ?_
  intro σ4 s6
  refine W.ret1 Nx.f1 s6 ?_
  exact ⟨congrArg Value.bool (decide_eq_false (fun h => h1 h.1)).symm, c1⟩

theorem is_ok (s : ByteArray) (b y : Int) (w : World) : Sg.Ret Tryz.prog 9 #[errV s, .int .i64 b, .int .i64 y] w fun v w' => v = .bool (decide (((scE s).2 : Int) = y ∧ ((scE s).1 : Int) = b)) ∧ Ch0 w w' := by
  cases h : scanA (sb s) with
  | ok l => obtain ⟨_, k2, k3⟩ := scL_ok h; rw [k2, k3]; exact is_nil b y w
  | error p => obtain ⟨_, k2, k3⟩ := scL_err h; rw [k2, k3]; exact is_fault _ _ b y w


def zeroQ : GRep := (0, false, [], 0, 0, [])
theorem rrep_zero (A : Nat → Prop) (w : World) : RRep A w [.int .i64 0, .bool false, .slice none 0 0, .int .i64 0, .int .i64 0, .slice none 0 0] zeroQ := ⟨_, _, rfl, .inl ⟨rfl, _, _, rfl⟩, ⟨.inl ⟨rfl, none, 0, rfl⟩, fun _ h => (show False from h).elim⟩, by decide, by decide, ⟨by decide, by decide⟩, fun _ h => by cases h⟩
theorem RRep.ch0 {A : Nat → Prop} {w w' : World} {es : List Value} {x : GRep} (h : RRep A w es x) (c : Ch0 w w') : RRep A w' es x := monRep _ _ _ _ _ _ _ c (fun _ _ => id) (fun _ => id) h
theorem RRep.len6 {A : Nat → Prop} {w : World} {es : List Value} {x : GRep} (h : RRep A w es x) : es.length = 6 := by
  obtain ⟨v, u, rfl, _⟩ := h; rfl
/-- What a reading comes to, beside its report. -/
def PQ (f : Wds) (s : ByteArray) (X : GRep) (er : Value) : Prop := (parseQ f s = .ok X ∧ er = .nilIface) ∨ (∃ x, parseQ f s = .error x ∧ X = zeroQ ∧ er = flt x.1 x.2)
def RQ (f : Wds) (s : ByteArray) (X : GRep) (at_ why : Int) : Prop := (parseQ f s = .ok X ∧ at_ = 0 ∧ why = 0) ∨ (∃ x, parseQ f s = .error x ∧ X = zeroQ ∧ at_ = x.1 ∧ why = x.2 ∧ why ≠ 0)
theorem ParR.rep {f : Wds} {s : ByteArray} {A : Nat → Prop} {w : World} {rv er : Value} (h : ParR f s A w rv er) : ∃ X es, rv = .agg es.toArray ∧ RRep A w es X ∧ PQ f s X er := by
  rcases h with ⟨x, es, h1, h2, h3, h4⟩ | ⟨x, h1, h2, h3⟩
  · exact ⟨x, es, h2, h4, .inl ⟨h1, h3⟩⟩
  · exact ⟨zeroQ, _, h2, rrep_zero A w, .inr ⟨x, h1, rfl, h3⟩⟩
theorem RefR.rep {f : Wds} {s : ByteArray} {A : Nat → Prop} {w : World} {rv : Value} {at_ why : Int} (h : RefR f s A w rv at_ why) : ∃ X es, rv = .agg es.toArray ∧ RRep A w es X ∧ RQ f s X at_ why := by
  rcases h with ⟨x, es, h1, h2, h3, h4, h5⟩ | ⟨x, h1, h2, h3⟩
  · exact ⟨x, es, h2, h3, .inl ⟨h1, h4, h5⟩⟩
  · exact ⟨zeroQ, _, h2, rrep_zero A w, .inr ⟨x, h1, rfl, h3⟩⟩
/-- Both readings come to the same. -/
theorem pq_both {s : ByteArray} {X Y : GRep} {er : Value} {at_ why : Int} (hp : PQ fP s X er) (hx : RQ fR s Y at_ why) : Y = X ∧ ((er = .nilIface ∧ at_ = 0 ∧ why = 0) ∨ er = flt at_ why) := by
  have hk := parseQ_alike s
  rcases hp with ⟨h1, h2⟩ | ⟨x, h1, h2, h3⟩
  · rcases hx with ⟨k1, k2, k3⟩ | ⟨x', k1, _⟩
    · rw [h1, k1] at hk
      injection hk with hk
      exact ⟨hk, .inl ⟨h2, k2, k3⟩⟩
    · rw [h1, k1] at hk; cases hk
  · rcases hx with ⟨k1, _⟩ | ⟨x', k1, k2, k3, k4, _⟩
    · rw [h1, k1] at hk; cases hk
    · rw [h1, k1] at hk
      injection hk with hk
      subst hk
      exact ⟨k2.trans h2.symm, .inr (by rw [h3, k3, k4])⟩
theorem is_tt (er : Value) (a y : Int) (w : World) (h : (er = .nilIface ∧ a = 0 ∧ y = 0) ∨ er = flt a y) : Sg.Ret Tryz.prog 9 #[er, .int .i64 a, .int .i64 y] w fun v w' => v = .bool true ∧ Ch0 w w' := by
  rcases h with ⟨rfl, rfl, rfl⟩ | rfl
  · exact Ret.mono (is_nil 0 0 w) fun v w' hh => ⟨hh.1.trans (congrArg Value.bool (decide_eq_true ⟨rfl, rfl⟩)), hh.2⟩
  · exact Ret.mono (is_fault a y a y w) fun v w' hh => ⟨hh.1.trans (congrArg Value.bool (decide_eq_true ⟨rfl, rfl⟩)), hh.2⟩

theorem reads_ok (s : ByteArray) (w : World) (hER : ER w) :
  Sg.Ret Tryz.prog 3 #[.string s] w fun v w' => v = .bool true ∧ Ch0 w w' := by
 refine enter1 (n := 28) (l := [.string s]) Tryz.func3 rfl rfl rfl rfl ?_
 refine W.g1 0 (v1 := .string s) rfl ?_; intro σ s0
 refine W.seq ?_
 refine W.region ?_
 refine WL.x (X.asg lc) rfl ?_
 refine WL.e1 Nx.thn 0 (lt rfl (s0)) ?_
 intro σ1 s0
 refine W.seq ?_
 refine W.region ?_
 refine WL.x (X.mv (s0)) rfl ?_
 refine WL.call1 ce7 (lh) (parse_ok s w hER) rfl ?_
 rintro _ w1 ⟨⟨rv1, er1, rfl, hp1⟩, c1⟩
 obtain ⟨X1, es1, rfl, hr1, hq1⟩ := hp1.rep
 have zc1 := c1.size
 refine WL.x (X.mv (lh)) rfl ?_
 refine WL.x (X.ex2_0 (lh)) rfl ?_
 refine WL.x (X.ex2_1 (lt rfl (lh))) rfl ?_
 refine WL.alloc el25 rfl ?_
 intro w2 u1_5; have hu1_5 := u1_5.at_; have cu1_5 := u1_5.ch; have zu1_5 := u1_5.size
 have h6 := hr1.len6
 refine WL.storeS (vs := es1) ag25 (lh) (jt2 rfl (lh)) (RRep_one hr1) h6 hu1_5 (by decide) ?_
 intro w3 us
 have m1 := us.at_
 rw [blit_all (by rw [h6]; rfl)] at m1
 have km1 := us.ch
 have hcm1 := cu1_5.trans km1 (H := fun _ => False) (fun _ _ e => e) (fun j hj e => by (try dsimp only at e); omega)
 refine WL.x (X.asg (lt rfl (lh))) rfl ?_
 refine WL.e3 Nx.thn 0 3 4 (jt4 rfl (jt2 rfl (lt rfl (s0)))) (lt rfl (lh)) (lh) ?_
 intro σ2 s0 s3 s4
 refine W.seq ?_
 refine W.region ?_
 refine WL.x (X.mv (s0)) rfl ?_
 refine WL.call1 ce8 (lh) (rparse_ok s w3) rfl ?_
 rintro _ w4 ⟨⟨lm1, at1, why1, rfl, hx1⟩, cx1⟩
 obtain ⟨Y1, fs1, rfl, hs1, hy1⟩ := hx1.rep
 obtain ⟨hYX, hI1⟩ := pq_both hq1 hy1
 subst hYX
 have zx1 := cx1.size
 refine WL.x (X.mv (lh)) rfl ?_
 refine WL.x (X.ex3_0 (lh)) rfl ?_
 refine WL.x (X.ex3_1 (lt rfl (lh))) rfl ?_
 refine WL.x (X.ex3_2 (jt2 rfl (lh))) rfl ?_
 refine WL.alloc el25 rfl ?_
 intro w5 u2_6; have hu2_6 := u2_6.at_; have cu2_6 := u2_6.ch; have zu2_6 := u2_6.size
 have h6 := hs1.len6
 refine WL.storeS (vs := fs1) ag25 (lh) (jt2 rfl (lt rfl (lh))) (RRep_one hs1) h6 hu2_6 (by decide) ?_
 intro w6 us
 have m2 := us.at_
 rw [blit_all (by rw [h6]; rfl)] at m2
 have km2 := us.ch
 have hcm2 := cu2_6.trans km2 (H := fun _ => False) (fun _ _ e => e) (fun j hj e => by (try dsimp only at e); omega)
 refine WL.x (X.asg (jt2 rfl (lh))) rfl ?_
 refine WL.x (X.asg (jt2 rfl (lh))) rfl ?_
 refine WL.e5 Nx.thn 3 4 5 6 7 (jt8 rfl (lt rfl (s3))) (jt8 rfl (lt rfl (s4))) (jt2 rfl (lh)) (lt rfl (lh)) (lh) ?_
 intro σ3 s3 s4 s5 s6 s7
 refine W.seq ?_
 refine W.region ?_
 refine WL.x (X.mv (s4)) rfl ?_
 refine WL.x (X.mv (lt rfl (s6))) rfl ?_
 refine WL.x (X.mv (jt2 rfl (s7))) rfl ?_
 refine WL.call3 ce9 (jt2 rfl (lh)) (lt rfl (lh)) (lh) (is_tt er1 at1 why1 w6 hI1) rfl ?_
 rintro _ w7 ⟨rfl, c3⟩
 refine WL.x (X.mv (lh)) rfl ?_
 refine WL.yes rfl rfl (lh) (rfl) ?_
 refine WL.x (X.loadBox (vs := es1) ag25 (jt4 rfl (lt rfl (s3))) (c3.at0 (hcm2.at0 (cx1.at0 m1))) hr1.len6) rfl ?_
 refine WL.yes rfl rfl (lt rfl (lh)) (rfl) ?_
 refine WL.x (X.loadBox (vs := fs1) ag25 (jt4 rfl (jt2 rfl (s5))) (c3.at0 m2) hs1.len6) rfl ?_
 refine WL.yes rfl rfl (jt2 rfl (lh)) (rfl) ?_
 refine WL.call2 ce10 (lt rfl (lh)) (lh) (samerep_ok _ _ _ _ es1 fs1 w7 ((((hr1.ch0 hcm1).ch0 cx1).ch0 hcm2).ch0 c3) ((hs1.ch0 hcm2).ch0 c3)) rfl ?_
 rintro _ w8 ⟨rfl, c4⟩
 refine WL.x (X.pickT (jt2 rfl (lt rfl (lh))) (rfl) (lh)) rfl ?_
 refine WL.x (X.asg (lh)) rfl ?_
 refine WL.e1 Nx.thn 2 (lh) ?_
 intro σ4 s2
 refine W.ret1 Nx.f1 s2 ?_
 exact ⟨congrArg Value.bool (decide_eq_true rfl), (((((c1.trans0 hcm1).trans0 cx1).trans0 hcm2).trans0 c3).trans0 c4)⟩
end Go.Proofs.YtbnllchicnmkiaaGreatDoor
