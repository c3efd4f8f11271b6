/-
  A part of the walk of the program.
-/
import Derived.Test.YtjnkpjehpdlcbaaDoorFacts
import Derived.Test.YtjnkpjehpdlcbaaDoorPan
import Derived.Test.YtjnkpjehpdlcbaaDoorPlain
import Derived.Test.YtjnkpjehpdlcbaaDoorStrs
import Derived.Test.YtjnkpjehpdlcbaaDoorHistP
import Derived.Test.YtjnkpjehpdlcbaaDoorTail
import Derived.Test.YtjnkpjehpdlcbaaDoorQueue
set_option linter.unusedVariables false
set_option linter.unusedSimpArgs false
set_option maxRecDepth 100000
namespace Go.Proofs.YtjnkpjehpdlcbaaDoor
open Go Go.RowKit Sg
theorem fd77_0 : Sg.Fld Tryd.prog 77 0 0 := ⟨_, _, _, rfl, rfl, rfl, rfl, by decide⟩
theorem pl69 : Sg.Plain Tryd.prog 69 := ⟨_, rfl, trivial⟩
theorem el80 : Sg.Elem Tryd.prog 80 4 (.agg #[.int .i64 0, .int .i64 0, .string ⟨#[]⟩, .int .i64 0]) 40 := ⟨_, rfl, rfl, rfl, rfl⟩
theorem fd80_0 : Sg.Fld Tryd.prog 80 0 0 := ⟨_, _, _, rfl, rfl, rfl, rfl, by decide⟩
theorem fd80_2 : Sg.Fld Tryd.prog 80 2 2 := ⟨_, _, _, rfl, rfl, rfl, rfl, by decide⟩
theorem fd77_1 : Sg.Fld Tryd.prog 77 1 1 := ⟨_, _, _, rfl, rfl, rfl, rfl, by decide⟩
theorem bd73 : Sg.Bld Tryd.prog 73 [0, 1] [.int .i64 0, .int .i64 0] := ⟨_, rfl, rfl, .inl ⟨_, rfl, Sg.allIn rfl, Sg.allAt (n := 2) rfl⟩⟩
theorem fd80_1 : Sg.Fld Tryd.prog 80 1 1 := ⟨_, _, _, rfl, rfl, rfl, rfl, by decide⟩
theorem ag80 : Sg.Aggr Tryd.prog 80 4 := ⟨⟨_, rfl, trivial⟩, _, rfl, rfl⟩
theorem el69 : Sg.Elem Tryd.prog 69 1 (.slice none 0 0) 24 := ⟨_, rfl, rfl, rfl, rfl⟩
theorem ce38 : Sg.Callee Tryd.prog 38 := ⟨_, Tryd.func38, by decide, rfl⟩
theorem ce69 : Sg.Callee Tryd.prog 69 := ⟨_, Tryd.func69, by decide, rfl⟩
theorem bd80 : Sg.Bld Tryd.prog 80 [0, 1, 2, 3] [.int .i64 0, .int .i64 0, .string ⟨#[]⟩, .int .i64 0] := ⟨_, rfl, rfl, .inl ⟨_, rfl, Sg.allIn rfl, Sg.allAt (n := 4) rfl⟩⟩
theorem ce39 : Sg.Callee Tryd.prog 39 := ⟨_, Tryd.func39, by decide, rfl⟩
theorem ce85 : Sg.Callee Tryd.prog 85 := ⟨_, Tryd.func85, by decide, rfl⟩

abbrev Gtk := Int × Int × ByteArray × Int
def ftk (x : Gtk) : List Value := [.int .i64 (x.1), .int .i64 (x.2.1), .string (x.2.2.1), .int .i64 (x.2.2.2)]
theorem ftk_len : ∀ x, (ftk x).length = 4 := fun _ => rfl
theorem ftk_one : ∀ x, ∀ u ∈ ftk x, u.oneCell' = true := fun x u hu => by
  unfold ftk at hu
  simp only [List.mem_cons, List.not_mem_nil, or_false] at hu
  rcases hu with rfl | rfl | rfl | rfl <;> rfl
theorem cmp_tk (x y : Gtk) : ∃ fs, Tryd.prog.underlying 80 = some (.struct fs) ∧ CmpAll Tryd.prog #[.int .i64 (x.1), .int .i64 (x.2.1), .string (x.2.2.1), .int .i64 (x.2.2.2)] #[.int .i64 (y.1), .int .i64 (y.2.1), .string (y.2.2.1), .int .i64 (y.2.2.2)] fs.toList [decide (x.1 = y.1), decide (x.2.1 = y.2.1), decide (x.2.2.1 = y.2.2.1), decide (x.2.2.2 = y.2.2.2)] := ⟨_, Tryd.underlying80, ⟨by decide, ⟨_, _, rfl, rfl, .inl ⟨_, _, _, Tryd.underlying3, rfl, rfl, rfl⟩⟩, ⟨by decide, ⟨_, _, rfl, rfl, .inl ⟨_, _, _, Tryd.underlying3, rfl, rfl, rfl⟩⟩, ⟨by decide, ⟨_, _, rfl, rfl, .inr (.inr ⟨_, _, Tryd.underlying9, rfl, rfl, rfl⟩)⟩, ⟨by decide, ⟨_, _, rfl, rfl, .inl ⟨_, _, _, Tryd.underlying3, rfl, rfl, rfl⟩⟩, trivial⟩⟩⟩⟩⟩
theorem cmpv_tk (x y : Gtk) : (!(([decide (x.1 = y.1), decide (x.2.1 = y.2.1), decide (x.2.2.1 = y.2.2.1), decide (x.2.2.2 = y.2.2.2)] : List Bool).all id)) = decide (x ≠ y) := by
  rw [Bool.eq_iff_iff]
  simp [Prod.ext_iff]
theorem hp_tk : Tryd.prog.stoodInHeld 80 = false := by kernel_rfl
theorem hg_tk : Tryd.prog.eqGuardType Tryd.prog.depth 80 = false := by kernel_rfl


/-- What the parser holds: the tokens that are left, and where the text ends; B: all of it lies below. -/
def PS (B p : Nat) (e : Int) (ts : List Tok) (w : World) : Prop := p < B ∧ B ≤ w.heap.size ∧ ∃ v, w.heap[p]? = some (.cells #[v, .int .i64 e] 77 (0, 0)) ∧ RSl 4 (Rc ftk) (fun j => (j ≠ p ∧ j < B) ∧ ∃ cs fr, w.heap[j]? = some (.cells cs 80 fr)) w v ts
theorem PS.own {B p : Nat} {e : Int} {ts : List Tok} {F : Nat → Prop} {w w' : World} (h : PS B p e ts w) (c : Ch F w w') (hF : ∀ j, j < B → ¬ F j) : PS B p e ts w' := by
  obtain ⟨h0, hB, v, h1, h2⟩ := h
  exact ⟨h0, Nat.le_trans hB c.size, v, c.at h1 (hF p h0), h2.ch (monRc _) c (fun j hj => hF j hj.1.2) (fun j hj => ⟨hj.1, hj.2.elim fun cs h => h.elim fun fr h => ⟨cs, fr, c.at h (hF j hj.1.2)⟩⟩)⟩
theorem PS.own2 {B p : Nat} {e : Int} {ts : List Tok} {F : Nat → Prop} {w w' : World} (h : PS B p e ts w) (c : Ch F w w') (hp : ¬ F p) (hF : ∀ j, F j → ∃ cs T fr, w.heap[j]? = some (.cells cs T fr) ∧ T ≠ 80) : PS B p e ts w' := by
  obtain ⟨h0, hB, v, h1, h2⟩ := h
  have hn : ∀ j, (∃ cs fr, w.heap[j]? = some (.cells cs 80 fr)) → ¬ F j := by
    rintro j ⟨cs, fr, hj⟩ e
    obtain ⟨cs', T, fr', h3, h4⟩ := hF j e
    rw [hj] at h3
    exact h4 (Obj.cells.inj (Option.some.inj h3)).2.1.symm
  exact ⟨h0, Nat.le_trans hB c.size, v, c.at h1 hp, h2.ch (monRc _) c (fun j hj => hn j hj.2) (fun j hj => ⟨hj.1, hj.2.elim fun cs h => h.elim fun fr h => ⟨cs, fr, c.at h (hn j hj.2)⟩⟩)⟩
theorem PS.ch0 {B p : Nat} {e : Int} {ts : List Tok} {w w' : World} (h : PS B p e ts w) (c : Ch0 w w') : PS B p e ts w' := h.own c (fun _ _ e => e)
def flt (at_ why : Int) : Value := .iface 73 (.agg #[.int .i64 at_, .int .i64 why])

theorem sees_nil (B p : Nat) (e : Int)  (kind : Int) (text : ByteArray) (w : World) (h : PS B p e [] w) :
  Sg.Ret Tryd.prog 38 #[.pointer (some ⟨p, 0, none⟩), .int .i64 kind, .string text] w fun v w' => v = .bool (seesB [] kind text) ∧ w = w' := by
 obtain ⟨hpB, hB, v, hp, hr⟩ := h
 obtain ⟨a, c, rfl⟩ := hr.len
 refine enter1 (n := 39) (l := [.pointer (some ⟨p, 0, none⟩), .int .i64 kind, .string text]) Tryd.func38 rfl rfl rfl rfl ?_
 refine W.g3 0 1 2 (v1 := .pointer (some ⟨p, 0, none⟩)) (v2 := .int .i64 kind) (v3 := .string text) rfl rfl rfl ?_; intro σ s0 s1 s2
 refine W.seq ?_
 refine W.region ?_
 refine WL.x (X.asg lc) rfl ?_
 refine WL.e3 Nx.thn 0 1 2 (lt rfl (s0)) (lt rfl (s1)) (lt rfl (s2)) ?_
 intro σ1 s0 s1 s2
 refine W.seq ?_
 refine W.region ?_
 refine WL.x (X.mv (s0)) rfl ?_
 refine WL.x (X.nilck (lh)) rfl ?_
 refine WL.x (X.fieldAddr fd77_0 (lh)) rfl ?_
 refine WL.x (X.load pl69 (lh) (by first | assumption) (by first | rfl | assumption)) rfl ?_
 refine WL.x (X.lenSl Tryd.underlying69 (lh)) rfl ?_
 refine WL.x (X.gtr (lh) lc) rfl ?_
 refine WL.x (X.mv (lh)) rfl ?_
 refine WL.no rfl rfl (lh) (decide_eq_false (by simp)) rfl ?_
 refine WL.no rfl rfl (lt rfl (lh)) (decide_eq_false (by simp)) rfl ?_
 refine WL.no rfl rfl (jt2 rfl (lh)) (decide_eq_false (by simp)) rfl ?_
 refine WL.no rfl rfl (jt2 rfl (lt rfl (lh))) (decide_eq_false (by simp)) rfl ?_
 refine WL.no rfl rfl (jt4 rfl (lh)) (decide_eq_false (by simp)) rfl ?_
 refine WL.no rfl rfl (jt4 rfl (lt rfl (lh))) (decide_eq_false (by simp)) rfl ?_
 refine WL.no rfl rfl (jt4 rfl (jt2 rfl (lh))) (decide_eq_false (by simp)) rfl ?_
 refine WL.no rfl rfl (jt4 rfl (jt2 rfl (lt rfl (lh)))) (decide_eq_false (by simp)) rfl ?_
 refine WL.no rfl rfl (jt8 rfl (lh)) (decide_eq_false (by simp)) rfl ?_
 refine WL.x (X.pickF (jt8 rfl (lt rfl (lh))) (decide_eq_false (by simp)) lc) rfl ?_
 refine WL.x (X.mv (lh)) rfl ?_
 refine WL.no rfl rfl (lh) rfl rfl ?_
 refine WL.no rfl rfl (lt rfl (lh)) rfl rfl ?_
 refine WL.no rfl rfl (jt2 rfl (lh)) rfl rfl ?_
 refine WL.nou rfl (lh) rfl ?_
 refine WL.nou rfl (lt rfl (lh)) rfl ?_
 refine WL.nou rfl (jt2 rfl (lh)) rfl ?_
 refine WL.nou rfl (jt2 rfl (lt rfl (lh))) rfl ?_
 refine WL.nou rfl (jt4 rfl (lh)) rfl ?_
 refine WL.nou rfl (jt4 rfl (lt rfl (lh))) rfl ?_
 refine WL.nou rfl (jt4 rfl (jt2 rfl (lh))) rfl ?_
 refine WL.nou rfl (jt4 rfl (jt2 rfl (lt rfl (lh)))) rfl ?_
 refine WL.nou rfl (jt8 rfl (lh)) rfl ?_
 refine WL.no rfl rfl (jt8 rfl (jt4 rfl (lh))) rfl rfl ?_
 refine WL.x (X.pickF (jt8 rfl (jt4 rfl (lt rfl (lh)))) rfl lc) rfl ?_
 refine WL.x (X.asg (lh)) rfl ?_
 refine WL.e1 Nx.thn 6 (lh) ?_
 intro σ2 s6
 refine W.ret1 Nx.f1 s6 ?_
 exact ⟨rfl, rfl⟩
theorem sees_cons (B p : Nat) (e : Int) (tk : Tok) (r : List Tok) (kind : Int) (text : ByteArray) (w : World) (h : PS B p e (tk :: r) w) :
  Sg.Ret Tryd.prog 38 #[.pointer (some ⟨p, 0, none⟩), .int .i64 kind, .string text] w fun v w' => v = .bool (seesB (tk :: r) kind text) ∧ w = w' := by
 obtain ⟨hpB, hB, v, hp, hr⟩ := h
 obtain ⟨a, c, rfl⟩ := hr.len
 obtain ⟨b1, o1, cs1, T1, fr1, rfl, hm1, he1, -, hk1⟩ := hr.get (k := 0) (by simp)
 have hlen : 0 < (tk :: r).length := by simp
 refine enter1 (n := 39) (l := [.pointer (some ⟨p, 0, none⟩), .int .i64 kind, .string text]) Tryd.func38 rfl rfl rfl rfl ?_
 refine W.g3 0 1 2 (v1 := .pointer (some ⟨p, 0, none⟩)) (v2 := .int .i64 kind) (v3 := .string text) rfl rfl rfl ?_; intro σ s0 s1 s2
 refine W.seq ?_
 refine W.region ?_
 refine WL.x (X.asg lc) rfl ?_
 refine WL.e3 Nx.thn 0 1 2 (lt rfl (s0)) (lt rfl (s1)) (lt rfl (s2)) ?_
 intro σ1 s0 s1 s2
 refine W.seq ?_
 refine W.region ?_
 refine WL.x (X.mv (s0)) rfl ?_
 refine WL.x (X.nilck (lh)) rfl ?_
 refine WL.x (X.fieldAddr fd77_0 (lh)) rfl ?_
 refine WL.x (X.load pl69 (lh) (by first | assumption) (by first | rfl | assumption)) rfl ?_
 refine WL.x (X.lenSl Tryd.underlying69 (lh)) rfl ?_
 refine WL.x (X.gtr (lh) lc) rfl ?_
 refine WL.x (X.mv (lh)) rfl ?_
 refine WL.yes rfl rfl (lh) (decide_eq_true (by simp)) ?_
 refine WL.x (X.mv (jt4 rfl (jt2 rfl (lt rfl (s0))))) rfl ?_
 refine WL.yes rfl rfl (lt rfl (lh)) (decide_eq_true (by simp)) ?_
 refine WL.x (X.nilck (lh)) rfl ?_
 refine WL.yes rfl rfl (jt2 rfl (lh)) (decide_eq_true (by simp)) ?_
 refine WL.x (X.fieldAddr fd77_0 (lh)) rfl ?_
 refine WL.yes rfl rfl (jt2 rfl (lt rfl (lh))) (decide_eq_true (by simp)) ?_
 refine WL.x (X.load pl69 (lh) (by first | assumption) (by first | rfl | assumption)) rfl ?_
 refine WL.yes rfl rfl (jt4 rfl (lh)) (decide_eq_true (by simp)) ?_
 refine WL.x (X.indexAddr Tryd.underlying69 el80 (lh) lc (by omega) (by omega)) rfl ?_
 refine WL.yes rfl rfl (jt4 rfl (lt rfl (lh))) (decide_eq_true (by simp)) ?_
 refine WL.x (X.fieldAddr fd80_0 (lh)) rfl ?_
 refine WL.yes rfl rfl (jt4 rfl (jt2 rfl (lh))) (decide_eq_true (by simp)) ?_
 refine WL.x (X.load pl3 (lh) hm1 (v := .int .i64 tk.1) (hk1 0 (by decide))) rfl ?_
 refine WL.yes rfl rfl (jt4 rfl (jt2 rfl (lt rfl (lh)))) (decide_eq_true (by simp)) ?_
 refine WL.x (X.mv (jt8 rfl (jt4 rfl (jt2 rfl (s1))))) rfl ?_
 refine WL.yes rfl rfl (jt8 rfl (lh)) (decide_eq_true (by simp)) ?_
 refine WL.x (X.eql (lt rfl (lh)) (lh)) rfl ?_
 refine WL.x (X.pickT (jt8 rfl (lt rfl (lh))) (decide_eq_true (by simp)) (lh)) rfl ?_
 refine WL.x (X.mv (lh)) rfl ?_
 refine WL.splitp (lh) (fun h1 => ?_) (fun h1 => ?_)
 ·
  refine WL.yes rfl rfl (lh) (decide_eq_true h1) ?_
  refine WL.x (X.mv (jt8 rfl (jt8 rfl (jt2 rfl (s2))))) rfl ?_
  refine WL.yes rfl rfl (lt rfl (lh)) (decide_eq_true h1) ?_
  refine WL.x (X.eqlS (lh) lc) rfl ?_
  refine WL.yes rfl rfl (jt2 rfl (lh)) (decide_eq_true h1) ?_
  refine WL.x (X.mv (lh)) rfl ?_
  refine WL.splitp (lh) (fun h2 => ?_) (fun h2 => ?_)
  ·
   refine WL.no rfl rfl (lh) (decide_eq_true h2) rfl ?_
   refine WL.no rfl rfl (lt rfl (lh)) (decide_eq_true h2) rfl ?_
   refine WL.no rfl rfl (jt2 rfl (lh)) (decide_eq_true h2) rfl ?_
   refine WL.no rfl rfl (jt2 rfl (lt rfl (lh))) (decide_eq_true h2) rfl ?_
   refine WL.no rfl rfl (jt4 rfl (lh)) (decide_eq_true h2) rfl ?_
   refine WL.no rfl rfl (jt4 rfl (lt rfl (lh))) (decide_eq_true h2) rfl ?_
   refine WL.no rfl rfl (jt4 rfl (jt2 rfl (lh))) (decide_eq_true h2) rfl ?_
   refine WL.no rfl rfl (jt4 rfl (jt2 rfl (lt rfl (lh)))) (decide_eq_true h2) rfl ?_
   refine WL.no rfl rfl (jt8 rfl (lh)) (decide_eq_true h2) rfl ?_
   refine WL.yes rfl rfl (jt8 rfl (jt4 rfl (lh))) (decide_eq_true h1) ?_
   refine WL.x (X.pickT (jt8 rfl (lt rfl (lh))) (decide_eq_true h2) lc) rfl ?_
   refine WL.x (X.pickT (jt8 rfl (jt4 rfl (lt rfl (lh)))) (decide_eq_true h1) (lh)) rfl ?_
   refine WL.x (X.asg (lh)) rfl ?_
   refine WL.e1 Nx.thn 6 (lh) ?_
   intro σ2 s6
   refine W.ret1 Nx.f1 s6 ?_
   exact ⟨congrArg Value.bool (by unfold seesB; simp [*]), rfl⟩
  ·
   refine WL.yes rfl rfl (lh) (decide_eq_false h2) ?_
   refine WL.x (X.mv (jt8 rfl (jt8 rfl (jt4 rfl (lt rfl (s0)))))) rfl ?_
   refine WL.yes rfl rfl (lt rfl (lh)) (decide_eq_false h2) ?_
   refine WL.x (X.nilck (lh)) rfl ?_
   refine WL.yes rfl rfl (jt2 rfl (lh)) (decide_eq_false h2) ?_
   refine WL.x (X.fieldAddr fd77_0 (lh)) rfl ?_
   refine WL.yes rfl rfl (jt2 rfl (lt rfl (lh))) (decide_eq_false h2) ?_
   refine WL.x (X.load pl69 (lh) (by first | assumption) (by first | rfl | assumption)) rfl ?_
   refine WL.yes rfl rfl (jt4 rfl (lh)) (decide_eq_false h2) ?_
   refine WL.x (X.indexAddr Tryd.underlying69 el80 (lh) lc (by omega) (by omega)) rfl ?_
   refine WL.yes rfl rfl (jt4 rfl (lt rfl (lh))) (decide_eq_false h2) ?_
   refine WL.x (X.fieldAddr fd80_2 (lh)) rfl ?_
   refine WL.yes rfl rfl (jt4 rfl (jt2 rfl (lh))) (decide_eq_false h2) ?_
   refine WL.x (X.load pl9 (lh) hm1 (v := .string tk.2.2.1) (hk1 2 (by decide))) rfl ?_
   refine WL.yes rfl rfl (jt4 rfl (jt2 rfl (lt rfl (lh)))) (decide_eq_false h2) ?_
   refine WL.x (X.mv (jt8 rfl (jt8 rfl (jt8 rfl (jt4 rfl (s2)))))) rfl ?_
   refine WL.yes rfl rfl (jt8 rfl (lh)) (decide_eq_false h2) ?_
   refine WL.x (X.eqlS (lt rfl (lh)) (lh)) rfl ?_
   refine WL.yes rfl rfl (jt8 rfl (jt4 rfl (lh))) (decide_eq_true h1) ?_
   refine WL.x (X.pickF (jt8 rfl (lt rfl (lh))) (decide_eq_false h2) (lh)) rfl ?_
   refine WL.x (X.pickT (jt8 rfl (jt4 rfl (lt rfl (lh)))) (decide_eq_true h1) (lh)) rfl ?_
   refine WL.x (X.asg (lh)) rfl ?_
   refine WL.e1 Nx.thn 6 (lh) ?_
   intro σ3 s6
   refine W.ret1 Nx.f1 s6 ?_
   exact ⟨congrArg Value.bool (by unfold seesB; simp [*]), rfl⟩
 ·
  refine WL.no rfl rfl (lh) (decide_eq_false h1) rfl ?_
  refine WL.no rfl rfl (lt rfl (lh)) (decide_eq_false h1) rfl ?_
  refine WL.no rfl rfl (jt2 rfl (lh)) (decide_eq_false h1) rfl ?_
  refine WL.nou rfl (lh) rfl ?_
  refine WL.nou rfl (lt rfl (lh)) rfl ?_
  refine WL.nou rfl (jt2 rfl (lh)) rfl ?_
  refine WL.nou rfl (jt2 rfl (lt rfl (lh))) rfl ?_
  refine WL.nou rfl (jt4 rfl (lh)) rfl ?_
  refine WL.nou rfl (jt4 rfl (lt rfl (lh))) rfl ?_
  refine WL.nou rfl (jt4 rfl (jt2 rfl (lh))) rfl ?_
  refine WL.nou rfl (jt4 rfl (jt2 rfl (lt rfl (lh)))) rfl ?_
  refine WL.nou rfl (jt8 rfl (lh)) rfl ?_
  refine WL.no rfl rfl (jt8 rfl (jt4 rfl (lh))) (decide_eq_false h1) rfl ?_
  refine WL.x (X.pickF (jt8 rfl (jt4 rfl (lt rfl (lh)))) (decide_eq_false h1) lc) rfl ?_
  refine WL.x (X.asg (lh)) rfl ?_
  refine WL.e1 Nx.thn 6 (lh) ?_
  intro σ4 s6
  refine W.ret1 Nx.f1 s6 ?_
  exact ⟨congrArg Value.bool (by unfold seesB; simp [*]), rfl⟩

theorem sees_ok (B p : Nat) (e : Int) (ts : List Tok) (kind : Int) (text : ByteArray) (w : World) (h : PS B p e ts w) : Sg.Ret Tryd.prog 38 #[.pointer (some ⟨p, 0, none⟩), .int .i64 kind, .string text] w fun v w' => v = .bool (seesB ts kind text) ∧ w = w' := by
  cases ts with
  | nil => exact sees_nil B p e kind text w h
  | cons tk r => exact sees_cons B p e tk r kind text w h

theorem fail_nil (B p : Nat) (e : Int)  (why : Int) (w : World) (h : PS B p e [] w) :
  Sg.RetP Tryd.prog 69 #[.pointer (some ⟨p, 0, none⟩), .int .i64 why] w (fun _ _ => False) (fun v w' => v = flt (atP e []) why ∧ w = w') := by
 obtain ⟨hpB, hB, v, hp, hr⟩ := h
 obtain ⟨a, c, rfl⟩ := hr.len
 refine enterP0 (n := 26) (l := [.pointer (some ⟨p, 0, none⟩), .int .i64 why]) Tryd.func69 rfl rfl rfl rfl ?_
 refine W.g2 0 1 (v1 := .pointer (some ⟨p, 0, none⟩)) (v2 := .int .i64 why) rfl rfl ?_; intro σ s0 s1
 refine W.seq ?_
 refine W.region ?_
 refine WL.x (X.mv (s0)) rfl ?_
 refine WL.x (X.nilck (lh)) rfl ?_
 refine WL.x (X.fieldAddr fd77_1 (lh)) rfl ?_
 refine WL.x (X.load pl3 (lh) (by first | assumption) (by first | rfl | assumption)) rfl ?_
 refine WL.x (X.asg (lh)) rfl ?_
 refine WL.e3 Nx.thn 0 1 4 (jt4 rfl (lt rfl (s0))) (jt4 rfl (lt rfl (s1))) (lh) ?_
 intro σ1 s0 s1 s4
 refine W.seq ?_
 refine W.seq ?_
 refine W.region ?_
 refine WL.x (X.mv (s0)) rfl ?_
 refine WL.x (X.nilck (lh)) rfl ?_
 refine WL.x (X.fieldAddr fd77_0 (lh)) rfl ?_
 refine WL.x (X.load pl69 (lh) (by first | assumption) (by first | rfl | assumption)) rfl ?_
 refine WL.x (X.lenSl Tryd.underlying69 (lh)) rfl ?_
 refine WL.x (X.gtr (lh) lc) rfl ?_
 refine WL.e4 Nx.thn 0 1 4 14 (jt4 rfl (jt2 rfl (s0))) (jt4 rfl (jt2 rfl (s1))) (jt4 rfl (jt2 rfl (s4))) (lh) ?_
 intro σ2 s0 s1 s4 s14
 refine W.cndN s14 (by simp) ?_
 refine W.skip Nx.thn ?_
 refine W.region ?_
 refine WL.x (X.mv (s4)) rfl ?_
 refine WL.x (X.mv (lt rfl (s1))) rfl ?_
 refine WL.x (X.build bd73 (pcons (lt rfl (lh)) (pcons (lh) pnil)) rfl (rfl : _ = [_, _])) rfl ?_
 refine WL.x (X.iface Tryd.underlying73 trivial (lh)) rfl ?_
 refine WL.panic (lh) ?_
 exact ⟨_, rfl, rfl, rfl⟩
theorem fail_cons (B p : Nat) (e : Int) (tk : Tok) (r : List Tok) (why : Int) (w : World) (h : PS B p e (tk :: r) w) :
  Sg.RetP Tryd.prog 69 #[.pointer (some ⟨p, 0, none⟩), .int .i64 why] w (fun _ _ => False) (fun v w' => v = flt (atP e (tk :: r)) why ∧ w = w') := by
 obtain ⟨hpB, hB, v, hp, hr⟩ := h
 obtain ⟨a, c, rfl⟩ := hr.len
 obtain ⟨b1, o1, cs1, T1, fr1, rfl, hm1, he1, -, hk1⟩ := hr.get (k := 0) (by simp)
 have hlen : 0 < (tk :: r).length := by simp
 refine enterP0 (n := 26) (l := [.pointer (some ⟨p, 0, none⟩), .int .i64 why]) Tryd.func69 rfl rfl rfl rfl ?_
 refine W.g2 0 1 (v1 := .pointer (some ⟨p, 0, none⟩)) (v2 := .int .i64 why) rfl rfl ?_; intro σ s0 s1
 refine W.seq ?_
 refine W.region ?_
 refine WL.x (X.mv (s0)) rfl ?_
 refine WL.x (X.nilck (lh)) rfl ?_
 refine WL.x (X.fieldAddr fd77_1 (lh)) rfl ?_
 refine WL.x (X.load pl3 (lh) (by first | assumption) (by first | rfl | assumption)) rfl ?_
 refine WL.x (X.asg (lh)) rfl ?_
 refine WL.e3 Nx.thn 0 1 4 (jt4 rfl (lt rfl (s0))) (jt4 rfl (lt rfl (s1))) (lh) ?_
 intro σ1 s0 s1 s4
 refine W.seq ?_
 refine W.seq ?_
 refine W.region ?_
 refine WL.x (X.mv (s0)) rfl ?_
 refine WL.x (X.nilck (lh)) rfl ?_
 refine WL.x (X.fieldAddr fd77_0 (lh)) rfl ?_
 refine WL.x (X.load pl69 (lh) (by first | assumption) (by first | rfl | assumption)) rfl ?_
 refine WL.x (X.lenSl Tryd.underlying69 (lh)) rfl ?_
 refine WL.x (X.gtr (lh) lc) rfl ?_
 refine WL.e4 Nx.thn 0 1 4 14 (jt4 rfl (jt2 rfl (s0))) (jt4 rfl (jt2 rfl (s1))) (jt4 rfl (jt2 rfl (s4))) (lh) ?_
 intro σ2 s0 s1 s4 s14
 refine W.cndY s14 (by simp) ?_
 refine W.region ?_
 refine WL.x (X.mv (s0)) rfl ?_
 refine WL.x (X.nilck (lh)) rfl ?_
 refine WL.x (X.fieldAddr fd77_0 (lh)) rfl ?_
 refine WL.x (X.load pl69 (lh) (by first | assumption) (by first | rfl | assumption)) rfl ?_
 refine WL.x (X.indexAddr Tryd.underlying69 el80 (lh) lc (by omega) (by omega)) rfl ?_
 refine WL.x (X.fieldAddr fd80_1 (lh)) rfl ?_
 refine WL.x (X.load pl3 (lh) hm1 (v := .int .i64 tk.2.1) (hk1 1 (by decide))) rfl ?_
 refine WL.x (X.asg (lh)) rfl ?_
 refine WL.e2 Nx.thn 1 4 (jt8 rfl (s1)) (lh) ?_
 intro σ3 s1 s4
 refine W.region ?_
 refine WL.x (X.mv (s4)) rfl ?_
 refine WL.x (X.mv (lt rfl (s1))) rfl ?_
 refine WL.x (X.build bd73 (pcons (lt rfl (lh)) (pcons (lh) pnil)) rfl (rfl : _ = [_, _])) rfl ?_
 refine WL.x (X.iface Tryd.underlying73 trivial (lh)) rfl ?_
 refine WL.panic (lh) ?_
 exact ⟨_, rfl, rfl, rfl⟩

theorem fail_ok (B p : Nat) (e : Int) (ts : List Tok) (why : Int) (w : World) (h : PS B p e ts w) : Sg.RetP Tryd.prog 69 #[.pointer (some ⟨p, 0, none⟩), .int .i64 why] w (fun _ _ => False) (fun v w' => v = flt (atP e ts) why ∧ w = w') := by
  cases ts with
  | nil => exact fail_nil B p e why w h
  | cons tk r => exact fail_cons B p e tk r why w h

set_option maxHeartbeats 800000 in
theorem take_ok (B p : Nat) (e : Int) (ts : List Tok) (kind : Int) (text : ByteArray) (w : World) (h : PS B p e ts w) :
  Sg.RetP Tryd.prog 39 #[.pointer (some ⟨p, 0, none⟩), .int .i64 kind, .string text] w (fun v w' => ∃ tk r, ts = tk :: r ∧ seesB ts kind text = true ∧ v = .agg (ftk tk).toArray ∧ PS B p e r w' ∧ Ch (fun j => j = p) w w') (fun v w' => seesB ts kind text = false ∧ v = flt (atP e ts) 20 ∧ Ch0 w w') := by
 refine enterPG (n := 30) (l := [.pointer (some ⟨p, 0, none⟩), .int .i64 kind, .string text]) Tryd.func39 rfl rfl rfl rfl ?_
 refine W.g3 0 1 2 (v1 := .pointer (some ⟨p, 0, none⟩)) (v2 := .int .i64 kind) (v3 := .string text) rfl rfl rfl ?_; intro σ s0 s1 s2
 refine W.seq ?_
 refine W.region ?_
 refine WL.alloc el80 rfl ?_
 intro w1 u0_0; have hu0_0 := u0_0.at_; have cu0_0 := u0_0.ch; have zu0_0 := u0_0.size
 refine WL.e4 Nx.thn 0 1 2 6 (lt rfl (s0)) (lt rfl (s1)) (lt rfl (s2)) (lh) ?_
 intro σ1 s0 s1 s2 s6
 refine W.seq ?_
 refine W.seq ?_
 refine W.region ?_
 refine WL.x (X.mv (s0)) rfl ?_
 refine WL.x (X.mv (lt rfl (s1))) rfl ?_
 refine WL.x (X.mv (jt2 rfl (s2))) rfl ?_
 refine WL.call3 ce38 (jt2 rfl (lh)) (lt rfl (lh)) (lh) (sees_ok B p e ts kind text w1 (h.ch0 cu0_0)) rfl ?_
 rintro _ _ ⟨rfl, rfl⟩
 refine WL.x (X.not (lh)) rfl ?_
 refine WL.e3 Nx.thn 0 6 12 (jt4 rfl (lt rfl (s0))) (jt4 rfl (lt rfl (s6))) (lh) ?_
 intro σ2 s0 s6 s12
 refine W.cnd s12 (fun hs => ?_) (fun hs => ?_)
 ·
  refine W.region ?_
  refine WL.x (X.mv (s0)) rfl ?_
  refine WL.callP2 ce69 (lh) lc (fail_ok B p e ts 20 w1 (h.ch0 cu0_0)) rfl (by rintro v w' ⟨rfl, rfl⟩; exact ⟨_, rfl, by simpa using hs, rfl, cu0_0⟩) ?_
  rintro _ _ ⟨⟩
 ·
  have hsb : seesB ts kind text = true := by simpa using hs
  obtain ⟨tk, r, rfl⟩ : ∃ tk r, ts = tk :: r := by
    cases ts with
    | nil => cases hsb
    | cons tk r => exact ⟨tk, r, rfl⟩
  obtain ⟨hpB, hB, v, hp, hr⟩ := h
  have hlw := lt_of_blk hp
  have hp := cu0_0.at0 hp
  have hr := hr.ch0 (monRc _) cu0_0
  obtain ⟨a, c, rfl⟩ := hr.len
  obtain ⟨b1, o1, cs1, T1, fr1, rfl, hm1, he1, hbp, hk1⟩ := hr.get (k := 0) (by simp)
  have hlen : 0 < (tk :: r).length := by simp
  have hlp := lt_of_blk hp
  refine W.skip Nx.thn ?_
  refine W.seq ?_
  refine W.region ?_
  refine WL.x (X.mv (s0)) rfl ?_
  refine WL.x (X.nilck (lh)) rfl ?_
  refine WL.x (X.fieldAddr fd77_0 (lh)) rfl ?_
  refine WL.x (X.load pl69 (lh) (by first | assumption | exact cu0_0.at0 (by assumption)) (by first | rfl | assumption)) rfl ?_
  refine WL.x (X.indexAddr Tryd.underlying69 el80 (lh) lc (by omega) (by omega)) rfl ?_
  refine WL.x (X.loadS (vs := ftk tk) ag80 (lh) hm1 he1 (fun i hi => hk1 i hi)) rfl ?_
  refine WL.alloc el80 rfl ?_
  intro w2 u3_6; have hu3_6 := u3_6.at_; have cu3_6 := u3_6.ch; have zu3_6 := u3_6.size
  refine WL.storeS (vs := ftk tk) ag80 (lh) (lt rfl (lh)) (List.all_eq_true.2 (ftk_one tk)) rfl hu3_6 (by first | decide | (simp; done)) ?_
  intro w3 us
  have htk := show (w3.heap[(_ : Nat)]? = some (Obj.cells (ftk tk).toArray 80 (0, 0))) from us.at_
  have cst := us.ch
  have hc3 := cu3_6.trans cst (H := fun _ => False) (fun _ _ e => e) (fun q hq e => by (try dsimp only at e); omega)
  have hp := hc3.at0 hp
  have hr := hr.ch0 (monRc _) hc3
  have hu0 := hc3.at0 hu0_0
  refine WL.e3 Nx.thn 0 6 7 (jt4 rfl (jt2 rfl (lt rfl (s0)))) (jt4 rfl (jt2 rfl (lt rfl (s6)))) (lh) ?_
  intro σ3 s0 s6 s7
  refine W.seq ?_
  refine W.region ?_
  refine WL.x (X.mv (s0)) rfl ?_
  refine WL.x (X.mv (lt rfl (s0))) rfl ?_
  refine WL.x (X.nilck (lh)) rfl ?_
  refine WL.x (X.fieldAddr fd77_0 (lh)) rfl ?_
  refine WL.x (X.load pl69 (lh) (by first | assumption | exact cst.at (by assumption) (by intro hne; first | exact hne | ((try dsimp only at hne); omega)) | exact cst.at (cu3_6.at0 (by assumption)) (by intro hne; first | exact hne | ((try dsimp only at hne); omega))) (by first | rfl | assumption)) rfl ?_
  obtain ⟨ad, had⟩ : ∃ ad, ad = (if (c : Int) = 1 then (⟨b1, o1, none⟩ : Addr) else (⟨b1, o1, none⟩ : Addr).add (1 * 4)) := ⟨_, rfl⟩
  refine WL.x (v := .slice (some ad) r.length (c - 1)) (by rw [had, show r.length = (((tk :: r).length : Int) - 1).toNat by simp, show c - 1 = ((c : Int) - 1).toNat by omega]; exact X.slL Tryd.underlying69 el80 (lh) lc (by omega) (by omega)) rfl ?_
  refine WL.x (X.nilck (jt4 rfl (lt rfl (lh)))) rfl ?_
  refine WL.x (X.fieldAddr fd77_0 (lh)) rfl ?_
  refine WL.store el69 (lh) (jt2 rfl (lh)) rfl hp (show 0 + 0 < 2 by decide) ?_
  intro w4 us
  have hp2 : w4.heap[p]? = some (.cells #[.slice (some ad) r.length (c - 1), .int .i64 e] 77 (0, 0)) := us.at_
  have csp := us.ch
  have hr2 := (rsl_tail hr ad had).ch (monRc _) csp (fun j hj e => hj.1.1 e) (fun j hj => hj)
  have htk := csp.at htk (fun e => by (try dsimp only at e); omega)
  have hu0 := csp.at hu0 (fun e => by (try dsimp only at e); omega)
  have hcp : Ch (fun j => j = p) w w4 := (cu0_0.trans0 hc3).trans csp (H := fun j => j = p) (fun _ _ e => e.elim) (fun _ _ e => e)
  refine WL.e2 Nx.thn 6 7 (jt8 rfl (s6)) (jt8 rfl (s7)) ?_
  intro σ4 s6 s7
  refine W.seq ?_
  refine W.region ?_
  refine WL.x (X.loadBox (vs := ftk tk) ag80 (s7) htk rfl) rfl ?_
  refine WL.storeS (vs := ftk tk) ag80 (lt rfl (s6)) (lh) (List.all_eq_true.2 (ftk_one tk)) rfl hu0 (by first | decide | (simp; done)) ?_
  intro w5 us
  have hfin := show (w5.heap[(_ : Nat)]? = some (Obj.cells (ftk tk).toArray 80 (0, 0))) from us.at_
  have csr := us.ch
  refine WL.e1 Nx.thn 6 (lt rfl (s6)) ?_
  intro σ5 s6
  refine W.retG (Nx.panR Nx.fG) ⟨[_], (.cell s6 (by first | assumption | exact csr.at (by assumption) (by intro hne; first | exact hne | ((try dsimp only at hne); omega)) | exact csr.at (csp.at (by assumption) (by intro hne; first | exact hne | ((try dsimp only at hne); omega))) (by intro hne; first | exact hne | ((try dsimp only at hne); omega))) (by exact ag80) .nil), ?_⟩
  refine ⟨tk, r, rfl, hsb, rfl, ?_, hcp.trans csr (H := fun j => j = p) (fun _ _ e => e) (fun q hq e => by (try dsimp only at e); omega)⟩
  have hsz1 := hcp.size
  have hsz2 := csr.size
  exact ⟨hpB, by omega, _, csr.at hp2 (fun e => by (try dsimp only at e); omega), hr2.ch (monRc _) csr (fun j hj e => by have := hj.1.2; (try dsimp only at e); omega) (fun j hj => ⟨hj.1, hj.2.elim fun cs h => h.elim fun fr h => ⟨cs, fr, (hcp.trans csr (H := fun j => j = p) (fun _ _ e => e) (fun q hq e => by (try dsimp only at e); omega)).at h (fun e => hj.1.1 e)⟩⟩)⟩

def mayT (ts : List Tok) (b : Bool) : Tok := match b, ts with
  | true, t :: _ => t
  | _, _ => (0, 0, ⟨#[]⟩, 0)
def mayL (ts : List Tok) (b : Bool) : List Tok := if b = true then ts.tail else ts
set_option maxHeartbeats 800000 in
theorem pmay_ok (B p : Nat) (e : Int) (ts : List Tok) (kind : Int) (text : ByteArray) (w : World) (h : PS B p e ts w) :
  Sg.Ret Tryd.prog 85 #[.pointer (some ⟨p, 0, none⟩), .int .i64 kind, .string text] w fun v w' => v = .tuple #[.agg (ftk (mayT ts (seesB ts kind text))).toArray, .bool (seesB ts kind text)] ∧ PS B p e (mayL ts (seesB ts kind text)) w' ∧ Ch (fun j => j = p) w w' := by
 refine enterG (n := 18) (l := [.pointer (some ⟨p, 0, none⟩), .int .i64 kind, .string text]) Tryd.func85 rfl rfl rfl rfl ?_
 refine W.g3 0 1 2 (v1 := .pointer (some ⟨p, 0, none⟩)) (v2 := .int .i64 kind) (v3 := .string text) rfl rfl rfl ?_; intro σ s0 s1 s2
 refine W.seq ?_
 refine W.region ?_
 refine WL.alloc el80 rfl ?_
 intro w1 u0_0; have hu0_0 := u0_0.at_; have cu0_0 := u0_0.ch; have zu0_0 := u0_0.size
 refine WL.x (X.asg lc) rfl ?_
 refine WL.e4 Nx.thn 0 1 2 6 (jt2 rfl (s0)) (jt2 rfl (s1)) (jt2 rfl (s2)) (lt rfl (lh)) ?_
 intro σ1 s0 s1 s2 s6
 refine W.seq ?_
 refine W.seq ?_
 refine W.region ?_
 refine WL.x (X.mv (s0)) rfl ?_
 refine WL.x (X.mv (lt rfl (s1))) rfl ?_
 refine WL.x (X.mv (jt2 rfl (s2))) rfl ?_
 refine WL.call3 ce38 (jt2 rfl (lh)) (lt rfl (lh)) (lh) (sees_ok B p e ts kind text w1 (h.ch0 cu0_0)) rfl ?_
 rintro _ _ ⟨rfl, rfl⟩
 refine WL.x (X.not (lh)) rfl ?_
 refine WL.e5 Nx.thn 0 1 2 6 12 (jt4 rfl (lt rfl (s0))) (jt4 rfl (lt rfl (s1))) (jt4 rfl (lt rfl (s2))) (jt4 rfl (lt rfl (s6))) (lh) ?_
 intro σ2 s0 s1 s2 s6 s12
 refine W.cnd s12 (fun hs => ?_) (fun hs => ?_)
 ·
  have hsb : seesB ts kind text = false := by simpa using hs
  have hBw := h.2.1
  refine W.seq ?_
  refine W.region ?_
  refine WL.x (X.build bd80 pnil rfl (rfl : _ = [_, _, _, _])) rfl ?_
  refine WL.storeS (vs := ftk (0, 0, ⟨#[]⟩, 0)) ag80 (lt rfl (s6)) (lh) (List.all_eq_true.2 (ftk_one _)) rfl hu0_0 (by first | decide | (simp; done)) ?_
  intro w2 us
  have hfin := show (w2.heap[(_ : Nat)]? = some (Obj.cells (ftk (0, 0, ⟨#[]⟩, 0)).toArray 80 (0, 0))) from us.at_
  have csr := us.ch
  refine WL.x (X.asg lc) rfl ?_
  refine WL.e2 Nx.thn 6 7 (jt2 rfl (s6)) (lh) ?_
  intro σ3 s6 s7
  refine W.retG (Nx.rthn Nx.fG) ⟨[_, _], (.cell s6 (by first | assumption | exact csr.at (by assumption) (by intro hne; first | exact hne | ((try dsimp only at hne); omega)) | exact csr.at (cu0_0.at0 (by assumption)) (by intro hne; first | exact hne | ((try dsimp only at hne); omega))) (by exact ag80) (.tmp s7 .nil)), ?_⟩
  rw [hsb]
  exact ⟨rfl, (h.ch0 cu0_0).own csr (fun j hj e => by (try dsimp only at e); omega), cu0_0.trans csr (H := fun j => j = p) (fun _ _ e => e.elim) (fun q hq e => by (try dsimp only at e); omega)⟩
 ·
  have hsb : seesB ts kind text = true := by simpa using hs
  have hBw := h.2.1
  refine W.skip Nx.thn ?_
  refine W.seq ?_
  refine W.region ?_
  refine WL.x (X.mv (s0)) rfl ?_
  refine WL.x (X.mv (lt rfl (s1))) rfl ?_
  refine WL.x (X.mv (jt2 rfl (s2))) rfl ?_
  refine WL.callP3 ce39 (jt2 rfl (lh)) (lt rfl (lh)) (lh) (take_ok B p e ts kind text w1 (h.ch0 cu0_0)) rfl (by rintro v w' ⟨hf, _⟩; rw [hsb] at hf; cases hf) ?_
  rintro _ w3 ⟨tk, r, rfl, -, rfl, hps, ct⟩
  refine WL.storeS (vs := ftk tk) ag80 (jt4 rfl (s6)) (lh) (List.all_eq_true.2 (ftk_one _)) rfl (ct.at hu0_0 (fun e => by have := h.1; (try dsimp only at e); omega)) (by first | decide | (simp; done)) ?_
  intro w4 us
  have hfin := show (w4.heap[(_ : Nat)]? = some (Obj.cells (ftk tk).toArray 80 (0, 0))) from us.at_
  have csr := us.ch
  refine WL.x (X.asg lc) rfl ?_
  refine WL.e2 Nx.thn 6 7 (jt4 rfl (lt rfl (s6))) (lh) ?_
  intro σ4 s6 s7
  refine W.retG Nx.fG ⟨[_, _], (.cell s6 (by first | assumption | exact csr.at (by assumption) (by intro hne; first | exact hne | ((try dsimp only at hne); omega)) | exact csr.at (ct.at (by assumption) (by intro hne; first | exact hne | ((try dsimp only at hne); omega))) (by intro hne; first | exact hne | ((try dsimp only at hne); omega))) (by exact ag80) (.tmp s7 .nil)), ?_⟩
  rw [hsb]
  exact ⟨rfl, hps.own csr (fun j hj e => by (try dsimp only at e); omega), (cu0_0.trans ct (H := fun j => j = p) (fun _ _ e => e.elim) (fun _ _ e => e)).trans csr (H := fun j => j = p) (fun _ _ e => e) (fun q hq e => by (try dsimp only at e); omega)⟩
theorem room_ok (B p : Nat) (e : Int) (ts : List Tok) (m most : Int) (w : World) (h : PS B p e ts w) :
  Sg.RetP Tryd.prog 40 #[.pointer (some ⟨p, 0, none⟩), .int .i64 m, .int .i64 most] w (fun v w' => m < most ∧ w = w') (fun v w' => most ≤ m ∧ v = flt (atP e ts) 4 ∧ w = w') := by
 refine enterP0 (n := 11) (l := [.pointer (some ⟨p, 0, none⟩), .int .i64 m, .int .i64 most]) Tryd.func40 rfl rfl rfl rfl ?_
 refine W.g3 0 1 2 (v1 := .pointer (some ⟨p, 0, none⟩)) (v2 := .int .i64 m) (v3 := .int .i64 most) rfl rfl rfl ?_; intro σ s0 s1 s2
 refine W.seq ?_
 refine W.region ?_
 refine WL.x (X.mv (s1)) rfl ?_
 refine WL.x (X.mv (lt rfl (s2))) rfl ?_
 refine WL.x (X.geq (lt rfl (lh)) (lh)) rfl ?_
 refine WL.e2 Nx.thn 0 8 (jt2 rfl (lt rfl (s0))) (lh) ?_
 intro σ1 s0 s8
 refine W.cndp s8 (fun hm => ?_) (fun hm => ?_)
 ·
  refine W.region ?_
  refine WL.x (X.mv (s0)) rfl ?_
  refine WL.callP2 ce69 (lh) lc (fail_ok B p e ts 4 w h) rfl (by rintro v w' ⟨rfl, rfl⟩; exact ⟨_, rfl, by omega, rfl, rfl⟩) ?_
  rintro _ _ ⟨⟩
 ·
  refine W.skip (Nx.panN Nx.n0) ?_
  exact ⟨by omega, rfl⟩
set_option maxHeartbeats 1600000 in
theorem word_ok (B p : Nat) (e : Int) (ts : List Tok) (a0 a1 a2 a3 a4 : ByteArray) (w : World) (h : PS B p e ts w) :
  Sg.RetP Tryd.prog 70 #[.pointer (some ⟨p, 0, none⟩), .agg #[.string a0, .string a1, .string a2, .string a3, .string a4]] w (fun v w' => (∃ j : Nat, wordI ts [a1, a2, a3, a4] = some j ∧ j < 4 ∧ v = .int .i64 ((j : Int) + 1)) ∧ PS B p e ts.tail w' ∧ Ch (fun j => j = p) w w') (fun v w' => wordI ts [a1, a2, a3, a4] = none ∧ v = flt (atP e ts) 20 ∧ Ch (fun j => j = p) w w') := by
 have hpB := h.1
 have hBw := h.2.1
 refine enterP1 (n := 28) (l := [.pointer (some ⟨p, 0, none⟩), .agg #[.string a0, .string a1, .string a2, .string a3, .string a4]]) Tryd.func70 rfl rfl rfl rfl ?_
 refine W.g2 0 1 (v1 := .pointer (some ⟨p, 0, none⟩)) (v2 := .agg #[.string a0, .string a1, .string a2, .string a3, .string a4]) rfl rfl ?_; intro σ s0 s1
 refine W.seq ?_
 refine W.region ?_
 refine WL.box (s1) rfl ?_
 intro w1 u0_0; have hu0_0 := u0_0.at_; have cu0_0 := u0_0.ch; have zu0_0 := u0_0.size
 refine WL.x (X.asg lc) rfl ?_
 refine WL.e2 Nx.thn 0 3 (jt2 rfl (s0)) (lt rfl (lh)) ?_
 intro σ1 s0 s3
 refine W.seq ?_
 refine W.seq ?_
 refine W.region ?_
 refine WL.x (v := .slice (some ⟨w.heap.size, 1, none⟩) 4 4) (X.slArrL (l := 1) Tryd.underlying57 el9 (s3) lc (by omega) (by omega)) rfl ?_
 refine WL.x (X.lenSl Tryd.underlying36 (lh)) rfl ?_
 refine WL.x (X.mv lc) rfl ?_
 refine WL.e4 Nx.thn 0 9 10 11 (jt2 rfl (lt rfl (s0))) (jt2 rfl (lh)) (lt rfl (lh)) (lh) ?_
 intro σ2 s0 s9 s10 s11
 refine W.block ?_
 have qo1 := s0
 have qo2 := s9
 have qo3 := s10
 -- loop 0: kept [0, 9, 10], varied [11]
 refine W.loop (G := Nat) (fun j σ' w' => (σ' 0 = σ2 0 ∧ σ' 9 = σ2 9 ∧ σ' 10 = σ2 10 ∧ True) ∧ (σ' 11 = .int .i64 (j : Int) ∧ j ≤ 4 ∧ (∀ i (hi : i < ([a1, a2, a3, a4] : List ByteArray).length), i < j → seesB ts 1 ([a1, a2, a3, a4] : List ByteArray)[i] = false) ∧ PS B p e ts w' ∧ w'.heap[w.heap.size]? = some (.cells #[.string a0, .string a1, .string a2, .string a3, .string a4] 57 (0, 0)) ∧ Ch (fun j => j = p) w w')) (fun j => 4 - j) (0) ⟨⟨rfl, rfl, rfl, trivial⟩, s11, by omega, (fun i _ h2 => absurd h2 (by omega)), h.ch0 cu0_0, hu0_0, cu0_0.trans (Ch.refl _ _) (H := fun j => j = p) (fun _ _ e => e.elim) (fun _ _ e => e)⟩ ?_
 rintro j σ3 w2 ⟨⟨f0, f9, f10, _⟩, s11, hj, hno, hps, hbx, hcl⟩
 have s0 := f0.trans qo1
 have s9 := f9.trans qo2
 have s10 := f10.trans qo3
 refine W.seq ?_
 refine W.region ?_
 refine WL.x (X.lss (s11) (s10)) rfl ?_
 refine WL.e5 Nx.thn 0 9 10 11 12 (lt rfl (s0)) (lt rfl (s9)) (lt rfl (s10)) (lt rfl (s11)) (lh) ?_
 intro σ4 s0 s9 s10 s11 s12
 refine W.seq ?_
 refine W.cndp s12 (fun hlt => ?_) (fun hlt => ?_)
 ·
  have hj4 : j < ([a1, a2, a3, a4] : List ByteArray).length := by show j < 4; omega
  have hsz := hcl.size
  refine W.skip Nx.thn ?_
  refine W.seq ?_
  refine W.block ?_
  refine W.seq ?_
  refine W.region ?_
  refine WL.x (X.mv (s11)) rfl ?_
  refine WL.x (X.indexAddr Tryd.underlying36 el9 (lt rfl (s9)) (lt rfl (s11)) (by omega) (by omega)) rfl ?_
  refine WL.x (X.load pl9 (lh) hbx (v := .string ([a1, a2, a3, a4] : List ByteArray)[j]) (by match j, hj4 with | 0, _ => rfl | 1, _ => rfl | 2, _ => rfl | 3, _ => rfl)) rfl ?_
  refine WL.x (X.asg (jt2 rfl (lh))) rfl ?_
  refine WL.x (X.asg (lt rfl (lh))) rfl ?_
  refine WL.e6 Nx.thn 0 5 6 9 10 11 (jt4 rfl (lt rfl (s0))) (lt rfl (lh)) (lh) (jt4 rfl (lt rfl (s9))) (jt4 rfl (lt rfl (s10))) (jt4 rfl (lt rfl (s11))) ?_
  intro σ5 s0 s5 s6 s9 s10 s11
  refine W.seq ?_
  refine W.region ?_
  refine WL.x (X.mv (s0)) rfl ?_
  refine WL.x (X.mv (lt rfl (s6))) rfl ?_
  refine WL.call3 ce85 (lt rfl (lh)) lc (lh) (pmay_ok B p e ts 1 ([a1, a2, a3, a4] : List ByteArray)[j] w2 hps) rfl ?_
  rintro _ w3 ⟨rfl, hps, cm⟩
  refine WL.x (X.mv (lh)) rfl ?_
  refine WL.x (X.ex2_0 (lh)) rfl ?_
  refine WL.x (X.ex2_1 (lt rfl (lh))) rfl ?_
  refine WL.alloc el80 rfl ?_
  intro w4 u4_6; have hu4_6 := u4_6.at_; have cu4_6 := u4_6.ch; have zu4_6 := u4_6.size
  refine WL.storeS (vs := ftk (mayT ts (seesB ts 1 ([a1, a2, a3, a4] : List ByteArray)[j]))) ag80 (lh) (jt2 rfl (lh)) (List.all_eq_true.2 (ftk_one _)) rfl hu4_6 (by first | decide | (simp; done)) ?_
  intro w5 us
  have cst := us.ch
  have hc4 := cu4_6.trans cst (H := fun _ => False) (fun _ _ e => e) (fun q hq e => by (try dsimp only at e); omega)
  have hcl := (hcl.trans cm (H := fun j => j = p) (fun _ _ e => e) (fun _ _ e => e)).trans hc4 (H := fun j => j = p) (fun _ _ e => e) (fun _ _ e => e.elim)
  have hps := hps.ch0 hc4
  have hbx := hc4.at0 (cm.at hbx (fun e => by (try dsimp only at e); omega))
  refine WL.x (X.asg (lt rfl (lh))) rfl ?_
  refine WL.e6 Nx.thn 0 5 8 9 10 11 (jt8 rfl (s0)) (jt8 rfl (s5)) (lh) (jt8 rfl (s9)) (jt8 rfl (s10)) (jt8 rfl (s11)) ?_
  intro σ6 s0 s5 s8 s9 s10 s11
  refine W.seq ?_
  refine W.region ?_
  refine WL.x (X.mv (s8)) rfl ?_
  refine WL.e6 Nx.thn 0 5 9 10 11 22 (lt rfl (s0)) (lt rfl (s5)) (lt rfl (s9)) (lt rfl (s10)) (lt rfl (s11)) (lh) ?_
  intro σ7 s0 s5 s9 s10 s11 s22
  refine W.cnd s22 (fun hs => ?_) (fun hs => ?_)
  ·
   refine W.seq ?_
   refine W.region ?_
   refine WL.x (X.mv (s5)) rfl ?_
   first | refine WL.x (X.add (lh) lc (by omega) (by omega)) rfl ?_ | refine WL.x (X.addw (lh) lc) rfl ?_
   refine WL.x (X.asg (lh)) rfl ?_
   refine WL.e1 Nx.thn 4 (lh) ?_
   intro σ8 s4
   refine W.ret1 (Nx.rblk (Nx.rthn (Nx.rthn (Nx.rblk (Nx.rthn (Nx.panR Nx.f1)))))) s4 ?_
   exact ⟨⟨j, wordI_some hj4 hs hno, by omega, rfl⟩, (by rw [hs] at hps; exact hps), hcl⟩
  ·
   refine W.skip (Nx.blk Nx.thn) ?_
   refine W.region ?_
   first | refine WL.x (X.add (s11) lc (by omega) (by omega)) rfl ?_ | refine WL.x (X.addw (s11) lc) rfl ?_
   refine WL.x (X.mv (lh)) rfl ?_
   refine WL.e4 Nx.thn 0 9 10 11 (jt2 rfl (s0)) (jt2 rfl (s9)) (jt2 rfl (s10)) (lh) ?_
   intro σ9 s0 s9 s10 s11
   refine ⟨j + 1, by omega, ⟨s0.trans qo1.symm, s9.trans qo2.symm, s10.trans qo3.symm, trivial⟩, s11, by omega, (fun i h1 h2 => by by_cases e : i = j; (· subst e; exact hs); (· exact hno i h1 (by omega))), (by rw [hs] at hps; exact hps), hbx, hcl⟩
 ·
  refine W.exit (Nx.xthn (Nx.xthn (Nx.xblk Nx.thn))) ?_
  refine W.seq ?_
  refine W.region ?_
  refine WL.x (X.mv (s0)) rfl ?_
  refine WL.callP2 ce69 (lh) lc (fail_ok B p e ts 20 w2 hps) rfl (by rintro v w' ⟨rfl, rfl⟩; exact ⟨_, rfl, wordI_none (fun i hi => hno i hi (by have : i < 4 := hi; omega)), rfl, hcl⟩) ?_
  rintro _ _ ⟨⟩
end Go.Proofs.YtjnkpjehpdlcbaaDoor
