/-
  A part of the walk of the program. | DERIVED: THE SHELF's CONTRACTS AT THIS DUMP, IN PLAIN WORDS (tools/lay-plain.mjs out of 'TryzShelfX.lean', which tools/lay-shelf.mjs wrote): THE SAME DECLARATIONS UNDER THE SAME NAMES: 'import', 'namespace', 'open', 'def', 'theorem' AND NOTHING ELSE: no command of the shelf's: FOR A HAND-IN. Each laying: the table of numbers ('.._ren') and one theorem, a field a fact of the dump's own or the kernel's comparison; each contract: ONE APPLICATION.
-/
import Derived.Test.YtbnllchicnmkiaaGreatDoorPl3
import Derived.Shelf.Small.Strs
import Derived.Shelf.Strconv.AtoiAll
import Derived.Shelf.Strconv.Itoa3
import Derived.Shelf.Strings.BuilderK
import Derived.Ground.NamesProg
import Derived.Test.YtbnllchicnmkiaaGreatDoorProg
section
set_option linter.unusedVariables false
set_option linter.unusedSimpArgs false
set_option maxRecDepth 100000
namespace Go.Proofs.YtbnllchicnmkiaaGreatDoor
open Go Go.RowKit Sg
theorem fd51_0 : Sg.Fld Tryz.prog 51 0 0 := ⟨_, _, _, rfl, rfl, rfl, rfl, by decide⟩
theorem pl44 : Sg.Plain Tryz.prog 44 := ⟨_, rfl, trivial⟩
theorem pl3 : Sg.Plain Tryz.prog 3 := ⟨_, rfl, trivial⟩
theorem pl9 : Sg.Plain Tryz.prog 9 := ⟨_, rfl, trivial⟩
theorem el60 : Sg.Elem Tryz.prog 60 4 (.agg #[.int .i64 0, .int .i64 0, .string ⟨#[]⟩, .int .i64 0]) 40 := ⟨_, rfl, rfl, rfl, rfl⟩
theorem fd60_0 : Sg.Fld Tryz.prog 60 0 0 := ⟨_, _, _, rfl, rfl, rfl, rfl, by decide⟩
theorem fd60_2 : Sg.Fld Tryz.prog 60 2 2 := ⟨_, _, _, rfl, rfl, rfl, rfl, by decide⟩
theorem ag60 : Sg.Aggr Tryz.prog 60 4 := ⟨⟨_, rfl, trivial⟩, _, rfl, rfl⟩
theorem el44 : Sg.Elem Tryz.prog 44 1 (.slice none 0 0) 24 := ⟨_, rfl, rfl, rfl, rfl⟩
theorem ce58 : Sg.Callee Tryz.prog 58 := ⟨_, Tryz.func58, by decide, rfl⟩
theorem bd132 : Sg.Bld Tryz.prog 132 [] [] := ⟨_, rfl, rfl, .inl ⟨_, rfl, Sg.allIn rfl, Sg.allAt (n := 0) rfl⟩⟩
theorem ce59 : Sg.Callee Tryz.prog 59 := ⟨_, Tryz.func59, by decide, rfl⟩
theorem fv60_2 : ∃ fs fd, Tryz.prog.underlying 60 = some (.struct fs) ∧ fs[2]? = some fd ∧ fd.offset = 2 ∧ Sg.Plain Tryz.prog fd.type := ⟨_, _, rfl, rfl, rfl, _, rfl, trivial⟩
theorem pl105 : Sg.Plain Tryz.prog 105 := ⟨_, rfl, trivial⟩
theorem el3 : Sg.Elem Tryz.prog 3 1 (.int .i64 0) 8 := ⟨_, rfl, rfl, rfl, rfl⟩
theorem el105 : Sg.Elem Tryz.prog 105 1 (.pointer none) 8 := ⟨_, rfl, rfl, rfl, rfl⟩
theorem fv60_3 : ∃ fs fd, Tryz.prog.underlying 60 = some (.struct fs) ∧ fs[3]? = some fd ∧ fd.offset = 3 ∧ Sg.Plain Tryz.prog fd.type := ⟨_, _, rfl, rfl, rfl, _, rfl, trivial⟩
theorem ce60 : Sg.Callee Tryz.prog 60 := ⟨_, Tryz.func60, by decide, rfl⟩
theorem ce67 : Sg.Callee Tryz.prog 67 := ⟨_, Tryz.func67, by decide, rfl⟩
theorem el81 : Sg.Elem Tryz.prog 81 12 (.agg #[.string ⟨#[]⟩, .string ⟨#[]⟩, .string ⟨#[]⟩, .string ⟨#[]⟩, .string ⟨#[]⟩, .string ⟨#[]⟩, .string ⟨#[]⟩, .string ⟨#[]⟩, .string ⟨#[]⟩, .string ⟨#[]⟩, .string ⟨#[]⟩, .string ⟨#[]⟩]) 192 := ⟨_, rfl, rfl, rfl, rfl⟩
theorem bd81 : Sg.Bld Tryz.prog 81 [0, 1, 2, 3, 4, 5, 6, 7, 8, 9, 10, 11] [.string ⟨#[]⟩, .string ⟨#[]⟩, .string ⟨#[]⟩, .string ⟨#[]⟩, .string ⟨#[]⟩, .string ⟨#[]⟩, .string ⟨#[]⟩, .string ⟨#[]⟩, .string ⟨#[]⟩, .string ⟨#[]⟩, .string ⟨#[]⟩, .string ⟨#[]⟩] := ⟨_, rfl, rfl, .inr ⟨_, _, _, rfl, rfl, rfl, Sg.allAt2 (n := 12) rfl⟩⟩
theorem ag81 : Sg.Aggr Tryz.prog 81 12 := ⟨⟨_, rfl, trivial⟩, _, rfl, rfl⟩
theorem el86 : Sg.Elem Tryz.prog 86 4 (.agg #[.string ⟨#[]⟩, .string ⟨#[]⟩, .string ⟨#[]⟩, .string ⟨#[]⟩]) 64 := ⟨_, rfl, rfl, rfl, rfl⟩
theorem bd86 : Sg.Bld Tryz.prog 86 [0, 1, 2, 3] [.string ⟨#[]⟩, .string ⟨#[]⟩, .string ⟨#[]⟩, .string ⟨#[]⟩] := ⟨_, rfl, rfl, .inr ⟨_, _, _, rfl, rfl, rfl, Sg.allAt2 (n := 4) rfl⟩⟩
theorem ag86 : Sg.Aggr Tryz.prog 86 4 := ⟨⟨_, rfl, trivial⟩, _, rfl, rfl⟩
theorem el122 : Sg.Elem Tryz.prog 122 6 (.agg #[.string ⟨#[]⟩, .string ⟨#[]⟩, .string ⟨#[]⟩, .string ⟨#[]⟩, .string ⟨#[]⟩, .string ⟨#[]⟩]) 96 := ⟨_, rfl, rfl, rfl, rfl⟩
theorem bd122 : Sg.Bld Tryz.prog 122 [0, 1, 2, 3, 4, 5] [.string ⟨#[]⟩, .string ⟨#[]⟩, .string ⟨#[]⟩, .string ⟨#[]⟩, .string ⟨#[]⟩, .string ⟨#[]⟩] := ⟨_, rfl, rfl, .inr ⟨_, _, _, rfl, rfl, rfl, Sg.allAt2 (n := 6) rfl⟩⟩
theorem ag122 : Sg.Aggr Tryz.prog 122 6 := ⟨⟨_, rfl, trivial⟩, _, rfl, rfl⟩
theorem el9 : Sg.Elem Tryz.prog 9 1 (.string ⟨#[]⟩) 16 := ⟨_, rfl, rfl, rfl, rfl⟩
theorem ce80 : Sg.Callee Tryz.prog 80 := ⟨_, Tryz.func80, by decide, rfl⟩
theorem bd143 : Sg.Bld Tryz.prog 143 [0, 1] [.int .i64 0, .int .i64 0] := ⟨_, rfl, rfl, .inr ⟨_, _, _, rfl, rfl, rfl, Sg.allAt2 (n := 2) rfl⟩⟩
theorem eg143 : Tryz.prog.eqGuardType Tryz.prog.depth 143 = false := by kernel_rfl
theorem ce94 : Sg.Callee Tryz.prog 94 := ⟨_, Tryz.func94, by decide, rfl⟩

abbrev Gtk := Int × Int × ByteArray × Int
def ftk (x : Gtk) : List Value := [.int .i64 (x.1), .int .i64 (x.2.1), .string (x.2.2.1), .int .i64 (x.2.2.2)]
theorem ftk_len : ∀ x, (ftk x).length = 4 := fun _ => rfl
theorem ftk_one : ∀ x, ∀ u ∈ ftk x, u.oneCell' = true := fun x u hu => by
  unfold ftk at hu
  simp only [List.mem_cons, List.not_mem_nil, or_false] at hu
  rcases hu with rfl | rfl | rfl | rfl <;> rfl
/-- A token of a text: its number is of 64 bits, its text no longer than the text. -/
def TokR (t : Tok) : Prop := in64 t.2.2.2 ∧ t.2.2.1.size ≤ 20000
/-- What the parser holds: the tokens that are left; B: all of it lies below. -/
def PS (B p : Nat) (ts : List Tok) (w : World) : Prop := p < B ∧ B ≤ w.heap.size ∧ (∃ v, w.heap[p]? = some (.cells #[v] 51 (0, 0)) ∧ RSl 4 (Rc ftk) (fun j => (j ≠ p ∧ j < B) ∧ ∃ cs fr, w.heap[j]? = some (.cells cs 60 fr)) w v ts) ∧ (∀ t ∈ ts, TokR t) ∧ ts.length ≤ 20000
theorem PS.own {B p : Nat} {ts : List Tok} {F : Nat → Prop} {w w' : World} (h : PS B p ts w) (c : Ch F w w') (hF : ∀ j, j < B → ¬ F j) : PS B p ts w' := by
  obtain ⟨h0, hB, ⟨v, h1, h2⟩, h3⟩ := h
  exact ⟨h0, Nat.le_trans hB c.size, ⟨v, c.at h1 (hF p h0), h2.ch (monRc _) c (fun j hj => hF j hj.1.2) (fun j hj => ⟨hj.1, hj.2.elim fun cs h => h.elim fun fr h => ⟨cs, fr, c.at h (hF j hj.1.2)⟩⟩)⟩, h3⟩
theorem PS.own2 {B p : Nat} {ts : List Tok} {F : Nat → Prop} {w w' : World} (h : PS B p ts w) (c : Ch F w w') (hp : ¬ F p) (hF : ∀ j, F j → ∃ cs T fr, w.heap[j]? = some (.cells cs T fr) ∧ T ≠ 60) : PS B p ts w' := by
  obtain ⟨h0, hB, ⟨v, h1, h2⟩, h3⟩ := h
  have hn : ∀ j, (∃ cs fr, w.heap[j]? = some (.cells cs 60 fr)) → ¬ F j := by
    rintro j ⟨cs, fr, hj⟩ e
    obtain ⟨cs', T, fr', h3, h4⟩ := hF j e
    rw [hj] at h3
    exact h4 (Obj.cells.inj (Option.some.inj h3)).2.1.symm
  exact ⟨h0, Nat.le_trans hB c.size, ⟨v, c.at h1 hp, h2.ch (monRc _) c (fun j hj => hn j hj.2) (fun j hj => ⟨hj.1, hj.2.elim fun cs h => h.elim fun fr h => ⟨cs, fr, c.at h (hn j hj.2)⟩⟩)⟩, h3⟩
theorem PS.ch0 {B p : Nat} {ts : List Tok} {w w' : World} (h : PS B p ts w) (c : Ch0 w w') : PS B p ts w' := h.own c (fun _ _ e => e)
theorem PS.len {B p : Nat} {ts : List Tok} {w : World} (h : PS B p ts w) : ts.length ≤ 20000 := h.2.2.2.2
theorem PS.hdN_ {B p : Nat} {ts : List Tok} {w : World} (h : PS B p ts w) : in64 (hdN ts) := by
  cases ts with
  | nil => exact ⟨by decide, by decide⟩
  | cons t r => exact (h.2.2.2.1 t List.mem_cons_self).1
theorem PS.hdX_ {B p : Nat} {ts : List Tok} {w : World} (h : PS B p ts w) : (hdX ts).size ≤ 20000 := by
  cases ts with
  | nil => exact Nat.zero_le _
  | cons t r => exact (h.2.2.2.1 t List.mem_cons_self).2
/-- What the parser gives up with. -/
def wrg : Value := .iface 132 (.agg #[])

theorem sees_nil (B p : Nat)  (kind : Int) (text : ByteArray) (w : World) (h : PS B p [] w) :
  Sg.Ret Tryz.prog 58 #[.pointer (some ⟨p, 0, none⟩), .int .i64 kind, .string text] w fun v w' => v = .bool (seesB [] kind text) ∧ w = w' := by
 obtain ⟨hpB, hB, ⟨v, hp, hr⟩, hG, hL⟩ := h
 obtain ⟨a, c, rfl⟩ := hr.len
 refine enter1 (n := 39) (l := [.pointer (some ⟨p, 0, none⟩), .int .i64 kind, .string text]) Tryz.func58 rfl rfl rfl rfl ?_
 refine W.g3 0 1 2 (v1 := .pointer (some ⟨p, 0, none⟩)) (v2 := .int .i64 kind) (v3 := .string text) rfl rfl rfl ?_; intro σ s0 s1 s2
 refine W.seq ?_
 refine W.region ?_
 refine WL.x (X.asg lc) rfl ?_
 refine WL.e3 Nx.thn 0 1 2 (lt rfl (s0)) (lt rfl (s1)) (lt rfl (s2)) ?_
 intro σ1 s0 s1 s2
 refine W.seq ?_
 refine W.region ?_
 refine WL.x (X.mv (s0)) rfl ?_
 refine WL.x (X.nilck (lh)) rfl ?_
 refine WL.x (X.fieldAddr fd51_0 (lh)) rfl ?_
 refine WL.x (X.load pl44 (lh) (by assumption) (by rfl)) rfl ?_
 refine WL.x (X.lenSl Tryz.underlying44 (lh)) rfl ?_
 refine WL.x (X.gtr (lh) lc) rfl ?_
 refine WL.x (X.mv (lh)) rfl ?_
 refine WL.no rfl rfl (lh) (decide_eq_false (by simp)) rfl ?_
 refine WL.no rfl rfl (lt rfl (lh)) (decide_eq_false (by simp)) rfl ?_
 refine WL.no rfl rfl (jt2 rfl (lh)) (decide_eq_false (by simp)) rfl ?_
 refine WL.no rfl rfl (jt2 rfl (lt rfl (lh))) (decide_eq_false (by simp)) rfl ?_
 refine WL.no rfl rfl (jt4 rfl (lh)) (decide_eq_false (by simp)) rfl ?_
 refine WL.no rfl rfl (jt4 rfl (lt rfl (lh))) (decide_eq_false (by simp)) rfl ?_
 refine WL.no rfl rfl (jt4 rfl (jt2 rfl (lh))) (decide_eq_false (by simp)) rfl ?_
 refine WL.no rfl rfl (jt4 rfl (jt2 rfl (lt rfl (lh)))) (decide_eq_false (by simp)) rfl ?_
 refine WL.no rfl rfl (jt8 rfl (lh)) (decide_eq_false (by simp)) rfl ?_
 refine WL.x (X.pickF (jt8 rfl (lt rfl (lh))) (decide_eq_false (by simp)) lc) rfl ?_
 refine WL.x (X.mv (lh)) rfl ?_
 refine WL.no rfl rfl (lh) rfl rfl ?_
 refine WL.no rfl rfl (lt rfl (lh)) rfl rfl ?_
 refine WL.no rfl rfl (jt2 rfl (lh)) rfl rfl ?_
 refine WL.nou rfl (lh) rfl ?_
 refine WL.nou rfl (lt rfl (lh)) rfl ?_
 refine WL.nou rfl (jt2 rfl (lh)) rfl ?_
 refine WL.nou rfl (jt2 rfl (lt rfl (lh))) rfl ?_
 refine WL.nou rfl (jt4 rfl (lh)) rfl ?_
 refine WL.nou rfl (jt4 rfl (lt rfl (lh))) rfl ?_
 refine WL.nou rfl (jt4 rfl (jt2 rfl (lh))) rfl ?_
 refine WL.nou rfl (jt4 rfl (jt2 rfl (lt rfl (lh)))) rfl ?_
 refine WL.nou rfl (jt8 rfl (lh)) rfl ?_
 refine WL.no rfl rfl (jt8 rfl (jt4 rfl (lh))) rfl rfl ?_
 refine WL.x (X.pickF (jt8 rfl (jt4 rfl (lt rfl (lh)))) rfl lc) rfl ?_
 refine WL.x (X.asg (lh)) rfl ?_
 refine WL.e1 Nx.thn 6 (lh) ?_
 intro σ2 s6
 refine W.ret1 Nx.f1 s6 ?_
 exact ⟨rfl, rfl⟩
theorem sees_cons (B p : Nat) (tk : Tok) (r : List Tok) (kind : Int) (text : ByteArray) (w : World) (h : PS B p (tk :: r) w) :
  Sg.Ret Tryz.prog 58 #[.pointer (some ⟨p, 0, none⟩), .int .i64 kind, .string text] w fun v w' => v = .bool (seesB (tk :: r) kind text) ∧ w = w' := by
 obtain ⟨hpB, hB, ⟨v, hp, hr⟩, hG, hL⟩ := h
 obtain ⟨a, c, rfl⟩ := hr.len
 obtain ⟨b1, o1, cs1, T1, fr1, rfl, hm1, he1, -, hk1⟩ := hr.get (k := 0) (by simp)
 have hlen : 0 < (tk :: r).length := by simp
 refine enter1 (n := 39) (l := [.pointer (some ⟨p, 0, none⟩), .int .i64 kind, .string text]) Tryz.func58 rfl rfl rfl rfl ?_
 refine W.g3 0 1 2 (v1 := .pointer (some ⟨p, 0, none⟩)) (v2 := .int .i64 kind) (v3 := .string text) rfl rfl rfl ?_; intro σ s0 s1 s2
 refine W.seq ?_
 refine W.region ?_
 refine WL.x (X.asg lc) rfl ?_
 refine WL.e3 Nx.thn 0 1 2 (lt rfl (s0)) (lt rfl (s1)) (lt rfl (s2)) ?_
 intro σ1 s0 s1 s2
 refine W.seq ?_
 refine W.region ?_
 refine WL.x (X.mv (s0)) rfl ?_
 refine WL.x (X.nilck (lh)) rfl ?_
 refine WL.x (X.fieldAddr fd51_0 (lh)) rfl ?_
 refine WL.x (X.load pl44 (lh) (by assumption) (by rfl)) rfl ?_
 refine WL.x (X.lenSl Tryz.underlying44 (lh)) rfl ?_
 refine WL.x (X.gtr (lh) lc) rfl ?_
 refine WL.x (X.mv (lh)) rfl ?_
 refine WL.yes rfl rfl (lh) (decide_eq_true (by simp)) ?_
 refine WL.x (X.mv (jt4 rfl (jt2 rfl (lt rfl (s0))))) rfl ?_
 refine WL.yes rfl rfl (lt rfl (lh)) (decide_eq_true (by simp)) ?_
 refine WL.x (X.nilck (lh)) rfl ?_
 refine WL.yes rfl rfl (jt2 rfl (lh)) (decide_eq_true (by simp)) ?_
 refine WL.x (X.fieldAddr fd51_0 (lh)) rfl ?_
 refine WL.yes rfl rfl (jt2 rfl (lt rfl (lh))) (decide_eq_true (by simp)) ?_
 refine WL.x (X.load pl44 (lh) (by assumption) (by rfl)) rfl ?_
 refine WL.yes rfl rfl (jt4 rfl (lh)) (decide_eq_true (by simp)) ?_
 refine WL.x (X.indexAddr Tryz.underlying44 el60 (lh) lc (by omega) (by omega)) rfl ?_
 refine WL.yes rfl rfl (jt4 rfl (lt rfl (lh))) (decide_eq_true (by simp)) ?_
 refine WL.x (X.fieldAddr fd60_0 (lh)) rfl ?_
 refine WL.yes rfl rfl (jt4 rfl (jt2 rfl (lh))) (decide_eq_true (by simp)) ?_
 refine WL.x (X.load pl3 (lh) hm1 (v := .int .i64 tk.1) (hk1 0 (by decide))) rfl ?_
 refine WL.yes rfl rfl (jt4 rfl (jt2 rfl (lt rfl (lh)))) (decide_eq_true (by simp)) ?_
 refine WL.x (X.mv (jt8 rfl (jt4 rfl (jt2 rfl (s1))))) rfl ?_
 refine WL.yes rfl rfl (jt8 rfl (lh)) (decide_eq_true (by simp)) ?_
 refine WL.x (X.eql (lt rfl (lh)) (lh)) rfl ?_
 refine WL.x (X.pickT (jt8 rfl (lt rfl (lh))) (decide_eq_true (by simp)) (lh)) rfl ?_
 refine WL.x (X.mv (lh)) rfl ?_
 refine WL.splitp (lh) (fun h1 => ?_) (fun h1 => ?_)
 ·
  refine WL.yes rfl rfl (lh) (decide_eq_true h1) ?_
  refine WL.x (X.mv (jt8 rfl (jt8 rfl (jt2 rfl (s2))))) rfl ?_
  refine WL.yes rfl rfl (lt rfl (lh)) (decide_eq_true h1) ?_
  refine WL.x (X.eqlS (lh) lc) rfl ?_
  refine WL.yes rfl rfl (jt2 rfl (lh)) (decide_eq_true h1) ?_
  refine WL.x (X.mv (lh)) rfl ?_
  refine WL.splitp (lh) (fun h2 => ?_) (fun h2 => ?_)
  ·
   refine WL.no rfl rfl (lh) (decide_eq_true h2) rfl ?_
   refine WL.no rfl rfl (lt rfl (lh)) (decide_eq_true h2) rfl ?_
   refine WL.no rfl rfl (jt2 rfl (lh)) (decide_eq_true h2) rfl ?_
   refine WL.no rfl rfl (jt2 rfl (lt rfl (lh))) (decide_eq_true h2) rfl ?_
   refine WL.no rfl rfl (jt4 rfl (lh)) (decide_eq_true h2) rfl ?_
   refine WL.no rfl rfl (jt4 rfl (lt rfl (lh))) (decide_eq_true h2) rfl ?_
   refine WL.no rfl rfl (jt4 rfl (jt2 rfl (lh))) (decide_eq_true h2) rfl ?_
   refine WL.no rfl rfl (jt4 rfl (jt2 rfl (lt rfl (lh)))) (decide_eq_true h2) rfl ?_
   refine WL.no rfl rfl (jt8 rfl (lh)) (decide_eq_true h2) rfl ?_
   refine WL.yes rfl rfl (jt8 rfl (jt4 rfl (lh))) (decide_eq_true h1) ?_
   refine WL.x (X.pickT (jt8 rfl (lt rfl (lh))) (decide_eq_true h2) lc) rfl ?_
   refine WL.x (X.pickT (jt8 rfl (jt4 rfl (lt rfl (lh)))) (decide_eq_true h1) (lh)) rfl ?_
   refine WL.x (X.asg (lh)) rfl ?_
   refine WL.e1 Nx.thn 6 (lh) ?_
   intro σ2 s6
   refine W.ret1 Nx.f1 s6 ?_
   exact ⟨congrArg Value.bool (by unfold seesB; simp [*]), rfl⟩
  ·
   refine WL.yes rfl rfl (lh) (decide_eq_false h2) ?_
   refine WL.x (X.mv (jt8 rfl (jt8 rfl (jt4 rfl (lt rfl (s0)))))) rfl ?_
   refine WL.yes rfl rfl (lt rfl (lh)) (decide_eq_false h2) ?_
   refine WL.x (X.nilck (lh)) rfl ?_
   refine WL.yes rfl rfl (jt2 rfl (lh)) (decide_eq_false h2) ?_
   refine WL.x (X.fieldAddr fd51_0 (lh)) rfl ?_
   refine WL.yes rfl rfl (jt2 rfl (lt rfl (lh))) (decide_eq_false h2) ?_
   refine WL.x (X.load pl44 (lh) (by assumption) (by rfl)) rfl ?_
   refine WL.yes rfl rfl (jt4 rfl (lh)) (decide_eq_false h2) ?_
   refine WL.x (X.indexAddr Tryz.underlying44 el60 (lh) lc (by omega) (by omega)) rfl ?_
   refine WL.yes rfl rfl (jt4 rfl (lt rfl (lh))) (decide_eq_false h2) ?_
   refine WL.x (X.fieldAddr fd60_2 (lh)) rfl ?_
   refine WL.yes rfl rfl (jt4 rfl (jt2 rfl (lh))) (decide_eq_false h2) ?_
   refine WL.x (X.load pl9 (lh) hm1 (v := .string tk.2.2.1) (hk1 2 (by decide))) rfl ?_
   refine WL.yes rfl rfl (jt4 rfl (jt2 rfl (lt rfl (lh)))) (decide_eq_false h2) ?_
   refine WL.x (X.mv (jt8 rfl (jt8 rfl (jt8 rfl (jt4 rfl (s2)))))) rfl ?_
   refine WL.yes rfl rfl (jt8 rfl (lh)) (decide_eq_false h2) ?_
   refine WL.x (X.eqlS (lt rfl (lh)) (lh)) rfl ?_
   refine WL.yes rfl rfl (jt8 rfl (jt4 rfl (lh))) (decide_eq_true h1) ?_
   refine WL.x (X.pickF (jt8 rfl (lt rfl (lh))) (decide_eq_false h2) (lh)) rfl ?_
   refine WL.x (X.pickT (jt8 rfl (jt4 rfl (lt rfl (lh)))) (decide_eq_true h1) (lh)) rfl ?_
   refine WL.x (X.asg (lh)) rfl ?_
   refine WL.e1 Nx.thn 6 (lh) ?_
   intro σ3 s6
   refine W.ret1 Nx.f1 s6 ?_
   exact ⟨congrArg Value.bool (by unfold seesB; simp [*]), rfl⟩
 ·
  refine WL.no rfl rfl (lh) (decide_eq_false h1) rfl ?_
  refine WL.no rfl rfl (lt rfl (lh)) (decide_eq_false h1) rfl ?_
  refine WL.no rfl rfl (jt2 rfl (lh)) (decide_eq_false h1) rfl ?_
  refine WL.nou rfl (lh) rfl ?_
  refine WL.nou rfl (lt rfl (lh)) rfl ?_
  refine WL.nou rfl (jt2 rfl (lh)) rfl ?_
  refine WL.nou rfl (jt2 rfl (lt rfl (lh))) rfl ?_
  refine WL.nou rfl (jt4 rfl (lh)) rfl ?_
  refine WL.nou rfl (jt4 rfl (lt rfl (lh))) rfl ?_
  refine WL.nou rfl (jt4 rfl (jt2 rfl (lh))) rfl ?_
  refine WL.nou rfl (jt4 rfl (jt2 rfl (lt rfl (lh)))) rfl ?_
  refine WL.nou rfl (jt8 rfl (lh)) rfl ?_
  refine WL.no rfl rfl (jt8 rfl (jt4 rfl (lh))) (decide_eq_false h1) rfl ?_
  refine WL.x (X.pickF (jt8 rfl (jt4 rfl (lt rfl (lh)))) (decide_eq_false h1) lc) rfl ?_
  refine WL.x (X.asg (lh)) rfl ?_
  refine WL.e1 Nx.thn 6 (lh) ?_
  intro σ4 s6
  refine W.ret1 Nx.f1 s6 ?_
  exact ⟨congrArg Value.bool (by unfold seesB; simp [*]), rfl⟩

theorem sees_ok (B p : Nat) (ts : List Tok) (kind : Int) (text : ByteArray) (w : World) (h : PS B p ts w) : Sg.Ret Tryz.prog 58 #[.pointer (some ⟨p, 0, none⟩), .int .i64 kind, .string text] w fun v w' => v = .bool (seesB ts kind text) ∧ w = w' := by
  cases ts with
  | nil => exact sees_nil B p kind text w h
  | cons tk r => exact sees_cons B p tk r kind text w h

set_option maxHeartbeats 800000 in
theorem take_ok (B p : Nat) (ts : List Tok) (kind : Int) (text : ByteArray) (w : World) (h : PS B p ts w) :
  Sg.RetP Tryz.prog 59 #[.pointer (some ⟨p, 0, none⟩), .int .i64 kind, .string text] w (fun v w' => ∃ tk r, ts = tk :: r ∧ seesB ts kind text = true ∧ v = .agg (ftk tk).toArray ∧ PS B p r w' ∧ Ch (fun j => j = p) w w') (fun v w' => seesB ts kind text = false ∧ v = wrg ∧ Ch0 w w') := by
 refine enterPG (n := 30) (l := [.pointer (some ⟨p, 0, none⟩), .int .i64 kind, .string text]) Tryz.func59 rfl rfl rfl rfl ?_
 refine W.g3 0 1 2 (v1 := .pointer (some ⟨p, 0, none⟩)) (v2 := .int .i64 kind) (v3 := .string text) rfl rfl rfl ?_; intro σ s0 s1 s2
 refine W.seq ?_
 refine W.region ?_
 refine WL.alloc el60 rfl ?_
 intro w1 u0_0; have hu0_0 := u0_0.at_; have cu0_0 := u0_0.ch; have zu0_0 := u0_0.size
 refine WL.e4 Nx.thn 0 1 2 6 (lt rfl (s0)) (lt rfl (s1)) (lt rfl (s2)) (lh) ?_
 intro σ1 s0 s1 s2 s6
 refine W.seq ?_
 refine W.seq ?_
 refine W.region ?_
 refine WL.x (X.mv (s0)) rfl ?_
 refine WL.x (X.mv (lt rfl (s1))) rfl ?_
 refine WL.x (X.mv (jt2 rfl (s2))) rfl ?_
 refine WL.call3 ce58 (jt2 rfl (lh)) (lt rfl (lh)) (lh) (sees_ok B p ts kind text w1 (h.ch0 cu0_0)) rfl ?_
 rintro _ _ ⟨rfl, rfl⟩
 refine WL.x (X.not (lh)) rfl ?_
 refine WL.e3 Nx.thn 0 6 12 (jt4 rfl (lt rfl (s0))) (jt4 rfl (lt rfl (s6))) (lh) ?_
 intro σ2 s0 s6 s12
 refine W.cnd s12 (fun hs => ?_) (fun hs => ?_)
 ·
  refine W.region ?_
  refine WL.x (X.build bd132 pnil rfl (rfl : _ = [])) rfl ?_
  refine WL.x (X.iface Tryz.underlying132 trivial (lh)) rfl ?_
  refine WL.panic (lh) ?_
  exact ⟨_, rfl, by simpa using hs, rfl, cu0_0⟩
 ·
  have hsb : seesB ts kind text = true := by simpa using hs
  obtain ⟨tk, r, rfl⟩ : ∃ tk r, ts = tk :: r := by
    cases ts with
    | nil => cases hsb
    | cons tk r => exact ⟨tk, r, rfl⟩
  obtain ⟨hpB, hB, ⟨v, hp, hr⟩, hG, hL⟩ := h
  have hlw := lt_of_blk hp
  have hp := cu0_0.at0 hp
  have hr := hr.ch0 (monRc _) cu0_0
  obtain ⟨a, c, rfl⟩ := hr.len
  obtain ⟨b1, o1, cs1, T1, fr1, rfl, hm1, he1, hbp, hk1⟩ := hr.get (k := 0) (by simp)
  have hlen : 0 < (tk :: r).length := by simp
  have hlp := lt_of_blk hp
  refine W.skip Nx.thn ?_
  refine W.seq ?_
  refine W.region ?_
  refine WL.x (X.mv (s0)) rfl ?_
  refine WL.x (X.nilck (lh)) rfl ?_
  refine WL.x (X.fieldAddr fd51_0 (lh)) rfl ?_
  refine WL.x (X.load pl44 (lh) (by assumption) (by rfl)) rfl ?_
  refine WL.x (X.indexAddr Tryz.underlying44 el60 (lh) lc (by omega) (by omega)) rfl ?_
  refine WL.x (X.loadS (vs := ftk tk) ag60 (lh) hm1 he1 (fun i hi => hk1 i hi)) rfl ?_
  refine WL.alloc el60 rfl ?_
  intro w2 u3_6; have hu3_6 := u3_6.at_; have cu3_6 := u3_6.ch; have zu3_6 := u3_6.size
  refine WL.storeS (vs := ftk tk) ag60 (lh) (lt rfl (lh)) (List.all_eq_true.2 (ftk_one tk)) rfl hu3_6 (by decide) ?_
  intro w3 us
  have htk := show (w3.heap[(_ : Nat)]? = some (Obj.cells (ftk tk).toArray 60 (0, 0))) from us.at_
  have cst := us.ch
  have hc3 := cu3_6.trans cst (H := fun _ => False) (fun _ _ e => e) (fun q hq e => by (try dsimp only at e); omega)
  have hp := hc3.at0 hp
  have hr := hr.ch0 (monRc _) hc3
  have hu0 := hc3.at0 hu0_0
  refine WL.e3 Nx.thn 0 6 7 (jt4 rfl (jt2 rfl (lt rfl (s0)))) (jt4 rfl (jt2 rfl (lt rfl (s6)))) (lh) ?_
  intro σ3 s0 s6 s7
  refine W.seq ?_
  refine W.region ?_
  refine WL.x (X.mv (s0)) rfl ?_
  refine WL.x (X.mv (lt rfl (s0))) rfl ?_
  refine WL.x (X.nilck (lh)) rfl ?_
  refine WL.x (X.fieldAddr fd51_0 (lh)) rfl ?_
  refine WL.x (X.load pl44 (lh) (by assumption) (by rfl)) rfl ?_
  obtain ⟨ad, had⟩ : ∃ ad, ad = (if (c : Int) = 1 then (⟨b1, o1, none⟩ : Addr) else (⟨b1, o1, none⟩ : Addr).add (1 * 4)) := ⟨_, rfl⟩
  refine WL.x (v := .slice (some ad) r.length (c - 1)) (by rw [had, show r.length = (((tk :: r).length : Int) - 1).toNat by simp, show c - 1 = ((c : Int) - 1).toNat by omega]; exact X.slL Tryz.underlying44 el60 (lh) lc (by omega) (by omega)) rfl ?_
  refine WL.x (X.nilck (jt4 rfl (lt rfl (lh)))) rfl ?_
  refine WL.x (X.fieldAddr fd51_0 (lh)) rfl ?_
  refine WL.store el44 (lh) (jt2 rfl (lh)) rfl hp (show 0 + 0 < 1 by decide) ?_
  intro w4 us
  have hp2 : w4.heap[p]? = some (.cells #[.slice (some ad) r.length (c - 1)] 51 (0, 0)) := us.at_
  have csp := us.ch
  have hr2 := (rsl_tail hr ad had).ch (monRc _) csp (fun j hj e => hj.1.1 e) (fun j hj => hj)
  have htk := csp.at htk (fun e => by (try dsimp only at e); omega)
  have hu0 := csp.at hu0 (fun e => by (try dsimp only at e); omega)
  have hcp : Ch (fun j => j = p) w w4 := (cu0_0.trans0 hc3).trans csp (H := fun j => j = p) (fun _ _ e => e.elim) (fun _ _ e => e)
  refine WL.e2 Nx.thn 6 7 (jt8 rfl (s6)) (jt8 rfl (s7)) ?_
  intro σ4 s6 s7
  refine W.seq ?_
  refine W.region ?_
  refine WL.x (X.loadBox (vs := ftk tk) ag60 (s7) htk rfl) rfl ?_
  refine WL.storeS (vs := ftk tk) ag60 (lt rfl (s6)) (lh) (List.all_eq_true.2 (ftk_one tk)) rfl hu0 (by decide) ?_
  intro w5 us
  have hfin := show (w5.heap[(_ : Nat)]? = some (Obj.cells (ftk tk).toArray 60 (0, 0))) from us.at_
  have csr := us.ch
  refine WL.e1 Nx.thn 6 (lt rfl (s6)) ?_
  intro σ5 s6
  refine W.retG (Nx.panR Nx.fG) ⟨[_], (.cell s6 (by assumption) (by exact ag60) .nil), ?_⟩
  refine ⟨tk, r, rfl, hsb, rfl, ?_, hcp.trans csr (H := fun j => j = p) (fun _ _ e => e) (fun q hq e => by (try dsimp only at e); omega)⟩
  have hsz1 := hcp.size
  have hsz2 := csr.size
  exact ⟨hpB, by omega, ⟨_, csr.at hp2 (fun e => by (try dsimp only at e); omega), hr2.ch (monRc _) csr (fun j hj e => by have := hj.1.2; (try dsimp only at e); omega) (fun j hj => ⟨hj.1, hj.2.elim fun cs h => h.elim fun fr h => ⟨cs, fr, (hcp.trans csr (H := fun j => j = p) (fun _ _ e => e) (fun q hq e => by (try dsimp only at e); omega)).at h (fun e => hj.1.1 e)⟩⟩)⟩, fun t ht => hG t (List.mem_cons_of_mem _ ht), by rw [List.length_cons] at hL; omega⟩
theorem word_ok (B p : Nat) (ts : List Tok) (s : ByteArray) (w : World) (h : PS B p ts w) :
  Sg.RetP Tryz.prog 60 #[.pointer (some ⟨p, 0, none⟩), .string s] w (fun v w' => seesB ts 1 s = true ∧ v = .string (hdX ts) ∧ PS B p ts.tail w' ∧ Ch (fun j => j = p) w w') (fun v w' => seesB ts 1 s = false ∧ v = wrg ∧ Ch0 w w') := by
 refine enterP1 (n := 9) (l := [.pointer (some ⟨p, 0, none⟩), .string s]) Tryz.func60 rfl rfl rfl rfl ?_
 refine W.g2 0 1 (v1 := .pointer (some ⟨p, 0, none⟩)) (v2 := .string s) rfl rfl ?_; intro σ s0 s1
 refine W.seq ?_
 refine W.region ?_
 refine WL.x (X.asg lc) rfl ?_
 refine WL.e2 Nx.thn 0 1 (lt rfl (s0)) (lt rfl (s1)) ?_
 intro σ1 s0 s1
 refine W.seq ?_
 refine W.region ?_
 refine WL.x (X.mv (s0)) rfl ?_
 refine WL.x (X.mv (lt rfl (s1))) rfl ?_
 refine WL.callP3 ce59 (lt rfl (lh)) lc (lh) (take_ok B p ts 1 s w h) rfl (by rintro v w' ⟨hn, rfl, cx⟩; exact ⟨_, rfl, hn, rfl, cx⟩) ?_
 rintro _ w1 ⟨tk, r, rfl, hs, rfl, hps, ct⟩
 refine WL.x (X.field fv60_2 (lh) (by rfl)) rfl ?_
 refine WL.x (X.asg (lh)) rfl ?_
 refine WL.e1 Nx.thn 4 (lh) ?_
 intro σ2 s4
 refine W.ret1 (Nx.panR Nx.f1) s4 ?_
 exact ⟨hs, rfl, hps, ct⟩
theorem mark_ok (B p : Nat) (ts : List Tok) (s : ByteArray) (w : World) (h : PS B p ts w) :
  Sg.RetP Tryz.prog 67 #[.pointer (some ⟨p, 0, none⟩), .string s] w (fun v w' => seesB ts 3 s = true ∧ PS B p ts.tail w' ∧ Ch (fun j => j = p) w w') (fun v w' => seesB ts 3 s = false ∧ v = wrg ∧ Ch0 w w') := by
 refine enterP0 (n := 7) (l := [.pointer (some ⟨p, 0, none⟩), .string s]) Tryz.func67 rfl rfl rfl rfl ?_
 refine W.g2 0 1 (v1 := .pointer (some ⟨p, 0, none⟩)) (v2 := .string s) rfl rfl ?_; intro σ s0 s1
 refine W.region ?_
 refine WL.x (X.mv (s0)) rfl ?_
 refine WL.x (X.mv (lt rfl (s1))) rfl ?_
 refine WL.callP3 ce59 (lt rfl (lh)) lc (lh) (take_ok B p ts 3 s w h) rfl (by rintro v w' ⟨hn, rfl, cx⟩; exact ⟨_, rfl, hn, rfl, cx⟩) ?_
 rintro _ w1 ⟨tk, r, rfl, hs, rfl, hps, ct⟩
 refine WL.e0 (Nx.panN Nx.n0)  ?_
 intro σ1 
 exact ⟨hs, hps, ct⟩

def numsP : Nat → PR (List Int)
  | 0 => pret []
  | n + 1 => pbind pnum fun z => pbind (numsP n) fun l => pret (z :: l)
/-- Numbers laid at places of a block. -/
def putAll (cs : Array Value) : List Nat → List Int → Array Value
  | o :: os, z :: l => putAll (cs.setIfInBounds o (.int .i64 z)) os l
  | _, _ => cs
section
variable {β : Type} {ts r : List Tok} {l : List Int}
theorem nums_zero (h : numsP 0 ts = some (l, r)) : l = [] ∧ r = ts := by
  have h : some (([] : List Int), ts) = some (l, r) := h
  injection h with h; injection h with h1 h2
  exact ⟨h1.symm, h2.symm⟩
theorem nums_succ {n : Nat} (h : numsP (n + 1) ts = some (l, r)) : ∃ a r1 l1, pnum ts = some (a, r1) ∧ numsP n r1 = some (l1, r) ∧ l = a :: l1 := by
  have h : pbind pnum (fun z => pbind (numsP n) fun l => pret (z :: l)) ts = some (l, r) := h
  obtain ⟨a, r1, h1, h2⟩ := Sg.bind_some h
  obtain ⟨l1, r2, h3, h4⟩ := Sg.bind_some h2
  have h4 : some (a :: l1, r2) = some (l, r) := h4
  injection h4 with h4; injection h4 with h5 h6
  subst h6
  exact ⟨a, r1, l1, h1, h3, h5.symm⟩
theorem num1_go (h : numsP 1 ts = some (l, r)) : ∃ a, l = [a] ∧ ∀ (K : Int → PR β), pbind pnum K ts = K a r := by
  obtain ⟨a, r1, l1, h1, h2, rfl⟩ := nums_succ h
  obtain ⟨rfl, rfl⟩ := nums_zero h2
  exact ⟨a, rfl, fun K => bind_eq h1⟩
theorem num2_go (h : numsP 2 ts = some (l, r)) : ∃ a b, l = [a, b] ∧ ∀ (K : Int → Int → PR β), pbind pnum (fun a => pbind pnum fun b => K a b) ts = K a b r := by
  obtain ⟨a, r1, l1, h1, h2, rfl⟩ := nums_succ h
  obtain ⟨b, hb, h3⟩ := num1_go (β := β) h2
  exact ⟨a, b, by rw [hb], fun K => by rw [bind_eq h1]; exact h3 (K a)⟩
theorem num3_go (h : numsP 3 ts = some (l, r)) : ∃ a b c, l = [a, b, c] ∧ ∀ (K : Int → Int → Int → PR β), pbind pnum (fun a => pbind pnum fun b => pbind pnum fun c => K a b c) ts = K a b c r := by
  obtain ⟨a, r1, l1, h1, h2, rfl⟩ := nums_succ h
  obtain ⟨b, c, hb, h3⟩ := num2_go (β := β) h2
  exact ⟨a, b, c, by rw [hb], fun K => by rw [bind_eq h1]; exact h3 (K a)⟩
theorem nums_none {n : Nat} (h : numsP (n + 1) ts = none) : pnum ts = none ∨ ∃ a r, pnum ts = some (a, r) ∧ numsP n r = none := by
  cases h1 : pnum ts with
  | none => exact .inl rfl
  | some y =>
    obtain ⟨a, r⟩ := y
    refine .inr ⟨a, r, rfl, ?_⟩
    have h : pbind pnum (fun z => pbind (numsP n) fun l => pret (z :: l)) ts = none := h
    rw [bind_eq h1] at h
    cases h2 : numsP n r with
    | none => rfl
    | some z => obtain ⟨l, r2⟩ := z; rw [bind_eq h2] at h; cases h
theorem num1_no (h : numsP 1 ts = none) (K : Int → PR β) : pbind pnum K ts = none := by
  rcases nums_none h with h | ⟨a, r, h1, h2⟩
  · exact bind_none h
  · cases h2
theorem num2_no (h : numsP 2 ts = none) (K : Int → Int → PR β) : pbind pnum (fun a => pbind pnum fun b => K a b) ts = none := by
  rcases nums_none h with h | ⟨a, r, h1, h2⟩
  · exact bind_none h
  · rw [bind_eq h1]; exact num1_no h2 _
theorem num3_no (h : numsP 3 ts = none) (K : Int → Int → Int → PR β) : pbind pnum (fun a => pbind pnum fun b => pbind pnum fun c => K a b c) ts = none := by
  rcases nums_none h with h | ⟨a, r, h1, h2⟩
  · exact bind_none h
  · rw [bind_eq h1]; exact num2_no h2 _
end
set_option maxHeartbeats 800000 in
theorem numbers_ok (B p g ob c n OT : Nat) (cs : Array Value) (os : List Nat) (ts : List Tok) (w : World) (h : PS B p ts w) (hn : n = os.length) (hg : w.heap[g]? = some (.cells (os.map fun o => Value.pointer (some ⟨ob, o, none⟩)).toArray 105 (0, 0))) (hob : w.heap[ob]? = some (.cells cs OT (0, 0))) (hB : B ≤ ob) (hgo : ob < g) (hos : os.all (fun o => decide (o < cs.size)) = true) (hl9 : os.length ≤ 9) :
  Sg.RetP Tryz.prog 61 #[.pointer (some ⟨p, 0, none⟩), .slice (some ⟨g, 0, none⟩) n c] w (fun v w' => ∃ l r, numsP os.length ts = some (l, r) ∧ w'.heap[ob]? = some (.cells (putAll cs os l) OT (0, 0)) ∧ (∀ z ∈ l, in64 z) ∧ PS B p r w' ∧ Ch (fun j => j = p ∨ j = ob) w w') (fun v w' => numsP os.length ts = none ∧ v = wrg ∧ Ch (fun j => j = p ∨ j = ob) w w') := by
 subst hn
 have hpB := h.1
 have hBw := h.2.1
 refine enterP0 (n := 18) (l := [.pointer (some ⟨p, 0, none⟩), .slice (some ⟨g, 0, none⟩) os.length c]) Tryz.func61 rfl rfl rfl rfl ?_
 refine W.g2 0 1 (v1 := .pointer (some ⟨p, 0, none⟩)) (v2 := .slice (some ⟨g, 0, none⟩) os.length c) rfl rfl ?_; intro σ s0 s1
 refine W.seq ?_
 refine W.region ?_
 refine WL.x (X.mv (s1)) rfl ?_
 refine WL.x (X.lenSl Tryz.underlying133 (lh)) rfl ?_
 refine WL.x (X.mv lc) rfl ?_
 refine WL.e4 Nx.thn 0 6 7 8 (jt2 rfl (lt rfl (s0))) (jt2 rfl (lh)) (lt rfl (lh)) (lh) ?_
 intro σ1 s0 s6 s7 s8
 refine W.block ?_
 have qo1 := s0
 have qo2 := s6
 have qo3 := s7
 -- loop 0: kept [0, 6, 7], varied [8]
 refine W.loop (G := Nat) (fun k σ' w' => (σ' 0 = σ1 0 ∧ σ' 6 = σ1 6 ∧ σ' 7 = σ1 7 ∧ True) ∧ (∃ csk l rr, σ' 8 = .int .i64 (k : Int) ∧ k ≤ os.length ∧ l.length = k ∧ w'.heap[ob]? = some (.cells csk OT (0, 0)) ∧ csk.size = cs.size ∧ (∀ l2, putAll cs os (l ++ l2) = putAll csk (os.drop k) l2) ∧ numsP os.length ts = pbind (numsP (os.length - k)) (fun l2 => pret (l ++ l2)) rr ∧ (∀ z ∈ l, in64 z) ∧ PS B p rr w' ∧ Ch (fun j => j = p ∨ j = ob) w w')) (fun k => os.length - k) (0) ⟨⟨rfl, rfl, rfl, trivial⟩, cs, [], ts, s8, by omega, rfl, hob, rfl, (fun _ => rfl), (by cases hq : numsP os.length ts with | none => exact (bind_none hq).symm | some y => obtain ⟨l9, r9⟩ := y; exact (bind_eq (f := fun l2 => pret ([] ++ l2)) hq).symm), (fun _ h => by cases h), h, Ch.refl _ _⟩ ?_
 rintro k σ2 w1 ⟨⟨f0, f6, f7, _⟩, csk, l, rr, s8, hk, hll, hob2, hcz, hpa, hgo2, hin, hps, hcl⟩
 have s0 := f0.trans qo1
 have s6 := f6.trans qo2
 have s7 := f7.trans qo3
 refine W.seq ?_
 refine W.region ?_
 refine WL.x (X.lss (s8) (s7)) rfl ?_
 refine WL.e5 Nx.thn 0 6 7 8 9 (lt rfl (s0)) (lt rfl (s6)) (lt rfl (s7)) (lt rfl (s8)) (lh) ?_
 intro σ3 s0 s6 s7 s8 s9
 refine W.seq ?_
 refine W.cndp s9 (fun hlt => ?_) (fun hlt => ?_)
 ·
  have hkl : k < os.length := by omega
  have hg2 := hcl.at hg (fun e => by (try dsimp only at e); omega)
  have hdr : os.drop k = os[k] :: os.drop (k + 1) := List.drop_eq_getElem_cons hkl
  obtain ⟨m, hm⟩ : ∃ m, os.length - k = m + 1 := ⟨os.length - k - 1, by omega⟩
  rw [hm] at hgo2
  have hgo3 : numsP os.length ts = pbind pnum (fun z => pbind (numsP m) fun l2 => pret (l ++ (z :: l2))) rr := hgo2.trans (by
    show pbind (pbind pnum fun z => pbind (numsP m) fun l => pret (z :: l)) (fun l2 => pret (l ++ l2)) rr = _
    cases h1 : pnum rr with
    | none => rw [bind_none h1, bind_none (bind_none h1)]
    | some y =>
      obtain ⟨z, r9⟩ := y
      rw [bind_eq h1]
      cases h2 : numsP m r9 with
      | none => rw [bind_none h2, bind_none (by rw [bind_eq h1, bind_none h2])]
      | some y2 => obtain ⟨l9, r8⟩ := y2; rw [bind_eq h2, bind_eq (p := pbind pnum fun z => pbind (numsP m) fun l => pret (z :: l)) (a := z :: l9) (r := r8) (by rw [bind_eq h1, bind_eq h2]; rfl)])
  refine W.skip Nx.thn ?_
  refine W.seq ?_
  refine W.block ?_
  refine W.seq ?_
  refine W.region ?_
  refine WL.x (X.indexAddr Tryz.underlying133 el105 (s6) (s8) (by omega) (by omega)) rfl ?_
  refine WL.x (X.load pl105 (lh) hg2 (v := .pointer (some ⟨ob, os[k], none⟩)) (by rw [List.getElem?_toArray, show 0 + (k : Int).toNat * 1 = k by omega, List.getElem?_map, List.getElem?_eq_getElem hkl]; rfl)) rfl ?_
  refine WL.x (X.asg (lh)) rfl ?_
  refine WL.e5 Nx.thn 0 5 6 7 8 (jt2 rfl (lt rfl (s0))) (lh) (jt2 rfl (lt rfl (s6))) (jt2 rfl (lt rfl (s7))) (jt2 rfl (lt rfl (s8))) ?_
  intro σ4 s0 s5 s6 s7 s8
  refine W.region ?_
  refine WL.x (X.mv (s5)) rfl ?_
  refine WL.x (X.mv (lt rfl (s0))) rfl ?_
  refine WL.callP3 ce59 (lh) lc lc (take_ok B p rr 2 no w1 hps) rfl (by rintro v w' ⟨hnb, rfl, cx⟩; exact ⟨_, rfl, hgo3.trans (bind_none (num_no hnb)), rfl, hcl.trans cx (H := fun j => j = p ∨ j = ob) (fun _ _ e => e) (fun _ _ e => e.elim)⟩) ?_
  rintro _ w2 ⟨tk, r2, rfl, hs, rfl, hps2, ct⟩
  refine WL.x (X.field fv60_3 (lh) (by rfl)) rfl ?_
  refine WL.x (X.nilck (jt2 rfl (lt rfl (lh)))) rfl ?_
  have hob3 := ct.at hob2 (fun e => by (try dsimp only at e); omega)
  refine WL.store el3 (lh) (lt rfl (lh)) rfl hob3 (by rw [hcz]; exact of_decide_eq_true (List.all_eq_true.1 hos _ (List.getElem_mem hkl))) ?_
  intro w3 us
  have hob4 := us.at_
  have cus := us.ch
  have hz9 := hps.hdN_
  refine WL.e4 (Nx.blk Nx.thn) 0 6 7 8 (jt4 rfl (lt rfl (s0))) (jt4 rfl (lt rfl (s6))) (jt4 rfl (lt rfl (s7))) (jt4 rfl (lt rfl (s8))) ?_
  intro σ5 s0 s6 s7 s8
  refine W.region ?_
  refine WL.x (X.add (s8) lc (by omega) (by omega)) rfl ?_
  refine WL.x (X.mv (lh)) rfl ?_
  refine WL.e4 Nx.thn 0 6 7 8 (jt2 rfl (s0)) (jt2 rfl (s6)) (jt2 rfl (s7)) (lh) ?_
  intro σ6 s0 s6 s7 s8
  have hgo4 : numsP os.length ts = pbind (numsP m) (fun l2 => pret (l ++ (tk.2.2.2 :: l2))) r2 := hgo3.trans (bind_eq (num_go hs))
  refine ⟨k + 1, by omega, ⟨s0.trans qo1.symm, s6.trans qo2.symm, s7.trans qo3.symm, trivial⟩, _, l ++ [tk.2.2.2], r2, s8, by omega, (by rw [List.length_append, hll]; rfl), hob4, (by rw [Array.size_setIfInBounds]; exact hcz), (fun l2 => by rw [List.append_assoc]; exact (hpa _).trans (by rw [hdr]; rfl)), (by rw [show os.length - (k + 1) = m by omega]; simpa only [List.append_assoc, List.cons_append, List.nil_append] using hgo4), (fun z hz => by rcases List.mem_append.1 hz with hz | hz; (· exact hin z hz); (· rw [List.mem_singleton.1 hz]; exact hz9)), (hps2.own cus (fun j hj e => by (try dsimp only at e); omega)), (hcl.trans ct (H := fun j => j = p ∨ j = ob) (fun _ _ e => e) (fun _ _ e => .inl e)).trans cus (H := fun j => j = p ∨ j = ob) (fun _ _ e => e) (fun _ _ e => .inr e)⟩
 ·
  refine W.exit (Nx.xthn (Nx.xthn (Nx.xblk (Nx.panN Nx.n0)))) ?_
  have hke : k = os.length := by omega
  subst hke
  rw [Nat.sub_self] at hgo2
  have h8 := hpa []
  rw [List.append_nil, List.drop_length] at h8
  exact ⟨l, rr, hgo2.trans (by show some (l ++ [], rr) = _; rw [List.append_nil]), by rw [h8]; exact hob2, hin, hps, hcl⟩
theorem which_ok (B p : Nat) (ts : List Tok) (a b : ByteArray) (w : World) (h : PS B p ts w) (ha : a ≠ no) (hb : b ≠ no) :
  Sg.RetP Tryz.prog 63 #[.pointer (some ⟨p, 0, none⟩), .string a, .string b] w (fun v w' => ∃ x r, pword (two a b) ts = some (x, r) ∧ v = .bool x ∧ PS B p r w' ∧ Ch (fun j => j = p) w w') (fun v w' => pword (two a b) ts = none ∧ v = wrg ∧ Ch0 w w') := by
 refine enterP1 (n := 16) (l := [.pointer (some ⟨p, 0, none⟩), .string a, .string b]) Tryz.func63 rfl rfl rfl rfl ?_
 refine W.g3 0 1 2 (v1 := .pointer (some ⟨p, 0, none⟩)) (v2 := .string a) (v3 := .string b) rfl rfl rfl ?_; intro σ s0 s1 s2
 refine W.seq ?_
 refine W.region ?_
 refine WL.x (X.asg lc) rfl ?_
 refine WL.e3 Nx.thn 0 1 2 (lt rfl (s0)) (lt rfl (s1)) (lt rfl (s2)) ?_
 intro σ1 s0 s1 s2
 refine W.seq ?_
 refine W.seq ?_
 refine W.region ?_
 refine WL.x (X.mv (s0)) rfl ?_
 refine WL.x (X.mv (lt rfl (s1))) rfl ?_
 refine WL.call3 ce58 (lt rfl (lh)) lc (lh) (sees_ok B p ts 1 a w h) rfl ?_
 rintro _ _ ⟨rfl, rfl⟩
 refine WL.e4 Nx.thn 0 1 2 9 (jt2 rfl (lt rfl (s0))) (jt2 rfl (lt rfl (s1))) (jt2 rfl (lt rfl (s2))) (lh) ?_
 intro σ2 s0 s1 s2 s9
 refine W.cnd s9 (fun hs => ?_) (fun hs => ?_)
 ·
  refine W.seq ?_
  refine W.region ?_
  refine WL.x (X.mv (s0)) rfl ?_
  refine WL.x (X.mv (lt rfl (s1))) rfl ?_
  refine WL.callP2 ce60 (lt rfl (lh)) (lh) (word_ok B p ts a w h) rfl (by rintro v w' ⟨hn, rfl, cx⟩; rw [hs] at hn; cases hn) ?_
  rintro _ w1 ⟨-, rfl, hps, ct⟩
  refine WL.e0 Nx.thn  ?_
  intro σ3 
  refine W.seq ?_
  refine W.region ?_
  refine WL.x (X.asg lc) rfl ?_
  refine WL.e1 Nx.thn 6 (lh) ?_
  intro σ4 s6
  refine W.ret1 (Nx.rthn (Nx.panR Nx.f1)) s6 ?_
  exact ⟨_, _, which_a ha hs, rfl, hps, ct⟩
 ·
  refine W.skip Nx.thn ?_
  refine W.seq ?_
  refine W.region ?_
  refine WL.x (X.mv (s0)) rfl ?_
  refine WL.x (X.mv (lt rfl (s2))) rfl ?_
  refine WL.callP2 ce60 (lt rfl (lh)) (lh) (word_ok B p ts b w h) rfl (by rintro v w' ⟨hn, rfl, cx⟩; exact ⟨_, rfl, which_n ha hb hs hn, rfl, cx⟩) ?_
  rintro _ w2 ⟨hs2, rfl, hps, ct⟩
  refine WL.e0 Nx.thn  ?_
  intro σ5 
  refine W.seq ?_
  refine W.region ?_
  refine WL.x (X.asg lc) rfl ?_
  refine WL.e1 Nx.thn 6 (lh) ?_
  intro σ6 s6
  refine W.ret1 (Nx.panR Nx.f1) s6 ?_
  exact ⟨_, _, which_b ha hb hs hs2, rfl, hps, ct⟩
theorem key_ok (B p : Nat) (ts : List Tok) (w : World) (h : PS B p ts w) :
  Sg.RetP Tryz.prog 93 #[.pointer (some ⟨p, 0, none⟩)] w (fun v w' => ∃ k r, pkey ts = some (k, r) ∧ v = .string k ∧ k.size ≤ 20000 ∧ PS B p r w' ∧ Ch (fun j => j = p) w w') (fun v w' => pkey ts = none ∧ v = wrg ∧ Ch (fun j => j = p) w w') := by
 refine enterP1 (n := 13) (l := [.pointer (some ⟨p, 0, none⟩)]) Tryz.func93 rfl rfl rfl rfl ?_
 refine W.g1 0 (v1 := .pointer (some ⟨p, 0, none⟩)) rfl ?_; intro σ s0
 refine W.seq ?_
 refine W.region ?_
 refine WL.x (X.asg lc) rfl ?_
 refine WL.e1 Nx.thn 0 (lt rfl (s0)) ?_
 intro σ1 s0
 refine W.seq ?_
 refine W.region ?_
 refine WL.x (X.mv (s0)) rfl ?_
 refine WL.callP2 ce67 (lh) lc (mark_ok B p ts (mk1 40) w h) rfl (by rintro v w' ⟨hn, rfl, cx⟩; exact ⟨_, rfl, key_open hn, rfl, cx.trans (Ch.refl (fun j => j = p) _) (fun _ _ e => e.elim) (fun _ _ e => e)⟩) ?_
 rintro _ w1 ⟨h1, hps1, c1⟩
 refine WL.e1 Nx.thn 0 (jt2 rfl (s0)) ?_
 intro σ2 s0
 refine W.seq ?_
 refine W.region ?_
 refine WL.x (X.asg lc) rfl ?_
 refine WL.e2 Nx.thn 0 3 (lt rfl (s0)) (lh) ?_
 intro σ3 s0 s3
 have qo1 := s0
 refine W.seqJ (fun σ' w' => (σ' 0 = σ3 0 ∧ True) ∧ ∃ s r, σ' 3 = .string s ∧ s.size ≤ 20000 ∧ pbind (ptok 3 (mk1 41)) (fun _ => pret s) r = pkey ts ∧ PS B p r w' ∧ Ch (fun j => j = p) w w') ?_ ?_
 ·
  refine W.seq ?_
  refine W.region ?_
  refine WL.x (X.mv (s0)) rfl ?_
  refine WL.call3 ce58 (lh) lc lc (sees_ok B p ts.tail 1 no w1 hps1) rfl ?_
  rintro _ _ ⟨rfl, rfl⟩
  refine WL.e3 Nx.thn 0 3 7 (jt2 rfl (s0)) (jt2 rfl (s3)) (lh) ?_
  intro σ4 s0 s3 s7
  refine W.cnd s7 (fun hs => ?_) (fun hs => ?_)
  ·
   refine W.region ?_
   refine WL.x (X.mv (s0)) rfl ?_
   refine WL.callP2 ce60 (lh) lc (word_ok B p ts.tail no w1 hps1) rfl (by rintro v w' ⟨hn, rfl, cx⟩; rw [hs] at hn; cases hn) ?_
   rintro _ w2 ⟨-, rfl, hps2, c2⟩
   refine WL.x (X.asg (lh)) rfl ?_
   refine WL.e2 Nx.thn 0 3 (jt2 rfl (lt rfl (s0))) (lh) ?_
   intro σ5 s0 s3
   refine ⟨⟨s0.trans qo1.symm, trivial⟩, _, _, s3, hps1.hdX_, (by unfold pkey; rw [bind_eq (tok_go h1), bind_eq (show pif (fun ts => seesB ts 1 no) (ptok 1 no) (pret no) ts.tail = some (hdX ts.tail, ts.tail.tail) by unfold pif; rw [if_pos hs, tok_go hs])]), hps2, c1.trans c2 (H := fun j => j = p) (fun _ _ e => e) (fun _ _ e => e)⟩
  ·
   refine W.skip Nx.thn ?_
   refine ⟨⟨s0.trans qo1.symm, trivial⟩, _, _, s3, Nat.zero_le _, (by unfold pkey; rw [bind_eq (tok_go h1), bind_eq (show pif (fun ts => seesB ts 1 no) (ptok 1 no) (pret no) ts.tail = some (no, ts.tail) by unfold pif; rw [if_neg (by show ¬ seesB ts.tail 1 no = true; rw [hs]; simp)]; rfl)]; rfl), hps1, c1⟩
 ·
  rintro σ6 w3 ⟨⟨f0, _⟩, s, r, s3, hsz, hgo, hps3, c3⟩
  have s0 := f0.trans qo1
  refine W.seq ?_
  refine W.region ?_
  refine WL.x (X.mv (s0)) rfl ?_
  refine WL.callP2 ce67 (lh) lc (mark_ok B p r (mk1 41) w3 hps3) rfl (by rintro v w' ⟨hn, rfl, cx⟩; exact ⟨_, rfl, hgo.symm.trans (bind_none (tok_no hn)), rfl, c3.trans cx (H := fun j => j = p) (fun _ _ e => e) (fun _ _ e => e.elim)⟩) ?_
  rintro _ w4 ⟨h4, hps4, c4⟩
  refine WL.e1 Nx.thn 3 (jt2 rfl (s3)) ?_
  intro σ7 s3
  refine W.seq ?_
  refine W.region ?_
  refine WL.x (X.mv (s3)) rfl ?_
  refine WL.x (X.asg (lh)) rfl ?_
  refine WL.e1 Nx.thn 2 (lh) ?_
  intro σ8 s2
  refine W.ret1 (Nx.panR Nx.f1) s2 ?_
  exact ⟨s, _, hgo.symm.trans (bind_eq (tok_go h4)), rfl, hsz, hps4, c3.trans c4 (H := fun j => j = p) (fun _ _ e => e) (fun _ _ e => e)⟩

theorem level_some {s : ByteArray} {i : Nat} (h : idxW VWS s = some i) : fP.level s = some (i : Int) := by
  unfold fP
  dsimp only
  rw [h]; rfl
theorem level_none {s : ByteArray} (h : idxW VWS s = none) : fP.level s = none := by
  unfold fP
  dsimp only
  rw [h]; rfl
theorem wsA_get {l : List ByteArray} {k : Nat} (h : k < l.length) : (l.map Value.string).toArray[k]? = some (.string l[k]) := by rw [List.getElem?_toArray, List.getElem?_map, List.getElem?_eq_getElem h]; rfl
/-- The words of a table. -/
def tabV (l : List ByteArray) : Array Value := (l.map Value.string).toArray
theorem tabV_get {l : List ByteArray} {k : Nat} (h : k < l.length) : (tabV l)[k]? = some (.string l[k]) := wsA_get h
theorem idx_some {l : List ByteArray} {s : ByteArray} {k : Nat} (h : k < l.length) (h1 : s = l[k]) (h2 : ∀ i (hi : i < l.length), i < k → s ≠ l[i]) : idxW l s = some k := by
  unfold idxW
  rw [List.findIdx?_eq_some_iff_getElem]
  exact ⟨h, decide_eq_true h1, fun i hi => by rw [decide_eq_false (h2 i (by omega) hi)]; simp⟩
theorem idx_none {l : List ByteArray} {s : ByteArray} (h2 : ∀ i (hi : i < l.length), s ≠ l[i]) : idxW l s = none := by
  unfold idxW
  rw [List.findIdx?_eq_none_iff]
  intro x hx
  obtain ⟨i, hi, rfl⟩ := List.mem_iff_getElem.1 hx
  exact decide_eq_false (h2 i hi)

theorem kinds_ok (w : World) :
  Sg.Ret Tryz.prog 36 #[] w fun v w' => v = .agg (tabV (no :: KWS)) ∧ Ch0 w w' := by
 refine enterG (n := 2) (l := []) Tryz.func36 rfl rfl rfl rfl ?_
 refine W.g0 ?_; intro σ
 refine W.seq ?_
 refine W.region ?_
 refine WL.alloc el81 rfl ?_
 intro w1 u0_0; have hu0_0 := u0_0.at_; have cu0_0 := u0_0.ch; have zu0_0 := u0_0.size
 refine WL.e1 Nx.thn 0 (lh) ?_
 intro σ1 s0
 refine W.seq ?_
 refine W.region ?_
 refine WL.x (X.build bd81 (pcons lc (pcons lc (pcons lc (pcons lc (pcons lc (pcons lc (pcons lc (pcons lc (pcons lc (pcons lc (pcons lc (pcons lc pnil)))))))))))) rfl (rfl : _ = [_, _, _, _, _, _, _, _, _, _, _, _])) rfl ?_
 refine WL.storeS ag81 (lt rfl (s0)) (lh) rfl rfl (by assumption) (by decide) ?_
 intro w2 u1_1; have hu1_1 := u1_1.at_; have cu1_1 := u1_1.ch; have zu1_1 := u1_1.size
 refine WL.e1 Nx.thn 0 (lt rfl (s0)) ?_
 intro σ2 s0
 refine W.retG Nx.fG ⟨[_], (.cell s0 (by assumption) (by exact ag81) .nil), ?_⟩
 exact ⟨rfl, cu0_0.trans cu1_1 (fun _ _ => id) (fun i hi e => by (try dsimp only at e); omega)⟩
theorem answers_ok (w : World) :
  Sg.Ret Tryz.prog 39 #[] w fun v w' => v = .agg (tabV AWS) ∧ Ch0 w w' := by
 refine enterG (n := 2) (l := []) Tryz.func39 rfl rfl rfl rfl ?_
 refine W.g0 ?_; intro σ
 refine W.seq ?_
 refine W.region ?_
 refine WL.alloc el86 rfl ?_
 intro w1 u0_0; have hu0_0 := u0_0.at_; have cu0_0 := u0_0.ch; have zu0_0 := u0_0.size
 refine WL.e1 Nx.thn 0 (lh) ?_
 intro σ1 s0
 refine W.seq ?_
 refine W.region ?_
 refine WL.x (X.build bd86 (pcons lc (pcons lc (pcons lc (pcons lc pnil)))) rfl (rfl : _ = [_, _, _, _])) rfl ?_
 refine WL.storeS ag86 (lt rfl (s0)) (lh) rfl rfl (by assumption) (by decide) ?_
 intro w2 u1_1; have hu1_1 := u1_1.at_; have cu1_1 := u1_1.ch; have zu1_1 := u1_1.size
 refine WL.e1 Nx.thn 0 (lt rfl (s0)) ?_
 intro σ2 s0
 refine W.retG Nx.fG ⟨[_], (.cell s0 (by assumption) (by exact ag86) .nil), ?_⟩
 exact ⟨rfl, cu0_0.trans cu1_1 (fun _ _ => id) (fun i hi e => by (try dsimp only at e); omega)⟩
theorem names_ok (w : World) :
  Sg.Ret Tryz.prog 80 #[] w fun v w' => v = .agg (tabV VWS) ∧ Ch0 w w' := by
 refine enterG (n := 2) (l := []) Tryz.func80 rfl rfl rfl rfl ?_
 refine W.g0 ?_; intro σ
 refine W.seq ?_
 refine W.region ?_
 refine WL.alloc el122 rfl ?_
 intro w1 u0_0; have hu0_0 := u0_0.at_; have cu0_0 := u0_0.ch; have zu0_0 := u0_0.size
 refine WL.e1 Nx.thn 0 (lh) ?_
 intro σ1 s0
 refine W.seq ?_
 refine W.region ?_
 refine WL.x (X.build bd122 (pcons lc (pcons lc (pcons lc (pcons lc (pcons lc (pcons lc pnil)))))) rfl (rfl : _ = [_, _, _, _, _, _])) rfl ?_
 refine WL.storeS ag122 (lt rfl (s0)) (lh) rfl rfl (by assumption) (by decide) ?_
 intro w2 u1_1; have hu1_1 := u1_1.at_; have cu1_1 := u1_1.ch; have zu1_1 := u1_1.size
 refine WL.e1 Nx.thn 0 (lt rfl (s0)) ?_
 intro σ2 s0
 refine W.retG Nx.fG ⟨[_], (.cell s0 (by assumption) (by exact ag122) .nil), ?_⟩
 exact ⟨rfl, cu0_0.trans cu1_1 (fun _ _ => id) (fun i hi e => by (try dsimp only at e); omega)⟩
set_option maxHeartbeats 800000 in
theorem of_ok (s : ByteArray) (w : World) :
  Sg.Ret Tryz.prog 94 #[.string s] w fun v w' => v = .tuple #[.int .i64 (match idxW VWS s with | some i => (i : Int) | none => 0), .bool (idxW VWS s).isSome] ∧ Ch0 w w' := by
 refine enter2 (n := 22) (l := [.string s]) Tryz.func94 rfl rfl rfl rfl ?_
 refine W.g1 0 (v1 := .string s) rfl ?_; intro σ s0
 refine W.seq ?_
 refine W.region ?_
 refine WL.x (X.asg lc) rfl ?_
 refine WL.x (X.asg lc) rfl ?_
 refine WL.e1 Nx.thn 0 (jt2 rfl (s0)) ?_
 intro σ1 s0
 refine W.seq ?_
 refine W.region ?_
 refine WL.x (X.asg lc) rfl ?_
 refine WL.e2 Nx.thn 0 4 (lt rfl (s0)) (lh) ?_
 intro σ2 s0 s4
 refine W.seq ?_
 refine W.seq ?_
 refine W.region ?_
 refine WL.call0 ce80  (names_ok w) rfl ?_
 rintro _ w1 ⟨rfl, c1⟩
 refine WL.x (X.mv lc) rfl ?_
 refine WL.e4 Nx.thn 0 4 7 8 (jt2 rfl (s0)) (jt2 rfl (s4)) (lt rfl (lh)) (lh) ?_
 intro σ3 s0 s4 s7 s8
 refine W.block ?_
 have qo1 := s0
 have qo2 := s7
 -- loop 0: kept [0, 7], varied [4, 8]
 refine W.loop (G := Nat) (fun k σ' w' => (σ' 0 = σ3 0 ∧ σ' 7 = σ3 7 ∧ True) ∧ w1 = w' ∧ (σ' 8 = .int .i64 (k : Int) ∧ σ' 4 = .int .i64 (-1) ∧ k ≤ 6 ∧ ∀ i (hi : i < VWS.length), i < k → s ≠ VWS[i])) (fun k => 6 - k) (0) ⟨⟨rfl, rfl, trivial⟩, rfl, s8, s4, by omega, fun i _ hi => absurd hi (by omega)⟩ ?_
 rintro k σ4 w2 ⟨⟨f0, f7, _⟩, rfl, s8, s4, hk, hno⟩
 have s0 := f0.trans qo1
 have s7 := f7.trans qo2
 refine W.seq ?_
 refine W.region ?_
 refine WL.x (X.lss (s8) lc) rfl ?_
 refine WL.e5 Nx.thn 0 4 7 8 9 (lt rfl (s0)) (lt rfl (s4)) (lt rfl (s7)) (lt rfl (s8)) (lh) ?_
 intro σ5 s0 s4 s7 s8 s9
 refine W.seq ?_
 refine W.cndp s9 (fun hlt => ?_) (fun hlt => ?_)
 ·
  refine W.skip Nx.thn ?_
  refine W.seq ?_
  refine W.block ?_
  refine W.seq ?_
  refine W.region ?_
  refine WL.x (X.mv (s8)) rfl ?_
  have hk6 : k < VWS.length := by show k < 6; omega
  refine WL.x (X.indexA Tryz.underlying122 pl9 el9 (lt rfl (s7)) (lt rfl (s8)) (by omega) (by omega) (v := .string VWS[k]) (by rw [show (k : Int).toNat = k by omega]; exact tabV_get hk6)) rfl ?_
  refine WL.x (X.asg (lt rfl (lh))) rfl ?_
  refine WL.x (X.asg (lt rfl (lh))) rfl ?_
  refine WL.e6 Nx.thn 0 4 5 6 7 8 (jt4 rfl (s0)) (jt4 rfl (s4)) (lt rfl (lh)) (lh) (jt4 rfl (s7)) (jt4 rfl (s8)) ?_
  intro σ6 s0 s4 s5 s6 s7 s8
  refine W.seq ?_
  refine W.region ?_
  refine WL.x (X.mv (s6)) rfl ?_
  refine WL.x (X.mv (lt rfl (s0))) rfl ?_
  refine WL.x (X.eqlS (lt rfl (lh)) (lh)) rfl ?_
  refine WL.e6 Nx.thn 0 4 5 7 8 14 (jt2 rfl (lt rfl (s0))) (jt2 rfl (lt rfl (s4))) (jt2 rfl (lt rfl (s5))) (jt2 rfl (lt rfl (s7))) (jt2 rfl (lt rfl (s8))) (lh) ?_
  intro σ7 s0 s4 s5 s7 s8 s14
  refine W.cndp s14 (fun hc2 => ?_) (fun hc2 => ?_)
  ·
   refine W.seq ?_
   refine W.region ?_
   refine WL.x (X.mv (s5)) rfl ?_
   refine WL.x (X.asg (lh)) rfl ?_
   refine WL.e1 Nx.thn 4 (lh) ?_
   intro σ8 s4
   refine W.exit (Nx.xblk' rfl (Nx.xthn (Nx.xthn (Nx.xblk Nx.thn)))) ?_
   refine W.seq ?_
   refine W.seq ?_
   refine W.region ?_
   refine WL.x (X.mv (s4)) rfl ?_
   refine WL.x (X.build bd143 (pcons (lh) (pcons lc pnil)) rfl (rfl : _ = [_, _])) rfl ?_
   refine WL.x (X.build bd143 (pcons lc (pcons lc pnil)) rfl (rfl : _ = [_, _])) rfl ?_
   refine WL.x (X.eqlA2 Tryz.underlying143 Tryz.underlying3 el3 eg143 (lt rfl (lh)) (lh)) rfl ?_
   refine WL.e2 Nx.thn 4 20 (jt4 rfl (s4)) (lh) ?_
   intro σ9 s4 s20
   refine W.cndp s20 (fun hc3 => ?_) (fun hc3 => ?_)
   ·
    refine W.seq ?_
    refine W.region ?_
    refine WL.x (X.asg lc) rfl ?_
    refine WL.x (X.asg lc) rfl ?_
    refine WL.e2 Nx.thn 2 3 (lt rfl (lh)) (lh) ?_
    intro σ10 s2 s3
    refine W.ret2 (Nx.rthn Nx.f2) s2 s3 ?_
    obtain ⟨h1, _⟩ := hc3; omega
   ·
    refine W.skip Nx.thn ?_
    refine W.seq ?_
    refine W.region ?_
    refine WL.x (X.mv (s4)) rfl ?_
    refine WL.x (X.asg (lh)) rfl ?_
    refine WL.x (X.asg lc) rfl ?_
    refine WL.e2 Nx.thn 2 3 (lt rfl (lh)) (lh) ?_
    intro σ11 s2 s3
    refine W.ret2 Nx.f2 s2 s3 ?_
    exact ⟨by rw [idx_some hk6 hc2.symm hno]; rfl, c1⟩
  ·
   refine W.skip (Nx.blk Nx.thn) ?_
   refine W.region ?_
   refine WL.x (X.add (s8) lc (by omega) (by omega)) rfl ?_
   refine WL.x (X.mv (lh)) rfl ?_
   refine WL.e4 Nx.thn 0 4 7 8 (jt2 rfl (s0)) (jt2 rfl (s4)) (jt2 rfl (s7)) (lh) ?_
   intro σ12 s0 s4 s7 s8
   refine ⟨k + 1, by omega, ⟨s0.trans qo1.symm, s7.trans qo2.symm, trivial⟩, rfl, s8, s4, by omega, fun i h1 h2 => by by_cases e : i = k; (· subst e; exact fun e => hc2 e.symm); (· exact hno i h1 (by omega))⟩
 ·
  refine W.exit (Nx.xthn (Nx.xthn (Nx.xblk Nx.thn))) ?_
  refine W.seq ?_
  refine W.seq ?_
  refine W.region ?_
  refine WL.x (X.mv (s4)) rfl ?_
  refine WL.x (X.build bd143 (pcons (lh) (pcons lc pnil)) rfl (rfl : _ = [_, _])) rfl ?_
  refine WL.x (X.build bd143 (pcons lc (pcons lc pnil)) rfl (rfl : _ = [_, _])) rfl ?_
  refine WL.x (X.eqlA2 Tryz.underlying143 Tryz.underlying3 el3 eg143 (lt rfl (lh)) (lh)) rfl ?_
  refine WL.e2 Nx.thn 4 20 (jt4 rfl (s4)) (lh) ?_
  intro σ13 s4 s20
  refine W.cndp s20 (fun hc3 => ?_) (fun hc3 => ?_)
  ·
   refine W.seq ?_
   refine W.region ?_
   refine WL.x (X.asg lc) rfl ?_
   refine WL.x (X.asg lc) rfl ?_
   refine WL.e2 Nx.thn 2 3 (lt rfl (lh)) (lh) ?_
   intro σ14 s2 s3
   refine W.ret2 (Nx.rthn Nx.f2) s2 s3 ?_
   exact ⟨by rw [idx_none fun i hi => hno i hi (by have h9 : VWS.length = 6 := rfl; omega)]; rfl, c1⟩
  ·
   refine W.skip Nx.thn ?_
   refine W.seq ?_
   refine W.region ?_
   refine WL.x (X.mv (s4)) rfl ?_
   refine WL.x (X.asg (lh)) rfl ?_
   refine WL.x (X.asg lc) rfl ?_
   refine WL.e2 Nx.thn 2 3 (lt rfl (lh)) (lh) ?_
   intro σ15 s2 s3
   refine W.ret2 Nx.f2 s2 s3 ?_
   exact absurd ⟨rfl, rfl⟩ hc3
theorem level_ok (B p : Nat) (ts : List Tok) (w : World) (h : PS B p ts w) :
  Sg.RetP Tryz.prog 65 #[.pointer (some ⟨p, 0, none⟩)] w (fun v w' => ∃ n r, pword fP.level ts = some (n, r) ∧ v = .int .i64 n ∧ PS B p r w' ∧ Ch (fun j => j = p) w w') (fun v w' => pword fP.level ts = none ∧ v = wrg ∧ Ch (fun j => j = p) w w') := by
 refine enterP1 (n := 16) (l := [.pointer (some ⟨p, 0, none⟩)]) Tryz.func65 rfl rfl rfl rfl ?_
 refine W.g1 0 (v1 := .pointer (some ⟨p, 0, none⟩)) rfl ?_; intro σ s0
 refine W.seq ?_
 refine W.region ?_
 refine WL.x (X.asg lc) rfl ?_
 refine WL.e1 Nx.thn 0 (lt rfl (s0)) ?_
 intro σ1 s0
 refine W.seq ?_
 refine W.region ?_
 refine WL.x (X.mv (s0)) rfl ?_
 refine WL.callP2 ce60 (lh) lc (word_ok B p ts no w h) rfl (by rintro v w' ⟨hn, rfl, cx⟩; exact ⟨_, rfl, word_no hn, rfl, cx.trans (Ch.refl (fun j => j = p) _) (fun _ _ e => e.elim) (fun _ _ e => e)⟩) ?_
 rintro _ w1 ⟨hs, rfl, hps, ct⟩
 refine WL.call1 ce94 (lh) (of_ok (hdX ts) w1) rfl ?_
 rintro _ w2 ⟨rfl, c2⟩
 refine WL.x (X.mv (lh)) rfl ?_
 refine WL.x (X.ex2_0 (lh)) rfl ?_
 refine WL.x (X.ex2_1 (lt rfl (lh))) rfl ?_
 refine WL.x (X.asg (lt rfl (lh))) rfl ?_
 refine WL.x (X.asg (lt rfl (lh))) rfl ?_
 refine WL.e2 Nx.thn 3 4 (lt rfl (lh)) (lh) ?_
 intro σ2 s3 s4
 refine W.seq ?_
 refine W.seq ?_
 refine W.region ?_
 refine WL.x (X.mv (s4)) rfl ?_
 refine WL.x (X.not (lh)) rfl ?_
 refine WL.e2 Nx.thn 3 12 (jt2 rfl (s3)) (lh) ?_
 intro σ3 s3 s12
 refine W.cnd s12 (fun hok => ?_) (fun hok => ?_)
 ·
  have hq9 : idxW VWS (hdX ts) = none := by
    cases hq : idxW VWS (hdX ts) with
    | none => rfl
    | some i => rw [hq] at hok; cases hok
  refine W.region ?_
  refine WL.x (X.build bd132 pnil rfl (rfl : _ = [])) rfl ?_
  refine WL.x (X.iface Tryz.underlying132 trivial (lh)) rfl ?_
  refine WL.panic (lh) ?_
  exact ⟨_, rfl, (word_go hs).trans (by rw [level_none hq9]), rfl, ct.trans c2 (H := fun j => j = p) (fun _ _ e => e) (fun _ _ e => e.elim)⟩
 ·
  obtain ⟨i, hq9⟩ : ∃ i, idxW VWS (hdX ts) = some i := by
    cases hq : idxW VWS (hdX ts) with
    | none => rw [hq] at hok; cases hok
    | some i => exact ⟨i, rfl⟩
  refine W.skip Nx.thn ?_
  refine W.seq ?_
  refine W.region ?_
  refine WL.x (X.mv (s3)) rfl ?_
  refine WL.x (X.asg (lh)) rfl ?_
  refine WL.e1 Nx.thn 2 (lh) ?_
  intro σ4 s2
  refine W.ret1 (Nx.panR Nx.f1) s2 ?_
  exact ⟨(i : Int), ts.tail, (word_go hs).trans (by rw [level_some hq9]), by rw [hq9], hps.ch0 c2, ct.trans c2 (H := fun j => j = p) (fun _ _ e => e) (fun _ _ e => e.elim)⟩
theorem sidx_ok (g n c TT : Nat) (l : List ByteArray) (s : ByteArray) (w : World) (hn : n = l.length) (hg : w.heap[g]? = some (.cells (tabV l) TT (0, 0))) (hl : l.length ≤ 100) :
  Sg.Ret Tryz.prog 66 #[.slice (some ⟨g, 0, none⟩) n c, .string s] w fun v w' => v = .int .i64 (match idxW l s with | some i => (i : Int) | none => -1) ∧ w = w' := by
 subst hn
 refine enter1 (n := 19) (l := [.slice (some ⟨g, 0, none⟩) l.length c, .string s]) Tryz.func66 rfl rfl rfl rfl ?_
 refine W.g2 0 1 (v1 := .slice (some ⟨g, 0, none⟩) l.length c) (v2 := .string s) rfl rfl ?_; intro σ s0 s1
 refine W.seq ?_
 refine W.region ?_
 refine WL.x (X.asg lc) rfl ?_
 refine WL.e2 Nx.thn 0 1 (lt rfl (s0)) (lt rfl (s1)) ?_
 intro σ1 s0 s1
 refine W.seq ?_
 refine W.seq ?_
 refine W.region ?_
 refine WL.x (X.mv (s0)) rfl ?_
 refine WL.x (X.lenSl Tryz.underlying39 (lh)) rfl ?_
 refine WL.x (X.mv lc) rfl ?_
 refine WL.e4 Nx.thn 0 1 7 8 (jt2 rfl (lt rfl (s0))) (jt2 rfl (lt rfl (s1))) (lt rfl (lh)) (lh) ?_
 intro σ2 s0 s1 s7 s8
 refine W.block ?_
 have qo1 := s0
 have qo2 := s1
 have qo3 := s7
 -- loop 0: kept [0, 1, 7], varied [8]
 refine W.loop (G := Nat) (fun k σ' w' => (σ' 0 = σ2 0 ∧ σ' 1 = σ2 1 ∧ σ' 7 = σ2 7 ∧ True) ∧ w = w' ∧ (σ' 8 = .int .i64 (k : Int) ∧ k ≤ l.length ∧ ∀ i (hi : i < l.length), i < k → s ≠ l[i])) (fun k => l.length - k) (0) ⟨⟨rfl, rfl, rfl, trivial⟩, rfl, s8, by omega, fun i _ hi => absurd hi (by omega)⟩ ?_
 rintro k σ3 w1 ⟨⟨f0, f1, f7, _⟩, rfl, s8, hk, hno⟩
 have s0 := f0.trans qo1
 have s1 := f1.trans qo2
 have s7 := f7.trans qo3
 refine W.seq ?_
 refine W.region ?_
 refine WL.x (X.lss (s8) (s7)) rfl ?_
 refine WL.e5 Nx.thn 0 1 7 8 9 (lt rfl (s0)) (lt rfl (s1)) (lt rfl (s7)) (lt rfl (s8)) (lh) ?_
 intro σ4 s0 s1 s7 s8 s9
 refine W.seq ?_
 refine W.cndp s9 (fun hlt => ?_) (fun hlt => ?_)
 ·
  have hkl : k < l.length := by omega
  refine W.skip Nx.thn ?_
  refine W.seq ?_
  refine W.block ?_
  refine W.seq ?_
  refine W.region ?_
  refine WL.x (X.mv (s8)) rfl ?_
  refine WL.x (X.asg (lh)) rfl ?_
  refine WL.e5 Nx.thn 0 1 5 7 8 (jt2 rfl (s0)) (jt2 rfl (s1)) (lh) (jt2 rfl (s7)) (jt2 rfl (s8)) ?_
  intro σ5 s0 s1 s5 s7 s8
  refine W.seq ?_
  refine W.region ?_
  refine WL.x (X.mv (s1)) rfl ?_
  refine WL.x (X.mv (lt rfl (s0))) rfl ?_
  refine WL.x (X.mv (jt2 rfl (s5))) rfl ?_
  refine WL.x (X.indexAddr Tryz.underlying39 el9 (lt rfl (lh)) (lh) (by omega) (by omega)) rfl ?_
  refine WL.x (X.load pl9 (lh) hg (v := .string l[k]) (by rw [show 0 + (k : Int).toNat * 1 = k by omega]; exact tabV_get hkl)) rfl ?_
  refine WL.x (X.eqlS (jt4 rfl (lh)) (lh)) rfl ?_
  refine WL.e6 Nx.thn 0 1 5 7 8 16 (jt4 rfl (jt2 rfl (s0))) (jt4 rfl (jt2 rfl (s1))) (jt4 rfl (jt2 rfl (s5))) (jt4 rfl (jt2 rfl (s7))) (jt4 rfl (jt2 rfl (s8))) (lh) ?_
  intro σ6 s0 s1 s5 s7 s8 s16
  refine W.cndp s16 (fun he => ?_) (fun he => ?_)
  ·
   refine W.seq ?_
   refine W.region ?_
   refine WL.x (X.mv (s5)) rfl ?_
   refine WL.x (X.asg (lh)) rfl ?_
   refine WL.e1 Nx.thn 4 (lh) ?_
   intro σ7 s4
   refine W.ret1 (Nx.rblk (Nx.rthn (Nx.rthn (Nx.rblk (Nx.rthn Nx.f1))))) s4 ?_
   exact ⟨by rw [idx_some hkl he hno], rfl⟩
  ·
   refine W.skip (Nx.blk Nx.thn) ?_
   refine W.region ?_
   refine WL.x (X.add (s8) lc (by omega) (by omega)) rfl ?_
   refine WL.x (X.mv (lh)) rfl ?_
   refine WL.e4 Nx.thn 0 1 7 8 (jt2 rfl (s0)) (jt2 rfl (s1)) (jt2 rfl (s7)) (lh) ?_
   intro σ8 s0 s1 s7 s8
   refine ⟨k + 1, by omega, ⟨s0.trans qo1.symm, s1.trans qo2.symm, s7.trans qo3.symm, trivial⟩, rfl, s8, by omega, fun i h1 h2 => by by_cases e : i = k; (· subst e; exact he); (· exact hno i h1 (by omega))⟩
 ·
  refine W.exit (Nx.xthn (Nx.xthn (Nx.xblk Nx.thn))) ?_
  refine W.seq ?_
  refine W.region ?_
  refine WL.x (X.asg lc) rfl ?_
  refine WL.e1 Nx.thn 4 (lh) ?_
  intro σ9 s4
  refine W.ret1 Nx.f1 s4 ?_
  exact ⟨by rw [idx_none fun i hi => hno i hi (by omega)], rfl⟩
theorem skip_tail {ts : List Tok} (h : seesB ts 4 no = true) : skipP ts = skipP ts.tail := by
  obtain ⟨t, r, rfl⟩ := sees_cons_ h
  exact skipP_line h
theorem skip_stop {ts : List Tok} (h : seesB ts 4 no = false) : skipP ts = ts := skipP_stop h
theorem ends_ok (B p : Nat) (ts : List Tok) (w : World) (h : PS B p ts w) :
  Sg.RetP Tryz.prog 62 #[.pointer (some ⟨p, 0, none⟩)] w (fun v w' => ∃ r, pends ts = some ((), r) ∧ PS B p r w' ∧ Ch (fun j => j = p) w w') (fun v w' => pends ts = none ∧ v = wrg ∧ Ch0 w w') := by
 have hh := h
 obtain ⟨hpB, hB, ⟨v, hp, hr⟩, hG, hL⟩ := h
 obtain ⟨a, c, rfl⟩ := hr.len
 refine enterP0 (n := 14) (l := [.pointer (some ⟨p, 0, none⟩)]) Tryz.func62 rfl rfl rfl rfl ?_
 refine W.g1 0 (v1 := .pointer (some ⟨p, 0, none⟩)) rfl ?_; intro σ s0
 have qo1 := s0
 refine W.seqJ (fun σ' w' => (σ' 0 = σ 0 ∧ True) ∧ ∃ r, pends ts = some ((), skipP r) ∧ PS B p r w' ∧ Ch (fun j => j = p) w w') ?_ ?_
 ·
  refine W.seq ?_
  refine W.region ?_
  refine WL.x (X.mv (s0)) rfl ?_
  refine WL.x (X.nilck (lh)) rfl ?_
  refine WL.x (X.fieldAddr fd51_0 (lh)) rfl ?_
  refine WL.x (X.load pl44 (lh) (by assumption) (by rfl)) rfl ?_
  refine WL.x (X.lenSl Tryz.underlying44 (lh)) rfl ?_
  refine WL.x (X.gtr (lh) lc) rfl ?_
  refine WL.e2 Nx.thn 0 7 (jt4 rfl (jt2 rfl (s0))) (lh) ?_
  intro σ1 s0 s7
  refine W.cndp s7 (fun hne => ?_) (fun hne => ?_)
  ·
   refine W.region ?_
   refine WL.x (X.mv (s0)) rfl ?_
   refine WL.callP3 ce59 (lh) lc lc (take_ok B p ts 4 no w hh) rfl (by rintro v w' ⟨hn, rfl, cx⟩; exact ⟨_, rfl, ends_no (fun e => by rw [e] at hne; simp at hne) hn, rfl, cx⟩) ?_
   rintro _ w1 ⟨tk, r4, hr4, hs4, rfl, hps4, c4⟩
   obtain rfl : r4 = ts.tail := by rw [hr4]; rfl
   refine WL.e1 Nx.thn 0 (jt2 rfl (s0)) ?_
   intro σ2 s0
   refine ⟨⟨s0.trans qo1.symm, trivial⟩, _, (by rw [ends_go hs4]; exact congrArg (fun z => some ((), z)) (skip_tail hs4)), hps4, c4⟩
  ·
   refine W.skip Nx.thn ?_
   refine ⟨⟨s0.trans qo1.symm, trivial⟩, ts, (by have h0 : ts = [] := List.eq_nil_of_length_eq_zero (by omega); rw [h0]; rfl), hh, Ch.refl _ _⟩
 ·
  rintro σ3 w2 ⟨⟨f0, _⟩, r, hpe, hps, c3⟩
  have s0 := f0.trans qo1
  refine W.block ?_
  have qo2 := s0
  -- loop 0: kept [0], varied []
  refine W.loop (G := List Tok) (fun rr σ' w' => (σ' 0 = σ3 0 ∧ True) ∧ (PS B p rr w' ∧ skipP rr = skipP r ∧ Ch (fun j => j = p) w w')) (fun rr => rr.length) (r) ⟨⟨rfl, trivial⟩, hps, rfl, c3⟩ ?_
  rintro rr σ4 w3 ⟨⟨f0, _⟩, hps2, hsk, c6⟩
  have s0 := f0.trans qo2
  refine W.seq ?_
  refine W.seq ?_
  refine W.region ?_
  refine WL.x (X.mv (s0)) rfl ?_
  refine WL.call3 ce58 (lh) lc lc (sees_ok B p rr 4 no w3 hps2) rfl ?_
  rintro _ _ ⟨rfl, rfl⟩
  refine WL.e2 Nx.thn 0 11 (jt2 rfl (s0)) (lh) ?_
  intro σ5 s0 s11
  refine W.cnd s11 (fun hs => ?_) (fun hs => ?_)
  ·
   refine W.skip Nx.thn ?_
   refine W.block ?_
   refine W.region ?_
   refine WL.x (X.mv (s0)) rfl ?_
   refine WL.callP3 ce59 (lh) lc lc (take_ok B p rr 4 no w3 hps2) rfl (by rintro v w' ⟨hn, rfl, cx⟩; rw [hs] at hn; cases hn) ?_
   rintro _ w4 ⟨tk, r5, hr5, hs5, rfl, hps5, c5⟩
   refine WL.e1 (Nx.blk Nx.thn) 0 (jt2 rfl (s0)) ?_
   intro σ6 s0
   refine ⟨r5, by rw [hr5]; simp, ⟨s0.trans qo2.symm, trivial⟩, hps5, (by rw [← hsk, skip_tail hs5, hr5]; rfl), c6.trans c5 (H := fun j => j = p) (fun _ _ e => e) (fun _ _ e => e)⟩
  ·
   refine W.exit (Nx.xthn (Nx.xthn (Nx.xblk (Nx.panN Nx.n0)))) ?_
   have h9 : skipP rr = rr := skip_stop hs
   exact ⟨rr, by rw [hpe, ← hsk, h9], hps2, c6⟩

theorem own_form {w : World} {base e size m : Nat} {v : Value} {xs : List Value} (h : w.ownsRow base e size v m xs) : ∃ a c, v = .slice a m c := by
  rcases h.2 with ⟨rfl, h0⟩ | ⟨g, cap, cur, rfl, _⟩
  · exact ⟨none, 0, by rw [h0]⟩
  · exact ⟨_, cap, rfl⟩
theorem orow_form {α : Type} {size : Nat} {R : Rd α} {A : Nat → Prop} {w : World} {base e : Nat} {v : Value} {l : List α} (h : ORow size R A w base e v l) : ∃ a c, v = .slice a l.length c := by
  obtain ⟨ess, _, _, h3, _⟩ := h
  exact own_form h3
theorem orow_mine {α : Type} {size : Nat} {R : Rd α} {ts : List TypeId} {b0 : Nat} {F : Nat → Prop} {w w' : World} {base e : Nat} {v : Value} {l : List α} (hR : Mon R) (h : ORow size R (Mine ts b0 w) w base e v l) (c : Ch F w w') (hF : ∀ j, Mine ts b0 w j → ¬ F j) (hv : ∀ k, slBlk v k → ¬ F k) : ORow size R (Mine ts b0 w') w' base e v l := by
  obtain ⟨ess, e1, e2, e3, e4⟩ := h
  exact ⟨ess, e1, e2, own_ch e3 c hv, fun j hj => hR _ _ _ _ _ _ _ c hF (fun k hk => hk.ch c (hF k hk)) (e4 j hj)⟩
theorem mine_ne {ts : List TypeId} {b0 ob T : Nat} {w : World} {cs : Array Value} {fr : Nat × Nat} (h : w.heap[ob]? = some (.cells cs T fr)) (hT : T ∉ ts) : ∀ j, Mine ts b0 w j → ¬ j = ob := by
  rintro j ⟨_, cs2, T2, hT2, h2⟩ rfl
  rw [h] at h2
  exact hT ((Obj.cells.inj (Option.some.inj h2)).2.1 ▸ hT2)

theorem rd_mine {α : Type} {R : Rd α} {ts : List TypeId} {b0 : Nat} {F : Nat → Prop} {w w' : World} {es : List Value} {x : α} (hR : Mon R) (h : R (Mine ts b0 w) w es x) (c : Ch F w w') (hF : ∀ j, Mine ts b0 w j → ¬ F j) : R (Mine ts b0 w') w' es x := hR _ _ _ _ _ _ _ c hF (fun k hk => hk.ch c (hF k hk)) h
theorem rd_mono {α : Type} {R : Rd α} {ts : List TypeId} {b0 b1 : Nat} {w : World} {es : List Value} {x : α} (hR : Mon R) (h : R (Mine ts b0 w) w es x) (hb : b1 ≤ b0) : R (Mine ts b1 w) w es x := hR _ _ _ _ _ _ _ (Ch.refl (fun _ => False) w) (fun _ _ => id) (fun k hk => hk.mono (fun _ h => h) hb) h
theorem orow_ch {α : Type} {size : Nat} {R : Rd α} {A : Nat → Prop} {F : Nat → Prop} {w w' : World} {base e : Nat} {v : Value} {l : List α} (hR : Mon R) (h : ORow size R A w base e v l) (c : Ch F w w') (hF : ∀ j, A j → ¬ F j) (hv : ∀ k, slBlk v k → ¬ F k) : ORow size R A w' base e v l := by
  obtain ⟨ess, e1, e2, e3, e4⟩ := h
  exact ⟨ess, e1, e2, own_ch e3 c hv, fun j hj => hR _ _ _ _ _ _ _ c hF (fun k hk => hk) (e4 j hj)⟩
/-- Taking a word that stands for something in any case. -/
def kindV (s : ByteArray) : Int := match idxW (no :: KWS) s with | some i => (i : Int) | none => -1
def labV (s : ByteArray) : Int := ((idxW LWS s).map labI).getD 0
def ansV (s : ByteArray) : Int := match idxW AWS s with | some i => (i : Int) | none => -1
theorem kind_go {ts : List Tok} (h : seesB ts 1 no = true) : pword fP.kind ts = some (kindV (hdX ts), ts.tail) := word_go h
theorem lab_go {ts : List Tok} (h : seesB ts 1 no = true) : pword fP.label ts = some (labV (hdX ts), ts.tail) := (word_go h).trans (by
  show some ((match idxW LWS (hdX ts) with | some i => labI i | none => 0), ts.tail) = _
  unfold labV
  cases idxW LWS (hdX ts) <;> rfl)
theorem ans_go {ts : List Tok} (h : seesB ts 1 no = true) : pword fP.answer ts = some (ansV (hdX ts), ts.tail) := word_go h
/-- What stands behind an anomaly's kind; behind its level. -/
def anK2 (kd t o ot : Int) (k : ByteArray) (v : Int) (re : Bool) (lv : Int) : List QWhy → PR QAn := fun cyc => pbind pends fun _ => pret (kd, t, o, ot, k, v, cyc, re, lv)
def anK1 (kd : Int) : PR QAn := pbind pnum fun t => pbind pnum fun o => pbind pnum fun ot => pbind pkey fun k => pbind pnum fun v => pbind (pword (two wReal wPlain)) fun re => pbind (pword fP.level) fun lv => pbind (pmany (fun ts => seesB ts 3 (mk1 91)) (pwhy fP)) fun cyc => anK2 kd t o ot k v re lv cyc
def LBL : ByteArray → Option Int := fun s => (idxW LWS s).map labI
theorem labels_ok (w : World) :
  Sg.Ret Tryz.prog 81 #[] w fun v w' => ∃ b, v = .map (some b) ∧ MS Tryz.prog 9 3 w' b 4 LBL ∧ w.heap.size ≤ b ∧ Ch0 w w' := by
 refine enter1 (n := 3) (l := []) Tryz.func81 rfl rfl rfl rfl ?_
 refine W.g0 ?_; intro σ
 refine W.seq ?_
 refine W.region ?_
 refine WL.x (X.asg lc) rfl ?_
 refine WL.e0 Nx.thn  ?_
 intro σ1 
 refine W.seq ?_
 refine W.region ?_
 refine WL.mkMapS (k := 9) (e := 3) rfl ?_
 intro w1 hms cm hzm
 refine WL.insS Tryz.underlying124 Tryz.underlying9 Tryz.underlying3 (lh) (show ev _ (.const _) = _ from rfl) (show ev _ (.const _) = _ from rfl) (s := ⟨#[119, 119]⟩) (z := 1) (by unfold maxLen; decide) (by decide) (by unfold maxLen; omega) hms ?_
 intro w2 hms ci0
 refine WL.insS Tryz.underlying124 Tryz.underlying9 Tryz.underlying3 (lh) (show ev _ (.const _) = _ from rfl) (show ev _ (.const _) = _ from rfl) (s := ⟨#[119, 114]⟩) (z := 2) (by unfold maxLen; decide) (by decide) (by unfold maxLen; omega) hms ?_
 intro w3 hms ci1
 refine WL.insS Tryz.underlying124 Tryz.underlying9 Tryz.underlying3 (lh) (show ev _ (.const _) = _ from rfl) (show ev _ (.const _) = _ from rfl) (s := ⟨#[114, 119]⟩) (z := 4) (by unfold maxLen; decide) (by decide) (by unfold maxLen; omega) hms ?_
 intro w4 hms ci2
 refine WL.insS Tryz.underlying124 Tryz.underlying9 Tryz.underlying3 (lh) (show ev _ (.const _) = _ from rfl) (show ev _ (.const _) = _ from rfl) (s := ⟨#[114, 116]⟩) (z := 8) (by unfold maxLen; decide) (by decide) (by unfold maxLen; omega) hms ?_
 intro w5 hms ci3
 refine WL.x (X.mv (lh)) rfl ?_
 refine WL.x (X.asg (lh)) rfl ?_
 refine WL.e1 Nx.thn 0 (lh) ?_
 intro σ2 s0
 refine W.ret1 Nx.f1 s0 ?_
 refine ⟨_, rfl, ?_, Nat.le_refl _, ((((cm.trans ci0 (H := fun _ => False) (fun _ _ e => e) (fun j hj e => by (try dsimp only at e); omega)).trans ci1 (H := fun _ => False) (fun _ _ e => e) (fun j hj e => by (try dsimp only at e); omega)).trans ci2 (H := fun _ => False) (fun _ _ e => e) (fun j hj e => by (try dsimp only at e); omega)).trans ci3 (H := fun _ => False) (fun _ _ e => e) (fun j hj e => by (try dsimp only at e); omega))⟩
 have e : (fun y : ByteArray => if y = ⟨#[114, 116]⟩ then some (8 : Int) else if y = ⟨#[114, 119]⟩ then some 4 else if y = ⟨#[119, 114]⟩ then some 2 else if y = ⟨#[119, 119]⟩ then some 1 else none) = LBL := by
   funext y
   unfold LBL LWS
   rw [idxW_cons, idxW_cons, idxW_cons, idxW_cons]
   by_cases h1 : y = ⟨#[119, 119]⟩
   · subst h1; rfl
   · by_cases h2 : y = ⟨#[119, 114]⟩
     · subst h2; rfl
     · by_cases h3 : y = ⟨#[114, 119]⟩
       · subst h3; rfl
       · by_cases h4 : y = ⟨#[114, 116]⟩
         · subst h4; rfl
         · rw [if_neg h1, if_neg h2, if_neg h3, if_neg h4, if_neg h4, if_neg h3, if_neg h2, if_neg h1]; rfl
 exact e ▸ hms
end Go.Proofs.YtbnllchicnmkiaaGreatDoor
end

section
namespace Go.Proofs
open Go.Shelf
def Tryz.lays137_ren : Go.Shelf.Ren := ⟨fun | 137 => 57 | 217 => 92 | 266 => 114 | n => n, fun | 9 => 9 | 5 => 5 | 3 => 3 | n => n, fun | n => n⟩
theorem Tryz.lays137 : Go.Proofs.Lays.n137 Tryz.prog Tryz.lays137_ren := {
  mixed := by kernel_rfl
  f137 := Tryz.func57.trans (congrArg some (by kernel_rfl))
  f217 := Tryz.func92.trans (congrArg some (by kernel_rfl))
  f266 := Tryz.func114.trans (congrArg some (by kernel_rfl))
  t3 := Tryz.underlying3
  a3 := Tryz.isAgg3
  z3 := Tryz.sizeOf3
  v3 := Tryz.zeroValue3
  t5 := Tryz.underlying5
  a5 := Tryz.isAgg5
  z5 := Tryz.sizeOf5
  v5 := Tryz.zeroValue5
  t9 := Tryz.underlying9
  a9 := Tryz.isAgg9
  z9 := Tryz.sizeOf9
  v9 := Tryz.zeroValue9 }
open Go.RowKit in
/-- strings.IndexByte: "IndexByte returns the index of the first instance of c in s, or -1 if c is not present in s.": IT RETURNS 'Lib.indexByte s c'; the world is as it was. (LAID: no walk: one application.) -/
theorem Tryz.strings_IndexByte (s : ByteArray) (c : Int) (w : World) :
    Calls Tryz.prog 57 #[.string s, .int .u8 c] w fun e w' => e = .returned (.int .i64 (Lib.indexByte s.data.toList c.toNat.toUInt8)) ∧ w' = w := Any.strings_IndexByte Tryz.lays137 s c w
def Tryz.laysM171_ren : Go.Shelf.Ren := ⟨fun | 171 => 76 | 243 => 104 | 246 => 117 | 283 => 129 | 284 => 130 | 285 => 131 | 286 => 132 | 129 => 138 | 317 => 137 | 318 => 139 | 319 => 140 | 320 => 141 | 337 => 144 | 338 => 145 | n => n, fun | 3 => 3 | 9 => 9 | 2 => 2 | 4 => 4 | 171 => 160 | 0 => 0 | 53 => 161 | 37 => 74 | 5 => 5 | 173 => 164 | 212 => 175 | 51 => 166 | 20 => 20 | 213 => 176 | 46 => 40 | 232 => 183 | 233 => 184 | n => n, fun | 17 => 5 | 18 => 6 | 19 => 7 | n => n⟩
theorem Tryz.laysM171 : Go.Proofs.LaysM.n171 Tryz.prog Tryz.laysM171_ren := {
  mixed := by kernel_rfl
  f129 := Tryz.func138.trans (congrArg some (by kernel_rfl))
  f171 := Tryz.func76.trans (congrArg some (by kernel_rfl))
  f243 := Tryz.func104.trans (congrArg some (by kernel_rfl))
  f246 := Tryz.func117.trans (congrArg some (by kernel_rfl))
  f283 := Tryz.func129.trans (congrArg some (by kernel_rfl))
  f284 := Tryz.func130.trans (congrArg some (by kernel_rfl))
  f285 := Tryz.func131.trans (congrArg some (by kernel_rfl))
  f286 := Tryz.func132.trans (congrArg some (by kernel_rfl))
  f317 := Tryz.func137.trans (congrArg some (by kernel_rfl))
  f318 := Tryz.func139.trans (congrArg some (by kernel_rfl))
  f319 := Tryz.func140.trans (congrArg some (by kernel_rfl))
  f320 := Tryz.func141.trans (congrArg some (by kernel_rfl))
  f337 := Tryz.func144.trans (congrArg some (by kernel_rfl))
  f338 := Tryz.func145.trans (congrArg some (by kernel_rfl))
  t0 := Tryz.underlying0
  a0 := Tryz.isAgg0
  z0 := Tryz.sizeOf0
  v0 := Tryz.zeroValue0
  t2 := Tryz.underlying2
  a2 := Tryz.isAgg2
  z2 := Tryz.sizeOf2
  v2 := Tryz.zeroValue2
  t3 := Tryz.underlying3
  a3 := Tryz.isAgg3
  z3 := Tryz.sizeOf3
  v3 := Tryz.zeroValue3
  t4 := Tryz.underlying4
  a4 := Tryz.isAgg4
  z4 := Tryz.sizeOf4
  v4 := Tryz.zeroValue4
  t5 := Tryz.underlying5
  a5 := Tryz.isAgg5
  z5 := Tryz.sizeOf5
  v5 := Tryz.zeroValue5
  t9 := Tryz.underlying9
  a9 := Tryz.isAgg9
  z9 := Tryz.sizeOf9
  v9 := Tryz.zeroValue9
  t20 := Tryz.underlying20
  a20 := Tryz.isAgg20
  z20 := Tryz.sizeOf20
  v20 := Tryz.zeroValue20
  t37 := Tryz.underlying74
  a37 := Tryz.isAgg74
  z37 := Tryz.sizeOf74
  v37 := Tryz.zeroValue74
  t46 := Tryz.underlying40
  a46 := Tryz.isAgg40
  z46 := Tryz.sizeOf40
  v46 := Tryz.zeroValue40
  t51 := Tryz.underlying166
  a51 := Tryz.isAgg166
  z51 := Tryz.sizeOf166
  v51 := Tryz.zeroValue166
  t53 := Tryz.underlying161
  a53 := Tryz.isAgg161
  z53 := Tryz.sizeOf161
  v53 := Tryz.zeroValue161
  t171 := Tryz.underlying160
  a171 := Tryz.isAgg160
  z171 := Tryz.sizeOf160
  v171 := Tryz.zeroValue160
  t173 := Tryz.underlying164
  a173 := Tryz.isAgg164
  z173 := Tryz.sizeOf164
  v173 := Tryz.zeroValue164
  t212 := Tryz.underlying175
  a212 := Tryz.isAgg175
  z212 := Tryz.sizeOf175
  v212 := Tryz.zeroValue175
  t213 := Tryz.underlying176
  a213 := Tryz.isAgg176
  z213 := Tryz.sizeOf176
  t232 := Tryz.underlying183
  a232 := Tryz.isAgg183
  z232 := Tryz.sizeOf183
  v232 := Tryz.zeroValue183
  t233 := Tryz.underlying184
  a233 := Tryz.isAgg184
  z233 := Tryz.sizeOf184
  v233 := Tryz.zeroValue184
  g17 := by kernel_rfl
  g18 := by kernel_rfl
  g19 := by kernel_rfl
  i0 := by kernel_rfl
  i2 := by kernel_rfl
  i3 := by kernel_rfl
  i4 := by kernel_rfl
  i5 := by kernel_rfl
  i9 := by kernel_rfl
  i20 := by kernel_rfl
  i37 := by kernel_rfl
  i46 := by kernel_rfl
  i51 := by kernel_rfl
  i53 := by kernel_rfl
  i171 := by kernel_rfl
  i173 := by kernel_rfl
  i212 := by kernel_rfl
  i232 := by kernel_rfl
  i233 := by kernel_rfl
  m17 := by kernel_rfl
  m18 := by kernel_rfl
  m19 := by kernel_rfl }
open Go.RowKit Go.Sort Go.Lib in
/-- strconv.Itoa: "Itoa is equivalent to FormatInt(int64(i), 10).": i's DECIMAL NUMERAL ('Lib.itoa': a '-' where i is negative, then the digits), FOR EVERY int. The world behind the call: the world before it, new blocks behind the heap (the library's 'var a [24]byte'), draws. (LAID: no walk: one application.) -/
theorem Tryz.strconv_Itoa (n : Int) (h0 : -9223372036854775808 ≤ n) (h1 : n ≤ 9223372036854775807) (w : World) (htab : Lib.TabIs Tryz.prog w "internal/strconv.uint64pow10" .u64 Lib.pow10Tab) :
    Calls Tryz.prog 76 #[.int .i64 n] w fun e w' => e = .returned (.string ⟨(Lib.itoa n).toArray⟩) ∧ ∃ k os, w' = grow (w.drewN k) os := Any.strconv_Itoa Tryz.laysM171 n h0 h1 w htab
def Tryz.laysC172_ren : Go.Shelf.Ren := ⟨fun | 172 => 91 | 244 => 112 | 245 => 113 | 247 => 123 | 279 => 124 | 280 => 125 | 281 => 126 | 282 => 127 | 287 => 134 | 316 => 135 | 171 => 76 | 205 => 136 | 321 => 142 | 322 => 143 | 243 => 104 | 246 => 117 | 283 => 129 | 284 => 130 | 285 => 131 | 286 => 132 | 129 => 138 | 317 => 137 | 318 => 139 | 319 => 140 | 320 => 141 | 337 => 144 | 338 => 145 | n => n, fun | 9 => 9 | 3 => 3 | 75 => 27 | 76 => 119 | 4 => 4 | 5 => 5 | 167 => 154 | 37 => 74 | 0 => 0 | 85 => 155 | 2 => 2 | 168 => 157 | 53 => 161 | 175 => 169 | 46 => 40 | 210 => 172 | 127 => 126 | 145 => 181 | 143 => 179 | 21 => 21 | 171 => 160 | 173 => 164 | 212 => 175 | 51 => 166 | 20 => 20 | 213 => 176 | 232 => 183 | 233 => 184 | 80 => 88 | n => n, fun | 15 => 3 | 16 => 4 | 17 => 5 | 18 => 6 | 19 => 7 | n => n⟩
theorem Tryz.laysC172 : Go.Proofs.LaysC.n172 Tryz.prog Tryz.laysC172_ren := {
  mixed := by kernel_rfl
  f129 := Tryz.func138.trans (congrArg some (by kernel_rfl))
  f171 := Tryz.func76.trans (congrArg some (by kernel_rfl))
  f172 := Tryz.func91.trans (congrArg some (by kernel_rfl))
  f205 := Tryz.func136.trans (congrArg some (by kernel_rfl))
  f243 := Tryz.func104.trans (congrArg some (by kernel_rfl))
  f244 := Tryz.func112.trans (congrArg some (by kernel_rfl))
  f245 := Tryz.func113.trans (congrArg some (by kernel_rfl))
  f246 := Tryz.func117.trans (congrArg some (by kernel_rfl))
  f247 := Tryz.func123.trans (congrArg some (by kernel_rfl))
  f279 := Tryz.func124.trans (congrArg some (by kernel_rfl))
  f280 := Tryz.func125.trans (congrArg some (by kernel_rfl))
  f281 := Tryz.func126.trans (congrArg some (by kernel_rfl))
  f282 := Tryz.func127.trans (congrArg some (by kernel_rfl))
  f283 := Tryz.func129.trans (congrArg some (by kernel_rfl))
  f284 := Tryz.func130.trans (congrArg some (by kernel_rfl))
  f285 := Tryz.func131.trans (congrArg some (by kernel_rfl))
  f286 := Tryz.func132.trans (congrArg some (by kernel_rfl))
  f287 := Tryz.func134.trans (congrArg some (by kernel_rfl))
  f316 := Tryz.func135.trans (congrArg some (by kernel_rfl))
  f317 := Tryz.func137.trans (congrArg some (by kernel_rfl))
  f318 := Tryz.func139.trans (congrArg some (by kernel_rfl))
  f319 := Tryz.func140.trans (congrArg some (by kernel_rfl))
  f320 := Tryz.func141.trans (congrArg some (by kernel_rfl))
  f321 := Tryz.func142.trans (congrArg some (by kernel_rfl))
  f322 := Tryz.func143.trans (congrArg some (by kernel_rfl))
  f337 := Tryz.func144.trans (congrArg some (by kernel_rfl))
  f338 := Tryz.func145.trans (congrArg some (by kernel_rfl))
  t0 := Tryz.underlying0
  a0 := Tryz.isAgg0
  z0 := Tryz.sizeOf0
  v0 := Tryz.zeroValue0
  t2 := Tryz.underlying2
  a2 := Tryz.isAgg2
  z2 := Tryz.sizeOf2
  v2 := Tryz.zeroValue2
  t3 := Tryz.underlying3
  a3 := Tryz.isAgg3
  z3 := Tryz.sizeOf3
  v3 := Tryz.zeroValue3
  t4 := Tryz.underlying4
  a4 := Tryz.isAgg4
  z4 := Tryz.sizeOf4
  v4 := Tryz.zeroValue4
  t5 := Tryz.underlying5
  a5 := Tryz.isAgg5
  z5 := Tryz.sizeOf5
  v5 := Tryz.zeroValue5
  t9 := Tryz.underlying9
  a9 := Tryz.isAgg9
  z9 := Tryz.sizeOf9
  v9 := Tryz.zeroValue9
  t20 := Tryz.underlying20
  a20 := Tryz.isAgg20
  z20 := Tryz.sizeOf20
  v20 := Tryz.zeroValue20
  t21 := Tryz.underlying21
  a21 := Tryz.isAgg21
  z21 := Tryz.sizeOf21
  v21 := Tryz.zeroValue21
  t37 := Tryz.underlying74
  a37 := Tryz.isAgg74
  z37 := Tryz.sizeOf74
  v37 := Tryz.zeroValue74
  t46 := Tryz.underlying40
  a46 := Tryz.isAgg40
  z46 := Tryz.sizeOf40
  v46 := Tryz.zeroValue40
  t51 := Tryz.underlying166
  a51 := Tryz.isAgg166
  z51 := Tryz.sizeOf166
  v51 := Tryz.zeroValue166
  t53 := Tryz.underlying161
  a53 := Tryz.isAgg161
  z53 := Tryz.sizeOf161
  v53 := Tryz.zeroValue161
  t75 := Tryz.underlying27
  a75 := Tryz.isAgg27
  z75 := Tryz.sizeOf27
  v75 := Tryz.zeroValue27
  t76 := Tryz.underlying119
  a76 := Tryz.isAgg119
  z76 := Tryz.sizeOf119
  v76 := Tryz.zeroValue119
  t85 := Tryz.underlying155
  a85 := Tryz.isAgg155
  z85 := Tryz.sizeOf155
  v85 := Tryz.zeroValue155
  t127 := Tryz.underlying126
  a127 := Tryz.isAgg126
  z127 := Tryz.sizeOf126
  v127 := Tryz.zeroValue126
  t143 := Tryz.underlying179
  a143 := Tryz.isAgg179
  z143 := Tryz.sizeOf179
  v143 := Tryz.zeroValue179
  t145 := Tryz.underlying181
  a145 := Tryz.isAgg181
  z145 := Tryz.sizeOf181
  v145 := Tryz.zeroValue181
  t167 := Tryz.underlying154
  a167 := Tryz.isAgg154
  z167 := Tryz.sizeOf154
  v167 := Tryz.zeroValue154
  t168 := Tryz.underlying157
  a168 := Tryz.isAgg157
  z168 := Tryz.sizeOf157
  v168 := Tryz.zeroValue157
  t171 := Tryz.underlying160
  a171 := Tryz.isAgg160
  z171 := Tryz.sizeOf160
  v171 := Tryz.zeroValue160
  t173 := Tryz.underlying164
  a173 := Tryz.isAgg164
  z173 := Tryz.sizeOf164
  v173 := Tryz.zeroValue164
  t175 := Tryz.underlying169
  a175 := Tryz.isAgg169
  z175 := Tryz.sizeOf169
  v175 := Tryz.zeroValue169
  t210 := Tryz.underlying172
  a210 := Tryz.isAgg172
  z210 := Tryz.sizeOf172
  v210 := Tryz.zeroValue172
  t212 := Tryz.underlying175
  a212 := Tryz.isAgg175
  z212 := Tryz.sizeOf175
  v212 := Tryz.zeroValue175
  t213 := Tryz.underlying176
  a213 := Tryz.isAgg176
  z213 := Tryz.sizeOf176
  t232 := Tryz.underlying183
  a232 := Tryz.isAgg183
  z232 := Tryz.sizeOf183
  v232 := Tryz.zeroValue183
  t233 := Tryz.underlying184
  a233 := Tryz.isAgg184
  z233 := Tryz.sizeOf184
  v233 := Tryz.zeroValue184
  g15 := by kernel_rfl
  g16 := by kernel_rfl
  g17 := by kernel_rfl
  g18 := by kernel_rfl
  g19 := by kernel_rfl
  t80 := Tryz.underlying88
  a80 := Tryz.isAgg88
  z80 := Tryz.sizeOf88
  v80 := Tryz.zeroValue88
  i0 := by kernel_rfl
  i2 := by kernel_rfl
  i3 := by kernel_rfl
  i4 := by kernel_rfl
  i5 := by kernel_rfl
  i9 := by kernel_rfl
  i20 := by kernel_rfl
  i21 := by kernel_rfl
  i37 := by kernel_rfl
  i46 := by kernel_rfl
  i51 := by kernel_rfl
  i53 := by kernel_rfl
  i75 := by kernel_rfl
  i76 := by kernel_rfl
  i80 := by kernel_rfl
  i85 := by kernel_rfl
  i127 := by kernel_rfl
  i143 := by kernel_rfl
  i145 := by kernel_rfl
  i167 := by kernel_rfl
  i168 := by kernel_rfl
  i171 := by kernel_rfl
  i173 := by kernel_rfl
  i175 := by kernel_rfl
  i210 := by kernel_rfl
  i212 := by kernel_rfl
  i232 := by kernel_rfl
  i233 := by kernel_rfl
  m15 := by kernel_rfl
  m16 := by kernel_rfl
  m17 := by kernel_rfl
  m18 := by kernel_rfl
  m19 := by kernel_rfl
  c0 := by kernel_rfl
  c2 := by kernel_rfl
  c3 := by kernel_rfl
  c4 := by kernel_rfl
  c5 := by kernel_rfl
  c9 := by kernel_rfl
  c20 := by kernel_rfl
  c21 := by kernel_rfl
  c37 := by kernel_rfl
  c46 := by kernel_rfl
  c51 := by kernel_rfl
  c53 := by kernel_rfl
  c75 := by kernel_rfl
  c76 := by kernel_rfl
  c80 := by kernel_rfl
  c85 := by kernel_rfl
  c127 := by kernel_rfl
  c143 := by kernel_rfl
  c145 := by kernel_rfl
  c167 := by kernel_rfl
  c168 := by kernel_rfl
  c171 := by kernel_rfl
  c173 := by kernel_rfl
  c175 := by kernel_rfl
  c210 := by kernel_rfl
  c212 := by kernel_rfl
  c213 := by kernel_rfl
  c232 := by kernel_rfl
  c233 := by kernel_rfl }
open Go.RowKit in
/-- strconv.Atoi, AT EVERY STRING THAT SPELLS AN int ('Lib.atoiAll .. = .ok v'; of whatever length: leading zeros count): v, AND NO ERROR. The world: as it was, or with the one new row that '[]byte(..)' lays. (LAID: no walk: one application.) -/
theorem Tryz.strconv_Atoi_ok (s : ByteArray) (hmax : s.size ≤ 9223372036854775806) (v : Int) (h : Lib.atoiAll s.data.toList = .ok v) (w : World) :
    Calls Tryz.prog 91 #[.string s] w fun e w' => e = .returned (.tuple #[.int .i64 v, .nilIface]) ∧ (w' = w ∨ ∃ t, w' = Lib.bytesWorld w 5 t) := Any.strconv_Atoi_ok Tryz.laysC172 s hmax v h w
open Go.RowKit in
/-- strconv.Atoi, AT EVERY NUMERAL THAT NO int HOLDS ('.range'): THE GREATEST OR THE LEAST int, BY THE SIGN ('Lib.atoiSat'), AND AN ERROR THAT IS NOT nil: a *NumError in a new block N: {Func: "Atoi", Num: s's bytes, Err: what the variable ErrRange holds}. Of what was there nothing has turned. (LAID: no walk: one application.) -/
theorem Tryz.strconv_Atoi_range (s : ByteArray) (hlim : s.size ≤ 281474976710656) (h : Lib.atoiAll s.data.toList = .range) (ev : Value) (w : World) (hv : w.cell? ⟨4, 0, none⟩ = some ev) (hev : ev = .nilIface ∨ ∃ te pe, ev = .iface te pe) :
    Calls Tryz.prog 91 #[.string s] w fun e w' => ∃ N, e = .returned (.tuple #[.int .i64 (Lib.atoiSat s.data.toList), .iface 157 (.pointer (some ⟨N, 0, none⟩))]) ∧ w.heap.size ≤ N ∧ w'.heap[N]? = some (.cells #[.string ⟨#[65, 116, 111, 105]⟩, .string s, ev] 172 (0, 0)) ∧ Below w.heap.size w w' := Any.strconv_Atoi_range Tryz.laysC172 s hlim h ev w hv hev
end Go.Proofs
end
