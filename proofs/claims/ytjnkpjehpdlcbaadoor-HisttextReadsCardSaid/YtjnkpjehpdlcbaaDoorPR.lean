/-
  A part of the walk of the program.
-/
import Derived.Test.YtjnkpjehpdlcbaaDoorPA
set_option linter.unusedVariables false
set_option linter.unusedSimpArgs false
set_option maxRecDepth 100000
namespace Go.Proofs.YtjnkpjehpdlcbaaDoor
open Go Go.RowKit Sg
theorem fd88_2 : Sg.Fld Tryd.prog 88 2 2 := ⟨_, _, _, rfl, rfl, rfl, rfl, by decide⟩
theorem fd88_0 : Sg.Fld Tryd.prog 88 0 0 := ⟨_, _, _, rfl, rfl, rfl, rfl, by decide⟩
theorem el4 : Sg.Elem Tryd.prog 4 1 (.bool false) 1 := ⟨_, rfl, rfl, rfl, rfl⟩
theorem el31 : Sg.Elem Tryd.prog 31 1 (.int .i64 0) 8 := ⟨_, rfl, rfl, rfl, rfl⟩
theorem fd88_1 : Sg.Fld Tryd.prog 88 1 1 := ⟨_, _, _, rfl, rfl, rfl, rfl, by decide⟩
theorem fd88_3 : Sg.Fld Tryd.prog 88 3 3 := ⟨_, _, _, rfl, rfl, rfl, rfl, by decide⟩
theorem fd88_4 : Sg.Fld Tryd.prog 88 4 4 := ⟨_, _, _, rfl, rfl, rfl, rfl, by decide⟩
theorem ce43 : Sg.Callee Tryd.prog 43 := ⟨_, Tryd.func43, by decide, rfl⟩
theorem ce45 : Sg.Callee Tryd.prog 45 := ⟨_, Tryd.func45, by decide, rfl⟩
theorem ce44 : Sg.Callee Tryd.prog 44 := ⟨_, Tryd.func44, by decide, rfl⟩
theorem fv80_2 : ∃ fs fd, Tryd.prog.underlying 80 = some (.struct fs) ∧ fs[2]? = some fd ∧ fd.offset = 2 ∧ Sg.Plain Tryd.prog fd.type := ⟨_, _, rfl, rfl, rfl, _, rfl, trivial⟩

abbrev Fl := Bool × Int × Int
/-- What the reader holds: the tokens that are left, where the text ends, and the first fault. -/
def RS (B p : Nat) (e : Int) (fl : Fl) (ts : List Tok) (w : World) : Prop := p < B ∧ B ≤ w.heap.size ∧ ∃ v, w.heap[p]? = some (.cells #[v, .int .i64 e, .bool fl.1, .int .i64 fl.2.1, .int .i64 fl.2.2] 88 (0, 0)) ∧ RSl 4 (Rc ftk) (fun j => j ≠ p ∧ j < B) w v ts
theorem RS.own {B p : Nat} {e : Int} {fl : Fl} {ts : List Tok} {F : Nat → Prop} {w w' : World} (h : RS B p e fl ts w) (c : Ch F w w') (hF : ∀ j, j < B → ¬ F j) : RS B p e fl ts w' := by
  obtain ⟨h0, hB, v, h1, h2⟩ := h
  exact ⟨h0, Nat.le_trans hB c.size, v, c.at h1 (hF p h0), h2.ch (monRc _) c (fun j hj => hF j hj.2) (fun _ hj => hj)⟩
theorem RS.ch0 {B p : Nat} {e : Int} {fl : Fl} {ts : List Tok} {w w' : World} (h : RS B p e fl ts w) (c : Ch0 w w') : RS B p e fl ts w' := h.own c (fun _ _ e => e)
def failF (e : Int) (ts : List Tok) (why : Int) (fl : Fl) : Fl := if fl.1 = true then fl else (true, atP e ts, why)

theorem ris_bad (B p : Nat) (e : Int) (a0 y0 : Int) (ts : List Tok) (kind : Int) (text : ByteArray) (w : World) (h : RS B p e (true, a0, y0) ts w) :
    Sg.Ret Tryd.prog 43 #[.pointer (some ⟨p, 0, none⟩), .int .i64 kind, .string text] w fun v w' => v = .bool (!true && seesB ts kind text) ∧ w = w' := by
  obtain ⟨hpB, hB, v, hp, hr⟩ := h
  obtain ⟨a, c, rfl⟩ := hr.len
  refine enter1 (n := 46) (l := [.pointer (some ⟨p, 0, none⟩), .int .i64 kind, .string text]) Tryd.func43 rfl rfl rfl rfl ?_
  refine W.g3 0 1 2 (v1 := .pointer (some ⟨p, 0, none⟩)) (v2 := .int .i64 kind) (v3 := .string text) rfl rfl rfl ?_; intro σ s0 s1 s2
  refine W.seq ?_
  refine W.region ?_
  refine WL.x (X.asg lc) rfl ?_
  refine WL.e3 Nx.thn 0 1 2 (lt rfl (s0)) (lt rfl (s1)) (lt rfl (s2)) ?_
  intro σ1 s0 s1 s2
  refine W.seq ?_
  refine W.region ?_
  refine WL.x (X.mv (s0)) rfl ?_
  refine WL.x (X.nilck (lh)) rfl ?_
  refine WL.x (X.fieldAddr fd88_2 (lh)) rfl ?_
  refine WL.x (X.load pl4 (lh) (by first | assumption) (by first | rfl | assumption)) rfl ?_
  refine WL.x (X.not (lh)) rfl ?_
  refine WL.x (X.mv (lh)) rfl ?_
  refine WL.no rfl rfl (lh) (rfl) rfl ?_
  refine WL.no rfl rfl (lt rfl (lh)) (rfl) rfl ?_
  refine WL.no rfl rfl (lt rfl (lt rfl (lh))) (rfl) rfl ?_
  refine WL.no rfl rfl (lt rfl (lt rfl (lt rfl (lh)))) (rfl) rfl ?_
  refine WL.no rfl rfl (lt rfl (lt rfl (lt rfl (lt rfl (lh))))) (rfl) rfl ?_
  refine WL.no rfl rfl (lt rfl (lt rfl (lt rfl (lt rfl (lt rfl (lh)))))) (rfl) rfl ?_
  refine WL.x (X.pickF (lt rfl (lt rfl (lt rfl (lt rfl (lt rfl (lt rfl (lh))))))) (rfl) lc) rfl ?_
  refine WL.x (X.mv (lh)) rfl ?_
  refine WL.no rfl rfl (lh) rfl rfl ?_
  refine WL.no rfl rfl (lt rfl (lh)) rfl rfl ?_
  refine WL.no rfl rfl (lt rfl (lt rfl (lh))) rfl rfl ?_
  refine WL.no rfl rfl (lt rfl (lt rfl (lt rfl (lh)))) rfl rfl ?_
  refine WL.no rfl rfl (lt rfl (lt rfl (lt rfl (lt rfl (lh))))) rfl rfl ?_
  refine WL.no rfl rfl (lt rfl (lt rfl (lt rfl (lt rfl (lt rfl (lh)))))) rfl rfl ?_
  refine WL.no rfl rfl (lt rfl (lt rfl (lt rfl (lt rfl (lt rfl (lt rfl (lh))))))) rfl rfl ?_
  refine WL.no rfl rfl (lt rfl (lt rfl (lt rfl (lt rfl (lt rfl (lt rfl (lt rfl (lh)))))))) rfl rfl ?_
  refine WL.no rfl rfl (lt rfl (lt rfl (lt rfl (lt rfl (lt rfl (lt rfl (lt rfl (lt rfl (lh))))))))) rfl rfl ?_
  refine WL.x (X.pickF (lt rfl (lt rfl (lt rfl (lt rfl (lt rfl (lt rfl (lt rfl (lt rfl (lt rfl (lh)))))))))) rfl lc) rfl ?_
  refine WL.x (X.mv (lh)) rfl ?_
  refine WL.no rfl rfl (lh) rfl rfl ?_
  refine WL.no rfl rfl (lt rfl (lh)) rfl rfl ?_
  refine WL.no rfl rfl (lt rfl (lt rfl (lh))) rfl rfl ?_
  refine WL.nou rfl (lh) rfl ?_
  refine WL.nou rfl (lt rfl (lh)) rfl ?_
  refine WL.nou rfl (lt rfl (lt rfl (lh))) rfl ?_
  refine WL.nou rfl (lt rfl (lt rfl (lt rfl (lh)))) rfl ?_
  refine WL.nou rfl (lt rfl (lt rfl (lt rfl (lt rfl (lh))))) rfl ?_
  refine WL.nou rfl (lt rfl (lt rfl (lt rfl (lt rfl (lt rfl (lh)))))) rfl ?_
  refine WL.nou rfl (lt rfl (lt rfl (lt rfl (lt rfl (lt rfl (lt rfl (lh))))))) rfl ?_
  refine WL.nou rfl (lt rfl (lt rfl (lt rfl (lt rfl (lt rfl (lt rfl (lt rfl (lh)))))))) rfl ?_
  refine WL.nou rfl (lt rfl (lt rfl (lt rfl (lt rfl (lt rfl (lt rfl (lt rfl (lt rfl (lh))))))))) rfl ?_
  refine WL.no rfl rfl (lt rfl (lt rfl (lt rfl (lt rfl (lt rfl (lt rfl (lt rfl (lt rfl (lt rfl (lt rfl (lt rfl (lt rfl (lh))))))))))))) rfl rfl ?_
  refine WL.x (X.pickF (lt rfl (lt rfl (lt rfl (lt rfl (lt rfl (lt rfl (lt rfl (lt rfl (lt rfl (lt rfl (lt rfl (lt rfl (lt rfl (lh)))))))))))))) rfl lc) rfl ?_
  refine WL.x (X.asg (lh)) rfl ?_
  refine WL.e1 Nx.thn 6 (lh) ?_
  intro σ2 s6
  refine W.ret1 Nx.f1 s6 ?_
  exact ⟨rfl, rfl⟩
theorem ris_nil (B p : Nat) (e : Int) (a0 y0 : Int) (kind : Int) (text : ByteArray) (w : World) (h : RS B p e (false, a0, y0) [] w) :
    Sg.Ret Tryd.prog 43 #[.pointer (some ⟨p, 0, none⟩), .int .i64 kind, .string text] w fun v w' => v = .bool (!false && seesB [] kind text) ∧ w = w' := by
  obtain ⟨hpB, hB, v, hp, hr⟩ := h
  obtain ⟨a, c, rfl⟩ := hr.len
  refine enter1 (n := 46) (l := [.pointer (some ⟨p, 0, none⟩), .int .i64 kind, .string text]) Tryd.func43 rfl rfl rfl rfl ?_
  refine W.g3 0 1 2 (v1 := .pointer (some ⟨p, 0, none⟩)) (v2 := .int .i64 kind) (v3 := .string text) rfl rfl rfl ?_; intro σ s0 s1 s2
  refine W.seq ?_
  refine W.region ?_
  refine WL.x (X.asg lc) rfl ?_
  refine WL.e3 Nx.thn 0 1 2 (lt rfl (s0)) (lt rfl (s1)) (lt rfl (s2)) ?_
  intro σ1 s0 s1 s2
  refine W.seq ?_
  refine W.region ?_
  refine WL.x (X.mv (s0)) rfl ?_
  refine WL.x (X.nilck (lh)) rfl ?_
  refine WL.x (X.fieldAddr fd88_2 (lh)) rfl ?_
  refine WL.x (X.load pl4 (lh) (by first | assumption) (by first | rfl | assumption)) rfl ?_
  refine WL.x (X.not (lh)) rfl ?_
  refine WL.x (X.mv (lh)) rfl ?_
  refine WL.yes rfl rfl (lh) (rfl) ?_
  refine WL.x (X.mv (lt rfl (lt rfl (lt rfl (lt rfl (lt rfl (lt rfl (s0)))))))) rfl ?_
  refine WL.yes rfl rfl (lt rfl (lh)) (rfl) ?_
  refine WL.x (X.nilck (lh)) rfl ?_
  refine WL.yes rfl rfl (lt rfl (lt rfl (lh))) (rfl) ?_
  refine WL.x (X.fieldAddr fd88_0 (lh)) rfl ?_
  refine WL.yes rfl rfl (lt rfl (lt rfl (lt rfl (lh)))) (rfl) ?_
  refine WL.x (X.load pl69 (lh) (by first | assumption) (by first | rfl | assumption)) rfl ?_
  refine WL.yes rfl rfl (lt rfl (lt rfl (lt rfl (lt rfl (lh))))) (rfl) ?_
  refine WL.x (X.lenSl Tryd.underlying69 (lh)) rfl ?_
  refine WL.yes rfl rfl (lt rfl (lt rfl (lt rfl (lt rfl (lt rfl (lh)))))) (rfl) ?_
  refine WL.x (X.gtr (lh) lc) rfl ?_
  refine WL.x (X.pickT (lt rfl (lt rfl (lt rfl (lt rfl (lt rfl (lt rfl (lh))))))) (rfl) (lh)) rfl ?_
  refine WL.x (X.mv (lh)) rfl ?_
  refine WL.no rfl rfl (lh) (decide_eq_false (by simp)) rfl ?_
  refine WL.no rfl rfl (lt rfl (lh)) (decide_eq_false (by simp)) rfl ?_
  refine WL.no rfl rfl (lt rfl (lt rfl (lh))) (decide_eq_false (by simp)) rfl ?_
  refine WL.no rfl rfl (lt rfl (lt rfl (lt rfl (lh)))) (decide_eq_false (by simp)) rfl ?_
  refine WL.no rfl rfl (lt rfl (lt rfl (lt rfl (lt rfl (lh))))) (decide_eq_false (by simp)) rfl ?_
  refine WL.no rfl rfl (lt rfl (lt rfl (lt rfl (lt rfl (lt rfl (lh)))))) (decide_eq_false (by simp)) rfl ?_
  refine WL.no rfl rfl (lt rfl (lt rfl (lt rfl (lt rfl (lt rfl (lt rfl (lh))))))) (decide_eq_false (by simp)) rfl ?_
  refine WL.no rfl rfl (lt rfl (lt rfl (lt rfl (lt rfl (lt rfl (lt rfl (lt rfl (lh)))))))) (decide_eq_false (by simp)) rfl ?_
  refine WL.no rfl rfl (lt rfl (lt rfl (lt rfl (lt rfl (lt rfl (lt rfl (lt rfl (lt rfl (lh))))))))) (decide_eq_false (by simp)) rfl ?_
  refine WL.x (X.pickF (lt rfl (lt rfl (lt rfl (lt rfl (lt rfl (lt rfl (lt rfl (lt rfl (lt rfl (lh)))))))))) (decide_eq_false (by simp)) lc) rfl ?_
  refine WL.x (X.mv (lh)) rfl ?_
  refine WL.no rfl rfl (lh) rfl rfl ?_
  refine WL.no rfl rfl (lt rfl (lh)) rfl rfl ?_
  refine WL.no rfl rfl (lt rfl (lt rfl (lh))) rfl rfl ?_
  refine WL.nou rfl (lh) rfl ?_
  refine WL.nou rfl (lt rfl (lh)) rfl ?_
  refine WL.nou rfl (lt rfl (lt rfl (lh))) rfl ?_
  refine WL.nou rfl (lt rfl (lt rfl (lt rfl (lh)))) rfl ?_
  refine WL.nou rfl (lt rfl (lt rfl (lt rfl (lt rfl (lh))))) rfl ?_
  refine WL.nou rfl (lt rfl (lt rfl (lt rfl (lt rfl (lt rfl (lh)))))) rfl ?_
  refine WL.nou rfl (lt rfl (lt rfl (lt rfl (lt rfl (lt rfl (lt rfl (lh))))))) rfl ?_
  refine WL.nou rfl (lt rfl (lt rfl (lt rfl (lt rfl (lt rfl (lt rfl (lt rfl (lh)))))))) rfl ?_
  refine WL.nou rfl (lt rfl (lt rfl (lt rfl (lt rfl (lt rfl (lt rfl (lt rfl (lt rfl (lh))))))))) rfl ?_
  refine WL.no rfl rfl (lt rfl (lt rfl (lt rfl (lt rfl (lt rfl (lt rfl (lt rfl (lt rfl (lt rfl (lt rfl (lt rfl (lt rfl (lh))))))))))))) rfl rfl ?_
  refine WL.x (X.pickF (lt rfl (lt rfl (lt rfl (lt rfl (lt rfl (lt rfl (lt rfl (lt rfl (lt rfl (lt rfl (lt rfl (lt rfl (lt rfl (lh)))))))))))))) rfl lc) rfl ?_
  refine WL.x (X.asg (lh)) rfl ?_
  refine WL.e1 Nx.thn 6 (lh) ?_
  intro σ2 s6
  refine W.ret1 Nx.f1 s6 ?_
  exact ⟨rfl, rfl⟩
theorem ris_cons (B p : Nat) (e : Int) (a0 y0 : Int) (tk : Tok) (r : List Tok) (kind : Int) (text : ByteArray) (w : World) (h : RS B p e (false, a0, y0) (tk :: r) w) :
    Sg.Ret Tryd.prog 43 #[.pointer (some ⟨p, 0, none⟩), .int .i64 kind, .string text] w fun v w' => v = .bool (!false && seesB (tk :: r) kind text) ∧ w = w' := by
  obtain ⟨hpB, hB, v, hp, hr⟩ := h
  obtain ⟨a, c, rfl⟩ := hr.len
  obtain ⟨b1, o1, cs1, T1, fr1, rfl, hm1, he1, hb1p, hk1⟩ := hr.get (k := 0) (by simp)
  have hlen : 0 < (tk :: r).length := by simp
  refine enter1 (n := 46) (l := [.pointer (some ⟨p, 0, none⟩), .int .i64 kind, .string text]) Tryd.func43 rfl rfl rfl rfl ?_
  refine W.g3 0 1 2 (v1 := .pointer (some ⟨p, 0, none⟩)) (v2 := .int .i64 kind) (v3 := .string text) rfl rfl rfl ?_; intro σ s0 s1 s2
  refine W.seq ?_
  refine W.region ?_
  refine WL.x (X.asg lc) rfl ?_
  refine WL.e3 Nx.thn 0 1 2 (lt rfl (s0)) (lt rfl (s1)) (lt rfl (s2)) ?_
  intro σ1 s0 s1 s2
  refine W.seq ?_
  refine W.region ?_
  refine WL.x (X.mv (s0)) rfl ?_
  refine WL.x (X.nilck (lh)) rfl ?_
  refine WL.x (X.fieldAddr fd88_2 (lh)) rfl ?_
  refine WL.x (X.load pl4 (lh) (by first | assumption) (by first | rfl | assumption)) rfl ?_
  refine WL.x (X.not (lh)) rfl ?_
  refine WL.x (X.mv (lh)) rfl ?_
  refine WL.yes rfl rfl (lh) (rfl) ?_
  refine WL.x (X.mv (lt rfl (lt rfl (lt rfl (lt rfl (lt rfl (lt rfl (s0)))))))) rfl ?_
  refine WL.yes rfl rfl (lt rfl (lh)) (rfl) ?_
  refine WL.x (X.nilck (lh)) rfl ?_
  refine WL.yes rfl rfl (lt rfl (lt rfl (lh))) (rfl) ?_
  refine WL.x (X.fieldAddr fd88_0 (lh)) rfl ?_
  refine WL.yes rfl rfl (lt rfl (lt rfl (lt rfl (lh)))) (rfl) ?_
  refine WL.x (X.load pl69 (lh) (by first | assumption) (by first | rfl | assumption)) rfl ?_
  refine WL.yes rfl rfl (lt rfl (lt rfl (lt rfl (lt rfl (lh))))) (rfl) ?_
  refine WL.x (X.lenSl Tryd.underlying69 (lh)) rfl ?_
  refine WL.yes rfl rfl (lt rfl (lt rfl (lt rfl (lt rfl (lt rfl (lh)))))) (rfl) ?_
  refine WL.x (X.gtr (lh) lc) rfl ?_
  refine WL.x (X.pickT (lt rfl (lt rfl (lt rfl (lt rfl (lt rfl (lt rfl (lh))))))) (rfl) (lh)) rfl ?_
  refine WL.x (X.mv (lh)) rfl ?_
  refine WL.yes rfl rfl (lh) (decide_eq_true (by simp)) ?_
  refine WL.x (X.mv (lt rfl (lt rfl (lt rfl (lt rfl (lt rfl (lt rfl (lt rfl (lt rfl (lt rfl (lt rfl (lt rfl (lt rfl (lt rfl (lt rfl (s0)))))))))))))))) rfl ?_
  refine WL.yes rfl rfl (lt rfl (lh)) (decide_eq_true (by simp)) ?_
  refine WL.x (X.nilck (lh)) rfl ?_
  refine WL.yes rfl rfl (lt rfl (lt rfl (lh))) (decide_eq_true (by simp)) ?_
  refine WL.x (X.fieldAddr fd88_0 (lh)) rfl ?_
  refine WL.yes rfl rfl (lt rfl (lt rfl (lt rfl (lh)))) (decide_eq_true (by simp)) ?_
  refine WL.x (X.load pl69 (lh) (by first | assumption) (by first | rfl | assumption)) rfl ?_
  refine WL.yes rfl rfl (lt rfl (lt rfl (lt rfl (lt rfl (lh))))) (decide_eq_true (by simp)) ?_
  refine WL.x (X.indexAddr Tryd.underlying69 el80 (lh) lc (by omega) (by omega)) rfl ?_
  refine WL.yes rfl rfl (lt rfl (lt rfl (lt rfl (lt rfl (lt rfl (lh)))))) (decide_eq_true (by simp)) ?_
  refine WL.x (X.fieldAddr fd80_0 (lh)) rfl ?_
  refine WL.yes rfl rfl (lt rfl (lt rfl (lt rfl (lt rfl (lt rfl (lt rfl (lh))))))) (decide_eq_true (by simp)) ?_
  refine WL.x (X.load pl3 (lh) hm1 (v := .int .i64 tk.1) (hk1 0 (by decide))) rfl ?_
  refine WL.yes rfl rfl (lt rfl (lt rfl (lt rfl (lt rfl (lt rfl (lt rfl (lt rfl (lh)))))))) (decide_eq_true (by simp)) ?_
  refine WL.x (X.mv (lt rfl (lt rfl (lt rfl (lt rfl (lt rfl (lt rfl (lt rfl (lt rfl (lt rfl (lt rfl (lt rfl (lt rfl (lt rfl (lt rfl (lt rfl (lt rfl (lt rfl (lt rfl (lt rfl (lt rfl (lt rfl (s1))))))))))))))))))))))) rfl ?_
  refine WL.yes rfl rfl (lt rfl (lt rfl (lt rfl (lt rfl (lt rfl (lt rfl (lt rfl (lt rfl (lh))))))))) (decide_eq_true (by simp)) ?_
  refine WL.x (X.eql (lt rfl (lh)) (lh)) rfl ?_
  refine WL.x (X.pickT (lt rfl (lt rfl (lt rfl (lt rfl (lt rfl (lt rfl (lt rfl (lt rfl (lt rfl (lh)))))))))) (decide_eq_true (by simp)) (lh)) rfl ?_
  refine WL.x (X.mv (lh)) rfl ?_
  refine WL.splitp (lh) (fun h1 => ?_) (fun h1 => ?_)
  · refine WL.yes rfl rfl (lh) (decide_eq_true h1) ?_
    refine WL.x (X.mv (lt rfl (lt rfl (lt rfl (lt rfl (lt rfl (lt rfl (lt rfl (lt rfl (lt rfl (lt rfl (lt rfl (lt rfl (lt rfl (lt rfl (lt rfl (lt rfl (lt rfl (lt rfl (lt rfl (lt rfl (lt rfl (lt rfl (lt rfl (lt rfl (lt rfl (s2))))))))))))))))))))))))))) rfl ?_
    refine WL.yes rfl rfl (lt rfl (lh)) (decide_eq_true h1) ?_
    refine WL.x (X.eqlS (lh) lc) rfl ?_
    refine WL.yes rfl rfl (lt rfl (lt rfl (lh))) (decide_eq_true h1) ?_
    refine WL.x (X.mv (lh)) rfl ?_
    refine WL.splitp (lh) (fun h2 => ?_) (fun h2 => ?_)
    · refine WL.no rfl rfl (lh) (decide_eq_true h2) rfl ?_
      refine WL.no rfl rfl (lt rfl (lh)) (decide_eq_true h2) rfl ?_
      refine WL.no rfl rfl (lt rfl (lt rfl (lh))) (decide_eq_true h2) rfl ?_
      refine WL.no rfl rfl (lt rfl (lt rfl (lt rfl (lh)))) (decide_eq_true h2) rfl ?_
      refine WL.no rfl rfl (lt rfl (lt rfl (lt rfl (lt rfl (lh))))) (decide_eq_true h2) rfl ?_
      refine WL.no rfl rfl (lt rfl (lt rfl (lt rfl (lt rfl (lt rfl (lh)))))) (decide_eq_true h2) rfl ?_
      refine WL.no rfl rfl (lt rfl (lt rfl (lt rfl (lt rfl (lt rfl (lt rfl (lh))))))) (decide_eq_true h2) rfl ?_
      refine WL.no rfl rfl (lt rfl (lt rfl (lt rfl (lt rfl (lt rfl (lt rfl (lt rfl (lh)))))))) (decide_eq_true h2) rfl ?_
      refine WL.no rfl rfl (lt rfl (lt rfl (lt rfl (lt rfl (lt rfl (lt rfl (lt rfl (lt rfl (lh))))))))) (decide_eq_true h2) rfl ?_
      refine WL.yes rfl rfl (lt rfl (lt rfl (lt rfl (lt rfl (lt rfl (lt rfl (lt rfl (lt rfl (lt rfl (lt rfl (lt rfl (lt rfl (lh))))))))))))) (decide_eq_true h1) ?_
      refine WL.x (X.pickT (lt rfl (lt rfl (lt rfl (lt rfl (lt rfl (lt rfl (lt rfl (lt rfl (lt rfl (lh)))))))))) (decide_eq_true h2) lc) rfl ?_
      refine WL.x (X.pickT (lt rfl (lt rfl (lt rfl (lt rfl (lt rfl (lt rfl (lt rfl (lt rfl (lt rfl (lt rfl (lt rfl (lt rfl (lt rfl (lh)))))))))))))) (decide_eq_true h1) (lh)) rfl ?_
      refine WL.x (X.asg (lh)) rfl ?_
      refine WL.e1 Nx.thn 6 (lh) ?_
      intro σ2 s6
      refine W.ret1 Nx.f1 s6 ?_
      exact ⟨congrArg Value.bool (by unfold seesB; simp [*]), rfl⟩
    · refine WL.yes rfl rfl (lh) (decide_eq_false h2) ?_
      refine WL.x (X.mv (lt rfl (lt rfl (lt rfl (lt rfl (lt rfl (lt rfl (lt rfl (lt rfl (lt rfl (lt rfl (lt rfl (lt rfl (lt rfl (lt rfl (lt rfl (lt rfl (lt rfl (lt rfl (lt rfl (lt rfl (lt rfl (lt rfl (lt rfl (lt rfl (lt rfl (lt rfl (lt rfl (lt rfl (s0)))))))))))))))))))))))))))))) rfl ?_
      refine WL.yes rfl rfl (lt rfl (lh)) (decide_eq_false h2) ?_
      refine WL.x (X.nilck (lh)) rfl ?_
      refine WL.yes rfl rfl (lt rfl (lt rfl (lh))) (decide_eq_false h2) ?_
      refine WL.x (X.fieldAddr fd88_0 (lh)) rfl ?_
      refine WL.yes rfl rfl (lt rfl (lt rfl (lt rfl (lh)))) (decide_eq_false h2) ?_
      refine WL.x (X.load pl69 (lh) (by first | assumption) (by first | rfl | assumption)) rfl ?_
      refine WL.yes rfl rfl (lt rfl (lt rfl (lt rfl (lt rfl (lh))))) (decide_eq_false h2) ?_
      refine WL.x (X.indexAddr Tryd.underlying69 el80 (lh) lc (by omega) (by omega)) rfl ?_
      refine WL.yes rfl rfl (lt rfl (lt rfl (lt rfl (lt rfl (lt rfl (lh)))))) (decide_eq_false h2) ?_
      refine WL.x (X.fieldAddr fd80_2 (lh)) rfl ?_
      refine WL.yes rfl rfl (lt rfl (lt rfl (lt rfl (lt rfl (lt rfl (lt rfl (lh))))))) (decide_eq_false h2) ?_
      refine WL.x (X.load pl9 (lh) hm1 (v := .string tk.2.2.1) (hk1 2 (by decide))) rfl ?_
      refine WL.yes rfl rfl (lt rfl (lt rfl (lt rfl (lt rfl (lt rfl (lt rfl (lt rfl (lh)))))))) (decide_eq_false h2) ?_
      refine WL.x (X.mv (lt rfl (lt rfl (lt rfl (lt rfl (lt rfl (lt rfl (lt rfl (lt rfl (lt rfl (lt rfl (lt rfl (lt rfl (lt rfl (lt rfl (lt rfl (lt rfl (lt rfl (lt rfl (lt rfl (lt rfl (lt rfl (lt rfl (lt rfl (lt rfl (lt rfl (lt rfl (lt rfl (lt rfl (lt rfl (lt rfl (lt rfl (lt rfl (lt rfl (lt rfl (lt rfl (s2))))))))))))))))))))))))))))))))))))) rfl ?_
      refine WL.yes rfl rfl (lt rfl (lt rfl (lt rfl (lt rfl (lt rfl (lt rfl (lt rfl (lt rfl (lh))))))))) (decide_eq_false h2) ?_
      refine WL.x (X.eqlS (lt rfl (lh)) (lh)) rfl ?_
      refine WL.yes rfl rfl (lt rfl (lt rfl (lt rfl (lt rfl (lt rfl (lt rfl (lt rfl (lt rfl (lt rfl (lt rfl (lt rfl (lt rfl (lh))))))))))))) (decide_eq_true h1) ?_
      refine WL.x (X.pickF (lt rfl (lt rfl (lt rfl (lt rfl (lt rfl (lt rfl (lt rfl (lt rfl (lt rfl (lh)))))))))) (decide_eq_false h2) (lh)) rfl ?_
      refine WL.x (X.pickT (lt rfl (lt rfl (lt rfl (lt rfl (lt rfl (lt rfl (lt rfl (lt rfl (lt rfl (lt rfl (lt rfl (lt rfl (lt rfl (lh)))))))))))))) (decide_eq_true h1) (lh)) rfl ?_
      refine WL.x (X.asg (lh)) rfl ?_
      refine WL.e1 Nx.thn 6 (lh) ?_
      intro σ3 s6
      refine W.ret1 Nx.f1 s6 ?_
      exact ⟨congrArg Value.bool (by unfold seesB; simp [*]), rfl⟩
  · refine WL.no rfl rfl (lh) (decide_eq_false h1) rfl ?_
    refine WL.no rfl rfl (lt rfl (lh)) (decide_eq_false h1) rfl ?_
    refine WL.no rfl rfl (lt rfl (lt rfl (lh))) (decide_eq_false h1) rfl ?_
    refine WL.nou rfl (lh) rfl ?_
    refine WL.nou rfl (lt rfl (lh)) rfl ?_
    refine WL.nou rfl (lt rfl (lt rfl (lh))) rfl ?_
    refine WL.nou rfl (lt rfl (lt rfl (lt rfl (lh)))) rfl ?_
    refine WL.nou rfl (lt rfl (lt rfl (lt rfl (lt rfl (lh))))) rfl ?_
    refine WL.nou rfl (lt rfl (lt rfl (lt rfl (lt rfl (lt rfl (lh)))))) rfl ?_
    refine WL.nou rfl (lt rfl (lt rfl (lt rfl (lt rfl (lt rfl (lt rfl (lh))))))) rfl ?_
    refine WL.nou rfl (lt rfl (lt rfl (lt rfl (lt rfl (lt rfl (lt rfl (lt rfl (lh)))))))) rfl ?_
    refine WL.nou rfl (lt rfl (lt rfl (lt rfl (lt rfl (lt rfl (lt rfl (lt rfl (lt rfl (lh))))))))) rfl ?_
    refine WL.no rfl rfl (lt rfl (lt rfl (lt rfl (lt rfl (lt rfl (lt rfl (lt rfl (lt rfl (lt rfl (lt rfl (lt rfl (lt rfl (lh))))))))))))) (decide_eq_false h1) rfl ?_
    refine WL.x (X.pickF (lt rfl (lt rfl (lt rfl (lt rfl (lt rfl (lt rfl (lt rfl (lt rfl (lt rfl (lt rfl (lt rfl (lt rfl (lt rfl (lh)))))))))))))) (decide_eq_false h1) lc) rfl ?_
    refine WL.x (X.asg (lh)) rfl ?_
    refine WL.e1 Nx.thn 6 (lh) ?_
    intro σ4 s6
    refine W.ret1 Nx.f1 s6 ?_
    exact ⟨congrArg Value.bool (by unfold seesB; simp [*]), rfl⟩

theorem ris_ok (B p : Nat) (e : Int) (fl : Fl) (ts : List Tok) (kind : Int) (text : ByteArray) (w : World) (h : RS B p e fl ts w) : Sg.Ret Tryd.prog 43 #[.pointer (some ⟨p, 0, none⟩), .int .i64 kind, .string text] w fun v w' => v = .bool (!fl.1 && seesB ts kind text) ∧ w = w' := by
  obtain ⟨b, a0, y0⟩ := fl
  cases b with
  | true => exact ris_bad B p e a0 y0 ts kind text w h
  | false =>
    cases ts with
    | nil => exact ris_nil B p e a0 y0 kind text w h
    | cons tk r => exact ris_cons B p e a0 y0 tk r kind text w h

theorem rfail_bad (B p : Nat) (e a0 y0 : Int) (ts : List Tok) (why : Int) (w : World) (h : RS B p e (true, a0, y0) ts w) :
    Sg.Ret Tryd.prog 45 #[.pointer (some ⟨p, 0, none⟩), .int .i64 why] w fun _ w' => RS B p e (true, a0, y0) ts w' ∧ Ch (fun j => j = p) w w' := by
  have hh := h
  obtain ⟨hpB, hB, v, hp, hr⟩ := h
  obtain ⟨a, c, rfl⟩ := hr.len
  refine enter0 (n := 38) (l := [.pointer (some ⟨p, 0, none⟩), .int .i64 why]) Tryd.func45 rfl rfl rfl rfl ?_
  refine W.g2 0 1 (v1 := .pointer (some ⟨p, 0, none⟩)) (v2 := .int .i64 why) rfl rfl ?_; intro σ s0 s1
  refine W.seq ?_
  refine W.seq ?_
  refine W.region ?_
  refine WL.x (X.mv (s0)) rfl ?_
  refine WL.x (X.nilck (lh)) rfl ?_
  refine WL.x (X.fieldAddr fd88_2 (lh)) rfl ?_
  refine WL.x (X.load pl4 (lh) (by first | assumption) (by first | rfl | assumption)) rfl ?_
  refine WL.e3 Nx.thn 0 1 7 (lt rfl (lt rfl (lt rfl (lt rfl (s0))))) (lt rfl (lt rfl (lt rfl (lt rfl (s1))))) (lh) ?_
  intro σ1 s0 s1 s7
  refine W.cndBT s7 (rfl) ?_
  refine W.ret0 (Nx.rthn Nx.f0)  ?_
  exact ⟨hh, Ch.refl _ _⟩
theorem rfail_nil (B p : Nat) (e a0 y0 : Int)  (why : Int) (w : World) (h : RS B p e (false, a0, y0) [] w) :
    Sg.Ret Tryd.prog 45 #[.pointer (some ⟨p, 0, none⟩), .int .i64 why] w fun _ w' => RS B p e (true, atP e [], why) [] w' ∧ Ch (fun j => j = p) w w' := by
  obtain ⟨hpB, hB, v, hp, hr⟩ := h
  obtain ⟨a, c, rfl⟩ := hr.len
  refine enter0 (n := 38) (l := [.pointer (some ⟨p, 0, none⟩), .int .i64 why]) Tryd.func45 rfl rfl rfl rfl ?_
  refine W.g2 0 1 (v1 := .pointer (some ⟨p, 0, none⟩)) (v2 := .int .i64 why) rfl rfl ?_; intro σ s0 s1
  refine W.seq ?_
  refine W.seq ?_
  refine W.region ?_
  refine WL.x (X.mv (s0)) rfl ?_
  refine WL.x (X.nilck (lh)) rfl ?_
  refine WL.x (X.fieldAddr fd88_2 (lh)) rfl ?_
  refine WL.x (X.load pl4 (lh) (by first | assumption) (by first | rfl | assumption)) rfl ?_
  refine WL.e3 Nx.thn 0 1 7 (lt rfl (lt rfl (lt rfl (lt rfl (s0))))) (lt rfl (lt rfl (lt rfl (lt rfl (s1))))) (lh) ?_
  intro σ1 s0 s1 s7
  refine W.cndBF s7 (rfl) ?_
  refine W.skip Nx.thn ?_
  refine W.seq ?_
  refine W.region ?_
  refine WL.x (X.mv (s0)) rfl ?_
  refine WL.x (X.mv (lt rfl (s0))) rfl ?_
  refine WL.x (X.mv (lt rfl (lt rfl (s0)))) rfl ?_
  refine WL.x (X.mv (lt rfl (lt rfl (lt rfl (s0))))) rfl ?_
  refine WL.x (X.nilck (lh)) rfl ?_
  refine WL.x (X.fieldAddr fd88_1 (lh)) rfl ?_
  refine WL.x (X.load pl3 (lh) (by first | assumption) (by first | rfl | assumption)) rfl ?_
  refine WL.x (X.mv (lt rfl (lt rfl (lt rfl (lt rfl (lt rfl (lt rfl (lt rfl (s1))))))))) rfl ?_
  refine WL.x (X.nilck (lt rfl (lt rfl (lt rfl (lt rfl (lt rfl (lt rfl (lt rfl (lh))))))))) rfl ?_
  refine WL.x (X.fieldAddr fd88_2 (lh)) rfl ?_
  refine WL.store el4 (lh) lc rfl hp (show 0 + 2 < 5 by decide) ?_
  intro w1 us
  have hp1 : w1.heap[p]? = some (.cells #[.slice a ([] : List Tok).length c, .int .i64 e, .bool true, .int .i64 a0, .int .i64 y0] 88 (0, 0)) := us.at_
  have cf1 := us.ch
  refine WL.x (X.nilck (lt rfl (lt rfl (lt rfl (lt rfl (lt rfl (lt rfl (lt rfl (lt rfl (lh)))))))))) rfl ?_
  refine WL.x (X.fieldAddr fd88_3 (lh)) rfl ?_
  refine WL.store el3 (lh) (lt rfl (lt rfl (lt rfl (lt rfl (lt rfl (lh)))))) rfl hp1 (show 0 + 3 < 5 by decide) ?_
  intro w2 us
  have hp2 : w2.heap[p]? = some (.cells #[.slice a ([] : List Tok).length c, .int .i64 e, .bool true, .int .i64 e, .int .i64 y0] 88 (0, 0)) := us.at_
  have cf2 := us.ch
  refine WL.x (X.nilck (lt rfl (lt rfl (lt rfl (lt rfl (lt rfl (lt rfl (lt rfl (lt rfl (lt rfl (lh))))))))))) rfl ?_
  refine WL.x (X.fieldAddr fd88_4 (lh)) rfl ?_
  refine WL.store el31 (lh) (lt rfl (lt rfl (lt rfl (lt rfl (lt rfl (lt rfl (lh))))))) rfl hp2 (show 0 + 4 < 5 by decide) ?_
  intro w3 us
  have hp3 : w3.heap[p]? = some (.cells #[.slice a ([] : List Tok).length c, .int .i64 e, .bool true, .int .i64 e, .int .i64 why] 88 (0, 0)) := us.at_
  have cf3 := us.ch
  refine WL.e1 Nx.thn 0 (lt rfl (lt rfl (lt rfl (lt rfl (lt rfl (lt rfl (lt rfl (lt rfl (lt rfl (lt rfl (lt rfl (lt rfl (lt rfl (lt rfl (s0))))))))))))))) ?_
  intro σ2 s0
  refine W.seq ?_
  refine W.region ?_
  refine WL.x (X.mv (s0)) rfl ?_
  refine WL.x (X.nilck (lh)) rfl ?_
  refine WL.x (X.fieldAddr fd88_0 (lh)) rfl ?_
  refine WL.x (X.load pl69 (lh) (by first | assumption | exact cf3.at (by assumption) (by intro hne; first | exact hne | ((try dsimp only at hne); omega)) | exact cf3.at (cf2.at (by assumption) (by intro hne; first | exact hne | ((try dsimp only at hne); omega))) (by intro hne; first | exact hne | ((try dsimp only at hne); omega)) | exact cf3.at (cf2.at (cf1.at (by assumption) (by intro hne; first | exact hne | ((try dsimp only at hne); omega))) (by intro hne; first | exact hne | ((try dsimp only at hne); omega))) (by intro hne; first | exact hne | ((try dsimp only at hne); omega))) (by first | rfl | assumption)) rfl ?_
  refine WL.x (X.lenSl Tryd.underlying69 (lh)) rfl ?_
  refine WL.x (X.gtr (lh) lc) rfl ?_
  refine WL.e2 Nx.thn 0 27 (lt rfl (lt rfl (lt rfl (lt rfl (lt rfl (lt rfl (s0))))))) (lh) ?_
  intro σ3 s0 s27
  refine W.cndN s27 (by simp) ?_
  refine W.skip Nx.n0 ?_
  have hS := ((cf1.trans cf2 (H := fun j => j = p) (fun _ _ e => e) (fun _ _ e => e)).trans cf3 (H := fun j => j = p) (fun _ _ e => e) (fun _ _ e => e))
  exact ⟨⟨hpB, Nat.le_trans hB hS.size, _, hp3, hr.ch (monRc _) hS (fun j hj e => hj.1 e) (fun _ hj => hj)⟩, hS⟩
theorem rfail_cons (B p : Nat) (e a0 y0 : Int) (tk : Tok) (r : List Tok) (why : Int) (w : World) (h : RS B p e (false, a0, y0) (tk :: r) w) :
    Sg.Ret Tryd.prog 45 #[.pointer (some ⟨p, 0, none⟩), .int .i64 why] w fun _ w' => RS B p e (true, atP e (tk :: r), why) (tk :: r) w' ∧ Ch (fun j => j = p) w w' := by
  obtain ⟨hpB, hB, v, hp, hr⟩ := h
  obtain ⟨a, c, rfl⟩ := hr.len
  obtain ⟨b1, o1, cs1, T1, fr1, rfl, hm1, he1, hb1p, hk1⟩ := hr.get (k := 0) (by simp)
  have hlen : 0 < (tk :: r).length := by simp
  refine enter0 (n := 38) (l := [.pointer (some ⟨p, 0, none⟩), .int .i64 why]) Tryd.func45 rfl rfl rfl rfl ?_
  refine W.g2 0 1 (v1 := .pointer (some ⟨p, 0, none⟩)) (v2 := .int .i64 why) rfl rfl ?_; intro σ s0 s1
  refine W.seq ?_
  refine W.seq ?_
  refine W.region ?_
  refine WL.x (X.mv (s0)) rfl ?_
  refine WL.x (X.nilck (lh)) rfl ?_
  refine WL.x (X.fieldAddr fd88_2 (lh)) rfl ?_
  refine WL.x (X.load pl4 (lh) (by first | assumption) (by first | rfl | assumption)) rfl ?_
  refine WL.e3 Nx.thn 0 1 7 (lt rfl (lt rfl (lt rfl (lt rfl (s0))))) (lt rfl (lt rfl (lt rfl (lt rfl (s1))))) (lh) ?_
  intro σ1 s0 s1 s7
  refine W.cndBF s7 (rfl) ?_
  refine W.skip Nx.thn ?_
  refine W.seq ?_
  refine W.region ?_
  refine WL.x (X.mv (s0)) rfl ?_
  refine WL.x (X.mv (lt rfl (s0))) rfl ?_
  refine WL.x (X.mv (lt rfl (lt rfl (s0)))) rfl ?_
  refine WL.x (X.mv (lt rfl (lt rfl (lt rfl (s0))))) rfl ?_
  refine WL.x (X.nilck (lh)) rfl ?_
  refine WL.x (X.fieldAddr fd88_1 (lh)) rfl ?_
  refine WL.x (X.load pl3 (lh) (by first | assumption) (by first | rfl | assumption)) rfl ?_
  refine WL.x (X.mv (lt rfl (lt rfl (lt rfl (lt rfl (lt rfl (lt rfl (lt rfl (s1))))))))) rfl ?_
  refine WL.x (X.nilck (lt rfl (lt rfl (lt rfl (lt rfl (lt rfl (lt rfl (lt rfl (lh))))))))) rfl ?_
  refine WL.x (X.fieldAddr fd88_2 (lh)) rfl ?_
  refine WL.store el4 (lh) lc rfl hp (show 0 + 2 < 5 by decide) ?_
  intro w1 us
  have hp1 : w1.heap[p]? = some (.cells #[.slice (some ⟨b1, o1, none⟩) (tk :: r).length c, .int .i64 e, .bool true, .int .i64 a0, .int .i64 y0] 88 (0, 0)) := us.at_
  have cf1 := us.ch
  refine WL.x (X.nilck (lt rfl (lt rfl (lt rfl (lt rfl (lt rfl (lt rfl (lt rfl (lt rfl (lh)))))))))) rfl ?_
  refine WL.x (X.fieldAddr fd88_3 (lh)) rfl ?_
  refine WL.store el3 (lh) (lt rfl (lt rfl (lt rfl (lt rfl (lt rfl (lh)))))) rfl hp1 (show 0 + 3 < 5 by decide) ?_
  intro w2 us
  have hp2 : w2.heap[p]? = some (.cells #[.slice (some ⟨b1, o1, none⟩) (tk :: r).length c, .int .i64 e, .bool true, .int .i64 e, .int .i64 y0] 88 (0, 0)) := us.at_
  have cf2 := us.ch
  refine WL.x (X.nilck (lt rfl (lt rfl (lt rfl (lt rfl (lt rfl (lt rfl (lt rfl (lt rfl (lt rfl (lh))))))))))) rfl ?_
  refine WL.x (X.fieldAddr fd88_4 (lh)) rfl ?_
  refine WL.store el31 (lh) (lt rfl (lt rfl (lt rfl (lt rfl (lt rfl (lt rfl (lh))))))) rfl hp2 (show 0 + 4 < 5 by decide) ?_
  intro w3 us
  have hp3 : w3.heap[p]? = some (.cells #[.slice (some ⟨b1, o1, none⟩) (tk :: r).length c, .int .i64 e, .bool true, .int .i64 e, .int .i64 why] 88 (0, 0)) := us.at_
  have cf3 := us.ch
  refine WL.e1 Nx.thn 0 (lt rfl (lt rfl (lt rfl (lt rfl (lt rfl (lt rfl (lt rfl (lt rfl (lt rfl (lt rfl (lt rfl (lt rfl (lt rfl (lt rfl (s0))))))))))))))) ?_
  intro σ2 s0
  refine W.seq ?_
  refine W.region ?_
  refine WL.x (X.mv (s0)) rfl ?_
  refine WL.x (X.nilck (lh)) rfl ?_
  refine WL.x (X.fieldAddr fd88_0 (lh)) rfl ?_
  refine WL.x (X.load pl69 (lh) (by first | assumption | exact cf3.at (by assumption) (by intro hne; first | exact hne | ((try dsimp only at hne); omega)) | exact cf3.at (cf2.at (by assumption) (by intro hne; first | exact hne | ((try dsimp only at hne); omega))) (by intro hne; first | exact hne | ((try dsimp only at hne); omega)) | exact cf3.at (cf2.at (cf1.at (by assumption) (by intro hne; first | exact hne | ((try dsimp only at hne); omega))) (by intro hne; first | exact hne | ((try dsimp only at hne); omega))) (by intro hne; first | exact hne | ((try dsimp only at hne); omega))) (by first | rfl | assumption)) rfl ?_
  refine WL.x (X.lenSl Tryd.underlying69 (lh)) rfl ?_
  refine WL.x (X.gtr (lh) lc) rfl ?_
  refine WL.e2 Nx.thn 0 27 (lt rfl (lt rfl (lt rfl (lt rfl (lt rfl (lt rfl (s0))))))) (lh) ?_
  intro σ3 s0 s27
  refine W.cndY s27 (by simp) ?_
  refine W.region ?_
  refine WL.x (X.mv (s0)) rfl ?_
  refine WL.x (X.mv (lt rfl (s0))) rfl ?_
  refine WL.x (X.nilck (lh)) rfl ?_
  refine WL.x (X.fieldAddr fd88_0 (lh)) rfl ?_
  refine WL.x (X.load pl69 (lh) (by first | assumption | exact cf3.at (by assumption) (by intro hne; first | exact hne | ((try dsimp only at hne); omega)) | exact cf3.at (cf2.at (by assumption) (by intro hne; first | exact hne | ((try dsimp only at hne); omega))) (by intro hne; first | exact hne | ((try dsimp only at hne); omega)) | exact cf3.at (cf2.at (cf1.at (by assumption) (by intro hne; first | exact hne | ((try dsimp only at hne); omega))) (by intro hne; first | exact hne | ((try dsimp only at hne); omega))) (by intro hne; first | exact hne | ((try dsimp only at hne); omega))) (by first | rfl | assumption)) rfl ?_
  refine WL.x (X.indexAddr Tryd.underlying69 el80 (lh) lc (by omega) (by omega)) rfl ?_
  refine WL.x (X.fieldAddr fd80_1 (lh)) rfl ?_
  refine WL.x (X.load pl3 (lh) (cf3.at (cf2.at (cf1.at hm1 (fun e => hb1p.1 e)) (fun e => hb1p.1 e)) (fun e => hb1p.1 e)) (v := .int .i64 tk.2.1) (hk1 1 (by decide))) rfl ?_
  refine WL.x (X.nilck (lt rfl (lt rfl (lt rfl (lt rfl (lt rfl (lt rfl (lt rfl (lh))))))))) rfl ?_
  refine WL.x (X.fieldAddr fd88_3 (lh)) rfl ?_
  refine WL.store el3 (lh) (lt rfl (lt rfl (lh))) rfl hp3 (show 0 + 3 < 5 by decide) ?_
  intro w4 us
  have hp4 : w4.heap[p]? = some (.cells #[.slice (some ⟨b1, o1, none⟩) (tk :: r).length c, .int .i64 e, .bool true, .int .i64 tk.2.1, .int .i64 why] 88 (0, 0)) := us.at_
  have cf4 := us.ch
  refine WL.e0 Nx.n0  ?_
  intro σ4 
  have hS := (((cf1.trans cf2 (H := fun j => j = p) (fun _ _ e => e) (fun _ _ e => e)).trans cf3 (H := fun j => j = p) (fun _ _ e => e) (fun _ _ e => e)).trans cf4 (H := fun j => j = p) (fun _ _ e => e) (fun _ _ e => e))
  exact ⟨⟨hpB, Nat.le_trans hB hS.size, _, hp4, hr.ch (monRc _) hS (fun j hj e => hj.1 e) (fun _ hj => hj)⟩, hS⟩

theorem rfail_ok (B p : Nat) (e : Int) (fl : Fl) (ts : List Tok) (why : Int) (w : World) (h : RS B p e fl ts w) : Sg.Ret Tryd.prog 45 #[.pointer (some ⟨p, 0, none⟩), .int .i64 why] w fun _ w' => RS B p e (failF e ts why fl) ts w' ∧ Ch (fun j => j = p) w w' := by
  obtain ⟨b, a0, y0⟩ := fl
  cases b with
  | true => exact rfail_bad B p e a0 y0 ts why w h
  | false =>
    cases ts with
    | nil => exact rfail_nil B p e a0 y0 why w h
    | cons tk r => exact rfail_cons B p e a0 y0 tk r why w h

set_option maxHeartbeats 800000 in
theorem rwant_ok (B p : Nat) (e : Int) (fl : Fl) (ts : List Tok) (kind : Int) (text : ByteArray) (w : World) (h : RS B p e fl ts w) :
    Sg.Ret Tryd.prog 44 #[.pointer (some ⟨p, 0, none⟩), .int .i64 kind, .string text] w fun v w' => v = .agg (ftk (mayT ts (!fl.1 && seesB ts kind text))).toArray ∧ RS B p e (if (!fl.1 && seesB ts kind text) = true then fl else failF e ts 20 fl) (mayL ts (!fl.1 && seesB ts kind text)) w' ∧ Ch (fun j => j = p) w w' := by
  refine enterG (n := 31) (l := [.pointer (some ⟨p, 0, none⟩), .int .i64 kind, .string text]) Tryd.func44 rfl rfl rfl rfl ?_
  refine W.g3 0 1 2 (v1 := .pointer (some ⟨p, 0, none⟩)) (v2 := .int .i64 kind) (v3 := .string text) rfl rfl rfl ?_; intro σ s0 s1 s2
  refine W.seq ?_
  refine W.region ?_
  refine WL.alloc el80 rfl ?_
  intro w1 u0_0; have hu0_0 := u0_0.at_; have cu0_0 := u0_0.ch; have zu0_0 := u0_0.size
  refine WL.e4 Nx.thn 0 1 2 6 (lt rfl (s0)) (lt rfl (s1)) (lt rfl (s2)) (lh) ?_
  intro σ1 s0 s1 s2 s6
  refine W.seq ?_
  refine W.seq ?_
  refine W.region ?_
  refine WL.x (X.mv (s0)) rfl ?_
  refine WL.x (X.mv (lt rfl (s1))) rfl ?_
  refine WL.x (X.mv (lt rfl (lt rfl (s2)))) rfl ?_
  refine WL.call3 ce43 (lt rfl (lt rfl (lh))) (lt rfl (lh)) (lh) (ris_ok B p e fl ts kind text w1 (h.ch0 cu0_0)) rfl ?_
  rintro _ _ ⟨rfl, rfl⟩
  refine WL.x (X.not (lh)) rfl ?_
  refine WL.e3 Nx.thn 0 6 12 (lt rfl (lt rfl (lt rfl (lt rfl (lt rfl (s0)))))) (lt rfl (lt rfl (lt rfl (lt rfl (lt rfl (s6)))))) (lh) ?_
  intro σ2 s0 s6 s12
  refine W.cnd s12 (fun hs => ?_) (fun hs => ?_)
  · have hsb : (!fl.1 && seesB ts kind text) = false := by
      cases hq : (!fl.1 && seesB ts kind text)
      · rfl
      · rw [hq] at hs; cases hs
    have hBw := h.2.1
    have hpB := h.1
    refine W.seq ?_
    refine W.region ?_
    refine WL.x (X.mv (s0)) rfl ?_
    refine WL.call2 ce45 (lh) lc (rfail_ok B p e fl ts 20 w1 (h.ch0 cu0_0)) rfl ?_
    rintro v8 w2 ⟨hps, cx⟩
    refine WL.e1 Nx.thn 6 (lt rfl (lt rfl (s6))) ?_
    intro σ3 s6
    refine W.seq ?_
    refine W.region ?_
    refine WL.x (X.build bd80 pnil rfl (rfl : _ = [_, _, _, _])) rfl ?_
    refine WL.storeS (vs := ftk (0, 0, ⟨#[]⟩, 0)) ag80 (lt rfl (s6)) (lh) (List.all_eq_true.2 (ftk_one _)) rfl (cx.at hu0_0 (fun e => by (try dsimp only at e); omega)) (by first | decide | (simp; done)) ?_
    intro w3 us
    have hfin := show (w3.heap[(_ : Nat)]? = some (Obj.cells (ftk (0, 0, ⟨#[]⟩, 0)).toArray 80 (0, 0))) from us.at_
    have csr := us.ch
    refine WL.e1 Nx.thn 6 (lt rfl (s6)) ?_
    intro σ4 s6
    refine W.retG (Nx.rthn Nx.fG) ⟨[_], (.cell s6 (by first | assumption | exact csr.at (by assumption) (by intro hne; first | exact hne | ((try dsimp only at hne); omega)) | exact csr.at (cx.at (by assumption) (by intro hne; first | exact hne | ((try dsimp only at hne); omega))) (by intro hne; first | exact hne | ((try dsimp only at hne); omega)) | exact csr.at (cx.at (cu0_0.at0 (by assumption)) (by intro hne; first | exact hne | ((try dsimp only at hne); omega))) (by intro hne; first | exact hne | ((try dsimp only at hne); omega))) (by exact ag80) .nil), ?_⟩
    rw [hsb]
    exact ⟨rfl, hps.own csr (fun j hj e => by (try dsimp only at e); omega), (cu0_0.trans cx (H := fun j => j = p) (fun _ _ e => e.elim) (fun _ _ e => e)).trans csr (H := fun j => j = p) (fun _ _ e => e) (fun q hq e => by (try dsimp only at e); omega)⟩
  · have hsb : (!fl.1 && seesB ts kind text) = true := by
      cases hq : (!fl.1 && seesB ts kind text)
      · rw [hq] at hs; cases hs
      · rfl
    have hsb2 : seesB ts kind text = true := by rw [Bool.and_eq_true] at hsb; exact hsb.2
    obtain ⟨tk, r, rfl⟩ : ∃ tk r, ts = tk :: r := by
      cases ts with
      | nil => cases hsb2
      | cons tk r => exact ⟨tk, r, rfl⟩
    obtain ⟨hpB, hBw, v, hp, hr⟩ := h
    have hp := cu0_0.at0 hp
    have hr := hr.ch0 (monRc _) cu0_0
    obtain ⟨a, c, rfl⟩ := hr.len
    obtain ⟨b1, o1, cs1, T1, fr1, rfl, hm1, he1, hbp, hk1⟩ := hr.get (k := 0) (by simp)
    have hlen : 0 < (tk :: r).length := by simp
    have hlp := lt_of_blk hp
    refine W.skip Nx.thn ?_
    refine W.seq ?_
    refine W.region ?_
    refine WL.x (X.mv (s0)) rfl ?_
    refine WL.x (X.nilck (lh)) rfl ?_
    refine WL.x (X.fieldAddr fd88_0 (lh)) rfl ?_
    refine WL.x (X.load pl69 (lh) (by first | assumption | exact cu0_0.at0 (by assumption)) (by first | rfl | assumption)) rfl ?_
    refine WL.x (X.indexAddr Tryd.underlying69 el80 (lh) lc (by omega) (by omega)) rfl ?_
    refine WL.x (X.loadS (vs := ftk tk) ag80 (lh) hm1 he1 (fun i hi => hk1 i hi)) rfl ?_
    refine WL.alloc el80 rfl ?_
    intro w4 u4_6; have hu4_6 := u4_6.at_; have cu4_6 := u4_6.ch; have zu4_6 := u4_6.size
    refine WL.storeS (vs := ftk tk) ag80 (lh) (lt rfl (lh)) (List.all_eq_true.2 (ftk_one tk)) rfl hu4_6 (by first | decide | (simp; done)) ?_
    intro w5 us
    have htk := show (w5.heap[(_ : Nat)]? = some (Obj.cells (ftk tk).toArray 80 (0, 0))) from us.at_
    have cst := us.ch
    have hc3 := cu4_6.trans cst (H := fun _ => False) (fun _ _ e => e) (fun q hq e => by (try dsimp only at e); omega)
    have hp := hc3.at0 hp
    have hr := hr.ch0 (monRc _) hc3
    have hu0 := hc3.at0 hu0_0
    refine WL.e3 Nx.thn 0 6 7 (lt rfl (lt rfl (lt rfl (lt rfl (lt rfl (lt rfl (lt rfl (s0)))))))) (lt rfl (lt rfl (lt rfl (lt rfl (lt rfl (lt rfl (lt rfl (s6)))))))) (lh) ?_
    intro σ5 s0 s6 s7
    refine W.seq ?_
    refine W.region ?_
    refine WL.x (X.mv (s0)) rfl ?_
    refine WL.x (X.mv (lt rfl (s0))) rfl ?_
    refine WL.x (X.nilck (lh)) rfl ?_
    refine WL.x (X.fieldAddr fd88_0 (lh)) rfl ?_
    refine WL.x (X.load pl69 (lh) (by first | assumption | exact cst.at (by assumption) (by intro hne; first | exact hne | ((try dsimp only at hne); omega)) | exact cst.at (cu4_6.at0 (by assumption)) (by intro hne; first | exact hne | ((try dsimp only at hne); omega)) | exact cst.at (cu4_6.at0 (cu0_0.at0 (by assumption))) (by intro hne; first | exact hne | ((try dsimp only at hne); omega))) (by first | rfl | assumption)) rfl ?_
    obtain ⟨ad, had⟩ : ∃ ad, ad = (if (c : Int) = 1 then (⟨b1, o1, none⟩ : Addr) else (⟨b1, o1, none⟩ : Addr).add (1 * 4)) := ⟨_, rfl⟩
    refine WL.x (v := .slice (some ad) r.length (c - 1)) (by rw [had, show r.length = (((tk :: r).length : Int) - 1).toNat by simp, show c - 1 = ((c : Int) - 1).toNat by omega]; exact X.slL Tryd.underlying69 el80 (lh) lc (by omega) (by omega)) rfl ?_
    refine WL.x (X.nilck (lt rfl (lt rfl (lt rfl (lt rfl (lt rfl (lh))))))) rfl ?_
    refine WL.x (X.fieldAddr fd88_0 (lh)) rfl ?_
    refine WL.store el69 (lh) (lt rfl (lt rfl (lh))) rfl hp (show 0 + 0 < 5 by decide) ?_
    intro w6 us
    have hp2 : w6.heap[p]? = some (.cells #[.slice (some ad) r.length (c - 1), .int .i64 e, .bool fl.1, .int .i64 fl.2.1, .int .i64 fl.2.2] 88 (0, 0)) := us.at_
    have csp := us.ch
    have hr2 := (rsl_tail hr ad had).ch (monRc _) csp (fun j hj e => hj.1 e) (fun j hj => hj)
    have htk := csp.at htk (fun e => by (try dsimp only at e); omega)
    have hu0 := csp.at hu0 (fun e => by (try dsimp only at e); omega)
    have hcp : Ch (fun j => j = p) w w6 := (cu0_0.trans0 hc3).trans csp (H := fun j => j = p) (fun _ _ e => e.elim) (fun _ _ e => e)
    refine WL.e2 Nx.thn 6 7 (lt rfl (lt rfl (lt rfl (lt rfl (lt rfl (lt rfl (lt rfl (lt rfl (s6))))))))) (lt rfl (lt rfl (lt rfl (lt rfl (lt rfl (lt rfl (lt rfl (lt rfl (s7))))))))) ?_
    intro σ6 s6 s7
    refine W.seq ?_
    refine W.region ?_
    refine WL.x (X.loadBox (vs := ftk tk) ag80 (s7) htk rfl) rfl ?_
    refine WL.storeS (vs := ftk tk) ag80 (lt rfl (s6)) (lh) (List.all_eq_true.2 (ftk_one tk)) rfl hu0 (by first | decide | (simp; done)) ?_
    intro w7 us
    have hfin := show (w7.heap[(_ : Nat)]? = some (Obj.cells (ftk tk).toArray 80 (0, 0))) from us.at_
    have csr := us.ch
    refine WL.e1 Nx.thn 6 (lt rfl (s6)) ?_
    intro σ7 s6
    refine W.retG Nx.fG ⟨[_], (.cell s6 (by first | assumption | exact csr.at (by assumption) (by intro hne; first | exact hne | ((try dsimp only at hne); omega)) | exact csr.at (csp.at (by assumption) (by intro hne; first | exact hne | ((try dsimp only at hne); omega))) (by intro hne; first | exact hne | ((try dsimp only at hne); omega)) | exact csr.at (csp.at (cst.at (by assumption) (by intro hne; first | exact hne | ((try dsimp only at hne); omega))) (by intro hne; first | exact hne | ((try dsimp only at hne); omega))) (by intro hne; first | exact hne | ((try dsimp only at hne); omega)) | exact csr.at (csp.at (cst.at (cu4_6.at0 (by assumption)) (by intro hne; first | exact hne | ((try dsimp only at hne); omega))) (by intro hne; first | exact hne | ((try dsimp only at hne); omega))) (by intro hne; first | exact hne | ((try dsimp only at hne); omega)) | exact csr.at (csp.at (cst.at (cu4_6.at0 (cu0_0.at0 (by assumption))) (by intro hne; first | exact hne | ((try dsimp only at hne); omega))) (by intro hne; first | exact hne | ((try dsimp only at hne); omega))) (by intro hne; first | exact hne | ((try dsimp only at hne); omega))) (by exact ag80) .nil), ?_⟩
    rw [hsb]
    have hsz1 := hcp.size
    have hsz2 := csr.size
    exact ⟨rfl, ⟨hpB, by omega, _, csr.at hp2 (fun e => by (try dsimp only at e); omega), hr2.ch (monRc _) csr (fun j hj e => by have := hj.2; (try dsimp only at e); omega) (fun j hj => hj)⟩, hcp.trans csr (H := fun j => j = p) (fun _ _ e => e) (fun q hq e => by (try dsimp only at e); omega)⟩

def rwI (fl : Fl) (ts : List Tok) (W : List ByteArray) : Option Nat := if fl.1 = true then none else wordI ts W
theorem rwI_some {fl : Fl} {ts : List Tok} {W : List ByteArray} {j : Nat} (hj : j < W.length) (h : (!fl.1 && seesB ts 1 W[j]) = true) (h2 : ∀ i (hi : i < W.length), i < j → (!fl.1 && seesB ts 1 W[i]) = false) : rwI fl ts W = some j := by
  obtain ⟨b, a, y⟩ := fl
  cases b with
  | true => cases h
  | false => unfold rwI; rw [if_neg (by simp)]; exact wordI_some hj h h2
theorem rwI_none {fl : Fl} {ts : List Tok} {W : List ByteArray} (h2 : ∀ i (hi : i < W.length), (!fl.1 && seesB ts 1 W[i]) = false) : rwI fl ts W = none := by
  obtain ⟨b, a, y⟩ := fl
  cases b with
  | true => rfl
  | false => unfold rwI; rw [if_neg (by simp)]; exact wordI_none h2
set_option maxHeartbeats 800000 in
theorem rword_ok (B p g c : Nat) (e : Int) (fl : Fl) (ts : List Tok) (Ws : List ByteArray) (w : World) (h : RS B p e fl ts w) (hg : w.heap[g]? = some (.cells (Ws.map Value.string).toArray 9 (0, 0))) (hW : Ws.length ≤ 100) :
    Sg.Ret Tryd.prog 73 #[.pointer (some ⟨p, 0, none⟩), .slice (some ⟨g, 0, none⟩) Ws.length c] w fun v w' => (∀ j, rwI fl ts Ws = some j → v = .int .i64 ((j : Int) + 1) ∧ RS B p e fl ts.tail w') ∧ (rwI fl ts Ws = none → v = .int .i64 0 ∧ RS B p e (failF e ts 20 fl) ts w') ∧ Ch (fun j => j = p) w w' := by
  refine enter1 (n := 25) (l := [.pointer (some ⟨p, 0, none⟩), .slice (some ⟨g, 0, none⟩) Ws.length c]) Tryd.func73 rfl rfl rfl rfl ?_
  refine W.g2 0 1 (v1 := .pointer (some ⟨p, 0, none⟩)) (v2 := .slice (some ⟨g, 0, none⟩) Ws.length c) rfl rfl ?_; intro σ s0 s1
  refine W.seq ?_
  refine W.region ?_
  refine WL.x (X.asg lc) rfl ?_
  refine WL.e2 Nx.thn 0 1 (lt rfl (s0)) (lt rfl (s1)) ?_
  intro σ1 s0 s1
  refine W.seq ?_
  refine W.seq ?_
  refine W.region ?_
  refine WL.x (X.mv (s1)) rfl ?_
  refine WL.x (X.lenSl Tryd.underlying36 (lh)) rfl ?_
  refine WL.x (X.mv lc) rfl ?_
  refine WL.e4 Nx.thn 0 7 8 9 (lt rfl (lt rfl (lt rfl (s0)))) (lt rfl (lt rfl (lh))) (lt rfl (lh)) (lh) ?_
  intro σ2 s0 s7 s8 s9
  refine W.block ?_
  have qo1 := s0
  have qo2 := s7
  have qo3 := s8
  -- loop 0: kept [0, 7, 8], varied [9]
  refine W.loop (G := Nat) (fun j σ' w' => (σ' 0 = σ2 0 ∧ σ' 7 = σ2 7 ∧ σ' 8 = σ2 8 ∧ True) ∧ (σ' 9 = .int .i64 (j : Int) ∧ j ≤ Ws.length ∧ (∀ i (hi : i < Ws.length), i < j → (!fl.1 && seesB ts 1 Ws[i]) = false) ∧ w = w')) (fun j => Ws.length - j) (0) ⟨⟨rfl, rfl, rfl, trivial⟩, s9, by omega, (fun i _ h2 => absurd h2 (by omega)), rfl⟩ ?_
  rintro j σ3 w1 ⟨⟨f0, f7, f8, _⟩, s9, hj, hno, hw⟩
  have s0 := f0.trans qo1
  have s7 := f7.trans qo2
  have s8 := f8.trans qo3
  refine W.seq ?_
  refine W.region ?_
  refine WL.x (X.lss (s9) (s8)) rfl ?_
  refine WL.e5 Nx.thn 0 7 8 9 10 (lt rfl (s0)) (lt rfl (s7)) (lt rfl (s8)) (lt rfl (s9)) (lh) ?_
  intro σ4 s0 s7 s8 s9 s10
  refine W.seq ?_
  refine W.cndp s10 (fun hlt => ?_) (fun hlt => ?_)
  · have h := hw ▸ h
    have hg := hw ▸ hg
    have hjl : j < Ws.length := by omega
    refine W.skip Nx.thn ?_
    refine W.seq ?_
    refine W.block ?_
    refine W.seq ?_
    refine W.region ?_
    refine WL.x (X.mv (s9)) rfl ?_
    refine WL.x (X.indexAddr Tryd.underlying36 el9 (lt rfl (s7)) (lt rfl (s9)) (by omega) (by omega)) rfl ?_
    refine WL.x (X.load pl9 (lh) hg (v := .string Ws[j]) (by rw [List.getElem?_toArray, show 0 + (j : Int).toNat * 1 = j by omega, List.getElem?_map, List.getElem?_eq_getElem hjl]; rfl)) rfl ?_
    refine WL.x (X.asg (lt rfl (lt rfl (lh)))) rfl ?_
    refine WL.x (X.asg (lt rfl (lh))) rfl ?_
    refine WL.e6 Nx.thn 0 5 6 7 8 9 (lt rfl (lt rfl (lt rfl (lt rfl (lt rfl (s0)))))) (lt rfl (lh)) (lh) (lt rfl (lt rfl (lt rfl (lt rfl (lt rfl (s7)))))) (lt rfl (lt rfl (lt rfl (lt rfl (lt rfl (s8)))))) (lt rfl (lt rfl (lt rfl (lt rfl (lt rfl (s9)))))) ?_
    intro σ5 s0 s5 s6 s7 s8 s9
    refine W.seq ?_
    refine W.region ?_
    refine WL.x (X.mv (s0)) rfl ?_
    refine WL.x (X.mv (lt rfl (s6))) rfl ?_
    refine WL.call3 ce43 (lt rfl (lh)) lc (lh) (ris_ok B p e fl ts 1 Ws[j] w1 h) rfl ?_
    rintro _ _ ⟨rfl, rfl⟩
    refine WL.e7 Nx.thn 0 5 6 7 8 9 16 (lt rfl (lt rfl (lt rfl (s0)))) (lt rfl (lt rfl (lt rfl (s5)))) (lt rfl (lt rfl (lt rfl (s6)))) (lt rfl (lt rfl (lt rfl (s7)))) (lt rfl (lt rfl (lt rfl (s8)))) (lt rfl (lt rfl (lt rfl (s9)))) (lh) ?_
    intro σ6 s0 s5 s6 s7 s8 s9 s16
    refine W.cnd s16 (fun hs => ?_) (fun hs => ?_)
    · have hri := rwI_some hjl hs hno
      refine W.seq ?_
      refine W.region ?_
      refine WL.x (X.mv (s0)) rfl ?_
      refine WL.x (X.mv (lt rfl (s6))) rfl ?_
      refine WL.call3 ce44 (lt rfl (lh)) lc (lh) (rwant_ok B p e fl ts 1 Ws[j] w1 h) rfl ?_
      rintro _ w2 ⟨rfl, hps, cx⟩
      rw [hs] at hps
      refine WL.e1 Nx.thn 5 (lt rfl (lt rfl (lt rfl (s5)))) ?_
      intro σ7 s5
      refine W.seq ?_
      refine W.region ?_
      refine WL.x (X.mv (s5)) rfl ?_
      first | refine WL.x (X.add (lh) lc (by omega) (by omega)) rfl ?_ | refine WL.x (X.addw (lh) lc) rfl ?_
      refine WL.x (X.asg (lh)) rfl ?_
      refine WL.e1 Nx.thn 4 (lh) ?_
      intro σ8 s4
      refine W.ret1 (Nx.rblk (Nx.rthn (Nx.rthn (Nx.rblk (Nx.rthn Nx.f1))))) s4 ?_
      refine ⟨fun i hi => ?_, fun hn => ?_, (by rw [hw]; exact cx)⟩
      · rw [hri] at hi; injection hi with hi; subst hi; exact ⟨rfl, hps⟩
      · rw [hri] at hn; cases hn
    · refine W.skip (Nx.blk Nx.thn) ?_
      refine W.region ?_
      first | refine WL.x (X.add (s9) lc (by omega) (by omega)) rfl ?_ | refine WL.x (X.addw (s9) lc) rfl ?_
      refine WL.x (X.mv (lh)) rfl ?_
      refine WL.e4 Nx.thn 0 7 8 9 (lt rfl (lt rfl (s0))) (lt rfl (lt rfl (s7))) (lt rfl (lt rfl (s8))) (lh) ?_
      intro σ9 s0 s7 s8 s9
      refine ⟨j + 1, by omega, ⟨s0.trans qo1.symm, s7.trans qo2.symm, s8.trans qo3.symm, trivial⟩, s9, by omega, (fun i h1 h2 => by by_cases e : i = j; (· subst e; exact hs); (· exact hno i h1 (by omega))), hw⟩
  · have h := hw ▸ h
    refine W.exit (Nx.xthn (Nx.xthn (Nx.xblk Nx.thn))) ?_
    refine W.seq ?_
    refine W.region ?_
    refine WL.x (X.mv (s0)) rfl ?_
    refine WL.call2 ce45 (lh) lc (rfail_ok B p e fl ts 20 w1 h) rfl ?_
    rintro v8 w3 ⟨hps, cx⟩
    refine WL.e0 Nx.thn  ?_
    intro σ10 
    refine W.seq ?_
    refine W.region ?_
    refine WL.x (X.asg lc) rfl ?_
    refine WL.e1 Nx.thn 4 (lh) ?_
    intro σ11 s4
    refine W.ret1 Nx.f1 s4 ?_
    have hri := rwI_none (fl := fl) (ts := ts) (W := Ws) (fun i hi => hno i hi (by omega))
    refine ⟨fun i hi => ?_, fun _ => ⟨rfl, hps⟩, (by rw [hw]; exact cx)⟩
    rw [hri] at hi; cases hi
set_option maxHeartbeats 800000 in
theorem rkey_ok (B p : Nat) (e : Int) (fl : Fl) (ts : List Tok) (w : World) (h : RS B p e fl ts w) :
    Sg.Ret Tryd.prog 90 #[.pointer (some ⟨p, 0, none⟩)] w fun v w' => (∃ x, v = .string x ∧ ((!fl.1 && seesB ts 1 no) = true ∧ (hdX ts).size ≤ 6 → x = hdX ts)) ∧ RS B p e (if (!fl.1 && seesB ts 1 no) = true ∧ (hdX ts).size ≤ 6 then fl else failF e ts 20 fl) (if (!fl.1 && seesB ts 1 no) = true ∧ (hdX ts).size ≤ 6 then ts.tail else ts) w' ∧ Ch (fun j => j = p) w w' := by
  refine enter1 (n := 21) (l := [.pointer (some ⟨p, 0, none⟩)]) Tryd.func90 rfl rfl rfl rfl ?_
  refine W.g1 0 (v1 := .pointer (some ⟨p, 0, none⟩)) rfl ?_; intro σ s0
  refine W.seq ?_
  refine W.region ?_
  refine WL.x (X.asg lc) rfl ?_
  refine WL.e1 Nx.thn 0 (lt rfl (s0)) ?_
  intro σ1 s0
  refine W.seq ?_
  refine W.seq ?_
  refine W.region ?_
  refine WL.x (X.mv (s0)) rfl ?_
  refine WL.call3 ce43 (lh) lc lc (ris_ok B p e fl ts 1 ⟨#[]⟩ w h) rfl ?_
  rintro _ _ ⟨rfl, rfl⟩
  refine WL.x (X.mv (lh)) rfl ?_
  refine WL.split (lh) (fun hs => ?_) (fun hs => ?_)
  · refine WL.yes rfl rfl (lh) (hs) ?_
    obtain ⟨tk, r, rfl⟩ : ∃ tk r, ts = tk :: r := by
      cases ts with
      | nil => exfalso; rw [show seesB [] 1 ⟨#[]⟩ = false from rfl, Bool.and_false] at hs; cases hs
      | cons tk r => exact ⟨tk, r, rfl⟩
    have hq := h
    obtain ⟨hpB, hBw, v9, hp, hr⟩ := hq
    obtain ⟨a9, c9, rfl⟩ := hr.len
    obtain ⟨b1, o1, cs1, T1, fr1, rfl, hm1, he1, hbp, hk1⟩ := hr.get (k := 0) (by simp)
    have hlen : 0 < (tk :: r).length := by simp
    have hfl : fl.1 = false := by
      rw [Bool.and_eq_true] at hs
      simpa using hs.1
    refine WL.x (X.mv (lt rfl (lt rfl (lt rfl (s0))))) rfl ?_
    refine WL.yes rfl rfl (lt rfl (lh)) (hs) ?_
    refine WL.x (X.nilck (lh)) rfl ?_
    refine WL.yes rfl rfl (lt rfl (lt rfl (lh))) (hs) ?_
    refine WL.x (X.fieldAddr fd88_0 (lh)) rfl ?_
    refine WL.yes rfl rfl (lt rfl (lt rfl (lt rfl (lh)))) (hs) ?_
    refine WL.x (X.load pl69 (lh) (by first | assumption) (by first | rfl | assumption)) rfl ?_
    refine WL.yes rfl rfl (lt rfl (lt rfl (lt rfl (lt rfl (lh))))) (hs) ?_
    refine WL.x (X.indexAddr Tryd.underlying69 el80 (lh) lc (by omega) (by omega)) rfl ?_
    refine WL.yes rfl rfl (lt rfl (lt rfl (lt rfl (lt rfl (lt rfl (lh)))))) (hs) ?_
    refine WL.x (X.fieldAddr fd80_2 (lh)) rfl ?_
    refine WL.yes rfl rfl (lt rfl (lt rfl (lt rfl (lt rfl (lt rfl (lt rfl (lh))))))) (hs) ?_
    refine WL.x (X.load pl9 (lh) hm1 (v := .string tk.2.2.1) (hk1 2 (by decide))) rfl ?_
    refine WL.yes rfl rfl (lt rfl (lt rfl (lt rfl (lt rfl (lt rfl (lt rfl (lt rfl (lh)))))))) (hs) ?_
    refine WL.x (X.lenSt Tryd.underlying9 (lh)) rfl ?_
    refine WL.yes rfl rfl (lt rfl (lt rfl (lt rfl (lt rfl (lt rfl (lt rfl (lt rfl (lt rfl (lh))))))))) (hs) ?_
    refine WL.x (X.gtr (lh) lc) rfl ?_
    refine WL.x (X.pickT (lt rfl (lt rfl (lt rfl (lt rfl (lt rfl (lt rfl (lt rfl (lt rfl (lt rfl (lh)))))))))) (hs) (lh)) rfl ?_
    refine WL.e2 Nx.thn 0 15 (lt rfl (lt rfl (lt rfl (lt rfl (lt rfl (lt rfl (lt rfl (lt rfl (lt rfl (lt rfl (lt rfl (lt rfl (lt rfl (s0)))))))))))))) (lh) ?_
    intro σ2 s0 s15
    refine W.cndp s15 (fun hb => ?_) (fun hb => ?_)
    · refine W.region ?_
      refine WL.x (X.mv (s0)) rfl ?_
      refine WL.call2 ce45 (lh) lc (rfail_ok B p e fl (tk :: r) 20 w h) rfl ?_
      rintro v8 w1 ⟨hps, cx⟩
      have hff : failF e (tk :: r) 20 fl = (true, atP e (tk :: r), 20) := by unfold failF; rw [if_neg (by rw [hfl]; simp)]
      rw [hff] at hps
      refine WL.e1 Nx.thn 0 (lt rfl (lt rfl (s0))) ?_
      intro σ3 s0
      refine W.seq ?_
      refine W.region ?_
      refine WL.x (X.mv (s0)) rfl ?_
      refine WL.call3 ce44 (lh) lc lc (rwant_ok B p e (true, atP e (tk :: r), 20) (tk :: r) 1 ⟨#[]⟩ w1 hps) rfl ?_
      rintro _ w2 ⟨rfl, hk, cy⟩
      first | refine WL.x (X.field fv80_2 (lh) (by rfl)) rfl ?_ | refine WL.x (X.field fv80_2 (lh) (by assumption)) rfl ?_
      refine WL.x (X.asg (lh)) rfl ?_
      refine WL.e1 Nx.thn 2 (lh) ?_
      intro σ4 s2
      refine W.ret1 Nx.f1 s2 ?_
      refine ⟨⟨_, rfl, fun hg => absurd (show tk.2.2.1.size ≤ 6 from hg.2) (by omega)⟩, ?_, cx.trans cy (H := fun j => j = p) (fun _ _ e => e) (fun _ _ e => e)⟩
      have hng : ¬ ((!fl.1 && seesB (tk :: r) 1 no) = true ∧ (hdX (tk :: r)).size ≤ 6) := fun hg => absurd (show tk.2.2.1.size ≤ 6 from hg.2) (by omega)
      rw [if_neg hng, if_neg hng, hff]
      exact hk
    · refine W.skip Nx.thn ?_
      refine W.seq ?_
      refine W.region ?_
      refine WL.x (X.mv (s0)) rfl ?_
      refine WL.call3 ce44 (lh) lc lc (rwant_ok B p e fl (tk :: r) 1 ⟨#[]⟩ w h) rfl ?_
      rintro _ w3 ⟨rfl, hk, cy⟩
      first | refine WL.x (X.field fv80_2 (lh) (by rfl)) rfl ?_ | refine WL.x (X.field fv80_2 (lh) (by assumption)) rfl ?_
      refine WL.x (X.asg (lh)) rfl ?_
      refine WL.e1 Nx.thn 2 (lh) ?_
      intro σ5 s2
      refine W.ret1 Nx.f1 s2 ?_
      have hg : (!fl.1 && seesB (tk :: r) 1 no) = true ∧ (hdX (tk :: r)).size ≤ 6 := ⟨hs, show tk.2.2.1.size ≤ 6 by omega⟩
      rw [show (!fl.1 && seesB (tk :: r) 1 ⟨#[]⟩) = true from hs] at hk
      refine ⟨⟨_, rfl, fun _ => by rw [hs]; rfl⟩, ?_, cy⟩
      rw [if_pos hg, if_pos hg]
      exact hk
  · refine WL.no rfl rfl (lh) (hs) rfl ?_
    refine WL.no rfl rfl (lt rfl (lh)) (hs) rfl ?_
    refine WL.no rfl rfl (lt rfl (lt rfl (lh))) (hs) rfl ?_
    refine WL.no rfl rfl (lt rfl (lt rfl (lt rfl (lh)))) (hs) rfl ?_
    refine WL.no rfl rfl (lt rfl (lt rfl (lt rfl (lt rfl (lh))))) (hs) rfl ?_
    refine WL.no rfl rfl (lt rfl (lt rfl (lt rfl (lt rfl (lt rfl (lh)))))) (hs) rfl ?_
    refine WL.no rfl rfl (lt rfl (lt rfl (lt rfl (lt rfl (lt rfl (lt rfl (lh))))))) (hs) rfl ?_
    refine WL.no rfl rfl (lt rfl (lt rfl (lt rfl (lt rfl (lt rfl (lt rfl (lt rfl (lh)))))))) (hs) rfl ?_
    refine WL.no rfl rfl (lt rfl (lt rfl (lt rfl (lt rfl (lt rfl (lt rfl (lt rfl (lt rfl (lh))))))))) (hs) rfl ?_
    refine WL.x (X.pickF (lt rfl (lt rfl (lt rfl (lt rfl (lt rfl (lt rfl (lt rfl (lt rfl (lt rfl (lh)))))))))) (hs) lc) rfl ?_
    refine WL.e2 Nx.thn 0 15 (lt rfl (lt rfl (lt rfl (lt rfl (lt rfl (lt rfl (lt rfl (lt rfl (lt rfl (lt rfl (lt rfl (lt rfl (lt rfl (s0)))))))))))))) (lh) ?_
    intro σ6 s0 s15
    refine W.cndF s15 ?_
    refine W.skip Nx.thn ?_
    refine W.seq ?_
    refine W.region ?_
    refine WL.x (X.mv (s0)) rfl ?_
    refine WL.call3 ce44 (lh) lc lc (rwant_ok B p e fl ts 1 ⟨#[]⟩ w h) rfl ?_
    rintro _ w4 ⟨rfl, hk, cy⟩
    first | refine WL.x (X.field fv80_2 (lh) (by rfl)) rfl ?_ | refine WL.x (X.field fv80_2 (lh) (by assumption)) rfl ?_
    refine WL.x (X.asg (lh)) rfl ?_
    refine WL.e1 Nx.thn 2 (lh) ?_
    intro σ7 s2
    refine W.ret1 Nx.f1 s2 ?_
    have hng : ¬ ((!fl.1 && seesB ts 1 no) = true ∧ (hdX ts).size ≤ 6) := fun hg => by have := hg.1; rw [show (!fl.1 && seesB ts 1 no) = false from hs] at this; cases this
    rw [show (!fl.1 && seesB ts 1 ⟨#[]⟩) = false from hs] at hk
    refine ⟨⟨_, rfl, fun hg => absurd hg hng⟩, ?_, cy⟩
    rw [if_neg hng, if_neg hng]
    exact hk
end Go.Proofs.YtjnkpjehpdlcbaaDoor
