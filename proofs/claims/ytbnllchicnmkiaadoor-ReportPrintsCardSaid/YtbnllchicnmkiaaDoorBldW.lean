/-
  A strings.Builder inside a struct of the call's own: the steps of its library code; pieces of text that are strings or integers behind an empty interface.
-/
import Derived.Test.YtbnllchicnmkiaaDoorBld
import Derived.Test.YtbnllchicnmkiaaDoorNumer
import Derived.Lib.Builder
import Derived.Lib.AppendStr
import Derived.Lib.UnsafeStr
import Derived.Laws.Externs
set_option linter.unusedVariables false
set_option linter.unusedSimpArgs false
namespace Sg
open Go Go.RowKit
section
variable {P : Program} {n : Sz} {Q : Post} {σ : Env} {w : World} {ops : Array Oper} {rest : List Oper}
variable {d : Nat} {t xt yt : TypeId} {pos : String} {af : Array Edge} {x y : Operand} {b : Nat} {cs : Array Value} {T : TypeId} {fr : Nat × Nat}
theorem X.toU {src dst : TypeId} {te : TypeId} {j : TypeInfo} (hs : P.underlying src = some (.pointer te)) (hd : P.underlying dst = some .unsafePointer) (ht : P.info? te = some j) (hj : j.size ≠ 0) (hx : ev σ x = .pointer (some ⟨b, 0, none⟩)) (hm : w.heap[b]? = some (.cells cs T fr)) (h0 : 0 < cs.size) :
    X P σ w (.convert src dst x) t (.pointer (some ⟨b, 0, none⟩)) := fun _ _ _ _ => by
  have := Lib.run_to_unsafe (P := P) w (e := T) (cells := cs.size) ⟨b, 0, none⟩ hs hd ht hj (by simp [World.shape?, hm]) h0
  simp [execOp, hx, this]
theorem X.fromU {src dst : TypeId} {u : TypeId} {j : TypeInfo} (hs : P.underlying src = some .unsafePointer) (hd : P.underlying dst = some (.pointer u)) (hu : P.info? u = some j) (hx : ev σ x = .pointer (some ⟨b, 0, none⟩)) (hm : w.heap[b]? = some (.cells cs T fr))
    (hl : liesAt P P.depth T (cs.size / P.cellsOf T) 0 u 1 = true) : X P σ w (.convert src dst x) t (.pointer (some ⟨b, 0, none⟩)) := fun _ _ _ _ => by
  have := Lib.run_from_unsafe (P := P) w (e := T) (cells := cs.size) ⟨b, 0, none⟩ hs hd hu (by simp [World.shape?, hm]) hl
  simp [execOp, hx, this]
theorem X.noesc {f : Nat} {fn : Func} {tys : Array TypeId} {v : Value} (hf : P.funcs[f]? = some fn) (hname : (fn.name == "runtime.NumGoroutine") = false) (hb : fn.body.isNone = true) (hn : Extern.findNext fn = none) (he : Extern.find fn = some Extern.AbiNoEscape.same) (hx : ev σ x = v) :
    X P σ w (.call ⟨.value (.func f), #[x], tys⟩) t v := fun _ _ _ _ => by
  have h := run_callFunc_extern hf hname hb hn he #[v] w
  rw [Lib.run_noEscape] at h
  have h : (callFunc f #[v]).run P w = .ok (.value v) w := h
  simp [execOp, resolve, Deferred.ofValue, invoke, ev, hx, h]
  simp [ev] at hx
  first | done | simp [hx, h]
theorem X.neqPS {te : TypeId} {j : TypeInfo} {a : Addr} (hp : P.underlying xt = some (.pointer te)) (hte : P.info? te = some j) (hx : ev σ x = .pointer (some a)) (hy : ev σ y = .pointer (some a)) : X P σ w (.binOp .neq xt x y yt) t (.bool false) := fun _ _ _ _ => by
  have hg : (eqGuard .neq xt x y (.pointer (some a)) (.pointer (some a))).run P w = .ok () w := by simp [eqGuard]
  have hb := Lib.run_neq_ptr_same (P := P) w a hp hte
  simp [execOp, hx, hy, hg, hb]
/-- append(b, s...) of a string's bytes. -/
theorem WL.appStr {sl : Operand} {ut e ty : TypeId} {base m : Nat} {vs : Value} {xs : List Value} {s : ByteArray} (hs : P.underlying xt = some (.slice e)) (hu : P.underlying ut = some .string) (he : Elem P e 1 (.int .u8 0) 1)
    (h1 : ev σ sl = vs) (h2 : ev σ x = .string s) (hown : w.ownsRow base e 1 vs m xs) (g1 : m + s.size ≤ maxLen) (g2 : m + s.size ≤ 140737488355328) (g3 : base ≤ w.heap.size) (hn : Nat.blt d n.sz = true)
    (h : ∀ v' w', w'.ownsRow base e 1 v' (m + s.size) (xs ++ Lib.strCells s) → Ch (slBlk vs) w w' → WL P n ops Q rest (up σ d v') w') :
    WL P n ops Q (⟨some d, .call ⟨.builtin .append, #[sl, x], #[xt, ut]⟩, ty, pos, af, none⟩ :: rest) σ w := by
  obtain ⟨i, hi, hi1, hzz, hby⟩ := he
  obtain ⟨v', w', hr, h3, h4, h5⟩ := Lib.run_append_own_string (P := P) w base xt ut ty e i hs hu hi hzz hi1 hby vs m xs hown s g1 g2 g3
  have hblk : ∀ k, some k ≠ vs.ownBlock ↔ ¬ slBlk vs k := by
    intro k
    rcases hown.2 with ⟨rfl, _⟩ | ⟨g, cap, cur, rfl, _⟩
    · simp [Value.ownBlock, slBlk]
    · simp [Value.ownBlock, slBlk]
  have hch : Ch (slBlk vs) w w' := ⟨h4.os, h4.tape, h4.output, h4.size, fun k hk hn => h4.block k hk ((hblk k).2 hn)⟩
  refine WL.step (w' := w') rfl rfl hn ?_ (h v' w' h3 hch)
  simp [execOp, resolve, invoke, builtin, h1, h2, hr]
/-! ### Strings or integers -/
inductive Pt where
  | s : ByteArray → Pt
  | n : Int → Pt
def Pt.isN : Pt → Bool
  | .s _ => false
  | .n _ => true
def Pt.str : Pt → ByteArray
  | .s a => a
  | .n _ => ⟨#[]⟩
def Pt.num : Pt → Int
  | .s _ => 0
  | .n z => z
def Pt.txt : Pt → Bs
  | .s a => sb a
  | .n z => Lib.itoa z
def ptV (st it : TypeId) : Pt → Value
  | .s a => .iface st (.string a)
  | .n z => .iface it (.int .i64 z)
theorem X.tassS {st it : TypeId} {p : Pt} {bytes : Nat} (hs : P.underlying st = some .string) (hel : Elem P st 1 (.string ⟨#[]⟩) bytes) (hne : it ≠ st) (hx : ev σ x = ptV st it p) : X P σ w (.typeAssert x xt st true) t (.tuple #[.string p.str, .bool (!p.isN)]) := fun _ _ _ _ => by
  obtain ⟨i, hi, _, hzv, _⟩ := hel
  have hzero : (zeroValue st).run P w = .ok (.string ⟨#[]⟩) w := by simp [zeroValue, typeInfo, hi, hzv]
  cases p with
  | s a =>
    have hx : ev σ x = .iface st (.string a) := hx
    simp [execOp, hx, Instr.typeAssert, run_underlying hs, Pt.str, Pt.isN]
  | n z =>
    have hx : ev σ x = .iface it (.int .i64 z) := hx
    simp [execOp, hx, Instr.typeAssert, run_underlying hs, Pt.str, Pt.isN, hne, hzero]
theorem X.tassN {st it : TypeId} {p : Pt} {bytes : Nat} (hs : P.underlying it = some (.int .i64)) (hel : Elem P it 1 (.int .i64 0) bytes) (hne : st ≠ it) (hx : ev σ x = ptV st it p) : X P σ w (.typeAssert x xt it true) t (.tuple #[.int .i64 p.num, .bool p.isN]) := fun _ _ _ _ => by
  obtain ⟨i, hi, _, hzv, _⟩ := hel
  have hzero : (zeroValue it).run P w = .ok (.int .i64 0) w := by simp [zeroValue, typeInfo, hi, hzv]
  cases p with
  | s a =>
    have hx : ev σ x = .iface st (.string a) := hx
    simp [execOp, hx, Instr.typeAssert, run_underlying hs, Pt.num, Pt.isN, hne, hzero]
  | n z =>
    have hx : ev σ x = .iface it (.int .i64 z) := hx
    simp [execOp, hx, Instr.typeAssert, run_underlying hs, Pt.num, Pt.isN]
/-- What is written of pieces: blanks between, nothing of an empty one; whether something stands in the line. -/
def putF : Bool → List Pt → Bs × Bool
  | fr, [] => ([], fr)
  | fr, p :: r => if p.txt = [] then putF fr r else ((if fr = true then [32] else []) ++ (p.txt ++ (putF true r).1), (putF true r).2)
theorem putF_skip {fr : Bool} {p : Pt} {r : List Pt} (h : p.txt = []) : putF fr (p :: r) = putF fr r := by unfold putF; rw [if_pos h]; cases r <;> rfl
theorem putF_go {fr : Bool} {p : Pt} {r : List Pt} (h : p.txt ≠ []) : putF fr (p :: r) = ((if fr = true then [32] else []) ++ (p.txt ++ (putF true r).1), (putF true r).2) := by
  conv => lhs; unfold putF
  rw [if_neg h]
/-! ### A builder's end -/
theorem X.slData {tb : TypeId} {g k c : Nat} (hx : ev σ x = .slice (some ⟨g, 0, none⟩) k c) (hc : c ≠ 0) : X P σ w (.call ⟨.builtin .unsafeSliceData, #[x], #[tb]⟩) t (.pointer (some ⟨g, 0, none⟩)) := fun _ _ _ _ => by
  have := Lib.run_unsafeSliceData_row (P := P) w #[tb] t ⟨g, 0, none⟩ k c hc
  simp [execOp, resolve, invoke, builtin, hx, this]
theorem ch_freeze {g m : Nat} : Ch (fun j => j = g) w (w.freeze ⟨g, 0, none⟩ m) := by
  unfold World.freeze
  split
  · exact Ch.refl _ _
  · exact ⟨rfl, rfl, rfl, by simp, fun k hk hn => by
      show (w.heap.modify g _)[k]? = w.heap[k]?
      rw [Array.getElem?_modify, if_neg (fun e => hn e.symm)]⟩
theorem WL.usStr {pt it e : TypeId} {g base : Nat} {l : Bs} {cap : Nat} (hp : P.underlying pt = some (.pointer e)) (hc : P.cellsOf e = 1) (hx : ev σ x = .pointer (some ⟨g, 0, none⟩)) (hy : ev σ y = .int .i64 (l.length : Int)) (hl : l ≠ [])
    (hown : w.ownsRow base e 1 (.slice (some ⟨g, 0, none⟩) l.length cap) l.length (Lib.byteCells l)) (hn : Nat.blt d n.sz = true) (h : Ch (fun j => j = g) w (w.freeze ⟨g, 0, none⟩ l.length) → WL P n ops Q rest (up σ d (.string (bs l))) (w.freeze ⟨g, 0, none⟩ l.length)) :
    WL P n ops Q (⟨some d, .call ⟨.builtin .unsafeString, #[x, y], #[pt, it]⟩, t, pos, af, none⟩ :: rest) σ w := by
  obtain ⟨cur, hg, hcm, hcs, hcap⟩ : ∃ cur, w.heap[g]? = some (.cells cur e (0, 0)) ∧ cap ≤ maxLen ∧ cur.size = cap * 1 ∧ l.length ≤ cap := by
    rcases hown.2 with ⟨h0, _⟩ | ⟨g', cap', cur, hv, hbg, hg, hnc, hcm, hcs, htake⟩
    · cases h0
    · injection hv with h1 _ h3
      injection h1 with h1; injection h1 with h1 _ _
      subst h1; subst h3
      exact ⟨cur, hg, hcm, hcs, hnc⟩
  have hUS : (Builtin.unsafeString_ #[pt, it] t #[.pointer (some ⟨g, 0, none⟩), .int .i64 l.length]).run P w = .ok (.string ⟨l.toArray⟩) (w.freeze ⟨g, 0, none⟩ l.length) := by
    refine Lib.run_unsafeString_row w pt it t e hp hc g cur.size (by simp [World.shape?, hg]) l hl (by omega) (by unfold maxLen at hcm; omega) ?_
    intro j x hx
    exact hown.cells (g := g) rfl j (.int .u8 x.toNat) (by simp [Lib.byteCells, hx])
  refine WL.step (w' := w.freeze ⟨g, 0, none⟩ l.length) rfl rfl hn ?_ (h ch_freeze)
  simp [execOp, resolve, invoke, builtin, hx, hy, hUS]
  rfl
theorem wpAnyH_weak {md : Region.Mode} {Q' : Exit → Act → World → Prop} {S S' : World → Prop} (hS : ∀ w', S' w' → S w') : ∀ (fuel : Nat) (listed : Array Bool) (a : Act) (w : World), wpAnyH P md ops Q' S' fuel listed a w → wpAnyH P md ops Q' S fuel listed a w
  | 0, _, _, _, h => h
  | fuel + 1, _, _, _, h => ⟨h.1, fun i hi => wpOp_mono (fun a' w' h' => ⟨hS _ h'.1, wpAnyH_weak hS fuel _ a' w' h'.2⟩) (h.2 i hi)⟩
/-- More is held from here on. -/
theorem WH.grow {S S' : World → Prop} {fuel : Nat} {listed : Array Bool} (hS : ∀ w', S' w' → S w') (h : WH P n ops S' Q fuel listed σ w) : WH P n ops S Q fuel listed σ w := fun a ha => wpAnyH_weak hS _ _ _ _ (h a ha)
end
end Sg
