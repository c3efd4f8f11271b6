/-
  Strings by their bytes; values behind interfaces; scopes.
-/
import Derived.Test.YtfnhhgoefanloaaDoorHeld
import Derived.Test.YtfnhhgoefanloaaDoorScan
import Derived.Scope
import Derived.Laws.BytesString
namespace Sg
open Go Go.RowKit
def ngo (Q : Post) : Post
  | .goto _, _, _ => False
  | e, σ, w => Q e σ w
theorem Nx.ngN {Q : Post} {K : Env → World → Prop} (h : Nx Q .normal K) : Nx (ngo Q) .normal K := h
theorem Nx.ngX {i : Nat} {Q : Post} {K : Env → World → Prop} (h : Nx Q (.exit i) K) : Nx (ngo Q) (.exit i) K := h
theorem Nx.ngR {Q : Post} {K : Env → World → Prop} (h : Nx Q .ret K) : Nx (ngo Q) .ret K := h
abbrev sb (s : ByteArray) : Bs := s.data.toList
theorem sb_len (s : ByteArray) : (sb s).length = s.size := show s.data.toList.length = s.data.size from Array.length_toList
theorem sb_bs (l : Bs) : sb (bs l) = l := rfl
theorem bs_sb (s : ByteArray) : bs (sb s) = s := ByteArray.ext (show s.data.toList.toArray = s.data from Array.toArray_toList)
theorem bs_inj {a b : Bs} (h : bs a = bs b) : a = b := by have := congrArg sb h; rwa [sb_bs, sb_bs] at this
theorem size_bs (l : Bs) : (bs l).size = l.length := by rw [← sb_len, sb_bs]
theorem sub_bs (s : ByteArray) (i j : Nat) : s.extract i j = bs (((sb s).drop i).take (j - i)) := by
  refine ByteArray.ext ?_
  apply Array.ext'
  simp only [ByteArray.data_extract, bs]
  rw [Array.toList_extract, List.extract_eq_take_drop]
theorem sub_at {s : ByteArray} {i k : Nat} : s.extract i (i + k) = bs (((sb s).drop i).take k) := by rw [sub_bs]; congr 2; omega
theorem app_bs (a b : ByteArray) : a ++ b = bs (sb a ++ sb b) := by
  refine ByteArray.ext ?_
  apply Array.ext'
  simp [bs, sb]
section
variable {P : Program} {n : Sz} {Q : Post} {σ : Env} {w : World} {ops : Array Oper} {rest : List Oper}
variable {d : Nat} {t xt yt : TypeId} {pos : String} {af : Array Edge} {x y : Operand} {s s' : ByteArray} {k : IntKind} {p : Int} {i j : Nat}
theorem W.scope {c : Code} (h : W P n c (ngo Q) σ w) : W P n (.scope c) Q σ w := by
  intro a ha
  refine wp_scope_straight (wp_mono (h a ha) ?_)
  rintro e a' w' ⟨σ', hs, hq⟩
  cases e <;> first | exact hq.elim | exact ⟨σ', hs, hq⟩
theorem X.idxS (hs : P.underlying xt = some .string) (hx : ev σ x = .string s) (hy : ev σ y = .int k p) (h0 : 0 ≤ p) (h1 : p < s.size) : X P σ w (.index xt x y) t (.int .u8 ((bat (sb s) p.toNat : Nat) : Int)) := fun _ _ _ _ => by
  have hl : p.toNat < s.size := by omega
  have e1 : s[p.toNat]? = some s[p.toNat] := by simp [hl]
  have e2 : s[p.toNat].toNat = bat (sb s) p.toNat := by
    rw [bat_get (by rw [sb_len]; exact hl)]; rfl
  have hr : (Instr.index xt (.string s) (.int k p)).run P w = .ok (.int .u8 ((bat (sb s) p.toNat : Nat) : Int)) w := by
    simp [Instr.index, asIntOf, run_underlying hs, h0, e1, e2]
  simp [execOp, hx, hy, hr]
theorem X.idxN (hs : P.underlying xt = some .string) (hx : ev σ x = .string s) (hy : ev σ y = .int k (i : Int)) (h1 : i < s.size) : X P σ w (.index xt x y) t (.int .u8 ((bat (sb s) i : Nat) : Int)) := by
  have := X.idxS (w := w) (t := t) hs hx hy (by omega) (by omega)
  rwa [Int.toNat_natCast] at this
theorem run_subBounds {kl kh : IntKind} {lo hi : Int} {m : Nat} (g0 : 0 ≤ lo) (g1 : lo ≤ hi) (g2 : hi ≤ m) : (Instr.sliceBounds false m m (some (.int kl lo)) (some (.int kh hi)) none).run P w = .ok (lo.toNat, hi.toNat, m) w := by
  have e1 := run_sliceBound (P := P) w kh hi m .sliceAlen (by omega) g2
  have e2 := run_sliceBound (P := P) w kl lo hi.toNat .sliceB (by omega) (by omega)
  simp [Instr.sliceBounds, e1, e2]
theorem X.subS {kl kh : IntKind} {lo hi : Operand} {a b : Int} (hs : P.underlying xt = some .string) (hx : ev σ x = .string s) (h1 : ev σ lo = .int kl a) (h2 : ev σ hi = .int kh b) (g0 : 0 ≤ a) (g1 : a ≤ b) (g2 : b ≤ s.size) :
    X P σ w (.slice xt x (some lo) (some hi) none) t (.string (s.extract a.toNat b.toNat)) := fun _ _ _ _ => by
  have hb := run_subBounds (P := P) (w := w) (kl := kl) (kh := kh) g0 g1 g2
  simp [execOp, hx, h1, h2, Instr.sliceAt, Instr.slice, run_underlying hs, hb]
theorem X.subN {kl kh : IntKind} {lo hi : Operand} (hs : P.underlying xt = some .string) (hx : ev σ x = .string s) (h1 : ev σ lo = .int kl (i : Int)) (h2 : ev σ hi = .int kh (j : Int)) (g1 : i ≤ j) (g2 : j ≤ s.size) :
    X P σ w (.slice xt x (some lo) (some hi) none) t (.string (s.extract i j)) := by
  have := X.subS (w := w) (t := t) hs hx h1 h2 (by omega) (by omega) (by omega)
  rwa [Int.toNat_natCast, Int.toNat_natCast] at this
theorem X.subL {kl : IntKind} {lo : Operand} (hs : P.underlying xt = some .string) (hx : ev σ x = .string s) (h1 : ev σ lo = .int kl (i : Int)) (g1 : i ≤ s.size) :
    X P σ w (.slice xt x (some lo) none none) t (.string (s.extract i s.size)) := fun _ _ _ _ => by
  have hb : (Instr.sliceBounds false s.size s.size (some (.int kl (i : Int))) none none).run P w = .ok (i, s.size, s.size) w := by
    have e2 := run_sliceBound (P := P) w kl (i : Int) s.size .sliceB (by omega) (by omega)
    simp [Instr.sliceBounds, e2]
  simp [execOp, hx, h1, Instr.sliceAt, Instr.slice, run_underlying hs, hb]
theorem X.subH {kh : IntKind} {hi : Operand} (hs : P.underlying xt = some .string) (hx : ev σ x = .string s) (h1 : ev σ hi = .int kh (i : Int)) (g1 : i ≤ s.size) :
    X P σ w (.slice xt x none (some hi) none) t (.string (s.extract 0 i)) := fun _ _ _ _ => by
  have hb : (Instr.sliceBounds false s.size s.size none (some (.int kh (i : Int))) none).run P w = .ok (0, i, s.size) w := by
    have e1 := run_sliceBound (P := P) w kh (i : Int) s.size .sliceAlen (by omega) (by omega)
    simp [Instr.sliceBounds, e1]
  simp [execOp, hx, h1, Instr.sliceAt, Instr.slice, run_underlying hs, hb]
theorem X.addS (hx : ev σ x = .string s) (hy : ev σ y = .string s') (h : s.size + s'.size ≤ 9223372036854775807) : X P σ w (.binOp .add xt x y yt) t (.string (s ++ s')) := fun _ _ _ _ => by
  have hg : (eqGuard .add xt x y (.string s) (.string s')).run P w = .ok () w := by simp [eqGuard]
  have hm : IntKind.i64.max = 9223372036854775807 := by decide
  have hb : (binOp .add xt (.string s) (.string s')).run P w = .ok (.string (s ++ s')) w := by
    simp only [binOp, Op.stringOp, hm]
    rw [if_neg (by omega)]; rfl
  simp only [execOp, hx, hy, Sem.run_bind, hg, hb, Sem.run_pure, Result.andThen_ok]
/-! ### Interfaces -/
theorem X.iface {ds : TypeDesc} {v : Value} (hu : P.underlying xt = some ds) (hn : (match ds with | .interface _ => False | _ => True)) (hx : ev σ x = v) : X P σ w (.makeInterface xt x) t (.iface xt v) := fun _ _ _ _ => by
  have hr : (Instr.makeInterface xt v).run P w = .ok (.iface xt v) w := by
    cases ds <;> first | exact hn.elim | simp [Instr.makeInterface, run_underlying hu]
  simp [execOp, hx, hr]
theorem X.b2s1 {e : TypeId} {b cap : Nat} {c : Int} {T : TypeId} {fr : Nat × Nat} (hs : P.underlying xt = some (.slice e)) (he : P.underlying e = some (.int .u8)) (hd : P.underlying yt = some .string) (hx : ev σ x = .slice (some ⟨b, 0, none⟩) 1 cap) (hm : w.heap[b]? = some (.cells #[.int .u8 c] T fr)) :
    X P σ w (.convert xt yt x) t (.string (bs [UInt8.ofNat c.toNat])) := fun _ _ _ _ => by
  have hl : (loadCells ⟨b, 0, none⟩ 1).run P w = .ok (([c].map (Value.int .u8)).toArray) w := by
    refine run_loadCells_list (P := P) w ⟨b, 0, none⟩ [.int .u8 c] ?_
    intro j u hu
    match j with
    | 0 => simp at hu; subst hu; exact cell_of hm rfl
    | j + 1 => simp at hu
  have h2 := run_bytesToString (P := P) w ⟨b, 0, none⟩ 1 cap [c] hl
  have h3 := run_convert_bytes_string (P := P) w xt yt e (some ⟨b, 0, none⟩) 1 cap hs he hd
  have h4 : (convert xt yt (.slice (some ⟨b, 0, none⟩) 1 cap)).run P w = .ok (.string (bs [UInt8.ofNat c.toNat])) w := by rw [h3, h2]; rfl
  simp [execOp, hx, h4]
/-- Division of what is not above nought, by ten. -/
theorem X.neg_rem {m : Nat} (hx : ev σ x = .int .i64 (-(m : Int))) (hy : ev σ y = .int .i64 10) : X P σ w (.binOp .rem xt x y yt) t (.int .i64 (-((m % 10 : Nat) : Int))) := by
  have h := X.remw (P := P) (w := w) (t := t) (xt := xt) (yt := yt) hx hy (by decide)
  rwa [show (-(m : Int)).tmod 10 = -((m % 10 : Nat) : Int) by rw [Int.neg_tmod, Int.tmod_eq_emod_of_nonneg (by omega)]; omega] at h
theorem X.neg_quo {m : Nat} (hx : ev σ x = .int .i64 (-(m : Int))) (hy : ev σ y = .int .i64 10) (hm : m ≤ 9223372036854775808) : X P σ w (.binOp .quo xt x y yt) t (.int .i64 (-((m / 10 : Nat) : Int))) := by
  have h := X.quow (P := P) (w := w) (t := t) (xt := xt) (yt := yt) hx hy (by decide)
  rwa [show (-(m : Int)).tdiv 10 = -((m / 10 : Nat) : Int) by rw [Int.neg_tdiv, Int.tdiv_eq_ediv_of_nonneg (by omega)]; omega, wrap_i64 (by omega) (by omega)] at h
theorem X.tassert {ds : TypeDesc} {at_ : TypeId} {v : Value} (hu : P.underlying at_ = some ds) (hn : (match ds with | .interface _ => False | _ => True)) (hx : ev σ x = .iface at_ v) : X P σ w (.typeAssert x xt at_ true) t (.tuple #[v, .bool true]) := fun _ _ _ _ => by
  have hr : (Instr.typeAssert (.iface at_ v) xt at_ true).run P w = .ok (.tuple #[v, .bool true]) w := by
    cases ds <;> first | exact hn.elim | simp [Instr.typeAssert, run_underlying hu]
  simp [execOp, hx, hr]
def isNil : Value → Bool
  | .nilIface => true
  | _ => false
/-- A value of an interface's type. -/
def IsI (v : Value) : Prop := v = .nilIface ∨ ∃ ty u, v = .iface ty u
theorem run_iface_equal {ms : Array (String × TypeId)} {v : Value} (m : Nat) (hu : P.underlying xt = some (.interface ms)) (h : IsI v) : (Op.equalIn (m + 1) xt v .nilIface).run P w = .ok (isNil v) w := by
  rcases h with rfl | ⟨ty, u, rfl⟩ <;> simp [Op.equalIn, run_underlying hu, isNil]
theorem X.neqI {ms : Array (String × TypeId)} {v : Value} (hu : P.underlying xt = some (.interface ms)) (hx : ev σ x = v) (h : IsI v) : X P σ w (.binOp .neq xt x (.const .nilIface) yt) t (.bool (!isNil v)) := fun _ _ _ _ => by
  have hg : (eqGuard .neq xt x (.const .nilIface) v .nilIface).run P w = .ok () w := by rcases h with rfl | ⟨ty, u, rfl⟩ <;> simp [eqGuard]
  have he : (Op.equal xt v .nilIface).run P w = .ok (isNil v) w := run_iface_equal 9999 hu h
  have hb : (binOp .neq xt v .nilIface).run P w = .ok (.bool (!isNil v)) w := by rcases h with rfl | ⟨ty, u, rfl⟩ <;> simp [binOp, he]
  have hc : ev σ (.const .nilIface) = .nilIface := rfl
  simp only [execOp, hx, hc, Sem.run_bind, hg, hb, Sem.run_pure, Result.andThen_ok]
theorem X.eqlI {ms : Array (String × TypeId)} {v : Value} (hu : P.underlying xt = some (.interface ms)) (hx : ev σ x = v) (h : IsI v) : X P σ w (.binOp .eql xt x (.const .nilIface) yt) t (.bool (isNil v)) := fun _ _ _ _ => by
  have hg : (eqGuard .eql xt x (.const .nilIface) v .nilIface).run P w = .ok () w := by rcases h with rfl | ⟨ty, u, rfl⟩ <;> simp [eqGuard]
  have he : (Op.equal xt v .nilIface).run P w = .ok (isNil v) w := run_iface_equal 9999 hu h
  have hb : (binOp .eql xt v .nilIface).run P w = .ok (.bool (isNil v)) w := by rcases h with rfl | ⟨ty, u, rfl⟩ <;> simp [binOp, he]
  have hc : ev σ (.const .nilIface) = .nilIface := rfl
  simp only [execOp, hx, hc, Sem.run_bind, hg, hb, Sem.run_pure, Result.andThen_ok]
theorem WQ.callv1 {K : Env → Prop} {f : Nat} {tys : Array TypeId} {x1 : Operand} {v v1 : Value} {caps : List Value} (hc : Callee P f) (hx : ev σ x = .func (.func f) #[] caps.toArray) (h1 : ev σ x1 = v1) (hr : ∀ m, Ret P f (v1 :: caps).toArray (w.drewN m) fun v' w' => v' = v ∧ ∃ k, w' = (w.drewN m).drewN k) (hn : Nat.blt d n.sz = true)
    (h : WQ P n ops w K rest (up σ d v)) : WQ P n ops w K (⟨some d, .call ⟨.value x, #[x1], tys⟩, t, pos, af, none⟩ :: rest) σ :=
  WQ.enter rfl rfl hn (fun _ => exec_callv (xs := [x1]) (vs := [v1]) hc hx (by simp [h1])) hr h
/-- A call that leaves the world alone, among operations that draw. -/
theorem Ret.q {f : FuncId} {args : Array Value} {v : Value} (h : ∀ w, Ret P f args w fun v' w' => v' = v ∧ w = w') : ∀ m, Ret P f args (w.drewN m) fun v' w' => v' = v ∧ ∃ k, w' = (w.drewN m).drewN k := fun _ => Ret.quiet (h _)
theorem Ret.qd {f : FuncId} {args : Array Value} {v : Value} (h : ∀ m, Ret P f args (w.drewN m) fun v' w' => v' = v ∧ Dr (w.drewN m) w') : ∀ m, Ret P f args (w.drewN m) fun v' w' => v' = v ∧ ∃ k, w' = (w.drewN m).drewN k := fun m => Ret.quietD (h m)
end
end Sg
