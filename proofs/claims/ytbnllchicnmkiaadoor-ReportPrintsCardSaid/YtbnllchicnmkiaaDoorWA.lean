/-
  A part of the walk of the program.
-/
import Derived.Test.YtbnllchicnmkiaaDoorRP
import Derived.Test.YtbnllchicnmkiaaDoorBld
import Derived.Test.YtbnllchicnmkiaaDoorBldW
import Derived.Test.YtbnllchicnmkiaaDoorSh
set_option linter.unusedVariables false
set_option linter.unusedSimpArgs false
set_option maxRecDepth 100000
namespace Go.Proofs.YtbnllchicnmkiaaDoor
open Go Go.RowKit Sg
theorem pl30 : Sg.Plain Tryd.prog 30 := ⟨_, rfl, trivial⟩
theorem el30 : Sg.Elem Tryd.prog 30 1 (.pointer none) 8 := ⟨_, rfl, rfl, rfl, rfl⟩
theorem fd33_0 : Sg.Fld Tryd.prog 33 0 0 := ⟨_, _, _, rfl, rfl, rfl, rfl, by decide⟩
theorem pl31 : Sg.Plain Tryd.prog 31 := ⟨_, rfl, trivial⟩
theorem el31 : Sg.Elem Tryd.prog 31 1 (.slice none 0 0) 24 := ⟨_, rfl, rfl, rfl, rfl⟩
theorem ce41 : Sg.Callee Tryd.prog 41 := ⟨_, Tryd.func41, by decide, rfl⟩
theorem fd33_1 : Sg.Fld Tryd.prog 33 1 1 := ⟨_, _, _, rfl, rfl, rfl, rfl, by decide⟩
theorem el5 : Sg.Elem Tryd.prog 5 1 (.int .u8 0) 1 := ⟨_, rfl, rfl, rfl, rfl⟩
theorem mo : Tryd.prog.follows .mixedOrders = true := by kernel_rfl

abbrev Tab (w : World) : Prop := Lib.TabIs Tryd.prog w "internal/strconv.uint64pow10" .u64 Lib.pow10Tab
theorem itoa_ok (n : Int) (w : World) (h1 : -9223372036854775808 ≤ n) (h2 : n ≤ 9223372036854775807) (hT : Tab w) : Sg.Ret Tryd.prog 24 #[.int .i64 n] w fun v w' => v = .string (bs (Lib.itoa n)) ∧ Ch0 w w' := by
  refine Calls.mono (Tryd.strconv_Itoa n h1 h2 w hT) ?_
  rintro e w' ⟨rfl, k, os, rfl⟩
  exact ⟨_, rfl, rfl, (Ch.drew w k).trans0 (grow_ch _ os)⟩
/-- What writing leaves: all below, and every block that is no writer and no bytes. -/
def BK (b B : Nat) (w w' : World) : Prop := Ch (fun j => B ≤ j) w w' ∧ ∀ k cs T fz, w.heap[k]? = some (.cells cs T fz) → T ≠ 5 → k ≠ b → w'.heap[k]? = some (.cells cs T fz)
theorem BK.trans {b B : Nat} {w w' w2 : World} (h : BK b B w w') (k : BK b B w' w2) : BK b B w w2 :=
  ⟨h.1.trans k.1 (fun _ _ e => e) (fun _ _ e => e), fun j cs T fz hj hT hb => k.2 j cs T fz (h.2 j cs T fz hj hT hb) hT hb⟩
theorem BK.ch0 {b B : Nat} {w w' : World} (h : Ch0 w w') : BK b B w w' := ⟨h.trans (Ch.refl _ _) (H := fun j => B ≤ j) (fun _ _ e => e.elim) (fun _ _ e => e), fun _ _ _ _ hj _ _ => h.at0 hj⟩
theorem BK.of {b B : Nat} {F : Nat → Prop} {w w' : World} (c : Ch F w w') (hF : ∀ j, F j → j = b ∨ (B ≤ j ∧ ∃ cs fz, w.heap[j]? = some (.cells cs 5 fz))) (hb : B ≤ b) : BK b B w w' :=
  ⟨c.trans (Ch.refl (fun j => B ≤ j) _) (H := fun j => B ≤ j) (fun j _ e => (hF j e).elim (fun h => by omega) (fun h => h.1)) (fun _ _ e => e), fun k cs T fz hk hT hkb => c.at hk (fun e => (hF k e).elim hkb (fun ⟨_, cs', fz', h⟩ => by rw [hk] at h; exact hT (Obj.cells.inj (Option.some.inj h)).2.1))⟩
/-- The writer at b holds the text l; fr: something stands in the line. -/
def IsW (B b : Nat) (l : Bs) (fr : Bool) (w : World) : Prop := B ≤ b ∧ ∃ q v, (q = none ∨ q = some (⟨b, 0, none⟩ : Addr)) ∧ w.heap[b]? = some (.cells #[.pointer q, v, .bool fr] 35 (0, 0)) ∧ w.ownsRow B 5 1 v l.length (Lib.byteCells l)
theorem IsW.lt {B b : Nat} {l : Bs} {fr : Bool} {w : World} (h : IsW B b l fr w) : b < w.heap.size := by
  obtain ⟨_, q, v, _, h, _⟩ := h; exact lt_of_blk h
theorem IsW.ch0 {B b : Nat} {l : Bs} {fr : Bool} {w w' : World} (h : IsW B b l fr w) (c : Ch0 w w') : IsW B b l fr w' := by
  obtain ⟨h0, q, v, hq, h1, h2⟩ := h
  exact ⟨h0, q, v, hq, c.at0 h1, own_ch h2 c (fun _ _ e => e)⟩
theorem IsW.step {B b : Nat} {l : Bs} {fr : Bool} {F : Nat → Prop} {w w' : World} (h : IsW B b l fr w) (c : Ch F w w') (hb : ¬ F b) (hF : ∀ j, F j → ∃ cs T fz, w.heap[j]? = some (.cells cs T fz) ∧ T ≠ 5) : IsW B b l fr w' := by
  obtain ⟨h0, q, v, hq, h1, h2⟩ := h
  refine ⟨h0, q, v, hq, c.at h1 hb, own_ch h2 c (fun j hj e => ?_)⟩
  obtain ⟨cs, T, fz, hc, hT⟩ := hF j e
  rcases h2.2 with ⟨rfl, _⟩ | ⟨g, cap, cur, rfl, _, hg, _⟩
  · exact hj
  · have hj : j = g := hj
    subst hj
    rw [hc] at hg
    exact hT (Obj.cells.inj (Option.some.inj hg)).2.1
theorem own_bytes {w : World} {B m : Nat} {v : Value} {xs : List Value} (h : w.ownsRow B 5 1 v m xs) : ∀ j, slBlk v j → B ≤ j ∧ ∃ cs fz, w.heap[j]? = some (.cells cs 5 fz) := by
  intro j hj
  rcases h.2 with ⟨rfl, _⟩ | ⟨g, cap, cur, rfl, hb, hg, _⟩
  · exact hj.elim
  · have hj : j = g := hj
    subst hj
    exact ⟨hb, cur, _, hg⟩
theorem own_ne_w {w : World} {B m b : Nat} {v : Value} {xs : List Value} {cs : Array Value} (h : w.ownsRow B 5 1 v m xs) (hb : w.heap[b]? = some (.cells cs 35 (0, 0))) : ¬ slBlk v b := fun e => by
  obtain ⟨_, cs', fz, h2⟩ := own_bytes h b e
  rw [hb] at h2
  exact absurd (Obj.cells.inj (Option.some.inj h2)).2.1 (by decide)
theorem bytes_snoc (l : Bs) (c : UInt8) : Lib.byteCells (l ++ [c]) = Lib.byteCells l ++ [.int .u8 (c.toNat : Int)] := byteCells_app l [c]
theorem strCells_sb (s : ByteArray) : Lib.strCells s = Lib.byteCells (sb s) := rfl

theorem infB : ∃ j, Tryd.prog.info? 33 = some j ∧ j.size ≠ 0 := ⟨_, rfl, by decide⟩
theorem liesB : liesAt Tryd.prog Tryd.prog.depth 35 (3 / Tryd.prog.cellsOf 35) 0 33 1 = true := by kernel_rfl

theorem cc_fresh (b : Nat) (v : Value) (fr : Bool) (w : World) (h : w.heap[b]? = some (.cells #[.pointer none, v, .bool fr] 35 (0, 0))) :
  Sg.Ret Tryd.prog 41 #[.pointer (some ⟨b, 0, none⟩)] w fun _ w' => w'.heap[b]? = some (.cells #[.pointer (some ⟨b, 0, none⟩), v, .bool fr] 35 (0, 0)) ∧ Ch (fun j => j = b) w w' := by
 refine enter0 (n := 20) (l := [.pointer (some ⟨b, 0, none⟩)]) Tryd.func41 rfl rfl rfl rfl ?_
 refine W.g1 0 (v1 := .pointer (some ⟨b, 0, none⟩)) rfl ?_; intro σ s0
 refine W.seq ?_
 refine W.region ?_
 refine WL.x (X.mv (s0)) rfl ?_
 refine WL.x (X.nilck (lh)) rfl ?_
 refine WL.x (X.fieldAddr fd33_0 (lh)) rfl ?_
 refine WL.x (X.load pl30 (lh) h (v := .pointer none) rfl) rfl ?_
 refine WL.x (X.eqlN Tryd.underlying30 (lh) lc) rfl ?_
 refine WL.e2 Nx.thn 0 6 (jt4 rfl (lt rfl (s0))) (lh) ?_
 intro σ1 s0 s6
 refine W.cndBT s6 (rfl) ?_
 refine W.region ?_
 refine WL.x (X.mv (s0)) rfl ?_
 refine WL.x (X.mv (lt rfl (s0))) rfl ?_
 obtain ⟨jB, hjB, hjz⟩ := infB
 refine WL.x (X.toU Tryd.underlying30 Tryd.underlying76 hjB hjz (lh) h (by show 0 < 3; decide)) rfl ?_
 refine WL.x (X.noesc Tryd.func46 (by kernel_rfl) (by kernel_rfl) (by kernel_rfl) (by kernel_rfl) (lh)) rfl ?_
 refine WL.x (X.fromU Tryd.underlying76 Tryd.underlying30 hjB (lh) h liesB) rfl ?_
 refine WL.x (X.nilck (jt4 rfl (lh))) rfl ?_
 refine WL.x (X.fieldAddr fd33_0 (lh)) rfl ?_
 refine WL.store el30 (lh) (jt2 rfl (lh)) rfl h (show 0 + 0 < 3 by decide) ?_
 intro w1 us
 have h2 : w1.heap[b]? = some (.cells #[.pointer (some ⟨b, 0, none⟩), v, .bool fr] 35 (0, 0)) := us.at_
 have cus := us.ch
 refine WL.e0 Nx.n0  ?_
 intro σ2 
 exact ⟨h2, cus⟩
theorem cc_used (b : Nat) (v : Value) (fr : Bool) (w : World) (h : w.heap[b]? = some (.cells #[.pointer (some ⟨b, 0, none⟩), v, .bool fr] 35 (0, 0))) :
  Sg.Ret Tryd.prog 41 #[.pointer (some ⟨b, 0, none⟩)] w fun _ w' => w'.heap[b]? = some (.cells #[.pointer (some ⟨b, 0, none⟩), v, .bool fr] 35 (0, 0)) ∧ Ch (fun j => j = b) w w' := by
 refine enter0 (n := 20) (l := [.pointer (some ⟨b, 0, none⟩)]) Tryd.func41 rfl rfl rfl rfl ?_
 refine W.g1 0 (v1 := .pointer (some ⟨b, 0, none⟩)) rfl ?_; intro σ s0
 refine W.seq ?_
 refine W.region ?_
 refine WL.x (X.mv (s0)) rfl ?_
 refine WL.x (X.nilck (lh)) rfl ?_
 refine WL.x (X.fieldAddr fd33_0 (lh)) rfl ?_
 refine WL.x (X.load pl30 (lh) h (v := .pointer (some ⟨b, 0, none⟩)) rfl) rfl ?_
 refine WL.x (X.eqlN Tryd.underlying30 (lh) lc) rfl ?_
 refine WL.e2 Nx.thn 0 6 (jt4 rfl (lt rfl (s0))) (lh) ?_
 intro σ1 s0 s6
 refine W.cndBF s6 (rfl) ?_
 refine W.seq ?_
 refine W.region ?_
 refine WL.x (X.mv (s0)) rfl ?_
 refine WL.x (X.nilck (lh)) rfl ?_
 refine WL.x (X.fieldAddr fd33_0 (lh)) rfl ?_
 refine WL.x (X.load pl30 (lh) h (v := .pointer (some ⟨b, 0, none⟩)) rfl) rfl ?_
 refine WL.x (X.mv (jt4 rfl (s0))) rfl ?_
 obtain ⟨jB, hjB, hjz⟩ := infB
 refine WL.x (X.neqPS Tryd.underlying30 hjB (lt rfl (lh)) (lh)) rfl ?_
 refine WL.e1 Nx.thn 19 (lh) ?_
 intro σ2 s19
 refine W.cndBF s19 (rfl) ?_
 refine W.skip Nx.n0 ?_
 exact ⟨h, Ch.refl _ _⟩

theorem cc_ok (B b : Nat) (l : Bs) (fr : Bool) (w : World) (h : IsW B b l fr w) : Sg.Ret Tryd.prog 41 #[.pointer (some ⟨b, 0, none⟩)] w fun _ w' => ∃ v, w'.heap[b]? = some (.cells #[.pointer (some ⟨b, 0, none⟩), v, .bool fr] 35 (0, 0)) ∧ w'.ownsRow B 5 1 v l.length (Lib.byteCells l) ∧ Ch (fun j => j = b) w w' := by
  obtain ⟨h0, q, v, hq, h1, h2⟩ := h
  have hne := own_ne_w h2 h1
  rcases hq with rfl | rfl
  · exact Ret.mono (cc_fresh b v fr w h1) fun _ w' hh => ⟨v, hh.1, own_ch h2 hh.2 (fun j hj e => hne (e ▸ hj)), hh.2⟩
  · exact Ret.mono (cc_used b v fr w h1) fun _ w' hh => ⟨v, hh.1, own_ch h2 hh.2 (fun j hj e => hne (e ▸ hj)), hh.2⟩

set_option maxHeartbeats 800000 in
theorem own_one {w : World} {base e m size : Nat} {v : Value} {xs : List Value} (h : w.ownsRow base e size v m xs) : v.oneCell' = true := by
  rcases h.2 with ⟨rfl, _⟩ | ⟨g, cap, cur, rfl, _⟩ <;> rfl
theorem wb_ok (B b : Nat) (l : Bs) (fr : Bool) (c : UInt8) (w : World) (h : IsW B b l fr w) (hlen : l.length + 1 ≤ 140737488355328) (hBw : B ≤ w.heap.size) :
  Sg.Ret Tryd.prog 25 #[.pointer (some ⟨b, 0, none⟩), .int .u8 (c.toNat : Int)] w fun _ w' => IsW B b (l ++ [c]) fr w' ∧ BK b B w w' := by
 have hB9 := h.1
 refine enter1 (n := 17) (l := [.pointer (some ⟨b, 0, none⟩), .int .u8 (c.toNat : Int)]) Tryd.func25 rfl rfl rfl rfl ?_
 refine W.g2 0 1 (v1 := .pointer (some ⟨b, 0, none⟩)) (v2 := .int .u8 (c.toNat : Int)) rfl rfl ?_; intro σ s0 s1
 refine W.seq ?_
 refine W.region ?_
 refine WL.x (X.asg lc) rfl ?_
 refine WL.e2 Nx.thn 0 1 (lt rfl (s0)) (lt rfl (s1)) ?_
 intro σ1 s0 s1
 refine W.seq ?_
 refine W.region ?_
 refine WL.x (X.mv (s0)) rfl ?_
 refine WL.call1 ce41 (lh) (cc_ok B b l fr w h) rfl ?_
 rintro _ w1 ⟨v, hb1, hown, c1⟩
 have k1 : BK b B w w1 := BK.of c1 (fun j e => .inl e) hB9
 refine WL.e2 Nx.thn 0 1 (jt2 rfl (s0)) (jt2 rfl (s1)) ?_
 intro σ2 s0 s1
 refine W.seq ?_
 refine W.region ?_
 refine WL.x (X.mv (s0)) rfl ?_
 refine WL.x (X.mv (lt rfl (s0))) rfl ?_
 refine WL.x (X.nilck (lh)) rfl ?_
 refine WL.x (X.fieldAddr fd33_1 (lh)) rfl ?_
 refine WL.x (X.load pl31 (lh) hb1 (v := v) rfl) rfl ?_
 refine WL.x (X.mv (jt4 rfl (lt rfl (s1)))) rfl ?_
 refine WL.bslice Tryd.underlying31 el5 rfl (pcons (lh) pnil) rfl (rfl : _ = [_]) rfl ?_
 intro w2 u2_6; have hu2_6 := u2_6.at_; have cu2_6 := u2_6.ch; have zu2_6 := u2_6.size
 have hown2 := own_ch hown cu2_6 (fun _ _ e => e)
 have hb2 := cu2_6.at0 hb1
 have zz := k1.1.size
 have zy := cu2_6.size
 refine WL.append Tryd.underlying31 el5 rfl (by decide) (jt2 rfl (lh)) (lh) (hown2) (by first | assumption | exact cu2_6.at0 (by assumption) | exact cu2_6.at0 (c1.at (by assumption) (by intro hne; first | exact hne | ((try dsimp only at hne); omega)))) rfl (by exact ones_of rfl) (by unfold maxLen; omega) (by omega) (by omega) rfl ?_
 intro va2_7 w3 ho2_7 ca2_7
 have k2 : BK b B w2 w3 := BK.of ca2_7 (fun j e => .inr (own_bytes hown2 j e)) hB9
 have hb3 := ca2_7.at hb2 (own_ne_w hown2 hb2)
 obtain ⟨v2, hv2⟩ : ∃ v2, v2 = va2_7 := ⟨_, rfl⟩
 rw [← hv2] at ho2_7 ⊢
 have ho2 := ho2_7
 refine WL.x (X.nilck (jt4 rfl (jt2 rfl (lt rfl (lh))))) rfl ?_
 refine WL.x (X.fieldAddr fd33_1 (lh)) rfl ?_
 refine WL.store el31 (lh) (jt2 rfl (lh)) (own_one ho2) hb3 (show 0 + 1 < 3 by decide) ?_
 intro w4 us
 have hb4 : w4.heap[b]? = some (.cells #[.pointer (some ⟨b, 0, none⟩), v2, .bool fr] 35 (0, 0)) := us.at_
 have hne3 := own_ne_w ho2 hb3
 have ho4 := own_ch ho2 us.ch (fun j hj e => hne3 (e ▸ hj))
 have cus := us.ch
 have k3 : BK b B w3 w4 := BK.of us.ch (fun j e => .inl e) hB9
 refine WL.e0 Nx.thn  ?_
 intro σ3 
 refine W.seq ?_
 refine W.region ?_
 refine WL.x (X.asg lc) rfl ?_
 refine WL.e1 Nx.thn 4 (lh) ?_
 intro σ4 s4
 refine W.ret1 Nx.f1 s4 ?_
 exact ⟨⟨hB9, some ⟨b, 0, none⟩, v2, .inr rfl, hb4, by rw [List.length_append, bytes_snoc]; exact ho4⟩, (k1.trans (BK.ch0 cu2_6)).trans (k2.trans k3)⟩
set_option maxHeartbeats 800000 in
theorem ws_ok (B b : Nat) (l : Bs) (fr : Bool) (s : ByteArray) (w : World) (h : IsW B b l fr w) (hlen : l.length + s.size ≤ 140737488355328) (hBw : B ≤ w.heap.size) :
  Sg.Ret Tryd.prog 26 #[.pointer (some ⟨b, 0, none⟩), .string s] w fun _ w' => IsW B b (l ++ sb s) fr w' ∧ BK b B w w' := by
 have hB9 := h.1
 refine enter2 (n := 19) (l := [.pointer (some ⟨b, 0, none⟩), .string s]) Tryd.func26 rfl rfl rfl rfl ?_
 refine W.g2 0 1 (v1 := .pointer (some ⟨b, 0, none⟩)) (v2 := .string s) rfl rfl ?_; intro σ s0 s1
 refine W.seq ?_
 refine W.region ?_
 refine WL.x (X.asg lc) rfl ?_
 refine WL.x (X.asg lc) rfl ?_
 refine WL.e2 Nx.thn 0 1 (jt2 rfl (s0)) (jt2 rfl (s1)) ?_
 intro σ1 s0 s1
 refine W.seq ?_
 refine W.region ?_
 refine WL.x (X.mv (s0)) rfl ?_
 refine WL.call1 ce41 (lh) (cc_ok B b l fr w h) rfl ?_
 rintro _ w1 ⟨v, hb1, hown, c1⟩
 have k1 : BK b B w w1 := BK.of c1 (fun j e => .inl e) hB9
 refine WL.e2 Nx.thn 0 1 (jt2 rfl (s0)) (jt2 rfl (s1)) ?_
 intro σ2 s0 s1
 refine W.seq ?_
 refine W.region ?_
 refine WL.x (X.mv (s0)) rfl ?_
 refine WL.x (X.mv (lt rfl (s0))) rfl ?_
 refine WL.x (X.nilck (lh)) rfl ?_
 refine WL.x (X.fieldAddr fd33_1 (lh)) rfl ?_
 refine WL.x (X.load pl31 (lh) hb1 (v := v) rfl) rfl ?_
 refine WL.x (X.mv (jt4 rfl (lt rfl (s1)))) rfl ?_
 have zz := k1.1.size
 refine WL.appStr Tryd.underlying31 Tryd.underlying9 el5 (lt rfl (lh)) (lh) hown (by unfold maxLen; omega) (by omega) (by omega) rfl ?_
 intro v2 w2 ho2 ca
 have k2 : BK b B w1 w2 := BK.of ca (fun j e => .inr (own_bytes hown j e)) hB9
 have hb3 := ca.at hb1 (own_ne_w hown hb1)
 refine WL.x (X.nilck (jt4 rfl (jt2 rfl (lh)))) rfl ?_
 refine WL.x (X.fieldAddr fd33_1 (lh)) rfl ?_
 refine WL.store el31 (lh) (jt2 rfl (lh)) (own_one ho2) hb3 (show 0 + 1 < 3 by decide) ?_
 intro w3 us
 have hb4 : w3.heap[b]? = some (.cells #[.pointer (some ⟨b, 0, none⟩), v2, .bool fr] 35 (0, 0)) := us.at_
 have hne3 := own_ne_w ho2 hb3
 have ho4 := own_ch ho2 us.ch (fun j hj e => hne3 (e ▸ hj))
 have cus := us.ch
 have k3 : BK b B w2 w3 := BK.of us.ch (fun j e => .inl e) hB9
 refine WL.e1 Nx.thn 1 (jt8 rfl (lt rfl (s1))) ?_
 intro σ3 s1
 refine W.seq ?_
 refine W.region ?_
 refine WL.x (X.mv (s1)) rfl ?_
 refine WL.x (X.lenSt Tryd.underlying9 (lh)) rfl ?_
 refine WL.x (X.asg (lh)) rfl ?_
 refine WL.x (X.asg lc) rfl ?_
 refine WL.e2 Nx.thn 4 5 (lt rfl (lh)) (lh) ?_
 intro σ4 s4 s5
 refine W.ret2 Nx.f2 s4 s5 ?_
 exact ⟨⟨hB9, some ⟨b, 0, none⟩, v2, .inr rfl, hb4, by rw [List.length_append, byteCells_app, sb_len]; exact ho4⟩, k1.trans (k2.trans k3)⟩
theorem wst_ok (B b : Nat) (l : Bs) (fr : Bool) (w : World) (h : IsW B b l fr w) (hl : l ≠ []) :
  Sg.Ret Tryd.prog 15 #[.pointer (some ⟨b, 0, none⟩)] w fun v w' => v = .string (bs l) ∧ Ch (fun j => B ≤ j) w w' := by
 obtain ⟨hB9, q, v, hq, hb, hown⟩ := h
 have hl0 : l.length ≠ 0 := fun e => hl (List.eq_nil_of_length_eq_zero e)
 obtain ⟨g, cap, cur, rfl, hBg, hg, hcap⟩ : ∃ g cap cur, v = .slice (some ⟨g, 0, none⟩) l.length cap ∧ B ≤ g ∧ w.heap[g]? = some (.cells cur 5 (0, 0)) ∧ cap ≠ 0 := by
   rcases hown.2 with ⟨_, hz⟩ | ⟨g, cap, cur, hv, hbg, hg, hnc, _⟩
   · exact absurd hz hl0
   · exact ⟨g, cap, cur, hv, hbg, hg, by omega⟩
 have hgb := own_ne_w hown hb
 refine enter1 (n := 14) (l := [.pointer (some ⟨b, 0, none⟩)]) Tryd.func15 rfl rfl rfl rfl ?_
 refine W.g1 0 (v1 := .pointer (some ⟨b, 0, none⟩)) rfl ?_; intro σ s0
 refine W.seq ?_
 refine W.region ?_
 refine WL.x (X.asg lc) rfl ?_
 refine WL.e1 Nx.thn 0 (lt rfl (s0)) ?_
 intro σ1 s0
 refine W.seq ?_
 refine W.held (fun w' => Ch (fun j => j = g) w w') mo ?_
 intro w1 qhh1 qc2
 have hS : Ch (fun j => j = g) w w1 := Ch.weak qc2
 have hzqc2 := qc2.size
 have cdh1 := qc2
 refine WH.take 0 rfl (by kernel_rfl) (by kernel_rfl) (by kernel_rfl) (fun _ _ _ h => h) Gd.none rfl (fun w' hS' => X.mv (s0)) hS ?_
 refine WH.take 1 rfl (by kernel_rfl) (by kernel_rfl) (by kernel_rfl) (fun _ _ _ h => h) Gd.none rfl (fun w' hS' => X.nilck (lh)) hS ?_
 refine WH.take 2 rfl (by kernel_rfl) (by kernel_rfl) (by kernel_rfl) (fun _ _ _ h => h) Gd.none rfl (fun w' hS' => X.fieldAddr fd33_1 (lh)) hS ?_
 refine WH.take 3 rfl (by kernel_rfl) (by kernel_rfl) (by kernel_rfl) (fun _ _ _ h => h) Gd.none rfl (fun w' hS' => X.load pl31 (lh) (hS'.at hb hgb) (v := .slice (some ⟨g, 0, none⟩) l.length cap) rfl) hS ?_
 refine WH.take 4 rfl (by kernel_rfl) (by kernel_rfl) (by kernel_rfl) (fun _ _ _ h => h) Gd.none rfl (fun w' hS' => X.slData (lh) hcap) hS ?_
 refine WH.take 5 rfl (by kernel_rfl) (by kernel_rfl) (by kernel_rfl) (fun _ _ _ h => h) Gd.none rfl (fun w' hS' => X.mv (jt4 rfl (lt rfl (s0)))) hS ?_
 refine WH.take 6 rfl (by kernel_rfl) (by kernel_rfl) (by kernel_rfl) (fun _ _ _ h => h) Gd.none rfl (fun w' hS' => X.nilck (lh)) hS ?_
 refine WH.take 7 rfl (by kernel_rfl) (by kernel_rfl) (by kernel_rfl) (fun _ _ _ h => h) Gd.none rfl (fun w' hS' => X.fieldAddr fd33_1 (lh)) hS ?_
 refine WH.take 8 rfl (by kernel_rfl) (by kernel_rfl) (by kernel_rfl) (fun _ _ _ h => h) Gd.none rfl (fun w' hS' => X.load pl31 (lh) (hS'.at hb hgb) (v := .slice (some ⟨g, 0, none⟩) l.length cap) rfl) hS ?_
 refine WH.take 9 rfl (by kernel_rfl) (by kernel_rfl) (by kernel_rfl) (fun _ _ _ h => h) Gd.none rfl (fun w' hS' => X.lenSl Tryd.underlying31 (lh)) hS ?_
 refine WH.one 10 rfl (by kernel_rfl) (fun _ _ h => h) ?_
 refine WL.usStr Tryd.underlying67 (by kernel_rfl) (jt4 rfl (lt rfl (lh))) (lh) hl (own_ch hown cdh1 (fun _ _ e => e)) rfl ?_
 intro cf
 obtain ⟨wf, hwf⟩ : ∃ wf, wf = w1.freeze ⟨g, 0, none⟩ l.length := ⟨_, rfl⟩
 rw [← hwf] at cf ⊢
 obtain ⟨w9, hw9⟩ : ∃ w9, w9 = wf := ⟨_, rfl⟩
 have hS := hS.trans cf (fun _ _ => id) (by intro i hi hg; first | exact hg | exact False.elim hg | omega | ((try dsimp only at hg ⊢); omega))
 refine WL.nil Nx.thn ⟨hS, ?_⟩
 refine WH.take 11 rfl (by kernel_rfl) (by kernel_rfl) (by kernel_rfl) (fun _ _ _ h => h) Gd.none rfl (fun w' hS' => X.asg (lh)) hS ?_
 refine WH.done (by kernel_rfl) ?_
 refine WL.e1 Nx.thn 2 (lh) ?_
 intro σ2 s2
 refine W.ret1 Nx.f1 s2 ?_
 exact ⟨rfl, hS.trans (Ch.refl (fun j => B ≤ j) _) (H := fun j => B ≤ j) (fun j _ e => by (try dsimp only at e); omega) (fun _ _ e => e)⟩
end Go.Proofs.YtbnllchicnmkiaaDoor
