/-
  A part of the walk of the program. | A part of the walk of the program. | A part of the walk of the program. | A part of the walk of the program. | A part of the walk of the program. | A part of the walk of the program. | A slice of structs without its first. | A part of the walk of the program. | A part of the walk of the program. | A part of the walk of the program. | A part of the walk of the program.
-/
import Derived.Test.YtnfkblboimkcjaaDoorPr9
import Derived.Test.YtnfkblboimkcjaaDoorRows
section
set_option linter.unusedVariables false
set_option linter.unusedSimpArgs false
set_option maxRecDepth 100000
namespace Go.Proofs.YtnfkblboimkcjaaDoor
open Go Go.RowKit Sg

/-- A label that a class lets in. -/
def okL (k : Int) (r : Bool) (z : Int) : Bool := oneL z && (decide (z = (wantN k : Int)) || decide (z.toNat &&& othN k r ≠ 0))
def okI (l : List Gwy) (k : Int) (r : Bool) (i : Nat) : Prop := okL k r (l.getD i zeroW).2.2.1 = true ∧ (l.getD i zeroW).2.1 = (l.getD ((i + 1) % l.length) zeroW).1 ∧ ∀ j, j < i → (l.getD j zeroW).1 ≠ (l.getD i zeroW).1
def cntC (l : List Gwy) (k : Int) : Nat := (l.filter fun x => decide (x.2.2.1 = (wantN k : Int))).length
/-- A cycle of a class. -/
def isC (l : List Gwy) (k : Int) (r : Bool) : Prop := 2 ≤ l.length ∧ (∀ i, i < l.length → okI l k r i) ∧ (cntC l k = 1 ∨ (1 < cntC l k ∧ k ≠ 10))
theorem cnt_succ {l : List Gwy} {k : Int} {j : Nat} (h : j < l.length) : cntC (l.take (j + 1)) k = cntC (l.take j) k + if l[j].2.2.1 = (wantN k : Int) then 1 else 0 := by
  unfold cntC
  rw [List.take_succ_eq_append_getElem h, List.filter_append, List.length_append]
  congr 1
  by_cases e : l[j].2.2.1 = (wantN k : Int)
  · rw [if_pos e]; simp [e]
  · rw [if_neg e]; simp [e]
theorem cnt_le (l : List Gwy) (k : Int) : cntC l k ≤ l.length := List.length_filter_le ..
theorem getD_at {l : List Gwy} {j : Nat} (h : j < l.length) : l.getD j zeroW = l[j] := by rw [List.getD_eq_getElem?_getD, List.getElem?_eq_getElem h]; rfl
def froms (l : List Gwy) (z : Int) : Bool := l.any fun x => decide (x.1 = z)
theorem froms_succ {l : List Gwy} {j : Nat} (h : j < l.length) : froms (l.take (j + 1)) = fun z => froms (l.take j) z || decide (z = l[j].1) := by
  funext z
  unfold froms
  rw [List.take_succ_eq_append_getElem h, List.any_append]
  congr 1
  simp only [List.any_cons, List.any_nil, Bool.or_false]
  exact decide_eq_decide.2 eq_comm
theorem froms_no {l : List Gwy} {j : Nat} (hj : j < l.length) (h : froms (l.take j) l[j].1 = false) : ∀ i, i < j → (l.getD i zeroW).1 ≠ (l.getD j zeroW).1 := by
  intro i hi e
  rw [getD_at hj, getD_at (by omega)] at e
  unfold froms at h
  have := List.any_eq_false.1 h l[i] (by rw [List.mem_take_iff_getElem]; exact ⟨i, by omega, rfl⟩)
  exact this (decide_eq_true e)
theorem froms_yes {l : List Gwy} {j : Nat} (hj : j < l.length) (h : froms (l.take j) l[j].1 = true) : ¬ ∀ i, i < j → (l.getD i zeroW).1 ≠ (l.getD j zeroW).1 := by
  intro hn
  unfold froms at h
  obtain ⟨x, hx, hd⟩ := List.any_eq_true.1 h
  obtain ⟨i, hi, rfl⟩ := List.mem_take_iff_getElem.1 hx
  have := hn i (by omega)
  rw [getD_at hj, getD_at (by omega)] at this
  exact this (of_decide_eq_true hd)
theorem lab_in : ∀ z ∈ [1, 2, 4, 8], ∀ w ∈ [1, 2, 4], ∀ o, o < 16 → ((z &&& (w ||| o) = 0) ↔ (¬ z = w ∧ z &&& o = 0)) := by decide
theorem lab_all (z : Nat) (hz : z = 1 ∨ z = 2 ∨ z = 4 ∨ z = 8) (w : Nat) (hw : w = 1 ∨ w = 2 ∨ w = 4) (o : Nat) (ho : o < 16) : (z &&& (w ||| o) = 0) ↔ (¬ z = w ∧ z &&& o = 0) := lab_in z (by simpa using hz) w (by simpa using hw) o ho
theorem want_in {k : Int} (hk : okK k) : wantN k = 1 ∨ wantN k = 2 ∨ wantN k = 4 := by rcases okK_cases hk with rfl | rfl | rfl | rfl <;> decide
theorem one_in {z : Int} (h : oneL z = true) : 0 ≤ z ∧ z < 16 ∧ (z = 1 ∨ z = 2 ∨ z = 4 ∨ z = 8) := by have := of_decide_eq_true h; omega
theorem lab_no {k : Int} {r : Bool} {z : Int} (hk : okK k) (h1 : oneL z = true) : z.toNat &&& (wantN k ||| othN k r) = 0 ↔ okL k r z = false := by
  obtain ⟨h2, h3, h4⟩ := one_in h1
  rw [lab_all z.toNat (by omega) (wantN k) (want_in hk) (othN k r) (oth_lt k r)]
  unfold okL
  rw [h1, Bool.true_and, Bool.or_eq_false_iff, decide_eq_false_iff_not, decide_eq_false_iff_not]
  constructor
  · rintro ⟨a, b⟩; exact ⟨fun e => a (by omega), fun e => e b⟩
  · rintro ⟨a, b⟩; exact ⟨fun e => a (by omega), Classical.not_not.1 b⟩
theorem wf_smI {z : Int} (h0 : 0 ≤ z) (h1 : z ≤ 1000000) : (Lit.int .i64 z).wf = true := by
  have e1 : IntKind.i64.min = -9223372036854775808 := by decide
  have e2 : IntKind.i64.max = 9223372036854775807 := by decide
  show (decide (IntKind.i64.min ≤ z) && decide (z ≤ IntKind.i64.max)) = true
  rw [e1, e2]
  exact Bool.and_eq_true_iff.2 ⟨decide_eq_true (by omega), decide_eq_true (by omega)⟩
theorem okL_oth {k : Int} {r : Bool} {z : Int} (h1 : oneL z = true) (h2 : z.toNat &&& othN k r ≠ 0) : okL k r z = true := by
  unfold okL
  rw [h1, decide_eq_true h2, Bool.or_true]; rfl
theorem okL_one {k : Int} {r : Bool} {z : Int} (h : oneL z = false) : okL k r z = false := by unfold okL; rw [h, Bool.false_and]

set_option maxHeartbeats 1600000 in
theorem is_ok (A : Nat → Prop) (pa : Option Addr) (pc : Nat) (l : List Gwy) (k : Int) (r : Bool) (w : World) (hl : RSl 8 (Rc fwy) A w (.slice pa l.length pc) l) (hm : l.length ≤ 1000000) (hk : okK k) (hfr : ∀ x ∈ l, 0 ≤ x.1 ∧ x.1 ≤ 1000000) :
  Sg.Ret Tryd.prog 12 #[.slice pa l.length pc, .int .i64 k, .bool r] w fun v w' => ∃ b, v = .bool b ∧ (b = true ↔ isC l k r) ∧ Ch0 w w' := by
 refine enter1 (n := 93) (l := [.slice pa l.length pc, .int .i64 k, .bool r]) Tryd.func12 rfl rfl rfl rfl ?_
 refine W.g3 0 1 2 (v1 := .slice pa l.length pc) (v2 := .int .i64 k) (v3 := .bool r) rfl rfl rfl ?_; intro σ s0 s1 s2
 refine W.seq ?_
 refine W.region ?_
 refine WL.x (X.asg lc) rfl ?_
 refine WL.e3 Nx.thn 0 1 2 (lt rfl (s0)) (lt rfl (s1)) (lt rfl (s2)) ?_
 intro σ1 s0 s1 s2
 refine W.seq ?_
 refine W.region ?_
 refine WL.x (X.mv (s1)) rfl ?_
 refine WL.x (X.mv (lt rfl (s2))) rfl ?_
 refine WL.call2 ce16 (lt rfl (lh)) (lh) (of_in k r w hk) rfl ?_
 rintro _ w1 ⟨rfl, c1⟩
 refine WL.x (X.mv (lh)) rfl ?_
 refine WL.x (X.ex2_0 (lh)) rfl ?_
 refine WL.x (X.ex2_1 (lt rfl (lh))) rfl ?_
 refine WL.alloc el43 rfl ?_
 intro w2 u1_6; have hu1_6 := u1_6.at_; have cu1_6 := u1_6.ch; have zu1_6 := u1_6.size
 refine WL.storeS (vs := [.int .i64 (wantN k : Int), .int .i64 (othN k r : Int), .int .i64 (mostN k : Int)]) ag43 (lh) (jt2 rfl (lh)) rfl rfl hu1_6 (by decide) ?_
 intro w3 us; have cst := us.ch
 have hcb : w3.heap[w1.heap.size]? = some (.cells #[.int .i64 (wantN k : Int), .int .i64 (othN k r : Int), .int .i64 (mostN k : Int)] 43 (0, 0)) := us.at_
 have hcl := (c1.trans0 cu1_6).trans cst (H := fun _ => False) (fun _ _ e => e) (fun i hi e => by have := c1.size; (try dsimp only at e); omega)
 have hzb := lt_of_blk hcb
 have hz1 := c1.size
 refine WL.x (X.asg (lt rfl (lh))) rfl ?_
 refine WL.e3 Nx.thn 0 7 8 (jt8 rfl (s0)) (lt rfl (lh)) (lh) ?_
 intro σ2 s0 s7 s8
 refine W.seq ?_
 refine W.seq ?_
 refine W.region ?_
 refine WL.x (X.mv (s8)) rfl ?_
 refine WL.x (X.not (lh)) rfl ?_
 refine WL.x (X.mv (lh)) rfl ?_
 refine WL.yes rfl rfl (lh) (rfl) ?_
 refine WL.x (X.mv (jt2 rfl (lt rfl (s0)))) rfl ?_
 refine WL.yes rfl rfl (lt rfl (lh)) (rfl) ?_
 refine WL.x (X.lenSl Tryd.underlying22 (lh)) rfl ?_
 refine WL.yes rfl rfl (jt2 rfl (lh)) (rfl) ?_
 refine WL.x (X.lss (lh) lc) rfl ?_
 refine WL.x (X.pickF (jt2 rfl (lt rfl (lh))) (rfl) (lh)) rfl ?_
 refine WL.e3 Nx.thn 0 7 26 (jt4 rfl (jt2 rfl (lt rfl (s0)))) (jt4 rfl (jt2 rfl (lt rfl (s7)))) (lh) ?_
 intro σ3 s0 s7 s26
 refine W.cndp s26 (fun hshort => ?_) (fun hshort => ?_)
 ·
  refine W.seq ?_
  refine W.region ?_
  refine WL.x (X.asg lc) rfl ?_
  refine WL.e1 Nx.thn 6 (lh) ?_
  intro σ4 s6
  refine W.ret1 (Nx.rthn Nx.f1) s6 ?_
  exact ⟨false, rfl, ⟨(fun h => by cases h), (fun h => by have := h.1; omega)⟩, hcl⟩
 ·
  refine W.skip Nx.thn ?_
  refine W.seq ?_
  refine W.region ?_
  refine WL.mkMap (k := 3) (e := 4) rfl ?_
  intro w4 hmb cmb hzm
  obtain ⟨mb, hmbe⟩ : ∃ mb, mb = w3.heap.size := ⟨_, rfl⟩
  rw [← hmbe] at hmb ⊢
  have hcb := cmb.at0 hcb
  have hcl := hcl.trans0 cmb
  refine WL.x (X.asg (lh)) rfl ?_
  refine WL.e3 Nx.thn 0 7 9 (jt2 rfl (s0)) (jt2 rfl (s7)) (lh) ?_
  intro σ5 s0 s7 s9
  refine W.seq ?_
  refine W.region ?_
  refine WL.x (X.asg lc) rfl ?_
  refine WL.e4 Nx.thn 0 7 9 10 (lt rfl (s0)) (lt rfl (s7)) (lt rfl (s9)) (lh) ?_
  intro σ6 s0 s7 s9 s10
  refine W.seq ?_
  refine W.seq ?_
  refine W.region ?_
  refine WL.x (X.mv (s0)) rfl ?_
  refine WL.x (X.lenSl Tryd.underlying22 (lh)) rfl ?_
  refine WL.x (X.mv lc) rfl ?_
  refine WL.e7 Nx.thn 0 7 9 10 28 29 30 (jt2 rfl (lt rfl (s0))) (jt2 rfl (lt rfl (s7))) (jt2 rfl (lt rfl (s9))) (jt2 rfl (lt rfl (s10))) (jt2 rfl (lh)) (lt rfl (lh)) (lh) ?_
  intro σ7 s0 s7 s9 s10 s28 s29 s30
  refine W.block ?_
  have qo2 := s0
  have qo3 := s7
  have qo4 := s9
  have qo5 := s28
  have qo6 := s29
  -- loop 0: kept [0, 7, 9, 28, 29], varied [10, 30]
  refine W.loop (G := Nat) (fun j σ' w' => (σ' 0 = σ7 0 ∧ σ' 7 = σ7 7 ∧ σ' 9 = σ7 9 ∧ σ' 28 = σ7 28 ∧ σ' 29 = σ7 29 ∧ True) ∧ (σ' 30 = .int .i64 (j : Int) ∧ j ≤ l.length ∧ σ' 10 = .int .i64 (cntC (l.take j) k : Int) ∧ (∀ i, i < j → okI l k r i) ∧ MB Tryd.prog 3 4 w' mb j (froms (l.take j)) ∧ (w').heap[w1.heap.size]? = some (.cells #[.int .i64 (wantN k : Int), .int .i64 (othN k r : Int), .int .i64 (mostN k : Int)] 43 (0, 0)) ∧ mb < (w').heap.size ∧ Ch0 w w')) (fun j => l.length - j) (0) ⟨⟨rfl, rfl, rfl, rfl, rfl, trivial⟩, s30, by omega, s10, (fun i h => absurd h (by omega)), hmb, hcb, by omega, hcl⟩ ?_
  rintro j σ8 w5 ⟨⟨f0, f7, f9, f28, f29, _⟩, s30, hj, s10, hall, hmb, hcb, hmz, hcl⟩
  have s0 := f0.trans qo2
  have s7 := f7.trans qo3
  have s9 := f9.trans qo4
  have s28 := f28.trans qo5
  have s29 := f29.trans qo6
  have hzb := lt_of_blk hcb
  refine W.seq ?_
  refine W.region ?_
  refine WL.x (X.lss (s30) (s29)) rfl ?_
  refine WL.e8 Nx.thn 0 7 9 10 28 29 30 31 (lt rfl (s0)) (lt rfl (s7)) (lt rfl (s9)) (lt rfl (s10)) (lt rfl (s28)) (lt rfl (s29)) (lt rfl (s30)) (lh) ?_
  intro σ9 s0 s7 s9 s10 s28 s29 s30 s31
  refine W.seq ?_
  refine W.cndp s31 (fun hlt => ?_) (fun hlt => ?_)
  ·
   have hjl : j < l.length := by omega
   obtain ⟨lb, lo, lcs, lT, lfr, rfl, hlm, hle9, -, hlc⟩ := hl.get (k := j) hjl
   obtain ⟨x, hx⟩ : ∃ x, l[j] = x := ⟨_, rfl⟩
   have hn1 : (j + 1) % l.length < l.length := Nat.mod_lt _ (by omega)
   obtain ⟨lb2, lo2, lcs2, lT2, lfr2, he2, hlm2, -, -, hlc2⟩ := hl.get (k := (j + 1) % l.length) hn1
   simp only [Option.some.injEq, Addr.mk.injEq, and_true] at he2
   obtain ⟨rfl, rfl⟩ := he2
   obtain ⟨y, hy⟩ : ∃ y, l[(j + 1) % l.length] = y := ⟨_, rfl⟩
   have hxf := hfr x (by rw [← hx]; exact List.getElem_mem hjl)
   have hcs := cnt_succ (k := k) hjl
   have hfs := froms_succ hjl
   have hcl9 := cnt_le (l.take j) k
   rw [List.length_take] at hcl9
   rw [hx] at hlc hcs hfs
   rw [hy] at hlc2
   have hgx : l.getD j zeroW = x := (getD_at hjl).trans hx
   have hgy : l.getD ((j + 1) % l.length) zeroW = y := (getD_at hn1).trans hy
   refine W.skip Nx.thn ?_
   refine W.seq ?_
   refine W.block ?_
   refine W.seq ?_
   refine W.region ?_
   refine WL.x (X.mv (s30)) rfl ?_
   refine WL.x (X.indexAddr Tryd.underlying22 el27 (lt rfl (s28)) (lt rfl (s30)) (by omega) (by omega)) rfl ?_
   refine WL.x (X.loadS (vs := fwy x) ag27 (lh) (hcl.at0 hlm) rfl hlc) rfl ?_
   refine WL.alloc el27 rfl ?_
   intro w6 u8_3; have hu8_3 := u8_3.at_; have cu8_3 := u8_3.ch; have zu8_3 := u8_3.size
   refine WL.x (X.asg (jt2 rfl (lt rfl (lh)))) rfl ?_
   refine WL.storeS ag27 (lt rfl (lh)) (jt2 rfl (lh)) (List.all_eq_true.2 (fwy_one x)) rfl hu8_3 (by decide) ?_
   intro w7 us; have cst := us.ch
   have hxb : w7.heap[(_ : Nat)]? = some (.cells (fwy x).toArray 27 (0, 0)) := us.at_
   have cku := cu8_3.trans cst (H := fun _ => False) (fun _ _ e => e) (fun i hi e => by (try dsimp only at e); omega)
   have hcb := cku.at0 hcb
   have hmb := hmb.ch cku (fun e => e)
   have hcl := hcl.trans0 cku
   refine WL.e9 Nx.thn 0 7 9 10 11 12 28 29 30 (jt4 rfl (lt rfl (s0))) (jt4 rfl (lt rfl (s7))) (jt4 rfl (lt rfl (s9))) (jt4 rfl (lt rfl (s10))) (lh) (lt rfl (lh)) (jt4 rfl (lt rfl (s28))) (jt4 rfl (lt rfl (s29))) (jt4 rfl (lt rfl (s30))) ?_
   intro σ10 s0 s7 s9 s10 s11 s12 s28 s29 s30
   refine W.seq ?_
   refine W.region ?_
   refine WL.x (X.mv (s0)) rfl ?_
   refine WL.x (X.mv (lt rfl (s11))) rfl ?_
   refine WL.x (X.addN (b := 1) (lh) lc (by omega)) rfl ?_
   refine WL.x (X.mv (jt2 rfl (lt rfl (s0)))) rfl ?_
   refine WL.x (X.lenSl Tryd.underlying22 (lh)) rfl ?_
   refine WL.x (v := .int .i64 (((j + 1) % l.length : Nat) : Int)) (by rw [Int.natCast_emod]; exact X.rem (jt2 rfl (lh)) (lh) (by omega) (by omega)) rfl ?_
   refine WL.x (X.indexAddr Tryd.underlying22 el27 (jt4 rfl (lt rfl (lh))) (lh) (by omega) (by omega)) rfl ?_
   refine WL.x (X.loadS (vs := fwy y) ag27 (lh) (hcl.at0 hlm2) rfl hlc2) rfl ?_
   refine WL.alloc el27 rfl ?_
   intro w8 u9_8; have hu9_8 := u9_8.at_; have cu9_8 := u9_8.ch; have zu9_8 := u9_8.size
   refine WL.storeS ag27 (lh) (lt rfl (lh)) (List.all_eq_true.2 (fwy_one y)) rfl hu9_8 (by decide) ?_
   intro w9 us; have cst := us.ch
   have hyb : w9.heap[(_ : Nat)]? = some (.cells (fwy y).toArray 27 (0, 0)) := us.at_
   have ckv := cu9_8.trans cst (H := fun _ => False) (fun _ _ e => e) (fun i hi e => by (try dsimp only at e); omega)
   have hcb := ckv.at0 hcb
   have hmb := hmb.ch ckv (fun e => e)
   have hcl := hcl.trans0 ckv
   have hxb := ckv.at0 hxb
   refine WL.e9 Nx.thn 0 7 9 10 12 13 28 29 30 (jt8 rfl (lt rfl (s0))) (jt8 rfl (lt rfl (s7))) (jt8 rfl (lt rfl (s9))) (jt8 rfl (lt rfl (s10))) (jt8 rfl (lt rfl (s12))) (lh) (jt8 rfl (lt rfl (s28))) (jt8 rfl (lt rfl (s29))) (jt8 rfl (lt rfl (s30))) ?_
   intro σ11 s0 s7 s9 s10 s12 s13 s28 s29 s30
   refine W.seq ?_
   refine W.seq ?_
   refine W.region ?_
   refine WL.x (X.fieldAddr fd27_2 (s12)) rfl ?_
   refine WL.x (X.load pl3 (lh) hxb (v := .int .i64 x.2.2.1) rfl) rfl ?_
   refine WL.call1 ce17 (lh) (one_ok x.2.2.1 w9) rfl ?_
   rintro _ _ ⟨rfl, rfl⟩
   refine WL.x (X.not (lh)) rfl ?_
   refine WL.x (X.mv (lh)) rfl ?_
   refine WL.split (lh) (fun q1 => ?_) (fun q1 => ?_)
   ·
    refine WL.no rfl rfl (lh) (q1) rfl ?_
    refine WL.no rfl rfl (lt rfl (lh)) (q1) rfl ?_
    refine WL.no rfl rfl (jt2 rfl (lh)) (q1) rfl ?_
    refine WL.no rfl rfl (jt2 rfl (lt rfl (lh))) (q1) rfl ?_
    refine WL.no rfl rfl (jt4 rfl (lh)) (q1) rfl ?_
    refine WL.no rfl rfl (jt4 rfl (lt rfl (lh))) (q1) rfl ?_
    refine WL.no rfl rfl (jt4 rfl (jt2 rfl (lh))) (q1) rfl ?_
    refine WL.no rfl rfl (jt4 rfl (jt2 rfl (lt rfl (lh)))) (q1) rfl ?_
    refine WL.no rfl rfl (jt8 rfl (lh)) (q1) rfl ?_
    refine WL.x (X.pickT (jt8 rfl (lt rfl (lh))) (q1) lc) rfl ?_
    refine WL.x (X.mv (lh)) rfl ?_
    refine WL.no rfl rfl (lh) rfl rfl ?_
    refine WL.no rfl rfl (lt rfl (lh)) rfl rfl ?_
    refine WL.no rfl rfl (jt2 rfl (lh)) rfl rfl ?_
    refine WL.no rfl rfl (jt2 rfl (lt rfl (lh))) rfl rfl ?_
    refine WL.no rfl rfl (jt4 rfl (lh)) rfl rfl ?_
    refine WL.x (X.pickT (jt4 rfl (lt rfl (lh))) rfl lc) rfl ?_
    refine WL.x (X.mv (lh)) rfl ?_
    refine WL.no rfl rfl (lh) rfl rfl ?_
    refine WL.no rfl rfl (lt rfl (lh)) rfl rfl ?_
    refine WL.no rfl rfl (jt2 rfl (lh)) rfl rfl ?_
    refine WL.no rfl rfl (jt2 rfl (lt rfl (lh))) rfl rfl ?_
    refine WL.x (X.pickT (jt4 rfl (lh)) rfl lc) rfl ?_
    refine WL.e9 Nx.thn 0 7 9 10 12 28 29 30 70 (jt8 rfl (jt8 rfl (jt8 rfl (jt4 rfl (s0))))) (jt8 rfl (jt8 rfl (jt8 rfl (jt4 rfl (s7))))) (jt8 rfl (jt8 rfl (jt8 rfl (jt4 rfl (s9))))) (jt8 rfl (jt8 rfl (jt8 rfl (jt4 rfl (s10))))) (jt8 rfl (jt8 rfl (jt8 rfl (jt4 rfl (s12))))) (jt8 rfl (jt8 rfl (jt8 rfl (jt4 rfl (s28))))) (jt8 rfl (jt8 rfl (jt8 rfl (jt4 rfl (s29))))) (jt8 rfl (jt8 rfl (jt8 rfl (jt4 rfl (s30))))) (lh) ?_
    intro σ12 s0 s7 s9 s10 s12 s28 s29 s30 s70
    refine W.cndT s70 ?_
    refine W.seq ?_
    refine W.region ?_
    refine WL.x (X.asg lc) rfl ?_
    refine WL.e1 Nx.thn 6 (lh) ?_
    intro σ13 s6
    refine W.ret1 (Nx.rthn (Nx.rblk (Nx.rthn (Nx.rthn (Nx.rblk (Nx.rthn Nx.f1)))))) s6 ?_
    exact ⟨false, rfl, ⟨(fun h => by cases h), (fun h => absurd (h.2.1 j hjl) (fun h9 => by have h8 := h9.1; rw [hgx, okL_one (by simpa using q1)] at h8; cases h8))⟩, hcl⟩
   ·
    refine WL.yes rfl rfl (lh) (q1) ?_
    refine WL.x (X.fieldAddr fd27_2 (jt4 rfl (lt rfl (s12)))) rfl ?_
    refine WL.yes rfl rfl (lt rfl (lh)) (q1) ?_
    refine WL.x (X.load pl3 (lh) hxb (v := .int .i64 x.2.2.1) rfl) rfl ?_
    refine WL.yes rfl rfl (jt2 rfl (lh)) (q1) ?_
    refine WL.x (X.fieldAddr fd43_0 (jt4 rfl (jt2 rfl (lt rfl (s7))))) rfl ?_
    refine WL.yes rfl rfl (jt2 rfl (lt rfl (lh))) (q1) ?_
    refine WL.x (X.load pl3 (lh) hcb (v := .int .i64 (wantN k : Int)) rfl) rfl ?_
    refine WL.yes rfl rfl (jt4 rfl (lh)) (q1) ?_
    refine WL.x (X.fieldAddr fd43_1 (jt8 rfl (lt rfl (s7)))) rfl ?_
    refine WL.yes rfl rfl (jt4 rfl (lt rfl (lh))) (q1) ?_
    refine WL.x (X.load pl3 (lh) hcb (v := .int .i64 (othN k r : Int)) rfl) rfl ?_
    refine WL.yes rfl rfl (jt4 rfl (jt2 rfl (lh))) (q1) ?_
    refine WL.x (v := .int .i64 ((wantN k ||| othN k r : Nat) : Int)) (by rw [← or_nat (want_lt k) (oth_lt k r)]; exact X.or (jt2 rfl (lh)) (lh)) rfl ?_
    refine WL.yes rfl rfl (jt4 rfl (jt2 rfl (lt rfl (lh)))) (q1) ?_
    have q19 : oneL x.2.2.1 = true := by simpa using q1
    obtain ⟨qa, qb, -⟩ := one_in q19
    refine WL.x (v := .int .i64 ((x.2.2.1.toNat &&& (wantN k ||| othN k r) : Nat) : Int)) (by rw [← and_oth (by omega) (or_lt16 (want_lt k) (oth_lt k r)), Int.toNat_of_nonneg qa]; exact X.and (jt4 rfl (lt rfl (lh))) (lh)) rfl ?_
    refine WL.yes rfl rfl (jt8 rfl (lh)) (q1) ?_
    refine WL.x (v := .bool (decide (x.2.2.1.toNat &&& (wantN k ||| othN k r) = 0))) (by rw [show decide (x.2.2.1.toNat &&& (wantN k ||| othN k r) = 0) = decide (((x.2.2.1.toNat &&& (wantN k ||| othN k r) : Nat) : Int) = 0) from decide_eq_decide.2 (by omega)]; exact X.eql (lh) lc) rfl ?_
    refine WL.x (X.pickF (jt8 rfl (lt rfl (lh))) (q1) (lh)) rfl ?_
    refine WL.x (X.mv (lh)) rfl ?_
    refine WL.splitp (lh) (fun q2 => ?_) (fun q2 => ?_)
    ·
     refine WL.no rfl rfl (lh) (decide_eq_true q2) rfl ?_
     refine WL.no rfl rfl (lt rfl (lh)) (decide_eq_true q2) rfl ?_
     refine WL.no rfl rfl (jt2 rfl (lh)) (decide_eq_true q2) rfl ?_
     refine WL.no rfl rfl (jt2 rfl (lt rfl (lh))) (decide_eq_true q2) rfl ?_
     refine WL.no rfl rfl (jt4 rfl (lh)) (decide_eq_true q2) rfl ?_
     refine WL.x (X.pickT (jt4 rfl (lt rfl (lh))) (decide_eq_true q2) lc) rfl ?_
     refine WL.x (X.mv (lh)) rfl ?_
     refine WL.no rfl rfl (lh) rfl rfl ?_
     refine WL.no rfl rfl (lt rfl (lh)) rfl rfl ?_
     refine WL.no rfl rfl (jt2 rfl (lh)) rfl rfl ?_
     refine WL.no rfl rfl (jt2 rfl (lt rfl (lh))) rfl rfl ?_
     refine WL.x (X.pickT (jt4 rfl (lh)) rfl lc) rfl ?_
     refine WL.e9 Nx.thn 0 7 9 10 12 28 29 30 70 (jt8 rfl (jt8 rfl (jt8 rfl (jt4 rfl (s0))))) (jt8 rfl (jt8 rfl (jt8 rfl (jt4 rfl (s7))))) (jt8 rfl (jt8 rfl (jt8 rfl (jt4 rfl (s9))))) (jt8 rfl (jt8 rfl (jt8 rfl (jt4 rfl (s10))))) (jt8 rfl (jt8 rfl (jt8 rfl (jt4 rfl (s12))))) (jt8 rfl (jt8 rfl (jt8 rfl (jt4 rfl (s28))))) (jt8 rfl (jt8 rfl (jt8 rfl (jt4 rfl (s29))))) (jt8 rfl (jt8 rfl (jt8 rfl (jt4 rfl (s30))))) (lh) ?_
     intro σ14 s0 s7 s9 s10 s12 s28 s29 s30 s70
     refine W.cndT s70 ?_
     refine W.seq ?_
     refine W.region ?_
     refine WL.x (X.asg lc) rfl ?_
     refine WL.e1 Nx.thn 6 (lh) ?_
     intro σ15 s6
     refine W.ret1 (Nx.rthn (Nx.rblk (Nx.rthn (Nx.rthn (Nx.rblk (Nx.rthn Nx.f1)))))) s6 ?_
     exact ⟨false, rfl, ⟨(fun h => by cases h), (fun h => absurd (h.2.1 j hjl) (fun h9 => by have h8 := h9.1; rw [hgx, (lab_no hk (by simpa using q1)).1 q2] at h8; cases h8))⟩, hcl⟩
    ·
     refine WL.yes rfl rfl (lh) (decide_eq_false q2) ?_
     refine WL.x (X.fieldAddr fd27_1 (jt8 rfl (jt8 rfl (s12)))) rfl ?_
     refine WL.yes rfl rfl (lt rfl (lh)) (decide_eq_false q2) ?_
     refine WL.x (X.load pl3 (lh) hxb (v := .int .i64 x.2.1) rfl) rfl ?_
     refine WL.yes rfl rfl (jt2 rfl (lh)) (decide_eq_false q2) ?_
     refine WL.x (X.fieldAddr fd27_0 (jt8 rfl (jt8 rfl (jt2 rfl (s13))))) rfl ?_
     refine WL.yes rfl rfl (jt2 rfl (lt rfl (lh))) (decide_eq_false q2) ?_
     refine WL.x (X.load pl3 (lh) hyb (v := .int .i64 y.1) rfl) rfl ?_
     refine WL.yes rfl rfl (jt4 rfl (lh)) (decide_eq_false q2) ?_
     refine WL.x (X.neq (jt2 rfl (lh)) (lh)) rfl ?_
     refine WL.x (X.pickF (jt4 rfl (lt rfl (lh))) (decide_eq_false q2) (lh)) rfl ?_
     refine WL.x (X.mv (lh)) rfl ?_
     refine WL.splitp (lh) (fun q3 => ?_) (fun q3 => ?_)
     ·
      refine WL.no rfl rfl (lh) (decide_eq_true q3) rfl ?_
      refine WL.no rfl rfl (lt rfl (lh)) (decide_eq_true q3) rfl ?_
      refine WL.no rfl rfl (jt2 rfl (lh)) (decide_eq_true q3) rfl ?_
      refine WL.no rfl rfl (jt2 rfl (lt rfl (lh))) (decide_eq_true q3) rfl ?_
      refine WL.x (X.pickT (jt4 rfl (lh)) (decide_eq_true q3) lc) rfl ?_
      refine WL.e9 Nx.thn 0 7 9 10 12 28 29 30 70 (jt8 rfl (jt8 rfl (jt8 rfl (jt4 rfl (s0))))) (jt8 rfl (jt8 rfl (jt8 rfl (jt4 rfl (s7))))) (jt8 rfl (jt8 rfl (jt8 rfl (jt4 rfl (s9))))) (jt8 rfl (jt8 rfl (jt8 rfl (jt4 rfl (s10))))) (jt8 rfl (jt8 rfl (jt8 rfl (jt4 rfl (s12))))) (jt8 rfl (jt8 rfl (jt8 rfl (jt4 rfl (s28))))) (jt8 rfl (jt8 rfl (jt8 rfl (jt4 rfl (s29))))) (jt8 rfl (jt8 rfl (jt8 rfl (jt4 rfl (s30))))) (lh) ?_
      intro σ16 s0 s7 s9 s10 s12 s28 s29 s30 s70
      refine W.cndT s70 ?_
      refine W.seq ?_
      refine W.region ?_
      refine WL.x (X.asg lc) rfl ?_
      refine WL.e1 Nx.thn 6 (lh) ?_
      intro σ17 s6
      refine W.ret1 (Nx.rthn (Nx.rblk (Nx.rthn (Nx.rthn (Nx.rblk (Nx.rthn Nx.f1)))))) s6 ?_
      exact ⟨false, rfl, ⟨(fun h => by cases h), (fun h => absurd (h.2.1 j hjl) (fun h9 => by have h8 := h9.2.1; rw [hgx, hgy] at h8; exact q3 h8))⟩, hcl⟩
     ·
      refine WL.yes rfl rfl (lh) (decide_eq_false q3) ?_
      refine WL.x (X.mv (jt8 rfl (jt8 rfl (jt4 rfl (jt2 rfl (lt rfl (s9))))))) rfl ?_
      refine WL.yes rfl rfl (lt rfl (lh)) (decide_eq_false q3) ?_
      refine WL.x (X.fieldAddr fd27_0 (jt8 rfl (jt8 rfl (jt8 rfl (s12))))) rfl ?_
      refine WL.yes rfl rfl (jt2 rfl (lh)) (decide_eq_false q3) ?_
      refine WL.x (X.load pl3 (lh) hxb (v := .int .i64 x.1) rfl) rfl ?_
      refine WL.yes rfl rfl (jt2 rfl (lt rfl (lh))) (decide_eq_false q3) ?_
      refine WL.x (X.look Tryd.underlying66 Tryd.underlying3 Tryd.underlying4 el4 (jt2 rfl (lh)) (lh) (wf_smI hxf.1 hxf.2) hmb) rfl ?_
      refine WL.x (X.pickF (jt4 rfl (lh)) (decide_eq_false q3) (lh)) rfl ?_
      refine WL.e9 Nx.thn 0 7 9 10 12 28 29 30 70 (jt8 rfl (jt8 rfl (jt8 rfl (jt4 rfl (s0))))) (jt8 rfl (jt8 rfl (jt8 rfl (jt4 rfl (s7))))) (jt8 rfl (jt8 rfl (jt8 rfl (jt4 rfl (s9))))) (jt8 rfl (jt8 rfl (jt8 rfl (jt4 rfl (s10))))) (jt8 rfl (jt8 rfl (jt8 rfl (jt4 rfl (s12))))) (jt8 rfl (jt8 rfl (jt8 rfl (jt4 rfl (s28))))) (jt8 rfl (jt8 rfl (jt8 rfl (jt4 rfl (s29))))) (jt8 rfl (jt8 rfl (jt8 rfl (jt4 rfl (s30))))) (lh) ?_
      intro σ18 s0 s7 s9 s10 s12 s28 s29 s30 s70
      refine W.cnd s70 (fun q4 => ?_) (fun q4 => ?_)
      ·
       refine W.seq ?_
       refine W.region ?_
       refine WL.x (X.asg lc) rfl ?_
       refine WL.e1 Nx.thn 6 (lh) ?_
       intro σ19 s6
       refine W.ret1 (Nx.rthn (Nx.rblk (Nx.rthn (Nx.rthn (Nx.rblk (Nx.rthn Nx.f1)))))) s6 ?_
       exact ⟨false, rfl, ⟨(fun h => by cases h), (fun h => absurd (h.2.1 j hjl) (fun h9 => froms_yes hjl (by rw [hx]; exact q4) h9.2.2))⟩, hcl⟩
      ·
       have q1 : oneL x.2.2.1 = true := by simpa using q1
       have hokx : okL k r x.2.2.1 = true := by cases h9 : okL k r x.2.2.1; (· exact absurd ((lab_no hk q1).2 h9) q2); (· rfl)
       have hoki : okI l k r j := by unfold okI; rw [hgx, hgy]; exact ⟨hokx, Classical.not_not.1 q3, fun i hi => by have h8 := froms_no hjl (by rw [hx]; exact q4) i hi; rwa [hgx] at h8⟩
       refine W.skip Nx.thn ?_
       refine W.seq ?_
       refine W.region ?_
       refine WL.x (X.mv (s9)) rfl ?_
       refine WL.x (X.fieldAddr fd27_0 (lt rfl (s12))) rfl ?_
       refine WL.x (X.load pl3 (lh) hxb (v := .int .i64 x.1) rfl) rfl ?_
       refine WL.mapSet Tryd.underlying66 Tryd.underlying3 Tryd.underlying4 (jt2 rfl (lh)) (lh) lc (wf_smI hxf.1 hxf.2) (by unfold maxLen; omega) hmb ?_
       intro w10 hmb2 cms
       have hxb := cms.at hxb (fun e => by have h8 := hmb.lt; (try dsimp only at e); have h7 := lt_of_blk hxb; omega)
       have hcb := cms.at hcb (fun e => by (try dsimp only at e); omega)
       have hcl := hcl.trans cms (H := fun _ => False) (fun _ _ e => e) (fun i hi e => by (try dsimp only at e); omega)
       refine WL.e8 Nx.thn 0 7 9 10 12 28 29 30 (jt2 rfl (lt rfl (s0))) (jt2 rfl (lt rfl (s7))) (jt2 rfl (lt rfl (s9))) (jt2 rfl (lt rfl (s10))) (jt2 rfl (lt rfl (s12))) (jt2 rfl (lt rfl (s28))) (jt2 rfl (lt rfl (s29))) (jt2 rfl (lt rfl (s30))) ?_
       intro σ20 s0 s7 s9 s10 s12 s28 s29 s30
       refine W.seq ?_
       refine W.region ?_
       refine WL.x (X.fieldAddr fd27_2 (s12)) rfl ?_
       refine WL.x (X.load pl3 (lh) hxb (v := .int .i64 x.2.2.1) rfl) rfl ?_
       refine WL.x (X.fieldAddr fd43_0 (jt2 rfl (s7))) rfl ?_
       refine WL.x (X.load pl3 (lh) hcb (v := .int .i64 (wantN k : Int)) rfl) rfl ?_
       refine WL.x (X.eql (jt2 rfl (lh)) (lh)) rfl ?_
       refine WL.e8 Nx.thn 0 7 9 10 28 29 30 78 (jt4 rfl (lt rfl (s0))) (jt4 rfl (lt rfl (s7))) (jt4 rfl (lt rfl (s9))) (jt4 rfl (lt rfl (s10))) (jt4 rfl (lt rfl (s28))) (jt4 rfl (lt rfl (s29))) (jt4 rfl (lt rfl (s30))) (lh) ?_
       intro σ21 s0 s7 s9 s10 s28 s29 s30 s78
       refine W.cndp s78 (fun hw9 => ?_) (fun hw9 => ?_)
       ·
        refine W.region ?_
        refine WL.x (X.mv (s10)) rfl ?_
        refine WL.x (X.addN (b := 1) (lh) lc (by omega)) rfl ?_
        refine WL.x (X.asg (lh)) rfl ?_
        refine WL.e7 (Nx.blk Nx.thn) 0 7 9 10 28 29 30 (jt2 rfl (lt rfl (s0))) (jt2 rfl (lt rfl (s7))) (jt2 rfl (lt rfl (s9))) (lh) (jt2 rfl (lt rfl (s28))) (jt2 rfl (lt rfl (s29))) (jt2 rfl (lt rfl (s30))) ?_
        intro σ22 s0 s7 s9 s10 s28 s29 s30
        refine W.region ?_
        refine WL.x (X.addN (b := 1) (s30) lc (by omega)) rfl ?_
        refine WL.x (X.mv (lh)) rfl ?_
        refine WL.e7 Nx.thn 0 7 9 10 28 29 30 (jt2 rfl (s0)) (jt2 rfl (s7)) (jt2 rfl (s9)) (jt2 rfl (s10)) (jt2 rfl (s28)) (jt2 rfl (s29)) (lh) ?_
        intro σ23 s0 s7 s9 s10 s28 s29 s30
        refine ⟨j + 1, by omega, ⟨s0.trans qo2.symm, s7.trans qo3.symm, s9.trans qo4.symm, s28.trans qo5.symm, s29.trans qo6.symm, trivial⟩, s30, by omega, s10.trans (by rw [hcs, if_pos hw9]), (fun i hi => by by_cases e9 : i = j; (· subst e9; exact hoki); (· exact hall i (by omega))), (by rw [hfs]; exact hmb2), hcb, (by have := cms.size; have := ckv.size; have := cku.size; omega), hcl⟩
       ·
        refine W.skip (Nx.blk Nx.thn) ?_
        refine W.region ?_
        refine WL.x (X.addN (b := 1) (s30) lc (by omega)) rfl ?_
        refine WL.x (X.mv (lh)) rfl ?_
        refine WL.e7 Nx.thn 0 7 9 10 28 29 30 (jt2 rfl (s0)) (jt2 rfl (s7)) (jt2 rfl (s9)) (jt2 rfl (s10)) (jt2 rfl (s28)) (jt2 rfl (s29)) (lh) ?_
        intro σ24 s0 s7 s9 s10 s28 s29 s30
        refine ⟨j + 1, by omega, ⟨s0.trans qo2.symm, s7.trans qo3.symm, s9.trans qo4.symm, s28.trans qo5.symm, s29.trans qo6.symm, trivial⟩, s30, by omega, s10.trans (by rw [hcs, if_neg hw9]; rfl), (fun i hi => by by_cases e9 : i = j; (· subst e9; exact hoki); (· exact hall i (by omega))), (by rw [hfs]; exact hmb2), hcb, (by have := cms.size; have := ckv.size; have := cku.size; omega), hcl⟩
  ·
   have hjL : j = l.length := by omega
   subst hjL
   rw [List.take_length] at s10
   have hcl9 := cnt_le l k
   refine W.exit (Nx.xthn (Nx.xthn (Nx.xblk Nx.thn))) ?_
   refine W.seq ?_
   refine W.region ?_
   refine WL.x (X.mv (s10)) rfl ?_
   refine WL.x (X.gtr (lh) lc) rfl ?_
   refine WL.x (X.mv (lh)) rfl ?_
   refine WL.splitp (lh) (fun z1 => ?_) (fun z1 => ?_)
   ·
    refine WL.yes rfl rfl (lh) (decide_eq_true z1) ?_
    refine WL.x (X.fieldAddr fd43_2 (jt2 rfl (lt rfl (s7)))) rfl ?_
    refine WL.yes rfl rfl (lt rfl (lh)) (decide_eq_true z1) ?_
    refine WL.x (X.load pl3 (lh) hcb (v := .int .i64 (mostN k : Int)) rfl) rfl ?_
    refine WL.yes rfl rfl (jt2 rfl (lh)) (decide_eq_true z1) ?_
    refine WL.x (X.gtr (lh) lc) rfl ?_
    refine WL.yes rfl rfl (jt2 rfl (lt rfl (lh))) (decide_eq_true z1) ?_
    refine WL.x (X.mv (lh)) rfl ?_
    refine WL.splitp (lh) (fun z2 => ?_) (fun z2 => ?_)
    ·
     refine WL.no rfl rfl (lh) (decide_eq_true z2) rfl ?_
     refine WL.no rfl rfl (lt rfl (lh)) (decide_eq_true z2) rfl ?_
     refine WL.yes rfl rfl (jt4 rfl (jt2 rfl (lh))) (decide_eq_true z1) ?_
     refine WL.x (X.pickT (jt2 rfl (lh)) (decide_eq_true z2) lc) rfl ?_
     refine WL.x (X.pickT (jt4 rfl (jt2 rfl (lt rfl (lh)))) (decide_eq_true z1) (lh)) rfl ?_
     refine WL.x (X.asg (lh)) rfl ?_
     refine WL.e1 Nx.thn 6 (lh) ?_
     intro σ25 s6
     refine W.ret1 Nx.f1 s6 ?_
     exact ⟨true, rfl, ⟨(fun _ => ⟨by omega, hall, by by_cases h9 : cntC l k = 1; (· exact .inl h9); (· exact .inr ⟨by omega, fun e => by rw [e] at z2; exact absurd z2 (by decide)⟩)⟩), (fun _ => rfl)⟩, hcl⟩
    ·
     refine WL.yes rfl rfl (lh) (decide_eq_false z2) ?_
     refine WL.x (X.mv (jt4 rfl (jt2 rfl (lt rfl (s10))))) rfl ?_
     refine WL.yes rfl rfl (lt rfl (lh)) (decide_eq_false z2) ?_
     refine WL.x (X.eql (lh) lc) rfl ?_
     refine WL.yes rfl rfl (jt4 rfl (jt2 rfl (lh))) (decide_eq_true z1) ?_
     refine WL.x (X.pickF (jt2 rfl (lh)) (decide_eq_false z2) (lh)) rfl ?_
     refine WL.x (X.pickT (jt4 rfl (jt2 rfl (lt rfl (lh)))) (decide_eq_true z1) (lh)) rfl ?_
     refine WL.x (X.asg (lh)) rfl ?_
     refine WL.e1 Nx.thn 6 (lh) ?_
     intro σ26 s6
     refine W.ret1 Nx.f1 s6 ?_
     have hk10 : k = 10 := Classical.byContradiction fun h9 => z2 (by unfold mostN; rw [if_neg h9]; decide)
     exact ⟨_, rfl, ⟨(fun h => ⟨by omega, hall, .inl (by have := of_decide_eq_true h; omega)⟩), (fun h => decide_eq_true (by rcases h.2.2 with h8 | h8; (· omega); (· exact absurd hk10 h8.2)))⟩, hcl⟩
   ·
    refine WL.no rfl rfl (lh) (decide_eq_false z1) rfl ?_
    refine WL.no rfl rfl (lt rfl (lh)) (decide_eq_false z1) rfl ?_
    refine WL.no rfl rfl (jt2 rfl (lh)) (decide_eq_false z1) rfl ?_
    refine WL.no rfl rfl (jt2 rfl (lt rfl (lh))) (decide_eq_false z1) rfl ?_
    refine WL.nou rfl (lh) rfl ?_
    refine WL.nou rfl (lt rfl (lh)) rfl ?_
    refine WL.no rfl rfl (jt4 rfl (jt2 rfl (lh))) (decide_eq_false z1) rfl ?_
    refine WL.x (X.pickF (jt4 rfl (jt2 rfl (lt rfl (lh)))) (decide_eq_false z1) lc) rfl ?_
    refine WL.x (X.asg (lh)) rfl ?_
    refine WL.e1 Nx.thn 6 (lh) ?_
    intro σ27 s6
    refine W.ret1 Nx.f1 s6 ?_
    exact ⟨false, rfl, ⟨(fun h => by cases h), (fun h => by rcases h.2.2 with h8 | h8 <;> omega)⟩, hcl⟩
end Go.Proofs.YtnfkblboimkcjaaDoor
end

section
set_option linter.unusedVariables false
set_option linter.unusedSimpArgs false
set_option maxRecDepth 100000
namespace Go.Proofs.YtnfkblboimkcjaaDoor
open Go Go.RowKit Sg

/-- One is found, if there is one. -/
theorem find_some {n : Int} {l : List Gwy} {k : Int} {r : Bool} (hk : okK k) (ha : l.all (fun x => oneL x.2.2.1) = true) (hG : okG n l) {a b j : Nat} (h1 : LbW n l a b &&& wantN k ≠ 0) (hj : 1 ≤ j) (h2 : Wk (EE (LbW n l) (othN k r : Int)) j b a) : (findC n l k r).isSome = true := by
  have hok : LbOk n.toNat (LbW n l) := foldE_ok _ _
  have hd := dst_le hj h2
  have hn : LbW n l a b ≠ 0 := fun e => h1 (by rw [e]; exact Nat.zero_and _)
  have hab : a < n.toNat ∧ b < n.toNat := by
    refine ⟨Nat.lt_of_not_le fun h => hn (hok.off _ _ (.inl h)), Nat.lt_of_not_le fun h => hn (hok.off _ _ (.inr h))⟩
  unfold findC
  rw [if_pos ⟨hk, ha, hG⟩, Option.isSome_map]
  rw [List.find?_isSome]
  refine ⟨((a : Int), (b : Int), (LbW n l a b : Int)), ?_, ?_⟩
  · unfold edL rowE
    exact List.mem_flatMap.2 ⟨a, List.mem_range.2 hab.1, List.mem_map.2 ⟨b, List.mem_filter.2 ⟨List.mem_range.2 hab.2, decide_eq_true hn⟩, rfl⟩⟩
  · unfold pX
    rw [Bool.and_eq_true]
    refine ⟨decide_eq_true (by show (LbW n l a b : Int).toNat &&& wantN k ≠ 0; rw [Int.toNat_natCast]; exact h1), decide_eq_true ?_⟩
    show 0 ≤ dsI n.toNat (LbW n l) (othN k r : Int) (b : Int) (a : Int)
    unfold dsI dI
    rw [if_pos ⟨⟨by omega, by omega⟩, by omega, by omega⟩, Int.toNat_natCast, Int.toNat_natCast, if_neg hd.1]
    omega
/-- .. and what is found comes from an edge and a way back. -/
theorem find_is {n : Int} {l : List Gwy} {k : Int} {r : Bool} {c : List Gwy} (h : findC n l k r = some c) : okK k ∧ l.all (fun x => oneL x.2.2.1) = true ∧ okG n l ∧ ∃ e ∈ edL n.toNat (LbW n l) n.toNat, pX n.toNat (LbW n l) (wantN k) (othN k r) e = true ∧ c = cycW l n.toNat (LbW n l) (wantN k) (othN k r) e := by
  unfold findC at h
  split at h
  · rename_i hc
    obtain ⟨e, he, rfl⟩ := Option.map_eq_some_iff.1 h
    exact ⟨hc.1, hc.2.1, hc.2.2, e, List.mem_of_find?_eq_some he, List.find?_some he, rfl⟩
  · cases h
theorem clone_wy (A : Nat → Prop) (a : Option Addr) (c : Nat) (l : List Gwy) (w : World) (h : RSl 8 (Rc fwy) A w (.slice a l.length c) l) (hl : l.length * 64 ≤ 140737488355328) :
  Sg.Ret Tryd.prog 13 #[.slice a l.length c] w fun v w' => OwnF 8 fwy w' w.heap.size 27 v l ∧ Ch0 w w' := by
 refine enter1 (n := 8) (l := [.slice a l.length c]) Tryd.func13 rfl rfl rfl rfl ?_
 refine W.g1 0 (v1 := .slice a l.length c) rfl ?_; intro σ s0
 refine W.seq ?_
 refine W.region ?_
 refine WL.x (X.asg lc) rfl ?_
 refine WL.e1 Nx.thn 0 (lt rfl (s0)) ?_
 intro σ1 s0
 refine W.seq ?_
 refine W.seq ?_
 refine W.region ?_
 refine WL.x (X.mv (s0)) rfl ?_
 refine WL.x (X.eqlSl Tryd.underlying22 (lh) lc) rfl ?_
 refine WL.e2 Nx.thn 0 4 (jt2 rfl (s0)) (lh) ?_
 intro σ2 s0 s4
 refine W.cnd s4 (fun hnil => ?_) (fun hnil => ?_)
 ·
  obtain rfl : a = none := by cases a <;> first | rfl | (cases hnil)
  obtain rfl : l = [] := by
    rcases h with ⟨h, _⟩ | ⟨b, o, cap, cs, TT, fr, hv, _⟩
    · exact h
    · cases hv
  refine W.seq ?_
  refine W.region ?_
  refine WL.x (X.asg lc) rfl ?_
  refine WL.e1 Nx.thn 2 (lh) ?_
  intro σ3 s2
  refine W.ret1 (Nx.rthn Nx.f1) s2 ?_
  exact ⟨World.ownsRow_nil _ _ _ _, Ch.refl _ _⟩
 ·
  refine W.skip Nx.thn ?_
  refine W.seq ?_
  refine W.region ?_
  refine WL.bsliceR (vs := []) Tryd.underlying22 el27 (by decide) pnil rfl (fun _ h => by cases h) (by decide) rfl ?_
  intro w1 u3_0; have hu3_0 := u3_0.at_; have cu3_0 := u3_0.ch; have zu3_0 := u3_0.size
  refine WL.x (X.mv (lt rfl (s0))) rfl ?_
  refine WL.appendF Tryd.underlying22 el27 rfl (by decide) fwy_len fwy_one (lt rfl (lh)) (lh) (show OwnF 8 fwy _ w.heap.size 27 _ [] from owns_empty hu3_0 (Nat.le_refl _)) (h.ch0 (monRc _) cu3_0) (by unfold maxLen; simp only [List.length_nil]; omega) (by simp only [List.length_nil]; omega) (by omega) rfl ?_
  intro va3_2 w2 ho3_2 ca3_2
  refine WL.x (X.asg (lh)) rfl ?_
  refine WL.e1 Nx.thn 2 (lh) ?_
  intro σ4 s2
  refine W.ret1 Nx.f1 s2 ?_
  exact ⟨by simpa using ho3_2, cu3_0.trans ca3_2 (fun _ _ => id) (fun i hi e => by have : i = w.heap.size := e; omega)⟩
theorem eq_wy_walk (A A2 : Nat → Prop) (a1 a2 : Option Addr) (c1 c2 : Nat) (l1 l2 : List Gwy) (w : World) (h1 : RSl 8 (Rc fwy) A w (.slice a1 l1.length c1) l1) (h2 : RSl 8 (Rc fwy) A2 w (.slice a2 l2.length c2) l2) (hl : l1.length ≤ 140737488355328) :
  Sg.Ret Tryd.prog 14 #[.slice a1 l1.length c1, .slice a2 l2.length c2] w fun v w' => v = .bool (decide (l1 = l2)) ∧ Dr w w' := by
 refine enter1 (n := 26) (l := [.slice a1 l1.length c1, .slice a2 l2.length c2]) Tryd.func14 rfl rfl rfl rfl ?_
 refine W.g2 0 1 (v1 := .slice a1 l1.length c1) (v2 := .slice a2 l2.length c2) rfl rfl ?_; intro σ s0 s1
 refine W.seq ?_
 refine W.region ?_
 refine WL.x (X.asg lc) rfl ?_
 refine WL.e2 Nx.thn 0 1 (lt rfl (s0)) (lt rfl (s1)) ?_
 intro σ1 s0 s1
 refine W.seq ?_
 refine W.seq ?_
 refine W.region ?_
 refine WL.x (X.mv (s0)) rfl ?_
 refine WL.x (X.lenSl Tryd.underlying22 (lh)) rfl ?_
 refine WL.x (X.mv (jt2 rfl (s1))) rfl ?_
 refine WL.x (X.lenSl Tryd.underlying22 (lh)) rfl ?_
 refine WL.x (X.neq (jt2 rfl (lh)) (lh)) rfl ?_
 refine WL.e3 Nx.thn 0 1 10 (jt4 rfl (lt rfl (s0))) (jt4 rfl (lt rfl (s1))) (lh) ?_
 intro σ2 s0 s1 s10
 refine W.cndp s10 (fun hlen => ?_) (fun hlen => ?_)
 ·
  refine W.seq ?_
  refine W.region ?_
  refine WL.x (X.asg lc) rfl ?_
  refine WL.e1 Nx.thn 4 (lh) ?_
  intro σ3 s4
  refine W.ret1 (Nx.rthn Nx.f1) s4 ?_
  exact ⟨by rw [decide_eq_false (fun e => hlen (by rw [e]))], Dr.refl _⟩
 ·
  have hlen : l1.length = l2.length := by omega
  refine W.skip Nx.thn ?_
  refine W.seq ?_
  refine W.seq ?_
  refine W.region ?_
  refine WL.x (X.mv (s0)) rfl ?_
  refine WL.x (X.lenSl Tryd.underlying22 (lh)) rfl ?_
  refine WL.x (X.mv lc) rfl ?_
  refine WL.e4 Nx.thn 0 1 12 13 (jt2 rfl (lt rfl (s0))) (jt2 rfl (lt rfl (s1))) (lt rfl (lh)) (lh) ?_
  intro σ4 s0 s1 s12 s13
  refine W.block ?_
  have qo1 := s0
  have qo2 := s1
  have qo3 := s12
  -- loop 0: kept [0, 1, 12], varied [13]
  refine W.loop (G := Nat) (fun k σ' w' => (σ' 0 = σ4 0 ∧ σ' 1 = σ4 1 ∧ σ' 12 = σ4 12 ∧ True) ∧ (σ' 13 = .int .i64 (k : Int) ∧ k ≤ l1.length ∧ Dr w w' ∧ ∀ i, i < k → l1[i]? = l2[i]?)) (fun k => l1.length - k) (0) ⟨⟨rfl, rfl, rfl, trivial⟩, s13, by omega, Dr.refl _, fun i hi => absurd hi (by omega)⟩ ?_
  rintro k σ5 w1 ⟨⟨f0, f1, f12, _⟩, s13, hk, hdr, heq⟩
  have s0 := f0.trans qo1
  have s1 := f1.trans qo2
  have s12 := f12.trans qo3
  refine W.seq ?_
  refine W.region ?_
  refine WL.x (X.lss (s13) (s12)) rfl ?_
  refine WL.e5 Nx.thn 0 1 12 13 14 (lt rfl (s0)) (lt rfl (s1)) (lt rfl (s12)) (lt rfl (s13)) (lh) ?_
  intro σ6 s0 s1 s12 s13 s14
  refine W.seq ?_
  refine W.cndp s14 (fun hlt => ?_) (fun hlt => ?_)
  ·
   obtain ⟨b1, o1, cs1, T1, fr1, rfl, hm1, he1, -, hc1⟩ := h1.get (k := k) (by omega)
   obtain ⟨b2, o2, cs2, T2, fr2, rfl, hm2, he2, -, hc2⟩ := h2.get (k := k) (by omega)
   have hm1 := hdr.ch0.at0 hm1
   have hm2 := hdr.ch0.at0 hm2
   refine W.skip Nx.thn ?_
   refine W.seq ?_
   refine W.block ?_
   refine W.seq ?_
   refine W.region ?_
   refine WL.x (X.mv (s13)) rfl ?_
   refine WL.x (X.asg (lh)) rfl ?_
   refine WL.e5 Nx.thn 0 1 5 12 13 (jt2 rfl (s0)) (jt2 rfl (s1)) (lh) (jt2 rfl (s12)) (jt2 rfl (s13)) ?_
   intro σ7 s0 s1 s5 s12 s13
   refine W.seq ?_
   refine W.draw mo (by kernel_rfl) Nx.thn ?_
   refine WQ.x (fun _ => X.mv (s0)) rfl ?_
   refine WQ.x (fun _ => X.mv (lt rfl (s5))) rfl ?_
   refine WQ.x (fun _ => X.indexAddr Tryd.underlying22 el27 (lt rfl (lh)) (lh) (by omega) (by omega)) rfl ?_
   refine WQ.x (fun m => X.loadS (w := w1.drewN m) (vs := fwy l1[k]) ag27 (lh) hm1 he1 hc1) rfl ?_
   refine WQ.x (fun _ => X.mv (jt4 rfl (s1))) rfl ?_
   refine WQ.x (fun _ => X.mv (jt4 rfl (lt rfl (s5)))) rfl ?_
   refine WQ.x (fun _ => X.indexAddr Tryd.underlying22 el27 (lt rfl (lh)) (lh) (by omega) (by omega)) rfl ?_
   refine WQ.x (fun m => X.loadS (w := w1.drewN m) (vs := fwy l2[k]) ag27 (lh) hm2 he2 hc2) rfl ?_
   obtain ⟨fs9, hu9, hc9⟩ := cmp_wy l1[k] l2[k]
   refine WQ.x (v := .bool (decide (l1[k] ≠ l2[k]))) (fun m => X.neqAgg hu9 hp_wy hg_wy (jt4 rfl (lh)) (lh) hc9 (cmpv_wy _ _)) rfl ?_
   refine WQ.e5 0 1 12 13 24 (jt8 rfl (lt rfl (s0))) (jt8 rfl (lt rfl (s1))) (jt8 rfl (lt rfl (s12))) (jt8 rfl (lt rfl (s13))) (lh) ?_
   intro σ8 s0 s1 s12 s13 s24
   intro _; refine gdrew ?_; intro w2 hh6 cd6 dr6
   refine W.cndp s24 (fun hq => ?_) (fun hq => ?_)
   ·
    refine W.seq ?_
    refine W.region ?_
    refine WL.x (X.asg lc) rfl ?_
    refine WL.e1 Nx.thn 4 (lh) ?_
    intro σ9 s4
    refine W.ret1 (Nx.rblk (Nx.rthn (Nx.rthn (Nx.rblk (Nx.rthn Nx.f1))))) s4 ?_
    exact ⟨by rw [decide_eq_false (fun e => hq (by subst e; rfl))], hdr.trans dr6⟩
   ·
    refine W.skip (Nx.blk Nx.thn) ?_
    refine W.region ?_
    refine WL.x (X.add (s13) lc (by omega) (by omega)) rfl ?_
    refine WL.x (X.mv (lh)) rfl ?_
    refine WL.e4 Nx.thn 0 1 12 13 (jt2 rfl (s0)) (jt2 rfl (s1)) (jt2 rfl (s12)) (lh) ?_
    intro σ10 s0 s1 s12 s13
    have hq : l1[k] = l2[k] := Classical.not_not.1 hq
    refine ⟨k + 1, by omega, ⟨s0.trans qo1.symm, s1.trans qo2.symm, s12.trans qo3.symm, trivial⟩, s13, by omega, hdr.trans dr6, fun i hi => by by_cases e : i = k; (· subst e; rw [List.getElem?_eq_getElem (by omega), List.getElem?_eq_getElem (by omega), hq]); (· exact heq i (by omega))⟩
  ·
   refine W.exit (Nx.xthn (Nx.xthn (Nx.xblk Nx.thn))) ?_
   refine W.seq ?_
   refine W.region ?_
   refine WL.x (X.asg lc) rfl ?_
   refine WL.e1 Nx.thn 4 (lh) ?_
   intro σ11 s4
   refine W.ret1 Nx.f1 s4 ?_
   exact ⟨by rw [decide_eq_true (List.ext_getElem? fun i => by by_cases h : i < l1.length; (· exact heq i (by omega)); (· rw [List.getElem?_eq_none (by omega), List.getElem?_eq_none (by omega)]))], hdr⟩
theorem eq_wy_ok (A A2 : Nat → Prop) (v1 v2 : Value) (l1 l2 : List Gwy) (w : World) (h1 : RSl 8 (Rc fwy) A w v1 l1) (h2 : RSl 8 (Rc fwy) A2 w v2 l2) (hl : l1.length ≤ 140737488355328) : Sg.Ret Tryd.prog 14 #[v1, v2] w fun v w' => v = .bool (decide (l1 = l2)) ∧ Dr w w' := by
  obtain ⟨a1, c1, rfl⟩ := h1.len
  obtain ⟨a2, c2, rfl⟩ := h2.len
  exact eq_wy_walk A A2 a1 a2 c1 c2 l1 l2 w h1 h2 hl

end Go.Proofs.YtnfkblboimkcjaaDoor
end

section
set_option linter.unusedVariables false
set_option linter.unusedSimpArgs false
set_option maxRecDepth 100000
namespace Go.Proofs.YtnfkblboimkcjaaDoor
open Go Go.RowKit Sg

theorem foldE_bit {n : Nat} {a b m : Nat} : ∀ (es : List GE) (L0 : Nat → Nat → Nat), (es.foldl (addE n) L0) a b &&& m ≠ 0 → L0 a b &&& m ≠ 0 ∨ ∃ e ∈ es, inE n e ∧ okE e ∧ a = e.1.toNat ∧ b = e.2.1.toNat ∧ e.2.2.toNat &&& m ≠ 0
  | [], _, h => .inl h
  | e :: es, L0, h => by
    rw [List.foldl_cons] at h
    rcases foldE_bit es _ h with h | ⟨x, hx, hh⟩
    · unfold addE at h
      split at h
      · rename_i hc
        rw [Nat.and_or_distrib_right] at h
        by_cases h0 : L0 a b &&& m = 0
        · exact .inr ⟨e, List.mem_cons_self .., hc.1, hc.2.1, hc.2.2.1, hc.2.2.2, fun h1 => h (by rw [h0, h1]; rfl)⟩
        · exact .inl h0
      · exact .inl h
    · exact .inr ⟨x, List.mem_cons_of_mem _ hx, hh⟩
theorem one_bit {z e : Nat} (he : e < 4) (h1 : oneL (z : Int) = true) (h2 : z &&& 2 ^ e ≠ 0) : z = 2 ^ e := by
  have h3 := (one_in h1).2.2
  rcases (show z = 1 ∨ z = 2 ∨ z = 4 ∨ z = 8 by omega) with rfl | rfl | rfl | rfl <;> rcases (show e = 0 ∨ e = 1 ∨ e = 2 ∨ e = 3 by omega) with rfl | rfl | rfl | rfl <;> first | rfl | (exact absurd (by decide) h2)
theorem wf_spec {n : Int} {l : List Gwy} (hall : l.all (fun x => oneL x.2.2.1) = true) {a b e : Nat} (he : e < 4) (h : LbW n l a b &&& 2 ^ e ≠ 0) :
    wf l (a : Int) (b : Int) ((2 ^ e : Nat) : Int) ∈ l ∧ (wf l (a : Int) (b : Int) ((2 ^ e : Nat) : Int)).1 = (a : Int) ∧ (wf l (a : Int) (b : Int) ((2 ^ e : Nat) : Int)).2.1 = (b : Int) ∧ (wf l (a : Int) (b : Int) ((2 ^ e : Nat) : Int)).2.2.1 = ((2 ^ e : Nat) : Int) := by
  have hex : ∃ x ∈ l, x.1 = (a : Int) ∧ x.2.1 = (b : Int) ∧ x.2.2.1 = ((2 ^ e : Nat) : Int) := by
    rcases foldE_bit (l.map eW) (fun _ _ => 0) h with h0 | ⟨g, hg, h1, h2, h3, h4, h5⟩
    · exact absurd (Nat.zero_and _) h0
    · obtain ⟨x, hx, rfl⟩ := List.mem_map.1 hg
      unfold inE at h1
      have ho : oneL x.2.2.1 = true := List.all_eq_true.1 hall x hx
      have ho2 := one_in ho
      have h5 : x.2.2.1.toNat &&& 2 ^ e ≠ 0 := h5
      have h6 := one_bit he (by rw [Int.toNat_of_nonneg ho2.1]; exact ho) h5
      have h3 : a = x.1.toNat := h3
      have h4 : b = x.2.1.toNat := h4
      have h1 : 0 ≤ x.1 ∧ x.1 < (n.toNat : Int) ∧ 0 ≤ x.2.1 ∧ x.2.1 < (n.toNat : Int) := h1
      exact ⟨x, hx, by omega, by omega, by rw [← h6, Int.toNat_of_nonneg ho2.1]⟩
  have hfd : ∃ y, findW l (a : Int) (b : Int) ((2 ^ e : Nat) : Int) = some y := by
    obtain ⟨x, hx, h1, h2, h3⟩ := hex
    rw [findW_eq]
    have hm : mtW x (a : Int) (b : Int) ((2 ^ e : Nat) : Int) = true := by unfold mtW; rw [decide_eq_true h1, decide_eq_true h2, decide_eq_true h3]; rfl
    cases hc : cnd x with
    | false =>
      have : (l.find? fun x => mtW x (a : Int) (b : Int) ((2 ^ e : Nat) : Int) && !cnd x).isSome = true := List.find?_isSome.2 ⟨x, hx, by rw [hm, hc]; rfl⟩
      obtain ⟨y, hy⟩ := Option.isSome_iff_exists.1 this
      exact ⟨y, by rw [hy]; rfl⟩
    | true =>
      have : (l.find? fun x => mtW x (a : Int) (b : Int) ((2 ^ e : Nat) : Int) && cnd x).isSome = true := List.find?_isSome.2 ⟨x, hx, by rw [hm, hc]; rfl⟩
      obtain ⟨y, hy⟩ := Option.isSome_iff_exists.1 this
      cases h9 : l.find? fun x => mtW x (a : Int) (b : Int) ((2 ^ e : Nat) : Int) && !cnd x with
      | none => exact ⟨y, by rw [hy]; rfl⟩
      | some z => exact ⟨z, rfl⟩
  obtain ⟨y, hy⟩ := hfd
  have hmem : y ∈ selW l (a : Int) (b : Int) ((2 ^ e : Nat) : Int) := by
    unfold findW at hy
    have h1 := List.mem_of_mem_head? (Option.mem_def.2 hy)
    unfold stb zs os at h1
    rcases List.mem_append.1 h1 with h1 | h1 <;> exact (List.mem_filter.1 h1).1
  unfold selW at hmem
  have h2 := List.mem_filter.1 hmem
  have h3 := h2.2
  simp only [Bool.and_eq_true, decide_eq_true_eq] at h3
  have e9 : wf l (a : Int) (b : Int) ((2 ^ e : Nat) : Int) = y := by unfold wf; rw [hy]; rfl
  rw [e9]
  exact ⟨h2.1, h3.1.1, h3.1.2, h3.2⟩
theorem want_pow {k : Int} (hk : okK k) : ∃ e, e < 4 ∧ wantN k = 2 ^ e := by
  rcases okK_cases hk with rfl | rfl | rfl | rfl
  · exact ⟨0, by decide, rfl⟩
  · exact ⟨1, by decide, rfl⟩
  · exact ⟨2, by decide, rfl⟩
  · exact ⟨2, by decide, rfl⟩
theorem lsb_cases : ∀ m, m < 16 → m ≠ 0 → (lsb m = 1 ∧ m &&& 1 ≠ 0) ∨ (lsb m = 2 ∧ m &&& 2 ≠ 0) ∨ (lsb m = 4 ∧ m &&& 4 ≠ 0) ∨ (lsb m = 8 ∧ m &&& 8 ≠ 0) := by decide
theorem lsb_pow {m : Nat} (h : m < 16) (h0 : m ≠ 0) : ∃ e, e < 4 ∧ lsb m = 2 ^ e ∧ m &&& 2 ^ e ≠ 0 := by
  rcases lsb_cases m h h0 with h | h | h | h
  · exact ⟨0, by decide, h.1, h.2⟩
  · exact ⟨1, by decide, h.1, h.2⟩
  · exact ⟨2, by decide, h.1, h.2⟩
  · exact ⟨3, by decide, h.1, h.2⟩
theorem and_two {L o m : Nat} (h : L &&& o &&& m ≠ 0) : L &&& m ≠ 0 ∧ m &&& o ≠ 0 := by
  refine ⟨fun e => h ?_, fun e => h ?_⟩
  · rw [Nat.and_assoc, Nat.and_comm o m, ← Nat.and_assoc, e, Nat.zero_and]
  · rw [Nat.and_assoc, Nat.and_comm o m, e, Nat.and_zero]
/-- What is told is a cycle: its parts. -/
structure CycP (l : List Gwy) (k : Int) (r : Bool) (c : List Gwy) (a : Nat) (D : Nat) (P : Nat → Nat) : Prop where
  len : c.length = D + 1
  pos : 1 ≤ D
  mem : ∀ i, i ≤ D → c.getD i zeroW ∈ l
  fst : (c.getD 0 zeroW).1 = (a : Int) ∧ (c.getD 0 zeroW).2.1 = (P 0 : Int) ∧ (c.getD 0 zeroW).2.2.1 = (wantN k : Int)
  stp : ∀ i, i < D → (c.getD (i + 1) zeroW).1 = (P i : Int) ∧ (c.getD (i + 1) zeroW).2.1 = (P (i + 1) : Int) ∧ oneL (c.getD (i + 1) zeroW).2.2.1 = true ∧ (c.getD (i + 1) zeroW).2.2.1.toNat &&& othN k r ≠ 0
  last : P D = a
  ne : ∀ i j, i < j → j < D → P i ≠ P j
  nea : ∀ i, i < D → P i ≠ a
theorem oneL_pow {e : Nat} (he : e < 4) : oneL ((2 ^ e : Nat) : Int) = true := by
  rcases (show e = 0 ∨ e = 1 ∨ e = 2 ∨ e = 3 by omega) with rfl | rfl | rfl | rfl <;> rfl
theorem getD_mapI (L : List Nat) (i : Nat) : (L.map fun (m : Nat) => (m : Int)).getD i 0 = ((L.getD i 0 : Nat) : Int) := by
  rw [List.getD_eq_getElem?_getD, List.getD_eq_getElem?_getD, List.getElem?_map]
  cases L[i]? <;> rfl
theorem find_parts {n : Int} {l : List Gwy} {k : Int} {r : Bool} {c : List Gwy} (h : findC n l k r = some c) : okK k ∧ ∃ a D P, CycP l k r c a D P := by
  obtain ⟨hk, hall, hG, e, he, hp, rfl⟩ := find_is h
  refine ⟨hk, ?_⟩
  have hok : LbOk n.toNat (LbW n l) := foldE_ok _ _
  obtain ⟨a, b, ha, hb, hn, rfl⟩ := ed_mem (Nat.le_refl _) he
  have hab : b ≠ a := fun e => hn (by rw [e]; exact hok.diag a)
  unfold pX at hp
  rw [Bool.and_eq_true] at hp
  have hw : LbW n l a b &&& wantN k ≠ 0 := by have := of_decide_eq_true hp.1; have : (LbW n l a b : Int).toNat &&& wantN k ≠ 0 := this; rwa [Int.toNat_natCast] at this
  have hd : 0 ≤ dsI n.toNat (LbW n l) (othN k r : Int) (b : Int) (a : Int) := of_decide_eq_true hp.2
  obtain ⟨D, hD⟩ : ∃ D, dst (EE (LbW n l) (othN k r : Int)) b a = D := ⟨_, rfl⟩
  have hdD : dsI n.toNat (LbW n l) (othN k r : Int) (b : Int) (a : Int) = (D : Int) ∧ 1 ≤ D := by
    rcases dsI_pos (n := n.toNat) (Lb := LbW n l) (o := (othN k r : Int)) (a := (b : Int)) (b := (a : Int)) with k1 | k1
    · omega
    · have := k1.2.2.2
      rw [Int.toNat_natCast, Int.toNat_natCast, hD] at this
      omega
  have h0 : D ≠ 0 := by omega
  have hB : backW n.toNat (LbW n l) (othN k r) ((a : Int), (b : Int), (LbW n l a b : Int)) = (b :: spath (LbW n l) n.toNat (othN k r : Int) a D b).map fun (m : Nat) => (m : Int) := by
    show shI n.toNat (LbW n l) (othN k r : Int) (b : Int) (a : Int) = _
    unfold shI
    rw [if_neg (by omega), Int.toNat_natCast, Int.toNat_natCast, hD]
  have hBl : (backW n.toNat (LbW n l) (othN k r) ((a : Int), (b : Int), (LbW n l a b : Int))).length = D + 1 := by rw [hB, List.length_map, List.length_cons, spath_len]
  have hBi : ∀ i, (backW n.toNat (LbW n l) (othN k r) ((a : Int), (b : Int), (LbW n l a b : Int))).getD i 0 = (pth (LbW n l) n.toNat (othN k r : Int) a D b i : Int) := fun i => by rw [hB, getD_mapI]; rfl
  have hP := pth_all hok hb (left_start hD h0)
  have hlast := pth_end hok hb hD h0
  obtain ⟨ew, hew, hwe⟩ := want_pow hk
  have w0 := wf_spec hall hew (by rw [← hwe]; exact hw)
  rw [← hwe] at w0
  have hst : ∀ i, i < D → stepW l (LbW n l) (othN k r) (backW n.toNat (LbW n l) (othN k r) ((a : Int), (b : Int), (LbW n l a b : Int))) i ∈ l ∧ (stepW l (LbW n l) (othN k r) (backW n.toNat (LbW n l) (othN k r) ((a : Int), (b : Int), (LbW n l a b : Int))) i).1 = (pth (LbW n l) n.toNat (othN k r : Int) a D b i : Int) ∧
      (stepW l (LbW n l) (othN k r) (backW n.toNat (LbW n l) (othN k r) ((a : Int), (b : Int), (LbW n l a b : Int))) i).2.1 = (pth (LbW n l) n.toNat (othN k r : Int) a D b (i + 1) : Int) ∧ oneL (stepW l (LbW n l) (othN k r) (backW n.toNat (LbW n l) (othN k r) ((a : Int), (b : Int), (LbW n l a b : Int))) i).2.2.1 = true ∧
      (stepW l (LbW n l) (othN k r) (backW n.toNat (LbW n l) (othN k r) ((a : Int), (b : Int), (LbW n l a b : Int))) i).2.2.1.toNat &&& othN k r ≠ 0 := fun i hi => by
    have hee := (ee_nat (oth_lt k r)).1 (hP.2 i hi)
    unfold stepW
    rw [hBi, hBi]
    have hlb : lbv (LbW n l) (pth (LbW n l) n.toNat (othN k r : Int) a D b i : Int) (pth (LbW n l) n.toNat (othN k r : Int) a D b (i + 1) : Int) = LbW n l (pth (LbW n l) n.toNat (othN k r : Int) a D b i) (pth (LbW n l) n.toNat (othN k r : Int) a D b (i + 1)) := by
      unfold lbv; rw [if_pos ⟨by omega, by omega⟩, Int.toNat_natCast, Int.toNat_natCast]
    rw [hlb]
    obtain ⟨ei, hei, hl1, hl2⟩ := lsb_pow (and_lt16 (hok.lt _ _)) hee
    have h2 := and_two hl2
    have w1 := wf_spec hall hei h2.1
    rw [hl1]
    refine ⟨w1.1, w1.2.1, w1.2.2.1, by rw [w1.2.2.2]; exact oneL_pow hei, by rw [w1.2.2.2, Int.toNat_natCast]; exact h2.2⟩
  have hgs : ∀ i, i < D → (cycW l n.toNat (LbW n l) (wantN k) (othN k r) ((a : Int), (b : Int), (LbW n l a b : Int))).getD (i + 1) zeroW = stepW l (LbW n l) (othN k r) (backW n.toNat (LbW n l) (othN k r) ((a : Int), (b : Int), (LbW n l a b : Int))) i := fun i hi => by
    unfold cycW chainW
    rw [List.getD_cons_succ, List.getD_eq_getElem?_getD, List.getElem?_map, hBl, List.getElem?_range (by omega)]
    rfl
  refine ⟨a, D, fun i => pth (LbW n l) n.toNat (othN k r : Int) a D b i, ?_, hdD.2, fun i hi => ?_, w0.2, fun i hi => ?_, hlast, fun i j hij hj => ?_, fun i hi => ?_⟩
  · unfold cycW
    rw [List.length_cons, chainW_len, hBl]
    omega
  · cases i with
    | zero => exact w0.1
    | succ i => rw [hgs i (by omega)]; exact (hst i (by omega)).1
  · rw [hgs i hi]; exact (hst i hi).2
  · cases i with
    | zero => exact fun e => pth_from hok hb hD h0 hab (i := j) (by omega) (by omega) e.symm
    | succ i => exact pth_ne hok hb hD h0 (by omega) hij (by omega)
  · cases i with
    | zero => exact hab
    | succ i => intro e; exact pth_ne hok hb hD h0 (i := i + 1) (j := D) (by omega) hi (Nat.le_refl _) (e.trans hlast.symm)
theorem find_mem {n : Int} {l : List Gwy} {k : Int} {r : Bool} {c : List Gwy} (h : findC n l k r = some c) : ∀ x ∈ c, x ∈ l := by
  obtain ⟨_, a, D, P, hc⟩ := find_parts h
  intro x hx
  obtain ⟨i, hi, rfl⟩ := List.mem_iff_getElem.1 hx
  have := hc.mem i (by have := hc.len; omega)
  rwa [getD_at hi] at this
theorem find_froms {n : Int} {l : List Gwy} {k : Int} {r : Bool} {c : List Gwy} (h : findC n l k r = some c) : ∀ x ∈ c, 0 ≤ x.1 ∧ x.1 ≤ 1000000 := by
  obtain ⟨_, _, hG, _, _, _, _⟩ := find_is h
  intro x hx
  have h1 := hG.2 x (find_mem h x hx)
  have h2 : inE n.toNat (eW x) := Classical.byContradiction fun h9 => by rw [err_node h9] at h1; cases h1
  have h3 : 0 ≤ x.1 ∧ x.1 < (n.toNat : Int) ∧ 0 ≤ x.2.1 ∧ x.2.1 < (n.toNat : Int) := h2
  have := hG.1
  omega
theorem cyc_is {l : List Gwy} {k : Int} {r : Bool} {c : List Gwy} {a D : Nat} {P : Nat → Nat} (hk : okK k) (h : CycP l k r c a D P) {k2 : Int} {r2 : Bool} (hk2 : okK k2) (hw : okL k2 r2 (wantN k : Int) = true) (ho : ∀ z : Int, oneL z = true → z.toNat &&& othN k r ≠ 0 → okL k2 r2 z = true) (hc : cntC c k2 = 1 ∨ (1 < cntC c k2 ∧ k2 ≠ 10)) : isC c k2 r2 := by
  have hD := h.pos
  refine ⟨by rw [h.len]; omega, fun i hi => ?_, hc⟩
  rw [h.len] at hi
  cases i with
  | zero =>
    refine ⟨by rw [h.fst.2.2]; exact hw, ?_, fun j hj => absurd hj (by omega)⟩
    rw [h.len, Nat.mod_eq_of_lt (by omega), h.fst.2.1, (h.stp 0 hD).1]
  | succ i =>
    have hs := h.stp i (by omega)
    refine ⟨ho _ hs.2.2.1 hs.2.2.2, ?_, fun j hj => ?_⟩
    · rw [h.len]
      by_cases e : i + 1 = D
      · rw [show (i + 1 + 1) % (D + 1) = 0 by rw [e]; exact Nat.mod_self _, hs.2.1, h.fst.1, e, h.last]
      · rw [Nat.mod_eq_of_lt (by omega), hs.2.1, (h.stp (i + 1) (by omega)).1]
    · rw [hs.1]
      cases j with
      | zero => rw [h.fst.1]; intro e9; exact h.nea i (by omega) (by omega)
      | succ j => rw [(h.stp j (by omega)).1]; intro e9; exact h.ne j i (by omega) (by omega) (by omega)
theorem cyc_cnt {l : List Gwy} {k : Int} {r : Bool} {c : List Gwy} {a D : Nat} {P : Nat → Nat} (h : CycP l k r c a D P) : 1 ≤ cntC c k ∧ (wantN k &&& othN k r = 0 → cntC c k = 1) := by
  obtain ⟨x, ch, rfl⟩ : ∃ x ch, c = x :: ch := by
    cases c with
    | nil => have := h.len; simp at this
    | cons x ch => exact ⟨x, ch, rfl⟩
  have hx : x.2.2.1 = (wantN k : Int) := h.fst.2.2
  unfold cntC
  rw [List.filter_cons, if_pos (by simpa using hx), List.length_cons]
  refine ⟨by omega, fun h0 => ?_⟩
  rw [List.filter_eq_nil_iff.2 fun y hy => ?_]
  · rfl
  · obtain ⟨i, hi, rfl⟩ := List.mem_iff_getElem.1 hy
    have hl := h.len
    rw [List.length_cons] at hl
    have hs := h.stp i (by omega)
    rw [List.getD_cons_succ, getD_at hi] at hs
    intro e
    have e := of_decide_eq_true e
    rw [e, Int.toNat_natCast] at hs
    exact hs.2.2.2 h0
theorem okL_want {k : Int} (r : Bool) (hk : okK k) : okL k r (wantN k : Int) = true := by
  rcases okK_cases hk with rfl | rfl | rfl | rfl <;> cases r <;> rfl
theorem find_isC {n : Int} {l : List Gwy} {k : Int} {r : Bool} {c : List Gwy} (h : findC n l k r = some c) : isC c k r := by
  obtain ⟨hk, a, D, P, hc⟩ := find_parts h
  refine cyc_is hk hc hk (okL_want r hk) (fun z => okL_oth) ?_
  have h1 := cyc_cnt hc
  by_cases e : k = 10
  · subst e
    exact .inl (h1.2 (by cases r <;> rfl))
  · by_cases e2 : cntC c k = 1
    · exact .inl e2
    · exact .inr ⟨by omega, e⟩

end Go.Proofs.YtnfkblboimkcjaaDoor
end

section
set_option linter.unusedVariables false
set_option linter.unusedSimpArgs false
set_option maxRecDepth 100000
namespace Go.Proofs.YtnfkblboimkcjaaDoor
open Go Go.RowKit Sg
end Go.Proofs.YtnfkblboimkcjaaDoor
end

section
set_option linter.unusedVariables false
set_option linter.unusedSimpArgs false
set_option maxRecDepth 100000
namespace Go.Proofs.YtnfkblboimkcjaaDoor
open Go Go.RowKit Sg
end Go.Proofs.YtnfkblboimkcjaaDoor
end

section
set_option linter.unusedVariables false
set_option linter.unusedSimpArgs false
set_option maxRecDepth 100000
namespace Go.Proofs.YtnfkblboimkcjaaDoor
open Go Go.RowKit Sg

end Go.Proofs.YtnfkblboimkcjaaDoor
end

section
namespace Sg
open Go
end Sg
end

section
set_option linter.unusedVariables false
set_option linter.unusedSimpArgs false
set_option maxRecDepth 100000
namespace Go.Proofs.YtnfkblboimkcjaaDoor
open Go Go.RowKit Sg

def rgE (n v i : Nat) : Gwy := ((i : Int), (((i + 1) % n : Nat) : Int), (v : Int), ⟨#[]⟩, 0, 0, false, false)
def rgL (n v m : Nat) : List Gwy := (List.range m).map (rgE n v)
theorem rgL_succ (n v m : Nat) : rgL n v (m + 1) = rgL n v m ++ [rgE n v m] := by unfold rgL; rw [List.range_succ, List.map_append]; rfl
theorem rgL_len (n v m : Nat) : (rgL n v m).length = m := by unfold rgL; rw [List.length_map, List.length_range]
def InR (n v : Nat) (l : List Gwy) : Prop := ∀ x ∈ l, ∃ i, i < n ∧ x = rgE n v i
theorem rgL_in (n v : Nat) : InR n v (rgL n v n) := fun x hx => by
  obtain ⟨i, hi, rfl⟩ := List.mem_map.1 hx
  exact ⟨i, List.mem_range.1 hi, rfl⟩
theorem rgL_at {n v m i : Nat} (h : i < m) : (rgL n v m).getD i zeroW = rgE n v i := by
  rw [getD_at (by rw [rgL_len]; exact h)]
  unfold rgL
  rw [List.getElem_map, List.getElem_range]
/-- A cycle of a ring's dependencies goes round. -/
theorem ring_cyc {n v : Nat} (hn : 2 ≤ n) {l c : List Gwy} {k : Int} {r : Bool} {a D : Nat} {P : Nat → Nat} (hl : InR n v l) (h : CycP l k r c a D P) : a < n ∧ D + 1 = n ∧ ∀ i, i < n → c.getD i zeroW = rgE n v ((a + i) % n) := by
  have hb : ∀ i, i ≤ D → (c.getD i zeroW).2.1 = (P i : Int) := fun i hi => by
    cases i with
    | zero => exact h.fst.2.1
    | succ i => exact (h.stp i (by omega)).2.1
  obtain ⟨i0, hi0, h0⟩ := hl _ (h.mem 0 (Nat.zero_le _))
  have ha : a < n := by
    have h1 := h.fst.1
    rw [h0] at h1
    have h1 : (i0 : Int) = (a : Int) := h1
    omega
  have hc : ∀ i, i ≤ D → c.getD i zeroW = rgE n v ((a + i) % n) := by
    intro i
    induction i with
    | zero =>
      intro _
      have h1 := h.fst.1
      rw [h0] at h1
      have h1 : (i0 : Int) = (a : Int) := h1
      rw [h0, Nat.add_zero, Nat.mod_eq_of_lt ha, show i0 = a by omega]
    | succ i ih =>
      intro hi
      have h1 := hb i (by omega)
      rw [ih (by omega)] at h1
      have h1 : ((((a + i) % n + 1) % n : Nat) : Int) = (P i : Int) := h1
      obtain ⟨j, hj, h2⟩ := hl _ (h.mem (i + 1) hi)
      have h3 := (h.stp i (by omega)).1
      rw [h2] at h3 ⊢
      have h3 : (j : Int) = (P i : Int) := h3
      rw [show j = ((a + i) % n + 1) % n by omega, Nat.mod_add_mod]
      rfl
  have hP : ∀ i, i ≤ D → P i = (a + i + 1) % n := fun i hi => by
    have h1 := hb i hi
    rw [hc i hi] at h1
    have h1 : ((((a + i) % n + 1) % n : Nat) : Int) = (P i : Int) := h1
    rw [Nat.mod_add_mod] at h1
    omega
  have hD : D + 1 = n := by
    rcases Nat.lt_trichotomy (D + 1) n with h1 | h1 | h1
    · exfalso
      have h2 := hP D (Nat.le_refl _)
      rw [h.last] at h2
      by_cases h3 : a + D + 1 < n
      · rw [Nat.mod_eq_of_lt h3] at h2; omega
      · rw [Nat.mod_eq_sub_mod (by omega), Nat.mod_eq_of_lt (by omega)] at h2; omega
    · exact h1
    · exfalso
      refine h.nea (n - 1) (by omega) ?_
      rw [hP (n - 1) (by omega), show a + (n - 1) + 1 = a + n by omega, Nat.add_mod_right, Nat.mod_eq_of_lt ha]
  exact ⟨ha, hD, fun i hi => hc i (by omega)⟩
theorem ring_cut {n v q : Nat} (hn : 2 ≤ n) {l : List Gwy} {k : Int} {r : Bool} (hl : InR n v l) (hq : q < n) (hno : rgE n v q ∉ l) : findC (n : Int) l k r = none := by
  cases h : findC (n : Int) l k r with
  | none => rfl
  | some c =>
    exfalso
    obtain ⟨_, a, D, P, hc⟩ := find_parts h
    obtain ⟨ha, hD, hi⟩ := ring_cyc hn hl hc
    have hlt := Nat.mod_lt (q + n - a) (show 0 < n by omega)
    have h1 := hi ((q + n - a) % n) hlt
    rw [Nat.add_mod_mod, show a + (q + n - a) = q + n by omega, Nat.add_mod_right, Nat.mod_eq_of_lt hq] at h1
    exact hno (by rw [← h1]; exact hc.mem _ (by omega))
theorem ring_single {n v : Nat} (hv : v = 1 ∨ v = 2 ∨ v = 4) {l : List Gwy} (hl : InR n v l) (m : Int) : findC m l 10 false = none := by
  cases h : findC m l 10 false with
  | none => rfl
  | some c =>
    exfalso
    obtain ⟨_, a, D, P, hc⟩ := find_parts h
    obtain ⟨i, _, h0⟩ := hl _ (hc.mem 0 (Nat.zero_le _))
    obtain ⟨j, _, h1⟩ := hl _ (hc.mem 1 hc.pos)
    have h2 := hc.fst.2.2
    rw [h0] at h2
    have h2 : (v : Int) = ((4 : Nat) : Int) := h2
    have h3 := (hc.stp 0 hc.pos).2.2.2
    rw [Nat.zero_add, h1] at h3
    have h3 : (v : Int).toNat &&& 3 ≠ 0 := h3
    rw [Int.toNat_natCast, show v = 4 by omega] at h3
    exact h3 rfl
theorem or_ne {x y : Nat} (h : x ≠ 0 ∨ y ≠ 0) : x ||| y ≠ 0 := fun e => by
  have := Nat.or_eq_zero_iff.1 e
  omega
theorem foldE_has {n a b m : Nat} : ∀ (es : List GE) (L0 : Nat → Nat → Nat), (L0 a b &&& m ≠ 0 ∨ ∃ e ∈ es, inE n e ∧ okE e ∧ a = e.1.toNat ∧ b = e.2.1.toNat ∧ e.2.2.toNat &&& m ≠ 0) → es.foldl (addE n) L0 a b &&& m ≠ 0
  | [], _, h => by
    rcases h with h | ⟨e, he, _⟩
    · exact h
    · cases he
  | e :: es, L0, h => by
    rw [List.foldl_cons]
    refine foldE_has es _ ?_
    rcases h with h | ⟨x, hx, hh⟩
    · left
      unfold addE
      split
      · rw [Nat.and_or_distrib_right]; exact or_ne (.inl h)
      · exact h
    · rcases List.mem_cons.1 hx with rfl | hx
      · left
        unfold addE
        rw [if_pos ⟨hh.1, hh.2.1, hh.2.2.1, hh.2.2.2.1⟩, Nat.and_or_distrib_right]
        exact or_ne (.inr hh.2.2.2.2)
      · exact .inr ⟨x, hx, hh⟩
theorem mod_step2 {n x : Nat} (hn : 2 ≤ n) (hx : x < n) : (x + 1) % n ≠ x := by
  by_cases e : x + 1 = n
  · rw [e, Nat.mod_self]; omega
  · rw [Nat.mod_eq_of_lt (by omega)]; omega
theorem rg_in {n v i : Nat} (hn : 2 ≤ n) (hv : 1 ≤ v ∧ v ≤ 15) (hi : i < n) : inE n (eW (rgE n v i)) ∧ okE (eW (rgE n v i)) := by
  have h1 := Nat.mod_lt (i + 1) (show 0 < n by omega)
  have h2 := mod_step2 hn hi
  constructor
  · show 0 ≤ (i : Int) ∧ (i : Int) < n ∧ 0 ≤ (((i + 1) % n : Nat) : Int) ∧ (((i + 1) % n : Nat) : Int) < n
    omega
  · show 1 ≤ (v : Int) ∧ (v : Int) ≤ 15 ∧ (i : Int) ≠ (((i + 1) % n : Nat) : Int)
    omega
theorem ring_lb {n v x : Nat} (hn : 2 ≤ n) (hv : 1 ≤ v ∧ v ≤ 15) (hx : x < n) {m : Nat} (hm : v &&& m ≠ 0) : LbW (n : Int) (rgL n v n) x ((x + 1) % n) &&& m ≠ 0 := by
  have h := rg_in hn hv hx
  refine foldE_has ((rgL n v n).map eW) (fun _ _ => 0) (.inr ⟨eW (rgE n v x), List.mem_map.2 ⟨_, List.mem_map.2 ⟨x, List.mem_range.2 hx, rfl⟩, rfl⟩, ?_, h.2, ?_, ?_, ?_⟩)
  · rw [Int.toNat_natCast]; exact h.1
  · show x = (x : Int).toNat
    omega
  · show (x + 1) % n = (((x + 1) % n : Nat) : Int).toNat
    omega
  · show (v : Int).toNat &&& m ≠ 0
    rw [Int.toNat_natCast]; exact hm
theorem wk_round {n : Nat} {E : Nat → Nat → Prop} (hE : ∀ x, x < n → E x ((x + 1) % n)) : ∀ (j x : Nat), x < n → Wk E j x ((x + j) % n)
  | 0, x, hx => by show x = (x + 0) % n; rw [Nat.add_zero, Nat.mod_eq_of_lt hx]
  | j + 1, x, hx => by
    refine ⟨(x + 1) % n, hE x hx, ?_⟩
    have h := wk_round hE j ((x + 1) % n) (Nat.mod_lt _ (by omega))
    rw [Nat.mod_add_mod, show x + 1 + j = x + (j + 1) by omega] at h
    exact h
theorem find_app {α : Type} {p : α → Bool} {A B : List α} {e x : α} (h : (A ++ B).find? p = some e) (hx : x ∈ A) (hp : p x = true) : e ∈ A := by
  rw [List.find?_append] at h
  have h2 : (A.find? p).isSome = true := List.find?_isSome.2 ⟨x, hx, hp⟩
  obtain ⟨y, hy⟩ := Option.isSome_iff_exists.1 h2
  rw [hy] at h
  obtain rfl : y = e := Option.some.inj h
  exact List.mem_of_find?_eq_some hy
theorem find_zero {n : Int} {l : List Gwy} {k : Int} {r : Bool} {c : List Gwy} (h : findC n l k r = some c) {b j : Nat} (h1 : LbW n l 0 b &&& wantN k ≠ 0) (hj : 1 ≤ j) (h2 : Wk (EE (LbW n l) (othN k r : Int)) j b 0) : (c.getD 0 zeroW).1 = 0 := by
  have hok : LbOk n.toNat (LbW n l) := foldE_ok _ _
  have hn : LbW n l 0 b ≠ 0 := fun e => h1 (by rw [e]; exact Nat.zero_and _)
  have h0 : 0 < n.toNat := Nat.lt_of_not_le fun h => hn (hok.off _ _ (.inl h))
  have hb : b < n.toNat := Nat.lt_of_not_le fun h => hn (hok.off _ _ (.inr h))
  have hd := dst_le hj h2
  unfold findC at h
  split at h
  · rename_i hc
    obtain ⟨e, he, rfl⟩ := Option.map_eq_some_iff.1 h
    have hp := List.find?_some he
    obtain ⟨m, hm⟩ : ∃ m, n.toNat = m + 1 := ⟨n.toNat - 1, by omega⟩
    have hxp : pX n.toNat (LbW n l) (wantN k) (othN k r) (((0 : Nat) : Int), (b : Int), (LbW n l 0 b : Int)) = true := by
      unfold pX
      rw [Bool.and_eq_true]
      refine ⟨decide_eq_true (by show (LbW n l 0 b : Int).toNat &&& wantN k ≠ 0; rw [Int.toNat_natCast]; exact h1), decide_eq_true ?_⟩
      show 0 ≤ dsI n.toNat (LbW n l) (othN k r : Int) (b : Int) ((0 : Nat) : Int)
      unfold dsI dI
      rw [if_pos ⟨⟨by omega, by omega⟩, by omega, by omega⟩, Int.toNat_natCast, Int.toNat_natCast, if_neg hd.1]
      omega
    have hsp : edL n.toNat (LbW n l) n.toNat = ((rowE n.toNat (LbW n l) 0).map fun (b : Nat) => (((0 : Nat) : Int), (b : Int), (LbW n l 0 b : Int))) ++ ((List.range m).map Nat.succ).flatMap (fun (a : Nat) => (rowE n.toNat (LbW n l) a).map fun (b : Nat) => ((a : Int), (b : Int), (LbW n l a b : Int))) := by
      unfold edL
      conv => lhs; arg 2; rw [hm]
      rw [List.range_succ_eq_map, List.flatMap_cons]
    rw [hsp] at he
    have hx := find_app he (List.mem_map.2 ⟨b, by unfold rowE; exact List.mem_filter.2 ⟨List.mem_range.2 hb, decide_eq_true hn⟩, rfl⟩) hxp
    obtain ⟨b2, _, rfl⟩ := List.mem_map.1 hx
    unfold pX at hp
    rw [Bool.and_eq_true] at hp
    have hw := of_decide_eq_true hp.1
    have hw : LbW n l 0 b2 &&& wantN k ≠ 0 := by have : (LbW n l 0 b2 : Int).toNat &&& wantN k ≠ 0 := hw; rwa [Int.toNat_natCast] at this
    obtain ⟨ew, hew, hwe⟩ := want_pow hc.1
    have w0 := wf_spec hc.2.1 hew (by rw [← hwe]; exact hw)
    rw [← hwe] at w0
    exact w0.2.1
  · cases h
def clsO (q : Nat) : Int := if q = 0 then 8 else if q = 1 then 9 else 11
theorem cls_ok {q : Nat} (h : q < 3) : okK (clsO q) ∧ 2 ^ q &&& wantN (clsO q) ≠ 0 ∧ 2 ^ q &&& othN (clsO q) false ≠ 0 := by
  rcases (show q = 0 ∨ q = 1 ∨ q = 2 by omega) with rfl | rfl | rfl <;> decide
theorem cls_lab {q : Nat} (h : q < 3) : 2 ^ q = 1 ∨ 2 ^ q = 2 ∨ 2 ^ q = 4 := by
  rcases (show q = 0 ∨ q = 1 ∨ q = 2 by omega) with rfl | rfl | rfl <;> decide
/-- The ring is found as a whole. -/
theorem ring_find {n q : Nat} (hn : 2 ≤ n) (hn2 : n ≤ 300) (hq : q < 3) : findC (n : Int) (rgL n (2 ^ q) n) (clsO q) false = some (rgL n (2 ^ q) n) := by
  obtain ⟨hk, hw, ho⟩ := cls_ok hq
  have hl := cls_lab hq
  have hv : 1 ≤ 2 ^ q ∧ 2 ^ q ≤ 15 := by omega
  have hG : okG (n : Int) (rgL n (2 ^ q) n) := ⟨by omega, fun x hx => by
    obtain ⟨i, hi, rfl⟩ := rgL_in n (2 ^ q) x hx
    have h := rg_in hn hv hi
    rw [Int.toNat_natCast]
    unfold errE
    rw [if_pos h.1, if_pos h.2]⟩
  have hall : (rgL n (2 ^ q) n).all (fun x => oneL x.2.2.1) = true := List.all_eq_true.2 fun x hx => by
    obtain ⟨i, hi, rfl⟩ := rgL_in n (2 ^ q) x hx
    show oneL ((2 ^ q : Nat) : Int) = true
    exact oneL_pow (by omega)
  have h1 : LbW (n : Int) (rgL n (2 ^ q) n) 0 1 &&& wantN (clsO q) ≠ 0 := by
    have := ring_lb hn hv (show 0 < n by omega) hw
    rwa [Nat.zero_add, Nat.mod_eq_of_lt (show 1 < n by omega)] at this
  have h2 : Wk (EE (LbW (n : Int) (rgL n (2 ^ q) n)) (othN (clsO q) false : Int)) (n - 1) 1 0 := by
    have h := wk_round (n := n) (E := EE (LbW (n : Int) (rgL n (2 ^ q) n)) (othN (clsO q) false : Int)) (fun x hx => (ee_nat (oth_lt _ _)).2 (ring_lb hn hv hx ho)) (n - 1) 1 (by omega)
    rwa [show 1 + (n - 1) = n by omega, Nat.mod_self] at h
  obtain ⟨c, hc⟩ := Option.isSome_iff_exists.1 (find_some hk hall hG h1 (by omega) h2)
  rw [hc]
  have h0 := find_zero hc h1 (by omega) h2
  obtain ⟨_, a, D, P, hcp⟩ := find_parts hc
  obtain ⟨ha, hD, hi⟩ := ring_cyc hn (rgL_in n (2 ^ q)) hcp
  have ha0 : a = 0 := by
    have := hcp.fst.1
    omega
  subst ha0
  congr 1
  have hlen : c.length = n := by rw [hcp.len]; exact hD
  refine List.ext_getElem (by rw [hlen, rgL_len]) fun i h3 h4 => ?_
  have h5 := hi i (by omega)
  rw [getD_at h3, Nat.zero_add, Nat.mod_eq_of_lt (by omega)] at h5
  have h6 := rgL_at (n := n) (v := 2 ^ q) (m := n) (i := i) (by omega)
  rw [getD_at h4] at h6
  rw [h5, h6]
theorem cut_in {n v q : Nat} : InR n v ((rgL n v n).take q ++ (rgL n v n).drop (q + 1)) := fun x hx => by
  refine rgL_in n v x ?_
  rcases List.mem_append.1 hx with h | h
  · exact List.mem_of_mem_take h
  · exact List.mem_of_mem_drop h
theorem cut_no {n v q : Nat} (hq : q < n) : rgE n v q ∉ (rgL n v n).take q ++ (rgL n v n).drop (q + 1) := fun hx => by
  have key : ∀ (i : Nat) (h : i < (rgL n v n).length), (rgL n v n)[i] = rgE n v q → i = q := fun i h e => by
    have h6 := rgL_at (n := n) (v := v) (m := n) (i := i) (by rw [rgL_len] at h; exact h)
    rw [getD_at h, e] at h6
    have h7 : (q : Int) = (i : Int) := congrArg (fun x : Gwy => x.1) h6
    omega
  rcases List.mem_append.1 hx with h | h
  · obtain ⟨i, hi, e⟩ := List.mem_iff_getElem.1 h
    rw [List.getElem_take] at e
    rw [List.length_take] at hi
    have := key i (by omega) e
    omega
  · obtain ⟨i, hi, e⟩ := List.mem_iff_getElem.1 h
    rw [List.getElem_drop] at e
    rw [List.length_drop] at hi
    have := key _ (by omega) e
    omega
/-- What is left of a slice after its first k. -/
theorem RSl.drop {α : Type} {size : Nat} {R : Rd α} {A : Nat → Prop} {w : World} {ad : Addr} {c : Nat} {l : List α} (h : RSl size R A w (.slice (some ad) l.length c) l) {k : Nat} (hk : k ≤ l.length) (a2 : Addr) (h2 : a2 = if (c : Int) = (k : Int) then ad else ad.add ((k : Int).toNat * size)) :
    RSl size R A w (.slice (some a2) (l.drop k).length (c - k)) (l.drop k) := by
  rcases h with ⟨rfl, _⟩ | ⟨b, o, cap, cs, T, fr, hv, hc, h2', hb, h3⟩
  · rw [List.drop_nil]; exact .inl ⟨rfl, _, _, rfl⟩
  · simp only [Value.slice.injEq, Option.some.injEq] at hv
    obtain ⟨rfl, _, rfl⟩ := hv
    have hl : (l.drop k).length = l.length - k := List.length_drop
    by_cases e : (c : Int) = (k : Int)
    · rw [List.drop_of_length_le (by omega)]; exact .inl ⟨rfl, _, _, rfl⟩
    · rw [if_neg e, Int.toNat_natCast] at h2
      subst h2
      refine .inr ⟨b, o + k * size, c - k, cs, T, fr, by rw [add_none'], by rw [hl]; omega, h2', hb, fun j hj => ?_⟩
      obtain ⟨es, e1, e2, e3⟩ := h3 (k + j) (by rw [hl] at hj; omega)
      refine ⟨es, e1, fun i hi => ?_, by rw [List.getElem_drop]; exact e3⟩
      rw [← e2 i hi, Nat.add_mul]
      congr 1
      omega

end Go.Proofs.YtnfkblboimkcjaaDoor
end

section
set_option linter.unusedVariables false
set_option linter.unusedSimpArgs false
set_option maxRecDepth 100000
namespace Go.Proofs.YtnfkblboimkcjaaDoor
open Go Go.RowKit Sg
set_option maxHeartbeats 1600000 in
theorem lring_ok (a b ct : Int) (w : World) (htab : Tab w) (hb0 : 0 < w.heap.size) :
  Sg.Ret Tryd.prog 6 #[.int .i64 a, .int .i64 b, .int .i64 ct] w fun v w' => v = .bool true ∧ Ch0 w w' := by
 obtain ⟨n, hn⟩ : ∃ n : Nat, 2 + a % 18446744073709551616 % 30 = (n : Int) := ⟨_, (Int.toNat_of_nonneg (by omega)).symm⟩
 have hn2 : 2 ≤ n ∧ n < 32 := by omega
 obtain ⟨q, hq⟩ : ∃ q : Nat, b % 18446744073709551616 % 3 = (q : Int) := ⟨_, (Int.toNat_of_nonneg (by omega)).symm⟩
 have hq3 : q < 3 := by omega
 have hx1 := Int.emod_nonneg (ct % 18446744073709551616) (show (n : Int) ≠ 0 by omega)
 have hx2 := Int.emod_lt_of_pos (ct % 18446744073709551616) (show (0 : Int) < n by omega)
 obtain ⟨x, hx⟩ : ∃ x : Nat, ct % 18446744073709551616 % (n : Int) = (x : Int) := ⟨_, (Int.toNat_of_nonneg hx1).symm⟩
 have hxn : x < n := by omega
 have hck := cls_ok hq3
 have hlab := cls_lab hq3
 obtain ⟨v, hv⟩ : ∃ v, 2 ^ q = v := ⟨_, rfl⟩
 refine enter1 (n := 105) (l := [.int .i64 a, .int .i64 b, .int .i64 ct]) Tryd.func6 rfl rfl rfl rfl ?_
 refine W.g3 0 1 2 (v1 := .int .i64 a) (v2 := .int .i64 b) (v3 := .int .i64 ct) rfl rfl rfl ?_; intro σ s0 s1 s2
 refine W.seq ?_
 refine W.region ?_
 refine WL.x (X.asg lc) rfl ?_
 refine WL.e3 Nx.thn 0 1 2 (lt rfl (s0)) (lt rfl (s1)) (lt rfl (s2)) ?_
 intro σ1 s0 s1 s2
 refine W.seq ?_
 refine W.region ?_
 refine WL.x (X.mv (s0)) rfl ?_
 refine WL.x (X.convu Tryd.underlying3 Tryd.underlying39 (lh)) rfl ?_
 refine WL.x (X.rem (lh) lc (by omega) (by omega)) rfl ?_
 refine WL.x (X.convi Tryd.underlying39 Tryd.underlying3 (lh) (wrap_i64 (by omega) (by omega))) rfl ?_
 refine WL.x (v := .int .i64 (n : Int)) (hn ▸ X.add lc (lh) (by omega) (by omega)) rfl ?_
 refine WL.x (X.asg (lh)) rfl ?_
 refine WL.e3 Nx.thn 0 1 2 (lh) (jt4 rfl (jt2 rfl (s1))) (jt4 rfl (jt2 rfl (s2))) ?_
 intro σ2 s0 s1 s2
 refine W.seq ?_
 refine W.region ?_
 refine WL.x (X.mv (s1)) rfl ?_
 refine WL.x (X.convu Tryd.underlying3 Tryd.underlying39 (lh)) rfl ?_
 refine WL.x (X.rem (lh) lc (by omega) (by omega)) rfl ?_
 refine WL.x (v := .int .i64 (q : Int)) (hq ▸ X.convi Tryd.underlying39 Tryd.underlying3 (lh) (wrap_i64 (by omega) (by omega))) rfl ?_
 refine WL.x (X.asg (lh)) rfl ?_
 refine WL.e3 Nx.thn 0 2 7 (jt4 rfl (lt rfl (s0))) (jt4 rfl (lt rfl (s2))) (lh) ?_
 intro σ3 s0 s2 s7
 refine W.seq ?_
 refine W.region ?_
 refine WL.bslice Tryd.underlying40 el3 rfl (pcons lc (pcons lc (pcons lc pnil))) rfl (rfl : _ = [_, _, _]) rfl ?_
 intro w1 u3_0; have hu3_0 := u3_0.at_; have cu3_0 := u3_0.ch; have zu3_0 := u3_0.size
 refine WL.x (X.mv (lt rfl (s7))) rfl ?_
 refine WL.x (X.indexAddr Tryd.underlying40 el3 (lt rfl (lh)) (lh) (by omega) (by omega)) rfl ?_
 refine WL.x (X.load pl3 (lh) hu3_0 (v := .int .i64 (clsO q)) (by rcases (show q = 0 ∨ q = 1 ∨ q = 2 by omega) with h9 | h9 | h9 <;> (rw [h9]; rfl))) rfl ?_
 refine WL.x (X.asg (lh)) rfl ?_
 refine WL.e4 Nx.thn 0 2 7 8 (jt4 rfl (lt rfl (s0))) (jt4 rfl (lt rfl (s2))) (jt4 rfl (lt rfl (s7))) (lh) ?_
 intro σ4 s0 s2 s7 s8
 refine W.seq ?_
 refine W.region ?_
 refine WL.x (X.asg lc) rfl ?_
 refine WL.e5 Nx.thn 0 2 7 8 9 (lt rfl (s0)) (lt rfl (s2)) (lt rfl (s7)) (lt rfl (s8)) (lh) ?_
 intro σ5 s0 s2 s7 s8 s9
 refine W.seq ?_
 refine W.seq ?_
 refine W.region ?_
 refine WL.x (X.mv (s0)) rfl ?_
 refine WL.x (X.mv lc) rfl ?_
 refine WL.e7 Nx.thn 0 2 7 8 9 30 31 (jt2 rfl (s0)) (jt2 rfl (s2)) (jt2 rfl (s7)) (jt2 rfl (s8)) (jt2 rfl (s9)) (lt rfl (lh)) (lh) ?_
 intro σ6 s0 s2 s7 s8 s9 s30 s31
 refine W.block ?_
 have qo1 := s0
 have qo2 := s2
 have qo3 := s7
 have qo4 := s8
 have qo5 := s30
 -- loop 0: kept [0, 2, 7, 8, 30], varied [9, 31]
 refine W.loop (G := Nat) (fun k σ' w' => (σ' 0 = σ6 0 ∧ σ' 2 = σ6 2 ∧ σ' 7 = σ6 7 ∧ σ' 8 = σ6 8 ∧ σ' 30 = σ6 30 ∧ True) ∧ (∃ lv, σ' 31 = .int .i64 (k : Int) ∧ k ≤ n ∧ σ' 9 = lv ∧ OwnF 8 fwy w' w.heap.size 27 lv (rgL n v k) ∧ Ch0 w w')) (fun k => n - k) (0) ⟨⟨rfl, rfl, rfl, rfl, rfl, trivial⟩, _, s31, by omega, s9, OwnF.nil, cu3_0⟩ ?_
 rintro k σ7 w2 ⟨⟨f0, f2, f7, f8, f30, _⟩, lv, s31, hk, s9, hown, hcl⟩
 have s0 := f0.trans qo1
 have s2 := f2.trans qo2
 have s7 := f7.trans qo3
 have s8 := f8.trans qo4
 have s30 := f30.trans qo5
 have hzc := hcl.size
 refine W.seq ?_
 refine W.region ?_
 refine WL.x (X.lss (s31) (s30)) rfl ?_
 refine WL.e8 Nx.thn 0 2 7 8 9 30 31 32 (lt rfl (s0)) (lt rfl (s2)) (lt rfl (s7)) (lt rfl (s8)) (lt rfl (s9)) (lt rfl (s30)) (lt rfl (s31)) (lh) ?_
 intro σ8 s0 s2 s7 s8 s9 s30 s31 s32
 refine W.seq ?_
 refine W.cndp s32 (fun hlt => ?_) (fun hlt => ?_)
 ·
  refine W.skip Nx.thn ?_
  refine W.seq ?_
  refine W.block ?_
  refine W.seq ?_
  refine W.region ?_
  refine WL.x (X.mv (s31)) rfl ?_
  refine WL.x (X.asg (lh)) rfl ?_
  refine WL.e8 Nx.thn 0 2 7 8 9 10 30 31 (jt2 rfl (s0)) (jt2 rfl (s2)) (jt2 rfl (s7)) (jt2 rfl (s8)) (jt2 rfl (s9)) (lh) (jt2 rfl (s30)) (jt2 rfl (s31)) ?_
  intro σ9 s0 s2 s7 s8 s9 s10 s30 s31
  refine W.held (fun w' => Ch (fun i => slBlk lv i) w2 w') mo ?_
  intro w3 qhh6 qc7
  have hS : Ch (fun i => slBlk lv i) w2 w3 := Ch.weak qc7
  have hzqc7 := qc7.size
  have cdh8 := qc7
  refine WH.take 0 rfl (by kernel_rfl) (by kernel_rfl) (by kernel_rfl) (fun _ _ _ h => h) Gd.none rfl (fun w' hS' => X.mv (s9)) hS ?_
  refine WH.take 1 rfl (by kernel_rfl) (by kernel_rfl) (by kernel_rfl) (fun _ _ _ h => h) Gd.none rfl (fun w' hS' => X.mv (lt rfl (s10))) hS ?_
  refine WH.take 2 rfl (by kernel_rfl) (by kernel_rfl) (by kernel_rfl) (fun _ _ _ h => h) Gd.none rfl (fun w' hS' => X.mv (jt2 rfl (s10))) hS ?_
  refine WH.take 3 rfl (by kernel_rfl) (by kernel_rfl) (by kernel_rfl) (fun _ _ _ h => h) Gd.none rfl (fun w' hS' => X.addN (b := 1) (lh) lc (by omega)) hS ?_
  refine WH.take 4 rfl (by kernel_rfl) (by kernel_rfl) (by kernel_rfl) (fun _ _ _ h => h) Gd.none rfl (fun w' hS' => X.mv (jt4 rfl (s0))) hS ?_
  refine WH.take 5 rfl (by kernel_rfl) (by kernel_rfl) (by kernel_rfl) (fun _ _ _ h => h) Gd.none rfl (fun w' hS' => (show Sg.X Tryd.prog _ w' _ _ (.int .i64 (((k + 1) % n : Nat) : Int)) from by rw [Int.natCast_emod]; exact X.rem (lt rfl (lh)) (lh) (by omega) (by omega))) hS ?_
  refine WH.take 6 rfl (by kernel_rfl) (by kernel_rfl) (by kernel_rfl) (fun _ _ _ h => h) Gd.none rfl (fun w' hS' => X.mv (jt4 rfl (jt2 rfl (s7)))) hS ?_
  refine WH.take 7 rfl (by kernel_rfl) (by kernel_rfl) (by kernel_rfl) (fun _ _ _ h => h) Gd.none rfl (fun w' hS' => (show Sg.X Tryd.prog _ w' _ _ (.int .i64 (v : Int)) from by rw [← hv]; exact shl_pow (show q < 4 by omega) ▸ X.shl lc (lh) (by omega))) hS ?_
  refine WH.take 8 rfl (by kernel_rfl) (by kernel_rfl) (by kernel_rfl) (fun _ _ _ h => h) Gd.none rfl (fun w' hS' => X.build bd27 (pcons (jt4 rfl (jt2 rfl (lh))) (pcons (jt2 rfl (lh)) (pcons (lh) pnil))) rfl (rfl : _ = [_, _, _, _, _, _, _, _])) hS ?_
  refine WH.one 9 rfl (by kernel_rfl) (fun _ _ h => h) ?_
  refine WL.bsliceR (vs := [_]) Tryd.underlying22 el27 (by decide) (pcons (lh) pnil) rfl (fun u hu => by rw [List.mem_singleton.1 hu]; rfl) (show 1 * 8 ≤ 16777216 by decide) rfl ?_
  intro w5 u8_9; have hu8_9 := u8_9.at_; have cu8_9 := u8_9.ch; have zu8_9 := u8_9.size
  have hS := hS.trans cu8_9 (fun _ _ => id) (by intro i hi hg; exact False.elim hg)
  refine WL.nil Nx.thn ⟨hS, ?_⟩
  refine WH.one 10 rfl (by kernel_rfl) (fun _ _ h => h) ?_
  refine WL.appendF Tryd.underlying22 el27 rfl (by decide) fwy_len fwy_one (jt8 rfl (lt rfl (lh))) (lh) ((hown.ch0 cdh8).ch0 cu8_9) (rsl_one (A := all) (x := rgE n v k) fwy_len hu8_9 rfl trivial) (by rw [rgL_len]; unfold maxLen; simp only [List.length_cons, List.length_nil]; omega) (by rw [rgL_len]; simp only [List.length_cons, List.length_nil]; omega) (by have := cu8_9.size; have := cdh8.size; omega) rfl ?_
  intro va8_10 w6 ho8_10 ca8_10
  have hcl8 := ((hcl.trans0 cdh8).trans0 cu8_9).trans ca8_10 (H := fun _ => False) (fun _ _ e => e) (fun i hi e => by have := (hown.lt e).1; omega)
  rw [← rgL_succ] at ho8_10
  have hS := hS.trans ca8_10 (fun _ _ e => e) (fun i hi hg => hg)
  refine WL.nil Nx.thn ⟨hS, ?_⟩
  refine WH.take 11 rfl (by kernel_rfl) (by kernel_rfl) (by kernel_rfl) (fun _ _ _ h => h) Gd.none rfl (fun w' hS' => X.asg (lh)) hS ?_
  refine WH.done (by kernel_rfl) ?_
  refine WL.e7 (Nx.blk Nx.thn) 0 2 7 8 9 30 31 (jt8 rfl (jt4 rfl (s0))) (jt8 rfl (jt4 rfl (s2))) (jt8 rfl (jt4 rfl (s7))) (jt8 rfl (jt4 rfl (s8))) (lh) (jt8 rfl (jt4 rfl (s30))) (jt8 rfl (jt4 rfl (s31))) ?_
  intro σ10 s0 s2 s7 s8 s9 s30 s31
  refine W.region ?_
  refine WL.x (X.addN (b := 1) (s31) lc (by omega)) rfl ?_
  refine WL.x (X.mv (lh)) rfl ?_
  refine WL.e7 Nx.thn 0 2 7 8 9 30 31 (jt2 rfl (s0)) (jt2 rfl (s2)) (jt2 rfl (s7)) (jt2 rfl (s8)) (jt2 rfl (s9)) (jt2 rfl (s30)) (lh) ?_
  intro σ11 s0 s2 s7 s8 s9 s30 s31
  refine ⟨k + 1, by omega, ⟨s0.trans qo1.symm, s2.trans qo2.symm, s7.trans qo3.symm, s8.trans qo4.symm, s30.trans qo5.symm, trivial⟩, _, s31, by omega, s9, ho8_10, hcl8⟩
 ·
  have hkn : k = n := by omega
  subst hkn
  obtain ⟨L, hL⟩ : ∃ L, L = rgL k v k := ⟨_, rfl⟩
  have hLl : L.length = k := by rw [hL, rgL_len]
  have hfull : findC (k : Int) L (clsO q) false = some L := by rw [hL, ← hv]; exact ring_find (by omega) (by omega) hq3
  have hsing : findC (k : Int) L 10 false = none := ring_single (v := v) (by omega) (by rw [hL]; exact rgL_in k v) _
  have hcutn : findC (k : Int) (L.take x ++ L.drop (x + 1)) (clsO q) true = none := by rw [hL]; exact ring_cut (v := v) (q := x) (by omega) cut_in hxn (cut_no hxn)
  rw [← hL] at hown
  obtain ⟨la, gc, rfl⟩ := hown.len
  have hr := OwnF.rsl (A := all) fwy_len hown (fun _ _ => trivial)
  obtain ⟨gb, go, gcs, gT, gfr, hgl, -, -, -, -⟩ := hr.get (k := 0) (by omega)
  obtain ⟨ad, had⟩ : ∃ ad : Addr, ad = ⟨gb, go, none⟩ := ⟨_, rfl⟩
  rw [← had] at hgl
  subst hgl
  have hgcap := hr.cap
  have hTl : (L.take x).length = x := by rw [List.length_take]; omega
  have hTl2 := hTl
  have hDl : (L.drop (x + 1)).length = k - (x + 1) := by rw [List.length_drop, hLl]
  obtain ⟨a2, ha2⟩ : ∃ a2, a2 = if (gc : Int) = ((x + 1 : Nat) : Int) then ad else ad.add ((((x + 1 : Nat) : Int)).toNat * 8) := ⟨_, rfl⟩
  have hTr : RSl 8 (Rc fwy) all w2 (.slice (some ad) (L.take x).length gc) (L.take x) := by rw [hTl]; exact hr.take (k := x) (by omega)
  have hDr := RSl.drop hr (k := x + 1) (by omega) a2 ha2
  refine W.exit (Nx.xthn (Nx.xthn (Nx.xblk Nx.thn))) ?_
  refine W.seq ?_
  refine W.region ?_
  refine WL.x (X.mv (s0)) rfl ?_
  refine WL.x (X.mv (lt rfl (s9))) rfl ?_
  refine WL.x (X.mv (jt2 rfl (s8))) rfl ?_
  refine WL.call4 ce7 (jt2 rfl (lh)) (lt rfl (lh)) (lh) lc (cfind_ok all (k : Int) (some ad) gc L (clsO q) false w2 hr (by omega) (htab.ch0 hcl) (by have := hcl.size; omega)) rfl ?_
  rintro _ w7 ⟨va, rfl, hown9, c2⟩
  rw [hfull] at hown9
  have hown9 : OwnF 8 fwy w7 _ 27 va L := hown9
  obtain ⟨fa, fc, rfl⟩ := hown9.len
  have hf := OwnF.rsl (A := all) fwy_len hown9 (fun _ _ => trivial)
  have hr := hr.ch0 (monRc _) c2
  have hTr := hTr.ch0 (monRc _) c2
  have hDr := hDr.ch0 (monRc _) c2
  have hcl := hcl.trans0 c2
  refine WL.x (X.mv (lh)) rfl ?_
  refine WL.x (X.ex2_0 (lh)) rfl ?_
  refine WL.x (X.ex2_1 (lt rfl (lh))) rfl ?_
  refine WL.x (X.asg (lt rfl (lh))) rfl ?_
  refine WL.x (X.asg (lt rfl (lh))) rfl ?_
  refine WL.e6 Nx.thn 0 2 8 9 11 12 (jt8 rfl (lt rfl (s0))) (jt8 rfl (lt rfl (s2))) (jt8 rfl (lt rfl (s8))) (jt8 rfl (lt rfl (s9))) (lt rfl (lh)) (lh) ?_
  intro σ12 s0 s2 s8 s9 s11 s12
  refine W.seq ?_
  refine W.region ?_
  refine WL.x (X.mv (s2)) rfl ?_
  refine WL.x (X.convu Tryd.underlying3 Tryd.underlying39 (lh)) rfl ?_
  refine WL.x (X.mv (jt2 rfl (s0))) rfl ?_
  refine WL.x (X.convi Tryd.underlying3 Tryd.underlying39 (lh) (wrap_u64_in (by omega) (by omega))) rfl ?_
  refine WL.x (X.rem (jt2 rfl (lh)) (lh) (by omega) (by omega)) rfl ?_
  refine WL.x (v := .int .i64 (x : Int)) (hx ▸ X.convi Tryd.underlying39 Tryd.underlying3 (lh) (wrap_i64 (by omega) (by omega))) rfl ?_
  refine WL.x (X.asg (lh)) rfl ?_
  refine WL.e6 Nx.thn 0 2 8 9 11 12 (jt4 rfl (jt2 rfl (lt rfl (s0)))) (lh) (jt4 rfl (jt2 rfl (lt rfl (s8)))) (jt4 rfl (jt2 rfl (lt rfl (s9)))) (jt4 rfl (jt2 rfl (lt rfl (s11)))) (jt4 rfl (jt2 rfl (lt rfl (s12)))) ?_
  intro σ13 s0 s2 s8 s9 s11 s12
  refine W.seq ?_
  refine W.held (fun w' => Ch (fun _ => False) w7 w') mo ?_
  intro w8 qhh8 qc9
  have hS : Ch (fun _ => False) w7 w8 := Ch.weak qc9
  have hzqc9 := qc9.size
  have cdh12 := qc9
  have hS0 := cdh12
  refine WH.take 0 rfl (by kernel_rfl) (by kernel_rfl) (by kernel_rfl) (fun _ _ _ h => h) Gd.none rfl (fun w' hS' => X.mv (s0)) hS ?_
  refine WH.take 1 rfl (by kernel_rfl) (by kernel_rfl) (by kernel_rfl) (fun _ _ _ h => h) Gd.none rfl (fun w' hS' => X.mv (lt rfl (s9))) hS ?_
  refine WH.take 2 rfl (by kernel_rfl) (by kernel_rfl) (by kernel_rfl) (fun _ _ _ h => h) Gd.none rfl (fun w' hS' => X.mv (jt2 rfl (s2))) hS ?_
  refine WH.take 3 rfl (by kernel_rfl) (by kernel_rfl) (by kernel_rfl) (fun _ _ _ h => h) Gd.none rfl (fun w' hS' => (show Sg.X Tryd.prog _ w' _ _ (.slice (some ad) (L.take x).length gc) from by rw [hTl]; exact X.slH (h := (x : Int)) Tryd.underlying22 el27 (lt rfl (lh)) (lh) (by omega) (by omega))) hS ?_
  refine WH.take 5 rfl (by kernel_rfl) (by kernel_rfl) (by kernel_rfl) (fun _ _ _ h => h) Gd.none rfl (fun w' hS' => X.mv (jt4 rfl (s9))) hS ?_
  refine WH.take 6 rfl (by kernel_rfl) (by kernel_rfl) (by kernel_rfl) (fun _ _ _ h => h) Gd.none rfl (fun w' hS' => X.mv (jt4 rfl (lt rfl (s2)))) hS ?_
  refine WH.take 7 rfl (by kernel_rfl) (by kernel_rfl) (by kernel_rfl) (fun _ _ _ h => h) Gd.none rfl (fun w' hS' => X.addN (b := 1) (lh) lc (by omega)) hS ?_
  refine WH.take 8 rfl (by kernel_rfl) (by kernel_rfl) (by kernel_rfl) (fun _ _ _ h => h) Gd.none rfl (fun w' hS' => (show Sg.X Tryd.prog _ w' _ _ (.slice (some a2) (L.drop (x + 1)).length (gc - (x + 1))) from by rw [ha2, hDl, show k - (x + 1) = ((L.length : Int) - (((x + 1 : Nat) : Int))).toNat by omega, show gc - (x + 1) = ((gc : Int) - (((x + 1 : Nat) : Int))).toNat by omega]; exact X.slL Tryd.underlying22 el27 (jt2 rfl (lh)) (lh) (by omega) (by omega))) hS ?_
  refine WH.take 10 rfl (by kernel_rfl) (by kernel_rfl) (by kernel_rfl) (fun _ _ _ h => h) Gd.none rfl (fun w' hS' => X.mv (jt8 rfl (s8))) hS ?_
  refine WH.one 4 rfl (by kernel_rfl) (fun _ _ h => h) ?_
  refine WL.call1 ce13 (jt4 rfl (lt rfl (lh))) (clone_wy all (some ad) gc (L.take x) w8 (hTr.ch0 (monRc _) hS0) (by omega)) rfl ?_
  rintro vg w9 ⟨hog, c3⟩
  obtain ⟨ka, kc, rfl⟩ := hog.len
  have hS := hS.trans c3 (fun _ _ => id) (by intro i hi hg; exact hg)
  refine WL.nil Nx.thn ⟨hS, ?_⟩
  refine WH.one 9 rfl (by kernel_rfl) (fun _ _ h => h) ?_
  refine WL.appendF Tryd.underlying22 el27 rfl (by decide) fwy_len fwy_one (lh) (jt2 rfl (lh)) (hog) ((hDr.ch0 (monRc _) hS)) (by rw [hTl2, hDl]; unfold maxLen; omega) (by rw [hTl2, hDl]; omega) (by have := c3.size; have := hS.size; have := cdh12.size; omega) rfl ?_
  intro va12_9 w10 ho12_9 ca12_9
  obtain ⟨ca, cc, rfl⟩ := ho12_9.len
  have hz12 := ca12_9.size
  have hS := hS.trans ca12_9 (fun _ _ e => e) (fun i hi hg => by have h8 := (hog.lt hg).1; have h7 := cdh12.size; (try dsimp only at h8); omega)
  refine WL.nil Nx.thn ⟨hS, ?_⟩
  refine WH.one 11 rfl (by kernel_rfl) (fun _ _ h => h) ?_
  refine WL.call4 ce7 (jt8 rfl (jt2 rfl (lh))) (lh) (jt2 rfl (lh)) lc (cfind_ok all (k : Int) ca cc (L.take x ++ L.drop (x + 1)) (clsO q) true w10 (OwnF.rsl (A := all) fwy_len ho12_9 (fun _ _ => trivial)) (by rw [List.length_append, hTl2, hDl]; omega) (htab.ch0 (hcl.trans0 hS)) (by have := (hcl.trans0 hS).size; omega)) rfl ?_
  rintro _ w11 ⟨vb, rfl, -, c4⟩
  have hS := hS.trans c4 (fun _ _ => id) (by intro i hi hg; exact hg)
  refine WL.nil Nx.thn ⟨hS, ?_⟩
  refine WH.take 12 rfl (by kernel_rfl) (by kernel_rfl) (by kernel_rfl) (fun _ _ _ h => h) Gd.none rfl (fun w' hS' => X.mv (lh)) hS ?_
  refine WH.take 13 rfl (by kernel_rfl) (by kernel_rfl) (by kernel_rfl) (fun _ _ _ h => h) Gd.none rfl (fun w' hS' => X.ex2_0 (lh)) hS ?_
  refine WH.take 14 rfl (by kernel_rfl) (by kernel_rfl) (by kernel_rfl) (fun _ _ _ h => h) Gd.none rfl (fun w' hS' => X.ex2_1 (lt rfl (lh))) hS ?_
  refine WH.take 15 rfl (by kernel_rfl) (by kernel_rfl) (by kernel_rfl) (fun _ _ _ h => h) Gd.none rfl (fun w' hS' => X.asg (lt rfl (lh))) hS ?_
  refine WH.take 16 rfl (by kernel_rfl) (by kernel_rfl) (by kernel_rfl) (fun _ _ _ h => h) Gd.none rfl (fun w' hS' => X.asg (lt rfl (lh))) hS ?_
  refine WH.done (by kernel_rfl) ?_
  refine WL.e6 Nx.thn 0 8 9 11 12 14 (jt8 rfl (jt8 rfl (lt rfl (s0)))) (jt8 rfl (jt8 rfl (lt rfl (s8)))) (jt8 rfl (jt8 rfl (lt rfl (s9)))) (jt8 rfl (jt8 rfl (lt rfl (s11)))) (jt8 rfl (jt8 rfl (lt rfl (s12)))) (lh) ?_
  intro σ14 s0 s8 s9 s11 s12 s14
  refine W.seq ?_
  refine W.region ?_
  refine WL.x (X.mv (s0)) rfl ?_
  refine WL.x (X.mv (lt rfl (s9))) rfl ?_
  have hr := hr.ch0 (monRc _) hS
  have hf := hf.ch0 (monRc _) hS
  have hcl := hcl.trans0 hS
  refine WL.call4 ce7 (lt rfl (lh)) (lh) lc lc (cfind_ok all (k : Int) (some ad) gc L 10 false w11 hr (by omega) (htab.ch0 hcl) (by have := hcl.size; omega)) rfl ?_
  rintro _ w12 ⟨vd, rfl, -, c5⟩
  have hr := hr.ch0 (monRc _) c5
  have hf := hf.ch0 (monRc _) c5
  have hcl := hcl.trans0 c5
  refine WL.x (X.mv (lh)) rfl ?_
  refine WL.x (X.ex2_0 (lh)) rfl ?_
  refine WL.x (X.ex2_1 (lt rfl (lh))) rfl ?_
  refine WL.x (X.asg (lt rfl (lh))) rfl ?_
  refine WL.x (X.asg (lt rfl (lh))) rfl ?_
  refine WL.e7 Nx.thn 0 8 9 11 12 14 16 (jt8 rfl (s0)) (jt8 rfl (s8)) (jt8 rfl (s9)) (jt8 rfl (s11)) (jt8 rfl (s12)) (jt8 rfl (s14)) (lh) ?_
  intro σ15 s0 s8 s9 s11 s12 s14 s16
  refine W.seq ?_
  refine W.region ?_
  refine WL.x (X.mv (s12)) rfl ?_
  refine WL.x (X.mv (lh)) rfl ?_
  refine WL.yes rfl rfl (lh) (by rw [hfull]; rfl) ?_
  refine WL.x (X.mv (jt2 rfl (s14))) rfl ?_
  refine WL.yes rfl rfl (lt rfl (lh)) (by rw [hfull]; rfl) ?_
  refine WL.x (X.not (lh)) rfl ?_
  refine WL.x (X.pickT (jt2 rfl (lh)) (by rw [hfull]; rfl) (lh)) rfl ?_
  refine WL.x (X.mv (lh)) rfl ?_
  refine WL.yes rfl rfl (lh) (by rw [hcutn]; rfl) ?_
  refine WL.x (X.mv (jt4 rfl (jt2 rfl (s16)))) rfl ?_
  refine WL.yes rfl rfl (lt rfl (lh)) (by rw [hcutn]; rfl) ?_
  refine WL.x (X.not (lh)) rfl ?_
  refine WL.x (X.pickT (jt2 rfl (lh)) (by rw [hcutn]; rfl) (lh)) rfl ?_
  refine WL.x (X.mv (lh)) rfl ?_
  refine WL.yes rfl rfl (lh) (by rw [hsing]; rfl) ?_
  refine WL.x (X.mv (jt8 rfl (jt2 rfl (s11)))) rfl ?_
  refine WL.yes rfl rfl (lt rfl (lh)) (by rw [hsing]; rfl) ?_
  refine WL.x (X.lenSl Tryd.underlying22 (lh)) rfl ?_
  refine WL.yes rfl rfl (jt2 rfl (lh)) (by rw [hsing]; rfl) ?_
  refine WL.x (X.mv (jt8 rfl (jt4 rfl (s0)))) rfl ?_
  refine WL.yes rfl rfl (jt2 rfl (lt rfl (lh))) (by rw [hsing]; rfl) ?_
  refine WL.x (X.eql (lt rfl (lh)) (lh)) rfl ?_
  refine WL.x (X.pickT (jt4 rfl (lh)) (by rw [hsing]; rfl) (lh)) rfl ?_
  refine WL.x (X.mv (lh)) rfl ?_
  refine WL.yes rfl rfl (lh) (decide_eq_true (by omega)) ?_
  refine WL.x (X.mv (jt8 rfl (jt8 rfl (s11)))) rfl ?_
  refine WL.yes rfl rfl (lt rfl (lh)) (decide_eq_true (by omega)) ?_
  refine WL.x (X.mv (jt8 rfl (jt8 rfl (lt rfl (s8))))) rfl ?_
  refine WL.yes rfl rfl (jt2 rfl (lh)) (decide_eq_true (by omega)) ?_
  refine WL.call3 ce12 (lt rfl (lh)) (lh) lc (is_ok all fa fc L (clsO q) false w12 hf (by omega) (by exact hck.1) (find_froms hfull)) rfl ?_
  rintro _ w13 ⟨bb, rfl, hbb, c6⟩
  obtain rfl : bb = true := hbb.2 (find_isC hfull)
  have hr := hr.ch0 (monRc _) c6
  have hf := hf.ch0 (monRc _) c6
  have hcl := hcl.trans0 c6
  refine WL.x (X.pickT (jt2 rfl (lt rfl (lh))) (decide_eq_true (by omega)) (lh)) rfl ?_
  refine WL.x (X.mv (lh)) rfl ?_
  refine WL.yes rfl rfl (lh) (rfl) ?_
  refine WL.x (X.mv (jt8 rfl (jt8 rfl (jt4 rfl (lt rfl (s11)))))) rfl ?_
  refine WL.yes rfl rfl (lt rfl (lh)) (rfl) ?_
  refine WL.x (X.mv (jt8 rfl (jt8 rfl (jt4 rfl (jt2 rfl (s9)))))) rfl ?_
  refine WL.yes rfl rfl (jt2 rfl (lh)) (rfl) ?_
  refine WL.call2 ce14 (lt rfl (lh)) (lh) (eq_wy_ok all all _ _ L L w13 hf hr (by omega)) rfl ?_
  rintro _ w14 ⟨rfl, d7⟩
  have cd7 := d7.ch0
  refine WL.x (X.pickT (jt2 rfl (lt rfl (lh))) (rfl) (lh)) rfl ?_
  refine WL.x (X.asg (lh)) rfl ?_
  refine WL.e1 Nx.thn 6 (lh) ?_
  intro σ16 s6
  refine W.ret1 Nx.f1 s6 ?_
  exact ⟨congrArg Value.bool (decide_eq_true rfl), hcl.trans0 cd7⟩
end Go.Proofs.YtnfkblboimkcjaaDoor
end

section
set_option linter.unusedVariables false
set_option linter.unusedSimpArgs false
set_option maxRecDepth 100000
namespace Go.Proofs.YtnfkblboimkcjaaDoor
open Go Go.RowKit Go.ChangeShapes Sg
end Go.Proofs.YtnfkblboimkcjaaDoor
end

section
set_option linter.unusedVariables false
set_option linter.unusedSimpArgs false
set_option maxRecDepth 100000
namespace Go.Proofs.YtnfkblboimkcjaaDoor
open Go Go.RowKit Sg

theorem tab_of_laid {W : World} (hL : laidMet Tryd.prog [("math/bits.deBruijn64tab", Rows.laid_math_bits_deBruijn64tab)] W) : Tab W := by
  have hT : Lib.TabIs Tryd.prog W "math/bits.deBruijn64tab" .u8 (Lib.deBruijn64tab.map fun (n : Nat) => (n : Int)) := Lib.tabIs_of_head (g := 0) (t := 134) (e := 5) (n := 64) (by kernel_rfl) (by kernel_rfl) Tryd.underlying134 Tryd.underlying5 (by kernel_rfl) (by kernel_rfl) hL
  obtain ⟨TT, fr, h⟩ := tab_block hT (by kernel_rfl)
  exact ⟨TT, fr, by rw [h]; simp [tzTab]⟩

end Go.Proofs.YtnfkblboimkcjaaDoor
end
