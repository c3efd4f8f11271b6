/-
  A part of the walk of the program.
-/
import Derived.Test.YteknclegacbpkaaDoorP
import Derived.Test.YteknclegacbpkaaDoorBack
import Derived.Test.YteknclegacbpkaaDoorBld
import Derived.Test.YteknclegacbpkaaDoorSh2
set_option linter.unusedVariables false
set_option linter.unusedSimpArgs false
set_option maxRecDepth 100000
namespace Go.Proofs.YteknclegacbpkaaDoor
open Go Go.RowKit Sg
theorem el62 : Sg.Elem Tryd.prog 62 2 (.agg #[.pointer none, .slice none 0 0]) 32 := ⟨_, rfl, rfl, rfl, rfl⟩

theorem lays166 : Lays.n166 Tryd.prog Tryd.lays105_ren := { Tryd.lays105 with }
def ren167 : Go.Shelf.Ren := ⟨fun | 167 => 31 | n => Tryd.lays105_ren.f n, Tryd.lays105_ren.t, Tryd.lays105_ren.g⟩
theorem lays167 : Lays.n167 Tryd.prog ren167 := {
  mixed := by kernel_rfl
  f167 := Tryd.func31.trans (congrArg some (by kernel_rfl))
  f240 := Tryd.func53.trans (congrArg some (by kernel_rfl))
  f276 := Tryd.func65.trans (congrArg some (by kernel_rfl))
  t0 := Tryd.lays105.t0
  a0 := Tryd.lays105.a0
  z0 := Tryd.lays105.z0
  v0 := Tryd.lays105.v0
  t4 := Tryd.lays105.t4
  a4 := Tryd.lays105.a4
  z4 := Tryd.lays105.z4
  v4 := Tryd.lays105.v4
  t5 := Tryd.lays105.t5
  a5 := Tryd.lays105.a5
  z5 := Tryd.lays105.z5
  v5 := Tryd.lays105.v5
  t9 := Tryd.lays105.t9
  a9 := Tryd.lays105.a9
  z9 := Tryd.lays105.z9
  v9 := Tryd.lays105.v9
  t20 := Tryd.lays105.t20
  a20 := Tryd.lays105.a20
  z20 := Tryd.lays105.z20
  v20 := Tryd.lays105.v20
  t37 := Tryd.lays105.t37
  a37 := Tryd.lays105.a37
  z37 := Tryd.lays105.z37
  v37 := Tryd.lays105.v37
  t70 := Tryd.lays105.t70
  a70 := Tryd.lays105.a70
  z70 := Tryd.lays105.z70
  v70 := Tryd.lays105.v70
  t72 := Tryd.lays105.t72
  a72 := Tryd.lays105.a72
  z72 := Tryd.lays105.z72
  v72 := Tryd.lays105.v72
  t75 := Tryd.lays105.t75
  a75 := Tryd.lays105.a75
  z75 := Tryd.lays105.z75
  v75 := Tryd.lays105.v75
  t164 := Tryd.lays105.t164
  a164 := Tryd.lays105.a164
  z164 := Tryd.lays105.z164
  v164 := Tryd.lays105.v164
}
theorem ext167 : Builder.Extra Tryd.prog ren167 := {
  sizeBuilder := Tryd.Builder_Extra_105.sizeBuilder
  liesBuilder := Tryd.Builder_Extra_105.liesBuilder
  t5 := Tryd.Builder_Extra_105.t5
  a5 := Tryd.Builder_Extra_105.a5
  z5 := Tryd.Builder_Extra_105.z5
  v5 := Tryd.Builder_Extra_105.v5
  infoByte := Tryd.Builder_Extra_105.infoByte
  cellsByte := Tryd.Builder_Extra_105.cellsByte
  sizeByte := Tryd.Builder_Extra_105.sizeByte
  neB5 := Tryd.Builder_Extra_105.neB5 }
theorem ws_ok (B b : Nat) (l : Bs) (s : ByteArray) (w : World) (h : Lib.IsBuilderF 62 5 B b (Lib.byteCells l) w) (hlen : l.length + s.size ≤ 140737488355328) (hB : B ≤ w.heap.size) : Sg.Ret Tryd.prog 32 #[.pointer (some ⟨b, 0, none⟩), .string s] w fun v w' => Lib.IsBuilderF 62 5 B b (Lib.byteCells (l ++ sb s)) w' ∧ Ch (fun j => B ≤ j) w w' := by
  have hl : (Lib.byteCells l).length = l.length := List.length_map ..
  refine Calls.mono (Any.Builder_WriteString_k lays166 Tryd.Builder_Extra_105 B b (Lib.byteCells l) s w h (by rw [hl]; exact hlen) hB) ?_
  rintro e w' ⟨rfl, hb, hw, -⟩
  exact ⟨_, rfl, by rw [byteCells_app]; exact .inr hb, chB hw⟩
theorem wb_ok (B b : Nat) (l : Bs) (c : UInt8) (w : World) (h : Lib.IsBuilderF 62 5 B b (Lib.byteCells l) w) (hlen : l.length + 1 ≤ 140737488355328) (hB : B ≤ w.heap.size) : Sg.Ret Tryd.prog 31 #[.pointer (some ⟨b, 0, none⟩), .int .u8 (c.toNat : Int)] w fun v w' => Lib.IsBuilderF 62 5 B b (Lib.byteCells (l ++ [c])) w' ∧ Ch (fun j => B ≤ j) w w' := by
  have hl : (Lib.byteCells l).length = l.length := List.length_map ..
  refine Calls.mono (Any.Builder_WriteByte_k lays167 ext167 B b (Lib.byteCells l) (c.toNat : Int) w h (by rw [hl]; exact hlen) hB) ?_
  rintro e w' ⟨rfl, hb, hw, -⟩
  exact ⟨_, rfl, by rw [byteCells_app]; exact .inr hb, chB hw⟩
theorem bst_ok (B b : Nat) (l : Bs) (w : World) (h : Lib.IsBuilderF 62 5 B b (Lib.byteCells l) w) (hB : B ≤ w.heap.size) : Sg.Ret Tryd.prog 33 #[.pointer (some ⟨b, 0, none⟩)] w fun v w' => v = .string (bs l) ∧ Ch (fun j => B ≤ j) w w' := by
  refine Calls.mono (Tryd.Builder_String_any_k B b l w h hB) ?_
  rintro e w' ⟨rfl, -, hw, -⟩
  exact ⟨_, rfl, rfl, chB hw⟩
abbrev Tab (w : World) : Prop := Lib.TabIs Tryd.prog w "internal/strconv.uint64pow10" .u64 Lib.pow10Tab
theorem itoa_ok (n : Int) (w : World) (h1 : -9223372036854775808 ≤ n) (h2 : n ≤ 9223372036854775807) (hT : Tab w) : Sg.Ret Tryd.prog 30 #[.int .i64 n] w fun v w' => v = .string (bs (Lib.itoa n)) ∧ Ch0 w w' := by
  refine Calls.mono (Tryd.strconv_Itoa n h1 h2 w hT) ?_
  rintro e w' ⟨rfl, k, os, rfl⟩
  exact ⟨_, rfl, rfl, (Ch.drew w k).trans0 (grow_ch _ os)⟩


theorem prF_cons (fr : Bool) (t : Tok) (r : List Tok) : prF fr (t :: r) = if t.1 = 1 ∨ t.1 = 3 then gapL fr ++ (sb t.2.2.1 ++ prF false r) else if t.1 = 2 then gapL fr ++ (Lib.itoa t.2.2.2 ++ prF false r) else if t.1 = 4 then 10 :: prF true r else prF fr r := rfl
theorem prF_txt {fr : Bool} {t : Tok} {r : List Tok} (h : t.1 = 1 ∨ t.1 = 3) : prF fr (t :: r) = gapL fr ++ (sb t.2.2.1 ++ prF false r) := by rw [prF_cons, if_pos h]
theorem prF_num {fr : Bool} {t : Tok} {r : List Tok} (h : t.1 = 2) : prF fr (t :: r) = gapL fr ++ (Lib.itoa t.2.2.2 ++ prF false r) := by rw [prF_cons, if_neg (by omega), if_pos h]
theorem prF_line {fr : Bool} {t : Tok} {r : List Tok} (h : t.1 = 4) : prF fr (t :: r) = 10 :: prF true r := by rw [prF_cons, if_neg (by omega), if_neg (by omega), if_pos h]
theorem prF_skip {fr : Bool} {t : Tok} {r : List Tok} (h : ¬ (t.1 = 1 ∨ t.1 = 3 ∨ t.1 = 2 ∨ t.1 = 4)) : prF fr (t :: r) = prF fr r := by
  rw [prF_cons, if_neg (by omega), if_neg (by omega), if_neg (by omega)]
theorem gap_len (fr : Bool) : (gapL fr).length ≤ 1 := by cases fr <;> simp [gapL]
theorem txt_on {a p : Bs} {fr : Bool} {x : Bs} {r : List Tok} (h : p = a ++ (gapL fr ++ (x ++ prF false r))) : p = (a ++ gapL fr ++ x) ++ prF false r ∧ a.length + (gapL fr).length + x.length ≤ p.length := by
  refine ⟨by rw [h]; simp only [List.append_assoc], ?_⟩
  rw [h]; simp only [List.length_append]; omega
theorem txt_fr {a p : Bs} {x : Bs} {r : List Tok} (h : p = (a ++ gapL true ++ x) ++ prF false r) : p = (a ++ x) ++ prF false r := by rw [h]; simp [gapL]

set_option maxHeartbeats 3200000 in
theorem print_walk (A : Nat → Prop) (a : Option Addr) (c : Nat) (l : List Tok) (w : World) (h : RSl 4 (Rc ftk) A w (.slice a l.length c) l) (hl : l.length ≤ 20000) (hsz : (prF true l).length ≤ 40000) (hrg : ∀ t ∈ l, -9223372036854775808 ≤ t.2.2.2 ∧ t.2.2.2 ≤ 9223372036854775807) (hTab : Tab w) :
    Sg.Ret Tryd.prog 13 #[.slice a l.length c] w fun v w' => v = .string (bs (prF true l)) ∧ Ch0 w w' := by
  refine enter1 (n := 35) (l := [.slice a l.length c]) Tryd.func13 rfl rfl rfl rfl ?_
  refine W.g1 0 (v1 := .slice a l.length c) rfl ?_; intro σ s0
  refine W.seq ?_
  refine W.region ?_
  refine WL.x (X.asg lc) rfl ?_
  refine WL.e1 Nx.thn 0 (lt rfl (s0)) ?_
  intro σ1 s0
  refine W.seq ?_
  refine W.region ?_
  refine WL.alloc el62 rfl ?_
  intro w1 u0
  have cu1_0 := u0.ch
  have hb0 : Lib.IsBuilderF 62 5 w.heap.size w.heap.size (Lib.byteCells ([])) w1 := bld_fresh u0.at_ (Nat.le_refl _)
  refine WL.e2 Nx.thn 0 3 (lt rfl (s0)) (lh) ?_
  intro σ2 s0 s3
  refine W.seq ?_
  refine W.region ?_
  refine WL.x (X.asg lc) rfl ?_
  refine WL.e3 Nx.thn 0 3 4 (lt rfl (s0)) (lt rfl (s3)) (lh) ?_
  intro σ3 s0 s3 s4
  refine W.seq ?_
  refine W.seq ?_
  refine W.region ?_
  refine WL.x (X.mv (s0)) rfl ?_
  refine WL.x (X.lenSl Tryd.underlying23 (lh)) rfl ?_
  refine WL.x (X.mv lc) rfl ?_
  refine WL.e5 Nx.thn 3 4 8 9 10 (lt rfl (lt rfl (lt rfl (s3)))) (lt rfl (lt rfl (lt rfl (s4)))) (lt rfl (lt rfl (lh))) (lt rfl (lh)) (lh) ?_
  intro σ4 s3 s4 s8 s9 s10
  refine W.block ?_
  have qo1 := s3
  have qo2 := s8
  have qo3 := s9
  -- loop 0: kept [3, 8, 9], varied [4, 10]
  refine W.loop (G := Nat × Bs × Bool) (fun (k, acc, fr) σ' w' => (σ' 3 = σ4 3 ∧ σ' 8 = σ4 8 ∧ σ' 9 = σ4 9 ∧ True) ∧ (σ' 4 = .string (bs (gapL fr)) ∧ σ' 10 = .int .i64 (k : Int) ∧ Lib.IsBuilderF 62 5 w.heap.size w.heap.size (Lib.byteCells (acc)) w' ∧ prF true l = acc ++ prF fr (l.drop k) ∧ k ≤ l.length ∧ Ch0 w w')) (fun (k, acc, fr) => l.length - k) ((0, [], true)) ⟨⟨rfl, rfl, rfl, trivial⟩, s4, s10, hb0, rfl, by omega, cu1_0⟩ ?_
  rintro ⟨k, acc, fr⟩ σ5 w2 ⟨⟨f3, f8, f9, _⟩, s4, s10, hb, hacc, hkl, hcl⟩
  have s3 := f3.trans qo1
  have s8 := f8.trans qo2
  have s9 := f9.trans qo3
  refine W.seq ?_
  refine W.region ?_
  refine WL.x (X.lss (s10) (s9)) rfl ?_
  refine WL.e6 Nx.thn 3 4 8 9 10 11 (lt rfl (s3)) (lt rfl (s4)) (lt rfl (s8)) (lt rfl (s9)) (lt rfl (s10)) (lh) ?_
  intro σ6 s3 s4 s8 s9 s10 s11
  refine W.seq ?_
  refine W.cndp s11 (fun hlt => ?_) (fun hlt => ?_)
  · obtain ⟨b1, o1, cs1, T1, fr1, rfl, hm1, he1, -, hc1⟩ := h.get (k := k) (by omega)
    have hm1 := hcl.at0 hm1
    obtain ⟨tk, htv⟩ : ∃ tk, tk = l[k] := ⟨_, rfl⟩
    have hrt := hrg l[k] (List.getElem_mem _)
    rw [← htv] at hc1 hrt
    have hdrop : l.drop k = tk :: l.drop (k + 1) := by rw [htv]; exact List.drop_eq_getElem_cons (by omega)
    have hgp := gap_len fr
    rw [hdrop] at hacc
    have hbb := bld_lt hb
    have hsz9 := hsz
    refine W.skip Nx.thn ?_
    refine W.seq ?_
    refine W.block ?_
    refine W.seq ?_
    refine W.region ?_
    refine WL.x (X.indexAddr Tryd.underlying23 el29 (s8) (s10) (by omega) (by omega)) rfl ?_
    refine WL.x (X.loadS (vs := ftk tk) ag29 (lh) hm1 he1 hc1) rfl ?_
    refine WL.alloc el29 rfl ?_
    intro w3 u1
    have ht0 := u1.at_
    have cu5_2 := u1.ch
    have hclz := hcl.size
    refine WL.storeS (vs := ftk tk) ag29 (lh) (lt rfl (lh)) (List.all_eq_true.2 (ftk_one tk)) rfl ht0 (by first | decide | (simp; done)) ?_
    intro w4 us
    have htk := show (w4.heap[(_ : Nat)]? = some (Obj.cells (ftk tk).toArray 29 (0, 0))) from us.at_
    have cst := us.ch
    have hcn := cu5_2.trans cst (H := fun _ => False) (fun _ _ e => e) (fun q hq e => by (try dsimp only at e); omega)
    have hb := bld_ch0 hb hcn
    have hcl := hcl.trans0 hcn
    refine WL.e6 Nx.thn 3 4 6 8 9 10 (lt rfl (lt rfl (lt rfl (s3)))) (lt rfl (lt rfl (lt rfl (s4)))) (lh) (lt rfl (lt rfl (lt rfl (s8)))) (lt rfl (lt rfl (lt rfl (s9)))) (lt rfl (lt rfl (lt rfl (s10)))) ?_
    intro σ7 s3 s4 s6 s8 s9 s10
    refine W.seq ?_
    refine W.region ?_
    refine WL.x (X.asg lc) rfl ?_
    refine WL.e6 Nx.thn 3 4 6 8 9 10 (lt rfl (s3)) (lt rfl (s4)) (lt rfl (s6)) (lt rfl (s8)) (lt rfl (s9)) (lt rfl (s10)) ?_
    intro σ8 s3 s4 s6 s8 s9 s10
    refine W.seq ?_
    refine W.seq ?_
    refine W.region ?_
    refine WL.x (X.fieldAddr fd29_0 (s6)) rfl ?_
    refine WL.x (X.load pl3 (lh) (by first | assumption | exact cst.at (by assumption) (by intro hne; first | exact hne | ((try dsimp only at hne); omega)) | exact cst.at (cu5_2.at0 (by assumption)) (by intro hne; first | exact hne | ((try dsimp only at hne); omega)) | exact cst.at (cu5_2.at0 (cu1_0.at0 (by assumption))) (by intro hne; first | exact hne | ((try dsimp only at hne); omega))) (by first | rfl | assumption)) rfl ?_
    refine WL.e7 Nx.thn 3 4 6 8 9 10 15 (lt rfl (lt rfl (s3))) (lt rfl (lt rfl (s4))) (lt rfl (lt rfl (s6))) (lt rfl (lt rfl (s8))) (lt rfl (lt rfl (s9))) (lt rfl (lt rfl (s10))) (lh) ?_
    intro σ9 s3 s4 s6 s8 s9 s10 s15
    refine W.block ?_
    refine W.seq ?_
    refine W.seq ?_
    refine W.region ?_
    refine WL.x (X.eql (s15) lc) rfl ?_
    refine WL.x (X.asg (lh)) rfl ?_
    refine WL.e8 Nx.thn 3 4 6 8 9 10 15 16 (lt rfl (lt rfl (s3))) (lt rfl (lt rfl (s4))) (lt rfl (lt rfl (s6))) (lt rfl (lt rfl (s8))) (lt rfl (lt rfl (s9))) (lt rfl (lt rfl (s10))) (lt rfl (lt rfl (s15))) (lh) ?_
    intro σ10 s3 s4 s6 s8 s9 s10 s15 s16
    refine W.cndp s16 (fun h13 => ?_) (fun h13 => ?_)
    · obtain ⟨e9, e8⟩ := txt_on (hacc.trans (by rw [prF_txt (by omega)]))
      have hgs : (bs (gapL fr)).size = (gapL fr).length := size_bs _
      have hts := sb_len tk.2.2.1
      refine W.skip Nx.thn ?_
      refine W.cndBT s16 (decide_eq_true h13) ?_
      refine W.region ?_
      refine WL.x (X.fieldAddr fd29_2 (s6)) rfl ?_
      refine WL.x (X.load pl9 (lh) (by first | assumption | exact cst.at (by assumption) (by intro hne; first | exact hne | ((try dsimp only at hne); omega)) | exact cst.at (cu5_2.at0 (by assumption)) (by intro hne; first | exact hne | ((try dsimp only at hne); omega)) | exact cst.at (cu5_2.at0 (cu1_0.at0 (by assumption))) (by intro hne; first | exact hne | ((try dsimp only at hne); omega))) (by first | rfl | assumption)) rfl ?_
      refine WL.x (X.asg (lh)) rfl ?_
      refine WL.e6 (Nx.blk Nx.thn) 3 4 7 8 9 10 (lt rfl (lt rfl (lt rfl (s3)))) (lt rfl (lt rfl (lt rfl (s4)))) (lh) (lt rfl (lt rfl (lt rfl (s8)))) (lt rfl (lt rfl (lt rfl (s9)))) (lt rfl (lt rfl (lt rfl (s10)))) ?_
      intro σ11 s3 s4 s7 s8 s9 s10
      refine W.seq ?_
      refine W.region ?_
      refine WL.x (X.mv (s4)) rfl ?_
      refine WL.call2 ce32 (lt rfl (s3)) (lh) (ws_ok w.heap.size w.heap.size acc (bs (gapL fr)) w4 hb (by omega) hcl.size) rfl ?_
      rintro v6 w5 ⟨hb1, cw1⟩
      have hcl1 := hcl.trans cw1 (H := fun _ => False) (fun _ _ e => e) (fun q hq e => by (try dsimp only at e); omega)
      refine WL.e5 Nx.thn 3 7 8 9 10 (lt rfl (lt rfl (s3))) (lt rfl (lt rfl (s7))) (lt rfl (lt rfl (s8))) (lt rfl (lt rfl (s9))) (lt rfl (lt rfl (s10))) ?_
      intro σ12 s3 s7 s8 s9 s10
      refine W.seq ?_
      refine W.region ?_
      refine WL.x (X.mv (s7)) rfl ?_
      refine WL.call2 ce32 (lt rfl (s3)) (lh) (ws_ok w.heap.size w.heap.size (acc ++ gapL fr) _ w5 hb1 (by rw [List.length_append]; omega) hcl1.size) rfl ?_
      rintro v7 w6 ⟨hb2, cw2⟩
      have hcl2 := hcl1.trans cw2 (H := fun _ => False) (fun _ _ e => e) (fun q hq e => by (try dsimp only at e); omega)
      refine WL.e4 Nx.thn 3 8 9 10 (lt rfl (lt rfl (s3))) (lt rfl (lt rfl (s8))) (lt rfl (lt rfl (s9))) (lt rfl (lt rfl (s10))) ?_
      intro σ13 s3 s8 s9 s10
      refine W.region ?_
      refine WL.x (X.asg lc) rfl ?_
      refine WL.e5 (Nx.blk Nx.thn) 3 4 8 9 10 (lt rfl (s3)) (lh) (lt rfl (s8)) (lt rfl (s9)) (lt rfl (s10)) ?_
      intro σ14 s3 s4 s8 s9 s10
      refine W.region ?_
      first | refine WL.x (X.add (s10) lc (by omega) (by omega)) rfl ?_ | refine WL.x (X.addw (s10) lc) rfl ?_
      refine WL.x (X.mv (lh)) rfl ?_
      refine WL.e5 Nx.thn 3 4 8 9 10 (lt rfl (lt rfl (s3))) (lt rfl (lt rfl (s4))) (lt rfl (lt rfl (s8))) (lt rfl (lt rfl (s9))) (lh) ?_
      intro σ15 s3 s4 s8 s9 s10
      refine ⟨(k + 1, acc ++ gapL fr ++ sb tk.2.2.1, false), by (try dsimp only); omega, ⟨s3.trans qo1.symm, s8.trans qo2.symm, s9.trans qo3.symm, trivial⟩, s4, s10, hb2, e9, by omega, hcl2⟩
    · refine W.region ?_
      refine WL.x (X.eql (s15) lc) rfl ?_
      refine WL.x (X.asg (lh)) rfl ?_
      refine WL.e8 Nx.thn 3 4 6 8 9 10 15 16 (lt rfl (lt rfl (s3))) (lt rfl (lt rfl (s4))) (lt rfl (lt rfl (s6))) (lt rfl (lt rfl (s8))) (lt rfl (lt rfl (s9))) (lt rfl (lt rfl (s10))) (lt rfl (lt rfl (s15))) (lh) ?_
      intro σ16 s3 s4 s6 s8 s9 s10 s15 s16
      refine W.cndp s16 (fun h13 => ?_) (fun h13 => ?_)
      · obtain ⟨e9, e8⟩ := txt_on (hacc.trans (by rw [prF_txt (by omega)]))
        have hgs : (bs (gapL fr)).size = (gapL fr).length := size_bs _
        have hts := sb_len tk.2.2.1
        refine W.region ?_
        refine WL.x (X.fieldAddr fd29_2 (s6)) rfl ?_
        refine WL.x (X.load pl9 (lh) (by first | assumption | exact cst.at (by assumption) (by intro hne; first | exact hne | ((try dsimp only at hne); omega)) | exact cst.at (cu5_2.at0 (by assumption)) (by intro hne; first | exact hne | ((try dsimp only at hne); omega)) | exact cst.at (cu5_2.at0 (cu1_0.at0 (by assumption))) (by intro hne; first | exact hne | ((try dsimp only at hne); omega))) (by first | rfl | assumption)) rfl ?_
        refine WL.x (X.asg (lh)) rfl ?_
        refine WL.e6 (Nx.blk Nx.thn) 3 4 7 8 9 10 (lt rfl (lt rfl (lt rfl (s3)))) (lt rfl (lt rfl (lt rfl (s4)))) (lh) (lt rfl (lt rfl (lt rfl (s8)))) (lt rfl (lt rfl (lt rfl (s9)))) (lt rfl (lt rfl (lt rfl (s10)))) ?_
        intro σ17 s3 s4 s7 s8 s9 s10
        refine W.seq ?_
        refine W.region ?_
        refine WL.x (X.mv (s4)) rfl ?_
        refine WL.call2 ce32 (lt rfl (s3)) (lh) (ws_ok w.heap.size w.heap.size acc (bs (gapL fr)) w4 hb (by omega) hcl.size) rfl ?_
        rintro v6 w7 ⟨hb1, cw1⟩
        have hcl1 := hcl.trans cw1 (H := fun _ => False) (fun _ _ e => e) (fun q hq e => by (try dsimp only at e); omega)
        refine WL.e5 Nx.thn 3 7 8 9 10 (lt rfl (lt rfl (s3))) (lt rfl (lt rfl (s7))) (lt rfl (lt rfl (s8))) (lt rfl (lt rfl (s9))) (lt rfl (lt rfl (s10))) ?_
        intro σ18 s3 s7 s8 s9 s10
        refine W.seq ?_
        refine W.region ?_
        refine WL.x (X.mv (s7)) rfl ?_
        refine WL.call2 ce32 (lt rfl (s3)) (lh) (ws_ok w.heap.size w.heap.size (acc ++ gapL fr) _ w7 hb1 (by rw [List.length_append]; omega) hcl1.size) rfl ?_
        rintro v7 w8 ⟨hb2, cw2⟩
        have hcl2 := hcl1.trans cw2 (H := fun _ => False) (fun _ _ e => e) (fun q hq e => by (try dsimp only at e); omega)
        refine WL.e4 Nx.thn 3 8 9 10 (lt rfl (lt rfl (s3))) (lt rfl (lt rfl (s8))) (lt rfl (lt rfl (s9))) (lt rfl (lt rfl (s10))) ?_
        intro σ19 s3 s8 s9 s10
        refine W.region ?_
        refine WL.x (X.asg lc) rfl ?_
        refine WL.e5 (Nx.blk Nx.thn) 3 4 8 9 10 (lt rfl (s3)) (lh) (lt rfl (s8)) (lt rfl (s9)) (lt rfl (s10)) ?_
        intro σ20 s3 s4 s8 s9 s10
        refine W.region ?_
        first | refine WL.x (X.add (s10) lc (by omega) (by omega)) rfl ?_ | refine WL.x (X.addw (s10) lc) rfl ?_
        refine WL.x (X.mv (lh)) rfl ?_
        refine WL.e5 Nx.thn 3 4 8 9 10 (lt rfl (lt rfl (s3))) (lt rfl (lt rfl (s4))) (lt rfl (lt rfl (s8))) (lt rfl (lt rfl (s9))) (lh) ?_
        intro σ21 s3 s4 s8 s9 s10
        refine ⟨(k + 1, acc ++ gapL fr ++ sb tk.2.2.1, false), by (try dsimp only); omega, ⟨s3.trans qo1.symm, s8.trans qo2.symm, s9.trans qo3.symm, trivial⟩, s4, s10, hb2, e9, by omega, hcl2⟩
      · refine W.seq ?_
        refine W.region ?_
        refine WL.x (X.eql (s15) lc) rfl ?_
        refine WL.x (X.asg (lh)) rfl ?_
        refine WL.e8 Nx.thn 3 4 6 8 9 10 15 21 (lt rfl (lt rfl (s3))) (lt rfl (lt rfl (s4))) (lt rfl (lt rfl (s6))) (lt rfl (lt rfl (s8))) (lt rfl (lt rfl (s9))) (lt rfl (lt rfl (s10))) (lt rfl (lt rfl (s15))) (lh) ?_
        intro σ22 s3 s4 s6 s8 s9 s10 s15 s21
        refine W.cndp s21 (fun h2 => ?_) (fun h2 => ?_)
        · obtain ⟨e9, e8⟩ := txt_on (hacc.trans (by rw [prF_num h2]))
          have hgs : (bs (gapL fr)).size = (gapL fr).length := size_bs _
          have hts := size_bs (Lib.itoa tk.2.2.2)
          refine W.region ?_
          refine WL.x (X.fieldAddr fd29_3 (s6)) rfl ?_
          refine WL.x (X.load pl3 (lh) (by first | assumption | exact cst.at (by assumption) (by intro hne; first | exact hne | ((try dsimp only at hne); omega)) | exact cst.at (cu5_2.at0 (by assumption)) (by intro hne; first | exact hne | ((try dsimp only at hne); omega)) | exact cst.at (cu5_2.at0 (cu1_0.at0 (by assumption))) (by intro hne; first | exact hne | ((try dsimp only at hne); omega))) (by first | rfl | assumption)) rfl ?_
          refine WL.call1 ce30 (lh) (itoa_ok tk.2.2.2 w4 hrt.1 hrt.2 (tab_ch0 hTab hcl)) rfl ?_
          rintro _ w9 ⟨rfl, ci⟩
          have hb := bld_ch0 hb ci
          have hcl := hcl.trans0 ci
          refine WL.x (X.asg (lh)) rfl ?_
          refine WL.e6 (Nx.blk Nx.thn) 3 4 7 8 9 10 (lt rfl (lt rfl (lt rfl (lt rfl (s3))))) (lt rfl (lt rfl (lt rfl (lt rfl (s4))))) (lh) (lt rfl (lt rfl (lt rfl (lt rfl (s8))))) (lt rfl (lt rfl (lt rfl (lt rfl (s9))))) (lt rfl (lt rfl (lt rfl (lt rfl (s10))))) ?_
          intro σ23 s3 s4 s7 s8 s9 s10
          refine W.seq ?_
          refine W.region ?_
          refine WL.x (X.mv (s4)) rfl ?_
          refine WL.call2 ce32 (lt rfl (s3)) (lh) (ws_ok w.heap.size w.heap.size acc (bs (gapL fr)) w9 hb (by omega) hcl.size) rfl ?_
          rintro v6 w10 ⟨hb1, cw1⟩
          have hcl1 := hcl.trans cw1 (H := fun _ => False) (fun _ _ e => e) (fun q hq e => by (try dsimp only at e); omega)
          refine WL.e5 Nx.thn 3 7 8 9 10 (lt rfl (lt rfl (s3))) (lt rfl (lt rfl (s7))) (lt rfl (lt rfl (s8))) (lt rfl (lt rfl (s9))) (lt rfl (lt rfl (s10))) ?_
          intro σ24 s3 s7 s8 s9 s10
          refine W.seq ?_
          refine W.region ?_
          refine WL.x (X.mv (s7)) rfl ?_
          refine WL.call2 ce32 (lt rfl (s3)) (lh) (ws_ok w.heap.size w.heap.size (acc ++ gapL fr) _ w10 hb1 (by rw [List.length_append]; omega) hcl1.size) rfl ?_
          rintro v7 w11 ⟨hb2, cw2⟩
          have hcl2 := hcl1.trans cw2 (H := fun _ => False) (fun _ _ e => e) (fun q hq e => by (try dsimp only at e); omega)
          refine WL.e4 Nx.thn 3 8 9 10 (lt rfl (lt rfl (s3))) (lt rfl (lt rfl (s8))) (lt rfl (lt rfl (s9))) (lt rfl (lt rfl (s10))) ?_
          intro σ25 s3 s8 s9 s10
          refine W.region ?_
          refine WL.x (X.asg lc) rfl ?_
          refine WL.e5 (Nx.blk Nx.thn) 3 4 8 9 10 (lt rfl (s3)) (lh) (lt rfl (s8)) (lt rfl (s9)) (lt rfl (s10)) ?_
          intro σ26 s3 s4 s8 s9 s10
          refine W.region ?_
          first | refine WL.x (X.add (s10) lc (by omega) (by omega)) rfl ?_ | refine WL.x (X.addw (s10) lc) rfl ?_
          refine WL.x (X.mv (lh)) rfl ?_
          refine WL.e5 Nx.thn 3 4 8 9 10 (lt rfl (lt rfl (s3))) (lt rfl (lt rfl (s4))) (lt rfl (lt rfl (s8))) (lt rfl (lt rfl (s9))) (lh) ?_
          intro σ27 s3 s4 s8 s9 s10
          refine ⟨(k + 1, acc ++ gapL fr ++ Lib.itoa tk.2.2.2, false), by (try dsimp only); omega, ⟨s3.trans qo1.symm, s8.trans qo2.symm, s9.trans qo3.symm, trivial⟩, s4, s10, hb2, e9, by omega, hcl2⟩
        · refine W.seq ?_
          refine W.region ?_
          refine WL.x (X.eql (s15) lc) rfl ?_
          refine WL.x (X.asg (lh)) rfl ?_
          refine WL.e6 Nx.thn 3 4 8 9 10 26 (lt rfl (lt rfl (s3))) (lt rfl (lt rfl (s4))) (lt rfl (lt rfl (s8))) (lt rfl (lt rfl (s9))) (lt rfl (lt rfl (s10))) (lh) ?_
          intro σ28 s3 s4 s8 s9 s10 s26
          refine W.cndp s26 (fun h4 => ?_) (fun h4 => ?_)
          · have e9 : prF true l = (acc ++ [10]) ++ prF true (l.drop (k + 1)) := hacc.trans (by rw [prF_line h4]; simp)
            have e8 := congrArg List.length e9
            simp only [List.length_append, List.length_cons, List.length_nil] at e8
            refine W.seq ?_
            refine W.region ?_
            refine WL.call2 ce31 (s3) lc (wb_ok w.heap.size w.heap.size acc 10 w4 hb (by omega) hcl.size) rfl ?_
            rintro v5 w12 ⟨hb2, cw⟩
            have hcl2 := hcl.trans cw (H := fun _ => False) (fun _ _ e => e) (fun q hq e => by (try dsimp only at e); omega)
            refine WL.e4 Nx.thn 3 8 9 10 (lt rfl (s3)) (lt rfl (s8)) (lt rfl (s9)) (lt rfl (s10)) ?_
            intro σ29 s3 s8 s9 s10
            refine W.seq ?_
            refine W.region ?_
            refine WL.x (X.asg lc) rfl ?_
            refine WL.e5 Nx.thn 3 4 8 9 10 (lt rfl (s3)) (lh) (lt rfl (s8)) (lt rfl (s9)) (lt rfl (s10)) ?_
            intro σ30 s3 s4 s8 s9 s10
            refine W.exit (Nx.xblk' rfl (Nx.xthn (Nx.xblk Nx.thn))) ?_
            refine W.region ?_
            first | refine WL.x (X.add (s10) lc (by omega) (by omega)) rfl ?_ | refine WL.x (X.addw (s10) lc) rfl ?_
            refine WL.x (X.mv (lh)) rfl ?_
            refine WL.e5 Nx.thn 3 4 8 9 10 (lt rfl (lt rfl (s3))) (lt rfl (lt rfl (s4))) (lt rfl (lt rfl (s8))) (lt rfl (lt rfl (s9))) (lh) ?_
            intro σ31 s3 s4 s8 s9 s10
            refine ⟨(k + 1, acc ++ [10], true), by (try dsimp only); omega, ⟨s3.trans qo1.symm, s8.trans qo2.symm, s9.trans qo3.symm, trivial⟩, s4, s10, hb2, e9, by omega, hcl2⟩
          · have e9 : prF true l = acc ++ prF fr (l.drop (k + 1)) := hacc.trans (by rw [prF_skip (by omega)])
            refine W.exit (Nx.xblk' rfl (Nx.xthn (Nx.xblk Nx.thn))) ?_
            refine W.region ?_
            first | refine WL.x (X.add (s10) lc (by omega) (by omega)) rfl ?_ | refine WL.x (X.addw (s10) lc) rfl ?_
            refine WL.x (X.mv (lh)) rfl ?_
            refine WL.e5 Nx.thn 3 4 8 9 10 (lt rfl (lt rfl (s3))) (lt rfl (lt rfl (s4))) (lt rfl (lt rfl (s8))) (lt rfl (lt rfl (s9))) (lh) ?_
            intro σ32 s3 s4 s8 s9 s10
            refine ⟨(k + 1, acc, fr), by (try dsimp only); omega, ⟨s3.trans qo1.symm, s8.trans qo2.symm, s9.trans qo3.symm, trivial⟩, s4, s10, hb, e9, by omega, hcl⟩
  · refine W.exit (Nx.xthn (Nx.xthn (Nx.xblk Nx.thn))) ?_
    refine W.seq ?_
    refine W.region ?_
    refine WL.call1 ce33 (s3) (bst_ok w.heap.size w.heap.size acc w2 hb hcl.size) rfl ?_
    rintro _ w13 ⟨rfl, cs⟩
    refine WL.x (X.asg (lh)) rfl ?_
    refine WL.e1 Nx.thn 2 (lh) ?_
    intro σ33 s2
    refine W.ret1 Nx.f1 s2 ?_
    have hke : l.drop k = [] := List.drop_eq_nil_of_le (by omega)
    rw [hke] at hacc
    have hac : prF true l = acc := hacc.trans (by cases fr <;> simp [prF])
    exact ⟨by rw [hac], hcl.trans cs (H := fun _ => False) (fun _ _ e => e) (fun q hq e => by (try dsimp only at e); omega)⟩
end Go.Proofs.YteknclegacbpkaaDoor
