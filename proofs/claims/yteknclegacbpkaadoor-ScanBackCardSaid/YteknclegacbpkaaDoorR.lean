/-
  A part of the walk of the program.
-/
import Derived.Test.YteknclegacbpkaaDoorP
import Derived.Test.YteknclegacbpkaaDoorSh2
set_option linter.unusedVariables false
set_option linter.unusedSimpArgs false
set_option maxRecDepth 100000
namespace Go.Proofs.YteknclegacbpkaaDoor
open Go Go.RowKit Sg

theorem ext_all {s : ByteArray} {e a : Nat} (h : ∀ j, e ≤ j → j < a → bat (sb s) j = 32) : ∀ x ∈ sb (s.extract e a), x = 32 := fun x hx => by
  rw [sub_bs, sb_bs] at hx
  obtain ⟨j, hj, rfl⟩ := List.getElem_of_mem hx
  rw [List.length_take, List.length_drop] at hj
  have h1 := h (e + j) (by omega) (by omega)
  rw [bat_get (by omega)] at h1
  rw [List.getElem_take, List.getElem_drop]
  exact UInt8.toNat_inj.1 h1
theorem dw_nil {p : UInt8 → Bool} : ∀ {l : Bs}, (∀ x ∈ l, p x = true) → l.dropWhile p = []
  | [], _ => rfl
  | c :: r, h => by rw [List.dropWhile_cons, h c (List.mem_cons_self ..), if_pos rfl, dw_nil fun x hx => h x (List.mem_cons_of_mem _ hx)]
theorem trim_nil {l : Bs} (h : ∀ x ∈ l, x = 32) : Lib.trimB l 32 = [] := by
  have h1 : Lib.trimRightB l 32 = [] := by
    unfold Lib.trimRightB
    rw [dw_nil (fun x hx => by rw [h x (List.mem_reverse.1 hx)]; rfl)]; rfl
  unfold Lib.trimB
  rw [h1]; rfl
theorem trim_ok (s : ByteArray) (w : World) (hs : s.size ≤ 9223372036854775807) (h : ∀ x ∈ sb s, x = 32) : Sg.Ret Tryd.prog 18 #[.string s, .string ⟨#[32]⟩] w fun v w' => v = .string ⟨#[]⟩ ∧ Dr w w' := by
  refine Calls.mono (Tryd.strings_Trim_one s 32 (by decide) w hs) ?_
  rintro e w' ⟨rfl, hw⟩
  refine ⟨_, rfl, by rw [show s.data.toList = sb s from rfl, trim_nil h], ?_⟩
  rcases hw with rfl | rfl
  · exact Dr.refl _
  · exact ⟨1, rfl⟩
theorem hp_ok (s : ByteArray) (a k : Nat) (w : World) : Sg.Ret Tryd.prog 17 #[.string (s.extract a s.size), .string (bs (((sb s).drop a).take k))] w fun v w' => v = .bool true ∧ w = w' := by
  refine Calls.mono (Tryd.strings_HasPrefix (s.extract a s.size) (bs (((sb s).drop a).take k)) w) ?_
  rintro e w' ⟨rfl, rfl⟩
  refine ⟨_, rfl, ?_, rfl⟩
  have h1 : (s.extract a s.size).data.toList = (sb s).drop a := by
    show sb (s.extract a s.size) = _
    rw [sub_bs, sb_bs, List.take_of_length_le (by rw [List.length_drop, sb_len]; omega)]
  rw [h1]
  show Value.bool (Lib.hasPrefix ((sb s).drop a) (((sb s).drop a).take k)) = _
  unfold Lib.hasPrefix
  rw [List.isPrefixOf_iff_prefix.2 (List.take_prefix _ _)]
theorem ok_size {s : ByteArray} (h : (scE s).2 = 0) : s.size ≤ 20000 := by
  obtain ⟨l, hl⟩ := scE_ok h
  unfold scanA at hl
  split at hl
  · cases hl
  · rename_i h9; rw [sb_len] at h9; omega
/-- How the tokens from one on lie. -/
def Pl (s : ByteArray) (e i : Nat) : Prop := ((scE s).2 ≠ 0 ∧ scL s = []) ∨ ((scE s).2 = 0 ∧ PlN (sb s) e ((scL s).drop i))
theorem Pl.start (s : ByteArray) : Pl s 0 0 := by
  cases hq : scanA (sb s) with
  | ok l =>
    obtain ⟨k1, k2, _⟩ := scL_ok hq
    refine .inr ⟨by rw [k2], ?_⟩
    rw [k1, List.drop_zero]
    refine scanX_place ?_
    unfold scanA at hq
    split at hq
    · cases hq
    · exact hq
  | error p =>
    obtain ⟨k1, k2, _⟩ := scL_err hq
    refine .inl ⟨fun h => ?_, k1⟩
    obtain ⟨l, hl⟩ := scE_ok h
    rw [hq] at hl; cases hl
theorem Pl.head {s : ByteArray} {e i : Nat} (h : Pl s e i) (hi : i < (scL s).length) : ∃ (kd : Int) (a k : Nat) (nv : Int), (scL s)[i] = (kd, (a : Int), bs (((sb s).drop a).take k), nv) ∧ s.size ≤ 20000 ∧ e ≤ a ∧ 1 ≤ k ∧ a + k ≤ s.size ∧ (∀ j, e ≤ j → j < a → bat (sb s) j = 32) ∧ Pl s (a + k) (i + 1) := by
  rcases h with ⟨_, h⟩ | ⟨h0, h⟩
  · rw [h] at hi; exact absurd hi (by simp)
  · rw [List.drop_eq_getElem_cons hi] at h
    obtain ⟨a, k, h1, h2, h3, h4, h5, h6, h7⟩ := h
    rw [sb_len] at h4
    refine ⟨(scL s)[i].1, a, k, (scL s)[i].2.2.2, ?_, ok_size h0, h2, h3, h4, h6, .inr ⟨h0, h7⟩⟩
    rw [← h1, ← h5]
theorem Pl.fin {s : ByteArray} {e i : Nat} (h : Pl s e i) (hi : (scL s).length ≤ i) (h0 : (scE s).2 = 0) : ∀ j, e ≤ j → j < s.size → bat (sb s) j = 32 := by
  rcases h with ⟨h, _⟩ | ⟨_, h⟩
  · exact absurd h0 h
  · rw [List.drop_eq_nil_of_le hi] at h
    have h : ∀ j, e ≤ j → j < (sb s).length → bat (sb s) j = 32 := h
    rwa [sb_len] at h
theorem tx_size {s : ByteArray} {a k : Nat} (h : a + k ≤ s.size) : (bs (((sb s).drop a).take k)).size = k := by rw [size_bs, List.length_take, List.length_drop, sb_len]; omega
theorem tx_ne {s : ByteArray} {a k : Nat} (h : a + k ≤ s.size) (hk : 1 ≤ k) : ¬ bs (((sb s).drop a).take k) = ⟨#[]⟩ := fun h9 => by
  have := tx_size h
  rw [h9] at this
  have h8 : (⟨#[]⟩ : ByteArray).size = 0 := rfl
  omega

set_option maxHeartbeats 1600000 in
theorem places_ok (s : ByteArray) (w : World) (hER : ER w) :
    Sg.Ret Tryd.prog 7 #[.string s] w fun v w' => v = .bool true ∧ Ch0 w w' := by
  have hlen := scL_small s
  refine enter1 (n := 84) (l := [.string s]) Tryd.func7 rfl rfl rfl rfl ?_
  refine W.g1 0 (v1 := .string s) rfl ?_; intro σ s0
  refine W.seq ?_
  refine W.region ?_
  refine WL.x (X.asg lc) rfl ?_
  refine WL.e1 Nx.thn 0 (lt rfl (s0)) ?_
  intro σ1 s0
  refine W.seq ?_
  refine W.region ?_
  refine WL.x (X.mv (s0)) rfl ?_
  refine WL.call1 ce9 (lh) (scan_fn s w hER) rfl ?_
  rintro v1 w1 ⟨⟨u1, rfl, hown1⟩, c1⟩
  obtain ⟨a1, cc1, rfl⟩ := (hown1.rsl (A := all) ftk_len (fun _ _ => trivial)).len
  refine WL.x (X.mv (lh)) rfl ?_
  refine WL.x (X.ex2_0 (lh)) rfl ?_
  refine WL.x (X.ex2_1 (lt rfl (lh))) rfl ?_
  refine WL.x (X.asg (lt rfl (lh))) rfl ?_
  refine WL.x (X.asg (lt rfl (lh))) rfl ?_
  refine WL.e3 Nx.thn 0 3 4 (lt rfl (lt rfl (lt rfl (lt rfl (lt rfl (lt rfl (lt rfl (s0)))))))) (lt rfl (lh)) (lh) ?_
  intro σ2 s0 s3 s4
  refine W.seq ?_
  refine W.region ?_
  refine WL.x (X.mv (s0)) rfl ?_
  refine WL.call1 ce11 (lh) (rscan_ok s w1) rfl ?_
  rintro v2 w2 ⟨⟨u2, rfl, hown2⟩, c2⟩
  obtain ⟨a2, cc2, rfl⟩ := (hown2.rsl (A := all) ftk_len (fun _ _ => trivial)).len
  refine WL.x (X.mv (lh)) rfl ?_
  refine WL.x (X.ex3_0 (lh)) rfl ?_
  refine WL.x (X.ex3_1 (lt rfl (lh))) rfl ?_
  refine WL.x (X.ex3_2 (lt rfl (lt rfl (lh)))) rfl ?_
  refine WL.x (X.asg (lt rfl (lt rfl (lh)))) rfl ?_
  refine WL.x (X.asg (lt rfl (lt rfl (lh)))) rfl ?_
  refine WL.x (X.asg (lt rfl (lt rfl (lh)))) rfl ?_
  refine WL.e6 Nx.thn 0 3 4 5 6 7 (lt rfl (lt rfl (lt rfl (lt rfl (lt rfl (lt rfl (lt rfl (lt rfl (lt rfl (s0)))))))))) (lt rfl (lt rfl (lt rfl (lt rfl (lt rfl (lt rfl (lt rfl (lt rfl (lt rfl (s3)))))))))) (lt rfl (lt rfl (lt rfl (lt rfl (lt rfl (lt rfl (lt rfl (lt rfl (lt rfl (s4)))))))))) (lt rfl (lt rfl (lh))) (lt rfl (lh)) (lh) ?_
  intro σ3 s0 s3 s4 s5 s6 s7
  refine W.seq ?_
  refine W.seq ?_
  refine W.region ?_
  refine WL.x (X.mv (s4)) rfl ?_
  refine WL.x (X.mv (lt rfl (s6))) rfl ?_
  refine WL.x (X.mv (lt rfl (lt rfl (s7)))) rfl ?_
  refine WL.call3 ce10 (lt rfl (lt rfl (lh))) (lt rfl (lh)) (lh) (is_ok s _ _ w2) rfl ?_
  rintro _ w3 ⟨rfl, c3⟩
  refine WL.x (X.notp (lh)) rfl ?_
  refine WL.x (X.mv (lh)) rfl ?_
  refine WL.yes rfl rfl (lh) (decide_eq_false (by simp)) ?_
  refine WL.x (X.mv (lt rfl (lt rfl (lt rfl (lt rfl (lt rfl (lt rfl (s3)))))))) rfl ?_
  refine WL.yes rfl rfl (lt rfl (lh)) (decide_eq_false (by simp)) ?_
  refine WL.x (X.lenSl Tryd.underlying23 (lh)) rfl ?_
  refine WL.yes rfl rfl (lt rfl (lt rfl (lh))) (decide_eq_false (by simp)) ?_
  refine WL.x (X.mv (lt rfl (lt rfl (lt rfl (lt rfl (lt rfl (lt rfl (lt rfl (lt rfl (s5)))))))))) rfl ?_
  refine WL.yes rfl rfl (lt rfl (lt rfl (lt rfl (lh)))) (decide_eq_false (by simp)) ?_
  refine WL.x (X.lenSl Tryd.underlying23 (lh)) rfl ?_
  refine WL.yes rfl rfl (lt rfl (lt rfl (lt rfl (lt rfl (lh))))) (decide_eq_false (by simp)) ?_
  refine WL.x (X.neq (lt rfl (lt rfl (lh))) (lh)) rfl ?_
  refine WL.x (X.pickF (lt rfl (lt rfl (lt rfl (lt rfl (lt rfl (lh)))))) (decide_eq_false (by simp)) (lh)) rfl ?_
  refine WL.e4 Nx.thn 0 3 7 33 (lt rfl (lt rfl (lt rfl (lt rfl (lt rfl (lt rfl (lt rfl (lt rfl (lt rfl (lt rfl (lt rfl (lt rfl (s0))))))))))))) (lt rfl (lt rfl (lt rfl (lt rfl (lt rfl (lt rfl (lt rfl (lt rfl (lt rfl (lt rfl (lt rfl (lt rfl (s3))))))))))))) (lt rfl (lt rfl (lt rfl (lt rfl (lt rfl (lt rfl (lt rfl (lt rfl (lt rfl (lt rfl (lt rfl (lt rfl (s7))))))))))))) (lh) ?_
  intro σ4 s0 s3 s7 s33
  refine W.cndN s33 (by simp) ?_
  refine W.skip Nx.thn ?_
  refine W.seq ?_
  refine W.region ?_
  refine WL.x (X.asg lc) rfl ?_
  refine WL.e4 Nx.thn 0 3 7 8 (lt rfl (s0)) (lt rfl (s3)) (lt rfl (s7)) (lh) ?_
  intro σ5 s0 s3 s7 s8
  refine W.seq ?_
  refine W.seq ?_
  refine W.region ?_
  refine WL.x (X.mv (s3)) rfl ?_
  refine WL.x (X.lenSl Tryd.underlying23 (lh)) rfl ?_
  refine WL.x (X.mv lc) rfl ?_
  refine WL.e6 Nx.thn 0 7 8 34 35 36 (lt rfl (lt rfl (lt rfl (s0)))) (lt rfl (lt rfl (lt rfl (s7)))) (lt rfl (lt rfl (lt rfl (s8)))) (lt rfl (lt rfl (lh))) (lt rfl (lh)) (lh) ?_
  intro σ6 s0 s7 s8 s34 s35 s36
  refine W.block ?_
  have qo2 := s0
  have qo3 := s7
  have qo4 := s34
  have qo5 := s35
  -- loop 0: kept [0, 7, 34, 35], varied [8, 36]
  refine W.loop (G := Nat × Nat) (fun (i, e) σ' w' => (σ' 0 = σ6 0 ∧ σ' 7 = σ6 7 ∧ σ' 34 = σ6 34 ∧ σ' 35 = σ6 35 ∧ True) ∧ (σ' 8 = .int .i64 (e : Int) ∧ σ' 36 = .int .i64 (i : Int) ∧ Pl s e i ∧ OwnF 4 ftk w' w.heap.size 29 (.slice a1 (scL s).length cc1) (scL s) ∧ Ch0 w w' ∧ i ≤ (scL s).length ∧ ((scE s).2 = 0 → e ≤ s.size))) (fun (i, e) => (scL s).length - i) ((0, 0)) ⟨⟨rfl, rfl, rfl, rfl, trivial⟩, s8, s36, Pl.start s, (hown1.ch0 c2).ch0 c3, (c1.trans0 c2).trans0 c3, by omega, by omega⟩ ?_
  rintro ⟨i, e⟩ σ7 w4 ⟨⟨f0, f7, f34, f35, _⟩, s8, s36, hpl, hown, hcl, hil, hes⟩
  have s0 := f0.trans qo2
  have s7 := f7.trans qo3
  have s34 := f34.trans qo4
  have s35 := f35.trans qo5
  refine W.seq ?_
  refine W.region ?_
  refine WL.x (X.lss (s36) (s35)) rfl ?_
  refine WL.e7 Nx.thn 0 7 8 34 35 36 37 (lt rfl (s0)) (lt rfl (s7)) (lt rfl (s8)) (lt rfl (s34)) (lt rfl (s35)) (lt rfl (s36)) (lh) ?_
  intro σ8 s0 s7 s8 s34 s35 s36 s37
  refine W.seq ?_
  refine W.cndp s37 (fun hlt => ?_) (fun hlt => ?_)
  · obtain ⟨kd, a, k, nv, htv, hsz, hea, hk1, hak, hbl, hnext⟩ := hpl.head (i := i) (by omega)
    have htx := tx_size hak
    obtain ⟨b1, o1, cs1, T1, fr1, rfl, hm1, he1, -, hc1⟩ := (hown.rsl (A := all) ftk_len (fun _ _ => trivial)).get (k := i) (by omega)
    have hc1 := hc1
    rw [show ((scL s)[i]'(by omega)) = (kd, (a : Int), bs (((sb s).drop a).take k), nv) from htv] at hc1
    refine W.skip Nx.thn ?_
    refine W.seq ?_
    refine W.block ?_
    refine W.seq ?_
    refine W.region ?_
    refine WL.x (X.indexAddr Tryd.underlying23 el29 (s34) (s36) (by omega) (by omega)) rfl ?_
    refine WL.x (X.loadS (vs := ftk (kd, (a : Int), bs (((sb s).drop a).take k), nv)) ag29 (lh) hm1 he1 hc1) rfl ?_
    refine WL.alloc el29 rfl ?_
    intro w5 u1
    have ht0 := u1.at_
    have cu8_2 := u1.ch
    have hzo : ∀ k9, slBlk (.slice (some ⟨b1, o1, none⟩) (scL s).length cc1) k9 → ¬ k9 = w4.heap.size := fun k9 hk9 e9 => by have := (hown.lt hk9).2; omega
    have hown := hown.ch0 cu8_2
    have hcl9 := hcl.size
    refine WL.storeS (vs := ftk (kd, (a : Int), bs (((sb s).drop a).take k), nv)) ag29 (lh) (lt rfl (lh)) (List.all_eq_true.2 (ftk_one (kd, (a : Int), bs (((sb s).drop a).take k), nv))) rfl ht0 (by first | decide | (simp; done)) ?_
    intro w6 us
    have htk := show (w6.heap[(_ : Nat)]? = some (Obj.cells #[.int .i64 kd, .int .i64 (a : Int), .string (bs (((sb s).drop a).take k)), .int .i64 nv] 29 (0, 0))) from us.at_
    have cst := us.ch
    have hown := hown.ch cst hzo
    have hcl := (hcl.trans0 cu8_2).trans cst (H := fun _ => False) (fun _ _ e => e) (fun q hq e => by (try dsimp only at e); omega)
    refine WL.e7 Nx.thn 0 7 8 10 34 35 36 (lt rfl (lt rfl (lt rfl (s0)))) (lt rfl (lt rfl (lt rfl (s7)))) (lt rfl (lt rfl (lt rfl (s8)))) (lh) (lt rfl (lt rfl (lt rfl (s34)))) (lt rfl (lt rfl (lt rfl (s35)))) (lt rfl (lt rfl (lt rfl (s36)))) ?_
    intro σ9 s0 s7 s8 s10 s34 s35 s36
    refine W.seq ?_
    refine W.seq ?_
    refine W.draw mo (by kernel_rfl) Nx.thn ?_
    refine WQ.x (fun _ => X.fieldAddr fd29_1 (s10)) rfl ?_
    refine WQ.x (fun _ => X.load pl3 (lh) (by first | assumption | exact cst.at (by assumption) (by intro hne; first | exact hne | ((try dsimp only at hne); omega)) | exact cst.at (cu8_2.at0 (by assumption)) (by intro hne; first | exact hne | ((try dsimp only at hne); omega)) | exact cst.at (cu8_2.at0 (c3.at0 (by assumption))) (by intro hne; first | exact hne | ((try dsimp only at hne); omega)) | exact cst.at (cu8_2.at0 (c3.at0 (c2.at0 (by assumption)))) (by intro hne; first | exact hne | ((try dsimp only at hne); omega)) | exact cst.at (cu8_2.at0 (c3.at0 (c2.at0 (c1.at0 (by assumption))))) (by intro hne; first | exact hne | ((try dsimp only at hne); omega))) (by first | rfl | assumption)) rfl ?_
    refine WQ.x (fun _ => X.mv (lt rfl (lt rfl (s8)))) rfl ?_
    refine WQ.x (fun _ => X.lss (lt rfl (lh)) (lh)) rfl ?_
    refine WQ.x (fun _ => X.mv (lh)) rfl ?_
    refine WQ.yes rfl rfl (lh) (decide_eq_false (by omega)) ?_
    refine WQ.x (fun _ => X.fieldAddr fd29_2 (lt rfl (lt rfl (lt rfl (lt rfl (lt rfl (s10))))))) rfl ?_
    refine WQ.yes rfl rfl (lt rfl (lh)) (decide_eq_false (by omega)) ?_
    refine WQ.x (fun _ => X.load pl9 (lh) (by first | assumption | exact cst.at (by assumption) (by intro hne; first | exact hne | ((try dsimp only at hne); omega)) | exact cst.at (cu8_2.at0 (by assumption)) (by intro hne; first | exact hne | ((try dsimp only at hne); omega)) | exact cst.at (cu8_2.at0 (c3.at0 (by assumption))) (by intro hne; first | exact hne | ((try dsimp only at hne); omega)) | exact cst.at (cu8_2.at0 (c3.at0 (c2.at0 (by assumption)))) (by intro hne; first | exact hne | ((try dsimp only at hne); omega)) | exact cst.at (cu8_2.at0 (c3.at0 (c2.at0 (c1.at0 (by assumption))))) (by intro hne; first | exact hne | ((try dsimp only at hne); omega))) (by first | rfl | assumption)) rfl ?_
    refine WQ.yes rfl rfl (lt rfl (lt rfl (lh))) (decide_eq_false (by omega)) ?_
    refine WQ.x (fun _ => X.eqlS (lh) lc) rfl ?_
    refine WQ.x (fun _ => X.pickF (lt rfl (lt rfl (lt rfl (lh)))) (decide_eq_false (by omega)) (lh)) rfl ?_
    refine WQ.x (fun _ => X.mv (lh)) rfl ?_
    refine WQ.yes rfl rfl (lh) (decide_eq_false (tx_ne hak hk1)) ?_
    refine WQ.x (fun _ => X.mv (lt rfl (lt rfl (lt rfl (lt rfl (lt rfl (lt rfl (lt rfl (lt rfl (lt rfl (lt rfl (s0)))))))))))) rfl ?_
    refine WQ.yes rfl rfl (lt rfl (lh)) (decide_eq_false (tx_ne hak hk1)) ?_
    refine WQ.x (fun _ => X.fieldAddr fd29_1 (lt rfl (lt rfl (lt rfl (lt rfl (lt rfl (lt rfl (lt rfl (lt rfl (lt rfl (lt rfl (lt rfl (s10))))))))))))) rfl ?_
    refine WQ.yes rfl rfl (lt rfl (lt rfl (lh))) (decide_eq_false (tx_ne hak hk1)) ?_
    refine WQ.x (fun _ => X.load pl3 (lh) (by first | assumption | exact cst.at (by assumption) (by intro hne; first | exact hne | ((try dsimp only at hne); omega)) | exact cst.at (cu8_2.at0 (by assumption)) (by intro hne; first | exact hne | ((try dsimp only at hne); omega)) | exact cst.at (cu8_2.at0 (c3.at0 (by assumption))) (by intro hne; first | exact hne | ((try dsimp only at hne); omega)) | exact cst.at (cu8_2.at0 (c3.at0 (c2.at0 (by assumption)))) (by intro hne; first | exact hne | ((try dsimp only at hne); omega)) | exact cst.at (cu8_2.at0 (c3.at0 (c2.at0 (c1.at0 (by assumption))))) (by intro hne; first | exact hne | ((try dsimp only at hne); omega))) (by first | rfl | assumption)) rfl ?_
    refine WQ.yes rfl rfl (lt rfl (lt rfl (lt rfl (lh)))) (decide_eq_false (tx_ne hak hk1)) ?_
    refine WQ.x (fun _ => X.subL Tryd.underlying9 (lt rfl (lt rfl (lh))) (lh) (by omega)) rfl ?_
    refine WQ.yes rfl rfl (lt rfl (lt rfl (lt rfl (lt rfl (lh))))) (decide_eq_false (tx_ne hak hk1)) ?_
    refine WQ.x (fun _ => X.fieldAddr fd29_2 (lt rfl (lt rfl (lt rfl (lt rfl (lt rfl (lt rfl (lt rfl (lt rfl (lt rfl (lt rfl (lt rfl (lt rfl (lt rfl (lt rfl (s10)))))))))))))))) rfl ?_
    refine WQ.yes rfl rfl (lt rfl (lt rfl (lt rfl (lt rfl (lt rfl (lh)))))) (decide_eq_false (tx_ne hak hk1)) ?_
    refine WQ.x (fun _ => X.load pl9 (lh) (by first | assumption | exact cst.at (by assumption) (by intro hne; first | exact hne | ((try dsimp only at hne); omega)) | exact cst.at (cu8_2.at0 (by assumption)) (by intro hne; first | exact hne | ((try dsimp only at hne); omega)) | exact cst.at (cu8_2.at0 (c3.at0 (by assumption))) (by intro hne; first | exact hne | ((try dsimp only at hne); omega)) | exact cst.at (cu8_2.at0 (c3.at0 (c2.at0 (by assumption)))) (by intro hne; first | exact hne | ((try dsimp only at hne); omega)) | exact cst.at (cu8_2.at0 (c3.at0 (c2.at0 (c1.at0 (by assumption))))) (by intro hne; first | exact hne | ((try dsimp only at hne); omega))) (by first | rfl | assumption)) rfl ?_
    refine WQ.yes rfl rfl (lt rfl (lt rfl (lt rfl (lt rfl (lt rfl (lt rfl (lh))))))) (decide_eq_false (tx_ne hak hk1)) ?_
    refine WQ.call2 ce17 (lt rfl (lt rfl (lh))) (lh) (fun m => (Ret.quiet (hp_ok s a k _))) rfl ?_
    refine WQ.yes rfl rfl (lt rfl (lt rfl (lt rfl (lt rfl (lt rfl (lt rfl (lt rfl (lh)))))))) (decide_eq_false (tx_ne hak hk1)) ?_
    refine WQ.x (fun _ => X.not (lh)) rfl ?_
    refine WQ.x (fun _ => X.pickF (lt rfl (lt rfl (lt rfl (lt rfl (lt rfl (lt rfl (lt rfl (lt rfl (lh))))))))) (decide_eq_false (tx_ne hak hk1)) (lh)) rfl ?_
    refine WQ.x (fun _ => X.mv (lh)) rfl ?_
    refine WQ.yes rfl rfl (lh) (rfl) ?_
    refine WQ.x (fun _ => X.mv (lt rfl (lt rfl (lt rfl (lt rfl (lt rfl (lt rfl (lt rfl (lt rfl (lt rfl (lt rfl (lt rfl (lt rfl (lt rfl (lt rfl (lt rfl (lt rfl (lt rfl (lt rfl (lt rfl (lt rfl (s0)))))))))))))))))))))) rfl ?_
    refine WQ.yes rfl rfl (lt rfl (lh)) (rfl) ?_
    refine WQ.x (fun _ => X.mv (lt rfl (lt rfl (lt rfl (lt rfl (lt rfl (lt rfl (lt rfl (lt rfl (lt rfl (lt rfl (lt rfl (lt rfl (lt rfl (lt rfl (lt rfl (lt rfl (lt rfl (lt rfl (lt rfl (lt rfl (lt rfl (s8))))))))))))))))))))))) rfl ?_
    refine WQ.yes rfl rfl (lt rfl (lt rfl (lh))) (rfl) ?_
    refine WQ.x (fun _ => X.fieldAddr fd29_1 (lt rfl (lt rfl (lt rfl (lt rfl (lt rfl (lt rfl (lt rfl (lt rfl (lt rfl (lt rfl (lt rfl (lt rfl (lt rfl (lt rfl (lt rfl (lt rfl (lt rfl (lt rfl (lt rfl (lt rfl (lt rfl (lt rfl (s10)))))))))))))))))))))))) rfl ?_
    refine WQ.yes rfl rfl (lt rfl (lt rfl (lt rfl (lh)))) (rfl) ?_
    refine WQ.x (fun _ => X.load pl3 (lh) (by first | assumption | exact cst.at (by assumption) (by intro hne; first | exact hne | ((try dsimp only at hne); omega)) | exact cst.at (cu8_2.at0 (by assumption)) (by intro hne; first | exact hne | ((try dsimp only at hne); omega)) | exact cst.at (cu8_2.at0 (c3.at0 (by assumption))) (by intro hne; first | exact hne | ((try dsimp only at hne); omega)) | exact cst.at (cu8_2.at0 (c3.at0 (c2.at0 (by assumption)))) (by intro hne; first | exact hne | ((try dsimp only at hne); omega)) | exact cst.at (cu8_2.at0 (c3.at0 (c2.at0 (c1.at0 (by assumption))))) (by intro hne; first | exact hne | ((try dsimp only at hne); omega))) (by first | rfl | assumption)) rfl ?_
    refine WQ.yes rfl rfl (lt rfl (lt rfl (lt rfl (lt rfl (lh))))) (rfl) ?_
    first | refine WQ.x (fun _ => X.subN Tryd.underlying9 (lt rfl (lt rfl (lt rfl (lh)))) (lt rfl (lt rfl (lh))) (lh) (by omega) (by omega)) rfl ?_ | refine WQ.x (fun _ => X.subS Tryd.underlying9 (lt rfl (lt rfl (lt rfl (lh)))) (lt rfl (lt rfl (lh))) (lh) (by omega) (by omega) (by omega)) rfl ?_
    refine WQ.yes rfl rfl (lt rfl (lt rfl (lt rfl (lt rfl (lt rfl (lh)))))) (rfl) ?_
    refine WQ.call2 ce18 (lh) lc (fun m => (Ret.quietD (trim_ok (s.extract e a) _ (by rw [ByteArray.size_extract]; omega) (ext_all hbl)))) rfl ?_
    refine WQ.yes rfl rfl (lt rfl (lt rfl (lt rfl (lt rfl (lt rfl (lt rfl (lh))))))) (rfl) ?_
    refine WQ.x (fun _ => X.neqS (lh) lc) rfl ?_
    refine WQ.x (fun _ => X.pickF (lt rfl (lt rfl (lt rfl (lt rfl (lt rfl (lt rfl (lt rfl (lh)))))))) (rfl) (lh)) rfl ?_
    refine WQ.e7 0 7 10 34 35 36 67 (lt rfl (lt rfl (lt rfl (lt rfl (lt rfl (lt rfl (lt rfl (lt rfl (lt rfl (lt rfl (lt rfl (lt rfl (lt rfl (lt rfl (lt rfl (lt rfl (lt rfl (lt rfl (lt rfl (lt rfl (lt rfl (lt rfl (lt rfl (lt rfl (lt rfl (lt rfl (lt rfl (lt rfl (s0))))))))))))))))))))))))))))) (lt rfl (lt rfl (lt rfl (lt rfl (lt rfl (lt rfl (lt rfl (lt rfl (lt rfl (lt rfl (lt rfl (lt rfl (lt rfl (lt rfl (lt rfl (lt rfl (lt rfl (lt rfl (lt rfl (lt rfl (lt rfl (lt rfl (lt rfl (lt rfl (lt rfl (lt rfl (lt rfl (lt rfl (s7))))))))))))))))))))))))))))) (lt rfl (lt rfl (lt rfl (lt rfl (lt rfl (lt rfl (lt rfl (lt rfl (lt rfl (lt rfl (lt rfl (lt rfl (lt rfl (lt rfl (lt rfl (lt rfl (lt rfl (lt rfl (lt rfl (lt rfl (lt rfl (lt rfl (lt rfl (lt rfl (lt rfl (lt rfl (lt rfl (lt rfl (s10))))))))))))))))))))))))))))) (lt rfl (lt rfl (lt rfl (lt rfl (lt rfl (lt rfl (lt rfl (lt rfl (lt rfl (lt rfl (lt rfl (lt rfl (lt rfl (lt rfl (lt rfl (lt rfl (lt rfl (lt rfl (lt rfl (lt rfl (lt rfl (lt rfl (lt rfl (lt rfl (lt rfl (lt rfl (lt rfl (lt rfl (s34))))))))))))))))))))))))))))) (lt rfl (lt rfl (lt rfl (lt rfl (lt rfl (lt rfl (lt rfl (lt rfl (lt rfl (lt rfl (lt rfl (lt rfl (lt rfl (lt rfl (lt rfl (lt rfl (lt rfl (lt rfl (lt rfl (lt rfl (lt rfl (lt rfl (lt rfl (lt rfl (lt rfl (lt rfl (lt rfl (lt rfl (s35))))))))))))))))))))))))))))) (lt rfl (lt rfl (lt rfl (lt rfl (lt rfl (lt rfl (lt rfl (lt rfl (lt rfl (lt rfl (lt rfl (lt rfl (lt rfl (lt rfl (lt rfl (lt rfl (lt rfl (lt rfl (lt rfl (lt rfl (lt rfl (lt rfl (lt rfl (lt rfl (lt rfl (lt rfl (lt rfl (lt rfl (s36))))))))))))))))))))))))))))) (lh) ?_
    intro σ10 s0 s7 s10 s34 s35 s36 s67
    intro _; refine gdrew ?_; intro w7 hh9 cd9 dr9
    refine W.cndN s67 (by simp) ?_
    refine W.skip Nx.thn ?_
    refine W.region ?_
    refine WL.x (X.fieldAddr fd29_1 (s10)) rfl ?_
    refine WL.x (X.load pl3 (lh) (by first | assumption | exact cd9.at0 (by assumption) | exact cd9.at0 (cst.at (by assumption) (by intro hne; first | exact hne | ((try dsimp only at hne); omega))) | exact cd9.at0 (cst.at (cu8_2.at0 (by assumption)) (by intro hne; first | exact hne | ((try dsimp only at hne); omega))) | exact cd9.at0 (cst.at (cu8_2.at0 (c3.at0 (by assumption))) (by intro hne; first | exact hne | ((try dsimp only at hne); omega))) | exact cd9.at0 (cst.at (cu8_2.at0 (c3.at0 (c2.at0 (by assumption)))) (by intro hne; first | exact hne | ((try dsimp only at hne); omega))) | exact cd9.at0 (cst.at (cu8_2.at0 (c3.at0 (c2.at0 (c1.at0 (by assumption))))) (by intro hne; first | exact hne | ((try dsimp only at hne); omega)))) (by first | rfl | assumption)) rfl ?_
    refine WL.x (X.fieldAddr fd29_2 (lt rfl (lt rfl (s10)))) rfl ?_
    refine WL.x (X.load pl9 (lh) (by first | assumption | exact cd9.at0 (by assumption) | exact cd9.at0 (cst.at (by assumption) (by intro hne; first | exact hne | ((try dsimp only at hne); omega))) | exact cd9.at0 (cst.at (cu8_2.at0 (by assumption)) (by intro hne; first | exact hne | ((try dsimp only at hne); omega))) | exact cd9.at0 (cst.at (cu8_2.at0 (c3.at0 (by assumption))) (by intro hne; first | exact hne | ((try dsimp only at hne); omega))) | exact cd9.at0 (cst.at (cu8_2.at0 (c3.at0 (c2.at0 (by assumption)))) (by intro hne; first | exact hne | ((try dsimp only at hne); omega))) | exact cd9.at0 (cst.at (cu8_2.at0 (c3.at0 (c2.at0 (c1.at0 (by assumption))))) (by intro hne; first | exact hne | ((try dsimp only at hne); omega)))) (by first | rfl | assumption)) rfl ?_
    refine WL.x (X.lenSt Tryd.underlying9 (lh)) rfl ?_
    first | refine WL.x (X.add (lt rfl (lt rfl (lt rfl (lh)))) (lh) (by omega) (by omega)) rfl ?_ | refine WL.x (X.addw (lt rfl (lt rfl (lt rfl (lh)))) (lh)) rfl ?_
    refine WL.x (X.asg (lh)) rfl ?_
    refine WL.e6 (Nx.blk Nx.thn) 0 7 8 34 35 36 (lt rfl (lt rfl (lt rfl (lt rfl (lt rfl (lt rfl (lt rfl (s0)))))))) (lt rfl (lt rfl (lt rfl (lt rfl (lt rfl (lt rfl (lt rfl (s7)))))))) (lh) (lt rfl (lt rfl (lt rfl (lt rfl (lt rfl (lt rfl (lt rfl (s34)))))))) (lt rfl (lt rfl (lt rfl (lt rfl (lt rfl (lt rfl (lt rfl (s35)))))))) (lt rfl (lt rfl (lt rfl (lt rfl (lt rfl (lt rfl (lt rfl (s36)))))))) ?_
    intro σ11 s0 s7 s8 s34 s35 s36
    refine W.region ?_
    first | refine WL.x (X.add (s36) lc (by omega) (by omega)) rfl ?_ | refine WL.x (X.addw (s36) lc) rfl ?_
    refine WL.x (X.mv (lh)) rfl ?_
    refine WL.e6 Nx.thn 0 7 8 34 35 36 (lt rfl (lt rfl (s0))) (lt rfl (lt rfl (s7))) (lt rfl (lt rfl (s8))) (lt rfl (lt rfl (s34))) (lt rfl (lt rfl (s35))) (lh) ?_
    intro σ12 s0 s7 s8 s34 s35 s36
    refine ⟨(i + 1, a + k), by (try dsimp only); omega, ⟨s0.trans qo2.symm, s7.trans qo3.symm, s34.trans qo4.symm, s35.trans qo5.symm, trivial⟩, s8.trans (by rw [htx]; rfl), s36, hnext, hown.ch0 (Dr.ch0 dr9), hcl.trans0 (Dr.ch0 dr9), by omega, fun _ => hak⟩
  · refine W.exit (Nx.xthn (Nx.xthn (Nx.xblk Nx.thn))) ?_
    refine W.seq ?_
    refine W.region ?_
    refine WL.x (X.mv (s7)) rfl ?_
    refine WL.x (X.neq (lh) lc) rfl ?_
    refine WL.x (X.mv (lh)) rfl ?_
    refine WL.splitp (lh) (fun hw => ?_) (fun hw => ?_)
    · refine WL.no rfl rfl (lh) (decide_eq_true hw) rfl ?_
      refine WL.no rfl rfl (lt rfl (lh)) (decide_eq_true hw) rfl ?_
      refine WL.no rfl rfl (lt rfl (lt rfl (lh))) (decide_eq_true hw) rfl ?_
      refine WL.no rfl rfl (lt rfl (lt rfl (lt rfl (lh)))) (decide_eq_true hw) rfl ?_
      refine WL.no rfl rfl (lt rfl (lt rfl (lt rfl (lt rfl (lh))))) (decide_eq_true hw) rfl ?_
      refine WL.x (X.pickT (lt rfl (lt rfl (lt rfl (lt rfl (lt rfl (lh)))))) (decide_eq_true hw) lc) rfl ?_
      refine WL.x (X.asg (lh)) rfl ?_
      refine WL.e1 Nx.thn 2 (lh) ?_
      intro σ13 s2
      refine W.ret1 Nx.f1 s2 ?_
      exact ⟨rfl, hcl⟩
    · refine WL.yes rfl rfl (lh) (decide_eq_false hw) ?_
      refine WL.x (X.mv (lt rfl (lt rfl (lt rfl (s0))))) rfl ?_
      refine WL.yes rfl rfl (lt rfl (lh)) (decide_eq_false hw) ?_
      refine WL.x (X.mv (lt rfl (lt rfl (lt rfl (lt rfl (s8)))))) rfl ?_
      refine WL.yes rfl rfl (lt rfl (lt rfl (lh))) (decide_eq_false hw) ?_
      refine WL.x (X.subL Tryd.underlying9 (lt rfl (lh)) (lh) (by omega)) rfl ?_
      refine WL.yes rfl rfl (lt rfl (lt rfl (lt rfl (lh)))) (decide_eq_false hw) ?_
      refine WL.call2 ce18 (lh) lc (trim_ok (s.extract e s.size) w4 (by rw [ByteArray.size_extract]; have := ok_size (s := s) (by omega); omega) (ext_all (hpl.fin (by omega) (by omega)))) rfl ?_
      rintro _ w8 ⟨rfl, d9⟩
      have cd9 := d9.ch0
      refine WL.yes rfl rfl (lt rfl (lt rfl (lt rfl (lt rfl (lh))))) (decide_eq_false hw) ?_
      refine WL.x (X.eqlS (lh) lc) rfl ?_
      refine WL.x (X.pickF (lt rfl (lt rfl (lt rfl (lt rfl (lt rfl (lh)))))) (decide_eq_false hw) (lh)) rfl ?_
      refine WL.x (X.asg (lh)) rfl ?_
      refine WL.e1 Nx.thn 2 (lh) ?_
      intro σ14 s2
      refine W.ret1 Nx.f1 s2 ?_
      exact ⟨congrArg Value.bool (decide_eq_true rfl), hcl.trans0 d9.ch0⟩
end Go.Proofs.YteknclegacbpkaaDoor
