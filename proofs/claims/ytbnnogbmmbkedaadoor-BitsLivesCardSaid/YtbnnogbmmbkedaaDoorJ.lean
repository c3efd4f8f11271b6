/-
  A part of the walk of the program.
-/
import Derived.Test.YtbnnogbmmbkedaaDoorH
set_option linter.unusedVariables false
set_option linter.unusedSimpArgs false
set_option maxRecDepth 100000
namespace Go.Proofs.YtbnnogbmmbkedaaDoor
open Go Go.RowKit Sg

def rz (g : Bool → Bool → Bool) (ms ms2 : List Bool) (k : Nat) : List Bool := (List.zipWith g ms ms2).take k ++ ms.drop k
theorem rz_len {g : Bool → Bool → Bool} {ms ms2 : List Bool} (h : ms.length = ms2.length) (k : Nat) : (rz g ms ms2 k).length = ms.length := by
  unfold rz; simp [List.length_zipWith]; omega
theorem rz_at {g : Bool → Bool → Bool} {ms ms2 : List Bool} (h : ms.length = ms2.length) {k : Nat} (hk : k < ms.length) : (rz g ms ms2 k).getD k false = ms.getD k false := by
  unfold rz
  have hl : ((List.zipWith g ms ms2).take k).length = k := by simp [List.length_zipWith]; omega
  rw [List.getD_eq_getElem?_getD, List.getD_eq_getElem?_getD, List.getElem?_append_right (by omega), hl]
  simp
theorem rz_next {g : Bool → Bool → Bool} {ms ms2 : List Bool} (h : ms.length = ms2.length) {k : Nat} (hk : k < ms.length) : (rz g ms ms2 k).set k (g (ms.getD k false) (ms2.getD k false)) = rz g ms ms2 (k + 1) := by
  unfold rz
  have hl : ((List.zipWith g ms ms2).take k).length = k := by simp [List.length_zipWith]; omega
  have hz : k < (List.zipWith g ms ms2).length := by simp [List.length_zipWith]; omega
  rw [List.set_append_right _ _ (by omega), hl, Nat.sub_self, List.drop_eq_getElem_cons hk, List.set_cons_zero, List.take_succ_eq_append_getElem hz]
  simp [List.getD_eq_getElem?_getD, List.getElem?_eq_getElem hk, List.getElem?_eq_getElem (show k < ms2.length by omega)]
theorem rz_all {g : Bool → Bool → Bool} {ms ms2 : List Bool} (h : ms.length = ms2.length) : rz g ms ms2 ms.length = List.zipWith g ms ms2 := by
  unfold rz
  rw [List.take_of_length_le (by simp [List.length_zipWith]; omega), List.drop_of_length_le (Nat.le_refl _), List.append_nil]
theorem rz_zero {g : Bool → Bool → Bool} {ms ms2 : List Bool} : rz g ms ms2 0 = ms := by simp [rz]
def chgB (g : Bool → Bool → Bool) (ms ms2 : List Bool) (k : Nat) : Bool := (List.range k).any fun i => decide (g (ms.getD i false) (ms2.getD i false) ≠ ms.getD i false)
theorem chgB_succ (g : Bool → Bool → Bool) (ms ms2 : List Bool) (k : Nat) : chgB g ms ms2 (k + 1) = (chgB g ms ms2 k || decide (g (ms.getD k false) (ms2.getD k false) ≠ ms.getD k false)) := by
  unfold chgB; rw [List.range_succ, List.any_append]; simp
theorem rwor_ok (p pb : Nat) (ms : List Bool) (p2 pb2 : Nat) (ms2 : List Bool) (w : World) (h : IsRef w p pb ms) (h2 : IsRef w p2 pb2 ms2) (hlen : ms.length = ms2.length) (hne : pb ≠ pb2) (hnp : p2 ≠ pb) :
    Sg.Ret Tryd.prog 39 #[.pointer (some ⟨p, 0, none⟩), .pointer (some ⟨p2, 0, none⟩), .bool true] w fun v w' => v = .tuple #[.bool (chgB (fun a b => a || b) ms ms2 ms.length), .int .i64 0] ∧ IsRef w' p pb (List.zipWith (fun a b => a || b) ms ms2) ∧ Ch (fun k => k = pb) w w' := by
  obtain ⟨cap, hcap, hd⟩ := h.hd
  obtain ⟨cs, hb, hg⟩ := h.bd
  have hle := h.le
  obtain ⟨cap2, hcap2, hd2⟩ := h2.hd
  obtain ⟨cs2, hb2, hg2⟩ := h2.bd
  have hle2 := h2.le
  have hpne := h.ne
  refine enter2 (n := 71) (l := [.pointer (some ⟨p, 0, none⟩), .pointer (some ⟨p2, 0, none⟩), .bool true]) Tryd.func39 rfl rfl rfl rfl ?_
  refine W.g3 0 1 2 (v1 := .pointer (some ⟨p, 0, none⟩)) (v2 := .pointer (some ⟨p2, 0, none⟩)) (v3 := .bool true) rfl rfl rfl ?_; intro σ s0 s1 s2
  refine W.seq ?_
  refine W.region ?_
  refine WL.x (X.asg lc) rfl ?_
  refine WL.x (X.asg lc) rfl ?_
  refine WL.e3 Nx.thn 0 1 2 (lt rfl (lt rfl (s0))) (lt rfl (lt rfl (s1))) (lt rfl (lt rfl (s2))) ?_
  intro σ1 s0 s1 s2
  refine W.seq ?_
  refine W.seq ?_
  refine W.region ?_
  refine WL.x (X.mv (s1)) rfl ?_
  refine WL.x (X.eqlN Tryd.underlying38 (lh) lc) rfl ?_
  refine WL.e4 Nx.thn 0 1 2 13 (lt rfl (lt rfl (s0))) (lt rfl (lt rfl (s1))) (lt rfl (lt rfl (s2))) (lh) ?_
  intro σ2 s0 s1 s2 s13
  refine W.cndBF s13 (rfl) ?_
  refine W.skip Nx.thn ?_
  refine W.seq ?_
  refine W.seq ?_
  refine W.draw mo (by kernel_rfl) Nx.thn ?_
  refine WQ.x (fun _ => X.mv (s1)) rfl ?_
  refine WQ.x (fun _ => X.nilck (lh)) rfl ?_
  refine WQ.x (fun _ => X.fieldAddr fd50_0 (lh)) rfl ?_
  refine WQ.x (fun _ => X.load pl48 (lh) (by first | assumption) (by first | rfl | assumption)) rfl ?_
  refine WQ.x (fun _ => X.lenSl Tryd.underlying48 (lh)) rfl ?_
  refine WQ.x (fun _ => X.mv (lt rfl (lt rfl (lt rfl (lt rfl (lt rfl (s0))))))) rfl ?_
  refine WQ.x (fun _ => X.nilck (lh)) rfl ?_
  refine WQ.x (fun _ => X.fieldAddr fd50_0 (lh)) rfl ?_
  refine WQ.x (fun _ => X.load pl48 (lh) (by first | assumption) (by first | rfl | assumption)) rfl ?_
  refine WQ.x (fun _ => X.lenSl Tryd.underlying48 (lh)) rfl ?_
  refine WQ.x (fun _ => X.neq (lt rfl (lt rfl (lt rfl (lt rfl (lt rfl (lh)))))) (lh)) rfl ?_
  refine WQ.e4 0 1 2 24 (lt rfl (lt rfl (lt rfl (lt rfl (lt rfl (lt rfl (lt rfl (lt rfl (lt rfl (lt rfl (lt rfl (s0)))))))))))) (lt rfl (lt rfl (lt rfl (lt rfl (lt rfl (lt rfl (lt rfl (lt rfl (lt rfl (lt rfl (lt rfl (s1)))))))))))) (lt rfl (lt rfl (lt rfl (lt rfl (lt rfl (lt rfl (lt rfl (lt rfl (lt rfl (lt rfl (lt rfl (s2)))))))))))) (lh) ?_
  intro σ3 s0 s1 s2 s24
  intro _; refine gdrew ?_; intro w1 hh3 cd3 dr3
  refine W.cndN s24 (by omega) ?_
  refine W.skip Nx.thn ?_
  refine W.seq ?_
  refine W.region ?_
  refine WL.x (X.asg lc) rfl ?_
  refine WL.e4 Nx.thn 0 1 2 8 (lt rfl (s0)) (lt rfl (s1)) (lt rfl (s2)) (lh) ?_
  intro σ4 s0 s1 s2 s8
  refine W.seq ?_
  refine W.seq ?_
  refine W.region ?_
  refine WL.x (X.mv (s0)) rfl ?_
  refine WL.x (X.nilck (lh)) rfl ?_
  refine WL.x (X.fieldAddr fd50_0 (lh)) rfl ?_
  refine WL.x (X.load pl48 (lh) (by first | assumption | exact cd3.at0 (by assumption)) (by first | rfl | assumption)) rfl ?_
  refine WL.x (X.lenSl Tryd.underlying48 (lh)) rfl ?_
  refine WL.x (X.mv lc) rfl ?_
  refine WL.e7 Nx.thn 0 1 2 8 28 29 30 (lt rfl (lt rfl (lt rfl (lt rfl (lt rfl (lt rfl (s0))))))) (lt rfl (lt rfl (lt rfl (lt rfl (lt rfl (lt rfl (s1))))))) (lt rfl (lt rfl (lt rfl (lt rfl (lt rfl (lt rfl (s2))))))) (lt rfl (lt rfl (lt rfl (lt rfl (lt rfl (lt rfl (s8))))))) (lt rfl (lt rfl (lh))) (lt rfl (lh)) (lh) ?_
  intro σ5 s0 s1 s2 s8 s28 s29 s30
  refine W.block ?_
  have qo1 := s0
  have qo2 := s1
  have qo3 := s2
  have qo4 := s28
  have qo5 := s29
  -- loop 0: kept [0, 1, 2, 28, 29], varied [8, 30]
  refine W.loop (G := Nat) (fun k σ' w' => (σ' 0 = σ5 0 ∧ σ' 1 = σ5 1 ∧ σ' 2 = σ5 2 ∧ σ' 28 = σ5 28 ∧ σ' 29 = σ5 29 ∧ True) ∧ (∃ csk, σ' 30 = .int .i64 (k : Int) ∧ k ≤ ms.length ∧ σ' 8 = .bool (chgB (fun a b => a || b) ms ms2 k) ∧ w'.heap[pb]? = some (.cells csk 4 (0, 0)) ∧ (∀ i, i < ms.length → csk[i]? = some (.bool ((rz (fun a b => a || b) ms ms2 k).getD i false))) ∧ Ch (fun j => j = pb) w w')) (fun k => ms.length - k) (0) ⟨⟨rfl, rfl, rfl, rfl, rfl, trivial⟩, cs, s30, by omega, s8, cd3.at0 hb, (fun i hi => by rw [rz_zero]; exact hg i hi), Ch.weak cd3⟩ ?_
  rintro k σ6 w2 ⟨⟨f0, f1, f2, f28, f29, _⟩, csk, s30, hk, s8, hbk, hgk, hcl⟩
  have s0 := f0.trans qo1
  have s1 := f1.trans qo2
  have s2 := f2.trans qo3
  have s28 := f28.trans qo4
  have s29 := f29.trans qo5
  refine W.seq ?_
  refine W.region ?_
  refine WL.x (X.lss (s30) (s29)) rfl ?_
  refine WL.e8 Nx.thn 0 1 2 8 28 29 30 31 (lt rfl (s0)) (lt rfl (s1)) (lt rfl (s2)) (lt rfl (s8)) (lt rfl (s28)) (lt rfl (s29)) (lt rfl (s30)) (lh) ?_
  intro σ7 s0 s1 s2 s8 s28 s29 s30 s31
  refine W.seq ?_
  refine W.cndp s31 (fun hlt => ?_) (fun hlt => ?_)
  · refine W.skip Nx.thn ?_
    refine W.seq ?_
    refine W.block ?_
    refine W.seq ?_
    refine W.region ?_
    refine WL.x (X.mv (s30)) rfl ?_
    refine WL.x (X.indexAddr Tryd.underlying48 el4 (lt rfl (s28)) (lt rfl (s30)) (by omega) (by omega)) rfl ?_
    refine WL.x (X.load pl4 (lh) hbk (v := .bool (ms.getD k false)) (by rw [show 0 + (k : Int).toNat * 1 = k by omega, hgk k (by omega), rz_at hlen (by omega)])) rfl ?_
    refine WL.x (X.asg (lt rfl (lt rfl (lh)))) rfl ?_
    refine WL.x (X.asg (lt rfl (lh))) rfl ?_
    refine WL.e9 Nx.thn 0 1 2 8 9 10 28 29 30 (lt rfl (lt rfl (lt rfl (lt rfl (lt rfl (s0)))))) (lt rfl (lt rfl (lt rfl (lt rfl (lt rfl (s1)))))) (lt rfl (lt rfl (lt rfl (lt rfl (lt rfl (s2)))))) (lt rfl (lt rfl (lt rfl (lt rfl (lt rfl (s8)))))) (lt rfl (lh)) (lh) (lt rfl (lt rfl (lt rfl (lt rfl (lt rfl (s28)))))) (lt rfl (lt rfl (lt rfl (lt rfl (lt rfl (s29)))))) (lt rfl (lt rfl (lt rfl (lt rfl (lt rfl (s30)))))) ?_
    intro σ8 s0 s1 s2 s8 s9 s10 s28 s29 s30
    refine W.seq ?_
    refine W.region ?_
    refine WL.x (X.mv (s10)) rfl ?_
    refine WL.x (X.mv (lh)) rfl ?_
    refine WL.split (lh) (fun hx => ?_) (fun hx => ?_)
    · refine WL.yes rfl rfl (lh) (hx) ?_
      refine WL.x (X.mv (lt rfl (lt rfl (s1)))) rfl ?_
      refine WL.yes rfl rfl (lt rfl (lh)) (hx) ?_
      refine WL.x (X.nilck (lh)) rfl ?_
      refine WL.yes rfl rfl (lt rfl (lt rfl (lh))) (hx) ?_
      refine WL.x (X.fieldAddr fd50_0 (lh)) rfl ?_
      refine WL.yes rfl rfl (lt rfl (lt rfl (lt rfl (lh)))) (hx) ?_
      refine WL.x (X.load pl48 (lh) (by first | assumption | exact hcl.at (by assumption) (by intro hne; first | exact hne | ((try dsimp only at hne); omega)) | exact hcl.at (cd3.at0 (by assumption)) (by intro hne; first | exact hne | ((try dsimp only at hne); omega))) (by first | rfl | assumption)) rfl ?_
      refine WL.yes rfl rfl (lt rfl (lt rfl (lt rfl (lt rfl (lh))))) (hx) ?_
      refine WL.x (X.mv (lt rfl (lt rfl (lt rfl (lt rfl (lt rfl (lt rfl (s9)))))))) rfl ?_
      refine WL.yes rfl rfl (lt rfl (lt rfl (lt rfl (lt rfl (lt rfl (lh)))))) (hx) ?_
      refine WL.x (X.indexAddr Tryd.underlying48 el4 (lt rfl (lh)) (lh) (by omega) (by omega)) rfl ?_
      refine WL.yes rfl rfl (lt rfl (lt rfl (lt rfl (lt rfl (lt rfl (lt rfl (lh))))))) (hx) ?_
      refine WL.x (X.load pl4 (lh) (hcl.at hb2 (fun e => hne e.symm)) (v := .bool (ms2.getD k false)) (by rw [show 0 + (k : Int).toNat * 1 = k by omega]; exact hg2 k (by omega))) rfl ?_
      refine WL.x (X.pickT (lt rfl (lt rfl (lt rfl (lt rfl (lt rfl (lt rfl (lt rfl (lh)))))))) (hx) (lh)) rfl ?_
      refine WL.x (X.asg (lh)) rfl ?_
      refine WL.e10 Nx.thn 0 1 2 8 9 10 11 28 29 30 (lt rfl (lt rfl (lt rfl (lt rfl (lt rfl (lt rfl (lt rfl (lt rfl (lt rfl (lt rfl (lt rfl (s0)))))))))))) (lt rfl (lt rfl (lt rfl (lt rfl (lt rfl (lt rfl (lt rfl (lt rfl (lt rfl (lt rfl (lt rfl (s1)))))))))))) (lt rfl (lt rfl (lt rfl (lt rfl (lt rfl (lt rfl (lt rfl (lt rfl (lt rfl (lt rfl (lt rfl (s2)))))))))))) (lt rfl (lt rfl (lt rfl (lt rfl (lt rfl (lt rfl (lt rfl (lt rfl (lt rfl (lt rfl (lt rfl (s8)))))))))))) (lt rfl (lt rfl (lt rfl (lt rfl (lt rfl (lt rfl (lt rfl (lt rfl (lt rfl (lt rfl (lt rfl (s9)))))))))))) (lt rfl (lt rfl (lt rfl (lt rfl (lt rfl (lt rfl (lt rfl (lt rfl (lt rfl (lt rfl (lt rfl (s10)))))))))))) (lh) (lt rfl (lt rfl (lt rfl (lt rfl (lt rfl (lt rfl (lt rfl (lt rfl (lt rfl (lt rfl (lt rfl (s28)))))))))))) (lt rfl (lt rfl (lt rfl (lt rfl (lt rfl (lt rfl (lt rfl (lt rfl (lt rfl (lt rfl (lt rfl (s29)))))))))))) (lt rfl (lt rfl (lt rfl (lt rfl (lt rfl (lt rfl (lt rfl (lt rfl (lt rfl (lt rfl (lt rfl (s30)))))))))))) ?_
      intro σ9 s0 s1 s2 s8 s9 s10 s11 s28 s29 s30
      refine W.seq ?_
      refine W.seq ?_
      refine W.region ?_
      refine WL.x (X.mv (s2)) rfl ?_
      refine WL.e11 Nx.thn 0 1 2 8 9 10 11 28 29 30 45 (lt rfl (s0)) (lt rfl (s1)) (lt rfl (s2)) (lt rfl (s8)) (lt rfl (s9)) (lt rfl (s10)) (lt rfl (s11)) (lt rfl (s28)) (lt rfl (s29)) (lt rfl (s30)) (lh) ?_
      intro σ10 s0 s1 s2 s8 s9 s10 s11 s28 s29 s30 s45
      refine W.cndT s45 ?_
      refine W.region ?_
      refine WL.x (X.mv (s10)) rfl ?_
      refine WL.x (X.mv (lh)) rfl ?_
      refine WL.split (lh) (fun hx2 => ?_) (fun hx2 => ?_)
      · refine WL.no rfl rfl (lh) (hx2) rfl ?_
        refine WL.no rfl rfl (lt rfl (lh)) (hx2) rfl ?_
        refine WL.no rfl rfl (lt rfl (lt rfl (lh))) (hx2) rfl ?_
        refine WL.no rfl rfl (lt rfl (lt rfl (lt rfl (lh)))) (hx2) rfl ?_
        refine WL.no rfl rfl (lt rfl (lt rfl (lt rfl (lt rfl (lh))))) (hx2) rfl ?_
        refine WL.no rfl rfl (lt rfl (lt rfl (lt rfl (lt rfl (lt rfl (lh)))))) (hx2) rfl ?_
        refine WL.no rfl rfl (lt rfl (lt rfl (lt rfl (lt rfl (lt rfl (lt rfl (lh))))))) (hx2) rfl ?_
        refine WL.x (X.pickT (lt rfl (lt rfl (lt rfl (lt rfl (lt rfl (lt rfl (lt rfl (lh)))))))) (hx2) lc) rfl ?_
        refine WL.x (X.asg (lh)) rfl ?_
        refine WL.e10 Nx.thn 0 1 2 8 9 10 11 28 29 30 (lt rfl (lt rfl (lt rfl (lt rfl (lt rfl (lt rfl (lt rfl (lt rfl (lt rfl (lt rfl (lt rfl (s0)))))))))))) (lt rfl (lt rfl (lt rfl (lt rfl (lt rfl (lt rfl (lt rfl (lt rfl (lt rfl (lt rfl (lt rfl (s1)))))))))))) (lt rfl (lt rfl (lt rfl (lt rfl (lt rfl (lt rfl (lt rfl (lt rfl (lt rfl (lt rfl (lt rfl (s2)))))))))))) (lt rfl (lt rfl (lt rfl (lt rfl (lt rfl (lt rfl (lt rfl (lt rfl (lt rfl (lt rfl (lt rfl (s8)))))))))))) (lt rfl (lt rfl (lt rfl (lt rfl (lt rfl (lt rfl (lt rfl (lt rfl (lt rfl (lt rfl (lt rfl (s9)))))))))))) (lt rfl (lt rfl (lt rfl (lt rfl (lt rfl (lt rfl (lt rfl (lt rfl (lt rfl (lt rfl (lt rfl (s10)))))))))))) (lh) (lt rfl (lt rfl (lt rfl (lt rfl (lt rfl (lt rfl (lt rfl (lt rfl (lt rfl (lt rfl (lt rfl (s28)))))))))))) (lt rfl (lt rfl (lt rfl (lt rfl (lt rfl (lt rfl (lt rfl (lt rfl (lt rfl (lt rfl (lt rfl (s29)))))))))))) (lt rfl (lt rfl (lt rfl (lt rfl (lt rfl (lt rfl (lt rfl (lt rfl (lt rfl (lt rfl (lt rfl (s30)))))))))))) ?_
        intro σ11 s0 s1 s2 s8 s9 s10 s11 s28 s29 s30
        refine W.seq ?_
        refine W.region ?_
        refine WL.x (X.mv (s8)) rfl ?_
        refine WL.x (X.mv (lh)) rfl ?_
        refine WL.split (lh) (fun hc => ?_) (fun hc => ?_)
        · refine WL.no rfl rfl (lh) (hc) rfl ?_
          refine WL.no rfl rfl (lt rfl (lh)) (hc) rfl ?_
          refine WL.no rfl rfl (lt rfl (lt rfl (lh))) (hc) rfl ?_
          refine WL.x (X.pickT (lt rfl (lt rfl (lt rfl (lh)))) (hc) lc) rfl ?_
          refine WL.x (X.asg (lh)) rfl ?_
          refine WL.e9 Nx.thn 0 1 2 8 9 11 28 29 30 (lt rfl (lt rfl (lt rfl (lt rfl (lt rfl (lt rfl (lt rfl (s0)))))))) (lt rfl (lt rfl (lt rfl (lt rfl (lt rfl (lt rfl (lt rfl (s1)))))))) (lt rfl (lt rfl (lt rfl (lt rfl (lt rfl (lt rfl (lt rfl (s2)))))))) (lh) (lt rfl (lt rfl (lt rfl (lt rfl (lt rfl (lt rfl (lt rfl (s9)))))))) (lt rfl (lt rfl (lt rfl (lt rfl (lt rfl (lt rfl (lt rfl (s11)))))))) (lt rfl (lt rfl (lt rfl (lt rfl (lt rfl (lt rfl (lt rfl (s28)))))))) (lt rfl (lt rfl (lt rfl (lt rfl (lt rfl (lt rfl (lt rfl (s29)))))))) (lt rfl (lt rfl (lt rfl (lt rfl (lt rfl (lt rfl (lt rfl (s30)))))))) ?_
          intro σ12 s0 s1 s2 s8 s9 s11 s28 s29 s30
          refine W.region ?_
          refine WL.x (X.mv (s0)) rfl ?_
          refine WL.x (X.nilck (lh)) rfl ?_
          refine WL.x (X.fieldAddr fd50_0 (lh)) rfl ?_
          refine WL.x (X.load pl48 (lh) (by first | assumption | exact hcl.at (by assumption) (by intro hne; first | exact hne | ((try dsimp only at hne); omega)) | exact hcl.at (cd3.at0 (by assumption)) (by intro hne; first | exact hne | ((try dsimp only at hne); omega))) (by first | rfl | assumption)) rfl ?_
          refine WL.x (X.mv (lt rfl (lt rfl (lt rfl (lt rfl (s9)))))) rfl ?_
          refine WL.x (X.mv (lt rfl (lt rfl (lt rfl (lt rfl (lt rfl (s11))))))) rfl ?_
          refine WL.x (X.indexAddr Tryd.underlying48 el4 (lt rfl (lt rfl (lh))) (lt rfl (lh)) (by omega) (by omega)) rfl ?_
          refine WL.store el4 (lh) (lt rfl (lh)) rfl hbk (by have := (Array.getElem?_eq_some_iff.1 (hgk k (by omega))).1; omega) ?_
          intro w3 us; have cs1 := us.ch
          have hb1 : w3.heap[pb]? = some (Obj.cells (csk.setIfInBounds k (.bool ((fun a b => a || b) (ms.getD k false) (ms2.getD k false)))) 4 (0, 0)) := by
            rw [us.at_, show 0 + (k : Int).toNat * 1 = k by omega]
            first | (rw [hx] at hx2; exact absurd hx2 (by decide)) | (simp only [hx]; generalize ms2.getD k false = z; cases z <;> rfl)
          refine WL.e7 (Nx.blk Nx.thn) 0 1 2 8 28 29 30 (lt rfl (lt rfl (lt rfl (lt rfl (lt rfl (lt rfl (lt rfl (s0)))))))) (lt rfl (lt rfl (lt rfl (lt rfl (lt rfl (lt rfl (lt rfl (s1)))))))) (lt rfl (lt rfl (lt rfl (lt rfl (lt rfl (lt rfl (lt rfl (s2)))))))) (lt rfl (lt rfl (lt rfl (lt rfl (lt rfl (lt rfl (lt rfl (s8)))))))) (lt rfl (lt rfl (lt rfl (lt rfl (lt rfl (lt rfl (lt rfl (s28)))))))) (lt rfl (lt rfl (lt rfl (lt rfl (lt rfl (lt rfl (lt rfl (s29)))))))) (lt rfl (lt rfl (lt rfl (lt rfl (lt rfl (lt rfl (lt rfl (s30)))))))) ?_
          intro σ13 s0 s1 s2 s8 s28 s29 s30
          refine W.region ?_
          first | refine WL.x (X.add (s30) lc (by omega) (by omega)) rfl ?_ | refine WL.x (X.addw (s30) lc) rfl ?_
          refine WL.x (X.mv (lh)) rfl ?_
          refine WL.e7 Nx.thn 0 1 2 8 28 29 30 (lt rfl (lt rfl (s0))) (lt rfl (lt rfl (s1))) (lt rfl (lt rfl (s2))) (lt rfl (lt rfl (s8))) (lt rfl (lt rfl (s28))) (lt rfl (lt rfl (s29))) (lh) ?_
          intro σ14 s0 s1 s2 s8 s28 s29 s30
          have hgn : ∀ i, i < ms.length → (csk.setIfInBounds k (.bool ((fun a b => a || b) (ms.getD k false) (ms2.getD k false))))[i]? = some (.bool ((rz (fun a b => a || b) ms ms2 (k + 1)).getD i false)) := fun i hi => by
            have hsz : k < csk.size := (Array.getElem?_eq_some_iff.1 (hgk k (by omega))).1
            rw [← rz_next hlen (by omega), Array.getElem?_setIfInBounds]
            by_cases e : k = i
            · subst e
              rw [if_pos rfl, if_pos hsz]
              simp [List.getD_eq_getElem?_getD, rz_len hlen, hi]
            · rw [if_neg e, hgk i hi]
              simp [List.getD_eq_getElem?_getD, List.getElem?_set, e]
          refine ⟨k + 1, by omega, ⟨s0.trans qo1.symm, s1.trans qo2.symm, s2.trans qo3.symm, s28.trans qo4.symm, s29.trans qo5.symm, trivial⟩, _, s30, by omega, s8.trans (congrArg Value.bool (by rw [chgB_succ]; first | (rw [hx] at hx2; exact absurd hx2 (by decide)) | (simp only [hx, hc]; generalize ms2.getD k false = z; cases z <;> rfl))), hb1, hgn, hcl.trans cs1 (fun _ _ => id) (fun _ _ => id)⟩
        · refine WL.yes rfl rfl (lh) (hc) ?_
          refine WL.x (X.mv (lt rfl (lt rfl (s10)))) rfl ?_
          refine WL.yes rfl rfl (lt rfl (lh)) (hc) ?_
          refine WL.x (X.mv (lt rfl (lt rfl (lt rfl (s11))))) rfl ?_
          refine WL.yes rfl rfl (lt rfl (lt rfl (lh))) (hc) ?_
          refine WL.x (X.neqB Tryd.underlying4 (lt rfl (lh)) (lh)) rfl ?_
          refine WL.x (X.pickF (lt rfl (lt rfl (lt rfl (lh)))) (hc) (lh)) rfl ?_
          refine WL.x (X.asg (lh)) rfl ?_
          refine WL.e9 Nx.thn 0 1 2 8 9 11 28 29 30 (lt rfl (lt rfl (lt rfl (lt rfl (lt rfl (lt rfl (lt rfl (s0)))))))) (lt rfl (lt rfl (lt rfl (lt rfl (lt rfl (lt rfl (lt rfl (s1)))))))) (lt rfl (lt rfl (lt rfl (lt rfl (lt rfl (lt rfl (lt rfl (s2)))))))) (lh) (lt rfl (lt rfl (lt rfl (lt rfl (lt rfl (lt rfl (lt rfl (s9)))))))) (lt rfl (lt rfl (lt rfl (lt rfl (lt rfl (lt rfl (lt rfl (s11)))))))) (lt rfl (lt rfl (lt rfl (lt rfl (lt rfl (lt rfl (lt rfl (s28)))))))) (lt rfl (lt rfl (lt rfl (lt rfl (lt rfl (lt rfl (lt rfl (s29)))))))) (lt rfl (lt rfl (lt rfl (lt rfl (lt rfl (lt rfl (lt rfl (s30)))))))) ?_
          intro σ15 s0 s1 s2 s8 s9 s11 s28 s29 s30
          refine W.region ?_
          refine WL.x (X.mv (s0)) rfl ?_
          refine WL.x (X.nilck (lh)) rfl ?_
          refine WL.x (X.fieldAddr fd50_0 (lh)) rfl ?_
          refine WL.x (X.load pl48 (lh) (by first | assumption | exact hcl.at (by assumption) (by intro hne; first | exact hne | ((try dsimp only at hne); omega)) | exact hcl.at (cd3.at0 (by assumption)) (by intro hne; first | exact hne | ((try dsimp only at hne); omega))) (by first | rfl | assumption)) rfl ?_
          refine WL.x (X.mv (lt rfl (lt rfl (lt rfl (lt rfl (s9)))))) rfl ?_
          refine WL.x (X.mv (lt rfl (lt rfl (lt rfl (lt rfl (lt rfl (s11))))))) rfl ?_
          refine WL.x (X.indexAddr Tryd.underlying48 el4 (lt rfl (lt rfl (lh))) (lt rfl (lh)) (by omega) (by omega)) rfl ?_
          refine WL.store el4 (lh) (lt rfl (lh)) rfl hbk (by have := (Array.getElem?_eq_some_iff.1 (hgk k (by omega))).1; omega) ?_
          intro w4 us; have cs1 := us.ch
          have hb1 : w4.heap[pb]? = some (Obj.cells (csk.setIfInBounds k (.bool ((fun a b => a || b) (ms.getD k false) (ms2.getD k false)))) 4 (0, 0)) := by
            rw [us.at_, show 0 + (k : Int).toNat * 1 = k by omega]
            first | (rw [hx] at hx2; exact absurd hx2 (by decide)) | (simp only [hx]; generalize ms2.getD k false = z; cases z <;> rfl)
          refine WL.e7 (Nx.blk Nx.thn) 0 1 2 8 28 29 30 (lt rfl (lt rfl (lt rfl (lt rfl (lt rfl (lt rfl (lt rfl (s0)))))))) (lt rfl (lt rfl (lt rfl (lt rfl (lt rfl (lt rfl (lt rfl (s1)))))))) (lt rfl (lt rfl (lt rfl (lt rfl (lt rfl (lt rfl (lt rfl (s2)))))))) (lt rfl (lt rfl (lt rfl (lt rfl (lt rfl (lt rfl (lt rfl (s8)))))))) (lt rfl (lt rfl (lt rfl (lt rfl (lt rfl (lt rfl (lt rfl (s28)))))))) (lt rfl (lt rfl (lt rfl (lt rfl (lt rfl (lt rfl (lt rfl (s29)))))))) (lt rfl (lt rfl (lt rfl (lt rfl (lt rfl (lt rfl (lt rfl (s30)))))))) ?_
          intro σ16 s0 s1 s2 s8 s28 s29 s30
          refine W.region ?_
          first | refine WL.x (X.add (s30) lc (by omega) (by omega)) rfl ?_ | refine WL.x (X.addw (s30) lc) rfl ?_
          refine WL.x (X.mv (lh)) rfl ?_
          refine WL.e7 Nx.thn 0 1 2 8 28 29 30 (lt rfl (lt rfl (s0))) (lt rfl (lt rfl (s1))) (lt rfl (lt rfl (s2))) (lt rfl (lt rfl (s8))) (lt rfl (lt rfl (s28))) (lt rfl (lt rfl (s29))) (lh) ?_
          intro σ17 s0 s1 s2 s8 s28 s29 s30
          have hgn : ∀ i, i < ms.length → (csk.setIfInBounds k (.bool ((fun a b => a || b) (ms.getD k false) (ms2.getD k false))))[i]? = some (.bool ((rz (fun a b => a || b) ms ms2 (k + 1)).getD i false)) := fun i hi => by
            have hsz : k < csk.size := (Array.getElem?_eq_some_iff.1 (hgk k (by omega))).1
            rw [← rz_next hlen (by omega), Array.getElem?_setIfInBounds]
            by_cases e : k = i
            · subst e
              rw [if_pos rfl, if_pos hsz]
              simp [List.getD_eq_getElem?_getD, rz_len hlen, hi]
            · rw [if_neg e, hgk i hi]
              simp [List.getD_eq_getElem?_getD, List.getElem?_set, e]
          refine ⟨k + 1, by omega, ⟨s0.trans qo1.symm, s1.trans qo2.symm, s2.trans qo3.symm, s28.trans qo4.symm, s29.trans qo5.symm, trivial⟩, _, s30, by omega, s8.trans (congrArg Value.bool (by rw [chgB_succ]; first | (rw [hx] at hx2; exact absurd hx2 (by decide)) | (simp only [hx, hc]; generalize ms2.getD k false = z; cases z <;> rfl))), hb1, hgn, hcl.trans cs1 (fun _ _ => id) (fun _ _ => id)⟩
      · refine WL.yes rfl rfl (lh) (hx2) ?_
        refine WL.x (X.mv (lt rfl (lt rfl (s1)))) rfl ?_
        refine WL.yes rfl rfl (lt rfl (lh)) (hx2) ?_
        refine WL.x (X.nilck (lh)) rfl ?_
        refine WL.yes rfl rfl (lt rfl (lt rfl (lh))) (hx2) ?_
        refine WL.x (X.fieldAddr fd50_0 (lh)) rfl ?_
        refine WL.yes rfl rfl (lt rfl (lt rfl (lt rfl (lh)))) (hx2) ?_
        refine WL.x (X.load pl48 (lh) (by first | assumption | exact hcl.at (by assumption) (by intro hne; first | exact hne | ((try dsimp only at hne); omega)) | exact hcl.at (cd3.at0 (by assumption)) (by intro hne; first | exact hne | ((try dsimp only at hne); omega))) (by first | rfl | assumption)) rfl ?_
        refine WL.yes rfl rfl (lt rfl (lt rfl (lt rfl (lt rfl (lh))))) (hx2) ?_
        refine WL.x (X.mv (lt rfl (lt rfl (lt rfl (lt rfl (lt rfl (lt rfl (s9)))))))) rfl ?_
        refine WL.yes rfl rfl (lt rfl (lt rfl (lt rfl (lt rfl (lt rfl (lh)))))) (hx2) ?_
        refine WL.x (X.indexAddr Tryd.underlying48 el4 (lt rfl (lh)) (lh) (by omega) (by omega)) rfl ?_
        refine WL.yes rfl rfl (lt rfl (lt rfl (lt rfl (lt rfl (lt rfl (lt rfl (lh))))))) (hx2) ?_
        refine WL.x (X.load pl4 (lh) (hcl.at hb2 (fun e => hne e.symm)) (v := .bool (ms2.getD k false)) (by rw [show 0 + (k : Int).toNat * 1 = k by omega]; exact hg2 k (by omega))) rfl ?_
        refine WL.x (X.pickF (lt rfl (lt rfl (lt rfl (lt rfl (lt rfl (lt rfl (lt rfl (lh)))))))) (hx2) (lh)) rfl ?_
        refine WL.x (X.asg (lh)) rfl ?_
        refine WL.e10 Nx.thn 0 1 2 8 9 10 11 28 29 30 (lt rfl (lt rfl (lt rfl (lt rfl (lt rfl (lt rfl (lt rfl (lt rfl (lt rfl (lt rfl (lt rfl (s0)))))))))))) (lt rfl (lt rfl (lt rfl (lt rfl (lt rfl (lt rfl (lt rfl (lt rfl (lt rfl (lt rfl (lt rfl (s1)))))))))))) (lt rfl (lt rfl (lt rfl (lt rfl (lt rfl (lt rfl (lt rfl (lt rfl (lt rfl (lt rfl (lt rfl (s2)))))))))))) (lt rfl (lt rfl (lt rfl (lt rfl (lt rfl (lt rfl (lt rfl (lt rfl (lt rfl (lt rfl (lt rfl (s8)))))))))))) (lt rfl (lt rfl (lt rfl (lt rfl (lt rfl (lt rfl (lt rfl (lt rfl (lt rfl (lt rfl (lt rfl (s9)))))))))))) (lt rfl (lt rfl (lt rfl (lt rfl (lt rfl (lt rfl (lt rfl (lt rfl (lt rfl (lt rfl (lt rfl (s10)))))))))))) (lh) (lt rfl (lt rfl (lt rfl (lt rfl (lt rfl (lt rfl (lt rfl (lt rfl (lt rfl (lt rfl (lt rfl (s28)))))))))))) (lt rfl (lt rfl (lt rfl (lt rfl (lt rfl (lt rfl (lt rfl (lt rfl (lt rfl (lt rfl (lt rfl (s29)))))))))))) (lt rfl (lt rfl (lt rfl (lt rfl (lt rfl (lt rfl (lt rfl (lt rfl (lt rfl (lt rfl (lt rfl (s30)))))))))))) ?_
        intro σ18 s0 s1 s2 s8 s9 s10 s11 s28 s29 s30
        refine W.seq ?_
        refine W.region ?_
        refine WL.x (X.mv (s8)) rfl ?_
        refine WL.x (X.mv (lh)) rfl ?_
        refine WL.split (lh) (fun hc => ?_) (fun hc => ?_)
        · refine WL.no rfl rfl (lh) (hc) rfl ?_
          refine WL.no rfl rfl (lt rfl (lh)) (hc) rfl ?_
          refine WL.no rfl rfl (lt rfl (lt rfl (lh))) (hc) rfl ?_
          refine WL.x (X.pickT (lt rfl (lt rfl (lt rfl (lh)))) (hc) lc) rfl ?_
          refine WL.x (X.asg (lh)) rfl ?_
          refine WL.e9 Nx.thn 0 1 2 8 9 11 28 29 30 (lt rfl (lt rfl (lt rfl (lt rfl (lt rfl (lt rfl (lt rfl (s0)))))))) (lt rfl (lt rfl (lt rfl (lt rfl (lt rfl (lt rfl (lt rfl (s1)))))))) (lt rfl (lt rfl (lt rfl (lt rfl (lt rfl (lt rfl (lt rfl (s2)))))))) (lh) (lt rfl (lt rfl (lt rfl (lt rfl (lt rfl (lt rfl (lt rfl (s9)))))))) (lt rfl (lt rfl (lt rfl (lt rfl (lt rfl (lt rfl (lt rfl (s11)))))))) (lt rfl (lt rfl (lt rfl (lt rfl (lt rfl (lt rfl (lt rfl (s28)))))))) (lt rfl (lt rfl (lt rfl (lt rfl (lt rfl (lt rfl (lt rfl (s29)))))))) (lt rfl (lt rfl (lt rfl (lt rfl (lt rfl (lt rfl (lt rfl (s30)))))))) ?_
          intro σ19 s0 s1 s2 s8 s9 s11 s28 s29 s30
          refine W.region ?_
          refine WL.x (X.mv (s0)) rfl ?_
          refine WL.x (X.nilck (lh)) rfl ?_
          refine WL.x (X.fieldAddr fd50_0 (lh)) rfl ?_
          refine WL.x (X.load pl48 (lh) (by first | assumption | exact hcl.at (by assumption) (by intro hne; first | exact hne | ((try dsimp only at hne); omega)) | exact hcl.at (cd3.at0 (by assumption)) (by intro hne; first | exact hne | ((try dsimp only at hne); omega))) (by first | rfl | assumption)) rfl ?_
          refine WL.x (X.mv (lt rfl (lt rfl (lt rfl (lt rfl (s9)))))) rfl ?_
          refine WL.x (X.mv (lt rfl (lt rfl (lt rfl (lt rfl (lt rfl (s11))))))) rfl ?_
          refine WL.x (X.indexAddr Tryd.underlying48 el4 (lt rfl (lt rfl (lh))) (lt rfl (lh)) (by omega) (by omega)) rfl ?_
          refine WL.store el4 (lh) (lt rfl (lh)) rfl hbk (by have := (Array.getElem?_eq_some_iff.1 (hgk k (by omega))).1; omega) ?_
          intro w5 us; have cs1 := us.ch
          have hb1 : w5.heap[pb]? = some (Obj.cells (csk.setIfInBounds k (.bool ((fun a b => a || b) (ms.getD k false) (ms2.getD k false)))) 4 (0, 0)) := by
            rw [us.at_, show 0 + (k : Int).toNat * 1 = k by omega]
            first | (rw [hx] at hx2; exact absurd hx2 (by decide)) | (simp only [hx]; generalize ms2.getD k false = z; cases z <;> rfl)
          refine WL.e7 (Nx.blk Nx.thn) 0 1 2 8 28 29 30 (lt rfl (lt rfl (lt rfl (lt rfl (lt rfl (lt rfl (lt rfl (s0)))))))) (lt rfl (lt rfl (lt rfl (lt rfl (lt rfl (lt rfl (lt rfl (s1)))))))) (lt rfl (lt rfl (lt rfl (lt rfl (lt rfl (lt rfl (lt rfl (s2)))))))) (lt rfl (lt rfl (lt rfl (lt rfl (lt rfl (lt rfl (lt rfl (s8)))))))) (lt rfl (lt rfl (lt rfl (lt rfl (lt rfl (lt rfl (lt rfl (s28)))))))) (lt rfl (lt rfl (lt rfl (lt rfl (lt rfl (lt rfl (lt rfl (s29)))))))) (lt rfl (lt rfl (lt rfl (lt rfl (lt rfl (lt rfl (lt rfl (s30)))))))) ?_
          intro σ20 s0 s1 s2 s8 s28 s29 s30
          refine W.region ?_
          first | refine WL.x (X.add (s30) lc (by omega) (by omega)) rfl ?_ | refine WL.x (X.addw (s30) lc) rfl ?_
          refine WL.x (X.mv (lh)) rfl ?_
          refine WL.e7 Nx.thn 0 1 2 8 28 29 30 (lt rfl (lt rfl (s0))) (lt rfl (lt rfl (s1))) (lt rfl (lt rfl (s2))) (lt rfl (lt rfl (s8))) (lt rfl (lt rfl (s28))) (lt rfl (lt rfl (s29))) (lh) ?_
          intro σ21 s0 s1 s2 s8 s28 s29 s30
          have hgn : ∀ i, i < ms.length → (csk.setIfInBounds k (.bool ((fun a b => a || b) (ms.getD k false) (ms2.getD k false))))[i]? = some (.bool ((rz (fun a b => a || b) ms ms2 (k + 1)).getD i false)) := fun i hi => by
            have hsz : k < csk.size := (Array.getElem?_eq_some_iff.1 (hgk k (by omega))).1
            rw [← rz_next hlen (by omega), Array.getElem?_setIfInBounds]
            by_cases e : k = i
            · subst e
              rw [if_pos rfl, if_pos hsz]
              simp [List.getD_eq_getElem?_getD, rz_len hlen, hi]
            · rw [if_neg e, hgk i hi]
              simp [List.getD_eq_getElem?_getD, List.getElem?_set, e]
          refine ⟨k + 1, by omega, ⟨s0.trans qo1.symm, s1.trans qo2.symm, s2.trans qo3.symm, s28.trans qo4.symm, s29.trans qo5.symm, trivial⟩, _, s30, by omega, s8.trans (congrArg Value.bool (by rw [chgB_succ]; first | (rw [hx] at hx2; exact absurd hx2 (by decide)) | (simp only [hx, hc]; generalize ms2.getD k false = z; cases z <;> rfl))), hb1, hgn, hcl.trans cs1 (fun _ _ => id) (fun _ _ => id)⟩
        · refine WL.yes rfl rfl (lh) (hc) ?_
          refine WL.x (X.mv (lt rfl (lt rfl (s10)))) rfl ?_
          refine WL.yes rfl rfl (lt rfl (lh)) (hc) ?_
          refine WL.x (X.mv (lt rfl (lt rfl (lt rfl (s11))))) rfl ?_
          refine WL.yes rfl rfl (lt rfl (lt rfl (lh))) (hc) ?_
          refine WL.x (X.neqB Tryd.underlying4 (lt rfl (lh)) (lh)) rfl ?_
          refine WL.x (X.pickF (lt rfl (lt rfl (lt rfl (lh)))) (hc) (lh)) rfl ?_
          refine WL.x (X.asg (lh)) rfl ?_
          refine WL.e9 Nx.thn 0 1 2 8 9 11 28 29 30 (lt rfl (lt rfl (lt rfl (lt rfl (lt rfl (lt rfl (lt rfl (s0)))))))) (lt rfl (lt rfl (lt rfl (lt rfl (lt rfl (lt rfl (lt rfl (s1)))))))) (lt rfl (lt rfl (lt rfl (lt rfl (lt rfl (lt rfl (lt rfl (s2)))))))) (lh) (lt rfl (lt rfl (lt rfl (lt rfl (lt rfl (lt rfl (lt rfl (s9)))))))) (lt rfl (lt rfl (lt rfl (lt rfl (lt rfl (lt rfl (lt rfl (s11)))))))) (lt rfl (lt rfl (lt rfl (lt rfl (lt rfl (lt rfl (lt rfl (s28)))))))) (lt rfl (lt rfl (lt rfl (lt rfl (lt rfl (lt rfl (lt rfl (s29)))))))) (lt rfl (lt rfl (lt rfl (lt rfl (lt rfl (lt rfl (lt rfl (s30)))))))) ?_
          intro σ22 s0 s1 s2 s8 s9 s11 s28 s29 s30
          refine W.region ?_
          refine WL.x (X.mv (s0)) rfl ?_
          refine WL.x (X.nilck (lh)) rfl ?_
          refine WL.x (X.fieldAddr fd50_0 (lh)) rfl ?_
          refine WL.x (X.load pl48 (lh) (by first | assumption | exact hcl.at (by assumption) (by intro hne; first | exact hne | ((try dsimp only at hne); omega)) | exact hcl.at (cd3.at0 (by assumption)) (by intro hne; first | exact hne | ((try dsimp only at hne); omega))) (by first | rfl | assumption)) rfl ?_
          refine WL.x (X.mv (lt rfl (lt rfl (lt rfl (lt rfl (s9)))))) rfl ?_
          refine WL.x (X.mv (lt rfl (lt rfl (lt rfl (lt rfl (lt rfl (s11))))))) rfl ?_
          refine WL.x (X.indexAddr Tryd.underlying48 el4 (lt rfl (lt rfl (lh))) (lt rfl (lh)) (by omega) (by omega)) rfl ?_
          refine WL.store el4 (lh) (lt rfl (lh)) rfl hbk (by have := (Array.getElem?_eq_some_iff.1 (hgk k (by omega))).1; omega) ?_
          intro w6 us; have cs1 := us.ch
          have hb1 : w6.heap[pb]? = some (Obj.cells (csk.setIfInBounds k (.bool ((fun a b => a || b) (ms.getD k false) (ms2.getD k false)))) 4 (0, 0)) := by
            rw [us.at_, show 0 + (k : Int).toNat * 1 = k by omega]
            first | (rw [hx] at hx2; exact absurd hx2 (by decide)) | (simp only [hx]; generalize ms2.getD k false = z; cases z <;> rfl)
          refine WL.e7 (Nx.blk Nx.thn) 0 1 2 8 28 29 30 (lt rfl (lt rfl (lt rfl (lt rfl (lt rfl (lt rfl (lt rfl (s0)))))))) (lt rfl (lt rfl (lt rfl (lt rfl (lt rfl (lt rfl (lt rfl (s1)))))))) (lt rfl (lt rfl (lt rfl (lt rfl (lt rfl (lt rfl (lt rfl (s2)))))))) (lt rfl (lt rfl (lt rfl (lt rfl (lt rfl (lt rfl (lt rfl (s8)))))))) (lt rfl (lt rfl (lt rfl (lt rfl (lt rfl (lt rfl (lt rfl (s28)))))))) (lt rfl (lt rfl (lt rfl (lt rfl (lt rfl (lt rfl (lt rfl (s29)))))))) (lt rfl (lt rfl (lt rfl (lt rfl (lt rfl (lt rfl (lt rfl (s30)))))))) ?_
          intro σ23 s0 s1 s2 s8 s28 s29 s30
          refine W.region ?_
          first | refine WL.x (X.add (s30) lc (by omega) (by omega)) rfl ?_ | refine WL.x (X.addw (s30) lc) rfl ?_
          refine WL.x (X.mv (lh)) rfl ?_
          refine WL.e7 Nx.thn 0 1 2 8 28 29 30 (lt rfl (lt rfl (s0))) (lt rfl (lt rfl (s1))) (lt rfl (lt rfl (s2))) (lt rfl (lt rfl (s8))) (lt rfl (lt rfl (s28))) (lt rfl (lt rfl (s29))) (lh) ?_
          intro σ24 s0 s1 s2 s8 s28 s29 s30
          have hgn : ∀ i, i < ms.length → (csk.setIfInBounds k (.bool ((fun a b => a || b) (ms.getD k false) (ms2.getD k false))))[i]? = some (.bool ((rz (fun a b => a || b) ms ms2 (k + 1)).getD i false)) := fun i hi => by
            have hsz : k < csk.size := (Array.getElem?_eq_some_iff.1 (hgk k (by omega))).1
            rw [← rz_next hlen (by omega), Array.getElem?_setIfInBounds]
            by_cases e : k = i
            · subst e
              rw [if_pos rfl, if_pos hsz]
              simp [List.getD_eq_getElem?_getD, rz_len hlen, hi]
            · rw [if_neg e, hgk i hi]
              simp [List.getD_eq_getElem?_getD, List.getElem?_set, e]
          refine ⟨k + 1, by omega, ⟨s0.trans qo1.symm, s1.trans qo2.symm, s2.trans qo3.symm, s28.trans qo4.symm, s29.trans qo5.symm, trivial⟩, _, s30, by omega, s8.trans (congrArg Value.bool (by rw [chgB_succ]; first | (rw [hx] at hx2; exact absurd hx2 (by decide)) | (simp only [hx, hc]; generalize ms2.getD k false = z; cases z <;> rfl))), hb1, hgn, hcl.trans cs1 (fun _ _ => id) (fun _ _ => id)⟩
    · refine WL.no rfl rfl (lh) (hx) rfl ?_
      refine WL.no rfl rfl (lt rfl (lh)) (hx) rfl ?_
      refine WL.no rfl rfl (lt rfl (lt rfl (lh))) (hx) rfl ?_
      refine WL.no rfl rfl (lt rfl (lt rfl (lt rfl (lh)))) (hx) rfl ?_
      refine WL.no rfl rfl (lt rfl (lt rfl (lt rfl (lt rfl (lh))))) (hx) rfl ?_
      refine WL.no rfl rfl (lt rfl (lt rfl (lt rfl (lt rfl (lt rfl (lh)))))) (hx) rfl ?_
      refine WL.no rfl rfl (lt rfl (lt rfl (lt rfl (lt rfl (lt rfl (lt rfl (lh))))))) (hx) rfl ?_
      refine WL.x (X.pickF (lt rfl (lt rfl (lt rfl (lt rfl (lt rfl (lt rfl (lt rfl (lh)))))))) (hx) lc) rfl ?_
      refine WL.x (X.asg (lh)) rfl ?_
      refine WL.e10 Nx.thn 0 1 2 8 9 10 11 28 29 30 (lt rfl (lt rfl (lt rfl (lt rfl (lt rfl (lt rfl (lt rfl (lt rfl (lt rfl (lt rfl (lt rfl (s0)))))))))))) (lt rfl (lt rfl (lt rfl (lt rfl (lt rfl (lt rfl (lt rfl (lt rfl (lt rfl (lt rfl (lt rfl (s1)))))))))))) (lt rfl (lt rfl (lt rfl (lt rfl (lt rfl (lt rfl (lt rfl (lt rfl (lt rfl (lt rfl (lt rfl (s2)))))))))))) (lt rfl (lt rfl (lt rfl (lt rfl (lt rfl (lt rfl (lt rfl (lt rfl (lt rfl (lt rfl (lt rfl (s8)))))))))))) (lt rfl (lt rfl (lt rfl (lt rfl (lt rfl (lt rfl (lt rfl (lt rfl (lt rfl (lt rfl (lt rfl (s9)))))))))))) (lt rfl (lt rfl (lt rfl (lt rfl (lt rfl (lt rfl (lt rfl (lt rfl (lt rfl (lt rfl (lt rfl (s10)))))))))))) (lh) (lt rfl (lt rfl (lt rfl (lt rfl (lt rfl (lt rfl (lt rfl (lt rfl (lt rfl (lt rfl (lt rfl (s28)))))))))))) (lt rfl (lt rfl (lt rfl (lt rfl (lt rfl (lt rfl (lt rfl (lt rfl (lt rfl (lt rfl (lt rfl (s29)))))))))))) (lt rfl (lt rfl (lt rfl (lt rfl (lt rfl (lt rfl (lt rfl (lt rfl (lt rfl (lt rfl (lt rfl (s30)))))))))))) ?_
      intro σ25 s0 s1 s2 s8 s9 s10 s11 s28 s29 s30
      refine W.seq ?_
      refine W.seq ?_
      refine W.region ?_
      refine WL.x (X.mv (s2)) rfl ?_
      refine WL.e11 Nx.thn 0 1 2 8 9 10 11 28 29 30 45 (lt rfl (s0)) (lt rfl (s1)) (lt rfl (s2)) (lt rfl (s8)) (lt rfl (s9)) (lt rfl (s10)) (lt rfl (s11)) (lt rfl (s28)) (lt rfl (s29)) (lt rfl (s30)) (lh) ?_
      intro σ26 s0 s1 s2 s8 s9 s10 s11 s28 s29 s30 s45
      refine W.cndT s45 ?_
      refine W.region ?_
      refine WL.x (X.mv (s10)) rfl ?_
      refine WL.x (X.mv (lh)) rfl ?_
      refine WL.split (lh) (fun hx2 => ?_) (fun hx2 => ?_)
      · refine WL.no rfl rfl (lh) (hx2) rfl ?_
        refine WL.no rfl rfl (lt rfl (lh)) (hx2) rfl ?_
        refine WL.no rfl rfl (lt rfl (lt rfl (lh))) (hx2) rfl ?_
        refine WL.no rfl rfl (lt rfl (lt rfl (lt rfl (lh)))) (hx2) rfl ?_
        refine WL.no rfl rfl (lt rfl (lt rfl (lt rfl (lt rfl (lh))))) (hx2) rfl ?_
        refine WL.no rfl rfl (lt rfl (lt rfl (lt rfl (lt rfl (lt rfl (lh)))))) (hx2) rfl ?_
        refine WL.no rfl rfl (lt rfl (lt rfl (lt rfl (lt rfl (lt rfl (lt rfl (lh))))))) (hx2) rfl ?_
        refine WL.x (X.pickT (lt rfl (lt rfl (lt rfl (lt rfl (lt rfl (lt rfl (lt rfl (lh)))))))) (hx2) lc) rfl ?_
        refine WL.x (X.asg (lh)) rfl ?_
        refine WL.e10 Nx.thn 0 1 2 8 9 10 11 28 29 30 (lt rfl (lt rfl (lt rfl (lt rfl (lt rfl (lt rfl (lt rfl (lt rfl (lt rfl (lt rfl (lt rfl (s0)))))))))))) (lt rfl (lt rfl (lt rfl (lt rfl (lt rfl (lt rfl (lt rfl (lt rfl (lt rfl (lt rfl (lt rfl (s1)))))))))))) (lt rfl (lt rfl (lt rfl (lt rfl (lt rfl (lt rfl (lt rfl (lt rfl (lt rfl (lt rfl (lt rfl (s2)))))))))))) (lt rfl (lt rfl (lt rfl (lt rfl (lt rfl (lt rfl (lt rfl (lt rfl (lt rfl (lt rfl (lt rfl (s8)))))))))))) (lt rfl (lt rfl (lt rfl (lt rfl (lt rfl (lt rfl (lt rfl (lt rfl (lt rfl (lt rfl (lt rfl (s9)))))))))))) (lt rfl (lt rfl (lt rfl (lt rfl (lt rfl (lt rfl (lt rfl (lt rfl (lt rfl (lt rfl (lt rfl (s10)))))))))))) (lh) (lt rfl (lt rfl (lt rfl (lt rfl (lt rfl (lt rfl (lt rfl (lt rfl (lt rfl (lt rfl (lt rfl (s28)))))))))))) (lt rfl (lt rfl (lt rfl (lt rfl (lt rfl (lt rfl (lt rfl (lt rfl (lt rfl (lt rfl (lt rfl (s29)))))))))))) (lt rfl (lt rfl (lt rfl (lt rfl (lt rfl (lt rfl (lt rfl (lt rfl (lt rfl (lt rfl (lt rfl (s30)))))))))))) ?_
        intro σ27 s0 s1 s2 s8 s9 s10 s11 s28 s29 s30
        refine W.seq ?_
        refine W.region ?_
        refine WL.x (X.mv (s8)) rfl ?_
        refine WL.x (X.mv (lh)) rfl ?_
        refine WL.split (lh) (fun hc => ?_) (fun hc => ?_)
        · refine WL.no rfl rfl (lh) (hc) rfl ?_
          refine WL.no rfl rfl (lt rfl (lh)) (hc) rfl ?_
          refine WL.no rfl rfl (lt rfl (lt rfl (lh))) (hc) rfl ?_
          refine WL.x (X.pickT (lt rfl (lt rfl (lt rfl (lh)))) (hc) lc) rfl ?_
          refine WL.x (X.asg (lh)) rfl ?_
          refine WL.e9 Nx.thn 0 1 2 8 9 11 28 29 30 (lt rfl (lt rfl (lt rfl (lt rfl (lt rfl (lt rfl (lt rfl (s0)))))))) (lt rfl (lt rfl (lt rfl (lt rfl (lt rfl (lt rfl (lt rfl (s1)))))))) (lt rfl (lt rfl (lt rfl (lt rfl (lt rfl (lt rfl (lt rfl (s2)))))))) (lh) (lt rfl (lt rfl (lt rfl (lt rfl (lt rfl (lt rfl (lt rfl (s9)))))))) (lt rfl (lt rfl (lt rfl (lt rfl (lt rfl (lt rfl (lt rfl (s11)))))))) (lt rfl (lt rfl (lt rfl (lt rfl (lt rfl (lt rfl (lt rfl (s28)))))))) (lt rfl (lt rfl (lt rfl (lt rfl (lt rfl (lt rfl (lt rfl (s29)))))))) (lt rfl (lt rfl (lt rfl (lt rfl (lt rfl (lt rfl (lt rfl (s30)))))))) ?_
          intro σ28 s0 s1 s2 s8 s9 s11 s28 s29 s30
          refine W.region ?_
          refine WL.x (X.mv (s0)) rfl ?_
          refine WL.x (X.nilck (lh)) rfl ?_
          refine WL.x (X.fieldAddr fd50_0 (lh)) rfl ?_
          refine WL.x (X.load pl48 (lh) (by first | assumption | exact hcl.at (by assumption) (by intro hne; first | exact hne | ((try dsimp only at hne); omega)) | exact hcl.at (cd3.at0 (by assumption)) (by intro hne; first | exact hne | ((try dsimp only at hne); omega))) (by first | rfl | assumption)) rfl ?_
          refine WL.x (X.mv (lt rfl (lt rfl (lt rfl (lt rfl (s9)))))) rfl ?_
          refine WL.x (X.mv (lt rfl (lt rfl (lt rfl (lt rfl (lt rfl (s11))))))) rfl ?_
          refine WL.x (X.indexAddr Tryd.underlying48 el4 (lt rfl (lt rfl (lh))) (lt rfl (lh)) (by omega) (by omega)) rfl ?_
          refine WL.store el4 (lh) (lt rfl (lh)) rfl hbk (by have := (Array.getElem?_eq_some_iff.1 (hgk k (by omega))).1; omega) ?_
          intro w7 us; have cs1 := us.ch
          have hb1 : w7.heap[pb]? = some (Obj.cells (csk.setIfInBounds k (.bool ((fun a b => a || b) (ms.getD k false) (ms2.getD k false)))) 4 (0, 0)) := by
            rw [us.at_, show 0 + (k : Int).toNat * 1 = k by omega]
            first | (rw [hx] at hx2; exact absurd hx2 (by decide)) | (simp only [hx]; generalize ms2.getD k false = z; cases z <;> rfl)
          refine WL.e7 (Nx.blk Nx.thn) 0 1 2 8 28 29 30 (lt rfl (lt rfl (lt rfl (lt rfl (lt rfl (lt rfl (lt rfl (s0)))))))) (lt rfl (lt rfl (lt rfl (lt rfl (lt rfl (lt rfl (lt rfl (s1)))))))) (lt rfl (lt rfl (lt rfl (lt rfl (lt rfl (lt rfl (lt rfl (s2)))))))) (lt rfl (lt rfl (lt rfl (lt rfl (lt rfl (lt rfl (lt rfl (s8)))))))) (lt rfl (lt rfl (lt rfl (lt rfl (lt rfl (lt rfl (lt rfl (s28)))))))) (lt rfl (lt rfl (lt rfl (lt rfl (lt rfl (lt rfl (lt rfl (s29)))))))) (lt rfl (lt rfl (lt rfl (lt rfl (lt rfl (lt rfl (lt rfl (s30)))))))) ?_
          intro σ29 s0 s1 s2 s8 s28 s29 s30
          refine W.region ?_
          first | refine WL.x (X.add (s30) lc (by omega) (by omega)) rfl ?_ | refine WL.x (X.addw (s30) lc) rfl ?_
          refine WL.x (X.mv (lh)) rfl ?_
          refine WL.e7 Nx.thn 0 1 2 8 28 29 30 (lt rfl (lt rfl (s0))) (lt rfl (lt rfl (s1))) (lt rfl (lt rfl (s2))) (lt rfl (lt rfl (s8))) (lt rfl (lt rfl (s28))) (lt rfl (lt rfl (s29))) (lh) ?_
          intro σ30 s0 s1 s2 s8 s28 s29 s30
          have hgn : ∀ i, i < ms.length → (csk.setIfInBounds k (.bool ((fun a b => a || b) (ms.getD k false) (ms2.getD k false))))[i]? = some (.bool ((rz (fun a b => a || b) ms ms2 (k + 1)).getD i false)) := fun i hi => by
            have hsz : k < csk.size := (Array.getElem?_eq_some_iff.1 (hgk k (by omega))).1
            rw [← rz_next hlen (by omega), Array.getElem?_setIfInBounds]
            by_cases e : k = i
            · subst e
              rw [if_pos rfl, if_pos hsz]
              simp [List.getD_eq_getElem?_getD, rz_len hlen, hi]
            · rw [if_neg e, hgk i hi]
              simp [List.getD_eq_getElem?_getD, List.getElem?_set, e]
          refine ⟨k + 1, by omega, ⟨s0.trans qo1.symm, s1.trans qo2.symm, s2.trans qo3.symm, s28.trans qo4.symm, s29.trans qo5.symm, trivial⟩, _, s30, by omega, s8.trans (congrArg Value.bool (by rw [chgB_succ]; first | (rw [hx] at hx2; exact absurd hx2 (by decide)) | (simp only [hx, hc]; generalize ms2.getD k false = z; cases z <;> rfl))), hb1, hgn, hcl.trans cs1 (fun _ _ => id) (fun _ _ => id)⟩
        · refine WL.yes rfl rfl (lh) (hc) ?_
          refine WL.x (X.mv (lt rfl (lt rfl (s10)))) rfl ?_
          refine WL.yes rfl rfl (lt rfl (lh)) (hc) ?_
          refine WL.x (X.mv (lt rfl (lt rfl (lt rfl (s11))))) rfl ?_
          refine WL.yes rfl rfl (lt rfl (lt rfl (lh))) (hc) ?_
          refine WL.x (X.neqB Tryd.underlying4 (lt rfl (lh)) (lh)) rfl ?_
          refine WL.x (X.pickF (lt rfl (lt rfl (lt rfl (lh)))) (hc) (lh)) rfl ?_
          refine WL.x (X.asg (lh)) rfl ?_
          refine WL.e9 Nx.thn 0 1 2 8 9 11 28 29 30 (lt rfl (lt rfl (lt rfl (lt rfl (lt rfl (lt rfl (lt rfl (s0)))))))) (lt rfl (lt rfl (lt rfl (lt rfl (lt rfl (lt rfl (lt rfl (s1)))))))) (lt rfl (lt rfl (lt rfl (lt rfl (lt rfl (lt rfl (lt rfl (s2)))))))) (lh) (lt rfl (lt rfl (lt rfl (lt rfl (lt rfl (lt rfl (lt rfl (s9)))))))) (lt rfl (lt rfl (lt rfl (lt rfl (lt rfl (lt rfl (lt rfl (s11)))))))) (lt rfl (lt rfl (lt rfl (lt rfl (lt rfl (lt rfl (lt rfl (s28)))))))) (lt rfl (lt rfl (lt rfl (lt rfl (lt rfl (lt rfl (lt rfl (s29)))))))) (lt rfl (lt rfl (lt rfl (lt rfl (lt rfl (lt rfl (lt rfl (s30)))))))) ?_
          intro σ31 s0 s1 s2 s8 s9 s11 s28 s29 s30
          refine W.region ?_
          refine WL.x (X.mv (s0)) rfl ?_
          refine WL.x (X.nilck (lh)) rfl ?_
          refine WL.x (X.fieldAddr fd50_0 (lh)) rfl ?_
          refine WL.x (X.load pl48 (lh) (by first | assumption | exact hcl.at (by assumption) (by intro hne; first | exact hne | ((try dsimp only at hne); omega)) | exact hcl.at (cd3.at0 (by assumption)) (by intro hne; first | exact hne | ((try dsimp only at hne); omega))) (by first | rfl | assumption)) rfl ?_
          refine WL.x (X.mv (lt rfl (lt rfl (lt rfl (lt rfl (s9)))))) rfl ?_
          refine WL.x (X.mv (lt rfl (lt rfl (lt rfl (lt rfl (lt rfl (s11))))))) rfl ?_
          refine WL.x (X.indexAddr Tryd.underlying48 el4 (lt rfl (lt rfl (lh))) (lt rfl (lh)) (by omega) (by omega)) rfl ?_
          refine WL.store el4 (lh) (lt rfl (lh)) rfl hbk (by have := (Array.getElem?_eq_some_iff.1 (hgk k (by omega))).1; omega) ?_
          intro w8 us; have cs1 := us.ch
          have hb1 : w8.heap[pb]? = some (Obj.cells (csk.setIfInBounds k (.bool ((fun a b => a || b) (ms.getD k false) (ms2.getD k false)))) 4 (0, 0)) := by
            rw [us.at_, show 0 + (k : Int).toNat * 1 = k by omega]
            first | (rw [hx] at hx2; exact absurd hx2 (by decide)) | (simp only [hx]; generalize ms2.getD k false = z; cases z <;> rfl)
          refine WL.e7 (Nx.blk Nx.thn) 0 1 2 8 28 29 30 (lt rfl (lt rfl (lt rfl (lt rfl (lt rfl (lt rfl (lt rfl (s0)))))))) (lt rfl (lt rfl (lt rfl (lt rfl (lt rfl (lt rfl (lt rfl (s1)))))))) (lt rfl (lt rfl (lt rfl (lt rfl (lt rfl (lt rfl (lt rfl (s2)))))))) (lt rfl (lt rfl (lt rfl (lt rfl (lt rfl (lt rfl (lt rfl (s8)))))))) (lt rfl (lt rfl (lt rfl (lt rfl (lt rfl (lt rfl (lt rfl (s28)))))))) (lt rfl (lt rfl (lt rfl (lt rfl (lt rfl (lt rfl (lt rfl (s29)))))))) (lt rfl (lt rfl (lt rfl (lt rfl (lt rfl (lt rfl (lt rfl (s30)))))))) ?_
          intro σ32 s0 s1 s2 s8 s28 s29 s30
          refine W.region ?_
          first | refine WL.x (X.add (s30) lc (by omega) (by omega)) rfl ?_ | refine WL.x (X.addw (s30) lc) rfl ?_
          refine WL.x (X.mv (lh)) rfl ?_
          refine WL.e7 Nx.thn 0 1 2 8 28 29 30 (lt rfl (lt rfl (s0))) (lt rfl (lt rfl (s1))) (lt rfl (lt rfl (s2))) (lt rfl (lt rfl (s8))) (lt rfl (lt rfl (s28))) (lt rfl (lt rfl (s29))) (lh) ?_
          intro σ33 s0 s1 s2 s8 s28 s29 s30
          have hgn : ∀ i, i < ms.length → (csk.setIfInBounds k (.bool ((fun a b => a || b) (ms.getD k false) (ms2.getD k false))))[i]? = some (.bool ((rz (fun a b => a || b) ms ms2 (k + 1)).getD i false)) := fun i hi => by
            have hsz : k < csk.size := (Array.getElem?_eq_some_iff.1 (hgk k (by omega))).1
            rw [← rz_next hlen (by omega), Array.getElem?_setIfInBounds]
            by_cases e : k = i
            · subst e
              rw [if_pos rfl, if_pos hsz]
              simp [List.getD_eq_getElem?_getD, rz_len hlen, hi]
            · rw [if_neg e, hgk i hi]
              simp [List.getD_eq_getElem?_getD, List.getElem?_set, e]
          refine ⟨k + 1, by omega, ⟨s0.trans qo1.symm, s1.trans qo2.symm, s2.trans qo3.symm, s28.trans qo4.symm, s29.trans qo5.symm, trivial⟩, _, s30, by omega, s8.trans (congrArg Value.bool (by rw [chgB_succ]; first | (rw [hx] at hx2; exact absurd hx2 (by decide)) | (simp only [hx, hc]; generalize ms2.getD k false = z; cases z <;> rfl))), hb1, hgn, hcl.trans cs1 (fun _ _ => id) (fun _ _ => id)⟩
      · refine WL.yes rfl rfl (lh) (hx2) ?_
        refine WL.x (X.mv (lt rfl (lt rfl (s1)))) rfl ?_
        refine WL.yes rfl rfl (lt rfl (lh)) (hx2) ?_
        refine WL.x (X.nilck (lh)) rfl ?_
        refine WL.yes rfl rfl (lt rfl (lt rfl (lh))) (hx2) ?_
        refine WL.x (X.fieldAddr fd50_0 (lh)) rfl ?_
        refine WL.yes rfl rfl (lt rfl (lt rfl (lt rfl (lh)))) (hx2) ?_
        refine WL.x (X.load pl48 (lh) (by first | assumption | exact hcl.at (by assumption) (by intro hne; first | exact hne | ((try dsimp only at hne); omega)) | exact hcl.at (cd3.at0 (by assumption)) (by intro hne; first | exact hne | ((try dsimp only at hne); omega))) (by first | rfl | assumption)) rfl ?_
        refine WL.yes rfl rfl (lt rfl (lt rfl (lt rfl (lt rfl (lh))))) (hx2) ?_
        refine WL.x (X.mv (lt rfl (lt rfl (lt rfl (lt rfl (lt rfl (lt rfl (s9)))))))) rfl ?_
        refine WL.yes rfl rfl (lt rfl (lt rfl (lt rfl (lt rfl (lt rfl (lh)))))) (hx2) ?_
        refine WL.x (X.indexAddr Tryd.underlying48 el4 (lt rfl (lh)) (lh) (by omega) (by omega)) rfl ?_
        refine WL.yes rfl rfl (lt rfl (lt rfl (lt rfl (lt rfl (lt rfl (lt rfl (lh))))))) (hx2) ?_
        refine WL.x (X.load pl4 (lh) (hcl.at hb2 (fun e => hne e.symm)) (v := .bool (ms2.getD k false)) (by rw [show 0 + (k : Int).toNat * 1 = k by omega]; exact hg2 k (by omega))) rfl ?_
        refine WL.x (X.pickF (lt rfl (lt rfl (lt rfl (lt rfl (lt rfl (lt rfl (lt rfl (lh)))))))) (hx2) (lh)) rfl ?_
        refine WL.x (X.asg (lh)) rfl ?_
        refine WL.e10 Nx.thn 0 1 2 8 9 10 11 28 29 30 (lt rfl (lt rfl (lt rfl (lt rfl (lt rfl (lt rfl (lt rfl (lt rfl (lt rfl (lt rfl (lt rfl (s0)))))))))))) (lt rfl (lt rfl (lt rfl (lt rfl (lt rfl (lt rfl (lt rfl (lt rfl (lt rfl (lt rfl (lt rfl (s1)))))))))))) (lt rfl (lt rfl (lt rfl (lt rfl (lt rfl (lt rfl (lt rfl (lt rfl (lt rfl (lt rfl (lt rfl (s2)))))))))))) (lt rfl (lt rfl (lt rfl (lt rfl (lt rfl (lt rfl (lt rfl (lt rfl (lt rfl (lt rfl (lt rfl (s8)))))))))))) (lt rfl (lt rfl (lt rfl (lt rfl (lt rfl (lt rfl (lt rfl (lt rfl (lt rfl (lt rfl (lt rfl (s9)))))))))))) (lt rfl (lt rfl (lt rfl (lt rfl (lt rfl (lt rfl (lt rfl (lt rfl (lt rfl (lt rfl (lt rfl (s10)))))))))))) (lh) (lt rfl (lt rfl (lt rfl (lt rfl (lt rfl (lt rfl (lt rfl (lt rfl (lt rfl (lt rfl (lt rfl (s28)))))))))))) (lt rfl (lt rfl (lt rfl (lt rfl (lt rfl (lt rfl (lt rfl (lt rfl (lt rfl (lt rfl (lt rfl (s29)))))))))))) (lt rfl (lt rfl (lt rfl (lt rfl (lt rfl (lt rfl (lt rfl (lt rfl (lt rfl (lt rfl (lt rfl (s30)))))))))))) ?_
        intro σ34 s0 s1 s2 s8 s9 s10 s11 s28 s29 s30
        refine W.seq ?_
        refine W.region ?_
        refine WL.x (X.mv (s8)) rfl ?_
        refine WL.x (X.mv (lh)) rfl ?_
        refine WL.split (lh) (fun hc => ?_) (fun hc => ?_)
        · refine WL.no rfl rfl (lh) (hc) rfl ?_
          refine WL.no rfl rfl (lt rfl (lh)) (hc) rfl ?_
          refine WL.no rfl rfl (lt rfl (lt rfl (lh))) (hc) rfl ?_
          refine WL.x (X.pickT (lt rfl (lt rfl (lt rfl (lh)))) (hc) lc) rfl ?_
          refine WL.x (X.asg (lh)) rfl ?_
          refine WL.e9 Nx.thn 0 1 2 8 9 11 28 29 30 (lt rfl (lt rfl (lt rfl (lt rfl (lt rfl (lt rfl (lt rfl (s0)))))))) (lt rfl (lt rfl (lt rfl (lt rfl (lt rfl (lt rfl (lt rfl (s1)))))))) (lt rfl (lt rfl (lt rfl (lt rfl (lt rfl (lt rfl (lt rfl (s2)))))))) (lh) (lt rfl (lt rfl (lt rfl (lt rfl (lt rfl (lt rfl (lt rfl (s9)))))))) (lt rfl (lt rfl (lt rfl (lt rfl (lt rfl (lt rfl (lt rfl (s11)))))))) (lt rfl (lt rfl (lt rfl (lt rfl (lt rfl (lt rfl (lt rfl (s28)))))))) (lt rfl (lt rfl (lt rfl (lt rfl (lt rfl (lt rfl (lt rfl (s29)))))))) (lt rfl (lt rfl (lt rfl (lt rfl (lt rfl (lt rfl (lt rfl (s30)))))))) ?_
          intro σ35 s0 s1 s2 s8 s9 s11 s28 s29 s30
          refine W.region ?_
          refine WL.x (X.mv (s0)) rfl ?_
          refine WL.x (X.nilck (lh)) rfl ?_
          refine WL.x (X.fieldAddr fd50_0 (lh)) rfl ?_
          refine WL.x (X.load pl48 (lh) (by first | assumption | exact hcl.at (by assumption) (by intro hne; first | exact hne | ((try dsimp only at hne); omega)) | exact hcl.at (cd3.at0 (by assumption)) (by intro hne; first | exact hne | ((try dsimp only at hne); omega))) (by first | rfl | assumption)) rfl ?_
          refine WL.x (X.mv (lt rfl (lt rfl (lt rfl (lt rfl (s9)))))) rfl ?_
          refine WL.x (X.mv (lt rfl (lt rfl (lt rfl (lt rfl (lt rfl (s11))))))) rfl ?_
          refine WL.x (X.indexAddr Tryd.underlying48 el4 (lt rfl (lt rfl (lh))) (lt rfl (lh)) (by omega) (by omega)) rfl ?_
          refine WL.store el4 (lh) (lt rfl (lh)) rfl hbk (by have := (Array.getElem?_eq_some_iff.1 (hgk k (by omega))).1; omega) ?_
          intro w9 us; have cs1 := us.ch
          have hb1 : w9.heap[pb]? = some (Obj.cells (csk.setIfInBounds k (.bool ((fun a b => a || b) (ms.getD k false) (ms2.getD k false)))) 4 (0, 0)) := by
            rw [us.at_, show 0 + (k : Int).toNat * 1 = k by omega]
            first | (rw [hx] at hx2; exact absurd hx2 (by decide)) | (simp only [hx]; generalize ms2.getD k false = z; cases z <;> rfl)
          refine WL.e7 (Nx.blk Nx.thn) 0 1 2 8 28 29 30 (lt rfl (lt rfl (lt rfl (lt rfl (lt rfl (lt rfl (lt rfl (s0)))))))) (lt rfl (lt rfl (lt rfl (lt rfl (lt rfl (lt rfl (lt rfl (s1)))))))) (lt rfl (lt rfl (lt rfl (lt rfl (lt rfl (lt rfl (lt rfl (s2)))))))) (lt rfl (lt rfl (lt rfl (lt rfl (lt rfl (lt rfl (lt rfl (s8)))))))) (lt rfl (lt rfl (lt rfl (lt rfl (lt rfl (lt rfl (lt rfl (s28)))))))) (lt rfl (lt rfl (lt rfl (lt rfl (lt rfl (lt rfl (lt rfl (s29)))))))) (lt rfl (lt rfl (lt rfl (lt rfl (lt rfl (lt rfl (lt rfl (s30)))))))) ?_
          intro σ36 s0 s1 s2 s8 s28 s29 s30
          refine W.region ?_
          first | refine WL.x (X.add (s30) lc (by omega) (by omega)) rfl ?_ | refine WL.x (X.addw (s30) lc) rfl ?_
          refine WL.x (X.mv (lh)) rfl ?_
          refine WL.e7 Nx.thn 0 1 2 8 28 29 30 (lt rfl (lt rfl (s0))) (lt rfl (lt rfl (s1))) (lt rfl (lt rfl (s2))) (lt rfl (lt rfl (s8))) (lt rfl (lt rfl (s28))) (lt rfl (lt rfl (s29))) (lh) ?_
          intro σ37 s0 s1 s2 s8 s28 s29 s30
          have hgn : ∀ i, i < ms.length → (csk.setIfInBounds k (.bool ((fun a b => a || b) (ms.getD k false) (ms2.getD k false))))[i]? = some (.bool ((rz (fun a b => a || b) ms ms2 (k + 1)).getD i false)) := fun i hi => by
            have hsz : k < csk.size := (Array.getElem?_eq_some_iff.1 (hgk k (by omega))).1
            rw [← rz_next hlen (by omega), Array.getElem?_setIfInBounds]
            by_cases e : k = i
            · subst e
              rw [if_pos rfl, if_pos hsz]
              simp [List.getD_eq_getElem?_getD, rz_len hlen, hi]
            · rw [if_neg e, hgk i hi]
              simp [List.getD_eq_getElem?_getD, List.getElem?_set, e]
          refine ⟨k + 1, by omega, ⟨s0.trans qo1.symm, s1.trans qo2.symm, s2.trans qo3.symm, s28.trans qo4.symm, s29.trans qo5.symm, trivial⟩, _, s30, by omega, s8.trans (congrArg Value.bool (by rw [chgB_succ]; first | (rw [hx] at hx2; exact absurd hx2 (by decide)) | (simp only [hx, hc]; generalize ms2.getD k false = z; cases z <;> rfl))), hb1, hgn, hcl.trans cs1 (fun _ _ => id) (fun _ _ => id)⟩
        · refine WL.yes rfl rfl (lh) (hc) ?_
          refine WL.x (X.mv (lt rfl (lt rfl (s10)))) rfl ?_
          refine WL.yes rfl rfl (lt rfl (lh)) (hc) ?_
          refine WL.x (X.mv (lt rfl (lt rfl (lt rfl (s11))))) rfl ?_
          refine WL.yes rfl rfl (lt rfl (lt rfl (lh))) (hc) ?_
          refine WL.x (X.neqB Tryd.underlying4 (lt rfl (lh)) (lh)) rfl ?_
          refine WL.x (X.pickF (lt rfl (lt rfl (lt rfl (lh)))) (hc) (lh)) rfl ?_
          refine WL.x (X.asg (lh)) rfl ?_
          refine WL.e9 Nx.thn 0 1 2 8 9 11 28 29 30 (lt rfl (lt rfl (lt rfl (lt rfl (lt rfl (lt rfl (lt rfl (s0)))))))) (lt rfl (lt rfl (lt rfl (lt rfl (lt rfl (lt rfl (lt rfl (s1)))))))) (lt rfl (lt rfl (lt rfl (lt rfl (lt rfl (lt rfl (lt rfl (s2)))))))) (lh) (lt rfl (lt rfl (lt rfl (lt rfl (lt rfl (lt rfl (lt rfl (s9)))))))) (lt rfl (lt rfl (lt rfl (lt rfl (lt rfl (lt rfl (lt rfl (s11)))))))) (lt rfl (lt rfl (lt rfl (lt rfl (lt rfl (lt rfl (lt rfl (s28)))))))) (lt rfl (lt rfl (lt rfl (lt rfl (lt rfl (lt rfl (lt rfl (s29)))))))) (lt rfl (lt rfl (lt rfl (lt rfl (lt rfl (lt rfl (lt rfl (s30)))))))) ?_
          intro σ38 s0 s1 s2 s8 s9 s11 s28 s29 s30
          refine W.region ?_
          refine WL.x (X.mv (s0)) rfl ?_
          refine WL.x (X.nilck (lh)) rfl ?_
          refine WL.x (X.fieldAddr fd50_0 (lh)) rfl ?_
          refine WL.x (X.load pl48 (lh) (by first | assumption | exact hcl.at (by assumption) (by intro hne; first | exact hne | ((try dsimp only at hne); omega)) | exact hcl.at (cd3.at0 (by assumption)) (by intro hne; first | exact hne | ((try dsimp only at hne); omega))) (by first | rfl | assumption)) rfl ?_
          refine WL.x (X.mv (lt rfl (lt rfl (lt rfl (lt rfl (s9)))))) rfl ?_
          refine WL.x (X.mv (lt rfl (lt rfl (lt rfl (lt rfl (lt rfl (s11))))))) rfl ?_
          refine WL.x (X.indexAddr Tryd.underlying48 el4 (lt rfl (lt rfl (lh))) (lt rfl (lh)) (by omega) (by omega)) rfl ?_
          refine WL.store el4 (lh) (lt rfl (lh)) rfl hbk (by have := (Array.getElem?_eq_some_iff.1 (hgk k (by omega))).1; omega) ?_
          intro w10 us; have cs1 := us.ch
          have hb1 : w10.heap[pb]? = some (Obj.cells (csk.setIfInBounds k (.bool ((fun a b => a || b) (ms.getD k false) (ms2.getD k false)))) 4 (0, 0)) := by
            rw [us.at_, show 0 + (k : Int).toNat * 1 = k by omega]
            first | (rw [hx] at hx2; exact absurd hx2 (by decide)) | (simp only [hx]; generalize ms2.getD k false = z; cases z <;> rfl)
          refine WL.e7 (Nx.blk Nx.thn) 0 1 2 8 28 29 30 (lt rfl (lt rfl (lt rfl (lt rfl (lt rfl (lt rfl (lt rfl (s0)))))))) (lt rfl (lt rfl (lt rfl (lt rfl (lt rfl (lt rfl (lt rfl (s1)))))))) (lt rfl (lt rfl (lt rfl (lt rfl (lt rfl (lt rfl (lt rfl (s2)))))))) (lt rfl (lt rfl (lt rfl (lt rfl (lt rfl (lt rfl (lt rfl (s8)))))))) (lt rfl (lt rfl (lt rfl (lt rfl (lt rfl (lt rfl (lt rfl (s28)))))))) (lt rfl (lt rfl (lt rfl (lt rfl (lt rfl (lt rfl (lt rfl (s29)))))))) (lt rfl (lt rfl (lt rfl (lt rfl (lt rfl (lt rfl (lt rfl (s30)))))))) ?_
          intro σ39 s0 s1 s2 s8 s28 s29 s30
          refine W.region ?_
          first | refine WL.x (X.add (s30) lc (by omega) (by omega)) rfl ?_ | refine WL.x (X.addw (s30) lc) rfl ?_
          refine WL.x (X.mv (lh)) rfl ?_
          refine WL.e7 Nx.thn 0 1 2 8 28 29 30 (lt rfl (lt rfl (s0))) (lt rfl (lt rfl (s1))) (lt rfl (lt rfl (s2))) (lt rfl (lt rfl (s8))) (lt rfl (lt rfl (s28))) (lt rfl (lt rfl (s29))) (lh) ?_
          intro σ40 s0 s1 s2 s8 s28 s29 s30
          have hgn : ∀ i, i < ms.length → (csk.setIfInBounds k (.bool ((fun a b => a || b) (ms.getD k false) (ms2.getD k false))))[i]? = some (.bool ((rz (fun a b => a || b) ms ms2 (k + 1)).getD i false)) := fun i hi => by
            have hsz : k < csk.size := (Array.getElem?_eq_some_iff.1 (hgk k (by omega))).1
            rw [← rz_next hlen (by omega), Array.getElem?_setIfInBounds]
            by_cases e : k = i
            · subst e
              rw [if_pos rfl, if_pos hsz]
              simp [List.getD_eq_getElem?_getD, rz_len hlen, hi]
            · rw [if_neg e, hgk i hi]
              simp [List.getD_eq_getElem?_getD, List.getElem?_set, e]
          refine ⟨k + 1, by omega, ⟨s0.trans qo1.symm, s1.trans qo2.symm, s2.trans qo3.symm, s28.trans qo4.symm, s29.trans qo5.symm, trivial⟩, _, s30, by omega, s8.trans (congrArg Value.bool (by rw [chgB_succ]; first | (rw [hx] at hx2; exact absurd hx2 (by decide)) | (simp only [hx, hc]; generalize ms2.getD k false = z; cases z <;> rfl))), hb1, hgn, hcl.trans cs1 (fun _ _ => id) (fun _ _ => id)⟩
  · refine W.exit (Nx.xthn (Nx.xthn (Nx.xblk Nx.thn))) ?_
    refine W.seq ?_
    refine W.region ?_
    refine WL.x (X.mv (s8)) rfl ?_
    refine WL.x (X.asg (lh)) rfl ?_
    refine WL.x (X.asg lc) rfl ?_
    refine WL.e2 Nx.thn 6 7 (lt rfl (lh)) (lh) ?_
    intro σ41 s6 s7
    refine W.ret2 Nx.f2 s6 s7 ?_
    have hke : k = ms.length := by omega
    subst hke
    have hzl : (List.zipWith (fun a b => a || b) ms ms2).length = ms.length := by simp; omega
    exact ⟨rfl, ⟨⟨cap, by rw [hzl]; exact hcap, by rw [hzl]; exact hcl.at hd h.ne⟩, ⟨csk, hbk, fun i hi => by rw [hzl] at hi; rw [hgk i hi, rz_all hlen]⟩, by rw [hzl]; exact h.le⟩, hcl⟩
theorem rwor_bounds (p pb : Nat) (ms : List Bool) (p2 pb2 : Nat) (ms2 : List Bool) (w : World) (h : IsRef w p pb ms) (h2 : IsRef w p2 pb2 ms2) (hlen : ms.length ≠ ms2.length) :
    Sg.Ret Tryd.prog 39 #[.pointer (some ⟨p, 0, none⟩), .pointer (some ⟨p2, 0, none⟩), .bool true] w fun v w' => v = .tuple #[.bool false, .int .i64 1] ∧ Dr w w' := by
  obtain ⟨cap, hcap, hd⟩ := h.hd
  obtain ⟨cs, hb, hg⟩ := h.bd
  have hle := h.le
  obtain ⟨cap2, hcap2, hd2⟩ := h2.hd
  obtain ⟨cs2, hb2, hg2⟩ := h2.bd
  have hle2 := h2.le
  have hpne := h.ne
  refine enter2 (n := 71) (l := [.pointer (some ⟨p, 0, none⟩), .pointer (some ⟨p2, 0, none⟩), .bool true]) Tryd.func39 rfl rfl rfl rfl ?_
  refine W.g3 0 1 2 (v1 := .pointer (some ⟨p, 0, none⟩)) (v2 := .pointer (some ⟨p2, 0, none⟩)) (v3 := .bool true) rfl rfl rfl ?_; intro σ s0 s1 s2
  refine W.seq ?_
  refine W.region ?_
  refine WL.x (X.asg lc) rfl ?_
  refine WL.x (X.asg lc) rfl ?_
  refine WL.e3 Nx.thn 0 1 2 (lt rfl (lt rfl (s0))) (lt rfl (lt rfl (s1))) (lt rfl (lt rfl (s2))) ?_
  intro σ1 s0 s1 s2
  refine W.seq ?_
  refine W.seq ?_
  refine W.region ?_
  refine WL.x (X.mv (s1)) rfl ?_
  refine WL.x (X.eqlN Tryd.underlying38 (lh) lc) rfl ?_
  refine WL.e4 Nx.thn 0 1 2 13 (lt rfl (lt rfl (s0))) (lt rfl (lt rfl (s1))) (lt rfl (lt rfl (s2))) (lh) ?_
  intro σ2 s0 s1 s2 s13
  refine W.cndBF s13 (rfl) ?_
  refine W.skip Nx.thn ?_
  refine W.seq ?_
  refine W.seq ?_
  refine W.draw mo (by kernel_rfl) Nx.thn ?_
  refine WQ.x (fun _ => X.mv (s1)) rfl ?_
  refine WQ.x (fun _ => X.nilck (lh)) rfl ?_
  refine WQ.x (fun _ => X.fieldAddr fd50_0 (lh)) rfl ?_
  refine WQ.x (fun _ => X.load pl48 (lh) (by first | assumption) (by first | rfl | assumption)) rfl ?_
  refine WQ.x (fun _ => X.lenSl Tryd.underlying48 (lh)) rfl ?_
  refine WQ.x (fun _ => X.mv (lt rfl (lt rfl (lt rfl (lt rfl (lt rfl (s0))))))) rfl ?_
  refine WQ.x (fun _ => X.nilck (lh)) rfl ?_
  refine WQ.x (fun _ => X.fieldAddr fd50_0 (lh)) rfl ?_
  refine WQ.x (fun _ => X.load pl48 (lh) (by first | assumption) (by first | rfl | assumption)) rfl ?_
  refine WQ.x (fun _ => X.lenSl Tryd.underlying48 (lh)) rfl ?_
  refine WQ.x (fun _ => X.neq (lt rfl (lt rfl (lt rfl (lt rfl (lt rfl (lh)))))) (lh)) rfl ?_
  refine WQ.e4 0 1 2 24 (lt rfl (lt rfl (lt rfl (lt rfl (lt rfl (lt rfl (lt rfl (lt rfl (lt rfl (lt rfl (lt rfl (s0)))))))))))) (lt rfl (lt rfl (lt rfl (lt rfl (lt rfl (lt rfl (lt rfl (lt rfl (lt rfl (lt rfl (lt rfl (s1)))))))))))) (lt rfl (lt rfl (lt rfl (lt rfl (lt rfl (lt rfl (lt rfl (lt rfl (lt rfl (lt rfl (lt rfl (s2)))))))))))) (lh) ?_
  intro σ3 s0 s1 s2 s24
  intro _; refine gdrew ?_; intro w1 hh3 cd3 dr3
  refine W.cndY s24 (by omega) ?_
  refine W.seq ?_
  refine W.region ?_
  refine WL.x (X.asg lc) rfl ?_
  refine WL.x (X.asg lc) rfl ?_
  refine WL.e2 Nx.thn 6 7 (lt rfl (lh)) (lh) ?_
  intro σ4 s6 s7
  refine W.ret2 (Nx.rthn Nx.f2) s6 s7 ?_
  exact ⟨rfl, dr3⟩
theorem rwand_ok (p pb : Nat) (ms : List Bool) (p2 pb2 : Nat) (ms2 : List Bool) (w : World) (h : IsRef w p pb ms) (h2 : IsRef w p2 pb2 ms2) (hlen : ms.length = ms2.length) (hne : pb ≠ pb2) (hnp : p2 ≠ pb) :
    Sg.Ret Tryd.prog 39 #[.pointer (some ⟨p, 0, none⟩), .pointer (some ⟨p2, 0, none⟩), .bool false] w fun v w' => v = .tuple #[.bool (chgB (fun a b => a && b) ms ms2 ms.length), .int .i64 0] ∧ IsRef w' p pb (List.zipWith (fun a b => a && b) ms ms2) ∧ Ch (fun k => k = pb) w w' := by
  obtain ⟨cap, hcap, hd⟩ := h.hd
  obtain ⟨cs, hb, hg⟩ := h.bd
  have hle := h.le
  obtain ⟨cap2, hcap2, hd2⟩ := h2.hd
  obtain ⟨cs2, hb2, hg2⟩ := h2.bd
  have hle2 := h2.le
  have hpne := h.ne
  refine enter2 (n := 71) (l := [.pointer (some ⟨p, 0, none⟩), .pointer (some ⟨p2, 0, none⟩), .bool false]) Tryd.func39 rfl rfl rfl rfl ?_
  refine W.g3 0 1 2 (v1 := .pointer (some ⟨p, 0, none⟩)) (v2 := .pointer (some ⟨p2, 0, none⟩)) (v3 := .bool false) rfl rfl rfl ?_; intro σ s0 s1 s2
  refine W.seq ?_
  refine W.region ?_
  refine WL.x (X.asg lc) rfl ?_
  refine WL.x (X.asg lc) rfl ?_
  refine WL.e3 Nx.thn 0 1 2 (lt rfl (lt rfl (s0))) (lt rfl (lt rfl (s1))) (lt rfl (lt rfl (s2))) ?_
  intro σ1 s0 s1 s2
  refine W.seq ?_
  refine W.seq ?_
  refine W.region ?_
  refine WL.x (X.mv (s1)) rfl ?_
  refine WL.x (X.eqlN Tryd.underlying38 (lh) lc) rfl ?_
  refine WL.e4 Nx.thn 0 1 2 13 (lt rfl (lt rfl (s0))) (lt rfl (lt rfl (s1))) (lt rfl (lt rfl (s2))) (lh) ?_
  intro σ2 s0 s1 s2 s13
  refine W.cndBF s13 (rfl) ?_
  refine W.skip Nx.thn ?_
  refine W.seq ?_
  refine W.seq ?_
  refine W.draw mo (by kernel_rfl) Nx.thn ?_
  refine WQ.x (fun _ => X.mv (s1)) rfl ?_
  refine WQ.x (fun _ => X.nilck (lh)) rfl ?_
  refine WQ.x (fun _ => X.fieldAddr fd50_0 (lh)) rfl ?_
  refine WQ.x (fun _ => X.load pl48 (lh) (by first | assumption) (by first | rfl | assumption)) rfl ?_
  refine WQ.x (fun _ => X.lenSl Tryd.underlying48 (lh)) rfl ?_
  refine WQ.x (fun _ => X.mv (lt rfl (lt rfl (lt rfl (lt rfl (lt rfl (s0))))))) rfl ?_
  refine WQ.x (fun _ => X.nilck (lh)) rfl ?_
  refine WQ.x (fun _ => X.fieldAddr fd50_0 (lh)) rfl ?_
  refine WQ.x (fun _ => X.load pl48 (lh) (by first | assumption) (by first | rfl | assumption)) rfl ?_
  refine WQ.x (fun _ => X.lenSl Tryd.underlying48 (lh)) rfl ?_
  refine WQ.x (fun _ => X.neq (lt rfl (lt rfl (lt rfl (lt rfl (lt rfl (lh)))))) (lh)) rfl ?_
  refine WQ.e4 0 1 2 24 (lt rfl (lt rfl (lt rfl (lt rfl (lt rfl (lt rfl (lt rfl (lt rfl (lt rfl (lt rfl (lt rfl (s0)))))))))))) (lt rfl (lt rfl (lt rfl (lt rfl (lt rfl (lt rfl (lt rfl (lt rfl (lt rfl (lt rfl (lt rfl (s1)))))))))))) (lt rfl (lt rfl (lt rfl (lt rfl (lt rfl (lt rfl (lt rfl (lt rfl (lt rfl (lt rfl (lt rfl (s2)))))))))))) (lh) ?_
  intro σ3 s0 s1 s2 s24
  intro _; refine gdrew ?_; intro w1 hh3 cd3 dr3
  refine W.cndN s24 (by omega) ?_
  refine W.skip Nx.thn ?_
  refine W.seq ?_
  refine W.region ?_
  refine WL.x (X.asg lc) rfl ?_
  refine WL.e4 Nx.thn 0 1 2 8 (lt rfl (s0)) (lt rfl (s1)) (lt rfl (s2)) (lh) ?_
  intro σ4 s0 s1 s2 s8
  refine W.seq ?_
  refine W.seq ?_
  refine W.region ?_
  refine WL.x (X.mv (s0)) rfl ?_
  refine WL.x (X.nilck (lh)) rfl ?_
  refine WL.x (X.fieldAddr fd50_0 (lh)) rfl ?_
  refine WL.x (X.load pl48 (lh) (by first | assumption | exact cd3.at0 (by assumption)) (by first | rfl | assumption)) rfl ?_
  refine WL.x (X.lenSl Tryd.underlying48 (lh)) rfl ?_
  refine WL.x (X.mv lc) rfl ?_
  refine WL.e7 Nx.thn 0 1 2 8 28 29 30 (lt rfl (lt rfl (lt rfl (lt rfl (lt rfl (lt rfl (s0))))))) (lt rfl (lt rfl (lt rfl (lt rfl (lt rfl (lt rfl (s1))))))) (lt rfl (lt rfl (lt rfl (lt rfl (lt rfl (lt rfl (s2))))))) (lt rfl (lt rfl (lt rfl (lt rfl (lt rfl (lt rfl (s8))))))) (lt rfl (lt rfl (lh))) (lt rfl (lh)) (lh) ?_
  intro σ5 s0 s1 s2 s8 s28 s29 s30
  refine W.block ?_
  have qo1 := s0
  have qo2 := s1
  have qo3 := s2
  have qo4 := s28
  have qo5 := s29
  -- loop 0: kept [0, 1, 2, 28, 29], varied [8, 30]
  refine W.loop (G := Nat) (fun k σ' w' => (σ' 0 = σ5 0 ∧ σ' 1 = σ5 1 ∧ σ' 2 = σ5 2 ∧ σ' 28 = σ5 28 ∧ σ' 29 = σ5 29 ∧ True) ∧ (∃ csk, σ' 30 = .int .i64 (k : Int) ∧ k ≤ ms.length ∧ σ' 8 = .bool (chgB (fun a b => a && b) ms ms2 k) ∧ w'.heap[pb]? = some (.cells csk 4 (0, 0)) ∧ (∀ i, i < ms.length → csk[i]? = some (.bool ((rz (fun a b => a && b) ms ms2 k).getD i false))) ∧ Ch (fun j => j = pb) w w')) (fun k => ms.length - k) (0) ⟨⟨rfl, rfl, rfl, rfl, rfl, trivial⟩, cs, s30, by omega, s8, cd3.at0 hb, (fun i hi => by rw [rz_zero]; exact hg i hi), Ch.weak cd3⟩ ?_
  rintro k σ6 w2 ⟨⟨f0, f1, f2, f28, f29, _⟩, csk, s30, hk, s8, hbk, hgk, hcl⟩
  have s0 := f0.trans qo1
  have s1 := f1.trans qo2
  have s2 := f2.trans qo3
  have s28 := f28.trans qo4
  have s29 := f29.trans qo5
  refine W.seq ?_
  refine W.region ?_
  refine WL.x (X.lss (s30) (s29)) rfl ?_
  refine WL.e8 Nx.thn 0 1 2 8 28 29 30 31 (lt rfl (s0)) (lt rfl (s1)) (lt rfl (s2)) (lt rfl (s8)) (lt rfl (s28)) (lt rfl (s29)) (lt rfl (s30)) (lh) ?_
  intro σ7 s0 s1 s2 s8 s28 s29 s30 s31
  refine W.seq ?_
  refine W.cndp s31 (fun hlt => ?_) (fun hlt => ?_)
  · refine W.skip Nx.thn ?_
    refine W.seq ?_
    refine W.block ?_
    refine W.seq ?_
    refine W.region ?_
    refine WL.x (X.mv (s30)) rfl ?_
    refine WL.x (X.indexAddr Tryd.underlying48 el4 (lt rfl (s28)) (lt rfl (s30)) (by omega) (by omega)) rfl ?_
    refine WL.x (X.load pl4 (lh) hbk (v := .bool (ms.getD k false)) (by rw [show 0 + (k : Int).toNat * 1 = k by omega, hgk k (by omega), rz_at hlen (by omega)])) rfl ?_
    refine WL.x (X.asg (lt rfl (lt rfl (lh)))) rfl ?_
    refine WL.x (X.asg (lt rfl (lh))) rfl ?_
    refine WL.e9 Nx.thn 0 1 2 8 9 10 28 29 30 (lt rfl (lt rfl (lt rfl (lt rfl (lt rfl (s0)))))) (lt rfl (lt rfl (lt rfl (lt rfl (lt rfl (s1)))))) (lt rfl (lt rfl (lt rfl (lt rfl (lt rfl (s2)))))) (lt rfl (lt rfl (lt rfl (lt rfl (lt rfl (s8)))))) (lt rfl (lh)) (lh) (lt rfl (lt rfl (lt rfl (lt rfl (lt rfl (s28)))))) (lt rfl (lt rfl (lt rfl (lt rfl (lt rfl (s29)))))) (lt rfl (lt rfl (lt rfl (lt rfl (lt rfl (s30)))))) ?_
    intro σ8 s0 s1 s2 s8 s9 s10 s28 s29 s30
    refine W.seq ?_
    refine W.region ?_
    refine WL.x (X.mv (s10)) rfl ?_
    refine WL.x (X.mv (lh)) rfl ?_
    refine WL.split (lh) (fun hx => ?_) (fun hx => ?_)
    · refine WL.yes rfl rfl (lh) (hx) ?_
      refine WL.x (X.mv (lt rfl (lt rfl (s1)))) rfl ?_
      refine WL.yes rfl rfl (lt rfl (lh)) (hx) ?_
      refine WL.x (X.nilck (lh)) rfl ?_
      refine WL.yes rfl rfl (lt rfl (lt rfl (lh))) (hx) ?_
      refine WL.x (X.fieldAddr fd50_0 (lh)) rfl ?_
      refine WL.yes rfl rfl (lt rfl (lt rfl (lt rfl (lh)))) (hx) ?_
      refine WL.x (X.load pl48 (lh) (by first | assumption | exact hcl.at (by assumption) (by intro hne; first | exact hne | ((try dsimp only at hne); omega)) | exact hcl.at (cd3.at0 (by assumption)) (by intro hne; first | exact hne | ((try dsimp only at hne); omega))) (by first | rfl | assumption)) rfl ?_
      refine WL.yes rfl rfl (lt rfl (lt rfl (lt rfl (lt rfl (lh))))) (hx) ?_
      refine WL.x (X.mv (lt rfl (lt rfl (lt rfl (lt rfl (lt rfl (lt rfl (s9)))))))) rfl ?_
      refine WL.yes rfl rfl (lt rfl (lt rfl (lt rfl (lt rfl (lt rfl (lh)))))) (hx) ?_
      refine WL.x (X.indexAddr Tryd.underlying48 el4 (lt rfl (lh)) (lh) (by omega) (by omega)) rfl ?_
      refine WL.yes rfl rfl (lt rfl (lt rfl (lt rfl (lt rfl (lt rfl (lt rfl (lh))))))) (hx) ?_
      refine WL.x (X.load pl4 (lh) (hcl.at hb2 (fun e => hne e.symm)) (v := .bool (ms2.getD k false)) (by rw [show 0 + (k : Int).toNat * 1 = k by omega]; exact hg2 k (by omega))) rfl ?_
      refine WL.x (X.pickT (lt rfl (lt rfl (lt rfl (lt rfl (lt rfl (lt rfl (lt rfl (lh)))))))) (hx) (lh)) rfl ?_
      refine WL.x (X.asg (lh)) rfl ?_
      refine WL.e10 Nx.thn 0 1 2 8 9 10 11 28 29 30 (lt rfl (lt rfl (lt rfl (lt rfl (lt rfl (lt rfl (lt rfl (lt rfl (lt rfl (lt rfl (lt rfl (s0)))))))))))) (lt rfl (lt rfl (lt rfl (lt rfl (lt rfl (lt rfl (lt rfl (lt rfl (lt rfl (lt rfl (lt rfl (s1)))))))))))) (lt rfl (lt rfl (lt rfl (lt rfl (lt rfl (lt rfl (lt rfl (lt rfl (lt rfl (lt rfl (lt rfl (s2)))))))))))) (lt rfl (lt rfl (lt rfl (lt rfl (lt rfl (lt rfl (lt rfl (lt rfl (lt rfl (lt rfl (lt rfl (s8)))))))))))) (lt rfl (lt rfl (lt rfl (lt rfl (lt rfl (lt rfl (lt rfl (lt rfl (lt rfl (lt rfl (lt rfl (s9)))))))))))) (lt rfl (lt rfl (lt rfl (lt rfl (lt rfl (lt rfl (lt rfl (lt rfl (lt rfl (lt rfl (lt rfl (s10)))))))))))) (lh) (lt rfl (lt rfl (lt rfl (lt rfl (lt rfl (lt rfl (lt rfl (lt rfl (lt rfl (lt rfl (lt rfl (s28)))))))))))) (lt rfl (lt rfl (lt rfl (lt rfl (lt rfl (lt rfl (lt rfl (lt rfl (lt rfl (lt rfl (lt rfl (s29)))))))))))) (lt rfl (lt rfl (lt rfl (lt rfl (lt rfl (lt rfl (lt rfl (lt rfl (lt rfl (lt rfl (lt rfl (s30)))))))))))) ?_
      intro σ9 s0 s1 s2 s8 s9 s10 s11 s28 s29 s30
      refine W.seq ?_
      refine W.seq ?_
      refine W.region ?_
      refine WL.x (X.mv (s2)) rfl ?_
      refine WL.e11 Nx.thn 0 1 2 8 9 10 11 28 29 30 45 (lt rfl (s0)) (lt rfl (s1)) (lt rfl (s2)) (lt rfl (s8)) (lt rfl (s9)) (lt rfl (s10)) (lt rfl (s11)) (lt rfl (s28)) (lt rfl (s29)) (lt rfl (s30)) (lh) ?_
      intro σ10 s0 s1 s2 s8 s9 s10 s11 s28 s29 s30 s45
      refine W.cndF s45 ?_
      refine W.skip Nx.thn ?_
      refine W.seq ?_
      refine W.region ?_
      refine WL.x (X.mv (s8)) rfl ?_
      refine WL.x (X.mv (lh)) rfl ?_
      refine WL.split (lh) (fun hc => ?_) (fun hc => ?_)
      · refine WL.no rfl rfl (lh) (hc) rfl ?_
        refine WL.no rfl rfl (lt rfl (lh)) (hc) rfl ?_
        refine WL.no rfl rfl (lt rfl (lt rfl (lh))) (hc) rfl ?_
        refine WL.x (X.pickT (lt rfl (lt rfl (lt rfl (lh)))) (hc) lc) rfl ?_
        refine WL.x (X.asg (lh)) rfl ?_
        refine WL.e9 Nx.thn 0 1 2 8 9 11 28 29 30 (lt rfl (lt rfl (lt rfl (lt rfl (lt rfl (lt rfl (lt rfl (s0)))))))) (lt rfl (lt rfl (lt rfl (lt rfl (lt rfl (lt rfl (lt rfl (s1)))))))) (lt rfl (lt rfl (lt rfl (lt rfl (lt rfl (lt rfl (lt rfl (s2)))))))) (lh) (lt rfl (lt rfl (lt rfl (lt rfl (lt rfl (lt rfl (lt rfl (s9)))))))) (lt rfl (lt rfl (lt rfl (lt rfl (lt rfl (lt rfl (lt rfl (s11)))))))) (lt rfl (lt rfl (lt rfl (lt rfl (lt rfl (lt rfl (lt rfl (s28)))))))) (lt rfl (lt rfl (lt rfl (lt rfl (lt rfl (lt rfl (lt rfl (s29)))))))) (lt rfl (lt rfl (lt rfl (lt rfl (lt rfl (lt rfl (lt rfl (s30)))))))) ?_
        intro σ11 s0 s1 s2 s8 s9 s11 s28 s29 s30
        refine W.region ?_
        refine WL.x (X.mv (s0)) rfl ?_
        refine WL.x (X.nilck (lh)) rfl ?_
        refine WL.x (X.fieldAddr fd50_0 (lh)) rfl ?_
        refine WL.x (X.load pl48 (lh) (by first | assumption | exact hcl.at (by assumption) (by intro hne; first | exact hne | ((try dsimp only at hne); omega)) | exact hcl.at (cd3.at0 (by assumption)) (by intro hne; first | exact hne | ((try dsimp only at hne); omega))) (by first | rfl | assumption)) rfl ?_
        refine WL.x (X.mv (lt rfl (lt rfl (lt rfl (lt rfl (s9)))))) rfl ?_
        refine WL.x (X.mv (lt rfl (lt rfl (lt rfl (lt rfl (lt rfl (s11))))))) rfl ?_
        refine WL.x (X.indexAddr Tryd.underlying48 el4 (lt rfl (lt rfl (lh))) (lt rfl (lh)) (by omega) (by omega)) rfl ?_
        refine WL.store el4 (lh) (lt rfl (lh)) rfl hbk (by have := (Array.getElem?_eq_some_iff.1 (hgk k (by omega))).1; omega) ?_
        intro w3 us; have cs1 := us.ch
        have hb1 : w3.heap[pb]? = some (Obj.cells (csk.setIfInBounds k (.bool ((fun a b => a && b) (ms.getD k false) (ms2.getD k false)))) 4 (0, 0)) := by
          rw [us.at_, show 0 + (k : Int).toNat * 1 = k by omega]
          first | (rw [hx] at hx2; exact absurd hx2 (by decide)) | (simp only [hx]; generalize ms2.getD k false = z; cases z <;> rfl)
        refine WL.e7 (Nx.blk Nx.thn) 0 1 2 8 28 29 30 (lt rfl (lt rfl (lt rfl (lt rfl (lt rfl (lt rfl (lt rfl (s0)))))))) (lt rfl (lt rfl (lt rfl (lt rfl (lt rfl (lt rfl (lt rfl (s1)))))))) (lt rfl (lt rfl (lt rfl (lt rfl (lt rfl (lt rfl (lt rfl (s2)))))))) (lt rfl (lt rfl (lt rfl (lt rfl (lt rfl (lt rfl (lt rfl (s8)))))))) (lt rfl (lt rfl (lt rfl (lt rfl (lt rfl (lt rfl (lt rfl (s28)))))))) (lt rfl (lt rfl (lt rfl (lt rfl (lt rfl (lt rfl (lt rfl (s29)))))))) (lt rfl (lt rfl (lt rfl (lt rfl (lt rfl (lt rfl (lt rfl (s30)))))))) ?_
        intro σ12 s0 s1 s2 s8 s28 s29 s30
        refine W.region ?_
        first | refine WL.x (X.add (s30) lc (by omega) (by omega)) rfl ?_ | refine WL.x (X.addw (s30) lc) rfl ?_
        refine WL.x (X.mv (lh)) rfl ?_
        refine WL.e7 Nx.thn 0 1 2 8 28 29 30 (lt rfl (lt rfl (s0))) (lt rfl (lt rfl (s1))) (lt rfl (lt rfl (s2))) (lt rfl (lt rfl (s8))) (lt rfl (lt rfl (s28))) (lt rfl (lt rfl (s29))) (lh) ?_
        intro σ13 s0 s1 s2 s8 s28 s29 s30
        have hgn : ∀ i, i < ms.length → (csk.setIfInBounds k (.bool ((fun a b => a && b) (ms.getD k false) (ms2.getD k false))))[i]? = some (.bool ((rz (fun a b => a && b) ms ms2 (k + 1)).getD i false)) := fun i hi => by
          have hsz : k < csk.size := (Array.getElem?_eq_some_iff.1 (hgk k (by omega))).1
          rw [← rz_next hlen (by omega), Array.getElem?_setIfInBounds]
          by_cases e : k = i
          · subst e
            rw [if_pos rfl, if_pos hsz]
            simp [List.getD_eq_getElem?_getD, rz_len hlen, hi]
          · rw [if_neg e, hgk i hi]
            simp [List.getD_eq_getElem?_getD, List.getElem?_set, e]
        refine ⟨k + 1, by omega, ⟨s0.trans qo1.symm, s1.trans qo2.symm, s2.trans qo3.symm, s28.trans qo4.symm, s29.trans qo5.symm, trivial⟩, _, s30, by omega, s8.trans (congrArg Value.bool (by rw [chgB_succ]; first | (rw [hx] at hx2; exact absurd hx2 (by decide)) | (simp only [hx, hc]; generalize ms2.getD k false = z; cases z <;> rfl))), hb1, hgn, hcl.trans cs1 (fun _ _ => id) (fun _ _ => id)⟩
      · refine WL.yes rfl rfl (lh) (hc) ?_
        refine WL.x (X.mv (lt rfl (lt rfl (s10)))) rfl ?_
        refine WL.yes rfl rfl (lt rfl (lh)) (hc) ?_
        refine WL.x (X.mv (lt rfl (lt rfl (lt rfl (s11))))) rfl ?_
        refine WL.yes rfl rfl (lt rfl (lt rfl (lh))) (hc) ?_
        refine WL.x (X.neqB Tryd.underlying4 (lt rfl (lh)) (lh)) rfl ?_
        refine WL.x (X.pickF (lt rfl (lt rfl (lt rfl (lh)))) (hc) (lh)) rfl ?_
        refine WL.x (X.asg (lh)) rfl ?_
        refine WL.e9 Nx.thn 0 1 2 8 9 11 28 29 30 (lt rfl (lt rfl (lt rfl (lt rfl (lt rfl (lt rfl (lt rfl (s0)))))))) (lt rfl (lt rfl (lt rfl (lt rfl (lt rfl (lt rfl (lt rfl (s1)))))))) (lt rfl (lt rfl (lt rfl (lt rfl (lt rfl (lt rfl (lt rfl (s2)))))))) (lh) (lt rfl (lt rfl (lt rfl (lt rfl (lt rfl (lt rfl (lt rfl (s9)))))))) (lt rfl (lt rfl (lt rfl (lt rfl (lt rfl (lt rfl (lt rfl (s11)))))))) (lt rfl (lt rfl (lt rfl (lt rfl (lt rfl (lt rfl (lt rfl (s28)))))))) (lt rfl (lt rfl (lt rfl (lt rfl (lt rfl (lt rfl (lt rfl (s29)))))))) (lt rfl (lt rfl (lt rfl (lt rfl (lt rfl (lt rfl (lt rfl (s30)))))))) ?_
        intro σ14 s0 s1 s2 s8 s9 s11 s28 s29 s30
        refine W.region ?_
        refine WL.x (X.mv (s0)) rfl ?_
        refine WL.x (X.nilck (lh)) rfl ?_
        refine WL.x (X.fieldAddr fd50_0 (lh)) rfl ?_
        refine WL.x (X.load pl48 (lh) (by first | assumption | exact hcl.at (by assumption) (by intro hne; first | exact hne | ((try dsimp only at hne); omega)) | exact hcl.at (cd3.at0 (by assumption)) (by intro hne; first | exact hne | ((try dsimp only at hne); omega))) (by first | rfl | assumption)) rfl ?_
        refine WL.x (X.mv (lt rfl (lt rfl (lt rfl (lt rfl (s9)))))) rfl ?_
        refine WL.x (X.mv (lt rfl (lt rfl (lt rfl (lt rfl (lt rfl (s11))))))) rfl ?_
        refine WL.x (X.indexAddr Tryd.underlying48 el4 (lt rfl (lt rfl (lh))) (lt rfl (lh)) (by omega) (by omega)) rfl ?_
        refine WL.store el4 (lh) (lt rfl (lh)) rfl hbk (by have := (Array.getElem?_eq_some_iff.1 (hgk k (by omega))).1; omega) ?_
        intro w4 us; have cs1 := us.ch
        have hb1 : w4.heap[pb]? = some (Obj.cells (csk.setIfInBounds k (.bool ((fun a b => a && b) (ms.getD k false) (ms2.getD k false)))) 4 (0, 0)) := by
          rw [us.at_, show 0 + (k : Int).toNat * 1 = k by omega]
          first | (rw [hx] at hx2; exact absurd hx2 (by decide)) | (simp only [hx]; generalize ms2.getD k false = z; cases z <;> rfl)
        refine WL.e7 (Nx.blk Nx.thn) 0 1 2 8 28 29 30 (lt rfl (lt rfl (lt rfl (lt rfl (lt rfl (lt rfl (lt rfl (s0)))))))) (lt rfl (lt rfl (lt rfl (lt rfl (lt rfl (lt rfl (lt rfl (s1)))))))) (lt rfl (lt rfl (lt rfl (lt rfl (lt rfl (lt rfl (lt rfl (s2)))))))) (lt rfl (lt rfl (lt rfl (lt rfl (lt rfl (lt rfl (lt rfl (s8)))))))) (lt rfl (lt rfl (lt rfl (lt rfl (lt rfl (lt rfl (lt rfl (s28)))))))) (lt rfl (lt rfl (lt rfl (lt rfl (lt rfl (lt rfl (lt rfl (s29)))))))) (lt rfl (lt rfl (lt rfl (lt rfl (lt rfl (lt rfl (lt rfl (s30)))))))) ?_
        intro σ15 s0 s1 s2 s8 s28 s29 s30
        refine W.region ?_
        first | refine WL.x (X.add (s30) lc (by omega) (by omega)) rfl ?_ | refine WL.x (X.addw (s30) lc) rfl ?_
        refine WL.x (X.mv (lh)) rfl ?_
        refine WL.e7 Nx.thn 0 1 2 8 28 29 30 (lt rfl (lt rfl (s0))) (lt rfl (lt rfl (s1))) (lt rfl (lt rfl (s2))) (lt rfl (lt rfl (s8))) (lt rfl (lt rfl (s28))) (lt rfl (lt rfl (s29))) (lh) ?_
        intro σ16 s0 s1 s2 s8 s28 s29 s30
        have hgn : ∀ i, i < ms.length → (csk.setIfInBounds k (.bool ((fun a b => a && b) (ms.getD k false) (ms2.getD k false))))[i]? = some (.bool ((rz (fun a b => a && b) ms ms2 (k + 1)).getD i false)) := fun i hi => by
          have hsz : k < csk.size := (Array.getElem?_eq_some_iff.1 (hgk k (by omega))).1
          rw [← rz_next hlen (by omega), Array.getElem?_setIfInBounds]
          by_cases e : k = i
          · subst e
            rw [if_pos rfl, if_pos hsz]
            simp [List.getD_eq_getElem?_getD, rz_len hlen, hi]
          · rw [if_neg e, hgk i hi]
            simp [List.getD_eq_getElem?_getD, List.getElem?_set, e]
        refine ⟨k + 1, by omega, ⟨s0.trans qo1.symm, s1.trans qo2.symm, s2.trans qo3.symm, s28.trans qo4.symm, s29.trans qo5.symm, trivial⟩, _, s30, by omega, s8.trans (congrArg Value.bool (by rw [chgB_succ]; first | (rw [hx] at hx2; exact absurd hx2 (by decide)) | (simp only [hx, hc]; generalize ms2.getD k false = z; cases z <;> rfl))), hb1, hgn, hcl.trans cs1 (fun _ _ => id) (fun _ _ => id)⟩
    · refine WL.no rfl rfl (lh) (hx) rfl ?_
      refine WL.no rfl rfl (lt rfl (lh)) (hx) rfl ?_
      refine WL.no rfl rfl (lt rfl (lt rfl (lh))) (hx) rfl ?_
      refine WL.no rfl rfl (lt rfl (lt rfl (lt rfl (lh)))) (hx) rfl ?_
      refine WL.no rfl rfl (lt rfl (lt rfl (lt rfl (lt rfl (lh))))) (hx) rfl ?_
      refine WL.no rfl rfl (lt rfl (lt rfl (lt rfl (lt rfl (lt rfl (lh)))))) (hx) rfl ?_
      refine WL.no rfl rfl (lt rfl (lt rfl (lt rfl (lt rfl (lt rfl (lt rfl (lh))))))) (hx) rfl ?_
      refine WL.x (X.pickF (lt rfl (lt rfl (lt rfl (lt rfl (lt rfl (lt rfl (lt rfl (lh)))))))) (hx) lc) rfl ?_
      refine WL.x (X.asg (lh)) rfl ?_
      refine WL.e10 Nx.thn 0 1 2 8 9 10 11 28 29 30 (lt rfl (lt rfl (lt rfl (lt rfl (lt rfl (lt rfl (lt rfl (lt rfl (lt rfl (lt rfl (lt rfl (s0)))))))))))) (lt rfl (lt rfl (lt rfl (lt rfl (lt rfl (lt rfl (lt rfl (lt rfl (lt rfl (lt rfl (lt rfl (s1)))))))))))) (lt rfl (lt rfl (lt rfl (lt rfl (lt rfl (lt rfl (lt rfl (lt rfl (lt rfl (lt rfl (lt rfl (s2)))))))))))) (lt rfl (lt rfl (lt rfl (lt rfl (lt rfl (lt rfl (lt rfl (lt rfl (lt rfl (lt rfl (lt rfl (s8)))))))))))) (lt rfl (lt rfl (lt rfl (lt rfl (lt rfl (lt rfl (lt rfl (lt rfl (lt rfl (lt rfl (lt rfl (s9)))))))))))) (lt rfl (lt rfl (lt rfl (lt rfl (lt rfl (lt rfl (lt rfl (lt rfl (lt rfl (lt rfl (lt rfl (s10)))))))))))) (lh) (lt rfl (lt rfl (lt rfl (lt rfl (lt rfl (lt rfl (lt rfl (lt rfl (lt rfl (lt rfl (lt rfl (s28)))))))))))) (lt rfl (lt rfl (lt rfl (lt rfl (lt rfl (lt rfl (lt rfl (lt rfl (lt rfl (lt rfl (lt rfl (s29)))))))))))) (lt rfl (lt rfl (lt rfl (lt rfl (lt rfl (lt rfl (lt rfl (lt rfl (lt rfl (lt rfl (lt rfl (s30)))))))))))) ?_
      intro σ17 s0 s1 s2 s8 s9 s10 s11 s28 s29 s30
      refine W.seq ?_
      refine W.seq ?_
      refine W.region ?_
      refine WL.x (X.mv (s2)) rfl ?_
      refine WL.e11 Nx.thn 0 1 2 8 9 10 11 28 29 30 45 (lt rfl (s0)) (lt rfl (s1)) (lt rfl (s2)) (lt rfl (s8)) (lt rfl (s9)) (lt rfl (s10)) (lt rfl (s11)) (lt rfl (s28)) (lt rfl (s29)) (lt rfl (s30)) (lh) ?_
      intro σ18 s0 s1 s2 s8 s9 s10 s11 s28 s29 s30 s45
      refine W.cndF s45 ?_
      refine W.skip Nx.thn ?_
      refine W.seq ?_
      refine W.region ?_
      refine WL.x (X.mv (s8)) rfl ?_
      refine WL.x (X.mv (lh)) rfl ?_
      refine WL.split (lh) (fun hc => ?_) (fun hc => ?_)
      · refine WL.no rfl rfl (lh) (hc) rfl ?_
        refine WL.no rfl rfl (lt rfl (lh)) (hc) rfl ?_
        refine WL.no rfl rfl (lt rfl (lt rfl (lh))) (hc) rfl ?_
        refine WL.x (X.pickT (lt rfl (lt rfl (lt rfl (lh)))) (hc) lc) rfl ?_
        refine WL.x (X.asg (lh)) rfl ?_
        refine WL.e9 Nx.thn 0 1 2 8 9 11 28 29 30 (lt rfl (lt rfl (lt rfl (lt rfl (lt rfl (lt rfl (lt rfl (s0)))))))) (lt rfl (lt rfl (lt rfl (lt rfl (lt rfl (lt rfl (lt rfl (s1)))))))) (lt rfl (lt rfl (lt rfl (lt rfl (lt rfl (lt rfl (lt rfl (s2)))))))) (lh) (lt rfl (lt rfl (lt rfl (lt rfl (lt rfl (lt rfl (lt rfl (s9)))))))) (lt rfl (lt rfl (lt rfl (lt rfl (lt rfl (lt rfl (lt rfl (s11)))))))) (lt rfl (lt rfl (lt rfl (lt rfl (lt rfl (lt rfl (lt rfl (s28)))))))) (lt rfl (lt rfl (lt rfl (lt rfl (lt rfl (lt rfl (lt rfl (s29)))))))) (lt rfl (lt rfl (lt rfl (lt rfl (lt rfl (lt rfl (lt rfl (s30)))))))) ?_
        intro σ19 s0 s1 s2 s8 s9 s11 s28 s29 s30
        refine W.region ?_
        refine WL.x (X.mv (s0)) rfl ?_
        refine WL.x (X.nilck (lh)) rfl ?_
        refine WL.x (X.fieldAddr fd50_0 (lh)) rfl ?_
        refine WL.x (X.load pl48 (lh) (by first | assumption | exact hcl.at (by assumption) (by intro hne; first | exact hne | ((try dsimp only at hne); omega)) | exact hcl.at (cd3.at0 (by assumption)) (by intro hne; first | exact hne | ((try dsimp only at hne); omega))) (by first | rfl | assumption)) rfl ?_
        refine WL.x (X.mv (lt rfl (lt rfl (lt rfl (lt rfl (s9)))))) rfl ?_
        refine WL.x (X.mv (lt rfl (lt rfl (lt rfl (lt rfl (lt rfl (s11))))))) rfl ?_
        refine WL.x (X.indexAddr Tryd.underlying48 el4 (lt rfl (lt rfl (lh))) (lt rfl (lh)) (by omega) (by omega)) rfl ?_
        refine WL.store el4 (lh) (lt rfl (lh)) rfl hbk (by have := (Array.getElem?_eq_some_iff.1 (hgk k (by omega))).1; omega) ?_
        intro w5 us; have cs1 := us.ch
        have hb1 : w5.heap[pb]? = some (Obj.cells (csk.setIfInBounds k (.bool ((fun a b => a && b) (ms.getD k false) (ms2.getD k false)))) 4 (0, 0)) := by
          rw [us.at_, show 0 + (k : Int).toNat * 1 = k by omega]
          first | (rw [hx] at hx2; exact absurd hx2 (by decide)) | (simp only [hx]; generalize ms2.getD k false = z; cases z <;> rfl)
        refine WL.e7 (Nx.blk Nx.thn) 0 1 2 8 28 29 30 (lt rfl (lt rfl (lt rfl (lt rfl (lt rfl (lt rfl (lt rfl (s0)))))))) (lt rfl (lt rfl (lt rfl (lt rfl (lt rfl (lt rfl (lt rfl (s1)))))))) (lt rfl (lt rfl (lt rfl (lt rfl (lt rfl (lt rfl (lt rfl (s2)))))))) (lt rfl (lt rfl (lt rfl (lt rfl (lt rfl (lt rfl (lt rfl (s8)))))))) (lt rfl (lt rfl (lt rfl (lt rfl (lt rfl (lt rfl (lt rfl (s28)))))))) (lt rfl (lt rfl (lt rfl (lt rfl (lt rfl (lt rfl (lt rfl (s29)))))))) (lt rfl (lt rfl (lt rfl (lt rfl (lt rfl (lt rfl (lt rfl (s30)))))))) ?_
        intro σ20 s0 s1 s2 s8 s28 s29 s30
        refine W.region ?_
        first | refine WL.x (X.add (s30) lc (by omega) (by omega)) rfl ?_ | refine WL.x (X.addw (s30) lc) rfl ?_
        refine WL.x (X.mv (lh)) rfl ?_
        refine WL.e7 Nx.thn 0 1 2 8 28 29 30 (lt rfl (lt rfl (s0))) (lt rfl (lt rfl (s1))) (lt rfl (lt rfl (s2))) (lt rfl (lt rfl (s8))) (lt rfl (lt rfl (s28))) (lt rfl (lt rfl (s29))) (lh) ?_
        intro σ21 s0 s1 s2 s8 s28 s29 s30
        have hgn : ∀ i, i < ms.length → (csk.setIfInBounds k (.bool ((fun a b => a && b) (ms.getD k false) (ms2.getD k false))))[i]? = some (.bool ((rz (fun a b => a && b) ms ms2 (k + 1)).getD i false)) := fun i hi => by
          have hsz : k < csk.size := (Array.getElem?_eq_some_iff.1 (hgk k (by omega))).1
          rw [← rz_next hlen (by omega), Array.getElem?_setIfInBounds]
          by_cases e : k = i
          · subst e
            rw [if_pos rfl, if_pos hsz]
            simp [List.getD_eq_getElem?_getD, rz_len hlen, hi]
          · rw [if_neg e, hgk i hi]
            simp [List.getD_eq_getElem?_getD, List.getElem?_set, e]
        refine ⟨k + 1, by omega, ⟨s0.trans qo1.symm, s1.trans qo2.symm, s2.trans qo3.symm, s28.trans qo4.symm, s29.trans qo5.symm, trivial⟩, _, s30, by omega, s8.trans (congrArg Value.bool (by rw [chgB_succ]; first | (rw [hx] at hx2; exact absurd hx2 (by decide)) | (simp only [hx, hc]; generalize ms2.getD k false = z; cases z <;> rfl))), hb1, hgn, hcl.trans cs1 (fun _ _ => id) (fun _ _ => id)⟩
      · refine WL.yes rfl rfl (lh) (hc) ?_
        refine WL.x (X.mv (lt rfl (lt rfl (s10)))) rfl ?_
        refine WL.yes rfl rfl (lt rfl (lh)) (hc) ?_
        refine WL.x (X.mv (lt rfl (lt rfl (lt rfl (s11))))) rfl ?_
        refine WL.yes rfl rfl (lt rfl (lt rfl (lh))) (hc) ?_
        refine WL.x (X.neqB Tryd.underlying4 (lt rfl (lh)) (lh)) rfl ?_
        refine WL.x (X.pickF (lt rfl (lt rfl (lt rfl (lh)))) (hc) (lh)) rfl ?_
        refine WL.x (X.asg (lh)) rfl ?_
        refine WL.e9 Nx.thn 0 1 2 8 9 11 28 29 30 (lt rfl (lt rfl (lt rfl (lt rfl (lt rfl (lt rfl (lt rfl (s0)))))))) (lt rfl (lt rfl (lt rfl (lt rfl (lt rfl (lt rfl (lt rfl (s1)))))))) (lt rfl (lt rfl (lt rfl (lt rfl (lt rfl (lt rfl (lt rfl (s2)))))))) (lh) (lt rfl (lt rfl (lt rfl (lt rfl (lt rfl (lt rfl (lt rfl (s9)))))))) (lt rfl (lt rfl (lt rfl (lt rfl (lt rfl (lt rfl (lt rfl (s11)))))))) (lt rfl (lt rfl (lt rfl (lt rfl (lt rfl (lt rfl (lt rfl (s28)))))))) (lt rfl (lt rfl (lt rfl (lt rfl (lt rfl (lt rfl (lt rfl (s29)))))))) (lt rfl (lt rfl (lt rfl (lt rfl (lt rfl (lt rfl (lt rfl (s30)))))))) ?_
        intro σ22 s0 s1 s2 s8 s9 s11 s28 s29 s30
        refine W.region ?_
        refine WL.x (X.mv (s0)) rfl ?_
        refine WL.x (X.nilck (lh)) rfl ?_
        refine WL.x (X.fieldAddr fd50_0 (lh)) rfl ?_
        refine WL.x (X.load pl48 (lh) (by first | assumption | exact hcl.at (by assumption) (by intro hne; first | exact hne | ((try dsimp only at hne); omega)) | exact hcl.at (cd3.at0 (by assumption)) (by intro hne; first | exact hne | ((try dsimp only at hne); omega))) (by first | rfl | assumption)) rfl ?_
        refine WL.x (X.mv (lt rfl (lt rfl (lt rfl (lt rfl (s9)))))) rfl ?_
        refine WL.x (X.mv (lt rfl (lt rfl (lt rfl (lt rfl (lt rfl (s11))))))) rfl ?_
        refine WL.x (X.indexAddr Tryd.underlying48 el4 (lt rfl (lt rfl (lh))) (lt rfl (lh)) (by omega) (by omega)) rfl ?_
        refine WL.store el4 (lh) (lt rfl (lh)) rfl hbk (by have := (Array.getElem?_eq_some_iff.1 (hgk k (by omega))).1; omega) ?_
        intro w6 us; have cs1 := us.ch
        have hb1 : w6.heap[pb]? = some (Obj.cells (csk.setIfInBounds k (.bool ((fun a b => a && b) (ms.getD k false) (ms2.getD k false)))) 4 (0, 0)) := by
          rw [us.at_, show 0 + (k : Int).toNat * 1 = k by omega]
          first | (rw [hx] at hx2; exact absurd hx2 (by decide)) | (simp only [hx]; generalize ms2.getD k false = z; cases z <;> rfl)
        refine WL.e7 (Nx.blk Nx.thn) 0 1 2 8 28 29 30 (lt rfl (lt rfl (lt rfl (lt rfl (lt rfl (lt rfl (lt rfl (s0)))))))) (lt rfl (lt rfl (lt rfl (lt rfl (lt rfl (lt rfl (lt rfl (s1)))))))) (lt rfl (lt rfl (lt rfl (lt rfl (lt rfl (lt rfl (lt rfl (s2)))))))) (lt rfl (lt rfl (lt rfl (lt rfl (lt rfl (lt rfl (lt rfl (s8)))))))) (lt rfl (lt rfl (lt rfl (lt rfl (lt rfl (lt rfl (lt rfl (s28)))))))) (lt rfl (lt rfl (lt rfl (lt rfl (lt rfl (lt rfl (lt rfl (s29)))))))) (lt rfl (lt rfl (lt rfl (lt rfl (lt rfl (lt rfl (lt rfl (s30)))))))) ?_
        intro σ23 s0 s1 s2 s8 s28 s29 s30
        refine W.region ?_
        first | refine WL.x (X.add (s30) lc (by omega) (by omega)) rfl ?_ | refine WL.x (X.addw (s30) lc) rfl ?_
        refine WL.x (X.mv (lh)) rfl ?_
        refine WL.e7 Nx.thn 0 1 2 8 28 29 30 (lt rfl (lt rfl (s0))) (lt rfl (lt rfl (s1))) (lt rfl (lt rfl (s2))) (lt rfl (lt rfl (s8))) (lt rfl (lt rfl (s28))) (lt rfl (lt rfl (s29))) (lh) ?_
        intro σ24 s0 s1 s2 s8 s28 s29 s30
        have hgn : ∀ i, i < ms.length → (csk.setIfInBounds k (.bool ((fun a b => a && b) (ms.getD k false) (ms2.getD k false))))[i]? = some (.bool ((rz (fun a b => a && b) ms ms2 (k + 1)).getD i false)) := fun i hi => by
          have hsz : k < csk.size := (Array.getElem?_eq_some_iff.1 (hgk k (by omega))).1
          rw [← rz_next hlen (by omega), Array.getElem?_setIfInBounds]
          by_cases e : k = i
          · subst e
            rw [if_pos rfl, if_pos hsz]
            simp [List.getD_eq_getElem?_getD, rz_len hlen, hi]
          · rw [if_neg e, hgk i hi]
            simp [List.getD_eq_getElem?_getD, List.getElem?_set, e]
        refine ⟨k + 1, by omega, ⟨s0.trans qo1.symm, s1.trans qo2.symm, s2.trans qo3.symm, s28.trans qo4.symm, s29.trans qo5.symm, trivial⟩, _, s30, by omega, s8.trans (congrArg Value.bool (by rw [chgB_succ]; first | (rw [hx] at hx2; exact absurd hx2 (by decide)) | (simp only [hx, hc]; generalize ms2.getD k false = z; cases z <;> rfl))), hb1, hgn, hcl.trans cs1 (fun _ _ => id) (fun _ _ => id)⟩
  · refine W.exit (Nx.xthn (Nx.xthn (Nx.xblk Nx.thn))) ?_
    refine W.seq ?_
    refine W.region ?_
    refine WL.x (X.mv (s8)) rfl ?_
    refine WL.x (X.asg (lh)) rfl ?_
    refine WL.x (X.asg lc) rfl ?_
    refine WL.e2 Nx.thn 6 7 (lt rfl (lh)) (lh) ?_
    intro σ25 s6 s7
    refine W.ret2 Nx.f2 s6 s7 ?_
    have hke : k = ms.length := by omega
    subst hke
    have hzl : (List.zipWith (fun a b => a && b) ms ms2).length = ms.length := by simp; omega
    exact ⟨rfl, ⟨⟨cap, by rw [hzl]; exact hcap, by rw [hzl]; exact hcl.at hd h.ne⟩, ⟨csk, hbk, fun i hi => by rw [hzl] at hi; rw [hgk i hi, rz_all hlen]⟩, by rw [hzl]; exact h.le⟩, hcl⟩
theorem rwand_bounds (p pb : Nat) (ms : List Bool) (p2 pb2 : Nat) (ms2 : List Bool) (w : World) (h : IsRef w p pb ms) (h2 : IsRef w p2 pb2 ms2) (hlen : ms.length ≠ ms2.length) :
    Sg.Ret Tryd.prog 39 #[.pointer (some ⟨p, 0, none⟩), .pointer (some ⟨p2, 0, none⟩), .bool false] w fun v w' => v = .tuple #[.bool false, .int .i64 1] ∧ Dr w w' := by
  obtain ⟨cap, hcap, hd⟩ := h.hd
  obtain ⟨cs, hb, hg⟩ := h.bd
  have hle := h.le
  obtain ⟨cap2, hcap2, hd2⟩ := h2.hd
  obtain ⟨cs2, hb2, hg2⟩ := h2.bd
  have hle2 := h2.le
  have hpne := h.ne
  refine enter2 (n := 71) (l := [.pointer (some ⟨p, 0, none⟩), .pointer (some ⟨p2, 0, none⟩), .bool false]) Tryd.func39 rfl rfl rfl rfl ?_
  refine W.g3 0 1 2 (v1 := .pointer (some ⟨p, 0, none⟩)) (v2 := .pointer (some ⟨p2, 0, none⟩)) (v3 := .bool false) rfl rfl rfl ?_; intro σ s0 s1 s2
  refine W.seq ?_
  refine W.region ?_
  refine WL.x (X.asg lc) rfl ?_
  refine WL.x (X.asg lc) rfl ?_
  refine WL.e3 Nx.thn 0 1 2 (lt rfl (lt rfl (s0))) (lt rfl (lt rfl (s1))) (lt rfl (lt rfl (s2))) ?_
  intro σ1 s0 s1 s2
  refine W.seq ?_
  refine W.seq ?_
  refine W.region ?_
  refine WL.x (X.mv (s1)) rfl ?_
  refine WL.x (X.eqlN Tryd.underlying38 (lh) lc) rfl ?_
  refine WL.e4 Nx.thn 0 1 2 13 (lt rfl (lt rfl (s0))) (lt rfl (lt rfl (s1))) (lt rfl (lt rfl (s2))) (lh) ?_
  intro σ2 s0 s1 s2 s13
  refine W.cndBF s13 (rfl) ?_
  refine W.skip Nx.thn ?_
  refine W.seq ?_
  refine W.seq ?_
  refine W.draw mo (by kernel_rfl) Nx.thn ?_
  refine WQ.x (fun _ => X.mv (s1)) rfl ?_
  refine WQ.x (fun _ => X.nilck (lh)) rfl ?_
  refine WQ.x (fun _ => X.fieldAddr fd50_0 (lh)) rfl ?_
  refine WQ.x (fun _ => X.load pl48 (lh) (by first | assumption) (by first | rfl | assumption)) rfl ?_
  refine WQ.x (fun _ => X.lenSl Tryd.underlying48 (lh)) rfl ?_
  refine WQ.x (fun _ => X.mv (lt rfl (lt rfl (lt rfl (lt rfl (lt rfl (s0))))))) rfl ?_
  refine WQ.x (fun _ => X.nilck (lh)) rfl ?_
  refine WQ.x (fun _ => X.fieldAddr fd50_0 (lh)) rfl ?_
  refine WQ.x (fun _ => X.load pl48 (lh) (by first | assumption) (by first | rfl | assumption)) rfl ?_
  refine WQ.x (fun _ => X.lenSl Tryd.underlying48 (lh)) rfl ?_
  refine WQ.x (fun _ => X.neq (lt rfl (lt rfl (lt rfl (lt rfl (lt rfl (lh)))))) (lh)) rfl ?_
  refine WQ.e4 0 1 2 24 (lt rfl (lt rfl (lt rfl (lt rfl (lt rfl (lt rfl (lt rfl (lt rfl (lt rfl (lt rfl (lt rfl (s0)))))))))))) (lt rfl (lt rfl (lt rfl (lt rfl (lt rfl (lt rfl (lt rfl (lt rfl (lt rfl (lt rfl (lt rfl (s1)))))))))))) (lt rfl (lt rfl (lt rfl (lt rfl (lt rfl (lt rfl (lt rfl (lt rfl (lt rfl (lt rfl (lt rfl (s2)))))))))))) (lh) ?_
  intro σ3 s0 s1 s2 s24
  intro _; refine gdrew ?_; intro w1 hh3 cd3 dr3
  refine W.cndY s24 (by omega) ?_
  refine W.seq ?_
  refine W.region ?_
  refine WL.x (X.asg lc) rfl ?_
  refine WL.x (X.asg lc) rfl ?_
  refine WL.e2 Nx.thn 6 7 (lt rfl (lh)) (lh) ?_
  intro σ4 s6 s7
  refine W.ret2 (Nx.rthn Nx.f2) s6 s7 ?_
  exact ⟨rfl, dr3⟩
theorem ror_ok (p pb : Nat) (ms : List Bool) (p2 pb2 : Nat) (ms2 : List Bool) (w : World) (h : IsRef w p pb ms) (h2 : IsRef w p2 pb2 ms2) (hlen : ms.length = ms2.length) (hne : pb ≠ pb2) (hnp : p2 ≠ pb) :
    Sg.Ret Tryd.prog 21 #[.pointer (some ⟨p, 0, none⟩), .pointer (some ⟨p2, 0, none⟩)] w fun v w' => v = .tuple #[.bool (chgB (fun a b => a || b) ms ms2 ms.length), .int .i64 0] ∧ IsRef w' p pb (List.zipWith (fun a b => a || b) ms ms2) ∧ Ch (fun k => k = pb) w w' := by
  refine enter2 (n := 11) (l := [.pointer (some ⟨p, 0, none⟩), .pointer (some ⟨p2, 0, none⟩)]) Tryd.func21 rfl rfl rfl rfl ?_
  refine W.g2 0 1 (v1 := .pointer (some ⟨p, 0, none⟩)) (v2 := .pointer (some ⟨p2, 0, none⟩)) rfl rfl ?_; intro σ s0 s1
  refine W.seq ?_
  refine W.region ?_
  refine WL.x (X.asg lc) rfl ?_
  refine WL.x (X.asg lc) rfl ?_
  refine WL.e2 Nx.thn 0 1 (lt rfl (lt rfl (s0))) (lt rfl (lt rfl (s1))) ?_
  intro σ1 s0 s1
  refine W.seq ?_
  refine W.region ?_
  refine WL.x (X.mv (s0)) rfl ?_
  refine WL.x (X.mv (lt rfl (s1))) rfl ?_
  refine WL.call3 ce39 (lt rfl (lh)) (lh) lc (rwor_ok p pb ms p2 pb2 ms2 w h h2 hlen hne hnp) rfl ?_
  rintro _ w1 ⟨rfl, hr, cw⟩
  refine WL.x (X.ex2_0 (lh)) rfl ?_
  refine WL.x (X.ex2_1 (lt rfl (lh))) rfl ?_
  refine WL.x (X.asg (lt rfl (lh))) rfl ?_
  refine WL.x (X.asg (lt rfl (lh))) rfl ?_
  refine WL.e2 Nx.thn 4 5 (lt rfl (lh)) (lh) ?_
  intro σ2 s4 s5
  refine W.ret2 Nx.f2 s4 s5 ?_
  exact ⟨rfl, hr, cw⟩
theorem ror_bounds (p pb : Nat) (ms : List Bool) (p2 pb2 : Nat) (ms2 : List Bool) (w : World) (h : IsRef w p pb ms) (h2 : IsRef w p2 pb2 ms2) (hlen : ms.length ≠ ms2.length) :
    Sg.Ret Tryd.prog 21 #[.pointer (some ⟨p, 0, none⟩), .pointer (some ⟨p2, 0, none⟩)] w fun v w' => v = .tuple #[.bool false, .int .i64 1] ∧ Dr w w' := by
  refine enter2 (n := 11) (l := [.pointer (some ⟨p, 0, none⟩), .pointer (some ⟨p2, 0, none⟩)]) Tryd.func21 rfl rfl rfl rfl ?_
  refine W.g2 0 1 (v1 := .pointer (some ⟨p, 0, none⟩)) (v2 := .pointer (some ⟨p2, 0, none⟩)) rfl rfl ?_; intro σ s0 s1
  refine W.seq ?_
  refine W.region ?_
  refine WL.x (X.asg lc) rfl ?_
  refine WL.x (X.asg lc) rfl ?_
  refine WL.e2 Nx.thn 0 1 (lt rfl (lt rfl (s0))) (lt rfl (lt rfl (s1))) ?_
  intro σ1 s0 s1
  refine W.seq ?_
  refine W.region ?_
  refine WL.x (X.mv (s0)) rfl ?_
  refine WL.x (X.mv (lt rfl (s1))) rfl ?_
  refine WL.call3 ce39 (lt rfl (lh)) (lh) lc (rwor_bounds p pb ms p2 pb2 ms2 w h h2 hlen) rfl ?_
  rintro _ w1 ⟨rfl, hdr⟩
  refine WL.x (X.ex2_0 (lh)) rfl ?_
  refine WL.x (X.ex2_1 (lt rfl (lh))) rfl ?_
  refine WL.x (X.asg (lt rfl (lh))) rfl ?_
  refine WL.x (X.asg (lt rfl (lh))) rfl ?_
  refine WL.e2 Nx.thn 4 5 (lt rfl (lh)) (lh) ?_
  intro σ2 s4 s5
  refine W.ret2 Nx.f2 s4 s5 ?_
  exact ⟨rfl, hdr⟩
theorem rand_ok (p pb : Nat) (ms : List Bool) (p2 pb2 : Nat) (ms2 : List Bool) (w : World) (h : IsRef w p pb ms) (h2 : IsRef w p2 pb2 ms2) (hlen : ms.length = ms2.length) (hne : pb ≠ pb2) (hnp : p2 ≠ pb) :
    Sg.Ret Tryd.prog 23 #[.pointer (some ⟨p, 0, none⟩), .pointer (some ⟨p2, 0, none⟩)] w fun v w' => v = .tuple #[.bool (chgB (fun a b => a && b) ms ms2 ms.length), .int .i64 0] ∧ IsRef w' p pb (List.zipWith (fun a b => a && b) ms ms2) ∧ Ch (fun k => k = pb) w w' := by
  refine enter2 (n := 11) (l := [.pointer (some ⟨p, 0, none⟩), .pointer (some ⟨p2, 0, none⟩)]) Tryd.func23 rfl rfl rfl rfl ?_
  refine W.g2 0 1 (v1 := .pointer (some ⟨p, 0, none⟩)) (v2 := .pointer (some ⟨p2, 0, none⟩)) rfl rfl ?_; intro σ s0 s1
  refine W.seq ?_
  refine W.region ?_
  refine WL.x (X.asg lc) rfl ?_
  refine WL.x (X.asg lc) rfl ?_
  refine WL.e2 Nx.thn 0 1 (lt rfl (lt rfl (s0))) (lt rfl (lt rfl (s1))) ?_
  intro σ1 s0 s1
  refine W.seq ?_
  refine W.region ?_
  refine WL.x (X.mv (s0)) rfl ?_
  refine WL.x (X.mv (lt rfl (s1))) rfl ?_
  refine WL.call3 ce39 (lt rfl (lh)) (lh) lc (rwand_ok p pb ms p2 pb2 ms2 w h h2 hlen hne hnp) rfl ?_
  rintro _ w1 ⟨rfl, hr, cw⟩
  refine WL.x (X.ex2_0 (lh)) rfl ?_
  refine WL.x (X.ex2_1 (lt rfl (lh))) rfl ?_
  refine WL.x (X.asg (lt rfl (lh))) rfl ?_
  refine WL.x (X.asg (lt rfl (lh))) rfl ?_
  refine WL.e2 Nx.thn 4 5 (lt rfl (lh)) (lh) ?_
  intro σ2 s4 s5
  refine W.ret2 Nx.f2 s4 s5 ?_
  exact ⟨rfl, hr, cw⟩
theorem rand_bounds (p pb : Nat) (ms : List Bool) (p2 pb2 : Nat) (ms2 : List Bool) (w : World) (h : IsRef w p pb ms) (h2 : IsRef w p2 pb2 ms2) (hlen : ms.length ≠ ms2.length) :
    Sg.Ret Tryd.prog 23 #[.pointer (some ⟨p, 0, none⟩), .pointer (some ⟨p2, 0, none⟩)] w fun v w' => v = .tuple #[.bool false, .int .i64 1] ∧ Dr w w' := by
  refine enter2 (n := 11) (l := [.pointer (some ⟨p, 0, none⟩), .pointer (some ⟨p2, 0, none⟩)]) Tryd.func23 rfl rfl rfl rfl ?_
  refine W.g2 0 1 (v1 := .pointer (some ⟨p, 0, none⟩)) (v2 := .pointer (some ⟨p2, 0, none⟩)) rfl rfl ?_; intro σ s0 s1
  refine W.seq ?_
  refine W.region ?_
  refine WL.x (X.asg lc) rfl ?_
  refine WL.x (X.asg lc) rfl ?_
  refine WL.e2 Nx.thn 0 1 (lt rfl (lt rfl (s0))) (lt rfl (lt rfl (s1))) ?_
  intro σ1 s0 s1
  refine W.seq ?_
  refine W.region ?_
  refine WL.x (X.mv (s0)) rfl ?_
  refine WL.x (X.mv (lt rfl (s1))) rfl ?_
  refine WL.call3 ce39 (lt rfl (lh)) (lh) lc (rwand_bounds p pb ms p2 pb2 ms2 w h h2 hlen) rfl ?_
  rintro _ w1 ⟨rfl, hdr⟩
  refine WL.x (X.ex2_0 (lh)) rfl ?_
  refine WL.x (X.ex2_1 (lt rfl (lh))) rfl ?_
  refine WL.x (X.asg (lt rfl (lh))) rfl ?_
  refine WL.x (X.asg (lt rfl (lh))) rfl ?_
  refine WL.e2 Nx.thn 4 5 (lt rfl (lh)) (lh) ?_
  intro σ2 s4 s5
  refine W.ret2 Nx.f2 s4 s5 ?_
  exact ⟨rfl, hdr⟩
end Go.Proofs.YtbnnogbmmbkedaaDoor
