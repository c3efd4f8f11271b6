/-
  A part of the walk of the program.
-/
import Derived.Test.YtjnkpjehpdlcbaaDoorN
import Derived.Test.YtjnkpjehpdlcbaaDoorM
import Derived.Test.YtjnkpjehpdlcbaaDoorHistT
set_option linter.unusedVariables false
set_option linter.unusedSimpArgs false
set_option maxRecDepth 100000
namespace Go.Proofs.YtjnkpjehpdlcbaaDoor
open Go Go.RowKit Sg
theorem words_ok (w : World) :
    Sg.Ret Tryd.prog 26 #[] w fun v w' => v = .tuple #[.agg #[.string ⟨#[]⟩, .string ⟨#[105, 110, 118, 111, 107, 101]⟩, .string ⟨#[111, 107]⟩, .string ⟨#[102, 97, 105, 108]⟩, .string ⟨#[105, 110, 102, 111]⟩], .agg #[.string ⟨#[]⟩, .string ⟨#[97, 112, 112, 101, 110, 100]⟩, .string ⟨#[114, 101, 97, 100]⟩, .string ⟨#[119, 114, 105, 116, 101]⟩, .string ⟨#[103, 101, 116]⟩]] ∧ Ch0 w w' := by
  refine enterG (n := 4) (l := []) Tryd.func26 rfl rfl rfl rfl ?_
  refine W.g0 ?_; intro σ
  refine W.seq ?_
  refine W.region ?_
  refine WL.alloc el57 rfl ?_
  intro w1 u0_0; have hu0_0 := u0_0.at_; have cu0_0 := u0_0.ch; have zu0_0 := u0_0.size
  refine WL.alloc el57 rfl ?_
  intro w2 u0_1; have hu0_1 := u0_1.at_; have cu0_1 := u0_1.ch; have zu0_1 := u0_1.size
  refine WL.e2 Nx.thn 0 1 (lt rfl (lh)) (lh) ?_
  intro σ1 s0 s1
  refine W.seq ?_
  refine W.region ?_
  refine WL.x (X.build bd57 (pcons lc (pcons lc (pcons lc (pcons lc (pcons lc pnil))))) rfl (rfl : _ = [_, _, _, _, _])) rfl ?_
  refine WL.x (X.build bd57 (pcons lc (pcons lc (pcons lc (pcons lc (pcons lc pnil))))) rfl (rfl : _ = [_, _, _, _, _])) rfl ?_
  refine WL.storeS (vs := [.string ⟨#[]⟩, .string ⟨#[105, 110, 118, 111, 107, 101]⟩, .string ⟨#[111, 107]⟩, .string ⟨#[102, 97, 105, 108]⟩, .string ⟨#[105, 110, 102, 111]⟩]) ag57 (lt rfl (lt rfl (s0))) (lt rfl (lh)) rfl rfl (by first | exact cu0_1.at0 hu0_0 | exact hu0_0) (by decide) ?_
  intro w3 us
  have hw0 : w3.heap[_]? = some (Obj.cells #[.string ⟨#[]⟩, .string ⟨#[105, 110, 118, 111, 107, 101]⟩, .string ⟨#[111, 107]⟩, .string ⟨#[102, 97, 105, 108]⟩, .string ⟨#[105, 110, 102, 111]⟩] 57 (0, 0)) := us.at_
  have cw0 := us.ch
  refine WL.storeS (vs := [.string ⟨#[]⟩, .string ⟨#[97, 112, 112, 101, 110, 100]⟩, .string ⟨#[114, 101, 97, 100]⟩, .string ⟨#[119, 114, 105, 116, 101]⟩, .string ⟨#[103, 101, 116]⟩]) ag57 (lt rfl (lt rfl (s1))) (lh) rfl rfl (cw0.at (by first | exact hu0_1 | exact cu0_0.at0 hu0_1) (fun e => by (try dsimp only at e); omega)) (by decide) ?_
  intro w4 us
  have hw1 : w4.heap[_]? = some (Obj.cells #[.string ⟨#[]⟩, .string ⟨#[97, 112, 112, 101, 110, 100]⟩, .string ⟨#[114, 101, 97, 100]⟩, .string ⟨#[119, 114, 105, 116, 101]⟩, .string ⟨#[103, 101, 116]⟩] 57 (0, 0)) := us.at_
  have cw1 := us.ch
  have hw0 := cw1.at hw0 (fun e => by (try dsimp only at e); omega)
  refine WL.e2 Nx.thn 0 1 (lt rfl (lt rfl (s0))) (lt rfl (lt rfl (s1))) ?_
  intro σ2 s0 s1
  refine W.retG Nx.fG ⟨[_, _], (.cell s0 (by first | assumption | exact cw1.at (by assumption) (by intro hne; first | exact hne | ((try dsimp only at hne); omega)) | exact cw1.at (cw0.at (by assumption) (by intro hne; first | exact hne | ((try dsimp only at hne); omega))) (by intro hne; first | exact hne | ((try dsimp only at hne); omega)) | exact cw1.at (cw0.at (cu0_1.at0 (by assumption)) (by intro hne; first | exact hne | ((try dsimp only at hne); omega))) (by intro hne; first | exact hne | ((try dsimp only at hne); omega)) | exact cw1.at (cw0.at (cu0_1.at0 (cu0_0.at0 (by assumption))) (by intro hne; first | exact hne | ((try dsimp only at hne); omega))) (by intro hne; first | exact hne | ((try dsimp only at hne); omega))) (by exact ag57) (.cell s1 (by first | assumption | exact cw1.at (by assumption) (by intro hne; first | exact hne | ((try dsimp only at hne); omega)) | exact cw1.at (cw0.at (by assumption) (by intro hne; first | exact hne | ((try dsimp only at hne); omega))) (by intro hne; first | exact hne | ((try dsimp only at hne); omega)) | exact cw1.at (cw0.at (cu0_1.at0 (by assumption)) (by intro hne; first | exact hne | ((try dsimp only at hne); omega))) (by intro hne; first | exact hne | ((try dsimp only at hne); omega)) | exact cw1.at (cw0.at (cu0_1.at0 (cu0_0.at0 (by assumption))) (by intro hne; first | exact hne | ((try dsimp only at hne); omega))) (by intro hne; first | exact hne | ((try dsimp only at hne); omega))) (by exact ag57) .nil)), ?_⟩
  exact ⟨rfl, ((cu0_0.trans0 cu0_1).trans cw0 (H := fun _ => False) (fun _ _ e => e) (fun q hq e => by (try dsimp only at e); omega)).trans cw1 (H := fun _ => False) (fun _ _ e => e) (fun q hq e => by (try dsimp only at e); omega)⟩
set_option maxHeartbeats 800000 in
theorem put_walk (B b g n c : Nat) (L : List ByteArray) (acc : Bs) (w : World) (hn : n = L.length) (hg : w.heap[g]? = some (.cells (L.map Value.string).toArray 9 (0, 0))) (hgb : g ≠ b) (hb : IsB B b acc w) (hB : B ≤ w.heap.size) (hsz : acc.length + (L.flatMap sb).length ≤ 140737488355328) (hL : L.length ≤ 100) :
    Sg.Ret Tryd.prog 27 #[.slice (some ⟨g, 0, none⟩) n c, .pointer (some ⟨b, 0, none⟩)] w fun v w' => IsB B b (acc ++ L.flatMap sb) w' ∧ BK b B w w' := by
  refine enter0 (n := 14) (l := [.slice (some ⟨g, 0, none⟩) n c, .pointer (some ⟨b, 0, none⟩)]) Tryd.func27 rfl rfl rfl rfl ?_
  refine W.g2 0 1 (v1 := .slice (some ⟨g, 0, none⟩) n c) (v2 := .pointer (some ⟨b, 0, none⟩)) rfl rfl ?_; intro σ s0 s1
  refine W.seq ?_
  refine W.region ?_
  refine WL.x (X.mv (s0)) rfl ?_
  refine WL.x (X.lenSl Tryd.underlying36 (lh)) rfl ?_
  refine WL.x (X.mv lc) rfl ?_
  refine WL.e4 Nx.thn 1 5 6 7 (lt rfl (lt rfl (lt rfl (s1)))) (lt rfl (lt rfl (lh))) (lt rfl (lh)) (lh) ?_
  intro σ1 s1 s5 s6 s7
  refine W.block ?_
  have qo1 := s1
  have qo2 := s5
  have qo3 := s6
  -- loop 0: kept [1, 5, 6], varied [7]
  refine W.loop (G := Nat) (fun k σ' w' => (σ' 1 = σ1 1 ∧ σ' 5 = σ1 5 ∧ σ' 6 = σ1 6 ∧ True) ∧ (σ' 7 = .int .i64 (k : Int) ∧ k ≤ L.length ∧ IsB B b (acc ++ (L.take k).flatMap sb) w' ∧ BK b B w w')) (fun k => L.length - k) (0) ⟨⟨rfl, rfl, rfl, trivial⟩, s7, by omega, (by simpa using hb), BK.ch0 (Ch.refl _ _)⟩ ?_
  rintro k σ2 w1 ⟨⟨f1, f5, f6, _⟩, s7, hk, hbb, hbk⟩
  have s1 := f1.trans qo1
  have s5 := f5.trans qo2
  have s6 := f6.trans qo3
  refine W.seq ?_
  refine W.region ?_
  refine WL.x (X.lss (s7) (s6)) rfl ?_
  refine WL.e5 Nx.thn 1 5 6 7 8 (lt rfl (s1)) (lt rfl (s5)) (lt rfl (s6)) (lt rfl (s7)) (lh) ?_
  intro σ3 s1 s5 s6 s7 s8
  refine W.seq ?_
  refine W.cndp s8 (fun hlt => ?_) (fun hlt => ?_)
  · have hkl : k < L.length := by omega
    have hft := fm_take (f := sb) hkl
    have htl : ((L.take (k + 1)).flatMap sb).length ≤ (L.flatMap sb).length := by
      conv => rhs; rw [← List.take_append_drop (k + 1) L, List.flatMap_append, List.length_append]
      omega
    rw [hft, List.length_append] at htl
    have hkz := sb_len L[k]
    refine W.skip Nx.thn ?_
    refine W.seq ?_
    refine W.block ?_
    refine W.seq ?_
    refine W.region ?_
    refine WL.x (X.indexAddr Tryd.underlying36 el9 (s5) (s7) (by omega) (by omega)) rfl ?_
    refine WL.x (X.load pl9 (lh) (hbk.2 _ _ _ _ hg (by decide) hgb) (v := .string L[k]) (by rw [List.getElem?_toArray, show 0 + (k : Int).toNat * 1 = k by omega, List.getElem?_map, List.getElem?_eq_getElem hkl]; rfl)) rfl ?_
    refine WL.x (X.asg (lh)) rfl ?_
    refine WL.e5 Nx.thn 1 4 5 6 7 (lt rfl (lt rfl (lt rfl (s1)))) (lh) (lt rfl (lt rfl (lt rfl (s5)))) (lt rfl (lt rfl (lt rfl (s6)))) (lt rfl (lt rfl (lt rfl (s7)))) ?_
    intro σ4 s1 s4 s5 s6 s7
    refine W.region ?_
    refine WL.x (X.mv (s4)) rfl ?_
    refine WL.call2 ce28 (lt rfl (s1)) (lh) (ws_ok B b (acc ++ (L.take k).flatMap sb) L[k] w1 hbb (by rw [List.length_append]; omega) (Nat.le_trans hB hbk.1.size)) rfl ?_
    rintro v3 w2 ⟨hb3, hk3⟩
    refine WL.e4 (Nx.blk Nx.thn) 1 5 6 7 (lt rfl (lt rfl (s1))) (lt rfl (lt rfl (s5))) (lt rfl (lt rfl (s6))) (lt rfl (lt rfl (s7))) ?_
    intro σ5 s1 s5 s6 s7
    refine W.region ?_
    first | refine WL.x (X.add (s7) lc (by omega) (by omega)) rfl ?_ | refine WL.x (X.addw (s7) lc) rfl ?_
    refine WL.x (X.mv (lh)) rfl ?_
    refine WL.e4 Nx.thn 1 5 6 7 (lt rfl (lt rfl (s1))) (lt rfl (lt rfl (s5))) (lt rfl (lt rfl (s6))) (lh) ?_
    intro σ6 s1 s5 s6 s7
    refine ⟨k + 1, by omega, ⟨s1.trans qo1.symm, s5.trans qo2.symm, s6.trans qo3.symm, trivial⟩, s7, by omega, (by rw [hft, ← List.append_assoc]; exact hb3), hbk.trans hk3⟩
  · refine W.exit (Nx.xthn (Nx.xthn (Nx.xblk Nx.n0))) ?_
    have hke : k = L.length := by omega
    rw [hke, List.take_length] at hbb
    exact ⟨hbb, hbk⟩
end Go.Proofs.YtjnkpjehpdlcbaaDoor
