/-
  A part of the walk of the program.
-/
import Derived.Test.YtjnkpjehpdlcbaaDoorFacts
set_option linter.unusedVariables false
set_option linter.unusedSimpArgs false
set_option maxRecDepth 100000
namespace Go.Proofs.YtjnkpjehpdlcbaaDoor
open Go Go.RowKit Sg
theorem words_ok (w : World) :
    Sg.Ret Tryd.prog 26 #[] w fun v w' => v = .tuple #[.agg #[.string ⟨#[]⟩, .string ⟨#[105, 110, 118, 111, 107, 101]⟩, .string ⟨#[111, 107]⟩, .string ⟨#[102, 97, 105, 108]⟩, .string ⟨#[105, 110, 102, 111]⟩], .agg #[.string ⟨#[]⟩, .string ⟨#[97, 112, 112, 101, 110, 100]⟩, .string ⟨#[114, 101, 97, 100]⟩, .string ⟨#[119, 114, 105, 116, 101]⟩, .string ⟨#[103, 101, 116]⟩]] ∧ Ch0 w w' := by
  refine enterG (n := 4) (l := []) Tryd.func26 rfl rfl rfl rfl ?_
  refine W.g0 ?_; intro σ
  refine W.seq ?_
  refine W.region ?_
  refine WL.alloc el57 rfl ?_
  intro w1 u0_0; have hu0_0 := u0_0.at_; have cu0_0 := u0_0.ch; have zu0_0 := u0_0.size
  refine WL.alloc el57 rfl ?_
  intro w2 u0_1; have hu0_1 := u0_1.at_; have cu0_1 := u0_1.ch; have zu0_1 := u0_1.size
  refine WL.e2 Nx.thn 0 1 (lt rfl (lh)) (lh) ?_
  intro σ1 s0 s1
  refine W.seq ?_
  refine W.region ?_
  refine WL.x (X.build bd57 (pcons lc (pcons lc (pcons lc (pcons lc (pcons lc pnil))))) rfl (rfl : _ = [_, _, _, _, _])) rfl ?_
  refine WL.x (X.build bd57 (pcons lc (pcons lc (pcons lc (pcons lc (pcons lc pnil))))) rfl (rfl : _ = [_, _, _, _, _])) rfl ?_
  refine WL.storeS (vs := [.string ⟨#[]⟩, .string ⟨#[105, 110, 118, 111, 107, 101]⟩, .string ⟨#[111, 107]⟩, .string ⟨#[102, 97, 105, 108]⟩, .string ⟨#[105, 110, 102, 111]⟩]) ag57 (lt rfl (lt rfl (s0))) (lt rfl (lh)) rfl rfl (by first | exact cu0_1.at0 hu0_0 | exact hu0_0) (by decide) ?_
  intro w3 us
  have hw0 : w3.heap[_]? = some (Obj.cells #[.string ⟨#[]⟩, .string ⟨#[105, 110, 118, 111, 107, 101]⟩, .string ⟨#[111, 107]⟩, .string ⟨#[102, 97, 105, 108]⟩, .string ⟨#[105, 110, 102, 111]⟩] 57 (0, 0)) := us.at_
  have cw0 := us.ch
  refine WL.storeS (vs := [.string ⟨#[]⟩, .string ⟨#[97, 112, 112, 101, 110, 100]⟩, .string ⟨#[114, 101, 97, 100]⟩, .string ⟨#[119, 114, 105, 116, 101]⟩, .string ⟨#[103, 101, 116]⟩]) ag57 (lt rfl (lt rfl (s1))) (lh) rfl rfl (cw0.at (by first | exact hu0_1 | exact cu0_0.at0 hu0_1) (fun e => by (try dsimp only at e); omega)) (by decide) ?_
  intro w4 us
  have hw1 : w4.heap[_]? = some (Obj.cells #[.string ⟨#[]⟩, .string ⟨#[97, 112, 112, 101, 110, 100]⟩, .string ⟨#[114, 101, 97, 100]⟩, .string ⟨#[119, 114, 105, 116, 101]⟩, .string ⟨#[103, 101, 116]⟩] 57 (0, 0)) := us.at_
  have cw1 := us.ch
  have hw0 := cw1.at hw0 (fun e => by (try dsimp only at e); omega)
  refine WL.e2 Nx.thn 0 1 (lt rfl (lt rfl (s0))) (lt rfl (lt rfl (s1))) ?_
  intro σ2 s0 s1
  refine W.retG Nx.fG ⟨[_, _], (.cell s0 (by first | assumption | exact cw1.at (by assumption) (by intro hne; first | exact hne | ((try dsimp only at hne); omega)) | exact cw1.at (cw0.at (by assumption) (by intro hne; first | exact hne | ((try dsimp only at hne); omega))) (by intro hne; first | exact hne | ((try dsimp only at hne); omega)) | exact cw1.at (cw0.at (cu0_1.at0 (by assumption)) (by intro hne; first | exact hne | ((try dsimp only at hne); omega))) (by intro hne; first | exact hne | ((try dsimp only at hne); omega)) | exact cw1.at (cw0.at (cu0_1.at0 (cu0_0.at0 (by assumption))) (by intro hne; first | exact hne | ((try dsimp only at hne); omega))) (by intro hne; first | exact hne | ((try dsimp only at hne); omega))) (by exact ag57) (.cell s1 (by first | assumption | exact cw1.at (by assumption) (by intro hne; first | exact hne | ((try dsimp only at hne); omega)) | exact cw1.at (cw0.at (by assumption) (by intro hne; first | exact hne | ((try dsimp only at hne); omega))) (by intro hne; first | exact hne | ((try dsimp only at hne); omega)) | exact cw1.at (cw0.at (cu0_1.at0 (by assumption)) (by intro hne; first | exact hne | ((try dsimp only at hne); omega))) (by intro hne; first | exact hne | ((try dsimp only at hne); omega)) | exact cw1.at (cw0.at (cu0_1.at0 (cu0_0.at0 (by assumption))) (by intro hne; first | exact hne | ((try dsimp only at hne); omega))) (by intro hne; first | exact hne | ((try dsimp only at hne); omega))) (by exact ag57) .nil)), ?_⟩
  exact ⟨rfl, ((cu0_0.trans0 cu0_1).trans cw0 (H := fun _ => False) (fun _ _ e => e) (fun q hq e => by (try dsimp only at e); omega)).trans cw1 (H := fun _ => False) (fun _ _ e => e) (fun q hq e => by (try dsimp only at e); omega)⟩
end Go.Proofs.YtjnkpjehpdlcbaaDoor
