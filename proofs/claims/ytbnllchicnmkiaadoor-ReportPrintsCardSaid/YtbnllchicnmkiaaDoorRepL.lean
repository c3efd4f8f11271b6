/-
  A report's text with blanks and ends of lines put in behind every end of a line is read as the report.
-/
import Derived.Test.YtbnllchicnmkiaaDoorRepT
import Derived.Test.YtbnllchicnmkiaaDoorHistL
set_option linter.unusedVariables false
set_option linter.unusedSimpArgs false
namespace Sg
open Go
theorem pad_sp : PadL [32] := fun i r => ⟨[], (fun _ h => by cases h), by
  show scanX i (32 :: r) = aft [] (scanX (i + 1) r)
  rw [scanX_blank (l := 32 :: r) (by simp) rfl]
  show scanX (i + 1) r = _
  cases scanX (i + 1) r <;> rfl⟩
theorem pad_sp2 : PadL [32, 32] := pad_app pad_sp pad_sp
theorem pad_bl2 : PadL [32, 10, 10] := pad_app pad_bl pad_nl
theorem rep_pad {r : QRep} {may : QRep → Bool} {pad : Bs} (hp : PadL pad) (h : OkQ r) (hm : may r = true) (hlen : (pad ++ rep pad (repT r)).length ≤ 20000) : ∃ us, scanA (pad ++ rep pad (repT r)) = .ok us ∧ repP fR may us = some r := by
  have hl := rep_len pad (repT r)
  obtain ⟨ts, h1, h2⟩ := rep_back h hm (by rw [List.length_append] at hlen; omega)
  have h3 := scan_pad hp hlen
  rw [h1] at h3
  cases hq : scanA (pad ++ rep pad (repT r)) with
  | error e => rw [hq] at h3; exact h3.elim
  | ok us => rw [hq] at h3; exact ⟨us, rfl, by rw [rep_alike h3, h2]⟩
end Sg
