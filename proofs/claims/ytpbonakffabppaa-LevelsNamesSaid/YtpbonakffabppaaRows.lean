/-
  No cell of these rows narrows 'for every input' (looked for: loops, veiled, ifaces, maps, wideKeys, modest, calm, conditions, laid).
  DERIVED. THE GIVEN ROWS OF THIS SEAT. 2 by the template 'for every input the law returns true; each argument reads behind the call as it read before'; 0 by the template 'total and deterministic' (their statements: YtpbonakffabppaaTotals.lean).
  GIVEN WITH THE SEED: the statements are not yours to turn. If you find one false, say at which input.
  Laid BY PROGRAM, IN A SANDBOX (cutbox-rows.mjs): the forced cells as the released guide's own fill.sh prints them over the translation 6d43b0849d240be3… (all of the seat's roots in one cut). By AI agents, Wed Nov 11 2026. No macro, syntax, notation, axiom, sorry.
-/
import Derived.Test.YtpbonakffabppaaChecked
import GoSem.Claim
import GoSem.ClaimJoined
import GoSem.ClaimMapViews
import Derived.JoinedTies
import Derived.KernelRfl
namespace Go.Proofs.Ytpbonakffabppaa
/- THE CELL 'sum', in the pinned program and in every row, IS THE sha256 OF THE DUMP (.gsa) THAT YtpbonakffabppaaProg.lean LOADS. Nothing in Lean hashes anything: it is a label: what it is worth is what the hold of that sum in a sandbox is worth. -/
noncomputable def Try.pinned : Pinned := { name := "ytpbonakffabppaa", sum := "6d43b0849d240be358caaa8ebf1c99a36e57ea09600feb2676f0de88d3fa56e7", checked := Try.checked }
namespace Rows
def none {H : Type} : Left H := { results := [], args := [] }

/-- 'assayerlaw18.LevelsLowest': WHATEVER THE INPUT: true; the input reads as it did. -/
def levelsLowestSpec : ChangeSpec := { name := "levelsLowest", fn := fun _ => fun
  | [d1, d2, d3] => { results := [.lit (.bool true)], args := [d1, d2, d3] }
  | _ => none }
def levelsLowestRow : OpenClaim := { program := "ytpbonakffabppaa", sum := "6d43b0849d240be358caaa8ebf1c99a36e57ea09600feb2676f0de88d3fa56e7", func := "assayer/assayerlaw18.LevelsLowest", spec := "levelsLowest", apart := false }
def LevelsLowestSaid : Prop := levelsLowestRow.holds Try.pinned (OpenSpec.ofChange levelsLowestSpec)

/-- ITS FALSE NEIGHBOUR: 'it returns false'. Refute it at one input. -/
def levelsLowestWrong : ChangeSpec := { name := "levelsLowest", fn := fun _ => fun
  | [d1, d2, d3] => { results := [.lit (.bool false)], args := [d1, d2, d3] }
  | _ => none }
def LevelsLowestWrongFalsely : Prop := levelsLowestRow.holds Try.pinned (OpenSpec.ofChange levelsLowestWrong)

/-- 'assayerlaw18.LevelsNames': WHATEVER THE INPUT: true; the input reads as it did. -/
def levelsNamesSpec : ChangeSpec := { name := "levelsNames", fn := fun _ => fun
  | [d1, d2] => { results := [.lit (.bool true)], args := [d1, d2] }
  | _ => none }
def levelsNamesRow : OpenClaim := { program := "ytpbonakffabppaa", sum := "6d43b0849d240be358caaa8ebf1c99a36e57ea09600feb2676f0de88d3fa56e7", func := "assayer/assayerlaw18.LevelsNames", spec := "levelsNames", apart := false }
def LevelsNamesSaid : Prop := levelsNamesRow.holds Try.pinned (OpenSpec.ofChange levelsNamesSpec)

/-- ITS FALSE NEIGHBOUR: 'it returns false'. Refute it at one input. -/
def levelsNamesWrong : ChangeSpec := { name := "levelsNames", fn := fun _ => fun
  | [d1, d2] => { results := [.lit (.bool false)], args := [d1, d2] }
  | _ => none }
def LevelsNamesWrongFalsely : Prop := levelsNamesRow.holds Try.pinned (OpenSpec.ofChange levelsNamesWrong)

/- THE SECOND FORM. 'bulk': how many values and letters a reading holds, each counted each time it is reached (what is shared counts as often as it is met; a slice's spare places count too). A statement '..UptoSaid' is the law's where the arguments, and the package variables that the reading takes, are together of bulk at most 1048576: NARROWER than '..Said'. Prove '..Said' where nothing that the law and all that it calls make is longer than what came in: it says more and counts as full. Else prove '..UptoSaid'. A law counts once. -/
mutual
def uptoBulk {H : Type} : DataW H → Nat
  | .lit (.string bytes) => bytes.length + 1
  | .lit _ => 1
  | .nil => 1
  | .ptr d => uptoBulk d + 1
  | .slice elems spare => uptoBulkAll elems + uptoBulkAll spare + 1
  | .agg parts => uptoBulkAll parts + 1
  | .iface _ d => uptoBulk d + 1
  | .map entries => uptoBulkEntries entries + 1
  | .held _ => 1
def uptoBulkAll {H : Type} : List (DataW H) → Nat
  | [] => 0
  | d :: r => uptoBulk d + uptoBulkAll r
def uptoBulkEntries {H : Type} : List (Lit × DataW H) → Nat
  | [] => 0
  | x :: r => uptoBulkEntry x + uptoBulkEntries r
def uptoBulkEntry {H : Type} : Lit × DataW H → Nat
  | (.string bytes, d) => bytes.length + uptoBulk d + 1
  | (_, d) => uptoBulk d + 1
 end
def uptoSmall : (H : Type) → List (DataW H) → Bool := fun _ ds => decide (uptoBulkAll ds ≤ 1048576)
def OpenSpec.upto (s : _root_.Go.ChangeSpec) : _root_.Go.OpenSpec := { _root_.Go.OpenSpec.ofChange s with cond := some uptoSmall }

/-- 'assayerlaw18.LevelsLowest', WHERE WHAT IT READS IS OF BULK AT MOST 1048576: true; the input reads as it did. -/
def levelsLowestUptoRow : OpenClaim := { program := "ytpbonakffabppaa", sum := "6d43b0849d240be358caaa8ebf1c99a36e57ea09600feb2676f0de88d3fa56e7", func := "assayer/assayerlaw18.LevelsLowest", spec := "levelsLowest", apart := false, narrowed := true }
def LevelsLowestUptoSaid : Prop := levelsLowestUptoRow.holds Try.pinned (OpenSpec.upto levelsLowestSpec)

/-- 'assayerlaw18.LevelsNames', WHERE WHAT IT READS IS OF BULK AT MOST 1048576: true; the input reads as it did. -/
def levelsNamesUptoRow : OpenClaim := { program := "ytpbonakffabppaa", sum := "6d43b0849d240be358caaa8ebf1c99a36e57ea09600feb2676f0de88d3fa56e7", func := "assayer/assayerlaw18.LevelsNames", spec := "levelsNames", apart := false, narrowed := true }
def LevelsNamesUptoSaid : Prop := levelsNamesUptoRow.holds Try.pinned (OpenSpec.upto levelsNamesSpec)

end Rows
end Go.Proofs.Ytpbonakffabppaa
