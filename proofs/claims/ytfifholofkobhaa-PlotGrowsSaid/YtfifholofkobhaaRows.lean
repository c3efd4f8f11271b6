/-
  No cell of these rows narrows 'for every input' (looked for: loops, veiled, ifaces, maps, wideKeys, modest, calm, conditions, laid).
  DERIVED. THE GIVEN ROWS OF THIS SEAT. 3 by the template 'for every input the law returns true; each argument reads behind the call as it read before'; 0 by the template 'total and deterministic' (their statements: YtfifholofkobhaaTotals.lean).
  GIVEN WITH THE SEED: the statements are not yours to turn. If you find one false, say at which input.
  Laid BY PROGRAM, IN A SANDBOX (cutbox-rows.mjs): the forced cells as the released guide's own fill.sh prints them over the translation a5cc83d2224453ec… (all of the seat's roots in one cut). By AI agents, Wed Nov 11 2026. No macro, syntax, notation, axiom, sorry.
-/
import Derived.Test.YtfifholofkobhaaChecked
import GoSem.Claim
import GoSem.ClaimJoined
import GoSem.ClaimMapViews
import Derived.JoinedTies
import Derived.KernelRfl
namespace Go.Proofs.Ytfifholofkobhaa
/- THE CELL 'sum', in the pinned program and in every row, IS THE sha256 OF THE DUMP (.gsa) THAT YtfifholofkobhaaProg.lean LOADS. Nothing in Lean hashes anything: it is a label: what it is worth is what the hold of that sum in a sandbox is worth. -/
noncomputable def Try.pinned : Pinned := { name := "ytfifholofkobhaa", sum := "a5cc83d2224453ece3786e81cefb9610eeae9d2fb5d59b58d552f7ab1aedb94d", checked := Try.checked }
namespace Rows
def none {H : Type} : Left H := { results := [], args := [] }

/-- 'assayerlaw22.PlotApart': WHATEVER THE INPUT: true; the input reads as it did. -/
def plotApartSpec : ChangeSpec := { name := "plotApart", fn := fun _ => fun
  | [d] => { results := [.lit (.bool true)], args := [d] }
  | _ => none }
def plotApartRow : OpenClaim := { program := "ytfifholofkobhaa", sum := "a5cc83d2224453ece3786e81cefb9610eeae9d2fb5d59b58d552f7ab1aedb94d", func := "assayer/assayerlaw22.PlotApart", spec := "plotApart", apart := false }
def PlotApartSaid : Prop := plotApartRow.holds Try.pinned (OpenSpec.ofChange plotApartSpec)

/-- ITS FALSE NEIGHBOUR: 'it returns false'. Refute it at one input. -/
def plotApartWrong : ChangeSpec := { name := "plotApart", fn := fun _ => fun
  | [d] => { results := [.lit (.bool false)], args := [d] }
  | _ => none }
def PlotApartWrongFalsely : Prop := plotApartRow.holds Try.pinned (OpenSpec.ofChange plotApartWrong)

/-- 'assayerlaw22.PlotSpiral': WHATEVER THE INPUT: true; the input reads as it did. -/
def plotSpiralSpec : ChangeSpec := { name := "plotSpiral", fn := fun _ => fun
  | [d] => { results := [.lit (.bool true)], args := [d] }
  | _ => none }
def plotSpiralRow : OpenClaim := { program := "ytfifholofkobhaa", sum := "a5cc83d2224453ece3786e81cefb9610eeae9d2fb5d59b58d552f7ab1aedb94d", func := "assayer/assayerlaw22.PlotSpiral", spec := "plotSpiral", unfollowed := true, recurses := true, apart := false }
def PlotSpiralSaid : Prop := plotSpiralRow.holds Try.pinned (OpenSpec.ofChange plotSpiralSpec)

/-- ITS FALSE NEIGHBOUR: 'it returns false'. Refute it at one input. -/
def plotSpiralWrong : ChangeSpec := { name := "plotSpiral", fn := fun _ => fun
  | [d] => { results := [.lit (.bool false)], args := [d] }
  | _ => none }
def PlotSpiralWrongFalsely : Prop := plotSpiralRow.holds Try.pinned (OpenSpec.ofChange plotSpiralWrong)

/-- 'assayerlaw22.PlotGrows': WHATEVER THE INPUT: true; the input reads as it did. -/
def plotGrowsSpec : ChangeSpec := { name := "plotGrows", fn := fun _ => fun
  | [d1, d2] => { results := [.lit (.bool true)], args := [d1, d2] }
  | _ => none }
def plotGrowsRow : OpenClaim := { program := "ytfifholofkobhaa", sum := "a5cc83d2224453ece3786e81cefb9610eeae9d2fb5d59b58d552f7ab1aedb94d", func := "assayer/assayerlaw22.PlotGrows", spec := "plotGrows", unfollowed := true, recurses := true, apart := false }
def PlotGrowsSaid : Prop := plotGrowsRow.holds Try.pinned (OpenSpec.ofChange plotGrowsSpec)

/-- ITS FALSE NEIGHBOUR: 'it returns false'. Refute it at one input. -/
def plotGrowsWrong : ChangeSpec := { name := "plotGrows", fn := fun _ => fun
  | [d1, d2] => { results := [.lit (.bool false)], args := [d1, d2] }
  | _ => none }
def PlotGrowsWrongFalsely : Prop := plotGrowsRow.holds Try.pinned (OpenSpec.ofChange plotGrowsWrong)

/- THE SECOND FORM. 'bulk': how many values and letters a reading holds, each counted each time it is reached (what is shared counts as often as it is met; a slice's spare places count too). A statement '..UptoSaid' is the law's where the arguments, and the package variables that the reading takes, are together of bulk at most 1048576: NARROWER than '..Said'. Prove '..Said' where nothing that the law and all that it calls make is longer than what came in: it says more and counts as full. Else prove '..UptoSaid'. A law counts once. -/
mutual
def uptoBulk {H : Type} : DataW H → Nat
  | .lit (.string bytes) => bytes.length + 1
  | .lit _ => 1
  | .nil => 1
  | .ptr d => uptoBulk d + 1
  | .slice elems spare => uptoBulkAll elems + uptoBulkAll spare + 1
  | .agg parts => uptoBulkAll parts + 1
  | .iface _ d => uptoBulk d + 1
  | .map entries => uptoBulkEntries entries + 1
  | .held _ => 1
def uptoBulkAll {H : Type} : List (DataW H) → Nat
  | [] => 0
  | d :: r => uptoBulk d + uptoBulkAll r
def uptoBulkEntries {H : Type} : List (Lit × DataW H) → Nat
  | [] => 0
  | x :: r => uptoBulkEntry x + uptoBulkEntries r
def uptoBulkEntry {H : Type} : Lit × DataW H → Nat
  | (.string bytes, d) => bytes.length + uptoBulk d + 1
  | (_, d) => uptoBulk d + 1
 end
def uptoSmall : (H : Type) → List (DataW H) → Bool := fun _ ds => decide (uptoBulkAll ds ≤ 1048576)
def OpenSpec.upto (s : _root_.Go.ChangeSpec) : _root_.Go.OpenSpec := { _root_.Go.OpenSpec.ofChange s with cond := some uptoSmall }

/-- 'assayerlaw22.PlotApart', WHERE WHAT IT READS IS OF BULK AT MOST 1048576: true; the input reads as it did. -/
def plotApartUptoRow : OpenClaim := { program := "ytfifholofkobhaa", sum := "a5cc83d2224453ece3786e81cefb9610eeae9d2fb5d59b58d552f7ab1aedb94d", func := "assayer/assayerlaw22.PlotApart", spec := "plotApart", apart := false, narrowed := true }
def PlotApartUptoSaid : Prop := plotApartUptoRow.holds Try.pinned (OpenSpec.upto plotApartSpec)

/-- 'assayerlaw22.PlotSpiral', WHERE WHAT IT READS IS OF BULK AT MOST 1048576: true; the input reads as it did. -/
def plotSpiralUptoRow : OpenClaim := { program := "ytfifholofkobhaa", sum := "a5cc83d2224453ece3786e81cefb9610eeae9d2fb5d59b58d552f7ab1aedb94d", func := "assayer/assayerlaw22.PlotSpiral", spec := "plotSpiral", unfollowed := true, recurses := true, apart := false, narrowed := true }
def PlotSpiralUptoSaid : Prop := plotSpiralUptoRow.holds Try.pinned (OpenSpec.upto plotSpiralSpec)

/-- 'assayerlaw22.PlotGrows', WHERE WHAT IT READS IS OF BULK AT MOST 1048576: true; the input reads as it did. -/
def plotGrowsUptoRow : OpenClaim := { program := "ytfifholofkobhaa", sum := "a5cc83d2224453ece3786e81cefb9610eeae9d2fb5d59b58d552f7ab1aedb94d", func := "assayer/assayerlaw22.PlotGrows", spec := "plotGrows", unfollowed := true, recurses := true, apart := false, narrowed := true }
def PlotGrowsUptoSaid : Prop := plotGrowsUptoRow.holds Try.pinned (OpenSpec.upto plotGrowsSpec)

end Rows
end Go.Proofs.Ytfifholofkobhaa
