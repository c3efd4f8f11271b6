/-
  NARROWER THAN 'FOR EVERY INPUT', by the rows' own cells (each row's printed sentence says how): PathsBetween: laid · PathsReach: laid · PathsTurned: laid · PathsSimple: laid · PathsLine: laid · PathsTell: laid.
  DERIVED. THE GIVEN ROWS OF THIS SEAT. 6 by the template 'for every input the law returns true; each argument reads behind the call as it read before'; 0 by the template 'total and deterministic' (their statements: YtaldkbdnefpklaaDoorTotals.lean).
  GIVEN WITH THE SEED: the statements are not yours to turn. If you find one false, say at which input.
  Laid BY PROGRAM, IN A SANDBOX (cutbox-rows.mjs): the forced cells as the released guide's own fill.sh prints them over the translation 4e94e7ccbbe844e1… (all of the seat's roots in one cut). By AI agents, Wed Nov 11 2026. No macro, syntax, notation, axiom, sorry.
-/
import Derived.Test.YtaldkbdnefpklaaDoorChecked
import GoSem.Claim
import GoSem.ClaimJoined
import GoSem.ClaimMapViews
import Derived.JoinedTies
import Derived.KernelRfl
namespace Go.Proofs.YtaldkbdnefpklaaDoor
/- THE CELL 'sum', in the pinned program and in every row, IS THE sha256 OF THE DUMP (.gsa) THAT YtaldkbdnefpklaaDoorProg.lean LOADS. Nothing in Lean hashes anything: it is a label: what it is worth is what the hold of that sum in a sandbox is worth. -/
noncomputable def Tryd.pinned : Pinned := { name := "ytaldkbdnefpklaadoor", sum := "4e94e7ccbbe844e15d77d0d636a31212e064ae27039bb9e9f7822052e4df2af4", checked := Tryd.checked }
namespace Rows
def none {H : Type} : Left H := { results := [], args := [] }

/- WHAT THE LISTED PACKAGE-LEVEL VARIABLES READ AS WHEN THE CALL BEGINS. Each datum BY PROGRAM (the guide's laid-datum.mjs) off the statement by which the dump's own 'gosem.cut.vars' lays the variable. In a bare row this is a premise. The card (YtaldkbdnefpklaaDoorCards.lean) ties it to the program's text. -/
def laid_math_bits_deBruijn64tab {H : Type} : DataW H := .agg [.lit (.int .u8 0), .lit (.int .u8 1), .lit (.int .u8 56), .lit (.int .u8 2), .lit (.int .u8 57), .lit (.int .u8 49), .lit (.int .u8 28), .lit (.int .u8 3), .lit (.int .u8 61), .lit (.int .u8 58), .lit (.int .u8 42), .lit (.int .u8 50), .lit (.int .u8 38), .lit (.int .u8 29), .lit (.int .u8 17), .lit (.int .u8 4), .lit (.int .u8 62), .lit (.int .u8 47), .lit (.int .u8 59), .lit (.int .u8 36), .lit (.int .u8 45), .lit (.int .u8 43), .lit (.int .u8 51), .lit (.int .u8 22), .lit (.int .u8 53), .lit (.int .u8 39), .lit (.int .u8 33), .lit (.int .u8 30), .lit (.int .u8 24), .lit (.int .u8 18), .lit (.int .u8 12), .lit (.int .u8 5), .lit (.int .u8 63), .lit (.int .u8 55), .lit (.int .u8 48), .lit (.int .u8 27), .lit (.int .u8 60), .lit (.int .u8 41), .lit (.int .u8 37), .lit (.int .u8 16), .lit (.int .u8 46), .lit (.int .u8 35), .lit (.int .u8 44), .lit (.int .u8 21), .lit (.int .u8 52), .lit (.int .u8 32), .lit (.int .u8 23), .lit (.int .u8 11), .lit (.int .u8 54), .lit (.int .u8 26), .lit (.int .u8 40), .lit (.int .u8 15), .lit (.int .u8 34), .lit (.int .u8 20), .lit (.int .u8 31), .lit (.int .u8 10), .lit (.int .u8 25), .lit (.int .u8 14), .lit (.int .u8 19), .lit (.int .u8 9), .lit (.int .u8 13), .lit (.int .u8 8), .lit (.int .u8 7), .lit (.int .u8 6)]

/-- 'assayerlaw08.PathsBetween': WHATEVER THE INPUT: true; the input reads as it did. -/
def pathsBetweenSpec : ChangeSpec := { name := "pathsBetween", fn := fun _ => fun
  | [d1, d2, d3, d4, d5, d6] => { results := [.lit (.bool true)], args := [d1, d2, d3, d4, d5, d6] }
  | _ => none }
def pathsBetweenRow : OpenClaim := { program := "ytaldkbdnefpklaadoor", sum := "4e94e7ccbbe844e15d77d0d636a31212e064ae27039bb9e9f7822052e4df2af4", func := "assayer/assayerlaw08.PathsBetween", spec := "pathsBetween", unfollowed := true, recurses := true, named := ["math/bits.deBruijn64tab"], apart := false, laid := [("math/bits.deBruijn64tab", laid_math_bits_deBruijn64tab)] }
def PathsBetweenSaid : Prop := pathsBetweenRow.holds Tryd.pinned (OpenSpec.ofChange pathsBetweenSpec)

/-- ITS FALSE NEIGHBOUR: 'it returns false'. Refute it at one input. -/
def pathsBetweenWrong : ChangeSpec := { name := "pathsBetween", fn := fun _ => fun
  | [d1, d2, d3, d4, d5, d6] => { results := [.lit (.bool false)], args := [d1, d2, d3, d4, d5, d6] }
  | _ => none }
def PathsBetweenWrongFalsely : Prop := pathsBetweenRow.holds Tryd.pinned (OpenSpec.ofChange pathsBetweenWrong)

/-- 'assayerlaw08.PathsReach': WHATEVER THE INPUT: true; the input reads as it did. -/
def pathsReachSpec : ChangeSpec := { name := "pathsReach", fn := fun _ => fun
  | [d1, d2, d3, d4] => { results := [.lit (.bool true)], args := [d1, d2, d3, d4] }
  | _ => none }
def pathsReachRow : OpenClaim := { program := "ytaldkbdnefpklaadoor", sum := "4e94e7ccbbe844e15d77d0d636a31212e064ae27039bb9e9f7822052e4df2af4", func := "assayer/assayerlaw08.PathsReach", spec := "pathsReach", unfollowed := true, recurses := true, named := ["math/bits.deBruijn64tab"], apart := false, laid := [("math/bits.deBruijn64tab", laid_math_bits_deBruijn64tab)] }
def PathsReachSaid : Prop := pathsReachRow.holds Tryd.pinned (OpenSpec.ofChange pathsReachSpec)

/-- ITS FALSE NEIGHBOUR: 'it returns false'. Refute it at one input. -/
def pathsReachWrong : ChangeSpec := { name := "pathsReach", fn := fun _ => fun
  | [d1, d2, d3, d4] => { results := [.lit (.bool false)], args := [d1, d2, d3, d4] }
  | _ => none }
def PathsReachWrongFalsely : Prop := pathsReachRow.holds Tryd.pinned (OpenSpec.ofChange pathsReachWrong)

/-- 'assayerlaw08.PathsTurned': WHATEVER THE INPUT: true; the input reads as it did. -/
def pathsTurnedSpec : ChangeSpec := { name := "pathsTurned", fn := fun _ => fun
  | [d1, d2, d3, d4, d5] => { results := [.lit (.bool true)], args := [d1, d2, d3, d4, d5] }
  | _ => none }
def pathsTurnedRow : OpenClaim := { program := "ytaldkbdnefpklaadoor", sum := "4e94e7ccbbe844e15d77d0d636a31212e064ae27039bb9e9f7822052e4df2af4", func := "assayer/assayerlaw08.PathsTurned", spec := "pathsTurned", unfollowed := true, recurses := true, named := ["math/bits.deBruijn64tab"], apart := false, laid := [("math/bits.deBruijn64tab", laid_math_bits_deBruijn64tab)] }
def PathsTurnedSaid : Prop := pathsTurnedRow.holds Tryd.pinned (OpenSpec.ofChange pathsTurnedSpec)

/-- ITS FALSE NEIGHBOUR: 'it returns false'. Refute it at one input. -/
def pathsTurnedWrong : ChangeSpec := { name := "pathsTurned", fn := fun _ => fun
  | [d1, d2, d3, d4, d5] => { results := [.lit (.bool false)], args := [d1, d2, d3, d4, d5] }
  | _ => none }
def PathsTurnedWrongFalsely : Prop := pathsTurnedRow.holds Tryd.pinned (OpenSpec.ofChange pathsTurnedWrong)

/-- 'assayerlaw08.PathsSimple': WHATEVER THE INPUT: true; the input reads as it did. -/
def pathsSimpleSpec : ChangeSpec := { name := "pathsSimple", fn := fun _ => fun
  | [d1, d2, d3, d4, d5] => { results := [.lit (.bool true)], args := [d1, d2, d3, d4, d5] }
  | _ => none }
def pathsSimpleRow : OpenClaim := { program := "ytaldkbdnefpklaadoor", sum := "4e94e7ccbbe844e15d77d0d636a31212e064ae27039bb9e9f7822052e4df2af4", func := "assayer/assayerlaw08.PathsSimple", spec := "pathsSimple", unfollowed := true, recurses := true, named := ["math/bits.deBruijn64tab"], apart := false, laid := [("math/bits.deBruijn64tab", laid_math_bits_deBruijn64tab)] }
def PathsSimpleSaid : Prop := pathsSimpleRow.holds Tryd.pinned (OpenSpec.ofChange pathsSimpleSpec)

/-- ITS FALSE NEIGHBOUR: 'it returns false'. Refute it at one input. -/
def pathsSimpleWrong : ChangeSpec := { name := "pathsSimple", fn := fun _ => fun
  | [d1, d2, d3, d4, d5] => { results := [.lit (.bool false)], args := [d1, d2, d3, d4, d5] }
  | _ => none }
def PathsSimpleWrongFalsely : Prop := pathsSimpleRow.holds Tryd.pinned (OpenSpec.ofChange pathsSimpleWrong)

/-- 'assayerlaw08.PathsLine': WHATEVER THE INPUT: true; the input reads as it did. -/
def pathsLineSpec : ChangeSpec := { name := "pathsLine", fn := fun _ => fun
  | [d1, d2, d3] => { results := [.lit (.bool true)], args := [d1, d2, d3] }
  | _ => none }
def pathsLineRow : OpenClaim := { program := "ytaldkbdnefpklaadoor", sum := "4e94e7ccbbe844e15d77d0d636a31212e064ae27039bb9e9f7822052e4df2af4", func := "assayer/assayerlaw08.PathsLine", spec := "pathsLine", unfollowed := true, recurses := true, named := ["math/bits.deBruijn64tab"], apart := false, laid := [("math/bits.deBruijn64tab", laid_math_bits_deBruijn64tab)] }
def PathsLineSaid : Prop := pathsLineRow.holds Tryd.pinned (OpenSpec.ofChange pathsLineSpec)

/-- ITS FALSE NEIGHBOUR: 'it returns false'. Refute it at one input. -/
def pathsLineWrong : ChangeSpec := { name := "pathsLine", fn := fun _ => fun
  | [d1, d2, d3] => { results := [.lit (.bool false)], args := [d1, d2, d3] }
  | _ => none }
def PathsLineWrongFalsely : Prop := pathsLineRow.holds Tryd.pinned (OpenSpec.ofChange pathsLineWrong)

/-- 'assayerlaw08.PathsTell': WHATEVER THE INPUT: true; the input reads as it did. -/
def pathsTellSpec : ChangeSpec := { name := "pathsTell", fn := fun _ => fun
  | [d1, d2, d3, d4, d5] => { results := [.lit (.bool true)], args := [d1, d2, d3, d4, d5] }
  | _ => none }
def pathsTellRow : OpenClaim := { program := "ytaldkbdnefpklaadoor", sum := "4e94e7ccbbe844e15d77d0d636a31212e064ae27039bb9e9f7822052e4df2af4", func := "assayer/assayerlaw08.PathsTell", spec := "pathsTell", unfollowed := true, recurses := true, named := ["math/bits.deBruijn64tab"], apart := false, laid := [("math/bits.deBruijn64tab", laid_math_bits_deBruijn64tab)] }
def PathsTellSaid : Prop := pathsTellRow.holds Tryd.pinned (OpenSpec.ofChange pathsTellSpec)

/-- ITS FALSE NEIGHBOUR: 'it returns false'. Refute it at one input. -/
def pathsTellWrong : ChangeSpec := { name := "pathsTell", fn := fun _ => fun
  | [d1, d2, d3, d4, d5] => { results := [.lit (.bool false)], args := [d1, d2, d3, d4, d5] }
  | _ => none }
def PathsTellWrongFalsely : Prop := pathsTellRow.holds Tryd.pinned (OpenSpec.ofChange pathsTellWrong)

/- THE SECOND FORM. 'bulk': how many values and letters a reading holds, each counted each time it is reached (what is shared counts as often as it is met; a slice's spare places count too). A statement '..UptoSaid' is the law's where the arguments, and the package variables that the reading takes, are together of bulk at most 1048576: NARROWER than '..Said'. Prove '..Said' where nothing that the law and all that it calls make is longer than what came in: it says more and counts as full. Else prove '..UptoSaid'. A law counts once. -/
mutual
def uptoBulk {H : Type} : DataW H → Nat
  | .lit (.string bytes) => bytes.length + 1
  | .lit _ => 1
  | .nil => 1
  | .ptr d => uptoBulk d + 1
  | .slice elems spare => uptoBulkAll elems + uptoBulkAll spare + 1
  | .agg parts => uptoBulkAll parts + 1
  | .iface _ d => uptoBulk d + 1
  | .map entries => uptoBulkEntries entries + 1
  | .held _ => 1
def uptoBulkAll {H : Type} : List (DataW H) → Nat
  | [] => 0
  | d :: r => uptoBulk d + uptoBulkAll r
def uptoBulkEntries {H : Type} : List (Lit × DataW H) → Nat
  | [] => 0
  | x :: r => uptoBulkEntry x + uptoBulkEntries r
def uptoBulkEntry {H : Type} : Lit × DataW H → Nat
  | (.string bytes, d) => bytes.length + uptoBulk d + 1
  | (_, d) => uptoBulk d + 1
 end
def uptoSmall : (H : Type) → List (DataW H) → Bool := fun _ ds => decide (uptoBulkAll ds ≤ 1048576)
def OpenSpec.upto (s : _root_.Go.ChangeSpec) : _root_.Go.OpenSpec := { _root_.Go.OpenSpec.ofChange s with cond := some uptoSmall }

/-- 'assayerlaw08.PathsBetween', WHERE WHAT IT READS IS OF BULK AT MOST 1048576: true; the input reads as it did. -/
def pathsBetweenUptoRow : OpenClaim := { program := "ytaldkbdnefpklaadoor", sum := "4e94e7ccbbe844e15d77d0d636a31212e064ae27039bb9e9f7822052e4df2af4", func := "assayer/assayerlaw08.PathsBetween", spec := "pathsBetween", unfollowed := true, recurses := true, named := ["math/bits.deBruijn64tab"], apart := false, laid := [("math/bits.deBruijn64tab", laid_math_bits_deBruijn64tab)], narrowed := true }
def PathsBetweenUptoSaid : Prop := pathsBetweenUptoRow.holds Tryd.pinned (OpenSpec.upto pathsBetweenSpec)

/-- 'assayerlaw08.PathsReach', WHERE WHAT IT READS IS OF BULK AT MOST 1048576: true; the input reads as it did. -/
def pathsReachUptoRow : OpenClaim := { program := "ytaldkbdnefpklaadoor", sum := "4e94e7ccbbe844e15d77d0d636a31212e064ae27039bb9e9f7822052e4df2af4", func := "assayer/assayerlaw08.PathsReach", spec := "pathsReach", unfollowed := true, recurses := true, named := ["math/bits.deBruijn64tab"], apart := false, laid := [("math/bits.deBruijn64tab", laid_math_bits_deBruijn64tab)], narrowed := true }
def PathsReachUptoSaid : Prop := pathsReachUptoRow.holds Tryd.pinned (OpenSpec.upto pathsReachSpec)

/-- 'assayerlaw08.PathsTurned', WHERE WHAT IT READS IS OF BULK AT MOST 1048576: true; the input reads as it did. -/
def pathsTurnedUptoRow : OpenClaim := { program := "ytaldkbdnefpklaadoor", sum := "4e94e7ccbbe844e15d77d0d636a31212e064ae27039bb9e9f7822052e4df2af4", func := "assayer/assayerlaw08.PathsTurned", spec := "pathsTurned", unfollowed := true, recurses := true, named := ["math/bits.deBruijn64tab"], apart := false, laid := [("math/bits.deBruijn64tab", laid_math_bits_deBruijn64tab)], narrowed := true }
def PathsTurnedUptoSaid : Prop := pathsTurnedUptoRow.holds Tryd.pinned (OpenSpec.upto pathsTurnedSpec)

/-- 'assayerlaw08.PathsSimple', WHERE WHAT IT READS IS OF BULK AT MOST 1048576: true; the input reads as it did. -/
def pathsSimpleUptoRow : OpenClaim := { program := "ytaldkbdnefpklaadoor", sum := "4e94e7ccbbe844e15d77d0d636a31212e064ae27039bb9e9f7822052e4df2af4", func := "assayer/assayerlaw08.PathsSimple", spec := "pathsSimple", unfollowed := true, recurses := true, named := ["math/bits.deBruijn64tab"], apart := false, laid := [("math/bits.deBruijn64tab", laid_math_bits_deBruijn64tab)], narrowed := true }
def PathsSimpleUptoSaid : Prop := pathsSimpleUptoRow.holds Tryd.pinned (OpenSpec.upto pathsSimpleSpec)

/-- 'assayerlaw08.PathsLine', WHERE WHAT IT READS IS OF BULK AT MOST 1048576: true; the input reads as it did. -/
def pathsLineUptoRow : OpenClaim := { program := "ytaldkbdnefpklaadoor", sum := "4e94e7ccbbe844e15d77d0d636a31212e064ae27039bb9e9f7822052e4df2af4", func := "assayer/assayerlaw08.PathsLine", spec := "pathsLine", unfollowed := true, recurses := true, named := ["math/bits.deBruijn64tab"], apart := false, laid := [("math/bits.deBruijn64tab", laid_math_bits_deBruijn64tab)], narrowed := true }
def PathsLineUptoSaid : Prop := pathsLineUptoRow.holds Tryd.pinned (OpenSpec.upto pathsLineSpec)

/-- 'assayerlaw08.PathsTell', WHERE WHAT IT READS IS OF BULK AT MOST 1048576: true; the input reads as it did. -/
def pathsTellUptoRow : OpenClaim := { program := "ytaldkbdnefpklaadoor", sum := "4e94e7ccbbe844e15d77d0d636a31212e064ae27039bb9e9f7822052e4df2af4", func := "assayer/assayerlaw08.PathsTell", spec := "pathsTell", unfollowed := true, recurses := true, named := ["math/bits.deBruijn64tab"], apart := false, laid := [("math/bits.deBruijn64tab", laid_math_bits_deBruijn64tab)], narrowed := true }
def PathsTellUptoSaid : Prop := pathsTellUptoRow.holds Tryd.pinned (OpenSpec.upto pathsTellSpec)

end Rows
end Go.Proofs.YtaldkbdnefpklaaDoor
