/-
  No cell of these rows narrows 'for every input' (looked for: loops, veiled, ifaces, maps, wideKeys, modest, calm, conditions, laid).
  DERIVED. THE GIVEN ROWS OF THIS SEAT. 6 by the template 'for every input the law returns true; each argument reads behind the call as it read before'; 0 by the template 'total and deterministic' (their statements: YtakpbbponhamaaaTotals.lean).
  GIVEN WITH THE SEED: the statements are not yours to turn. If you find one false, say at which input.
  Laid BY PROGRAM, IN A SANDBOX (cutbox-rows.mjs): the forced cells as the released guide's own fill.sh prints them over the translation dc1909697668ab5b… (all of the seat's roots in one cut). By AI agents, Wed Nov 11 2026. No macro, syntax, notation, axiom, sorry.
-/
import Derived.Test.YtakpbbponhamaaaChecked
import GoSem.Claim
import GoSem.ClaimJoined
import GoSem.ClaimMapViews
import Derived.JoinedTies
import Derived.KernelRfl
namespace Go.Proofs.Ytakpbbponhamaaa
/- THE CELL 'sum', in the pinned program and in every row, IS THE sha256 OF THE DUMP (.gsa) THAT YtakpbbponhamaaaProg.lean LOADS. Nothing in Lean hashes anything: it is a label: what it is worth is what the hold of that sum in a sandbox is worth. -/
noncomputable def Try.pinned : Pinned := { name := "ytakpbbponhamaaa", sum := "dc1909697668ab5bb9d2fc1f44aa8533e61f423018a1c30c420a5a11c5e4fe3e", checked := Try.checked }
namespace Rows
def none {H : Type} : Left H := { results := [], args := [] }

/-- 'gouachelaw03.RootsOf': WHATEVER THE INPUT: true; the input reads as it did. -/
def rootsOfSpec : ChangeSpec := { name := "rootsOf", fn := fun _ => fun
  | [d1, d2, d3] => { results := [.lit (.bool true)], args := [d1, d2, d3] }
  | _ => none }
def rootsOfRow : OpenClaim := { program := "ytakpbbponhamaaa", sum := "dc1909697668ab5bb9d2fc1f44aa8533e61f423018a1c30c420a5a11c5e4fe3e", func := "gouache/gouachelaw03.RootsOf", spec := "rootsOf", unfollowed := true, recurses := true, apart := false }
def RootsOfSaid : Prop := rootsOfRow.holds Try.pinned (OpenSpec.ofChange rootsOfSpec)

/-- ITS FALSE NEIGHBOUR: 'it returns false'. Refute it at one input. -/
def rootsOfWrong : ChangeSpec := { name := "rootsOf", fn := fun _ => fun
  | [d1, d2, d3] => { results := [.lit (.bool false)], args := [d1, d2, d3] }
  | _ => none }
def RootsOfWrongFalsely : Prop := rootsOfRow.holds Try.pinned (OpenSpec.ofChange rootsOfWrong)

/-- 'gouachelaw03.RootsBetween': WHATEVER THE INPUT: true; the input reads as it did. -/
def rootsBetweenSpec : ChangeSpec := { name := "rootsBetween", fn := fun _ => fun
  | [d1, d2] => { results := [.lit (.bool true)], args := [d1, d2] }
  | _ => none }
def rootsBetweenRow : OpenClaim := { program := "ytakpbbponhamaaa", sum := "dc1909697668ab5bb9d2fc1f44aa8533e61f423018a1c30c420a5a11c5e4fe3e", func := "gouache/gouachelaw03.RootsBetween", spec := "rootsBetween", unfollowed := true, recurses := true, apart := false }
def RootsBetweenSaid : Prop := rootsBetweenRow.holds Try.pinned (OpenSpec.ofChange rootsBetweenSpec)

/-- ITS FALSE NEIGHBOUR: 'it returns false'. Refute it at one input. -/
def rootsBetweenWrong : ChangeSpec := { name := "rootsBetween", fn := fun _ => fun
  | [d1, d2] => { results := [.lit (.bool false)], args := [d1, d2] }
  | _ => none }
def RootsBetweenWrongFalsely : Prop := rootsBetweenRow.holds Try.pinned (OpenSpec.ofChange rootsBetweenWrong)

/-- 'gouachelaw03.RootsSquares': WHATEVER THE INPUT: true; the input reads as it did. -/
def rootsSquaresSpec : ChangeSpec := { name := "rootsSquares", fn := fun _ => fun
  | [d1, d2] => { results := [.lit (.bool true)], args := [d1, d2] }
  | _ => none }
def rootsSquaresRow : OpenClaim := { program := "ytakpbbponhamaaa", sum := "dc1909697668ab5bb9d2fc1f44aa8533e61f423018a1c30c420a5a11c5e4fe3e", func := "gouache/gouachelaw03.RootsSquares", spec := "rootsSquares", unfollowed := true, recurses := true, apart := false }
def RootsSquaresSaid : Prop := rootsSquaresRow.holds Try.pinned (OpenSpec.ofChange rootsSquaresSpec)

/-- ITS FALSE NEIGHBOUR: 'it returns false'. Refute it at one input. -/
def rootsSquaresWrong : ChangeSpec := { name := "rootsSquares", fn := fun _ => fun
  | [d1, d2] => { results := [.lit (.bool false)], args := [d1, d2] }
  | _ => none }
def RootsSquaresWrongFalsely : Prop := rootsSquaresRow.holds Try.pinned (OpenSpec.ofChange rootsSquaresWrong)

/-- 'gouachelaw03.RootsRise': WHATEVER THE INPUT: true; the input reads as it did. -/
def rootsRiseSpec : ChangeSpec := { name := "rootsRise", fn := fun _ => fun
  | [d1, d2] => { results := [.lit (.bool true)], args := [d1, d2] }
  | _ => none }
def rootsRiseRow : OpenClaim := { program := "ytakpbbponhamaaa", sum := "dc1909697668ab5bb9d2fc1f44aa8533e61f423018a1c30c420a5a11c5e4fe3e", func := "gouache/gouachelaw03.RootsRise", spec := "rootsRise", unfollowed := true, recurses := true, apart := false }
def RootsRiseSaid : Prop := rootsRiseRow.holds Try.pinned (OpenSpec.ofChange rootsRiseSpec)

/-- ITS FALSE NEIGHBOUR: 'it returns false'. Refute it at one input. -/
def rootsRiseWrong : ChangeSpec := { name := "rootsRise", fn := fun _ => fun
  | [d1, d2] => { results := [.lit (.bool false)], args := [d1, d2] }
  | _ => none }
def RootsRiseWrongFalsely : Prop := rootsRiseRow.holds Try.pinned (OpenSpec.ofChange rootsRiseWrong)

/-- 'gouachelaw03.RootsFix': WHATEVER THE INPUT: true; the input reads as it did. -/
def rootsFixSpec : ChangeSpec := { name := "rootsFix", fn := fun _ => fun
  | [d] => { results := [.lit (.bool true)], args := [d] }
  | _ => none }
def rootsFixRow : OpenClaim := { program := "ytakpbbponhamaaa", sum := "dc1909697668ab5bb9d2fc1f44aa8533e61f423018a1c30c420a5a11c5e4fe3e", func := "gouache/gouachelaw03.RootsFix", spec := "rootsFix", unfollowed := true, recurses := true, apart := false }
def RootsFixSaid : Prop := rootsFixRow.holds Try.pinned (OpenSpec.ofChange rootsFixSpec)

/-- ITS FALSE NEIGHBOUR: 'it returns false'. Refute it at one input. -/
def rootsFixWrong : ChangeSpec := { name := "rootsFix", fn := fun _ => fun
  | [d] => { results := [.lit (.bool false)], args := [d] }
  | _ => none }
def RootsFixWrongFalsely : Prop := rootsFixRow.holds Try.pinned (OpenSpec.ofChange rootsFixWrong)

/-- 'gouachelaw03.RootsLog': WHATEVER THE INPUT: true; the input reads as it did. -/
def rootsLogSpec : ChangeSpec := { name := "rootsLog", fn := fun _ => fun
  | [d1, d2, d3] => { results := [.lit (.bool true)], args := [d1, d2, d3] }
  | _ => none }
def rootsLogRow : OpenClaim := { program := "ytakpbbponhamaaa", sum := "dc1909697668ab5bb9d2fc1f44aa8533e61f423018a1c30c420a5a11c5e4fe3e", func := "gouache/gouachelaw03.RootsLog", spec := "rootsLog", unfollowed := true, recurses := true, apart := false }
def RootsLogSaid : Prop := rootsLogRow.holds Try.pinned (OpenSpec.ofChange rootsLogSpec)

/-- ITS FALSE NEIGHBOUR: 'it returns false'. Refute it at one input. -/
def rootsLogWrong : ChangeSpec := { name := "rootsLog", fn := fun _ => fun
  | [d1, d2, d3] => { results := [.lit (.bool false)], args := [d1, d2, d3] }
  | _ => none }
def RootsLogWrongFalsely : Prop := rootsLogRow.holds Try.pinned (OpenSpec.ofChange rootsLogWrong)

/- THE SECOND FORM. 'bulk': how many values and letters a reading holds, each counted each time it is reached (what is shared counts as often as it is met; a slice's spare places count too). A statement '..UptoSaid' is the law's where the arguments, and the package variables that the reading takes, are together of bulk at most 1048576: NARROWER than '..Said'. Prove '..Said' where nothing that the law and all that it calls make is longer than what came in: it says more and counts as full. Else prove '..UptoSaid'. A law counts once. -/
mutual
def uptoBulk {H : Type} : DataW H → Nat
  | .lit (.string bytes) => bytes.length + 1
  | .lit _ => 1
  | .nil => 1
  | .ptr d => uptoBulk d + 1
  | .slice elems spare => uptoBulkAll elems + uptoBulkAll spare + 1
  | .agg parts => uptoBulkAll parts + 1
  | .iface _ d => uptoBulk d + 1
  | .map entries => uptoBulkEntries entries + 1
  | .held _ => 1
def uptoBulkAll {H : Type} : List (DataW H) → Nat
  | [] => 0
  | d :: r => uptoBulk d + uptoBulkAll r
def uptoBulkEntries {H : Type} : List (Lit × DataW H) → Nat
  | [] => 0
  | x :: r => uptoBulkEntry x + uptoBulkEntries r
def uptoBulkEntry {H : Type} : Lit × DataW H → Nat
  | (.string bytes, d) => bytes.length + uptoBulk d + 1
  | (_, d) => uptoBulk d + 1
 end
def uptoSmall : (H : Type) → List (DataW H) → Bool := fun _ ds => decide (uptoBulkAll ds ≤ 1048576)
def OpenSpec.upto (s : _root_.Go.ChangeSpec) : _root_.Go.OpenSpec := { _root_.Go.OpenSpec.ofChange s with cond := some uptoSmall }

/-- 'gouachelaw03.RootsOf', WHERE WHAT IT READS IS OF BULK AT MOST 1048576: true; the input reads as it did. -/
def rootsOfUptoRow : OpenClaim := { program := "ytakpbbponhamaaa", sum := "dc1909697668ab5bb9d2fc1f44aa8533e61f423018a1c30c420a5a11c5e4fe3e", func := "gouache/gouachelaw03.RootsOf", spec := "rootsOf", unfollowed := true, recurses := true, apart := false, narrowed := true }
def RootsOfUptoSaid : Prop := rootsOfUptoRow.holds Try.pinned (OpenSpec.upto rootsOfSpec)

/-- 'gouachelaw03.RootsBetween', WHERE WHAT IT READS IS OF BULK AT MOST 1048576: true; the input reads as it did. -/
def rootsBetweenUptoRow : OpenClaim := { program := "ytakpbbponhamaaa", sum := "dc1909697668ab5bb9d2fc1f44aa8533e61f423018a1c30c420a5a11c5e4fe3e", func := "gouache/gouachelaw03.RootsBetween", spec := "rootsBetween", unfollowed := true, recurses := true, apart := false, narrowed := true }
def RootsBetweenUptoSaid : Prop := rootsBetweenUptoRow.holds Try.pinned (OpenSpec.upto rootsBetweenSpec)

/-- 'gouachelaw03.RootsSquares', WHERE WHAT IT READS IS OF BULK AT MOST 1048576: true; the input reads as it did. -/
def rootsSquaresUptoRow : OpenClaim := { program := "ytakpbbponhamaaa", sum := "dc1909697668ab5bb9d2fc1f44aa8533e61f423018a1c30c420a5a11c5e4fe3e", func := "gouache/gouachelaw03.RootsSquares", spec := "rootsSquares", unfollowed := true, recurses := true, apart := false, narrowed := true }
def RootsSquaresUptoSaid : Prop := rootsSquaresUptoRow.holds Try.pinned (OpenSpec.upto rootsSquaresSpec)

/-- 'gouachelaw03.RootsRise', WHERE WHAT IT READS IS OF BULK AT MOST 1048576: true; the input reads as it did. -/
def rootsRiseUptoRow : OpenClaim := { program := "ytakpbbponhamaaa", sum := "dc1909697668ab5bb9d2fc1f44aa8533e61f423018a1c30c420a5a11c5e4fe3e", func := "gouache/gouachelaw03.RootsRise", spec := "rootsRise", unfollowed := true, recurses := true, apart := false, narrowed := true }
def RootsRiseUptoSaid : Prop := rootsRiseUptoRow.holds Try.pinned (OpenSpec.upto rootsRiseSpec)

/-- 'gouachelaw03.RootsFix', WHERE WHAT IT READS IS OF BULK AT MOST 1048576: true; the input reads as it did. -/
def rootsFixUptoRow : OpenClaim := { program := "ytakpbbponhamaaa", sum := "dc1909697668ab5bb9d2fc1f44aa8533e61f423018a1c30c420a5a11c5e4fe3e", func := "gouache/gouachelaw03.RootsFix", spec := "rootsFix", unfollowed := true, recurses := true, apart := false, narrowed := true }
def RootsFixUptoSaid : Prop := rootsFixUptoRow.holds Try.pinned (OpenSpec.upto rootsFixSpec)

/-- 'gouachelaw03.RootsLog', WHERE WHAT IT READS IS OF BULK AT MOST 1048576: true; the input reads as it did. -/
def rootsLogUptoRow : OpenClaim := { program := "ytakpbbponhamaaa", sum := "dc1909697668ab5bb9d2fc1f44aa8533e61f423018a1c30c420a5a11c5e4fe3e", func := "gouache/gouachelaw03.RootsLog", spec := "rootsLog", unfollowed := true, recurses := true, apart := false, narrowed := true }
def RootsLogUptoSaid : Prop := rootsLogUptoRow.holds Try.pinned (OpenSpec.upto rootsLogSpec)

end Rows
end Go.Proofs.Ytakpbbponhamaaa
