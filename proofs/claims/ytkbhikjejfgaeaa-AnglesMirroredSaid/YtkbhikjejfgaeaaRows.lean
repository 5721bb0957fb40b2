/-
  No cell of these rows narrows 'for every input' (looked for: loops, veiled, ifaces, maps, wideKeys, modest, calm, conditions, laid).
  DERIVED. THE GIVEN ROWS OF THIS SEAT. 8 by the template 'for every input the law returns true; each argument reads behind the call as it read before'; 0 by the template 'total and deterministic' (their statements: YtkbhikjejfgaeaaTotals.lean).
  GIVEN WITH THE SEED: the statements are not yours to turn. If you find one false, say at which input.
  Laid BY PROGRAM, IN A SANDBOX (cutbox-rows.mjs): the forced cells as the released guide's own fill.sh prints them over the translation b07e3e3ced1694d6… (all of the seat's roots in one cut). By AI agents, Wed Nov 11 2026. No macro, syntax, notation, axiom, sorry.
-/
import Derived.Test.YtkbhikjejfgaeaaChecked
import GoSem.Claim
import GoSem.ClaimJoined
import GoSem.ClaimMapViews
import Derived.JoinedTies
import Derived.KernelRfl
namespace Go.Proofs.Ytkbhikjejfgaeaa
/- THE CELL 'sum', in the pinned program and in every row, IS THE sha256 OF THE DUMP (.gsa) THAT YtkbhikjejfgaeaaProg.lean LOADS. Nothing in Lean hashes anything: it is a label: what it is worth is what the hold of that sum in a sandbox is worth. -/
noncomputable def Try.pinned : Pinned := { name := "ytkbhikjejfgaeaa", sum := "b07e3e3ced1694d629fef7b8203f364bb62064a0867e87c6d2c1db4669daeee1", checked := Try.checked }
namespace Rows
def none {H : Type} : Left H := { results := [], args := [] }

/-- 'gouachelaw05.AnglesOf': WHATEVER THE INPUT: true; the input reads as it did. -/
def anglesOfSpec : ChangeSpec := { name := "anglesOf", fn := fun _ => fun
  | [d1, d2, d3] => { results := [.lit (.bool true)], args := [d1, d2, d3] }
  | _ => none }
def anglesOfRow : OpenClaim := { program := "ytkbhikjejfgaeaa", sum := "b07e3e3ced1694d629fef7b8203f364bb62064a0867e87c6d2c1db4669daeee1", func := "gouache/gouachelaw05.AnglesOf", spec := "anglesOf", inPlace := ["math/bits.Add64", "math/bits.Sub64"], unfollowed := true, recurses := true, named := ["math/bits.divideError", "math/bits.overflowError"], apart := false }
def AnglesOfSaid : Prop := anglesOfRow.holds Try.pinned (OpenSpec.ofChange anglesOfSpec)

/-- ITS FALSE NEIGHBOUR: 'it returns false'. Refute it at one input. -/
def anglesOfWrong : ChangeSpec := { name := "anglesOf", fn := fun _ => fun
  | [d1, d2, d3] => { results := [.lit (.bool false)], args := [d1, d2, d3] }
  | _ => none }
def AnglesOfWrongFalsely : Prop := anglesOfRow.holds Try.pinned (OpenSpec.ofChange anglesOfWrong)

/-- 'gouachelaw05.AnglesQuarters': WHATEVER THE INPUT: true; the input reads as it did. -/
def anglesQuartersSpec : ChangeSpec := { name := "anglesQuarters", fn := fun _ => fun
  | [d1, d2] => { results := [.lit (.bool true)], args := [d1, d2] }
  | _ => none }
def anglesQuartersRow : OpenClaim := { program := "ytkbhikjejfgaeaa", sum := "b07e3e3ced1694d629fef7b8203f364bb62064a0867e87c6d2c1db4669daeee1", func := "gouache/gouachelaw05.AnglesQuarters", spec := "anglesQuarters", inPlace := ["math/bits.Add64", "math/bits.Sub64"], unfollowed := true, recurses := true, named := ["math/bits.divideError", "math/bits.overflowError"], apart := false }
def AnglesQuartersSaid : Prop := anglesQuartersRow.holds Try.pinned (OpenSpec.ofChange anglesQuartersSpec)

/-- ITS FALSE NEIGHBOUR: 'it returns false'. Refute it at one input. -/
def anglesQuartersWrong : ChangeSpec := { name := "anglesQuarters", fn := fun _ => fun
  | [d1, d2] => { results := [.lit (.bool false)], args := [d1, d2] }
  | _ => none }
def AnglesQuartersWrongFalsely : Prop := anglesQuartersRow.holds Try.pinned (OpenSpec.ofChange anglesQuartersWrong)

/-- 'gouachelaw05.AnglesCircle': WHATEVER THE INPUT: true; the input reads as it did. -/
def anglesCircleSpec : ChangeSpec := { name := "anglesCircle", fn := fun _ => fun
  | [d] => { results := [.lit (.bool true)], args := [d] }
  | _ => none }
def anglesCircleRow : OpenClaim := { program := "ytkbhikjejfgaeaa", sum := "b07e3e3ced1694d629fef7b8203f364bb62064a0867e87c6d2c1db4669daeee1", func := "gouache/gouachelaw05.AnglesCircle", spec := "anglesCircle", inPlace := ["math/bits.Add64", "math/bits.Sub64"], unfollowed := true, recurses := true, named := ["math/bits.divideError", "math/bits.overflowError"], apart := false }
def AnglesCircleSaid : Prop := anglesCircleRow.holds Try.pinned (OpenSpec.ofChange anglesCircleSpec)

/-- ITS FALSE NEIGHBOUR: 'it returns false'. Refute it at one input. -/
def anglesCircleWrong : ChangeSpec := { name := "anglesCircle", fn := fun _ => fun
  | [d] => { results := [.lit (.bool false)], args := [d] }
  | _ => none }
def AnglesCircleWrongFalsely : Prop := anglesCircleRow.holds Try.pinned (OpenSpec.ofChange anglesCircleWrong)

/-- 'gouachelaw05.AnglesSums': WHATEVER THE INPUT: true; the input reads as it did. -/
def anglesSumsSpec : ChangeSpec := { name := "anglesSums", fn := fun _ => fun
  | [d1, d2] => { results := [.lit (.bool true)], args := [d1, d2] }
  | _ => none }
def anglesSumsRow : OpenClaim := { program := "ytkbhikjejfgaeaa", sum := "b07e3e3ced1694d629fef7b8203f364bb62064a0867e87c6d2c1db4669daeee1", func := "gouache/gouachelaw05.AnglesSums", spec := "anglesSums", inPlace := ["math/bits.Add64", "math/bits.Sub64"], unfollowed := true, recurses := true, named := ["math/bits.divideError", "math/bits.overflowError"], apart := false }
def AnglesSumsSaid : Prop := anglesSumsRow.holds Try.pinned (OpenSpec.ofChange anglesSumsSpec)

/-- ITS FALSE NEIGHBOUR: 'it returns false'. Refute it at one input. -/
def anglesSumsWrong : ChangeSpec := { name := "anglesSums", fn := fun _ => fun
  | [d1, d2] => { results := [.lit (.bool false)], args := [d1, d2] }
  | _ => none }
def AnglesSumsWrongFalsely : Prop := anglesSumsRow.holds Try.pinned (OpenSpec.ofChange anglesSumsWrong)

/-- 'gouachelaw05.AnglesRise': WHATEVER THE INPUT: true; the input reads as it did. -/
def anglesRiseSpec : ChangeSpec := { name := "anglesRise", fn := fun _ => fun
  | [d1, d2] => { results := [.lit (.bool true)], args := [d1, d2] }
  | _ => none }
def anglesRiseRow : OpenClaim := { program := "ytkbhikjejfgaeaa", sum := "b07e3e3ced1694d629fef7b8203f364bb62064a0867e87c6d2c1db4669daeee1", func := "gouache/gouachelaw05.AnglesRise", spec := "anglesRise", inPlace := ["math/bits.Add64", "math/bits.Sub64"], unfollowed := true, recurses := true, named := ["math/bits.divideError", "math/bits.overflowError"], apart := false }
def AnglesRiseSaid : Prop := anglesRiseRow.holds Try.pinned (OpenSpec.ofChange anglesRiseSpec)

/-- ITS FALSE NEIGHBOUR: 'it returns false'. Refute it at one input. -/
def anglesRiseWrong : ChangeSpec := { name := "anglesRise", fn := fun _ => fun
  | [d1, d2] => { results := [.lit (.bool false)], args := [d1, d2] }
  | _ => none }
def AnglesRiseWrongFalsely : Prop := anglesRiseRow.holds Try.pinned (OpenSpec.ofChange anglesRiseWrong)

/-- 'gouachelaw05.AnglesBack': WHATEVER THE INPUT: true; the input reads as it did. -/
def anglesBackSpec : ChangeSpec := { name := "anglesBack", fn := fun _ => fun
  | [d] => { results := [.lit (.bool true)], args := [d] }
  | _ => none }
def anglesBackRow : OpenClaim := { program := "ytkbhikjejfgaeaa", sum := "b07e3e3ced1694d629fef7b8203f364bb62064a0867e87c6d2c1db4669daeee1", func := "gouache/gouachelaw05.AnglesBack", spec := "anglesBack", inPlace := ["math/bits.Add64", "math/bits.Sub64"], unfollowed := true, recurses := true, named := ["math/bits.divideError", "math/bits.overflowError"], apart := false }
def AnglesBackSaid : Prop := anglesBackRow.holds Try.pinned (OpenSpec.ofChange anglesBackSpec)

/-- ITS FALSE NEIGHBOUR: 'it returns false'. Refute it at one input. -/
def anglesBackWrong : ChangeSpec := { name := "anglesBack", fn := fun _ => fun
  | [d] => { results := [.lit (.bool false)], args := [d] }
  | _ => none }
def AnglesBackWrongFalsely : Prop := anglesBackRow.holds Try.pinned (OpenSpec.ofChange anglesBackWrong)

/-- 'gouachelaw05.AnglesTurned': WHATEVER THE INPUT: true; the input reads as it did. -/
def anglesTurnedSpec : ChangeSpec := { name := "anglesTurned", fn := fun _ => fun
  | [d1, d2, d3] => { results := [.lit (.bool true)], args := [d1, d2, d3] }
  | _ => none }
def anglesTurnedRow : OpenClaim := { program := "ytkbhikjejfgaeaa", sum := "b07e3e3ced1694d629fef7b8203f364bb62064a0867e87c6d2c1db4669daeee1", func := "gouache/gouachelaw05.AnglesTurned", spec := "anglesTurned", inPlace := ["math/bits.Add64", "math/bits.Sub64"], unfollowed := true, recurses := true, named := ["math/bits.divideError", "math/bits.overflowError"], apart := false }
def AnglesTurnedSaid : Prop := anglesTurnedRow.holds Try.pinned (OpenSpec.ofChange anglesTurnedSpec)

/-- ITS FALSE NEIGHBOUR: 'it returns false'. Refute it at one input. -/
def anglesTurnedWrong : ChangeSpec := { name := "anglesTurned", fn := fun _ => fun
  | [d1, d2, d3] => { results := [.lit (.bool false)], args := [d1, d2, d3] }
  | _ => none }
def AnglesTurnedWrongFalsely : Prop := anglesTurnedRow.holds Try.pinned (OpenSpec.ofChange anglesTurnedWrong)

/-- 'gouachelaw05.AnglesMirrored': WHATEVER THE INPUT: true; the input reads as it did. -/
def anglesMirroredSpec : ChangeSpec := { name := "anglesMirrored", fn := fun _ => fun
  | [d1, d2] => { results := [.lit (.bool true)], args := [d1, d2] }
  | _ => none }
def anglesMirroredRow : OpenClaim := { program := "ytkbhikjejfgaeaa", sum := "b07e3e3ced1694d629fef7b8203f364bb62064a0867e87c6d2c1db4669daeee1", func := "gouache/gouachelaw05.AnglesMirrored", spec := "anglesMirrored", inPlace := ["math/bits.Add64", "math/bits.Sub64"], unfollowed := true, recurses := true, named := ["math/bits.divideError", "math/bits.overflowError"], apart := false }
def AnglesMirroredSaid : Prop := anglesMirroredRow.holds Try.pinned (OpenSpec.ofChange anglesMirroredSpec)

/-- ITS FALSE NEIGHBOUR: 'it returns false'. Refute it at one input. -/
def anglesMirroredWrong : ChangeSpec := { name := "anglesMirrored", fn := fun _ => fun
  | [d1, d2] => { results := [.lit (.bool false)], args := [d1, d2] }
  | _ => none }
def AnglesMirroredWrongFalsely : Prop := anglesMirroredRow.holds Try.pinned (OpenSpec.ofChange anglesMirroredWrong)

/- THE SECOND FORM. 'bulk': how many values and letters a reading holds, each counted each time it is reached (what is shared counts as often as it is met; a slice's spare places count too). A statement '..UptoSaid' is the law's where the arguments, and the package variables that the reading takes, are together of bulk at most 1048576: NARROWER than '..Said'. Prove '..Said' where nothing that the law and all that it calls make is longer than what came in: it says more and counts as full. Else prove '..UptoSaid'. A law counts once. -/
mutual
def uptoBulk {H : Type} : DataW H → Nat
  | .lit (.string bytes) => bytes.length + 1
  | .lit _ => 1
  | .nil => 1
  | .ptr d => uptoBulk d + 1
  | .slice elems spare => uptoBulkAll elems + uptoBulkAll spare + 1
  | .agg parts => uptoBulkAll parts + 1
  | .iface _ d => uptoBulk d + 1
  | .map entries => uptoBulkEntries entries + 1
  | .held _ => 1
def uptoBulkAll {H : Type} : List (DataW H) → Nat
  | [] => 0
  | d :: r => uptoBulk d + uptoBulkAll r
def uptoBulkEntries {H : Type} : List (Lit × DataW H) → Nat
  | [] => 0
  | x :: r => uptoBulkEntry x + uptoBulkEntries r
def uptoBulkEntry {H : Type} : Lit × DataW H → Nat
  | (.string bytes, d) => bytes.length + uptoBulk d + 1
  | (_, d) => uptoBulk d + 1
 end
def uptoSmall : (H : Type) → List (DataW H) → Bool := fun _ ds => decide (uptoBulkAll ds ≤ 1048576)
def OpenSpec.upto (s : _root_.Go.ChangeSpec) : _root_.Go.OpenSpec := { _root_.Go.OpenSpec.ofChange s with cond := some uptoSmall }

/-- 'gouachelaw05.AnglesOf', WHERE WHAT IT READS IS OF BULK AT MOST 1048576: true; the input reads as it did. -/
def anglesOfUptoRow : OpenClaim := { program := "ytkbhikjejfgaeaa", sum := "b07e3e3ced1694d629fef7b8203f364bb62064a0867e87c6d2c1db4669daeee1", func := "gouache/gouachelaw05.AnglesOf", spec := "anglesOf", inPlace := ["math/bits.Add64", "math/bits.Sub64"], unfollowed := true, recurses := true, named := ["math/bits.divideError", "math/bits.overflowError"], apart := false, narrowed := true }
def AnglesOfUptoSaid : Prop := anglesOfUptoRow.holds Try.pinned (OpenSpec.upto anglesOfSpec)

/-- 'gouachelaw05.AnglesQuarters', WHERE WHAT IT READS IS OF BULK AT MOST 1048576: true; the input reads as it did. -/
def anglesQuartersUptoRow : OpenClaim := { program := "ytkbhikjejfgaeaa", sum := "b07e3e3ced1694d629fef7b8203f364bb62064a0867e87c6d2c1db4669daeee1", func := "gouache/gouachelaw05.AnglesQuarters", spec := "anglesQuarters", inPlace := ["math/bits.Add64", "math/bits.Sub64"], unfollowed := true, recurses := true, named := ["math/bits.divideError", "math/bits.overflowError"], apart := false, narrowed := true }
def AnglesQuartersUptoSaid : Prop := anglesQuartersUptoRow.holds Try.pinned (OpenSpec.upto anglesQuartersSpec)

/-- 'gouachelaw05.AnglesCircle', WHERE WHAT IT READS IS OF BULK AT MOST 1048576: true; the input reads as it did. -/
def anglesCircleUptoRow : OpenClaim := { program := "ytkbhikjejfgaeaa", sum := "b07e3e3ced1694d629fef7b8203f364bb62064a0867e87c6d2c1db4669daeee1", func := "gouache/gouachelaw05.AnglesCircle", spec := "anglesCircle", inPlace := ["math/bits.Add64", "math/bits.Sub64"], unfollowed := true, recurses := true, named := ["math/bits.divideError", "math/bits.overflowError"], apart := false, narrowed := true }
def AnglesCircleUptoSaid : Prop := anglesCircleUptoRow.holds Try.pinned (OpenSpec.upto anglesCircleSpec)

/-- 'gouachelaw05.AnglesSums', WHERE WHAT IT READS IS OF BULK AT MOST 1048576: true; the input reads as it did. -/
def anglesSumsUptoRow : OpenClaim := { program := "ytkbhikjejfgaeaa", sum := "b07e3e3ced1694d629fef7b8203f364bb62064a0867e87c6d2c1db4669daeee1", func := "gouache/gouachelaw05.AnglesSums", spec := "anglesSums", inPlace := ["math/bits.Add64", "math/bits.Sub64"], unfollowed := true, recurses := true, named := ["math/bits.divideError", "math/bits.overflowError"], apart := false, narrowed := true }
def AnglesSumsUptoSaid : Prop := anglesSumsUptoRow.holds Try.pinned (OpenSpec.upto anglesSumsSpec)

/-- 'gouachelaw05.AnglesRise', WHERE WHAT IT READS IS OF BULK AT MOST 1048576: true; the input reads as it did. -/
def anglesRiseUptoRow : OpenClaim := { program := "ytkbhikjejfgaeaa", sum := "b07e3e3ced1694d629fef7b8203f364bb62064a0867e87c6d2c1db4669daeee1", func := "gouache/gouachelaw05.AnglesRise", spec := "anglesRise", inPlace := ["math/bits.Add64", "math/bits.Sub64"], unfollowed := true, recurses := true, named := ["math/bits.divideError", "math/bits.overflowError"], apart := false, narrowed := true }
def AnglesRiseUptoSaid : Prop := anglesRiseUptoRow.holds Try.pinned (OpenSpec.upto anglesRiseSpec)

/-- 'gouachelaw05.AnglesBack', WHERE WHAT IT READS IS OF BULK AT MOST 1048576: true; the input reads as it did. -/
def anglesBackUptoRow : OpenClaim := { program := "ytkbhikjejfgaeaa", sum := "b07e3e3ced1694d629fef7b8203f364bb62064a0867e87c6d2c1db4669daeee1", func := "gouache/gouachelaw05.AnglesBack", spec := "anglesBack", inPlace := ["math/bits.Add64", "math/bits.Sub64"], unfollowed := true, recurses := true, named := ["math/bits.divideError", "math/bits.overflowError"], apart := false, narrowed := true }
def AnglesBackUptoSaid : Prop := anglesBackUptoRow.holds Try.pinned (OpenSpec.upto anglesBackSpec)

/-- 'gouachelaw05.AnglesTurned', WHERE WHAT IT READS IS OF BULK AT MOST 1048576: true; the input reads as it did. -/
def anglesTurnedUptoRow : OpenClaim := { program := "ytkbhikjejfgaeaa", sum := "b07e3e3ced1694d629fef7b8203f364bb62064a0867e87c6d2c1db4669daeee1", func := "gouache/gouachelaw05.AnglesTurned", spec := "anglesTurned", inPlace := ["math/bits.Add64", "math/bits.Sub64"], unfollowed := true, recurses := true, named := ["math/bits.divideError", "math/bits.overflowError"], apart := false, narrowed := true }
def AnglesTurnedUptoSaid : Prop := anglesTurnedUptoRow.holds Try.pinned (OpenSpec.upto anglesTurnedSpec)

/-- 'gouachelaw05.AnglesMirrored', WHERE WHAT IT READS IS OF BULK AT MOST 1048576: true; the input reads as it did. -/
def anglesMirroredUptoRow : OpenClaim := { program := "ytkbhikjejfgaeaa", sum := "b07e3e3ced1694d629fef7b8203f364bb62064a0867e87c6d2c1db4669daeee1", func := "gouache/gouachelaw05.AnglesMirrored", spec := "anglesMirrored", inPlace := ["math/bits.Add64", "math/bits.Sub64"], unfollowed := true, recurses := true, named := ["math/bits.divideError", "math/bits.overflowError"], apart := false, narrowed := true }
def AnglesMirroredUptoSaid : Prop := anglesMirroredUptoRow.holds Try.pinned (OpenSpec.upto anglesMirroredSpec)

end Rows
end Go.Proofs.Ytkbhikjejfgaeaa
