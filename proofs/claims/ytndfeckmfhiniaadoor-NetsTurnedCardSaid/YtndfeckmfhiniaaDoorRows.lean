/-
  NARROWER THAN 'FOR EVERY INPUT', by the rows' own cells (each row's printed sentence says how): NetsBorder: laid · NetsRound: laid · NetsTurned: laid · NetsFlat: laid · NetsSeven: laid.
  DERIVED. THE GIVEN ROWS OF THIS SEAT. 5 by the template 'for every input the law returns true; each argument reads behind the call as it read before'; 0 by the template 'total and deterministic' (their statements: YtndfeckmfhiniaaDoorTotals.lean).
  GIVEN WITH THE SEED: the statements are not yours to turn. If you find one false, say at which input.
  Laid BY PROGRAM, IN A SANDBOX (cutbox-rows.mjs): the forced cells as the released guide's own fill.sh prints them over the translation 30eb0c37bc099257… (all of the seat's roots in one cut). By AI agents, Wed Nov 11 2026. No macro, syntax, notation, axiom, sorry.
-/
import Derived.Test.YtndfeckmfhiniaaDoorChecked
import GoSem.Claim
import GoSem.ClaimJoined
import GoSem.ClaimMapViews
import Derived.JoinedTies
import Derived.KernelRfl
namespace Go.Proofs.YtndfeckmfhiniaaDoor
/- THE CELL 'sum', in the pinned program and in every row, IS THE sha256 OF THE DUMP (.gsa) THAT YtndfeckmfhiniaaDoorProg.lean LOADS. Nothing in Lean hashes anything: it is a label: what it is worth is what the hold of that sum in a sandbox is worth. -/
noncomputable def Tryd.pinned : Pinned := { name := "ytndfeckmfhiniaadoor", sum := "30eb0c37bc09925727ab9df912c4742d700071391d71d4878a44fe4933476069", checked := Tryd.checked }
namespace Rows
def none {H : Type} : Left H := { results := [], args := [] }

/- WHAT THE LISTED PACKAGE-LEVEL VARIABLES READ AS WHEN THE CALL BEGINS. Each datum BY PROGRAM (the guide's laid-datum.mjs) off the statement by which the dump's own 'gosem.cut.vars' lays the variable. In a bare row this is a premise. The card (YtndfeckmfhiniaaDoorCards.lean) ties it to the program's text. -/
def laid_gouache_layouts_sets {H : Type} : DataW H := .agg [.lit (.int .u64 4311814422), .lit (.int .u64 69910), .lit (.int .u64 276)]

/-- 'gouachelaw21.NetsBorder': WHATEVER THE INPUT: true; the input reads as it did. -/
def netsBorderSpec : ChangeSpec := { name := "netsBorder", fn := fun _ => fun
  | [d1, d2] => { results := [.lit (.bool true)], args := [d1, d2] }
  | _ => none }
def netsBorderRow : OpenClaim := { program := "ytndfeckmfhiniaadoor", sum := "30eb0c37bc09925727ab9df912c4742d700071391d71d4878a44fe4933476069", func := "gouache/gouachelaw21.NetsBorder", spec := "netsBorder", inPlace := ["math/bits.Add64", "math/bits.Sub64", "internal/reflectlite.TypeOf"], unfollowed := true, recurses := true, named := ["gouache/layouts.sets", "math/bits.divideError", "math/bits.overflowError"], apart := false, laid := [("gouache/layouts.sets", laid_gouache_layouts_sets)] }
def NetsBorderSaid : Prop := netsBorderRow.holds Tryd.pinned (OpenSpec.ofChange netsBorderSpec)

/-- ITS FALSE NEIGHBOUR: 'it returns false'. Refute it at one input. -/
def netsBorderWrong : ChangeSpec := { name := "netsBorder", fn := fun _ => fun
  | [d1, d2] => { results := [.lit (.bool false)], args := [d1, d2] }
  | _ => none }
def NetsBorderWrongFalsely : Prop := netsBorderRow.holds Tryd.pinned (OpenSpec.ofChange netsBorderWrong)

/-- 'gouachelaw21.NetsRound': WHATEVER THE INPUT: true; the input reads as it did. -/
def netsRoundSpec : ChangeSpec := { name := "netsRound", fn := fun _ => fun
  | [d] => { results := [.lit (.bool true)], args := [d] }
  | _ => none }
def netsRoundRow : OpenClaim := { program := "ytndfeckmfhiniaadoor", sum := "30eb0c37bc09925727ab9df912c4742d700071391d71d4878a44fe4933476069", func := "gouache/gouachelaw21.NetsRound", spec := "netsRound", inPlace := ["math/bits.Add64", "math/bits.Sub64", "internal/reflectlite.TypeOf"], unfollowed := true, recurses := true, named := ["gouache/layouts.sets", "math/bits.divideError", "math/bits.overflowError"], apart := false, laid := [("gouache/layouts.sets", laid_gouache_layouts_sets)] }
def NetsRoundSaid : Prop := netsRoundRow.holds Tryd.pinned (OpenSpec.ofChange netsRoundSpec)

/-- ITS FALSE NEIGHBOUR: 'it returns false'. Refute it at one input. -/
def netsRoundWrong : ChangeSpec := { name := "netsRound", fn := fun _ => fun
  | [d] => { results := [.lit (.bool false)], args := [d] }
  | _ => none }
def NetsRoundWrongFalsely : Prop := netsRoundRow.holds Tryd.pinned (OpenSpec.ofChange netsRoundWrong)

/-- 'gouachelaw21.NetsTurned': WHATEVER THE INPUT: true; the input reads as it did. -/
def netsTurnedSpec : ChangeSpec := { name := "netsTurned", fn := fun _ => fun
  | [d] => { results := [.lit (.bool true)], args := [d] }
  | _ => none }
def netsTurnedRow : OpenClaim := { program := "ytndfeckmfhiniaadoor", sum := "30eb0c37bc09925727ab9df912c4742d700071391d71d4878a44fe4933476069", func := "gouache/gouachelaw21.NetsTurned", spec := "netsTurned", inPlace := ["math/bits.Add64", "math/bits.Sub64", "internal/reflectlite.TypeOf"], unfollowed := true, recurses := true, named := ["gouache/layouts.sets", "math/bits.divideError", "math/bits.overflowError"], apart := false, laid := [("gouache/layouts.sets", laid_gouache_layouts_sets)] }
def NetsTurnedSaid : Prop := netsTurnedRow.holds Tryd.pinned (OpenSpec.ofChange netsTurnedSpec)

/-- ITS FALSE NEIGHBOUR: 'it returns false'. Refute it at one input. -/
def netsTurnedWrong : ChangeSpec := { name := "netsTurned", fn := fun _ => fun
  | [d] => { results := [.lit (.bool false)], args := [d] }
  | _ => none }
def NetsTurnedWrongFalsely : Prop := netsTurnedRow.holds Tryd.pinned (OpenSpec.ofChange netsTurnedWrong)

/-- 'gouachelaw21.NetsFlat': WHATEVER THE INPUT: true; the input reads as it did. -/
def netsFlatSpec : ChangeSpec := { name := "netsFlat", fn := fun _ => fun
  | [d1, d2] => { results := [.lit (.bool true)], args := [d1, d2] }
  | _ => none }
def netsFlatRow : OpenClaim := { program := "ytndfeckmfhiniaadoor", sum := "30eb0c37bc09925727ab9df912c4742d700071391d71d4878a44fe4933476069", func := "gouache/gouachelaw21.NetsFlat", spec := "netsFlat", inPlace := ["math/bits.Add64", "math/bits.Sub64", "internal/reflectlite.TypeOf"], unfollowed := true, recurses := true, named := ["gouache/layouts.sets", "math/bits.divideError", "math/bits.overflowError"], apart := false, laid := [("gouache/layouts.sets", laid_gouache_layouts_sets)] }
def NetsFlatSaid : Prop := netsFlatRow.holds Tryd.pinned (OpenSpec.ofChange netsFlatSpec)

/-- ITS FALSE NEIGHBOUR: 'it returns false'. Refute it at one input. -/
def netsFlatWrong : ChangeSpec := { name := "netsFlat", fn := fun _ => fun
  | [d1, d2] => { results := [.lit (.bool false)], args := [d1, d2] }
  | _ => none }
def NetsFlatWrongFalsely : Prop := netsFlatRow.holds Tryd.pinned (OpenSpec.ofChange netsFlatWrong)

/-- 'gouachelaw21.NetsSeven': WHATEVER THE INPUT: true; the input reads as it did. -/
def netsSevenSpec : ChangeSpec := { name := "netsSeven", fn := fun _ => fun
  | [d1, d2, d3] => { results := [.lit (.bool true)], args := [d1, d2, d3] }
  | _ => none }
def netsSevenRow : OpenClaim := { program := "ytndfeckmfhiniaadoor", sum := "30eb0c37bc09925727ab9df912c4742d700071391d71d4878a44fe4933476069", func := "gouache/gouachelaw21.NetsSeven", spec := "netsSeven", inPlace := ["math/bits.Add64", "math/bits.Sub64", "internal/reflectlite.TypeOf"], unfollowed := true, recurses := true, named := ["gouache/layouts.sets", "math/bits.divideError", "math/bits.overflowError"], apart := false, laid := [("gouache/layouts.sets", laid_gouache_layouts_sets)] }
def NetsSevenSaid : Prop := netsSevenRow.holds Tryd.pinned (OpenSpec.ofChange netsSevenSpec)

/-- ITS FALSE NEIGHBOUR: 'it returns false'. Refute it at one input. -/
def netsSevenWrong : ChangeSpec := { name := "netsSeven", fn := fun _ => fun
  | [d1, d2, d3] => { results := [.lit (.bool false)], args := [d1, d2, d3] }
  | _ => none }
def NetsSevenWrongFalsely : Prop := netsSevenRow.holds Tryd.pinned (OpenSpec.ofChange netsSevenWrong)

/- THE SECOND FORM. 'bulk': how many values and letters a reading holds, each counted each time it is reached (what is shared counts as often as it is met; a slice's spare places count too). A statement '..UptoSaid' is the law's where the arguments, and the package variables that the reading takes, are together of bulk at most 1048576: NARROWER than '..Said'. Prove '..Said' where nothing that the law and all that it calls make is longer than what came in: it says more and counts as full. Else prove '..UptoSaid'. A law counts once. -/
mutual
def uptoBulk {H : Type} : DataW H → Nat
  | .lit (.string bytes) => bytes.length + 1
  | .lit _ => 1
  | .nil => 1
  | .ptr d => uptoBulk d + 1
  | .slice elems spare => uptoBulkAll elems + uptoBulkAll spare + 1
  | .agg parts => uptoBulkAll parts + 1
  | .iface _ d => uptoBulk d + 1
  | .map entries => uptoBulkEntries entries + 1
  | .held _ => 1
def uptoBulkAll {H : Type} : List (DataW H) → Nat
  | [] => 0
  | d :: r => uptoBulk d + uptoBulkAll r
def uptoBulkEntries {H : Type} : List (Lit × DataW H) → Nat
  | [] => 0
  | x :: r => uptoBulkEntry x + uptoBulkEntries r
def uptoBulkEntry {H : Type} : Lit × DataW H → Nat
  | (.string bytes, d) => bytes.length + uptoBulk d + 1
  | (_, d) => uptoBulk d + 1
 end
def uptoSmall : (H : Type) → List (DataW H) → Bool := fun _ ds => decide (uptoBulkAll ds ≤ 1048576)
def OpenSpec.upto (s : _root_.Go.ChangeSpec) : _root_.Go.OpenSpec := { _root_.Go.OpenSpec.ofChange s with cond := some uptoSmall }

/-- 'gouachelaw21.NetsBorder', WHERE WHAT IT READS IS OF BULK AT MOST 1048576: true; the input reads as it did. -/
def netsBorderUptoRow : OpenClaim := { program := "ytndfeckmfhiniaadoor", sum := "30eb0c37bc09925727ab9df912c4742d700071391d71d4878a44fe4933476069", func := "gouache/gouachelaw21.NetsBorder", spec := "netsBorder", inPlace := ["math/bits.Add64", "math/bits.Sub64", "internal/reflectlite.TypeOf"], unfollowed := true, recurses := true, named := ["gouache/layouts.sets", "math/bits.divideError", "math/bits.overflowError"], apart := false, laid := [("gouache/layouts.sets", laid_gouache_layouts_sets)], narrowed := true }
def NetsBorderUptoSaid : Prop := netsBorderUptoRow.holds Tryd.pinned (OpenSpec.upto netsBorderSpec)

/-- 'gouachelaw21.NetsRound', WHERE WHAT IT READS IS OF BULK AT MOST 1048576: true; the input reads as it did. -/
def netsRoundUptoRow : OpenClaim := { program := "ytndfeckmfhiniaadoor", sum := "30eb0c37bc09925727ab9df912c4742d700071391d71d4878a44fe4933476069", func := "gouache/gouachelaw21.NetsRound", spec := "netsRound", inPlace := ["math/bits.Add64", "math/bits.Sub64", "internal/reflectlite.TypeOf"], unfollowed := true, recurses := true, named := ["gouache/layouts.sets", "math/bits.divideError", "math/bits.overflowError"], apart := false, laid := [("gouache/layouts.sets", laid_gouache_layouts_sets)], narrowed := true }
def NetsRoundUptoSaid : Prop := netsRoundUptoRow.holds Tryd.pinned (OpenSpec.upto netsRoundSpec)

/-- 'gouachelaw21.NetsTurned', WHERE WHAT IT READS IS OF BULK AT MOST 1048576: true; the input reads as it did. -/
def netsTurnedUptoRow : OpenClaim := { program := "ytndfeckmfhiniaadoor", sum := "30eb0c37bc09925727ab9df912c4742d700071391d71d4878a44fe4933476069", func := "gouache/gouachelaw21.NetsTurned", spec := "netsTurned", inPlace := ["math/bits.Add64", "math/bits.Sub64", "internal/reflectlite.TypeOf"], unfollowed := true, recurses := true, named := ["gouache/layouts.sets", "math/bits.divideError", "math/bits.overflowError"], apart := false, laid := [("gouache/layouts.sets", laid_gouache_layouts_sets)], narrowed := true }
def NetsTurnedUptoSaid : Prop := netsTurnedUptoRow.holds Tryd.pinned (OpenSpec.upto netsTurnedSpec)

/-- 'gouachelaw21.NetsFlat', WHERE WHAT IT READS IS OF BULK AT MOST 1048576: true; the input reads as it did. -/
def netsFlatUptoRow : OpenClaim := { program := "ytndfeckmfhiniaadoor", sum := "30eb0c37bc09925727ab9df912c4742d700071391d71d4878a44fe4933476069", func := "gouache/gouachelaw21.NetsFlat", spec := "netsFlat", inPlace := ["math/bits.Add64", "math/bits.Sub64", "internal/reflectlite.TypeOf"], unfollowed := true, recurses := true, named := ["gouache/layouts.sets", "math/bits.divideError", "math/bits.overflowError"], apart := false, laid := [("gouache/layouts.sets", laid_gouache_layouts_sets)], narrowed := true }
def NetsFlatUptoSaid : Prop := netsFlatUptoRow.holds Tryd.pinned (OpenSpec.upto netsFlatSpec)

/-- 'gouachelaw21.NetsSeven', WHERE WHAT IT READS IS OF BULK AT MOST 1048576: true; the input reads as it did. -/
def netsSevenUptoRow : OpenClaim := { program := "ytndfeckmfhiniaadoor", sum := "30eb0c37bc09925727ab9df912c4742d700071391d71d4878a44fe4933476069", func := "gouache/gouachelaw21.NetsSeven", spec := "netsSeven", inPlace := ["math/bits.Add64", "math/bits.Sub64", "internal/reflectlite.TypeOf"], unfollowed := true, recurses := true, named := ["gouache/layouts.sets", "math/bits.divideError", "math/bits.overflowError"], apart := false, laid := [("gouache/layouts.sets", laid_gouache_layouts_sets)], narrowed := true }
def NetsSevenUptoSaid : Prop := netsSevenUptoRow.holds Tryd.pinned (OpenSpec.upto netsSevenSpec)

end Rows
end Go.Proofs.YtndfeckmfhiniaaDoor
