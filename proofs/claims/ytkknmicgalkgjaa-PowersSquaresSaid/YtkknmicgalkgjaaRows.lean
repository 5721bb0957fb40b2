/-
  No cell of these rows narrows 'for every input' (looked for: loops, veiled, ifaces, maps, wideKeys, modest, calm, conditions, laid).
  DERIVED. THE GIVEN ROWS OF THIS SEAT. 7 by the template 'for every input the law returns true; each argument reads behind the call as it read before'; 0 by the template 'total and deterministic' (their statements: YtkknmicgalkgjaaTotals.lean).
  GIVEN WITH THE SEED: the statements are not yours to turn. If you find one false, say at which input.
  Laid BY PROGRAM, IN A SANDBOX (cutbox-rows.mjs): the forced cells as the released guide's own fill.sh prints them over the translation c6a4bc17bcb070f6… (all of the seat's roots in one cut). By AI agents, Wed Nov 11 2026. No macro, syntax, notation, axiom, sorry.
-/
import Derived.Test.YtkknmicgalkgjaaChecked
import GoSem.Claim
import GoSem.ClaimJoined
import GoSem.ClaimMapViews
import Derived.JoinedTies
import Derived.KernelRfl
namespace Go.Proofs.Ytkknmicgalkgjaa
/- THE CELL 'sum', in the pinned program and in every row, IS THE sha256 OF THE DUMP (.gsa) THAT YtkknmicgalkgjaaProg.lean LOADS. Nothing in Lean hashes anything: it is a label: what it is worth is what the hold of that sum in a sandbox is worth. -/
noncomputable def Try.pinned : Pinned := { name := "ytkknmicgalkgjaa", sum := "c6a4bc17bcb070f6f1d7c4b8fdf271d7166837bebe63ac5cbcc7eb2883c42bb1", checked := Try.checked }
namespace Rows
def none {H : Type} : Left H := { results := [], args := [] }

/-- 'gouachelaw04.PowersOf': WHATEVER THE INPUT: true; the input reads as it did. -/
def powersOfSpec : ChangeSpec := { name := "powersOf", fn := fun _ => fun
  | [d1, d2] => { results := [.lit (.bool true)], args := [d1, d2] }
  | _ => none }
def powersOfRow : OpenClaim := { program := "ytkknmicgalkgjaa", sum := "c6a4bc17bcb070f6f1d7c4b8fdf271d7166837bebe63ac5cbcc7eb2883c42bb1", func := "gouache/gouachelaw04.PowersOf", spec := "powersOf", inPlace := ["math/bits.Add64", "math/bits.Sub64"], unfollowed := true, recurses := true, named := ["math/bits.divideError", "math/bits.overflowError"], apart := false }
def PowersOfSaid : Prop := powersOfRow.holds Try.pinned (OpenSpec.ofChange powersOfSpec)

/-- ITS FALSE NEIGHBOUR: 'it returns false'. Refute it at one input. -/
def powersOfWrong : ChangeSpec := { name := "powersOf", fn := fun _ => fun
  | [d1, d2] => { results := [.lit (.bool false)], args := [d1, d2] }
  | _ => none }
def PowersOfWrongFalsely : Prop := powersOfRow.holds Try.pinned (OpenSpec.ofChange powersOfWrong)

/-- 'gouachelaw04.PowersWhole': WHATEVER THE INPUT: true; the input reads as it did. -/
def powersWholeSpec : ChangeSpec := { name := "powersWhole", fn := fun _ => fun
  | [d1, d2] => { results := [.lit (.bool true)], args := [d1, d2] }
  | _ => none }
def powersWholeRow : OpenClaim := { program := "ytkknmicgalkgjaa", sum := "c6a4bc17bcb070f6f1d7c4b8fdf271d7166837bebe63ac5cbcc7eb2883c42bb1", func := "gouache/gouachelaw04.PowersWhole", spec := "powersWhole", inPlace := ["math/bits.Add64", "math/bits.Sub64"], unfollowed := true, recurses := true, named := ["math/bits.divideError", "math/bits.overflowError"], apart := false }
def PowersWholeSaid : Prop := powersWholeRow.holds Try.pinned (OpenSpec.ofChange powersWholeSpec)

/-- ITS FALSE NEIGHBOUR: 'it returns false'. Refute it at one input. -/
def powersWholeWrong : ChangeSpec := { name := "powersWhole", fn := fun _ => fun
  | [d1, d2] => { results := [.lit (.bool false)], args := [d1, d2] }
  | _ => none }
def PowersWholeWrongFalsely : Prop := powersWholeRow.holds Try.pinned (OpenSpec.ofChange powersWholeWrong)

/-- 'gouachelaw04.PowersBack': WHATEVER THE INPUT: true; the input reads as it did. -/
def powersBackSpec : ChangeSpec := { name := "powersBack", fn := fun _ => fun
  | [d] => { results := [.lit (.bool true)], args := [d] }
  | _ => none }
def powersBackRow : OpenClaim := { program := "ytkknmicgalkgjaa", sum := "c6a4bc17bcb070f6f1d7c4b8fdf271d7166837bebe63ac5cbcc7eb2883c42bb1", func := "gouache/gouachelaw04.PowersBack", spec := "powersBack", inPlace := ["math/bits.Add64", "math/bits.Sub64"], unfollowed := true, recurses := true, named := ["math/bits.divideError", "math/bits.overflowError"], apart := false }
def PowersBackSaid : Prop := powersBackRow.holds Try.pinned (OpenSpec.ofChange powersBackSpec)

/-- ITS FALSE NEIGHBOUR: 'it returns false'. Refute it at one input. -/
def powersBackWrong : ChangeSpec := { name := "powersBack", fn := fun _ => fun
  | [d] => { results := [.lit (.bool false)], args := [d] }
  | _ => none }
def PowersBackWrongFalsely : Prop := powersBackRow.holds Try.pinned (OpenSpec.ofChange powersBackWrong)

/-- 'gouachelaw04.PowersSums': WHATEVER THE INPUT: true; the input reads as it did. -/
def powersSumsSpec : ChangeSpec := { name := "powersSums", fn := fun _ => fun
  | [d1, d2] => { results := [.lit (.bool true)], args := [d1, d2] }
  | _ => none }
def powersSumsRow : OpenClaim := { program := "ytkknmicgalkgjaa", sum := "c6a4bc17bcb070f6f1d7c4b8fdf271d7166837bebe63ac5cbcc7eb2883c42bb1", func := "gouache/gouachelaw04.PowersSums", spec := "powersSums", inPlace := ["math/bits.Add64", "math/bits.Sub64"], unfollowed := true, recurses := true, named := ["math/bits.divideError", "math/bits.overflowError"], apart := false }
def PowersSumsSaid : Prop := powersSumsRow.holds Try.pinned (OpenSpec.ofChange powersSumsSpec)

/-- ITS FALSE NEIGHBOUR: 'it returns false'. Refute it at one input. -/
def powersSumsWrong : ChangeSpec := { name := "powersSums", fn := fun _ => fun
  | [d1, d2] => { results := [.lit (.bool false)], args := [d1, d2] }
  | _ => none }
def PowersSumsWrongFalsely : Prop := powersSumsRow.holds Try.pinned (OpenSpec.ofChange powersSumsWrong)

/-- 'gouachelaw04.PowersRise': WHATEVER THE INPUT: true; the input reads as it did. -/
def powersRiseSpec : ChangeSpec := { name := "powersRise", fn := fun _ => fun
  | [d1, d2, d3] => { results := [.lit (.bool true)], args := [d1, d2, d3] }
  | _ => none }
def powersRiseRow : OpenClaim := { program := "ytkknmicgalkgjaa", sum := "c6a4bc17bcb070f6f1d7c4b8fdf271d7166837bebe63ac5cbcc7eb2883c42bb1", func := "gouache/gouachelaw04.PowersRise", spec := "powersRise", inPlace := ["math/bits.Add64", "math/bits.Sub64"], unfollowed := true, recurses := true, named := ["math/bits.divideError", "math/bits.overflowError"], apart := false }
def PowersRiseSaid : Prop := powersRiseRow.holds Try.pinned (OpenSpec.ofChange powersRiseSpec)

/-- ITS FALSE NEIGHBOUR: 'it returns false'. Refute it at one input. -/
def powersRiseWrong : ChangeSpec := { name := "powersRise", fn := fun _ => fun
  | [d1, d2, d3] => { results := [.lit (.bool false)], args := [d1, d2, d3] }
  | _ => none }
def PowersRiseWrongFalsely : Prop := powersRiseRow.holds Try.pinned (OpenSpec.ofChange powersRiseWrong)

/-- 'gouachelaw04.PowersRefused': WHATEVER THE INPUT: true; the input reads as it did. -/
def powersRefusedSpec : ChangeSpec := { name := "powersRefused", fn := fun _ => fun
  | [d1, d2] => { results := [.lit (.bool true)], args := [d1, d2] }
  | _ => none }
def powersRefusedRow : OpenClaim := { program := "ytkknmicgalkgjaa", sum := "c6a4bc17bcb070f6f1d7c4b8fdf271d7166837bebe63ac5cbcc7eb2883c42bb1", func := "gouache/gouachelaw04.PowersRefused", spec := "powersRefused", inPlace := ["math/bits.Add64", "math/bits.Sub64"], unfollowed := true, recurses := true, named := ["math/bits.divideError", "math/bits.overflowError"], apart := false }
def PowersRefusedSaid : Prop := powersRefusedRow.holds Try.pinned (OpenSpec.ofChange powersRefusedSpec)

/-- ITS FALSE NEIGHBOUR: 'it returns false'. Refute it at one input. -/
def powersRefusedWrong : ChangeSpec := { name := "powersRefused", fn := fun _ => fun
  | [d1, d2] => { results := [.lit (.bool false)], args := [d1, d2] }
  | _ => none }
def PowersRefusedWrongFalsely : Prop := powersRefusedRow.holds Try.pinned (OpenSpec.ofChange powersRefusedWrong)

/-- 'gouachelaw04.PowersSquares': WHATEVER THE INPUT: true; the input reads as it did. -/
def powersSquaresSpec : ChangeSpec := { name := "powersSquares", fn := fun _ => fun
  | [d1, d2] => { results := [.lit (.bool true)], args := [d1, d2] }
  | _ => none }
def powersSquaresRow : OpenClaim := { program := "ytkknmicgalkgjaa", sum := "c6a4bc17bcb070f6f1d7c4b8fdf271d7166837bebe63ac5cbcc7eb2883c42bb1", func := "gouache/gouachelaw04.PowersSquares", spec := "powersSquares", inPlace := ["math/bits.Add64", "math/bits.Sub64"], unfollowed := true, recurses := true, named := ["math/bits.divideError", "math/bits.overflowError"], apart := false }
def PowersSquaresSaid : Prop := powersSquaresRow.holds Try.pinned (OpenSpec.ofChange powersSquaresSpec)

/-- ITS FALSE NEIGHBOUR: 'it returns false'. Refute it at one input. -/
def powersSquaresWrong : ChangeSpec := { name := "powersSquares", fn := fun _ => fun
  | [d1, d2] => { results := [.lit (.bool false)], args := [d1, d2] }
  | _ => none }
def PowersSquaresWrongFalsely : Prop := powersSquaresRow.holds Try.pinned (OpenSpec.ofChange powersSquaresWrong)

/- THE SECOND FORM. 'bulk': how many values and letters a reading holds, each counted each time it is reached (what is shared counts as often as it is met; a slice's spare places count too). A statement '..UptoSaid' is the law's where the arguments, and the package variables that the reading takes, are together of bulk at most 1048576: NARROWER than '..Said'. Prove '..Said' where nothing that the law and all that it calls make is longer than what came in: it says more and counts as full. Else prove '..UptoSaid'. A law counts once. -/
mutual
def uptoBulk {H : Type} : DataW H → Nat
  | .lit (.string bytes) => bytes.length + 1
  | .lit _ => 1
  | .nil => 1
  | .ptr d => uptoBulk d + 1
  | .slice elems spare => uptoBulkAll elems + uptoBulkAll spare + 1
  | .agg parts => uptoBulkAll parts + 1
  | .iface _ d => uptoBulk d + 1
  | .map entries => uptoBulkEntries entries + 1
  | .held _ => 1
def uptoBulkAll {H : Type} : List (DataW H) → Nat
  | [] => 0
  | d :: r => uptoBulk d + uptoBulkAll r
def uptoBulkEntries {H : Type} : List (Lit × DataW H) → Nat
  | [] => 0
  | x :: r => uptoBulkEntry x + uptoBulkEntries r
def uptoBulkEntry {H : Type} : Lit × DataW H → Nat
  | (.string bytes, d) => bytes.length + uptoBulk d + 1
  | (_, d) => uptoBulk d + 1
 end
def uptoSmall : (H : Type) → List (DataW H) → Bool := fun _ ds => decide (uptoBulkAll ds ≤ 1048576)
def OpenSpec.upto (s : _root_.Go.ChangeSpec) : _root_.Go.OpenSpec := { _root_.Go.OpenSpec.ofChange s with cond := some uptoSmall }

/-- 'gouachelaw04.PowersOf', WHERE WHAT IT READS IS OF BULK AT MOST 1048576: true; the input reads as it did. -/
def powersOfUptoRow : OpenClaim := { program := "ytkknmicgalkgjaa", sum := "c6a4bc17bcb070f6f1d7c4b8fdf271d7166837bebe63ac5cbcc7eb2883c42bb1", func := "gouache/gouachelaw04.PowersOf", spec := "powersOf", inPlace := ["math/bits.Add64", "math/bits.Sub64"], unfollowed := true, recurses := true, named := ["math/bits.divideError", "math/bits.overflowError"], apart := false, narrowed := true }
def PowersOfUptoSaid : Prop := powersOfUptoRow.holds Try.pinned (OpenSpec.upto powersOfSpec)

/-- 'gouachelaw04.PowersWhole', WHERE WHAT IT READS IS OF BULK AT MOST 1048576: true; the input reads as it did. -/
def powersWholeUptoRow : OpenClaim := { program := "ytkknmicgalkgjaa", sum := "c6a4bc17bcb070f6f1d7c4b8fdf271d7166837bebe63ac5cbcc7eb2883c42bb1", func := "gouache/gouachelaw04.PowersWhole", spec := "powersWhole", inPlace := ["math/bits.Add64", "math/bits.Sub64"], unfollowed := true, recurses := true, named := ["math/bits.divideError", "math/bits.overflowError"], apart := false, narrowed := true }
def PowersWholeUptoSaid : Prop := powersWholeUptoRow.holds Try.pinned (OpenSpec.upto powersWholeSpec)

/-- 'gouachelaw04.PowersBack', WHERE WHAT IT READS IS OF BULK AT MOST 1048576: true; the input reads as it did. -/
def powersBackUptoRow : OpenClaim := { program := "ytkknmicgalkgjaa", sum := "c6a4bc17bcb070f6f1d7c4b8fdf271d7166837bebe63ac5cbcc7eb2883c42bb1", func := "gouache/gouachelaw04.PowersBack", spec := "powersBack", inPlace := ["math/bits.Add64", "math/bits.Sub64"], unfollowed := true, recurses := true, named := ["math/bits.divideError", "math/bits.overflowError"], apart := false, narrowed := true }
def PowersBackUptoSaid : Prop := powersBackUptoRow.holds Try.pinned (OpenSpec.upto powersBackSpec)

/-- 'gouachelaw04.PowersSums', WHERE WHAT IT READS IS OF BULK AT MOST 1048576: true; the input reads as it did. -/
def powersSumsUptoRow : OpenClaim := { program := "ytkknmicgalkgjaa", sum := "c6a4bc17bcb070f6f1d7c4b8fdf271d7166837bebe63ac5cbcc7eb2883c42bb1", func := "gouache/gouachelaw04.PowersSums", spec := "powersSums", inPlace := ["math/bits.Add64", "math/bits.Sub64"], unfollowed := true, recurses := true, named := ["math/bits.divideError", "math/bits.overflowError"], apart := false, narrowed := true }
def PowersSumsUptoSaid : Prop := powersSumsUptoRow.holds Try.pinned (OpenSpec.upto powersSumsSpec)

/-- 'gouachelaw04.PowersRise', WHERE WHAT IT READS IS OF BULK AT MOST 1048576: true; the input reads as it did. -/
def powersRiseUptoRow : OpenClaim := { program := "ytkknmicgalkgjaa", sum := "c6a4bc17bcb070f6f1d7c4b8fdf271d7166837bebe63ac5cbcc7eb2883c42bb1", func := "gouache/gouachelaw04.PowersRise", spec := "powersRise", inPlace := ["math/bits.Add64", "math/bits.Sub64"], unfollowed := true, recurses := true, named := ["math/bits.divideError", "math/bits.overflowError"], apart := false, narrowed := true }
def PowersRiseUptoSaid : Prop := powersRiseUptoRow.holds Try.pinned (OpenSpec.upto powersRiseSpec)

/-- 'gouachelaw04.PowersRefused', WHERE WHAT IT READS IS OF BULK AT MOST 1048576: true; the input reads as it did. -/
def powersRefusedUptoRow : OpenClaim := { program := "ytkknmicgalkgjaa", sum := "c6a4bc17bcb070f6f1d7c4b8fdf271d7166837bebe63ac5cbcc7eb2883c42bb1", func := "gouache/gouachelaw04.PowersRefused", spec := "powersRefused", inPlace := ["math/bits.Add64", "math/bits.Sub64"], unfollowed := true, recurses := true, named := ["math/bits.divideError", "math/bits.overflowError"], apart := false, narrowed := true }
def PowersRefusedUptoSaid : Prop := powersRefusedUptoRow.holds Try.pinned (OpenSpec.upto powersRefusedSpec)

/-- 'gouachelaw04.PowersSquares', WHERE WHAT IT READS IS OF BULK AT MOST 1048576: true; the input reads as it did. -/
def powersSquaresUptoRow : OpenClaim := { program := "ytkknmicgalkgjaa", sum := "c6a4bc17bcb070f6f1d7c4b8fdf271d7166837bebe63ac5cbcc7eb2883c42bb1", func := "gouache/gouachelaw04.PowersSquares", spec := "powersSquares", inPlace := ["math/bits.Add64", "math/bits.Sub64"], unfollowed := true, recurses := true, named := ["math/bits.divideError", "math/bits.overflowError"], apart := false, narrowed := true }
def PowersSquaresUptoSaid : Prop := powersSquaresUptoRow.holds Try.pinned (OpenSpec.upto powersSquaresSpec)

end Rows
end Go.Proofs.Ytkknmicgalkgjaa
