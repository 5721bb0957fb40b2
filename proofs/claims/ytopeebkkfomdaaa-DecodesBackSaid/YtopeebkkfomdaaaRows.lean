/-
  No cell of these rows narrows 'for every input' (looked for: loops, veiled, ifaces, maps, wideKeys, modest, calm, conditions, laid).
  DERIVED. THE GIVEN ROWS OF THIS SEAT. 5 by the template 'for every input the law returns true; each argument reads behind the call as it read before'; 0 by the template 'total and deterministic' (their statements: YtopeebkkfomdaaaTotals.lean).
  GIVEN WITH THE SEED: the statements are not yours to turn. If you find one false, say at which input.
  Laid BY PROGRAM, IN A SANDBOX (cutbox-rows.mjs): the forced cells as the released guide's own fill.sh prints them over the translation c7200b3dd933c308… (all of the seat's roots in one cut). By AI agents, Wed Nov 11 2026. No macro, syntax, notation, axiom, sorry.
-/
import Derived.Test.YtopeebkkfomdaaaChecked
import GoSem.Claim
import GoSem.ClaimJoined
import GoSem.ClaimMapViews
import Derived.JoinedTies
import Derived.KernelRfl
namespace Go.Proofs.Ytopeebkkfomdaaa
/- THE CELL 'sum', in the pinned program and in every row, IS THE sha256 OF THE DUMP (.gsa) THAT YtopeebkkfomdaaaProg.lean LOADS. Nothing in Lean hashes anything: it is a label: what it is worth is what the hold of that sum in a sandbox is worth. -/
noncomputable def Try.pinned : Pinned := { name := "ytopeebkkfomdaaa", sum := "c7200b3dd933c3081855697880cb65f4941285a6bf0af80c56955cae3d64d227", checked := Try.checked }
namespace Rows
def none {H : Type} : Left H := { results := [], args := [] }

/-- 'gouachelaw07.DecodesOf': WHATEVER THE INPUT: true; the input reads as it did. -/
def decodesOfSpec : ChangeSpec := { name := "decodesOf", fn := fun _ => fun
  | [d1, d2] => { results := [.lit (.bool true)], args := [d1, d2] }
  | _ => none }
def decodesOfRow : OpenClaim := { program := "ytopeebkkfomdaaa", sum := "c7200b3dd933c3081855697880cb65f4941285a6bf0af80c56955cae3d64d227", func := "gouache/gouachelaw07.DecodesOf", spec := "decodesOf", inPlace := ["math/bits.Add64", "math/bits.Sub64"], named := ["math/bits.divideError", "math/bits.overflowError"], apart := false }
def DecodesOfSaid : Prop := decodesOfRow.holds Try.pinned (OpenSpec.ofChange decodesOfSpec)

/-- ITS FALSE NEIGHBOUR: 'it returns false'. Refute it at one input. -/
def decodesOfWrong : ChangeSpec := { name := "decodesOf", fn := fun _ => fun
  | [d1, d2] => { results := [.lit (.bool false)], args := [d1, d2] }
  | _ => none }
def DecodesOfWrongFalsely : Prop := decodesOfRow.holds Try.pinned (OpenSpec.ofChange decodesOfWrong)

/-- 'gouachelaw07.DecodesEnds': WHATEVER THE INPUT: true; the input reads as it did. -/
def decodesEndsSpec : ChangeSpec := { name := "decodesEnds", fn := fun _ => fun
  | [d] => { results := [.lit (.bool true)], args := [d] }
  | _ => none }
def decodesEndsRow : OpenClaim := { program := "ytopeebkkfomdaaa", sum := "c7200b3dd933c3081855697880cb65f4941285a6bf0af80c56955cae3d64d227", func := "gouache/gouachelaw07.DecodesEnds", spec := "decodesEnds", inPlace := ["math/bits.Add64", "math/bits.Sub64"], named := ["math/bits.divideError", "math/bits.overflowError"], apart := false }
def DecodesEndsSaid : Prop := decodesEndsRow.holds Try.pinned (OpenSpec.ofChange decodesEndsSpec)

/-- ITS FALSE NEIGHBOUR: 'it returns false'. Refute it at one input. -/
def decodesEndsWrong : ChangeSpec := { name := "decodesEnds", fn := fun _ => fun
  | [d] => { results := [.lit (.bool false)], args := [d] }
  | _ => none }
def DecodesEndsWrongFalsely : Prop := decodesEndsRow.holds Try.pinned (OpenSpec.ofChange decodesEndsWrong)

/-- 'gouachelaw07.DecodesBoth': WHATEVER THE INPUT: true; the input reads as it did. -/
def decodesBothSpec : ChangeSpec := { name := "decodesBoth", fn := fun _ => fun
  | [d] => { results := [.lit (.bool true)], args := [d] }
  | _ => none }
def decodesBothRow : OpenClaim := { program := "ytopeebkkfomdaaa", sum := "c7200b3dd933c3081855697880cb65f4941285a6bf0af80c56955cae3d64d227", func := "gouache/gouachelaw07.DecodesBoth", spec := "decodesBoth", inPlace := ["math/bits.Add64", "math/bits.Sub64"], named := ["math/bits.divideError", "math/bits.overflowError"], apart := false }
def DecodesBothSaid : Prop := decodesBothRow.holds Try.pinned (OpenSpec.ofChange decodesBothSpec)

/-- ITS FALSE NEIGHBOUR: 'it returns false'. Refute it at one input. -/
def decodesBothWrong : ChangeSpec := { name := "decodesBoth", fn := fun _ => fun
  | [d] => { results := [.lit (.bool false)], args := [d] }
  | _ => none }
def DecodesBothWrongFalsely : Prop := decodesBothRow.holds Try.pinned (OpenSpec.ofChange decodesBothWrong)

/-- 'gouachelaw07.DecodesBack': WHATEVER THE INPUT: true; the input reads as it did. -/
def decodesBackSpec : ChangeSpec := { name := "decodesBack", fn := fun _ => fun
  | [d] => { results := [.lit (.bool true)], args := [d] }
  | _ => none }
def decodesBackRow : OpenClaim := { program := "ytopeebkkfomdaaa", sum := "c7200b3dd933c3081855697880cb65f4941285a6bf0af80c56955cae3d64d227", func := "gouache/gouachelaw07.DecodesBack", spec := "decodesBack", inPlace := ["math/bits.Add64", "math/bits.Sub64"], named := ["math/bits.divideError", "math/bits.overflowError"], apart := false }
def DecodesBackSaid : Prop := decodesBackRow.holds Try.pinned (OpenSpec.ofChange decodesBackSpec)

/-- ITS FALSE NEIGHBOUR: 'it returns false'. Refute it at one input. -/
def decodesBackWrong : ChangeSpec := { name := "decodesBack", fn := fun _ => fun
  | [d] => { results := [.lit (.bool false)], args := [d] }
  | _ => none }
def DecodesBackWrongFalsely : Prop := decodesBackRow.holds Try.pinned (OpenSpec.ofChange decodesBackWrong)

/-- 'gouachelaw07.DecodesRise': WHATEVER THE INPUT: true; the input reads as it did. -/
def decodesRiseSpec : ChangeSpec := { name := "decodesRise", fn := fun _ => fun
  | [d1, d2, d3] => { results := [.lit (.bool true)], args := [d1, d2, d3] }
  | _ => none }
def decodesRiseRow : OpenClaim := { program := "ytopeebkkfomdaaa", sum := "c7200b3dd933c3081855697880cb65f4941285a6bf0af80c56955cae3d64d227", func := "gouache/gouachelaw07.DecodesRise", spec := "decodesRise", inPlace := ["math/bits.Add64", "math/bits.Sub64"], named := ["math/bits.divideError", "math/bits.overflowError"], apart := false }
def DecodesRiseSaid : Prop := decodesRiseRow.holds Try.pinned (OpenSpec.ofChange decodesRiseSpec)

/-- ITS FALSE NEIGHBOUR: 'it returns false'. Refute it at one input. -/
def decodesRiseWrong : ChangeSpec := { name := "decodesRise", fn := fun _ => fun
  | [d1, d2, d3] => { results := [.lit (.bool false)], args := [d1, d2, d3] }
  | _ => none }
def DecodesRiseWrongFalsely : Prop := decodesRiseRow.holds Try.pinned (OpenSpec.ofChange decodesRiseWrong)

/- THE SECOND FORM. 'bulk': how many values and letters a reading holds, each counted each time it is reached (what is shared counts as often as it is met; a slice's spare places count too). A statement '..UptoSaid' is the law's where the arguments, and the package variables that the reading takes, are together of bulk at most 1048576: NARROWER than '..Said'. Prove '..Said' where nothing that the law and all that it calls make is longer than what came in: it says more and counts as full. Else prove '..UptoSaid'. A law counts once. -/
mutual
def uptoBulk {H : Type} : DataW H → Nat
  | .lit (.string bytes) => bytes.length + 1
  | .lit _ => 1
  | .nil => 1
  | .ptr d => uptoBulk d + 1
  | .slice elems spare => uptoBulkAll elems + uptoBulkAll spare + 1
  | .agg parts => uptoBulkAll parts + 1
  | .iface _ d => uptoBulk d + 1
  | .map entries => uptoBulkEntries entries + 1
  | .held _ => 1
def uptoBulkAll {H : Type} : List (DataW H) → Nat
  | [] => 0
  | d :: r => uptoBulk d + uptoBulkAll r
def uptoBulkEntries {H : Type} : List (Lit × DataW H) → Nat
  | [] => 0
  | x :: r => uptoBulkEntry x + uptoBulkEntries r
def uptoBulkEntry {H : Type} : Lit × DataW H → Nat
  | (.string bytes, d) => bytes.length + uptoBulk d + 1
  | (_, d) => uptoBulk d + 1
 end
def uptoSmall : (H : Type) → List (DataW H) → Bool := fun _ ds => decide (uptoBulkAll ds ≤ 1048576)
def OpenSpec.upto (s : _root_.Go.ChangeSpec) : _root_.Go.OpenSpec := { _root_.Go.OpenSpec.ofChange s with cond := some uptoSmall }

/-- 'gouachelaw07.DecodesOf', WHERE WHAT IT READS IS OF BULK AT MOST 1048576: true; the input reads as it did. -/
def decodesOfUptoRow : OpenClaim := { program := "ytopeebkkfomdaaa", sum := "c7200b3dd933c3081855697880cb65f4941285a6bf0af80c56955cae3d64d227", func := "gouache/gouachelaw07.DecodesOf", spec := "decodesOf", inPlace := ["math/bits.Add64", "math/bits.Sub64"], named := ["math/bits.divideError", "math/bits.overflowError"], apart := false, narrowed := true }
def DecodesOfUptoSaid : Prop := decodesOfUptoRow.holds Try.pinned (OpenSpec.upto decodesOfSpec)

/-- 'gouachelaw07.DecodesEnds', WHERE WHAT IT READS IS OF BULK AT MOST 1048576: true; the input reads as it did. -/
def decodesEndsUptoRow : OpenClaim := { program := "ytopeebkkfomdaaa", sum := "c7200b3dd933c3081855697880cb65f4941285a6bf0af80c56955cae3d64d227", func := "gouache/gouachelaw07.DecodesEnds", spec := "decodesEnds", inPlace := ["math/bits.Add64", "math/bits.Sub64"], named := ["math/bits.divideError", "math/bits.overflowError"], apart := false, narrowed := true }
def DecodesEndsUptoSaid : Prop := decodesEndsUptoRow.holds Try.pinned (OpenSpec.upto decodesEndsSpec)

/-- 'gouachelaw07.DecodesBoth', WHERE WHAT IT READS IS OF BULK AT MOST 1048576: true; the input reads as it did. -/
def decodesBothUptoRow : OpenClaim := { program := "ytopeebkkfomdaaa", sum := "c7200b3dd933c3081855697880cb65f4941285a6bf0af80c56955cae3d64d227", func := "gouache/gouachelaw07.DecodesBoth", spec := "decodesBoth", inPlace := ["math/bits.Add64", "math/bits.Sub64"], named := ["math/bits.divideError", "math/bits.overflowError"], apart := false, narrowed := true }
def DecodesBothUptoSaid : Prop := decodesBothUptoRow.holds Try.pinned (OpenSpec.upto decodesBothSpec)

/-- 'gouachelaw07.DecodesBack', WHERE WHAT IT READS IS OF BULK AT MOST 1048576: true; the input reads as it did. -/
def decodesBackUptoRow : OpenClaim := { program := "ytopeebkkfomdaaa", sum := "c7200b3dd933c3081855697880cb65f4941285a6bf0af80c56955cae3d64d227", func := "gouache/gouachelaw07.DecodesBack", spec := "decodesBack", inPlace := ["math/bits.Add64", "math/bits.Sub64"], named := ["math/bits.divideError", "math/bits.overflowError"], apart := false, narrowed := true }
def DecodesBackUptoSaid : Prop := decodesBackUptoRow.holds Try.pinned (OpenSpec.upto decodesBackSpec)

/-- 'gouachelaw07.DecodesRise', WHERE WHAT IT READS IS OF BULK AT MOST 1048576: true; the input reads as it did. -/
def decodesRiseUptoRow : OpenClaim := { program := "ytopeebkkfomdaaa", sum := "c7200b3dd933c3081855697880cb65f4941285a6bf0af80c56955cae3d64d227", func := "gouache/gouachelaw07.DecodesRise", spec := "decodesRise", inPlace := ["math/bits.Add64", "math/bits.Sub64"], named := ["math/bits.divideError", "math/bits.overflowError"], apart := false, narrowed := true }
def DecodesRiseUptoSaid : Prop := decodesRiseUptoRow.holds Try.pinned (OpenSpec.upto decodesRiseSpec)

end Rows
end Go.Proofs.Ytopeebkkfomdaaa
