/-
  No cell of these rows narrows 'for every input' (looked for: loops, veiled, ifaces, maps, wideKeys, modest, calm, conditions, laid).
  DERIVED. THE GIVEN ROWS OF THIS SEAT. 7 by the template 'for every input the law returns true; each argument reads behind the call as it read before'; 0 by the template 'total and deterministic' (their statements: YtdocimmchckjiaaTotals.lean).
  GIVEN WITH THE SEED: the statements are not yours to turn. If you find one false, say at which input.
  Laid BY PROGRAM, IN A SANDBOX (cutbox-rows.mjs): the forced cells as the released guide's own fill.sh prints them over the translation 49024a94fedadcf6… (all of the seat's roots in one cut). By AI agents, Wed Nov 11 2026. No macro, syntax, notation, axiom, sorry.
-/
import Derived.Test.YtdocimmchckjiaaChecked
import GoSem.Claim
import GoSem.ClaimJoined
import GoSem.ClaimMapViews
import Derived.JoinedTies
import Derived.KernelRfl
namespace Go.Proofs.Ytdocimmchckjiaa
/- THE CELL 'sum', in the pinned program and in every row, IS THE sha256 OF THE DUMP (.gsa) THAT YtdocimmchckjiaaProg.lean LOADS. Nothing in Lean hashes anything: it is a label: what it is worth is what the hold of that sum in a sandbox is worth. -/
noncomputable def Try.pinned : Pinned := { name := "ytdocimmchckjiaa", sum := "49024a94fedadcf6db8202e338457805d336fa4a97257a73f69e7e23fc7dea89", checked := Try.checked }
namespace Rows
def none {H : Type} : Left H := { results := [], args := [] }

/-- 'gouachelaw01.WidesSums': WHATEVER THE INPUT: true; the input reads as it did. -/
def widesSumsSpec : ChangeSpec := { name := "widesSums", fn := fun _ => fun
  | [d] => { results := [.lit (.bool true)], args := [d] }
  | _ => none }
def widesSumsRow : OpenClaim := { program := "ytdocimmchckjiaa", sum := "49024a94fedadcf6db8202e338457805d336fa4a97257a73f69e7e23fc7dea89", func := "gouache/gouachelaw01.WidesSums", spec := "widesSums", inPlace := ["math/bits.Add64", "math/bits.Sub64"], named := ["math/bits.divideError", "math/bits.overflowError"], apart := false }
def WidesSumsSaid : Prop := widesSumsRow.holds Try.pinned (OpenSpec.ofChange widesSumsSpec)

/-- ITS FALSE NEIGHBOUR: 'it returns false'. Refute it at one input. -/
def widesSumsWrong : ChangeSpec := { name := "widesSums", fn := fun _ => fun
  | [d] => { results := [.lit (.bool false)], args := [d] }
  | _ => none }
def WidesSumsWrongFalsely : Prop := widesSumsRow.holds Try.pinned (OpenSpec.ofChange widesSumsWrong)

/-- 'gouachelaw01.WidesProducts': WHATEVER THE INPUT: true; the input reads as it did. -/
def widesProductsSpec : ChangeSpec := { name := "widesProducts", fn := fun _ => fun
  | [d1, d2, d3] => { results := [.lit (.bool true)], args := [d1, d2, d3] }
  | _ => none }
def widesProductsRow : OpenClaim := { program := "ytdocimmchckjiaa", sum := "49024a94fedadcf6db8202e338457805d336fa4a97257a73f69e7e23fc7dea89", func := "gouache/gouachelaw01.WidesProducts", spec := "widesProducts", inPlace := ["math/bits.Add64", "math/bits.Sub64"], named := ["math/bits.divideError", "math/bits.overflowError"], apart := false }
def WidesProductsSaid : Prop := widesProductsRow.holds Try.pinned (OpenSpec.ofChange widesProductsSpec)

/-- ITS FALSE NEIGHBOUR: 'it returns false'. Refute it at one input. -/
def widesProductsWrong : ChangeSpec := { name := "widesProducts", fn := fun _ => fun
  | [d1, d2, d3] => { results := [.lit (.bool false)], args := [d1, d2, d3] }
  | _ => none }
def WidesProductsWrongFalsely : Prop := widesProductsRow.holds Try.pinned (OpenSpec.ofChange widesProductsWrong)

/-- 'gouachelaw01.WidesFloors': WHATEVER THE INPUT: true; the input reads as it did. -/
def widesFloorsSpec : ChangeSpec := { name := "widesFloors", fn := fun _ => fun
  | [d1, d2] => { results := [.lit (.bool true)], args := [d1, d2] }
  | _ => none }
def widesFloorsRow : OpenClaim := { program := "ytdocimmchckjiaa", sum := "49024a94fedadcf6db8202e338457805d336fa4a97257a73f69e7e23fc7dea89", func := "gouache/gouachelaw01.WidesFloors", spec := "widesFloors", inPlace := ["math/bits.Add64", "math/bits.Sub64"], named := ["math/bits.divideError", "math/bits.overflowError"], apart := false }
def WidesFloorsSaid : Prop := widesFloorsRow.holds Try.pinned (OpenSpec.ofChange widesFloorsSpec)

/-- ITS FALSE NEIGHBOUR: 'it returns false'. Refute it at one input. -/
def widesFloorsWrong : ChangeSpec := { name := "widesFloors", fn := fun _ => fun
  | [d1, d2] => { results := [.lit (.bool false)], args := [d1, d2] }
  | _ => none }
def WidesFloorsWrongFalsely : Prop := widesFloorsRow.holds Try.pinned (OpenSpec.ofChange widesFloorsWrong)

/-- 'gouachelaw01.WidesHalves': WHATEVER THE INPUT: true; the input reads as it did. -/
def widesHalvesSpec : ChangeSpec := { name := "widesHalves", fn := fun _ => fun
  | [d1, d2, d3] => { results := [.lit (.bool true)], args := [d1, d2, d3] }
  | _ => none }
def widesHalvesRow : OpenClaim := { program := "ytdocimmchckjiaa", sum := "49024a94fedadcf6db8202e338457805d336fa4a97257a73f69e7e23fc7dea89", func := "gouache/gouachelaw01.WidesHalves", spec := "widesHalves", inPlace := ["math/bits.Add64", "math/bits.Sub64"], named := ["math/bits.divideError", "math/bits.overflowError"], apart := false }
def WidesHalvesSaid : Prop := widesHalvesRow.holds Try.pinned (OpenSpec.ofChange widesHalvesSpec)

/-- ITS FALSE NEIGHBOUR: 'it returns false'. Refute it at one input. -/
def widesHalvesWrong : ChangeSpec := { name := "widesHalves", fn := fun _ => fun
  | [d1, d2, d3] => { results := [.lit (.bool false)], args := [d1, d2, d3] }
  | _ => none }
def WidesHalvesWrongFalsely : Prop := widesHalvesRow.holds Try.pinned (OpenSpec.ofChange widesHalvesWrong)

/-- 'gouachelaw01.WidesReckoned': WHATEVER THE INPUT: true; the input reads as it did. -/
def widesReckonedSpec : ChangeSpec := { name := "widesReckoned", fn := fun _ => fun
  | [d] => { results := [.lit (.bool true)], args := [d] }
  | _ => none }
def widesReckonedRow : OpenClaim := { program := "ytdocimmchckjiaa", sum := "49024a94fedadcf6db8202e338457805d336fa4a97257a73f69e7e23fc7dea89", func := "gouache/gouachelaw01.WidesReckoned", spec := "widesReckoned", inPlace := ["math/bits.Add64", "math/bits.Sub64"], named := ["math/bits.divideError", "math/bits.overflowError"], apart := false }
def WidesReckonedSaid : Prop := widesReckonedRow.holds Try.pinned (OpenSpec.ofChange widesReckonedSpec)

/-- ITS FALSE NEIGHBOUR: 'it returns false'. Refute it at one input. -/
def widesReckonedWrong : ChangeSpec := { name := "widesReckoned", fn := fun _ => fun
  | [d] => { results := [.lit (.bool false)], args := [d] }
  | _ => none }
def WidesReckonedWrongFalsely : Prop := widesReckonedRow.holds Try.pinned (OpenSpec.ofChange widesReckonedWrong)

/-- 'gouachelaw01.WidesOrder': WHATEVER THE INPUT: true; the input reads as it did. -/
def widesOrderSpec : ChangeSpec := { name := "widesOrder", fn := fun _ => fun
  | [d] => { results := [.lit (.bool true)], args := [d] }
  | _ => none }
def widesOrderRow : OpenClaim := { program := "ytdocimmchckjiaa", sum := "49024a94fedadcf6db8202e338457805d336fa4a97257a73f69e7e23fc7dea89", func := "gouache/gouachelaw01.WidesOrder", spec := "widesOrder", inPlace := ["math/bits.Sub64", "math/bits.Add64"], named := ["math/bits.divideError", "math/bits.overflowError"], apart := false }
def WidesOrderSaid : Prop := widesOrderRow.holds Try.pinned (OpenSpec.ofChange widesOrderSpec)

/-- ITS FALSE NEIGHBOUR: 'it returns false'. Refute it at one input. -/
def widesOrderWrong : ChangeSpec := { name := "widesOrder", fn := fun _ => fun
  | [d] => { results := [.lit (.bool false)], args := [d] }
  | _ => none }
def WidesOrderWrongFalsely : Prop := widesOrderRow.holds Try.pinned (OpenSpec.ofChange widesOrderWrong)

/-- 'gouachelaw01.WidesNarrow': WHATEVER THE INPUT: true; the input reads as it did. -/
def widesNarrowSpec : ChangeSpec := { name := "widesNarrow", fn := fun _ => fun
  | [d1, d2] => { results := [.lit (.bool true)], args := [d1, d2] }
  | _ => none }
def widesNarrowRow : OpenClaim := { program := "ytdocimmchckjiaa", sum := "49024a94fedadcf6db8202e338457805d336fa4a97257a73f69e7e23fc7dea89", func := "gouache/gouachelaw01.WidesNarrow", spec := "widesNarrow", inPlace := ["math/bits.Add64", "math/bits.Sub64"], named := ["math/bits.divideError", "math/bits.overflowError"], apart := false }
def WidesNarrowSaid : Prop := widesNarrowRow.holds Try.pinned (OpenSpec.ofChange widesNarrowSpec)

/-- ITS FALSE NEIGHBOUR: 'it returns false'. Refute it at one input. -/
def widesNarrowWrong : ChangeSpec := { name := "widesNarrow", fn := fun _ => fun
  | [d1, d2] => { results := [.lit (.bool false)], args := [d1, d2] }
  | _ => none }
def WidesNarrowWrongFalsely : Prop := widesNarrowRow.holds Try.pinned (OpenSpec.ofChange widesNarrowWrong)

/- THE SECOND FORM. 'bulk': how many values and letters a reading holds, each counted each time it is reached (what is shared counts as often as it is met; a slice's spare places count too). A statement '..UptoSaid' is the law's where the arguments, and the package variables that the reading takes, are together of bulk at most 1048576: NARROWER than '..Said'. Prove '..Said' where nothing that the law and all that it calls make is longer than what came in: it says more and counts as full. Else prove '..UptoSaid'. A law counts once. -/
mutual
def uptoBulk {H : Type} : DataW H → Nat
  | .lit (.string bytes) => bytes.length + 1
  | .lit _ => 1
  | .nil => 1
  | .ptr d => uptoBulk d + 1
  | .slice elems spare => uptoBulkAll elems + uptoBulkAll spare + 1
  | .agg parts => uptoBulkAll parts + 1
  | .iface _ d => uptoBulk d + 1
  | .map entries => uptoBulkEntries entries + 1
  | .held _ => 1
def uptoBulkAll {H : Type} : List (DataW H) → Nat
  | [] => 0
  | d :: r => uptoBulk d + uptoBulkAll r
def uptoBulkEntries {H : Type} : List (Lit × DataW H) → Nat
  | [] => 0
  | x :: r => uptoBulkEntry x + uptoBulkEntries r
def uptoBulkEntry {H : Type} : Lit × DataW H → Nat
  | (.string bytes, d) => bytes.length + uptoBulk d + 1
  | (_, d) => uptoBulk d + 1
 end
def uptoSmall : (H : Type) → List (DataW H) → Bool := fun _ ds => decide (uptoBulkAll ds ≤ 1048576)
def OpenSpec.upto (s : _root_.Go.ChangeSpec) : _root_.Go.OpenSpec := { _root_.Go.OpenSpec.ofChange s with cond := some uptoSmall }

/-- 'gouachelaw01.WidesSums', WHERE WHAT IT READS IS OF BULK AT MOST 1048576: true; the input reads as it did. -/
def widesSumsUptoRow : OpenClaim := { program := "ytdocimmchckjiaa", sum := "49024a94fedadcf6db8202e338457805d336fa4a97257a73f69e7e23fc7dea89", func := "gouache/gouachelaw01.WidesSums", spec := "widesSums", inPlace := ["math/bits.Add64", "math/bits.Sub64"], named := ["math/bits.divideError", "math/bits.overflowError"], apart := false, narrowed := true }
def WidesSumsUptoSaid : Prop := widesSumsUptoRow.holds Try.pinned (OpenSpec.upto widesSumsSpec)

/-- 'gouachelaw01.WidesProducts', WHERE WHAT IT READS IS OF BULK AT MOST 1048576: true; the input reads as it did. -/
def widesProductsUptoRow : OpenClaim := { program := "ytdocimmchckjiaa", sum := "49024a94fedadcf6db8202e338457805d336fa4a97257a73f69e7e23fc7dea89", func := "gouache/gouachelaw01.WidesProducts", spec := "widesProducts", inPlace := ["math/bits.Add64", "math/bits.Sub64"], named := ["math/bits.divideError", "math/bits.overflowError"], apart := false, narrowed := true }
def WidesProductsUptoSaid : Prop := widesProductsUptoRow.holds Try.pinned (OpenSpec.upto widesProductsSpec)

/-- 'gouachelaw01.WidesFloors', WHERE WHAT IT READS IS OF BULK AT MOST 1048576: true; the input reads as it did. -/
def widesFloorsUptoRow : OpenClaim := { program := "ytdocimmchckjiaa", sum := "49024a94fedadcf6db8202e338457805d336fa4a97257a73f69e7e23fc7dea89", func := "gouache/gouachelaw01.WidesFloors", spec := "widesFloors", inPlace := ["math/bits.Add64", "math/bits.Sub64"], named := ["math/bits.divideError", "math/bits.overflowError"], apart := false, narrowed := true }
def WidesFloorsUptoSaid : Prop := widesFloorsUptoRow.holds Try.pinned (OpenSpec.upto widesFloorsSpec)

/-- 'gouachelaw01.WidesHalves', WHERE WHAT IT READS IS OF BULK AT MOST 1048576: true; the input reads as it did. -/
def widesHalvesUptoRow : OpenClaim := { program := "ytdocimmchckjiaa", sum := "49024a94fedadcf6db8202e338457805d336fa4a97257a73f69e7e23fc7dea89", func := "gouache/gouachelaw01.WidesHalves", spec := "widesHalves", inPlace := ["math/bits.Add64", "math/bits.Sub64"], named := ["math/bits.divideError", "math/bits.overflowError"], apart := false, narrowed := true }
def WidesHalvesUptoSaid : Prop := widesHalvesUptoRow.holds Try.pinned (OpenSpec.upto widesHalvesSpec)

/-- 'gouachelaw01.WidesReckoned', WHERE WHAT IT READS IS OF BULK AT MOST 1048576: true; the input reads as it did. -/
def widesReckonedUptoRow : OpenClaim := { program := "ytdocimmchckjiaa", sum := "49024a94fedadcf6db8202e338457805d336fa4a97257a73f69e7e23fc7dea89", func := "gouache/gouachelaw01.WidesReckoned", spec := "widesReckoned", inPlace := ["math/bits.Add64", "math/bits.Sub64"], named := ["math/bits.divideError", "math/bits.overflowError"], apart := false, narrowed := true }
def WidesReckonedUptoSaid : Prop := widesReckonedUptoRow.holds Try.pinned (OpenSpec.upto widesReckonedSpec)

/-- 'gouachelaw01.WidesOrder', WHERE WHAT IT READS IS OF BULK AT MOST 1048576: true; the input reads as it did. -/
def widesOrderUptoRow : OpenClaim := { program := "ytdocimmchckjiaa", sum := "49024a94fedadcf6db8202e338457805d336fa4a97257a73f69e7e23fc7dea89", func := "gouache/gouachelaw01.WidesOrder", spec := "widesOrder", inPlace := ["math/bits.Sub64", "math/bits.Add64"], named := ["math/bits.divideError", "math/bits.overflowError"], apart := false, narrowed := true }
def WidesOrderUptoSaid : Prop := widesOrderUptoRow.holds Try.pinned (OpenSpec.upto widesOrderSpec)

/-- 'gouachelaw01.WidesNarrow', WHERE WHAT IT READS IS OF BULK AT MOST 1048576: true; the input reads as it did. -/
def widesNarrowUptoRow : OpenClaim := { program := "ytdocimmchckjiaa", sum := "49024a94fedadcf6db8202e338457805d336fa4a97257a73f69e7e23fc7dea89", func := "gouache/gouachelaw01.WidesNarrow", spec := "widesNarrow", inPlace := ["math/bits.Add64", "math/bits.Sub64"], named := ["math/bits.divideError", "math/bits.overflowError"], apart := false, narrowed := true }
def WidesNarrowUptoSaid : Prop := widesNarrowUptoRow.holds Try.pinned (OpenSpec.upto widesNarrowSpec)

end Rows
end Go.Proofs.Ytdocimmchckjiaa
