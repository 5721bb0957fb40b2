/-
  No cell of these rows narrows 'for every input' (looked for: loops, veiled, ifaces, maps, wideKeys, modest, calm, conditions, laid).
  DERIVED. THE GIVEN ROWS OF THIS SEAT. 5 by the template 'for every input the law returns true; each argument reads behind the call as it read before'; 0 by the template 'total and deterministic' (their statements: YtigkdggmojannaaTotals.lean).
  GIVEN WITH THE SEED: the statements are not yours to turn. If you find one false, say at which input.
  Laid BY PROGRAM, IN A SANDBOX (cutbox-rows.mjs): the forced cells as the released guide's own fill.sh prints them over the translation fccddcd83c407ddf… (all of the seat's roots in one cut). By AI agents, Wed Nov 11 2026. No macro, syntax, notation, axiom, sorry.
-/
import Derived.Test.YtigkdggmojannaaChecked
import GoSem.Claim
import GoSem.ClaimJoined
import GoSem.ClaimMapViews
import Derived.JoinedTies
import Derived.KernelRfl
namespace Go.Proofs.Ytigkdggmojannaa
/- THE CELL 'sum', in the pinned program and in every row, IS THE sha256 OF THE DUMP (.gsa) THAT YtigkdggmojannaaProg.lean LOADS. Nothing in Lean hashes anything: it is a label: what it is worth is what the hold of that sum in a sandbox is worth. -/
noncomputable def Try.pinned : Pinned := { name := "ytigkdggmojannaa", sum := "fccddcd83c407ddf05a5eb0909fab9c40086f9c868f943944535f1bc17fe5fa3", checked := Try.checked }
namespace Rows
def none {H : Type} : Left H := { results := [], args := [] }

/-- 'gouachelaw20.PlacesOf': WHATEVER THE INPUT: true; the input reads as it did. -/
def placesOfSpec : ChangeSpec := { name := "placesOf", fn := fun _ => fun
  | [d] => { results := [.lit (.bool true)], args := [d] }
  | _ => none }
def placesOfRow : OpenClaim := { program := "ytigkdggmojannaa", sum := "fccddcd83c407ddf05a5eb0909fab9c40086f9c868f943944535f1bc17fe5fa3", func := "gouache/gouachelaw20.PlacesOf", spec := "placesOf", inPlace := ["math/bits.Sub64", "math/bits.Add64", "internal/reflectlite.TypeOf"], unfollowed := true, recurses := true, named := ["math/bits.divideError", "math/bits.overflowError"], apart := false }
def PlacesOfSaid : Prop := placesOfRow.holds Try.pinned (OpenSpec.ofChange placesOfSpec)

/-- ITS FALSE NEIGHBOUR: 'it returns false'. Refute it at one input. -/
def placesOfWrong : ChangeSpec := { name := "placesOf", fn := fun _ => fun
  | [d] => { results := [.lit (.bool false)], args := [d] }
  | _ => none }
def PlacesOfWrongFalsely : Prop := placesOfRow.holds Try.pinned (OpenSpec.ofChange placesOfWrong)

/-- 'gouachelaw20.PlacesMoved': WHATEVER THE INPUT: true; the input reads as it did. -/
def placesMovedSpec : ChangeSpec := { name := "placesMoved", fn := fun _ => fun
  | [d1, d2, d3] => { results := [.lit (.bool true)], args := [d1, d2, d3] }
  | _ => none }
def placesMovedRow : OpenClaim := { program := "ytigkdggmojannaa", sum := "fccddcd83c407ddf05a5eb0909fab9c40086f9c868f943944535f1bc17fe5fa3", func := "gouache/gouachelaw20.PlacesMoved", spec := "placesMoved", inPlace := ["math/bits.Sub64", "math/bits.Add64", "internal/reflectlite.TypeOf"], unfollowed := true, recurses := true, named := ["math/bits.divideError", "math/bits.overflowError"], apart := false }
def PlacesMovedSaid : Prop := placesMovedRow.holds Try.pinned (OpenSpec.ofChange placesMovedSpec)

/-- ITS FALSE NEIGHBOUR: 'it returns false'. Refute it at one input. -/
def placesMovedWrong : ChangeSpec := { name := "placesMoved", fn := fun _ => fun
  | [d1, d2, d3] => { results := [.lit (.bool false)], args := [d1, d2, d3] }
  | _ => none }
def PlacesMovedWrongFalsely : Prop := placesMovedRow.holds Try.pinned (OpenSpec.ofChange placesMovedWrong)

/-- 'gouachelaw20.PlacesNear': WHATEVER THE INPUT: true; the input reads as it did. -/
def placesNearSpec : ChangeSpec := { name := "placesNear", fn := fun _ => fun
  | [d] => { results := [.lit (.bool true)], args := [d] }
  | _ => none }
def placesNearRow : OpenClaim := { program := "ytigkdggmojannaa", sum := "fccddcd83c407ddf05a5eb0909fab9c40086f9c868f943944535f1bc17fe5fa3", func := "gouache/gouachelaw20.PlacesNear", spec := "placesNear", inPlace := ["math/bits.Sub64", "math/bits.Add64", "internal/reflectlite.TypeOf"], unfollowed := true, recurses := true, named := ["math/bits.divideError", "math/bits.overflowError"], apart := false }
def PlacesNearSaid : Prop := placesNearRow.holds Try.pinned (OpenSpec.ofChange placesNearSpec)

/-- ITS FALSE NEIGHBOUR: 'it returns false'. Refute it at one input. -/
def placesNearWrong : ChangeSpec := { name := "placesNear", fn := fun _ => fun
  | [d] => { results := [.lit (.bool false)], args := [d] }
  | _ => none }
def PlacesNearWrongFalsely : Prop := placesNearRow.holds Try.pinned (OpenSpec.ofChange placesNearWrong)

/-- 'gouachelaw20.PlacesTurned': WHATEVER THE INPUT: true; the input reads as it did. -/
def placesTurnedSpec : ChangeSpec := { name := "placesTurned", fn := fun _ => fun
  | [d] => { results := [.lit (.bool true)], args := [d] }
  | _ => none }
def placesTurnedRow : OpenClaim := { program := "ytigkdggmojannaa", sum := "fccddcd83c407ddf05a5eb0909fab9c40086f9c868f943944535f1bc17fe5fa3", func := "gouache/gouachelaw20.PlacesTurned", spec := "placesTurned", inPlace := ["math/bits.Sub64", "math/bits.Add64", "internal/reflectlite.TypeOf"], unfollowed := true, recurses := true, named := ["math/bits.divideError", "math/bits.overflowError"], apart := false }
def PlacesTurnedSaid : Prop := placesTurnedRow.holds Try.pinned (OpenSpec.ofChange placesTurnedSpec)

/-- ITS FALSE NEIGHBOUR: 'it returns false'. Refute it at one input. -/
def placesTurnedWrong : ChangeSpec := { name := "placesTurned", fn := fun _ => fun
  | [d] => { results := [.lit (.bool false)], args := [d] }
  | _ => none }
def PlacesTurnedWrongFalsely : Prop := placesTurnedRow.holds Try.pinned (OpenSpec.ofChange placesTurnedWrong)

/-- 'gouachelaw20.PlacesWhole': WHATEVER THE INPUT: true; the input reads as it did. -/
def placesWholeSpec : ChangeSpec := { name := "placesWhole", fn := fun _ => fun
  | [d1, d2] => { results := [.lit (.bool true)], args := [d1, d2] }
  | _ => none }
def placesWholeRow : OpenClaim := { program := "ytigkdggmojannaa", sum := "fccddcd83c407ddf05a5eb0909fab9c40086f9c868f943944535f1bc17fe5fa3", func := "gouache/gouachelaw20.PlacesWhole", spec := "placesWhole", inPlace := ["math/bits.Sub64", "math/bits.Add64", "internal/reflectlite.TypeOf"], unfollowed := true, recurses := true, named := ["math/bits.divideError", "math/bits.overflowError"], apart := false }
def PlacesWholeSaid : Prop := placesWholeRow.holds Try.pinned (OpenSpec.ofChange placesWholeSpec)

/-- ITS FALSE NEIGHBOUR: 'it returns false'. Refute it at one input. -/
def placesWholeWrong : ChangeSpec := { name := "placesWhole", fn := fun _ => fun
  | [d1, d2] => { results := [.lit (.bool false)], args := [d1, d2] }
  | _ => none }
def PlacesWholeWrongFalsely : Prop := placesWholeRow.holds Try.pinned (OpenSpec.ofChange placesWholeWrong)

/- THE SECOND FORM. 'bulk': how many values and letters a reading holds, each counted each time it is reached (what is shared counts as often as it is met; a slice's spare places count too). A statement '..UptoSaid' is the law's where the arguments, and the package variables that the reading takes, are together of bulk at most 1048576: NARROWER than '..Said'. Prove '..Said' where nothing that the law and all that it calls make is longer than what came in: it says more and counts as full. Else prove '..UptoSaid'. A law counts once. -/
mutual
def uptoBulk {H : Type} : DataW H → Nat
  | .lit (.string bytes) => bytes.length + 1
  | .lit _ => 1
  | .nil => 1
  | .ptr d => uptoBulk d + 1
  | .slice elems spare => uptoBulkAll elems + uptoBulkAll spare + 1
  | .agg parts => uptoBulkAll parts + 1
  | .iface _ d => uptoBulk d + 1
  | .map entries => uptoBulkEntries entries + 1
  | .held _ => 1
def uptoBulkAll {H : Type} : List (DataW H) → Nat
  | [] => 0
  | d :: r => uptoBulk d + uptoBulkAll r
def uptoBulkEntries {H : Type} : List (Lit × DataW H) → Nat
  | [] => 0
  | x :: r => uptoBulkEntry x + uptoBulkEntries r
def uptoBulkEntry {H : Type} : Lit × DataW H → Nat
  | (.string bytes, d) => bytes.length + uptoBulk d + 1
  | (_, d) => uptoBulk d + 1
 end
def uptoSmall : (H : Type) → List (DataW H) → Bool := fun _ ds => decide (uptoBulkAll ds ≤ 1048576)
def OpenSpec.upto (s : _root_.Go.ChangeSpec) : _root_.Go.OpenSpec := { _root_.Go.OpenSpec.ofChange s with cond := some uptoSmall }

/-- 'gouachelaw20.PlacesOf', WHERE WHAT IT READS IS OF BULK AT MOST 1048576: true; the input reads as it did. -/
def placesOfUptoRow : OpenClaim := { program := "ytigkdggmojannaa", sum := "fccddcd83c407ddf05a5eb0909fab9c40086f9c868f943944535f1bc17fe5fa3", func := "gouache/gouachelaw20.PlacesOf", spec := "placesOf", inPlace := ["math/bits.Sub64", "math/bits.Add64", "internal/reflectlite.TypeOf"], unfollowed := true, recurses := true, named := ["math/bits.divideError", "math/bits.overflowError"], apart := false, narrowed := true }
def PlacesOfUptoSaid : Prop := placesOfUptoRow.holds Try.pinned (OpenSpec.upto placesOfSpec)

/-- 'gouachelaw20.PlacesMoved', WHERE WHAT IT READS IS OF BULK AT MOST 1048576: true; the input reads as it did. -/
def placesMovedUptoRow : OpenClaim := { program := "ytigkdggmojannaa", sum := "fccddcd83c407ddf05a5eb0909fab9c40086f9c868f943944535f1bc17fe5fa3", func := "gouache/gouachelaw20.PlacesMoved", spec := "placesMoved", inPlace := ["math/bits.Sub64", "math/bits.Add64", "internal/reflectlite.TypeOf"], unfollowed := true, recurses := true, named := ["math/bits.divideError", "math/bits.overflowError"], apart := false, narrowed := true }
def PlacesMovedUptoSaid : Prop := placesMovedUptoRow.holds Try.pinned (OpenSpec.upto placesMovedSpec)

/-- 'gouachelaw20.PlacesNear', WHERE WHAT IT READS IS OF BULK AT MOST 1048576: true; the input reads as it did. -/
def placesNearUptoRow : OpenClaim := { program := "ytigkdggmojannaa", sum := "fccddcd83c407ddf05a5eb0909fab9c40086f9c868f943944535f1bc17fe5fa3", func := "gouache/gouachelaw20.PlacesNear", spec := "placesNear", inPlace := ["math/bits.Sub64", "math/bits.Add64", "internal/reflectlite.TypeOf"], unfollowed := true, recurses := true, named := ["math/bits.divideError", "math/bits.overflowError"], apart := false, narrowed := true }
def PlacesNearUptoSaid : Prop := placesNearUptoRow.holds Try.pinned (OpenSpec.upto placesNearSpec)

/-- 'gouachelaw20.PlacesTurned', WHERE WHAT IT READS IS OF BULK AT MOST 1048576: true; the input reads as it did. -/
def placesTurnedUptoRow : OpenClaim := { program := "ytigkdggmojannaa", sum := "fccddcd83c407ddf05a5eb0909fab9c40086f9c868f943944535f1bc17fe5fa3", func := "gouache/gouachelaw20.PlacesTurned", spec := "placesTurned", inPlace := ["math/bits.Sub64", "math/bits.Add64", "internal/reflectlite.TypeOf"], unfollowed := true, recurses := true, named := ["math/bits.divideError", "math/bits.overflowError"], apart := false, narrowed := true }
def PlacesTurnedUptoSaid : Prop := placesTurnedUptoRow.holds Try.pinned (OpenSpec.upto placesTurnedSpec)

/-- 'gouachelaw20.PlacesWhole', WHERE WHAT IT READS IS OF BULK AT MOST 1048576: true; the input reads as it did. -/
def placesWholeUptoRow : OpenClaim := { program := "ytigkdggmojannaa", sum := "fccddcd83c407ddf05a5eb0909fab9c40086f9c868f943944535f1bc17fe5fa3", func := "gouache/gouachelaw20.PlacesWhole", spec := "placesWhole", inPlace := ["math/bits.Sub64", "math/bits.Add64", "internal/reflectlite.TypeOf"], unfollowed := true, recurses := true, named := ["math/bits.divideError", "math/bits.overflowError"], apart := false, narrowed := true }
def PlacesWholeUptoSaid : Prop := placesWholeUptoRow.holds Try.pinned (OpenSpec.upto placesWholeSpec)

end Rows
end Go.Proofs.Ytigkdggmojannaa
