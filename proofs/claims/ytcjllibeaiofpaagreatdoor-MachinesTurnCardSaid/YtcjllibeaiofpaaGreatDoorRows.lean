/-
  NARROWER THAN 'FOR EVERY INPUT', by the rows' own cells (each row's printed sentence says how): MachinesKinds: laid · MachinesBelow: laid · MachinesBoth: laid · MachinesTurn: laid · MachinesWholes: laid · MachinesUnless: laid · MachinesReals: laid.
  DERIVED. THE GIVEN ROWS OF THIS SEAT. 7 by the template 'for every input the law returns true; each argument reads behind the call as it read before'; 0 by the template 'total and deterministic' (their statements: YtcjllibeaiofpaaGreatDoorTotals.lean).
  GIVEN WITH THE SEED: the statements are not yours to turn. If you find one false, say at which input.
  Laid BY PROGRAM, IN A SANDBOX (cutbox-rows.mjs): the forced cells as the released guide's own fill.sh prints them over the translation 3a77562170f0c6ac… (all of the seat's roots in one cut). By AI agents, Wed Nov 11 2026. No macro, syntax, notation, axiom, sorry.
-/
import Derived.Test.YtcjllibeaiofpaaGreatDoorChecked
import GoSem.Claim
import GoSem.ClaimJoined
import GoSem.ClaimMapViews
import Derived.JoinedTies
import Derived.KernelRfl
namespace Go.Proofs.YtcjllibeaiofpaaGreatDoor
/- THE CELL 'sum', in the pinned program and in every row, IS THE sha256 OF THE DUMP (.gsa) THAT YtcjllibeaiofpaaGreatDoorProg.lean LOADS. Nothing in Lean hashes anything: it is a label: what it is worth is what the hold of that sum in a sandbox is worth. -/
noncomputable def Tryz.pinned : Pinned := { name := "ytcjllibeaiofpaagreatdoor", sum := "3a77562170f0c6ac9e91c18c80bb71c454160f1704675b0637416299afacd30b", checked := Tryz.checked }
namespace Rows
def none {H : Type} : Left H := { results := [], args := [] }

/- WHAT THE LISTED PACKAGE-LEVEL VARIABLES READ AS WHEN THE CALL BEGINS. Each datum BY PROGRAM (the guide's laid-datum.mjs) off the statement by which the dump's own 'gosem.cut.vars' lays the variable. In a bare row this is a premise. The card (YtcjllibeaiofpaaGreatDoorCards.lean) ties it to the program's text. -/
def laid_gouache_fixeds_adds {H : Type} : DataW H := .agg [.lit (.int .i64 0), .lit (.int .i64 65535), .lit (.int .i64 32768)]

/-- 'gouachelaw18.MachinesKinds': WHATEVER THE INPUT: true; the input reads as it did. -/
def machinesKindsSpec : ChangeSpec := { name := "machinesKinds", fn := fun _ => fun
  | [d1, d2] => { results := [.lit (.bool true)], args := [d1, d2] }
  | _ => none }
def machinesKindsRow : OpenClaim := { program := "ytcjllibeaiofpaagreatdoor", sum := "3a77562170f0c6ac9e91c18c80bb71c454160f1704675b0637416299afacd30b", func := "gouache/gouachelaw18.MachinesKinds", spec := "machinesKinds", inPlace := ["math/bits.Add64", "math/bits.Sub64"], unfollowed := true, recurses := true, named := ["gouache/fixeds.adds", "math/bits.divideError", "math/bits.overflowError"], apart := false, laid := [("gouache/fixeds.adds", laid_gouache_fixeds_adds)] }
def MachinesKindsSaid : Prop := machinesKindsRow.holds Tryz.pinned (OpenSpec.ofChange machinesKindsSpec)

/-- ITS FALSE NEIGHBOUR: 'it returns false'. Refute it at one input. -/
def machinesKindsWrong : ChangeSpec := { name := "machinesKinds", fn := fun _ => fun
  | [d1, d2] => { results := [.lit (.bool false)], args := [d1, d2] }
  | _ => none }
def MachinesKindsWrongFalsely : Prop := machinesKindsRow.holds Tryz.pinned (OpenSpec.ofChange machinesKindsWrong)

/-- 'gouachelaw18.MachinesBelow': WHATEVER THE INPUT: true; the input reads as it did. -/
def machinesBelowSpec : ChangeSpec := { name := "machinesBelow", fn := fun _ => fun
  | [d1, d2, d3] => { results := [.lit (.bool true)], args := [d1, d2, d3] }
  | _ => none }
def machinesBelowRow : OpenClaim := { program := "ytcjllibeaiofpaagreatdoor", sum := "3a77562170f0c6ac9e91c18c80bb71c454160f1704675b0637416299afacd30b", func := "gouache/gouachelaw18.MachinesBelow", spec := "machinesBelow", inPlace := ["math/bits.Add64", "math/bits.Sub64"], unfollowed := true, recurses := true, named := ["gouache/fixeds.adds", "math/bits.divideError", "math/bits.overflowError"], apart := false, laid := [("gouache/fixeds.adds", laid_gouache_fixeds_adds)] }
def MachinesBelowSaid : Prop := machinesBelowRow.holds Tryz.pinned (OpenSpec.ofChange machinesBelowSpec)

/-- ITS FALSE NEIGHBOUR: 'it returns false'. Refute it at one input. -/
def machinesBelowWrong : ChangeSpec := { name := "machinesBelow", fn := fun _ => fun
  | [d1, d2, d3] => { results := [.lit (.bool false)], args := [d1, d2, d3] }
  | _ => none }
def MachinesBelowWrongFalsely : Prop := machinesBelowRow.holds Tryz.pinned (OpenSpec.ofChange machinesBelowWrong)

/-- 'gouachelaw18.MachinesBoth': WHATEVER THE INPUT: true; the input reads as it did. -/
def machinesBothSpec : ChangeSpec := { name := "machinesBoth", fn := fun _ => fun
  | [d1, d2, d3] => { results := [.lit (.bool true)], args := [d1, d2, d3] }
  | _ => none }
def machinesBothRow : OpenClaim := { program := "ytcjllibeaiofpaagreatdoor", sum := "3a77562170f0c6ac9e91c18c80bb71c454160f1704675b0637416299afacd30b", func := "gouache/gouachelaw18.MachinesBoth", spec := "machinesBoth", inPlace := ["math/bits.Add64", "math/bits.Sub64"], unfollowed := true, recurses := true, named := ["gouache/fixeds.adds", "math/bits.divideError", "math/bits.overflowError"], apart := false, laid := [("gouache/fixeds.adds", laid_gouache_fixeds_adds)] }
def MachinesBothSaid : Prop := machinesBothRow.holds Tryz.pinned (OpenSpec.ofChange machinesBothSpec)

/-- ITS FALSE NEIGHBOUR: 'it returns false'. Refute it at one input. -/
def machinesBothWrong : ChangeSpec := { name := "machinesBoth", fn := fun _ => fun
  | [d1, d2, d3] => { results := [.lit (.bool false)], args := [d1, d2, d3] }
  | _ => none }
def MachinesBothWrongFalsely : Prop := machinesBothRow.holds Tryz.pinned (OpenSpec.ofChange machinesBothWrong)

/-- 'gouachelaw18.MachinesTurn': WHATEVER THE INPUT: true; the input reads as it did. -/
def machinesTurnSpec : ChangeSpec := { name := "machinesTurn", fn := fun _ => fun
  | [d1, d2, d3] => { results := [.lit (.bool true)], args := [d1, d2, d3] }
  | _ => none }
def machinesTurnRow : OpenClaim := { program := "ytcjllibeaiofpaagreatdoor", sum := "3a77562170f0c6ac9e91c18c80bb71c454160f1704675b0637416299afacd30b", func := "gouache/gouachelaw18.MachinesTurn", spec := "machinesTurn", inPlace := ["math/bits.Add64", "math/bits.Sub64"], unfollowed := true, recurses := true, named := ["gouache/fixeds.adds", "math/bits.divideError", "math/bits.overflowError"], apart := false, laid := [("gouache/fixeds.adds", laid_gouache_fixeds_adds)] }
def MachinesTurnSaid : Prop := machinesTurnRow.holds Tryz.pinned (OpenSpec.ofChange machinesTurnSpec)

/-- ITS FALSE NEIGHBOUR: 'it returns false'. Refute it at one input. -/
def machinesTurnWrong : ChangeSpec := { name := "machinesTurn", fn := fun _ => fun
  | [d1, d2, d3] => { results := [.lit (.bool false)], args := [d1, d2, d3] }
  | _ => none }
def MachinesTurnWrongFalsely : Prop := machinesTurnRow.holds Tryz.pinned (OpenSpec.ofChange machinesTurnWrong)

/-- 'gouachelaw18.MachinesWholes': WHATEVER THE INPUT: true; the input reads as it did. -/
def machinesWholesSpec : ChangeSpec := { name := "machinesWholes", fn := fun _ => fun
  | [d1, d2, d3] => { results := [.lit (.bool true)], args := [d1, d2, d3] }
  | _ => none }
def machinesWholesRow : OpenClaim := { program := "ytcjllibeaiofpaagreatdoor", sum := "3a77562170f0c6ac9e91c18c80bb71c454160f1704675b0637416299afacd30b", func := "gouache/gouachelaw18.MachinesWholes", spec := "machinesWholes", inPlace := ["math/bits.Add64", "math/bits.Sub64"], unfollowed := true, recurses := true, named := ["gouache/fixeds.adds", "math/bits.divideError", "math/bits.overflowError"], apart := false, laid := [("gouache/fixeds.adds", laid_gouache_fixeds_adds)] }
def MachinesWholesSaid : Prop := machinesWholesRow.holds Tryz.pinned (OpenSpec.ofChange machinesWholesSpec)

/-- ITS FALSE NEIGHBOUR: 'it returns false'. Refute it at one input. -/
def machinesWholesWrong : ChangeSpec := { name := "machinesWholes", fn := fun _ => fun
  | [d1, d2, d3] => { results := [.lit (.bool false)], args := [d1, d2, d3] }
  | _ => none }
def MachinesWholesWrongFalsely : Prop := machinesWholesRow.holds Tryz.pinned (OpenSpec.ofChange machinesWholesWrong)

/-- 'gouachelaw18.MachinesUnless': WHATEVER THE INPUT: true; the input reads as it did. -/
def machinesUnlessSpec : ChangeSpec := { name := "machinesUnless", fn := fun _ => fun
  | [d1, d2, d3] => { results := [.lit (.bool true)], args := [d1, d2, d3] }
  | _ => none }
def machinesUnlessRow : OpenClaim := { program := "ytcjllibeaiofpaagreatdoor", sum := "3a77562170f0c6ac9e91c18c80bb71c454160f1704675b0637416299afacd30b", func := "gouache/gouachelaw18.MachinesUnless", spec := "machinesUnless", inPlace := ["math/bits.Add64", "math/bits.Sub64"], unfollowed := true, recurses := true, named := ["gouache/fixeds.adds", "math/bits.divideError", "math/bits.overflowError"], apart := false, laid := [("gouache/fixeds.adds", laid_gouache_fixeds_adds)] }
def MachinesUnlessSaid : Prop := machinesUnlessRow.holds Tryz.pinned (OpenSpec.ofChange machinesUnlessSpec)

/-- ITS FALSE NEIGHBOUR: 'it returns false'. Refute it at one input. -/
def machinesUnlessWrong : ChangeSpec := { name := "machinesUnless", fn := fun _ => fun
  | [d1, d2, d3] => { results := [.lit (.bool false)], args := [d1, d2, d3] }
  | _ => none }
def MachinesUnlessWrongFalsely : Prop := machinesUnlessRow.holds Tryz.pinned (OpenSpec.ofChange machinesUnlessWrong)

/-- 'gouachelaw18.MachinesReals': WHATEVER THE INPUT: true; the input reads as it did. -/
def machinesRealsSpec : ChangeSpec := { name := "machinesReals", fn := fun _ => fun
  | [d1, d2, d3] => { results := [.lit (.bool true)], args := [d1, d2, d3] }
  | _ => none }
def machinesRealsRow : OpenClaim := { program := "ytcjllibeaiofpaagreatdoor", sum := "3a77562170f0c6ac9e91c18c80bb71c454160f1704675b0637416299afacd30b", func := "gouache/gouachelaw18.MachinesReals", spec := "machinesReals", inPlace := ["math/bits.Add64", "math/bits.Sub64"], unfollowed := true, recurses := true, named := ["gouache/fixeds.adds", "math/bits.divideError", "math/bits.overflowError"], apart := false, laid := [("gouache/fixeds.adds", laid_gouache_fixeds_adds)] }
def MachinesRealsSaid : Prop := machinesRealsRow.holds Tryz.pinned (OpenSpec.ofChange machinesRealsSpec)

/-- ITS FALSE NEIGHBOUR: 'it returns false'. Refute it at one input. -/
def machinesRealsWrong : ChangeSpec := { name := "machinesReals", fn := fun _ => fun
  | [d1, d2, d3] => { results := [.lit (.bool false)], args := [d1, d2, d3] }
  | _ => none }
def MachinesRealsWrongFalsely : Prop := machinesRealsRow.holds Tryz.pinned (OpenSpec.ofChange machinesRealsWrong)

/- THE SECOND FORM. 'bulk': how many values and letters a reading holds, each counted each time it is reached (what is shared counts as often as it is met; a slice's spare places count too). A statement '..UptoSaid' is the law's where the arguments, and the package variables that the reading takes, are together of bulk at most 1048576: NARROWER than '..Said'. Prove '..Said' where nothing that the law and all that it calls make is longer than what came in: it says more and counts as full. Else prove '..UptoSaid'. A law counts once. -/
mutual
def uptoBulk {H : Type} : DataW H → Nat
  | .lit (.string bytes) => bytes.length + 1
  | .lit _ => 1
  | .nil => 1
  | .ptr d => uptoBulk d + 1
  | .slice elems spare => uptoBulkAll elems + uptoBulkAll spare + 1
  | .agg parts => uptoBulkAll parts + 1
  | .iface _ d => uptoBulk d + 1
  | .map entries => uptoBulkEntries entries + 1
  | .held _ => 1
def uptoBulkAll {H : Type} : List (DataW H) → Nat
  | [] => 0
  | d :: r => uptoBulk d + uptoBulkAll r
def uptoBulkEntries {H : Type} : List (Lit × DataW H) → Nat
  | [] => 0
  | x :: r => uptoBulkEntry x + uptoBulkEntries r
def uptoBulkEntry {H : Type} : Lit × DataW H → Nat
  | (.string bytes, d) => bytes.length + uptoBulk d + 1
  | (_, d) => uptoBulk d + 1
 end
def uptoSmall : (H : Type) → List (DataW H) → Bool := fun _ ds => decide (uptoBulkAll ds ≤ 1048576)
def OpenSpec.upto (s : _root_.Go.ChangeSpec) : _root_.Go.OpenSpec := { _root_.Go.OpenSpec.ofChange s with cond := some uptoSmall }

/-- 'gouachelaw18.MachinesKinds', WHERE WHAT IT READS IS OF BULK AT MOST 1048576: true; the input reads as it did. -/
def machinesKindsUptoRow : OpenClaim := { program := "ytcjllibeaiofpaagreatdoor", sum := "3a77562170f0c6ac9e91c18c80bb71c454160f1704675b0637416299afacd30b", func := "gouache/gouachelaw18.MachinesKinds", spec := "machinesKinds", inPlace := ["math/bits.Add64", "math/bits.Sub64"], unfollowed := true, recurses := true, named := ["gouache/fixeds.adds", "math/bits.divideError", "math/bits.overflowError"], apart := false, laid := [("gouache/fixeds.adds", laid_gouache_fixeds_adds)], narrowed := true }
def MachinesKindsUptoSaid : Prop := machinesKindsUptoRow.holds Tryz.pinned (OpenSpec.upto machinesKindsSpec)

/-- 'gouachelaw18.MachinesBelow', WHERE WHAT IT READS IS OF BULK AT MOST 1048576: true; the input reads as it did. -/
def machinesBelowUptoRow : OpenClaim := { program := "ytcjllibeaiofpaagreatdoor", sum := "3a77562170f0c6ac9e91c18c80bb71c454160f1704675b0637416299afacd30b", func := "gouache/gouachelaw18.MachinesBelow", spec := "machinesBelow", inPlace := ["math/bits.Add64", "math/bits.Sub64"], unfollowed := true, recurses := true, named := ["gouache/fixeds.adds", "math/bits.divideError", "math/bits.overflowError"], apart := false, laid := [("gouache/fixeds.adds", laid_gouache_fixeds_adds)], narrowed := true }
def MachinesBelowUptoSaid : Prop := machinesBelowUptoRow.holds Tryz.pinned (OpenSpec.upto machinesBelowSpec)

/-- 'gouachelaw18.MachinesBoth', WHERE WHAT IT READS IS OF BULK AT MOST 1048576: true; the input reads as it did. -/
def machinesBothUptoRow : OpenClaim := { program := "ytcjllibeaiofpaagreatdoor", sum := "3a77562170f0c6ac9e91c18c80bb71c454160f1704675b0637416299afacd30b", func := "gouache/gouachelaw18.MachinesBoth", spec := "machinesBoth", inPlace := ["math/bits.Add64", "math/bits.Sub64"], unfollowed := true, recurses := true, named := ["gouache/fixeds.adds", "math/bits.divideError", "math/bits.overflowError"], apart := false, laid := [("gouache/fixeds.adds", laid_gouache_fixeds_adds)], narrowed := true }
def MachinesBothUptoSaid : Prop := machinesBothUptoRow.holds Tryz.pinned (OpenSpec.upto machinesBothSpec)

/-- 'gouachelaw18.MachinesTurn', WHERE WHAT IT READS IS OF BULK AT MOST 1048576: true; the input reads as it did. -/
def machinesTurnUptoRow : OpenClaim := { program := "ytcjllibeaiofpaagreatdoor", sum := "3a77562170f0c6ac9e91c18c80bb71c454160f1704675b0637416299afacd30b", func := "gouache/gouachelaw18.MachinesTurn", spec := "machinesTurn", inPlace := ["math/bits.Add64", "math/bits.Sub64"], unfollowed := true, recurses := true, named := ["gouache/fixeds.adds", "math/bits.divideError", "math/bits.overflowError"], apart := false, laid := [("gouache/fixeds.adds", laid_gouache_fixeds_adds)], narrowed := true }
def MachinesTurnUptoSaid : Prop := machinesTurnUptoRow.holds Tryz.pinned (OpenSpec.upto machinesTurnSpec)

/-- 'gouachelaw18.MachinesWholes', WHERE WHAT IT READS IS OF BULK AT MOST 1048576: true; the input reads as it did. -/
def machinesWholesUptoRow : OpenClaim := { program := "ytcjllibeaiofpaagreatdoor", sum := "3a77562170f0c6ac9e91c18c80bb71c454160f1704675b0637416299afacd30b", func := "gouache/gouachelaw18.MachinesWholes", spec := "machinesWholes", inPlace := ["math/bits.Add64", "math/bits.Sub64"], unfollowed := true, recurses := true, named := ["gouache/fixeds.adds", "math/bits.divideError", "math/bits.overflowError"], apart := false, laid := [("gouache/fixeds.adds", laid_gouache_fixeds_adds)], narrowed := true }
def MachinesWholesUptoSaid : Prop := machinesWholesUptoRow.holds Tryz.pinned (OpenSpec.upto machinesWholesSpec)

/-- 'gouachelaw18.MachinesUnless', WHERE WHAT IT READS IS OF BULK AT MOST 1048576: true; the input reads as it did. -/
def machinesUnlessUptoRow : OpenClaim := { program := "ytcjllibeaiofpaagreatdoor", sum := "3a77562170f0c6ac9e91c18c80bb71c454160f1704675b0637416299afacd30b", func := "gouache/gouachelaw18.MachinesUnless", spec := "machinesUnless", inPlace := ["math/bits.Add64", "math/bits.Sub64"], unfollowed := true, recurses := true, named := ["gouache/fixeds.adds", "math/bits.divideError", "math/bits.overflowError"], apart := false, laid := [("gouache/fixeds.adds", laid_gouache_fixeds_adds)], narrowed := true }
def MachinesUnlessUptoSaid : Prop := machinesUnlessUptoRow.holds Tryz.pinned (OpenSpec.upto machinesUnlessSpec)

/-- 'gouachelaw18.MachinesReals', WHERE WHAT IT READS IS OF BULK AT MOST 1048576: true; the input reads as it did. -/
def machinesRealsUptoRow : OpenClaim := { program := "ytcjllibeaiofpaagreatdoor", sum := "3a77562170f0c6ac9e91c18c80bb71c454160f1704675b0637416299afacd30b", func := "gouache/gouachelaw18.MachinesReals", spec := "machinesReals", inPlace := ["math/bits.Add64", "math/bits.Sub64"], unfollowed := true, recurses := true, named := ["gouache/fixeds.adds", "math/bits.divideError", "math/bits.overflowError"], apart := false, laid := [("gouache/fixeds.adds", laid_gouache_fixeds_adds)], narrowed := true }
def MachinesRealsUptoSaid : Prop := machinesRealsUptoRow.holds Tryz.pinned (OpenSpec.upto machinesRealsSpec)

end Rows
end Go.Proofs.YtcjllibeaiofpaaGreatDoor
