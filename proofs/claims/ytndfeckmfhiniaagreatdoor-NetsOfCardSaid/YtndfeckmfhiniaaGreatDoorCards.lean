/-
  DERIVED. GIVEN WITH THE SEED: THE CARDS: each row of YtndfeckmfhiniaaGreatDoorRows.lean that lists a variable, with what it lists TIED to the program's text (the seventh form; the later family's looks); each row that meets fmt, with fmt's text TOLD by the authors' own Lean function (tested against real Go, not proved from fmt's source: count such statements apart). THE CARD IS WHAT COUNTS. Prove the row's statement (the work); the ties are given (YtndfeckmfhiniaaGreatDoorTie.lean); close each card by the builder's one call (the guide's Derived/Test/ToyasCard.lean, 'card_holds'). Laid BY PROGRAM, IN A SANDBOX (cutbox-door.mjs). By AI agents, Wed Nov 11 2026. No macro, syntax, notation, axiom, sorry.
-/
import Derived.Test.YtndfeckmfhiniaaGreatDoorRows
import GoSem.ClaimSeven
namespace Go.Proofs.YtndfeckmfhiniaaGreatDoor
namespace Rows

/-- THE TIED CARD OF 'gouachelaw21.NetsOf'. -/
def netsOfCard : Claim7 := { stood := { row := netsOfRow, standIns := [], harness := (true, "5e2dbf551c843a506bd2ceeaa6c822873368b52560257e331b31745aa57ff499"), looks := true }, kinds := [], alts := [], laidByText := true, laidKinds := [.data], laidTests := true, laidLooks := .later }
def NetsOfCardSaid : Prop := Claim7.holds Tryz.pinned (.plain (OpenSpec.ofChange netsOfSpec)) netsOfCard

/-- THE SECOND FORM's CARD OF 'gouachelaw21.NetsOf'. -/
def netsOfUptoCard : Claim7 := { stood := { row := netsOfUptoRow, standIns := [], harness := (true, "5e2dbf551c843a506bd2ceeaa6c822873368b52560257e331b31745aa57ff499"), looks := true }, kinds := [], alts := [], laidByText := true, laidKinds := [.data], laidTests := true, laidLooks := .later }
def NetsOfUptoCardSaid : Prop := Claim7.holds Tryz.pinned (.plain (OpenSpec.upto netsOfSpec)) netsOfUptoCard
end Rows
end Go.Proofs.YtndfeckmfhiniaaGreatDoor
