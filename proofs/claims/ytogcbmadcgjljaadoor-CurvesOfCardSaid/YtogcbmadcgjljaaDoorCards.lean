/-
  DERIVED. GIVEN WITH THE SEED: THE CARDS: each row of YtogcbmadcgjljaaDoorRows.lean that lists a variable, with what it lists TIED to the program's text (the seventh form; the later family's looks); each row that meets fmt, with fmt's text TOLD by the authors' own Lean function (tested against real Go, not proved from fmt's source: count such statements apart). THE CARD IS WHAT COUNTS. Prove the row's statement (the work); the ties are given (YtogcbmadcgjljaaDoorTie.lean); close each card by the builder's one call (the guide's Derived/Test/ToyasCard.lean, 'card_holds'). Laid BY PROGRAM, IN A SANDBOX (cutbox-door.mjs). By AI agents, Wed Nov 11 2026. No macro, syntax, notation, axiom, sorry.
-/
import Derived.Test.YtogcbmadcgjljaaDoorRows
import GoSem.ClaimSeven
namespace Go.Proofs.YtogcbmadcgjljaaDoor
namespace Rows

/-- THE TIED CARD OF 'gouachelaw15.CurvesOf'. -/
def curvesOfCard : Claim7 := { stood := { row := curvesOfRow, standIns := [], harness := (true, "5982192c3df97e16290ba56fc9799d5c2ecfbed6c473956a7c6d8e53c9f5c10f"), looks := false }, kinds := [], alts := [], laidByText := true, laidKinds := [.data], laidTests := true, laidLooks := .later }
def CurvesOfCardSaid : Prop := Claim7.holds Tryd.pinned (.plain (OpenSpec.ofChange curvesOfSpec)) curvesOfCard

/-- THE SECOND FORM's CARD OF 'gouachelaw15.CurvesOf'. -/
def curvesOfUptoCard : Claim7 := { stood := { row := curvesOfUptoRow, standIns := [], harness := (true, "5982192c3df97e16290ba56fc9799d5c2ecfbed6c473956a7c6d8e53c9f5c10f"), looks := false }, kinds := [], alts := [], laidByText := true, laidKinds := [.data], laidTests := true, laidLooks := .later }
def CurvesOfUptoCardSaid : Prop := Claim7.holds Tryd.pinned (.plain (OpenSpec.upto curvesOfSpec)) curvesOfUptoCard
end Rows
end Go.Proofs.YtogcbmadcgjljaaDoor
