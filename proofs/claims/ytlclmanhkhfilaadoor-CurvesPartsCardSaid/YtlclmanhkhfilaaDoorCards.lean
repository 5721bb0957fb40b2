/-
  DERIVED. GIVEN WITH THE SEED: THE CARDS: each row of YtlclmanhkhfilaaDoorRows.lean that lists a variable, with what it lists TIED to the program's text (the seventh form; the later family's looks); each row that meets fmt, with fmt's text TOLD by the authors' own Lean function (tested against real Go, not proved from fmt's source: count such statements apart). THE CARD IS WHAT COUNTS. Prove the row's statement (the work); the ties are given (YtlclmanhkhfilaaDoorTie.lean); close each card by the builder's one call (the guide's Derived/Test/ToyasCard.lean, 'card_holds'). Laid BY PROGRAM, IN A SANDBOX (cutbox-door.mjs). By AI agents, Wed Nov 11 2026. No macro, syntax, notation, axiom, sorry.
-/
import Derived.Test.YtlclmanhkhfilaaDoorRows
import GoSem.ClaimSeven
namespace Go.Proofs.YtlclmanhkhfilaaDoor
namespace Rows

/-- THE TIED CARD OF 'gouachelaw15.CurvesEnds'. -/
def curvesEndsCard : Claim7 := { stood := { row := curvesEndsRow, standIns := [], harness := (true, "351c2bfe82d14ea017878274cc930bec16c2c17b975eb68392a462b5f6c7d1a8"), looks := false }, kinds := [], alts := [], laidByText := true, laidKinds := [.data], laidTests := true, laidLooks := .later }
def CurvesEndsCardSaid : Prop := Claim7.holds Tryd.pinned (.plain (OpenSpec.ofChange curvesEndsSpec)) curvesEndsCard

/-- THE TIED CARD OF 'gouachelaw15.CurvesSame'. -/
def curvesSameCard : Claim7 := { stood := { row := curvesSameRow, standIns := [], harness := (true, "351c2bfe82d14ea017878274cc930bec16c2c17b975eb68392a462b5f6c7d1a8"), looks := false }, kinds := [], alts := [], laidByText := true, laidKinds := [.data], laidTests := true, laidLooks := .later }
def CurvesSameCardSaid : Prop := Claim7.holds Tryd.pinned (.plain (OpenSpec.ofChange curvesSameSpec)) curvesSameCard

/-- THE TIED CARD OF 'gouachelaw15.CurvesHeld'. -/
def curvesHeldCard : Claim7 := { stood := { row := curvesHeldRow, standIns := [], harness := (true, "351c2bfe82d14ea017878274cc930bec16c2c17b975eb68392a462b5f6c7d1a8"), looks := false }, kinds := [], alts := [], laidByText := true, laidKinds := [.data], laidTests := true, laidLooks := .later }
def CurvesHeldCardSaid : Prop := Claim7.holds Tryd.pinned (.plain (OpenSpec.ofChange curvesHeldSpec)) curvesHeldCard

/-- THE TIED CARD OF 'gouachelaw15.CurvesParts'. -/
def curvesPartsCard : Claim7 := { stood := { row := curvesPartsRow, standIns := [], harness := (true, "351c2bfe82d14ea017878274cc930bec16c2c17b975eb68392a462b5f6c7d1a8"), looks := false }, kinds := [], alts := [], laidByText := true, laidKinds := [.data], laidTests := true, laidLooks := .later }
def CurvesPartsCardSaid : Prop := Claim7.holds Tryd.pinned (.plain (OpenSpec.ofChange curvesPartsSpec)) curvesPartsCard

/-- THE SECOND FORM's CARD OF 'gouachelaw15.CurvesEnds'. -/
def curvesEndsUptoCard : Claim7 := { stood := { row := curvesEndsUptoRow, standIns := [], harness := (true, "351c2bfe82d14ea017878274cc930bec16c2c17b975eb68392a462b5f6c7d1a8"), looks := false }, kinds := [], alts := [], laidByText := true, laidKinds := [.data], laidTests := true, laidLooks := .later }
def CurvesEndsUptoCardSaid : Prop := Claim7.holds Tryd.pinned (.plain (OpenSpec.upto curvesEndsSpec)) curvesEndsUptoCard

/-- THE SECOND FORM's CARD OF 'gouachelaw15.CurvesSame'. -/
def curvesSameUptoCard : Claim7 := { stood := { row := curvesSameUptoRow, standIns := [], harness := (true, "351c2bfe82d14ea017878274cc930bec16c2c17b975eb68392a462b5f6c7d1a8"), looks := false }, kinds := [], alts := [], laidByText := true, laidKinds := [.data], laidTests := true, laidLooks := .later }
def CurvesSameUptoCardSaid : Prop := Claim7.holds Tryd.pinned (.plain (OpenSpec.upto curvesSameSpec)) curvesSameUptoCard

/-- THE SECOND FORM's CARD OF 'gouachelaw15.CurvesHeld'. -/
def curvesHeldUptoCard : Claim7 := { stood := { row := curvesHeldUptoRow, standIns := [], harness := (true, "351c2bfe82d14ea017878274cc930bec16c2c17b975eb68392a462b5f6c7d1a8"), looks := false }, kinds := [], alts := [], laidByText := true, laidKinds := [.data], laidTests := true, laidLooks := .later }
def CurvesHeldUptoCardSaid : Prop := Claim7.holds Tryd.pinned (.plain (OpenSpec.upto curvesHeldSpec)) curvesHeldUptoCard

/-- THE SECOND FORM's CARD OF 'gouachelaw15.CurvesParts'. -/
def curvesPartsUptoCard : Claim7 := { stood := { row := curvesPartsUptoRow, standIns := [], harness := (true, "351c2bfe82d14ea017878274cc930bec16c2c17b975eb68392a462b5f6c7d1a8"), looks := false }, kinds := [], alts := [], laidByText := true, laidKinds := [.data], laidTests := true, laidLooks := .later }
def CurvesPartsUptoCardSaid : Prop := Claim7.holds Tryd.pinned (.plain (OpenSpec.upto curvesPartsSpec)) curvesPartsUptoCard
end Rows
end Go.Proofs.YtlclmanhkhfilaaDoor
