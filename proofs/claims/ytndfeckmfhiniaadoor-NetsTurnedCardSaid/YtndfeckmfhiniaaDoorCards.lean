/-
  DERIVED. GIVEN WITH THE SEED: THE CARDS: each row of YtndfeckmfhiniaaDoorRows.lean that lists a variable, with what it lists TIED to the program's text (the seventh form; the later family's looks); each row that meets fmt, with fmt's text TOLD by the authors' own Lean function (tested against real Go, not proved from fmt's source: count such statements apart). THE CARD IS WHAT COUNTS. Prove the row's statement (the work); the ties are given (YtndfeckmfhiniaaDoorTie.lean); close each card by the builder's one call (the guide's Derived/Test/ToyasCard.lean, 'card_holds'). Laid BY PROGRAM, IN A SANDBOX (cutbox-door.mjs). By AI agents, Wed Nov 11 2026. No macro, syntax, notation, axiom, sorry.
-/
import Derived.Test.YtndfeckmfhiniaaDoorRows
import GoSem.ClaimSeven
namespace Go.Proofs.YtndfeckmfhiniaaDoor
namespace Rows

/-- THE TIED CARD OF 'gouachelaw21.NetsBorder'. -/
def netsBorderCard : Claim7 := { stood := { row := netsBorderRow, standIns := [], harness := (true, "2c43ae393970bad26e7adf3a4c9b23ce5ef65404afb4627ab63dedc5a4c9efaf"), looks := true }, kinds := [], alts := [], laidByText := true, laidKinds := [.data], laidTests := true, laidLooks := .later }
def NetsBorderCardSaid : Prop := Claim7.holds Tryd.pinned (.plain (OpenSpec.ofChange netsBorderSpec)) netsBorderCard

/-- THE TIED CARD OF 'gouachelaw21.NetsRound'. -/
def netsRoundCard : Claim7 := { stood := { row := netsRoundRow, standIns := [], harness := (true, "2c43ae393970bad26e7adf3a4c9b23ce5ef65404afb4627ab63dedc5a4c9efaf"), looks := true }, kinds := [], alts := [], laidByText := true, laidKinds := [.data], laidTests := true, laidLooks := .later }
def NetsRoundCardSaid : Prop := Claim7.holds Tryd.pinned (.plain (OpenSpec.ofChange netsRoundSpec)) netsRoundCard

/-- THE TIED CARD OF 'gouachelaw21.NetsTurned'. -/
def netsTurnedCard : Claim7 := { stood := { row := netsTurnedRow, standIns := [], harness := (true, "2c43ae393970bad26e7adf3a4c9b23ce5ef65404afb4627ab63dedc5a4c9efaf"), looks := true }, kinds := [], alts := [], laidByText := true, laidKinds := [.data], laidTests := true, laidLooks := .later }
def NetsTurnedCardSaid : Prop := Claim7.holds Tryd.pinned (.plain (OpenSpec.ofChange netsTurnedSpec)) netsTurnedCard

/-- THE TIED CARD OF 'gouachelaw21.NetsFlat'. -/
def netsFlatCard : Claim7 := { stood := { row := netsFlatRow, standIns := [], harness := (true, "2c43ae393970bad26e7adf3a4c9b23ce5ef65404afb4627ab63dedc5a4c9efaf"), looks := true }, kinds := [], alts := [], laidByText := true, laidKinds := [.data], laidTests := true, laidLooks := .later }
def NetsFlatCardSaid : Prop := Claim7.holds Tryd.pinned (.plain (OpenSpec.ofChange netsFlatSpec)) netsFlatCard

/-- THE TIED CARD OF 'gouachelaw21.NetsSeven'. -/
def netsSevenCard : Claim7 := { stood := { row := netsSevenRow, standIns := [], harness := (true, "2c43ae393970bad26e7adf3a4c9b23ce5ef65404afb4627ab63dedc5a4c9efaf"), looks := true }, kinds := [], alts := [], laidByText := true, laidKinds := [.data], laidTests := true, laidLooks := .later }
def NetsSevenCardSaid : Prop := Claim7.holds Tryd.pinned (.plain (OpenSpec.ofChange netsSevenSpec)) netsSevenCard

/-- THE SECOND FORM's CARD OF 'gouachelaw21.NetsBorder'. -/
def netsBorderUptoCard : Claim7 := { stood := { row := netsBorderUptoRow, standIns := [], harness := (true, "2c43ae393970bad26e7adf3a4c9b23ce5ef65404afb4627ab63dedc5a4c9efaf"), looks := true }, kinds := [], alts := [], laidByText := true, laidKinds := [.data], laidTests := true, laidLooks := .later }
def NetsBorderUptoCardSaid : Prop := Claim7.holds Tryd.pinned (.plain (OpenSpec.upto netsBorderSpec)) netsBorderUptoCard

/-- THE SECOND FORM's CARD OF 'gouachelaw21.NetsRound'. -/
def netsRoundUptoCard : Claim7 := { stood := { row := netsRoundUptoRow, standIns := [], harness := (true, "2c43ae393970bad26e7adf3a4c9b23ce5ef65404afb4627ab63dedc5a4c9efaf"), looks := true }, kinds := [], alts := [], laidByText := true, laidKinds := [.data], laidTests := true, laidLooks := .later }
def NetsRoundUptoCardSaid : Prop := Claim7.holds Tryd.pinned (.plain (OpenSpec.upto netsRoundSpec)) netsRoundUptoCard

/-- THE SECOND FORM's CARD OF 'gouachelaw21.NetsTurned'. -/
def netsTurnedUptoCard : Claim7 := { stood := { row := netsTurnedUptoRow, standIns := [], harness := (true, "2c43ae393970bad26e7adf3a4c9b23ce5ef65404afb4627ab63dedc5a4c9efaf"), looks := true }, kinds := [], alts := [], laidByText := true, laidKinds := [.data], laidTests := true, laidLooks := .later }
def NetsTurnedUptoCardSaid : Prop := Claim7.holds Tryd.pinned (.plain (OpenSpec.upto netsTurnedSpec)) netsTurnedUptoCard

/-- THE SECOND FORM's CARD OF 'gouachelaw21.NetsFlat'. -/
def netsFlatUptoCard : Claim7 := { stood := { row := netsFlatUptoRow, standIns := [], harness := (true, "2c43ae393970bad26e7adf3a4c9b23ce5ef65404afb4627ab63dedc5a4c9efaf"), looks := true }, kinds := [], alts := [], laidByText := true, laidKinds := [.data], laidTests := true, laidLooks := .later }
def NetsFlatUptoCardSaid : Prop := Claim7.holds Tryd.pinned (.plain (OpenSpec.upto netsFlatSpec)) netsFlatUptoCard

/-- THE SECOND FORM's CARD OF 'gouachelaw21.NetsSeven'. -/
def netsSevenUptoCard : Claim7 := { stood := { row := netsSevenUptoRow, standIns := [], harness := (true, "2c43ae393970bad26e7adf3a4c9b23ce5ef65404afb4627ab63dedc5a4c9efaf"), looks := true }, kinds := [], alts := [], laidByText := true, laidKinds := [.data], laidTests := true, laidLooks := .later }
def NetsSevenUptoCardSaid : Prop := Claim7.holds Tryd.pinned (.plain (OpenSpec.upto netsSevenSpec)) netsSevenUptoCard
end Rows
end Go.Proofs.YtndfeckmfhiniaaDoor
