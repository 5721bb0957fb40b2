/-
  DERIVED. GIVEN WITH THE SEED: THE CARDS: each row of YtcjllibeaiofpaaGreatDoorRows.lean that lists a variable, with what it lists TIED to the program's text (the seventh form; the later family's looks); each row that meets fmt, with fmt's text TOLD by the authors' own Lean function (tested against real Go, not proved from fmt's source: count such statements apart). THE CARD IS WHAT COUNTS. Prove the row's statement (the work); the ties are given (YtcjllibeaiofpaaGreatDoorTie.lean); close each card by the builder's one call (the guide's Derived/Test/ToyasCard.lean, 'card_holds'). Laid BY PROGRAM, IN A SANDBOX (cutbox-door.mjs). By AI agents, Wed Nov 11 2026. No macro, syntax, notation, axiom, sorry.
-/
import Derived.Test.YtcjllibeaiofpaaGreatDoorRows
import GoSem.ClaimSeven
namespace Go.Proofs.YtcjllibeaiofpaaGreatDoor
namespace Rows

/-- THE TIED CARD OF 'gouachelaw18.MachinesKinds'. -/
def machinesKindsCard : Claim7 := { stood := { row := machinesKindsRow, standIns := [], harness := (true, "740dfb9a4257af86f99d213be684fd6a469518f24adc748c3087c7403eeebcdb"), looks := true }, kinds := [], alts := [], laidByText := true, laidKinds := [.data], laidTests := true, laidLooks := .later }
def MachinesKindsCardSaid : Prop := Claim7.holds Tryz.pinned (.plain (OpenSpec.ofChange machinesKindsSpec)) machinesKindsCard

/-- THE TIED CARD OF 'gouachelaw18.MachinesBelow'. -/
def machinesBelowCard : Claim7 := { stood := { row := machinesBelowRow, standIns := [], harness := (true, "740dfb9a4257af86f99d213be684fd6a469518f24adc748c3087c7403eeebcdb"), looks := true }, kinds := [], alts := [], laidByText := true, laidKinds := [.data], laidTests := true, laidLooks := .later }
def MachinesBelowCardSaid : Prop := Claim7.holds Tryz.pinned (.plain (OpenSpec.ofChange machinesBelowSpec)) machinesBelowCard

/-- THE TIED CARD OF 'gouachelaw18.MachinesBoth'. -/
def machinesBothCard : Claim7 := { stood := { row := machinesBothRow, standIns := [], harness := (true, "740dfb9a4257af86f99d213be684fd6a469518f24adc748c3087c7403eeebcdb"), looks := true }, kinds := [], alts := [], laidByText := true, laidKinds := [.data], laidTests := true, laidLooks := .later }
def MachinesBothCardSaid : Prop := Claim7.holds Tryz.pinned (.plain (OpenSpec.ofChange machinesBothSpec)) machinesBothCard

/-- THE TIED CARD OF 'gouachelaw18.MachinesTurn'. -/
def machinesTurnCard : Claim7 := { stood := { row := machinesTurnRow, standIns := [], harness := (true, "740dfb9a4257af86f99d213be684fd6a469518f24adc748c3087c7403eeebcdb"), looks := true }, kinds := [], alts := [], laidByText := true, laidKinds := [.data], laidTests := true, laidLooks := .later }
def MachinesTurnCardSaid : Prop := Claim7.holds Tryz.pinned (.plain (OpenSpec.ofChange machinesTurnSpec)) machinesTurnCard

/-- THE TIED CARD OF 'gouachelaw18.MachinesWholes'. -/
def machinesWholesCard : Claim7 := { stood := { row := machinesWholesRow, standIns := [], harness := (true, "740dfb9a4257af86f99d213be684fd6a469518f24adc748c3087c7403eeebcdb"), looks := true }, kinds := [], alts := [], laidByText := true, laidKinds := [.data], laidTests := true, laidLooks := .later }
def MachinesWholesCardSaid : Prop := Claim7.holds Tryz.pinned (.plain (OpenSpec.ofChange machinesWholesSpec)) machinesWholesCard

/-- THE TIED CARD OF 'gouachelaw18.MachinesUnless'. -/
def machinesUnlessCard : Claim7 := { stood := { row := machinesUnlessRow, standIns := [], harness := (true, "740dfb9a4257af86f99d213be684fd6a469518f24adc748c3087c7403eeebcdb"), looks := true }, kinds := [], alts := [], laidByText := true, laidKinds := [.data], laidTests := true, laidLooks := .later }
def MachinesUnlessCardSaid : Prop := Claim7.holds Tryz.pinned (.plain (OpenSpec.ofChange machinesUnlessSpec)) machinesUnlessCard

/-- THE TIED CARD OF 'gouachelaw18.MachinesReals'. -/
def machinesRealsCard : Claim7 := { stood := { row := machinesRealsRow, standIns := [], harness := (true, "740dfb9a4257af86f99d213be684fd6a469518f24adc748c3087c7403eeebcdb"), looks := true }, kinds := [], alts := [], laidByText := true, laidKinds := [.data], laidTests := true, laidLooks := .later }
def MachinesRealsCardSaid : Prop := Claim7.holds Tryz.pinned (.plain (OpenSpec.ofChange machinesRealsSpec)) machinesRealsCard

/-- THE SECOND FORM's CARD OF 'gouachelaw18.MachinesKinds'. -/
def machinesKindsUptoCard : Claim7 := { stood := { row := machinesKindsUptoRow, standIns := [], harness := (true, "740dfb9a4257af86f99d213be684fd6a469518f24adc748c3087c7403eeebcdb"), looks := true }, kinds := [], alts := [], laidByText := true, laidKinds := [.data], laidTests := true, laidLooks := .later }
def MachinesKindsUptoCardSaid : Prop := Claim7.holds Tryz.pinned (.plain (OpenSpec.upto machinesKindsSpec)) machinesKindsUptoCard

/-- THE SECOND FORM's CARD OF 'gouachelaw18.MachinesBelow'. -/
def machinesBelowUptoCard : Claim7 := { stood := { row := machinesBelowUptoRow, standIns := [], harness := (true, "740dfb9a4257af86f99d213be684fd6a469518f24adc748c3087c7403eeebcdb"), looks := true }, kinds := [], alts := [], laidByText := true, laidKinds := [.data], laidTests := true, laidLooks := .later }
def MachinesBelowUptoCardSaid : Prop := Claim7.holds Tryz.pinned (.plain (OpenSpec.upto machinesBelowSpec)) machinesBelowUptoCard

/-- THE SECOND FORM's CARD OF 'gouachelaw18.MachinesBoth'. -/
def machinesBothUptoCard : Claim7 := { stood := { row := machinesBothUptoRow, standIns := [], harness := (true, "740dfb9a4257af86f99d213be684fd6a469518f24adc748c3087c7403eeebcdb"), looks := true }, kinds := [], alts := [], laidByText := true, laidKinds := [.data], laidTests := true, laidLooks := .later }
def MachinesBothUptoCardSaid : Prop := Claim7.holds Tryz.pinned (.plain (OpenSpec.upto machinesBothSpec)) machinesBothUptoCard

/-- THE SECOND FORM's CARD OF 'gouachelaw18.MachinesTurn'. -/
def machinesTurnUptoCard : Claim7 := { stood := { row := machinesTurnUptoRow, standIns := [], harness := (true, "740dfb9a4257af86f99d213be684fd6a469518f24adc748c3087c7403eeebcdb"), looks := true }, kinds := [], alts := [], laidByText := true, laidKinds := [.data], laidTests := true, laidLooks := .later }
def MachinesTurnUptoCardSaid : Prop := Claim7.holds Tryz.pinned (.plain (OpenSpec.upto machinesTurnSpec)) machinesTurnUptoCard

/-- THE SECOND FORM's CARD OF 'gouachelaw18.MachinesWholes'. -/
def machinesWholesUptoCard : Claim7 := { stood := { row := machinesWholesUptoRow, standIns := [], harness := (true, "740dfb9a4257af86f99d213be684fd6a469518f24adc748c3087c7403eeebcdb"), looks := true }, kinds := [], alts := [], laidByText := true, laidKinds := [.data], laidTests := true, laidLooks := .later }
def MachinesWholesUptoCardSaid : Prop := Claim7.holds Tryz.pinned (.plain (OpenSpec.upto machinesWholesSpec)) machinesWholesUptoCard

/-- THE SECOND FORM's CARD OF 'gouachelaw18.MachinesUnless'. -/
def machinesUnlessUptoCard : Claim7 := { stood := { row := machinesUnlessUptoRow, standIns := [], harness := (true, "740dfb9a4257af86f99d213be684fd6a469518f24adc748c3087c7403eeebcdb"), looks := true }, kinds := [], alts := [], laidByText := true, laidKinds := [.data], laidTests := true, laidLooks := .later }
def MachinesUnlessUptoCardSaid : Prop := Claim7.holds Tryz.pinned (.plain (OpenSpec.upto machinesUnlessSpec)) machinesUnlessUptoCard

/-- THE SECOND FORM's CARD OF 'gouachelaw18.MachinesReals'. -/
def machinesRealsUptoCard : Claim7 := { stood := { row := machinesRealsUptoRow, standIns := [], harness := (true, "740dfb9a4257af86f99d213be684fd6a469518f24adc748c3087c7403eeebcdb"), looks := true }, kinds := [], alts := [], laidByText := true, laidKinds := [.data], laidTests := true, laidLooks := .later }
def MachinesRealsUptoCardSaid : Prop := Claim7.holds Tryz.pinned (.plain (OpenSpec.upto machinesRealsSpec)) machinesRealsUptoCard
end Rows
end Go.Proofs.YtcjllibeaiofpaaGreatDoor
