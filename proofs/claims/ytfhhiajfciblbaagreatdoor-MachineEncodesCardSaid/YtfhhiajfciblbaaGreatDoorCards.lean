/-
  DERIVED. GIVEN WITH THE SEED: THE CARDS: each row of YtfhhiajfciblbaaGreatDoorRows.lean that lists a variable, with what it lists TIED to the program's text (the seventh form; the later family's looks); each row that meets fmt, with fmt's text TOLD by the authors' own Lean function (tested against real Go, not proved from fmt's source: count such statements apart). THE CARD IS WHAT COUNTS. Prove the row's statement (the work); the ties are given (YtfhhiajfciblbaaGreatDoorTie.lean); close each card by the builder's one call (the guide's Derived/Test/ToyasCard.lean, 'card_holds'). Laid BY PROGRAM, IN A SANDBOX (cutbox-door.mjs). By AI agents, Wed Nov 11 2026. No macro, syntax, notation, axiom, sorry.
-/
import Derived.Test.YtfhhiajfciblbaaGreatDoorRows
import GoSem.ClaimSeven
namespace Go.Proofs.YtfhhiajfciblbaaGreatDoor
namespace Rows

/-- THE TIED CARD OF 'culpritlaw09.MachineStarts'. -/
def machineStartsCard : Claim7 := { stood := { row := machineStartsRow, standIns := [], harness := (true, "8deffd00d3ed15901af46d5bc195ee5a177a81dc8587773501597489d772acf4"), looks := false }, kinds := [], alts := [], laidByText := true, laidKinds := [.data], laidTests := true, laidLooks := .later }
def MachineStartsCardSaid : Prop := Claim7.holds Tryz.pinned (.plain (OpenSpec.ofChange machineStartsSpec)) machineStartsCard

/-- THE TIED CARD OF 'culpritlaw09.MachineSteps'. -/
def machineStepsCard : Claim7 := { stood := { row := machineStepsRow, standIns := [], harness := (true, "8deffd00d3ed15901af46d5bc195ee5a177a81dc8587773501597489d772acf4"), looks := false }, kinds := [], alts := [], laidByText := true, laidKinds := [.data], laidTests := true, laidLooks := .later }
def MachineStepsCardSaid : Prop := Claim7.holds Tryz.pinned (.plain (OpenSpec.ofChange machineStepsSpec)) machineStepsCard

/-- THE TIED CARD OF 'culpritlaw09.MachineAccesses'. -/
def machineAccessesCard : Claim7 := { stood := { row := machineAccessesRow, standIns := [], harness := (true, "8deffd00d3ed15901af46d5bc195ee5a177a81dc8587773501597489d772acf4"), looks := false }, kinds := [], alts := [], laidByText := true, laidKinds := [.data], laidTests := true, laidLooks := .later }
def MachineAccessesCardSaid : Prop := Claim7.holds Tryz.pinned (.plain (OpenSpec.ofChange machineAccessesSpec)) machineAccessesCard

/-- THE TIED CARD OF 'culpritlaw09.MachineEncodes'. -/
def machineEncodesCard : Claim7 := { stood := { row := machineEncodesRow, standIns := [], harness := (true, "8deffd00d3ed15901af46d5bc195ee5a177a81dc8587773501597489d772acf4"), looks := false }, kinds := [], alts := [], laidByText := true, laidKinds := [.data, .data, .data], laidTests := true, laidLooks := .later }
def MachineEncodesCardSaid : Prop := Claim7.holds Tryz.pinned (.plain (OpenSpec.ofChange machineEncodesSpec)) machineEncodesCard

/-- THE SECOND FORM's CARD OF 'culpritlaw09.MachineStarts'. -/
def machineStartsUptoCard : Claim7 := { stood := { row := machineStartsUptoRow, standIns := [], harness := (true, "8deffd00d3ed15901af46d5bc195ee5a177a81dc8587773501597489d772acf4"), looks := false }, kinds := [], alts := [], laidByText := true, laidKinds := [.data], laidTests := true, laidLooks := .later }
def MachineStartsUptoCardSaid : Prop := Claim7.holds Tryz.pinned (.plain (OpenSpec.upto machineStartsSpec)) machineStartsUptoCard

/-- THE SECOND FORM's CARD OF 'culpritlaw09.MachineSteps'. -/
def machineStepsUptoCard : Claim7 := { stood := { row := machineStepsUptoRow, standIns := [], harness := (true, "8deffd00d3ed15901af46d5bc195ee5a177a81dc8587773501597489d772acf4"), looks := false }, kinds := [], alts := [], laidByText := true, laidKinds := [.data], laidTests := true, laidLooks := .later }
def MachineStepsUptoCardSaid : Prop := Claim7.holds Tryz.pinned (.plain (OpenSpec.upto machineStepsSpec)) machineStepsUptoCard

/-- THE SECOND FORM's CARD OF 'culpritlaw09.MachineAccesses'. -/
def machineAccessesUptoCard : Claim7 := { stood := { row := machineAccessesUptoRow, standIns := [], harness := (true, "8deffd00d3ed15901af46d5bc195ee5a177a81dc8587773501597489d772acf4"), looks := false }, kinds := [], alts := [], laidByText := true, laidKinds := [.data], laidTests := true, laidLooks := .later }
def MachineAccessesUptoCardSaid : Prop := Claim7.holds Tryz.pinned (.plain (OpenSpec.upto machineAccessesSpec)) machineAccessesUptoCard

/-- THE SECOND FORM's CARD OF 'culpritlaw09.MachineEncodes'. -/
def machineEncodesUptoCard : Claim7 := { stood := { row := machineEncodesUptoRow, standIns := [], harness := (true, "8deffd00d3ed15901af46d5bc195ee5a177a81dc8587773501597489d772acf4"), looks := false }, kinds := [], alts := [], laidByText := true, laidKinds := [.data, .data, .data], laidTests := true, laidLooks := .later }
def MachineEncodesUptoCardSaid : Prop := Claim7.holds Tryz.pinned (.plain (OpenSpec.upto machineEncodesSpec)) machineEncodesUptoCard
end Rows
end Go.Proofs.YtfhhiajfciblbaaGreatDoor
