/-
  DERIVED. GIVEN WITH THE SEED: THE CARDS: each row of YtknnphhepnbaoaaGreatDoorRows.lean that lists a variable, with what it lists TIED to the program's text (the seventh form; the later family's looks); each row that meets fmt, with fmt's text TOLD by the authors' own Lean function (tested against real Go, not proved from fmt's source: count such statements apart). THE CARD IS WHAT COUNTS. Prove the row's statement (the work); the ties are given (YtknnphhepnbaoaaGreatDoorTie.lean); close each card by the builder's one call (the guide's Derived/Test/ToyasCard.lean, 'card_holds'). Laid BY PROGRAM, IN A SANDBOX (cutbox-door.mjs). By AI agents, Wed Nov 11 2026. No macro, syntax, notation, axiom, sorry.
-/
import Derived.Test.YtknnphhepnbaoaaGreatDoorRows
import GoSem.ClaimSeven
namespace Go.Proofs.YtknnphhepnbaoaaGreatDoor
namespace Rows

/-- THE TIED CARD OF 'culpritlaw37.ReportCosts'. -/
def reportCostsCard : Claim7 := { stood := { row := reportCostsRow, standIns := [], harness := (true, "0ba9f8dbb36c297bb965faa3b2c77cac639321f30f76f48811ad2efbdebaedfa"), looks := true }, kinds := [], alts := [], laidByText := true, laidKinds := [.data, .data, .data, .data, .sentinel, .sentinel, .data, .pinned], laidTests := true, laidLooks := .later }
def ReportCostsCardSaid : Prop := Claim7.holds Tryz.pinned (.plain (OpenSpec.ofChange reportCostsSpec)) reportCostsCard

/-- THE TIED CARD OF 'culpritlaw37.ReportBack'. -/
def reportBackCard : Claim7 := { stood := { row := reportBackRow, standIns := [], harness := (true, "0ba9f8dbb36c297bb965faa3b2c77cac639321f30f76f48811ad2efbdebaedfa"), looks := true }, kinds := [], alts := [], laidByText := true, laidKinds := [.data, .data, .data, .data, .sentinel, .sentinel, .data, .pinned], laidTests := true, laidLooks := .later }
def ReportBackCardSaid : Prop := Claim7.holds Tryz.pinned (.plain (OpenSpec.ofChange reportBackSpec)) reportBackCard

/-- THE TIED CARD OF 'culpritlaw37.ReportBegins'. -/
def reportBeginsCard : Claim7 := { stood := { row := reportBeginsRow, standIns := [], harness := (true, "0ba9f8dbb36c297bb965faa3b2c77cac639321f30f76f48811ad2efbdebaedfa"), looks := true }, kinds := [], alts := [], laidByText := true, laidKinds := [.data, .data, .data, .data, .sentinel, .sentinel, .data, .pinned], laidTests := true, laidLooks := .later }
def ReportBeginsCardSaid : Prop := Claim7.holds Tryz.pinned (.plain (OpenSpec.ofChange reportBeginsSpec)) reportBeginsCard

/-- THE TIED CARD OF 'culpritlaw37.ReportParses'. -/
def reportParsesCard : Claim7 := { stood := { row := reportParsesRow, standIns := [], harness := (true, "0ba9f8dbb36c297bb965faa3b2c77cac639321f30f76f48811ad2efbdebaedfa"), looks := true }, kinds := [], alts := [], laidByText := true, laidKinds := [.data, .data, .data, .data, .sentinel, .sentinel, .data, .pinned], laidTests := true, laidLooks := .later }
def ReportParsesCardSaid : Prop := Claim7.holds Tryz.pinned (.plain (OpenSpec.ofChange reportParsesSpec)) reportParsesCard

/-- THE TIED CARD OF 'culpritlaw37.ReportPrints'. -/
def reportPrintsCard : Claim7 := { stood := { row := reportPrintsRow, standIns := [], harness := (true, "0ba9f8dbb36c297bb965faa3b2c77cac639321f30f76f48811ad2efbdebaedfa"), looks := true }, kinds := [], alts := [], laidByText := true, laidKinds := [.data, .data, .data, .data, .sentinel, .sentinel, .data, .pinned], laidTests := true, laidLooks := .later }
def ReportPrintsCardSaid : Prop := Claim7.holds Tryz.pinned (.plain (OpenSpec.ofChange reportPrintsSpec)) reportPrintsCard

/-- THE TIED CARD OF 'culpritlaw37.ReportPages'. -/
def reportPagesCard : Claim7 := { stood := { row := reportPagesRow, standIns := [], harness := (true, "0ba9f8dbb36c297bb965faa3b2c77cac639321f30f76f48811ad2efbdebaedfa"), looks := true }, kinds := [], alts := [], laidByText := true, laidKinds := [.data, .data, .data, .data, .sentinel, .sentinel, .data, .pinned], laidTests := true, laidLooks := .later }
def ReportPagesCardSaid : Prop := Claim7.holds Tryz.pinned (.plain (OpenSpec.ofChange reportPagesSpec)) reportPagesCard

/-- THE TIED CARD OF 'culpritlaw37.ReportWhole'. -/
def reportWholeCard : Claim7 := { stood := { row := reportWholeRow, standIns := [], harness := (true, "0ba9f8dbb36c297bb965faa3b2c77cac639321f30f76f48811ad2efbdebaedfa"), looks := true }, kinds := [], alts := [], laidByText := true, laidKinds := [.data, .data, .data, .data, .sentinel, .sentinel, .data, .pinned], laidTests := true, laidLooks := .later }
def ReportWholeCardSaid : Prop := Claim7.holds Tryz.pinned (.plain (OpenSpec.ofChange reportWholeSpec)) reportWholeCard

/-- THE SECOND FORM's CARD OF 'culpritlaw37.ReportCosts'. -/
def reportCostsUptoCard : Claim7 := { stood := { row := reportCostsUptoRow, standIns := [], harness := (true, "0ba9f8dbb36c297bb965faa3b2c77cac639321f30f76f48811ad2efbdebaedfa"), looks := true }, kinds := [], alts := [], laidByText := true, laidKinds := [.data, .data, .data, .data, .sentinel, .sentinel, .data, .pinned], laidTests := true, laidLooks := .later }
def ReportCostsUptoCardSaid : Prop := Claim7.holds Tryz.pinned (.plain (OpenSpec.upto reportCostsSpec)) reportCostsUptoCard

/-- THE SECOND FORM's CARD OF 'culpritlaw37.ReportBack'. -/
def reportBackUptoCard : Claim7 := { stood := { row := reportBackUptoRow, standIns := [], harness := (true, "0ba9f8dbb36c297bb965faa3b2c77cac639321f30f76f48811ad2efbdebaedfa"), looks := true }, kinds := [], alts := [], laidByText := true, laidKinds := [.data, .data, .data, .data, .sentinel, .sentinel, .data, .pinned], laidTests := true, laidLooks := .later }
def ReportBackUptoCardSaid : Prop := Claim7.holds Tryz.pinned (.plain (OpenSpec.upto reportBackSpec)) reportBackUptoCard

/-- THE SECOND FORM's CARD OF 'culpritlaw37.ReportBegins'. -/
def reportBeginsUptoCard : Claim7 := { stood := { row := reportBeginsUptoRow, standIns := [], harness := (true, "0ba9f8dbb36c297bb965faa3b2c77cac639321f30f76f48811ad2efbdebaedfa"), looks := true }, kinds := [], alts := [], laidByText := true, laidKinds := [.data, .data, .data, .data, .sentinel, .sentinel, .data, .pinned], laidTests := true, laidLooks := .later }
def ReportBeginsUptoCardSaid : Prop := Claim7.holds Tryz.pinned (.plain (OpenSpec.upto reportBeginsSpec)) reportBeginsUptoCard

/-- THE SECOND FORM's CARD OF 'culpritlaw37.ReportParses'. -/
def reportParsesUptoCard : Claim7 := { stood := { row := reportParsesUptoRow, standIns := [], harness := (true, "0ba9f8dbb36c297bb965faa3b2c77cac639321f30f76f48811ad2efbdebaedfa"), looks := true }, kinds := [], alts := [], laidByText := true, laidKinds := [.data, .data, .data, .data, .sentinel, .sentinel, .data, .pinned], laidTests := true, laidLooks := .later }
def ReportParsesUptoCardSaid : Prop := Claim7.holds Tryz.pinned (.plain (OpenSpec.upto reportParsesSpec)) reportParsesUptoCard

/-- THE SECOND FORM's CARD OF 'culpritlaw37.ReportPrints'. -/
def reportPrintsUptoCard : Claim7 := { stood := { row := reportPrintsUptoRow, standIns := [], harness := (true, "0ba9f8dbb36c297bb965faa3b2c77cac639321f30f76f48811ad2efbdebaedfa"), looks := true }, kinds := [], alts := [], laidByText := true, laidKinds := [.data, .data, .data, .data, .sentinel, .sentinel, .data, .pinned], laidTests := true, laidLooks := .later }
def ReportPrintsUptoCardSaid : Prop := Claim7.holds Tryz.pinned (.plain (OpenSpec.upto reportPrintsSpec)) reportPrintsUptoCard

/-- THE SECOND FORM's CARD OF 'culpritlaw37.ReportPages'. -/
def reportPagesUptoCard : Claim7 := { stood := { row := reportPagesUptoRow, standIns := [], harness := (true, "0ba9f8dbb36c297bb965faa3b2c77cac639321f30f76f48811ad2efbdebaedfa"), looks := true }, kinds := [], alts := [], laidByText := true, laidKinds := [.data, .data, .data, .data, .sentinel, .sentinel, .data, .pinned], laidTests := true, laidLooks := .later }
def ReportPagesUptoCardSaid : Prop := Claim7.holds Tryz.pinned (.plain (OpenSpec.upto reportPagesSpec)) reportPagesUptoCard

/-- THE SECOND FORM's CARD OF 'culpritlaw37.ReportWhole'. -/
def reportWholeUptoCard : Claim7 := { stood := { row := reportWholeUptoRow, standIns := [], harness := (true, "0ba9f8dbb36c297bb965faa3b2c77cac639321f30f76f48811ad2efbdebaedfa"), looks := true }, kinds := [], alts := [], laidByText := true, laidKinds := [.data, .data, .data, .data, .sentinel, .sentinel, .data, .pinned], laidTests := true, laidLooks := .later }
def ReportWholeUptoCardSaid : Prop := Claim7.holds Tryz.pinned (.plain (OpenSpec.upto reportWholeSpec)) reportWholeUptoCard
end Rows
end Go.Proofs.YtknnphhepnbaoaaGreatDoor
