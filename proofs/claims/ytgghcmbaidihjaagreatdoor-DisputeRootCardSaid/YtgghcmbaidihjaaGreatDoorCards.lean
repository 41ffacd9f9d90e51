/-
  DERIVED. GIVEN WITH THE SEED: THE CARDS: each row of YtgghcmbaidihjaaGreatDoorRows.lean that lists a variable, with what it lists TIED to the program's text (the seventh form; the later family's looks); each row that meets fmt, with fmt's text TOLD by the authors' own Lean function (tested against real Go, not proved from fmt's source: count such statements apart). THE CARD IS WHAT COUNTS. Prove the row's statement (the work); the ties are given (YtgghcmbaidihjaaGreatDoorTie.lean); close each card by the builder's one call (the guide's Derived/Test/ToyasCard.lean, 'card_holds'). Laid BY PROGRAM, IN A SANDBOX (cutbox-door.mjs). By AI agents, Wed Nov 11 2026. No macro, syntax, notation, axiom, sorry.
-/
import Derived.Test.YtgghcmbaidihjaaGreatDoorRows
import GoSem.ClaimSeven
namespace Go.Proofs.YtgghcmbaidihjaaGreatDoor
namespace Rows

/-- THE TIED CARD OF 'culpritlaw32.DisputeJudges'. -/
def disputeJudgesCard : Claim7 := { stood := { row := disputeJudgesRow, standIns := [], harness := (true, "7e7e1ae87e1bf56ddc682a65ee6193b06c756f91add7aff3945493d62ebfe8b2"), looks := true }, kinds := [], alts := [], laidByText := true, laidKinds := [.data, .data, .data, .data, .data, .data], laidTests := true, laidLooks := .later }
def DisputeJudgesCardSaid : Prop := Claim7.holds Tryz.pinned (.plain (OpenSpec.ofChange disputeJudgesSpec)) disputeJudgesCard

/-- THE TIED CARD OF 'culpritlaw32.DisputeHonest'. -/
def disputeHonestCard : Claim7 := { stood := { row := disputeHonestRow, standIns := [], harness := (true, "7e7e1ae87e1bf56ddc682a65ee6193b06c756f91add7aff3945493d62ebfe8b2"), looks := true }, kinds := [], alts := [], laidByText := true, laidKinds := [.data, .data, .data, .data, .data], laidTests := true, laidLooks := .later }
def DisputeHonestCardSaid : Prop := Claim7.holds Tryz.pinned (.plain (OpenSpec.ofChange disputeHonestSpec)) disputeHonestCard

/-- THE TIED CARD OF 'culpritlaw32.DisputeSettles'. -/
def disputeSettlesCard : Claim7 := { stood := { row := disputeSettlesRow, standIns := [], harness := (true, "7e7e1ae87e1bf56ddc682a65ee6193b06c756f91add7aff3945493d62ebfe8b2"), looks := true }, kinds := [], alts := [], laidByText := true, laidKinds := [.data, .data, .data, .data, .data, .data], laidTests := true, laidLooks := .later }
def DisputeSettlesCardSaid : Prop := Claim7.holds Tryz.pinned (.plain (OpenSpec.ofChange disputeSettlesSpec)) disputeSettlesCard

/-- THE TIED CARD OF 'culpritlaw32.DisputeSettled'. -/
def disputeSettledCard : Claim7 := { stood := { row := disputeSettledRow, standIns := [], harness := (true, "7e7e1ae87e1bf56ddc682a65ee6193b06c756f91add7aff3945493d62ebfe8b2"), looks := true }, kinds := [], alts := [], laidByText := true, laidKinds := [.data, .data, .data, .data, .data, .data], laidTests := true, laidLooks := .later }
def DisputeSettledCardSaid : Prop := Claim7.holds Tryz.pinned (.plain (OpenSpec.ofChange disputeSettledSpec)) disputeSettledCard

/-- THE TIED CARD OF 'culpritlaw32.DisputeRoot'. -/
def disputeRootCard : Claim7 := { stood := { row := disputeRootRow, standIns := [], harness := (true, "7e7e1ae87e1bf56ddc682a65ee6193b06c756f91add7aff3945493d62ebfe8b2"), looks := true }, kinds := [], alts := [], laidByText := true, laidKinds := [.data, .data, .data, .data, .data, .data], laidTests := true, laidLooks := .later }
def DisputeRootCardSaid : Prop := Claim7.holds Tryz.pinned (.plain (OpenSpec.ofChange disputeRootSpec)) disputeRootCard

/-- THE SECOND FORM's CARD OF 'culpritlaw32.DisputeJudges'. -/
def disputeJudgesUptoCard : Claim7 := { stood := { row := disputeJudgesUptoRow, standIns := [], harness := (true, "7e7e1ae87e1bf56ddc682a65ee6193b06c756f91add7aff3945493d62ebfe8b2"), looks := true }, kinds := [], alts := [], laidByText := true, laidKinds := [.data, .data, .data, .data, .data, .data], laidTests := true, laidLooks := .later }
def DisputeJudgesUptoCardSaid : Prop := Claim7.holds Tryz.pinned (.plain (OpenSpec.upto disputeJudgesSpec)) disputeJudgesUptoCard

/-- THE SECOND FORM's CARD OF 'culpritlaw32.DisputeHonest'. -/
def disputeHonestUptoCard : Claim7 := { stood := { row := disputeHonestUptoRow, standIns := [], harness := (true, "7e7e1ae87e1bf56ddc682a65ee6193b06c756f91add7aff3945493d62ebfe8b2"), looks := true }, kinds := [], alts := [], laidByText := true, laidKinds := [.data, .data, .data, .data, .data], laidTests := true, laidLooks := .later }
def DisputeHonestUptoCardSaid : Prop := Claim7.holds Tryz.pinned (.plain (OpenSpec.upto disputeHonestSpec)) disputeHonestUptoCard

/-- THE SECOND FORM's CARD OF 'culpritlaw32.DisputeSettles'. -/
def disputeSettlesUptoCard : Claim7 := { stood := { row := disputeSettlesUptoRow, standIns := [], harness := (true, "7e7e1ae87e1bf56ddc682a65ee6193b06c756f91add7aff3945493d62ebfe8b2"), looks := true }, kinds := [], alts := [], laidByText := true, laidKinds := [.data, .data, .data, .data, .data, .data], laidTests := true, laidLooks := .later }
def DisputeSettlesUptoCardSaid : Prop := Claim7.holds Tryz.pinned (.plain (OpenSpec.upto disputeSettlesSpec)) disputeSettlesUptoCard

/-- THE SECOND FORM's CARD OF 'culpritlaw32.DisputeSettled'. -/
def disputeSettledUptoCard : Claim7 := { stood := { row := disputeSettledUptoRow, standIns := [], harness := (true, "7e7e1ae87e1bf56ddc682a65ee6193b06c756f91add7aff3945493d62ebfe8b2"), looks := true }, kinds := [], alts := [], laidByText := true, laidKinds := [.data, .data, .data, .data, .data, .data], laidTests := true, laidLooks := .later }
def DisputeSettledUptoCardSaid : Prop := Claim7.holds Tryz.pinned (.plain (OpenSpec.upto disputeSettledSpec)) disputeSettledUptoCard

/-- THE SECOND FORM's CARD OF 'culpritlaw32.DisputeRoot'. -/
def disputeRootUptoCard : Claim7 := { stood := { row := disputeRootUptoRow, standIns := [], harness := (true, "7e7e1ae87e1bf56ddc682a65ee6193b06c756f91add7aff3945493d62ebfe8b2"), looks := true }, kinds := [], alts := [], laidByText := true, laidKinds := [.data, .data, .data, .data, .data, .data], laidTests := true, laidLooks := .later }
def DisputeRootUptoCardSaid : Prop := Claim7.holds Tryz.pinned (.plain (OpenSpec.upto disputeRootSpec)) disputeRootUptoCard
end Rows
end Go.Proofs.YtgghcmbaidihjaaGreatDoor
