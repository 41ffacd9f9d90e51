/-
  DisputeHonest: the row and the tied card, proved. No condition.
-/
import Derived.Test.YtgghcmbaidihjaaGreatDoorHonestA
import Derived.Test.YtgghcmbaidihjaaGreatDoorHonestF
namespace Go.Proofs.YtgghcmbaidihjaaGreatDoor
open Go.Sm Go.ChangeShapes Go.WideShapes Go.ChangeAt Go.RowKit
set_option maxRecDepth 100000
theorem honest_row : Rows.DisputeHonestSaid :=
  OpenClaim.holds_of_wide 4 Tryz.f4 rfl rfl rfl rfl rfl rfl rfl ⟨rfl, rfl, rfl, rfl, rfl⟩ rfl rfl rfl rfl rfl qw1 Tryz.func4 honest_facts qw2 qw3 (fun os started H enc _ => Hh os started H enc)
theorem honest_holds : Rows.DisputeHonestCardSaid :=
  Claim7.holds_tied_plain_at .later [] _ _ _ _ honest_row (fun _ h => by cases h) qw4 (fun _ h => by cases h) disputeHonest_row_tie rfl ⟨rfl, rfl⟩ qw5 rfl
    (fun f fn hf hfn => by
      obtain rfl : f = 4 := Option.some.inj (qw1.symm.trans hf) |>.symm
      obtain rfl : fn = Tryz.f4 := (Option.some.inj (Tryz.func4.symm.trans hfn)).symm
      exact ⟨qw6, fun j t ht => by
        have hm : t ∈ Tryz.f4.params.toList := by simpa using Array.mem_of_getElem? ht
        exact (show Tryz.pinned.checked.prog.wantsStandIn t = false by simpa using List.all_eq_true.1 qw7 t hm)⟩)
    qw8
#print axioms honest_holds
end Go.Proofs.YtgghcmbaidihjaaGreatDoor
