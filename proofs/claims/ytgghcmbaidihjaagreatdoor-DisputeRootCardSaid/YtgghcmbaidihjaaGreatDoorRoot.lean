/-
  DisputeRoot: the row and the tied card, proved. No condition.
-/
import Derived.Test.YtgghcmbaidihjaaGreatDoorRootA
import Derived.Test.YtgghcmbaidihjaaGreatDoorRootF
namespace Go.Proofs.YtgghcmbaidihjaaGreatDoor
open Go.Sm Go.ChangeShapes Go.WideShapes Go.ChangeAt Go.RowKit
set_option maxRecDepth 100000
theorem afK:Rows.DisputeRootSaid:=
 OpenClaim.holds_of_wide 7 Tryz.f7 rfl rfl rfl rfl rfl rfl rfl ⟨rfl,rfl,rfl,rfl,rfl⟩ rfl rfl rfl rfl rfl qw1 Tryz.func7 root_facts qw2 qw3 (λos a H enc _=>SY os a H enc)
theorem root_holds:Rows.DisputeRootCardSaid:=
 Claim7.holds_tied_plain_at .later [] _ _ _ _ afK (λ_ h=>by cases h) qw4 (λ_ h=>by cases h) disputeRoot_row_tie rfl ⟨rfl,rfl⟩ qw5 rfl
  (λf fn hf a=>by
   obtain rfl:f=7:=aj3 (qw1.symm.trans hf) |>.symm;obtain rfl:fn=Tryz.f7:=(aj3 (Tryz.func7.symm.trans a)).symm;exact⟨qw6,λj t c=>by
    have b:t∈Tryz.f7.params.toList:=by simpa using Array.mem_of_getElem? c
    exact(show Tryz.pinned.checked.prog.wantsStandIn t=false by simpa using acr.1 qw7 t b)⟩)
  qw8
#print axioms root_holds
end Go.Proofs.YtgghcmbaidihjaaGreatDoor
