/-
  The documented examples hold: reckoned by the kernel. No condition.
-/
import Derived.Test.YtknnphhepnbaoaaGreatDoorLawsA
import Derived.KernelRfl
namespace Go.Proofs.YtknnphhepnbaoaaGreatDoor
open Go.Sm
theorem lives_true : culpritlaw37_lives = some true := by kernel_rfl
end Go.Proofs.YtknnphhepnbaoaaGreatDoor
