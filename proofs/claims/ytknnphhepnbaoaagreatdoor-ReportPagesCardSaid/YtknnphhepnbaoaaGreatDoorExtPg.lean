/-
  What report.Page computes, over what report.Print computes. No condition.
-/
import Derived.Test.YtknnphhepnbaoaaGreatDoorExtFn
namespace Go.Proofs.YtknnphhepnbaoaaGreatDoor
open Go.Sm
section
variable {V:Type} (pr:V→Option (List (List UInt8)×Int))
def pageGo:List V→List UInt8→Option (List UInt8×Int)
 | [],acc=>some (bif Nat.ble 65537 acc.length then ([],4) else (acc,0))
 | v::r,acc=>match pr v with
  | none=>none
  | some (s,e)=>bif e==0 then (match xJoin s [10] with
   | none=>none
   | some t=>chk (decide (acc.length+(t.length+2)≤140737488355328)) (pageGo r (acc++(t++[10,10]))))
   else some ([],e)
def xPage (l:List V):Option (List UInt8×Int):=bif Nat.ble 65 l.length then some ([],4) else pageGo pr l []
end
end Go.Proofs.YtknnphhepnbaoaaGreatDoor
