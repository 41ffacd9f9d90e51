/-
  The reference models' fractions with small denominators, number by number. Over Fn of all seven laws. No program is walked here.
-/
import Derived.Test.YtknnphhepnbaoaaGreatDoorLawsC
import Derived.Test.YtknnphhepnbaoaaGreatDoorLawsB
namespace Go.Proofs.YtknnphhepnbaoaaGreatDoor
open Go.Sm
def fracL (n d:Nat):List Int×List Int:=(oneL (n / Nat.gcd n d),if d / Nat.gcd n d=1 then [] else oneL (d / Nat.gcd n d))
def ofB (d:Nat):Bool:=(List.range d).all fun n=>culpritref05_Of (((n+1:Nat):Int)) ((d:Nat):Int)==some (fracL (n+1) d,(0:Int))
theorem of_1:ofB 1=true:=by decide +kernel
theorem of_2:ofB 2=true:=by decide +kernel
theorem of_3:ofB 3=true:=by decide +kernel
theorem of_4:ofB 4=true:=by decide +kernel
theorem of_5:ofB 5=true:=by decide +kernel
theorem of_6:ofB 6=true:=by decide +kernel
theorem of_7:ofB 7=true:=by decide +kernel
theorem of_8:ofB 8=true:=by decide +kernel
theorem of_9:ofB 9=true:=by decide +kernel
theorem of_10:ofB 10=true:=by decide +kernel
theorem of_11:ofB 11=true:=by decide +kernel
theorem of_12:ofB 12=true:=by decide +kernel
theorem of_13:ofB 13=true:=by decide +kernel
theorem of_14:ofB 14=true:=by decide +kernel
theorem of_15:ofB 15=true:=by decide +kernel
theorem of_16:ofB 16=true:=by decide +kernel
theorem of_17:ofB 17=true:=by decide +kernel
theorem of_18:ofB 18=true:=by decide +kernel
theorem of_19:ofB 19=true:=by decide +kernel
theorem of_20:ofB 20=true:=by decide +kernel
theorem of_21:ofB 21=true:=by decide +kernel
theorem of_22:ofB 22=true:=by decide +kernel
theorem of_23:ofB 23=true:=by decide +kernel
theorem of_24:ofB 24=true:=by decide +kernel
theorem of_25:ofB 25=true:=by decide +kernel
theorem of_26:ofB 26=true:=by decide +kernel
theorem of_27:ofB 27=true:=by decide +kernel
theorem of_28:ofB 28=true:=by decide +kernel
end Go.Proofs.YtknnphhepnbaoaaGreatDoor
