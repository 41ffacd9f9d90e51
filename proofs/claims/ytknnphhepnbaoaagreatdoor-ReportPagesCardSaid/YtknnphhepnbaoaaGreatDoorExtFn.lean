/-
  What the library's functions that the program calls compute, as functions on data; the tables that it reads. No condition.
-/
import Derived.Test.YtknnphhepnbaoaaGreatDoorRfR
import Derived.Lib.AtoiAll
import Derived.Lib.ItoaNum
import Derived.Lib.SlTrimSet
import Derived.Lib.LaidTab
namespace Go.Proofs.YtknnphhepnbaoaaGreatDoor
open Go.Sm
class Vars where
  m:Int
  e1:TypeId×Value
  e2:TypeId×Value
def kindsTab:List (List UInt8×List UInt8×Bool×Bool×Bool):=
  [([32,105,115,32,117,110,100,101,99,105,100,101,100,46],[117,110,100,101,99,105,100,101,100],false,false,false),
   ([32,105,115,32,105,110,110,111,99,101,110,116,46],[105,110,110,111,99,101,110,116],false,false,false),
   ([32,105,115,32,98,114,111,107,101,110,46],[103,117,105,108,116,121],true,true,true),
   ([32,105,115,32,102,108,97,107,121,46],[102,108,97,107,121],false,true,true),
   ([32,105,115,32,115,108,111,119,101,114,46],[115,108,111,119,101,114],true,false,false),
   ([32,102,97,105,108,115,32,111,110,32,109,97,99,104,105,110,101,115,32,111,102,32,116,104,101,32,107,105,110,100,32,35,32,97,108,111,110,101,46],[109,97,99,104,105,110,101,32,35],false,true,false)]
def fits (n:Nat):Bool:=Nat.ble n 2147483648
def joinL:List (List UInt8)→List UInt8→List UInt8
  | [],_=>[]
  | [x],_=>x
  | x::y::r,sep=>x++(sep++joinL (y::r) sep)
def xJoin (xs:List (List UInt8)) (sep:List UInt8):Option (List UInt8):=chk (decide (xs.length≤140737488355328)&&decide ((joinL xs sep).length≤140737488355328)) (some (joinL xs sep))
def rep1 (c:UInt8) (new:List UInt8):List UInt8→List UInt8
  | []=>[]
  | b::r=>if b==c then new++r else b::rep1 c new r
def xReplace (s old new:List UInt8) (n:Int):Option (List UInt8):=match old with
  | [c]=>chk (n==1&&fits s.length&&decide (new.length≤32) && !(new==[c])) (some (rep1 c new s))
  | _=>none
def repA (old new:List UInt8):Nat→List UInt8→List UInt8
  | 0,s=>s
  | _+1,[]=>[]
  | k+1,b::r=>if old.isPrefixOf (b::r) then new++repA old new k ((b::r).drop old.length) else b::repA old new k r
def xReplaceAll (s old new:List UInt8):Option (List UInt8):=chk (decide (1≤old.length)&&decide (new.length≤old.length) && !(old==new)&&fits s.length) (some (repA old new s.length s))
def splA (sep:List UInt8):Nat→List UInt8→List (List UInt8)
  | 0,s=>[s]
  | _+1,[]=>[[]]
  | k+1,b::r=>if sep.isPrefixOf (b::r) then []::splA sep k ((b::r).drop sep.length) else match splA sep k r with
    | []=>[[b]]
    | p::ps=>(b::p)::ps
def xSplit (s sep:List UInt8):Option (List (List UInt8)):=chk (decide (1≤sep.length)&&fits s.length) (some (splA sep s.length s))
def cutL (sep:List UInt8):List UInt8→List UInt8×List UInt8×Bool
  | []=>([],[],false)
  | b::r=>if sep.isPrefixOf (b::r) then ([],(b::r).drop sep.length,true) else (b::(cutL sep r).1,(cutL sep r).2.1,(cutL sep r).2.2)
def xCut (s sep:List UInt8):Option (List UInt8×List UInt8×Bool):=chk (decide (1≤sep.length)&&fits s.length) (some (cutL sep s))
def ascii (l:List UInt8):Bool:=l.all fun b=>decide (b.toNat<128)
def xTrim (s cs:List UInt8):Option (List UInt8):=chk (fits s.length&&fits cs.length&&ascii cs) (some (Lib.trimS s cs))
def xTrimLeft (s cs:List UInt8):Option (List UInt8):=match cs with
  | [c]=>chk (decide (c.toNat<128)&&decide (s.length≤9223372036854775807)) (some (s.dropWhile (· == c)))
  | _=>none
def xCutPrefix (s p:List UInt8):Option (List UInt8×Bool):=some (if p.isPrefixOf s then s.drop p.length else s,p.isPrefixOf s)
def xCutSuffix (s p:List UInt8):Option (List UInt8×Bool):=chk (decide (s.length≤9223372036854775807)) (some (if p.isSuffixOf s then s.take (s.length - p.length) else s,p.isSuffixOf s))
def digs:Nat→Nat→List UInt8
  | 0,_=>[]
  | k+1,n=>if n<10 then [UInt8.ofNat (48+n)] else digs k (n / 10)++[UInt8.ofNat (48+n % 10)]
def itoaL (n:Int):List UInt8:=if n<0 then 45::digs 20 n.natAbs else digs 20 n.toNat
def xItoa (n:Int):Option (List UInt8):=chk (decide (-9223372036854775808≤n)&&decide (n≤9223372036854775807)) (some (itoaL n))
def numberL (s:List UInt8):Int×Bool:=match Lib.atoiAll s with
  | .ok v=>(v,decide (0≤v)&&decide (v≤999)&&(itoaL v==s))
  | .syntax=>(0,false)
  | .range=>(Lib.atoiSat s,false)
def xNumber (s:List UInt8):Option (Int×Bool):=chk (fits s.length) (some (numberL s))
end Go.Proofs.YtknnphhepnbaoaaGreatDoor
