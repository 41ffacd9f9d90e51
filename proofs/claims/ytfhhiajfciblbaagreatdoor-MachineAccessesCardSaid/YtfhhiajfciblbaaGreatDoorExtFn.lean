/- Laws for the row. No condition. -/
import Derived.Test.YtfhhiajfciblbaaGreatDoorRfV
namespace Go.Proofs.YtfhhiajfciblbaaGreatDoor
open Go.Sm
def sV:List (List UInt8×Int):=[([112,117,115,104],1),([108,111,97,100],1),([115,116,111,114,101],1),([109,97,99,104,105,110,101],0),([97,100,100],0),([115,117,98],0),([109,117,108],0),([108,101,115,115],0),([109,111,115,116],0),([101,113,117,97,108],0),([106,117,109,112],1),([122,101,114,111],1),([99,97,108,108],1),([98,97,99,107],0),([99,104,101,99,107],2),([97,108,108,111,99],1),([103,101,116],1),([112,117,116],1),([103,111],1),([115,101,110,100],1),([114,101,99,118],2),([97,99,113,117,105,114,101],1),([114,101,108,101,97,115,101],1),([100,114,97,119],2),([110,111,119],1),([115,108,101,101,112],1),([119,114,105,116,101],1),([114,101,97,100],2),([101,110,100],0)]
def Ca (a b:Int×Int×Bool):Bool:=decide (a.1<b.1)||(a.1==b.1&&decide (a.2.1≤b.2.1))
def uI (x:Int×Int×Bool):List (Int×Int×Bool)→List (Int×Int×Bool)
  | []=>[x]
  | y::r=>bif Ca x y then x::y::r else y::uI x r
def zO:List (Int×Int×Bool)→List (Int×Int×Bool)
  | []=>[]
  | x::r=>uI x (zO r)
def tn (m:List ((Int×Int×Bool)×Bool)):List (Int×Int×Bool):=zO (m.map fun p=>(p.1.1,p.1.2.1,p.2))
def Dj (x:Int×Int×Bool) (l:List ((Int×Int×Bool)×Bool)):Bool:=l.all fun p=>!(p.1.1==x.1&&p.1.2.1==x.2.1)
def sK:List ((Int×Int×Bool)×Bool)→Bool
  | []=>true
  | p::r=>decide (0≤p.1.1∧p.1.1<1099511627776∧0≤p.1.2.1∧p.1.2.1<1099511627776)&&Dj p.1 r&&sK r
def qX (m:List ((Int×Int×Bool)×Bool)):Bool:=Nat.ble m.length 12&&sK m
end Go.Proofs.YtfhhiajfciblbaaGreatDoor
