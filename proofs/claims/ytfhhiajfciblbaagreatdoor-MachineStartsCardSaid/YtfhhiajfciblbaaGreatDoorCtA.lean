/-
  The functions of the program compute what their Lean functions say. No condition.
-/
import Derived.Test.YtfhhiajfciblbaaGreatDoorFn
import Derived.Test.YtfhhiajfciblbaaGreatDoorRows
namespace Go.Proofs.YtfhhiajfciblbaaGreatDoor
open Go.Sm
set_option maxRecDepth 100000
set_option linter.unusedSectionVars false
instance:GTab:=⟨[⟨0,kT,pB⟩]⟩
def ti3:TInf:=⟨.int .i64,1,8,[.c (.int .i64) (0:Int)],(.sc (.int .i64))⟩
def ti4:TInf:=⟨.bool,1,1,[.c .bool false],(.sc .bool)⟩
def ti5:TInf:=⟨.int .u8,1,1,[.c (.int .u8) (0:Int)],(.sc (.int .u8))⟩
def ti9:TInf:=⟨.str,1,16,[.c .str ([]:List UInt8)],(.sc .str)⟩
def abH:TInf:=⟨.slice 3,1,24,[.nl],(.slice (.sc (.int .i64)))⟩
def acS:TInf:=⟨.st [(3,0),(3,1),(3,2)],3,24,[.c (.int .i64) (0:Int), .c (.int .i64) (0:Int), .c (.int .i64) (0:Int)],eR⟩
def aaX:TInf:=⟨.slice 99,1,24,[.nl],(.slice aM)⟩
def abF:TInf:=⟨.slice 101,1,24,[.nl],(.slice au)⟩
def acI:TInf:=⟨.slice 9,1,24,[.nl],(.slice (.sc .str))⟩
def abi:TInf:=⟨.st [(25,0),(22,1),(22,2),(26,3),(26,4),(27,5),(27,6),(27,7)],8,192,[.nl, .nl, .nl, .nl, .nl, .nl, .nl, .nl],bC⟩
def acu:TInf:=⟨.slice 29,1,24,[.nl],(.slice bC)⟩
def adz:TInf:=⟨.slice 24,1,24,[.nl],(.slice eR)⟩
def adA:TInf:=⟨.other,1,8,[.v (.nilFunc)],(.sc .fnc)⟩
def abM:TInf:=⟨.slice 118,1,24,[.nl],(.slice aV)⟩
def aa7:TInf:=⟨.slice 22,1,24,[.nl],(.slice (.slice (.sc (.int .i64))))⟩
def abn:TInf:=⟨.st [(3,0),(3,1),(3,2)],3,24,[.c (.int .i64) (0:Int), .c (.int .i64) (0:Int), .c (.int .i64) (0:Int)],uF⟩
def acY:TInf:=⟨.st [(37,0),(22,1),(38,2),(22,3),(22,4),(3,5),(3,6),(40,7),(3,10),(3,11),(3,12),(9,13)],14,200,[.nl, .nl, .nl, .nl, .nl, .c (.int .i64) (0:Int), .c (.int .i64) (0:Int), .c (.int .i64) (0:Int), .c (.int .i64) (0:Int), .c (.int .i64) (0:Int), .c (.int .i64) (0:Int), .c (.int .i64) (0:Int), .c (.int .i64) (0:Int), .c .str ([]:List UInt8)],de⟩
def adb:TInf:=⟨.int .i64,1,8,[.c (.int .i64) (0:Int)],(.sc (.int .i64))⟩
def adL:TInf:=⟨.st [(25,0),(22,1),(22,2),(26,3),(26,4),(27,5),(27,6),(27,7)],8,192,[.nl, .nl, .nl, .nl, .nl, .nl, .nl, .nl],dX⟩
def aci:TInf:=⟨.slice 130,1,24,[.nl],(.slice aN)⟩
def acg:TInf:=⟨.st [(48,0),(22,1),(38,2),(22,3),(22,4),(3,5),(3,6),(40,7),(3,10),(3,11),(3,12),(9,13)],14,200,[.nl, .nl, .nl, .nl, .nl, .c (.int .i64) (0:Int), .c (.int .i64) (0:Int), .c (.int .i64) (0:Int), .c (.int .i64) (0:Int), .c (.int .i64) (0:Int), .c (.int .i64) (0:Int), .c (.int .i64) (0:Int), .c (.int .i64) (0:Int), .c .str ([]:List UInt8)],dc⟩
def aca:TInf:=⟨.st [(3,0),(3,1),(3,2),(22,3)],4,48,[.c (.int .i64) (0:Int), .c (.int .i64) (0:Int), .c (.int .i64) (0:Int), .nl],oc⟩
def adn:TInf:=⟨.slice 153,1,24,[.nl],(.slice ae)⟩
def ac3:TInf:=⟨.slice 149,1,24,[.nl],(.slice bI)⟩
def acJ:TInf:=⟨.slice 5,1,24,[.nl],(.slice (.sc (.int .u8)))⟩
def ach:TInf:=⟨.slice 132,1,24,[.nl],(.slice bR)⟩
def acr:TInf:=⟨.st [(3,0),(3,1),(3,2)],3,24,[.c (.int .i64) (0:Int), .c (.int .i64) (0:Int), .c (.int .i64) (0:Int)],aM⟩
def VD:TInf:=⟨.st [(9,0),(3,1)],2,24,[.c .str ([]:List UInt8), .c (.int .i64) (0:Int)],au⟩
def XE:TInf:=⟨.other,1,8,[.v (.nilFunc)],(.sc .fnc)⟩
def Xh:TInf:=⟨.ptr 112,1,8,[.v (.pointer none)], .unit⟩
def VV:TInf:=⟨.map 153 4,1,8,[.v (.map none)],(.mp ae (.sc .bool))⟩
def XO:TInf:=⟨.st [(46,0),(24,8),(42,11),(110,25)],26,424,[.nl, .nl, .nl, .nl, .nl, .nl, .nl, .nl, .c (.int .i64) (0:Int), .c (.int .i64) (0:Int), .c (.int .i64) (0:Int), .nl, .nl, .nl, .nl, .nl, .c (.int .i64) (0:Int), .c (.int .i64) (0:Int), .c (.int .i64) (0:Int), .c (.int .i64) (0:Int), .c (.int .i64) (0:Int), .c (.int .i64) (0:Int), .c (.int .i64) (0:Int), .c (.int .i64) (0:Int), .c .str ([]:List UInt8), .v (.map none)],cx⟩
def VY:TInf:=⟨.st [(3,0),(22,1)],2,32,[.c (.int .i64) (0:Int), .nl],cN⟩
def V8:TInf:=⟨.slice 114,1,24,[.nl],(.slice cN)⟩
def V0:TInf:=⟨.st [(116,0),(22,1),(3,2),(4,3)],4,64,[.nl, .nl, .c (.int .i64) (0:Int), .c .bool false],aV⟩
def XT:TInf:=⟨.ptr 123,1,8,[.v (.pointer none)], .unit⟩
def WI:TInf:=⟨.st [(29,0),(24,8),(50,11),(71,25)],26,440,[.nl, .nl, .nl, .nl, .nl, .nl, .nl, .nl, .c (.int .i64) (0:Int), .c (.int .i64) (0:Int), .c (.int .i64) (0:Int), .nl, .nl, .nl, .nl, .nl, .c (.int .i64) (0:Int), .c (.int .i64) (0:Int), .c (.int .i64) (0:Int), .c (.int .i64) (0:Int), .c (.int .i64) (0:Int), .c (.int .i64) (0:Int), .c (.int .i64) (0:Int), .c (.int .i64) (0:Int), .c .str ([]:List UInt8), .nl],aU⟩
def WZ:TInf:=⟨.st [(3,0),(22,1)],2,32,[.c (.int .i64) (0:Int), .nl],cZ⟩
def Yn:TInf:=⟨.slice 126,1,24,[.nl],(.slice cZ)⟩
def W4:TInf:=⟨.st [(128,0),(22,1),(3,2),(4,3)],4,64,[.nl, .nl, .c (.int .i64) (0:Int), .c .bool false],aN⟩
def XN:TInf:=⟨.st [(9,0),(9,1)],2,32,[.c .str ([]:List UInt8), .c .str ([]:List UInt8)],bR⟩
def Ya:TInf:=⟨.ptr 118,1,8,[.v (.pointer none)], .unit⟩
def WK:TInf:=⟨.st [(3,0),(3,1),(4,2)],3,24,[.c (.int .i64) (0:Int), .c (.int .i64) (0:Int), .c .bool false],bI⟩
def WW:TInf:=⟨.st [(3,0),(3,1),(4,2)],3,24,[.c (.int .i64) (0:Int), .c (.int .i64) (0:Int), .c .bool false],ae⟩
def Xy:TInf:=⟨.slice 169,1,24,[.nl],(.slice .node)⟩
def Yd:TInf:=⟨.st [(3,0),(9,1),(3,2),(167,3)],4,56,[.c (.int .i64) (0:Int), .c .str ([]:List UInt8), .c (.int .i64) (0:Int), .nl], .node⟩
def Xu:TInf:=⟨.ptr 176,1,8,[.v (.pointer none)], .unit⟩
def W3:TInf:=⟨.st [(29,0),(27,8),(3,9)],10,224,[.nl, .nl, .nl, .nl, .nl, .nl, .nl, .nl, .nl, .c (.int .i64) (0:Int)],aX⟩
def XY:TInf:=⟨.slice 185,1,24,[.nl],(.slice jX)⟩
def Wa:TInf:=⟨.st [(3,0),(3,1),(3,2)],3,24,[.c (.int .i64) (0:Int), .c (.int .i64) (0:Int), .c (.int .i64) (0:Int)],jX⟩
def X5:TInf:=⟨.ptr 114,1,8,[.v (.pointer none)], .unit⟩
def V4:TInf:=⟨.other,1,8,[.v (.nilFunc)],(.sc .fnc)⟩
def X1:TInf:=⟨.int .u64,1,8,[.c (.int .u64) (0:Int)],(.sc (.int .u64))⟩
def Wo:TInf:=⟨.slice 240,1,24,[.nl],(.slice ba)⟩
def WD:TInf:=⟨.ptr 237,1,8,[.v (.pointer none)], .unit⟩
def XB:TInf:=⟨.st [(9,0),(232,1),(3,2),(4,3),(4,4)],5,56,[.c .str ([]:List UInt8), .nl, .c (.int .i64) (0:Int), .c .bool false, .c .bool false],aB⟩
def Xr:TInf:=⟨.st [(3,0),(3,1)],2,16,[.c (.int .i64) (0:Int), .c (.int .i64) (0:Int)],ba⟩
def XZ:TInf:=⟨.arr 3 9,3,48,[.ar 3 .str ([]:List (List UInt8))],(.arr 3 .str)⟩
def Wq:TInf:=⟨.slice 247,1,24,[.nl],(.slice (.arr 3 .str))⟩
def XG:TInf:=⟨.slice 27,1,24,[.nl],(.slice (.slice (.sc .str)))⟩
def Nl:TInf:=⟨.st [(9,0),(3,1)],2,24,[.c .str ([]:List UInt8), .c (.int .i64) (0:Int)],kT⟩
def Lg:TInf:=⟨.arr 29 253,58,696,[.c .str ([]:List UInt8), .c (.int .i64) (0:Int), .c .str ([]:List UInt8), .c (.int .i64) (0:Int), .c .str ([]:List UInt8), .c (.int .i64) (0:Int), .c .str ([]:List UInt8), .c (.int .i64) (0:Int), .c .str ([]:List UInt8), .c (.int .i64) (0:Int), .c .str ([]:List UInt8), .c (.int .i64) (0:Int), .c .str ([]:List UInt8), .c (.int .i64) (0:Int), .c .str ([]:List UInt8), .c (.int .i64) (0:Int), .c .str ([]:List UInt8), .c (.int .i64) (0:Int), .c .str ([]:List UInt8), .c (.int .i64) (0:Int), .c .str ([]:List UInt8), .c (.int .i64) (0:Int), .c .str ([]:List UInt8), .c (.int .i64) (0:Int), .c .str ([]:List UInt8), .c (.int .i64) (0:Int), .c .str ([]:List UInt8), .c (.int .i64) (0:Int), .c .str ([]:List UInt8), .c (.int .i64) (0:Int), .c .str ([]:List UInt8), .c (.int .i64) (0:Int), .c .str ([]:List UInt8), .c (.int .i64) (0:Int), .c .str ([]:List UInt8), .c (.int .i64) (0:Int), .c .str ([]:List UInt8), .c (.int .i64) (0:Int), .c .str ([]:List UInt8), .c (.int .i64) (0:Int), .c .str ([]:List UInt8), .c (.int .i64) (0:Int), .c .str ([]:List UInt8), .c (.int .i64) (0:Int), .c .str ([]:List UInt8), .c (.int .i64) (0:Int), .c .str ([]:List UInt8), .c (.int .i64) (0:Int), .c .str ([]:List UInt8), .c (.int .i64) (0:Int), .c .str ([]:List UInt8), .c (.int .i64) (0:Int), .c .str ([]:List UInt8), .c (.int .i64) (0:Int), .c .str ([]:List UInt8), .c (.int .i64) (0:Int), .c .str ([]:List UInt8), .c (.int .i64) (0:Int)], .unit⟩
def Wj:TInf:=⟨.map 3 36,1,8,[.v (.map none)],(.mp (.sc (.int .i64)) (.sc .fnc))⟩
def Yh:TInf:=⟨.int .u64,1,8,[.c (.int .u64) (0:Int)],(.sc (.int .u64))⟩
def Yx:TInf:=⟨.slice 276,1,24,[.nl],(.slice eD)⟩
def Yw:TInf:=⟨.st [(3,0),(3,1),(9,2),(9,3)],4,48,[.c (.int .i64) (0:Int), .c (.int .i64) (0:Int), .c .str ([]:List UInt8), .c .str ([]:List UInt8)],eD⟩
def tb:List (TypeId×TInf):=[(3,ti3),(4,ti4),(5,ti5),(9,ti9),(22,abH),(24,acS),(25,aaX),(26,abF),(27,acI),(29,abi),(32,acu),(34,adz),(36,adA),(37,abM),(38,aa7),(40,abn),(42,acY),(43,adb),(46,adL),(48,aci),(50,acg),(58,aca),(68,adn),(71,ac3),(85,acJ),(96,ach),(99,acr),(101,VD),(106,XE),(108,Xh),(110,VV),(112,XO),(114,VY),(116,V8),(118,V0),(121,XT),(123,WI),(126,WZ),(128,Yn),(130,W4),(132,XN),(144,Ya),(149,WK),(153,WW),(167,Xy),(169,Yd),(173,Xu),(176,W3),(182,XY),(185,Wa),(197,X5),(209,V4),(220,X1),(232,Wo),(235,WD),(237,XB),(240,Xr),(247,XZ),(248,Wq),(250,XG),(253,Nl),(254,Lg),(255,Wj),(267,Yh),(272,Yx),(276,Yw)]
theorem PD:ti3.ok Tryz.prog 3:=⟨by unfold TI; kernel_rfl,Tryz.underlying3,rfl,fun _=>rfl⟩
theorem aa9:ti4.ok Tryz.prog 4:=⟨by unfold TI; kernel_rfl,Tryz.underlying4,rfl,fun _=>rfl⟩
theorem abS:ti5.ok Tryz.prog 5:=⟨by unfold TI; kernel_rfl,Tryz.underlying5,rfl,fun _=>rfl⟩
theorem Pk:ti9.ok Tryz.prog 9:=⟨by unfold TI; kernel_rfl,Tryz.underlying9,rfl,fun _=>rfl⟩
theorem YF:abH.ok Tryz.prog 22:=⟨by unfold TI; kernel_rfl,Tryz.underlying22,rfl,fun _=>rfl⟩
theorem aaT:acS.ok Tryz.prog 24:=⟨by unfold TI; kernel_rfl,⟨_,Tryz.underlying24,by kernel_rfl⟩,rfl,fun _=>rfl⟩
theorem Za:aaX.ok Tryz.prog 25:=⟨by unfold TI; kernel_rfl,Tryz.underlying25,rfl,fun _=>rfl⟩
theorem YS:abF.ok Tryz.prog 26:=⟨by unfold TI; kernel_rfl,Tryz.underlying26,rfl,fun _=>rfl⟩
theorem YZ:acI.ok Tryz.prog 27:=⟨by unfold TI; kernel_rfl,Tryz.underlying27,rfl,fun _=>rfl⟩
theorem aaP:abi.ok Tryz.prog 29:=⟨by unfold TI; kernel_rfl,⟨_,Tryz.underlying29,by kernel_rfl⟩,rfl,fun _=>rfl⟩
theorem YG:acu.ok Tryz.prog 32:=⟨by unfold TI; kernel_rfl,Tryz.underlying32,rfl,fun _=>rfl⟩
theorem Zw:adz.ok Tryz.prog 34:=⟨by unfold TI; kernel_rfl,Tryz.underlying34,rfl,fun _=>rfl⟩
theorem Zg:adA.ok Tryz.prog 36:=⟨by unfold TI; kernel_rfl,⟨_,Tryz.underlying36,rfl⟩,rfl,fun _=>rfl⟩
theorem aaO:abM.ok Tryz.prog 37:=⟨by unfold TI; kernel_rfl,Tryz.underlying37,rfl,fun _=>rfl⟩
theorem ZZ:aa7.ok Tryz.prog 38:=⟨by unfold TI; kernel_rfl,Tryz.underlying38,rfl,fun _=>rfl⟩
theorem YW:abn.ok Tryz.prog 40:=⟨by unfold TI; kernel_rfl,⟨_,Tryz.underlying40,by kernel_rfl⟩,rfl,fun _=>rfl⟩
theorem aaN:acY.ok Tryz.prog 42:=⟨by unfold TI; kernel_rfl,⟨_,Tryz.underlying42,by kernel_rfl⟩,rfl,fun _=>rfl⟩
theorem aax:adb.ok Tryz.prog 43:=⟨by unfold TI; kernel_rfl,Tryz.underlying43,rfl,fun _=>rfl⟩
theorem ZW:adL.ok Tryz.prog 46:=⟨by unfold TI; kernel_rfl,⟨_,Tryz.underlying46,by kernel_rfl⟩,rfl,fun _=>rfl⟩
theorem Zp:aci.ok Tryz.prog 48:=⟨by unfold TI; kernel_rfl,Tryz.underlying48,rfl,fun _=>rfl⟩
theorem Y4:acg.ok Tryz.prog 50:=⟨by unfold TI; kernel_rfl,⟨_,Tryz.underlying50,by kernel_rfl⟩,rfl,fun _=>rfl⟩
theorem ZS:aca.ok Tryz.prog 58:=⟨by unfold TI; kernel_rfl,⟨_,Tryz.underlying58,by kernel_rfl⟩,rfl,fun _=>rfl⟩
theorem ZN:adn.ok Tryz.prog 68:=⟨by unfold TI; kernel_rfl,Tryz.underlying68,rfl,fun _=>rfl⟩
theorem aar:ac3.ok Tryz.prog 71:=⟨by unfold TI; kernel_rfl,Tryz.underlying71,rfl,fun _=>rfl⟩
theorem Z5:acJ.ok Tryz.prog 85:=⟨by unfold TI; kernel_rfl,Tryz.underlying85,rfl,fun _=>rfl⟩
theorem aaJ:ach.ok Tryz.prog 96:=⟨by unfold TI; kernel_rfl,Tryz.underlying96,rfl,fun _=>rfl⟩
theorem aaj:acr.ok Tryz.prog 99:=⟨by unfold TI; kernel_rfl,⟨_,Tryz.underlying99,by kernel_rfl⟩,rfl,fun _=>rfl⟩
theorem TQ:VD.ok Tryz.prog 101:=⟨by unfold TI; kernel_rfl,⟨_,Tryz.underlying101,by kernel_rfl⟩,rfl,fun _=>rfl⟩
theorem Vf:XE.ok Tryz.prog 106:=⟨by unfold TI; kernel_rfl,⟨_,Tryz.underlying106,rfl⟩,rfl,fun _=>rfl⟩
theorem TY:Xh.ok Tryz.prog 108:=⟨by unfold TI; kernel_rfl,Tryz.underlying108,rfl,fun _=>rfl⟩
theorem T6:VV.ok Tryz.prog 110:=⟨by unfold TI; kernel_rfl,Tryz.underlying110,rfl,fun _=>rfl⟩
theorem U1:XO.ok Tryz.prog 112:=⟨by unfold TI; kernel_rfl,⟨_,Tryz.underlying112,by kernel_rfl⟩,rfl,fun _=>rfl⟩
theorem RK:VY.ok Tryz.prog 114:=⟨by unfold TI; kernel_rfl,⟨_,Tryz.underlying114,by kernel_rfl⟩,rfl,fun _=>rfl⟩
theorem SJ:V8.ok Tryz.prog 116:=⟨by unfold TI; kernel_rfl,Tryz.underlying116,rfl,fun _=>rfl⟩
theorem TW:V0.ok Tryz.prog 118:=⟨by unfold TI; kernel_rfl,⟨_,Tryz.underlying118,by kernel_rfl⟩,rfl,fun _=>rfl⟩
theorem QQ:XT.ok Tryz.prog 121:=⟨by unfold TI; kernel_rfl,Tryz.underlying121,rfl,fun _=>rfl⟩
theorem Rf:WI.ok Tryz.prog 123:=⟨by unfold TI; kernel_rfl,⟨_,Tryz.underlying123,by kernel_rfl⟩,rfl,fun _=>rfl⟩
theorem Sy:WZ.ok Tryz.prog 126:=⟨by unfold TI; kernel_rfl,⟨_,Tryz.underlying126,by kernel_rfl⟩,rfl,fun _=>rfl⟩
theorem Uy:Yn.ok Tryz.prog 128:=⟨by unfold TI; kernel_rfl,Tryz.underlying128,rfl,fun _=>rfl⟩
theorem T5:W4.ok Tryz.prog 130:=⟨by unfold TI; kernel_rfl,⟨_,Tryz.underlying130,by kernel_rfl⟩,rfl,fun _=>rfl⟩
theorem ST:XN.ok Tryz.prog 132:=⟨by unfold TI; kernel_rfl,⟨_,Tryz.underlying132,by kernel_rfl⟩,rfl,fun _=>rfl⟩
theorem U5:Ya.ok Tryz.prog 144:=⟨by unfold TI; kernel_rfl,Tryz.underlying144,rfl,fun _=>rfl⟩
theorem Rv:WK.ok Tryz.prog 149:=⟨by unfold TI; kernel_rfl,⟨_,Tryz.underlying149,by kernel_rfl⟩,rfl,fun _=>rfl⟩
theorem SG:WW.ok Tryz.prog 153:=⟨by unfold TI; kernel_rfl,⟨_,Tryz.underlying153,by kernel_rfl⟩,rfl,fun _=>rfl⟩
theorem St:Xy.ok Tryz.prog 167:=⟨by unfold TI; kernel_rfl,Tryz.underlying167,rfl,fun _=>rfl⟩
theorem SD:Yd.ok Tryz.prog 169:=⟨by unfold TI; kernel_rfl,⟨_,Tryz.underlying169,by kernel_rfl⟩,rfl,fun _=>rfl⟩
theorem Sh:Xu.ok Tryz.prog 173:=⟨by unfold TI; kernel_rfl,Tryz.underlying173,rfl,fun _=>rfl⟩
theorem Rl:W3.ok Tryz.prog 176:=⟨by unfold TI; kernel_rfl,⟨_,Tryz.underlying176,by kernel_rfl⟩,rfl,fun _=>rfl⟩
theorem Rt:XY.ok Tryz.prog 182:=⟨by unfold TI; kernel_rfl,Tryz.underlying182,rfl,fun _=>rfl⟩
theorem UM:Wa.ok Tryz.prog 185:=⟨by unfold TI; kernel_rfl,⟨_,Tryz.underlying185,by kernel_rfl⟩,rfl,fun _=>rfl⟩
theorem Uz:X5.ok Tryz.prog 197:=⟨by unfold TI; kernel_rfl,Tryz.underlying197,rfl,fun _=>rfl⟩
theorem UE:V4.ok Tryz.prog 209:=⟨by unfold TI; kernel_rfl,⟨_,Tryz.underlying209,rfl⟩,rfl,fun _=>rfl⟩
theorem Uk:X1.ok Tryz.prog 220:=⟨by unfold TI; kernel_rfl,Tryz.underlying220,rfl,fun _=>rfl⟩
theorem R5:Wo.ok Tryz.prog 232:=⟨by unfold TI; kernel_rfl,Tryz.underlying232,rfl,fun _=>rfl⟩
theorem Ta:WD.ok Tryz.prog 235:=⟨by unfold TI; kernel_rfl,Tryz.underlying235,rfl,fun _=>rfl⟩
theorem Rd:XB.ok Tryz.prog 237:=⟨by unfold TI; kernel_rfl,⟨_,Tryz.underlying237,by kernel_rfl⟩,rfl,fun _=>rfl⟩
theorem QV:Xr.ok Tryz.prog 240:=⟨by unfold TI; kernel_rfl,⟨_,Tryz.underlying240,by kernel_rfl⟩,rfl,fun _=>rfl⟩
theorem SP:XZ.ok Tryz.prog 247:=⟨by unfold TI; kernel_rfl,Tryz.underlying247,rfl,fun _=>rfl⟩
theorem QP:Wq.ok Tryz.prog 248:=⟨by unfold TI; kernel_rfl,Tryz.underlying248,rfl,fun _=>rfl⟩
theorem U9:XG.ok Tryz.prog 250:=⟨by unfold TI; kernel_rfl,Tryz.underlying250,rfl,fun _=>rfl⟩
theorem EZ:Nl.ok Tryz.prog 253:=⟨by unfold TI; kernel_rfl,⟨_,Tryz.underlying253,by kernel_rfl⟩,rfl,fun _=>rfl⟩
theorem HP:Lg.ok Tryz.prog 254:=⟨by unfold TI; kernel_rfl,Tryz.underlying254,rfl,fun _=>rfl⟩
theorem Vo:Wj.ok Tryz.prog 255:=⟨by unfold TI; kernel_rfl,Tryz.underlying255,rfl,fun _=>rfl⟩
theorem Sq:Yh.ok Tryz.prog 267:=⟨by unfold TI; kernel_rfl,Tryz.underlying267,rfl,fun _=>rfl⟩
theorem R1:Yx.ok Tryz.prog 272:=⟨by unfold TI; kernel_rfl,Tryz.underlying272,rfl,fun _=>rfl⟩
theorem RP:Yw.ok Tryz.prog 276:=⟨by unfold TI; kernel_rfl,⟨_,Tryz.underlying276,by kernel_rfl⟩,rfl,fun _=>rfl⟩
theorem Ws:Tb.ok (Ch tb) Tryz.prog:=Gl ⟨PD,aa9,abS,Pk,YF,aaT,Za,YS,YZ,aaP,YG,Zw,Zg,aaO,ZZ,YW,aaN,aax,ZW,Zp,Y4,ZS,ZN,aar,Z5,aaJ,aaj,TQ,Vf,TY,T6,U1,RK,SJ,TW,QQ,Rf,Sy,Uy,T5,ST,U5,Rv,SG,St,SD,Sh,Rl,Rt,UM,Uz,UE,Uk,R5,Ta,Rd,QV,SP,QP,U9,EZ,HP,Vo,Sq,R1,RP,trivial⟩
def adx (t:TypeId):Bool:=[40,153].any fun k=>Nat.beq t k
theorem adT:wg Tryz.prog 40:=⟨by kernel_rfl,by kernel_rfl,by kernel_rfl⟩
theorem ac2:wg Tryz.prog 153:=⟨by kernel_rfl,by kernel_rfl,by kernel_rfl⟩
theorem ace (t:TypeId) (h:adx t=true):wg Tryz.prog t:=by
 obtain ⟨k,hk,he⟩:=List.any_eq_true.1 h
 have:=Nat.eq_of_beq_eq_true he
 subst this
 simp only [List.mem_cons,List.not_mem_nil,or_false] at hk
 rcases hk with rfl | rfl <;> first | exact adT | exact ac2
theorem aw:Tryz.prog.follows .mixedOrders=true:=by kernel_rfl
def cx0:Cx:=⟨fun _=>[],Ch tb,adx,[],false,fun _=>none,0,none,[]⟩
theorem P9:cx0.ok Tryz.prog:=⟨fun _ _ h=>(by cases h),Ws,ace,fun _ h=>(by cases h),fun _ _ h=>(by cases h)⟩
open Go.Sm
set_option maxRecDepth 100000
set_option linter.unusedSectionVars false
section
variable [Itr]
def Xa:An:=.s .z (.j ⟨[],[(0, .lf (.sc (.int .u64))),(2, .lf (.sc (.int .i64)))],[],[]⟩ true .z (.j ⟨[],[(0, .lf (.sc (.int .u64))),(2, .lf (.sc (.int .i64)))],[],[]⟩ true .z (.j ⟨[],[(0, .lf (.sc (.int .u64))),(2, .lf (.sc (.int .i64)))],[],[]⟩ true .z .z)))
def Cz:Ctr:=⟨⟨[.d (.sc (.int .u64))],[(.sc (.int .i64))],1,[],[]⟩,fun x=>sq x⟩
theorem SN:Cz.sound Tryz.prog 222:=am P9 aw Tryz.func222 (by kernel_rfl) (an:=Xa) (fun x=>(by kernel_rfl:Cz.fn x=aJ cx0 Tryz.f222 Xa Cz.toSig x)) rfl
def Ng:Cx:=aC cx0 222 Cz
theorem HH:Ng.ok Tryz.prog:=ak P9 SN
def Xp:An:=.z
def Dk:Ctr:=⟨⟨[.d (.sc (.int .u64))],[(.sc (.int .i64))],1,[],[]⟩,fun x=>mT x⟩
theorem RW:Dk.sound Tryz.prog 178:=am HH aw Tryz.func178 (by kernel_rfl) (an:=Xp) (fun x=>(by kernel_rfl:Dk.fn x=aJ Ng Tryz.f178 Xp Dk.toSig x)) rfl
def Lb:Cx:=aC Ng 178 Dk
theorem Fk:Lb.ok Tryz.prog:=ak HH RW
def W0:An:=.z
def Di:Ctr:=⟨⟨[.d ae, .d ae],[(.sc (.int .i64))],1,[],[]⟩,fun x=>dm x.1 x.2⟩
theorem R7:Di.sound Tryz.prog 124:=am Fk aw Tryz.func124 (by kernel_rfl) (an:=W0) (fun x=>(by kernel_rfl:Di.fn x=aJ Lb Tryz.f124 W0 Di.toSig x)) rfl
def MC:Cx:=aC Lb 124 Di
theorem Fv:MC.ok Tryz.prog:=ak Fk R7
def Wy:An:=.s .z (.u (.l ⟨[0,1,2,3],[(8, .lf (.sc (.int .i64)))],[(0,[.ownk ae 153 0])],[]⟩ (.s .z (.j ⟨[0,1,2,3,8],[],[(0,[.ownk ae 153 0])],[]⟩ true (.u (.s .z (.u (.l ⟨[0,1,2,3,8],[(9, .lf (.sc (.int .i64)))],[(0,[.ownk ae 153 0])],[]⟩ .z)))) .z))))
def Ek:Ctr:=⟨⟨[.prt ae 153, .d (.sc (.int .i64)), .d (.sc (.int .i64)), .fn 124],[(.slice ae)],0,[9856],[⟨some 4194304,false,false⟩]⟩,fun x=>cD x.1 x.2.1 x.2.2.1⟩
theorem SL:Ek.sound Tryz.prog 213:=am Fv aw Tryz.func213 (by kernel_rfl) (an:=Wy) (fun x=>(by kernel_rfl:Ek.fn x=aJ MC Tryz.f213 Wy Ek.toSig x)) rfl
def Og:Cx:=aC MC 213 Ek
theorem Fz:Og.ok Tryz.prog:=ak Fv SL
def XU:An:=.s .z (.s .z (.u (.l ⟨[0,4],[(1, .lf (.sc (.int .i64))),(2, .lf (.sc (.int .i64))),(3, .lf (.sc (.int .i64))),(10, .lf (.sc .bool)),(11, .lf (.sc .bool))],[],[]⟩ (.u (.s .z (.s .z (.s .z (.j ⟨[0,1,2,4,10,11,12],[(3, .lf (.sc (.int .i64)))],[],[]⟩ true .z .z))))))))
def D9:Ctr:=⟨⟨[.prt ae 153, .d (.sc (.int .i64)), .d (.sc (.int .i64)), .d (.sc (.int .i64)), .fn 124],[(.slice ae)],0,[9856],[⟨some 4194304,false,false⟩]⟩,fun x=>di x.1 x.2.1 x.2.2.1 x.2.2.2.1⟩
theorem Tc:D9.sound Tryz.prog 177:=am Fz aw Tryz.func177 (by kernel_rfl) (an:=XU) (fun x=>(by kernel_rfl:D9.fn x=aJ Og Tryz.f177 XU D9.toSig x)) rfl
def Ml:Cx:=aC Og 177 D9
theorem Hn:Ml.ok Tryz.prog:=ak Fz Tc
def Wp:An:=.z
def CU:Ctr:=⟨⟨[.prt ae 153, .fn 124],[(.slice ae)],0,[9856],[⟨some 4194304,false,false⟩]⟩,fun x=>bP x.1⟩
theorem HJ:CU.sound Tryz.prog 123:=am Hn aw Tryz.func123 (by kernel_rfl) (an:=Wp) (fun x=>(by kernel_rfl:CU.fn x=aJ Ml Tryz.f123 Wp CU.toSig x)) rfl
def OI:Cx:=aC Ml 123 CU
theorem Fs:OI.ok Tryz.prog:=ak Hn HJ
end
end Go.Proofs.YtfhhiajfciblbaaGreatDoor
