/- Laws for the row. No condition. -/
import Derived.Test.YtgghcmbaidihjaaGreatDoorFn
import Derived.Test.YtgghcmbaidihjaaGreatDoorRows
namespace Go.Proofs.YtgghcmbaidihjaaGreatDoor
open Go.Sm
def c12:List Sp:=[.rep aZ true [1000011],.rep (.sc pi) true [1000011],.rep (.sc pi) true [1000011],.rep aw true [1000011],.rep aw true [1000011],.rep (.sc .str) true [1000011],.rep (.sc .str) true [1000011],.rep (.sc .str) true [1000011],.sc pi,.sc pi,.sc pi,.own aR 1870727804774333205280220053793449448177874923159704 false [],.own (.sc pi) 3 false [],.own (.slice (.sc pi)) 360315457980334103 false [],.own (.sc pi) 3 false [],.own (.sc pi) 3 false [],.sc pi,.sc pi,.sc pi,.sc pi,.sc pi,.sc pi,.sc pi,.sc pi,.sc .str,.mp af (.sc .bool)]
def c13:List Sp:=[.rep aZ true [1000012],.rep (.sc pi) true [1000012],.rep (.sc pi) true [1000012],.rep aw true [1000012],.rep aw true [1000012],.rep (.sc .str) true [1000012],.rep (.sc .str) true [1000012],.rep (.sc .str) true [1000012],.sc pi,.sc pi,.sc pi,.own aR 1870727804774333205280220053793449448177874923159704 false [],.own (.sc pi) 3 false [],.rep (.slice (.sc pi)) true [1000012],.own (.sc pi) 3 false [],.own (.sc pi) 3 false [],.sc pi,.sc pi,.sc pi,.sc pi,.sc pi,.sc pi,.sc pi,.sc pi,.sc .str,.mp af (.sc .bool)]
def c14:List Sp:=[.rep aZ true [1000000],.rep (.sc pi) true [1000000],.rep (.sc pi) true [1000000],.rep aw true [1000000],.rep aw true [1000000],.rep (.sc .str) true [1000000],.rep (.sc .str) true [1000000],.rep (.sc .str) true [1000000],.sc pi,.sc pi,.sc pi,.ownk aR 1870727804774333205280220053793449448177874923159704 9,.own (.sc pi) 3 false [],.rep (.slice (.sc pi)) true [1000000],.own (.sc pi) 3 false [],.own (.sc pi) 3 false [],.sc pi,.sc pi,.sc pi,.sc pi,.sc pi,.sc pi,.sc pi,.sc pi,.sc .str,.mp af (.sc .bool)]
def c15:List Sp:=[.rep aZ true [],.rep (.sc pi) true [],.rep (.sc pi) true [],.rep aw true [],.rep aw true [],.rep (.sc .str) true [],.rep (.sc .str) true [],.rep (.sc .str) true [],.sc pi,.sc pi,.sc pi,.own aR 1870727804774333205280220053793449448177874923159704 false [],.own (.sc pi) 3 false [],.own (.slice (.sc pi)) 360315457980334103 false [],.own (.sc pi) 3 false [],.own (.sc pi) 3 false [],.sc pi,.sc pi,.sc pi,.sc pi,.sc pi,.sc pi,.sc pi,.sc pi,.sc .str,.mp af (.sc .bool)]
def c16:List Sp:=[.rep aZ true [],.rep (.sc pi) true [],.rep (.sc pi) true [],.rep aw true [],.rep aw true [],.rep (.sc .str) true [],.rep (.sc .str) true [],.rep (.sc .str) true [],.sc pi,.sc pi,.sc pi,.ownk aR 1870727804774333205280220053793449448177874923159704 9,.own (.sc pi) 3 false [],.rep (.slice (.sc pi)) true [],.own (.sc pi) 3 false [],.own (.sc pi) 3 false [],.sc pi,.sc pi,.sc pi,.sc pi,.sc pi,.sc pi,.sc pi,.sc pi,.sc .str,.mp af (.sc .bool)]
def c17:List Sp:=[.own aR 1870727804774333205280220053793449448177874923159704 false [],.own (.sc pi) 3 false [],.pt (.slice (.sc pi)) 360315457980334103 true [1000001],.own (.sc pi) 3 false [],.own (.sc pi) 3 false [],.sc pi,.sc pi,.sc pi,.sc pi,.sc pi,.sc pi,.sc pi,.sc pi,.sc .str]
def c18:List Sp:=[.pt aR 1870727804774333205280220053793449448177874923159704 true [],.rep (.sc pi) true [],.rep (.slice (.sc pi)) true [],.rep (.sc pi) true [],.rep (.sc pi) true [],.sc pi,.sc pi,.sc pi,.sc pi,.sc pi,.sc pi,.sc pi,.sc pi,.sc .str]
def c19:List Sp:=[.own aZ 328 false [],.own (.sc pi) 3 false [],.own (.sc pi) 3 false [],.rep aw false [1000011],.rep aw false [1000011],.rep (.sc .str) false [1000011],.rep (.sc .str) false [1000011],.rep (.sc .str) false [1000011],.own (.sc .str) 9 false [],.sc pi]
def c20:List Sp:=[.own aZ 328 false [],.own (.sc pi) 3 false [],.own (.sc pi) 3 false [],.rep aw true [1000000],.rep aw true [1000000],.rep (.sc .str) true [1000000],.rep (.sc .str) true [1000000],.rep (.sc .str) true [1000000],.own (.sc .str) 9 false [],.sc pi]
def c21:List Sp:=[.own aZ 328 false [],.own (.sc pi) 3 false [],.own (.sc pi) 3 false [],.rep aw false [],.rep aw false [],.rep (.sc .str) false [],.rep (.sc .str) false [],.rep (.sc .str) false [],.own (.sc .str) 9 false [],.sc pi]
def c22:List Sp:=[.own aZ 328 false [],.own (.sc pi) 3 false [],.own (.sc pi) 3 false [],.rep aw true [],.rep aw true [],.rep (.sc .str) true [],.rep (.sc .str) true [],.rep (.sc .str) true [],.own (.sc .str) 9 false [],.sc pi]
def c23:List Sp:=[.own aZ 328 false [],.own (.sc pi) 3 false [],.own (.sc pi) 3 false [],.own aw 217 false [],.own aw 217 false [],.own (.sc .str) 9 false [],.own (.sc .str) 9 false [],.own (.sc .str) 9 false []]
def c24:List PC:=[.box true cH [none,none,none,none,none,none,none,none,some 1870727804774333205280220053793449448177874923159704,some 3,some 360315457980334103,some 3,some 3,some 0],.d (.sc pi),.d (.sc pi)]
def c25:List Sp:=[.pt bV 1547425049178947864405999764 true [14],.own (.sc pi) 3 false [],.sc pi,.sc .bool]
def c26:List PC:=[.box true ba [some 328,some 3,some 3,none,none,none,none,none,some 9],.d bu]
def c27:List Sp:=[.sc pi,.sc .str,.sc pi,.rep .node false [1000003]]
def c28:List Sp:=[.sc .str,.own bd 387 false [],.sc pi,.sc .bool,.sc .bool]
def c29:List Sp:=[.sc pi,.sc pi,.own (.sc pi) 3 false []]
def c30:List Sp:=[.sc pi,.sc .str,.sc pi,.own .node 293 false []]
def c31:List Sp:=[.own (.arr 16 (.int .u8)) 32 false []]
def c32:List PC:=[.box true aE [some 387],.d (.sc .str)]
def c33:List Sp:=[.own (.sc (.int .u8)) 5 false []]
def c34:List PC:=[.box true aE [some 387]]
set_option maxRecDepth 100000
set_option linter.unusedSectionVars false
variable [Yc:GCx]
instance:GTab:=⟨[⟨0,(.sc (.int .u32)),rC⟩,⟨2,mc,su⟩,⟨4,.sc (.int .u64),Lib.pow10Tab⟩]⟩
def ti3:TInf:=⟨.int .i64,1,8,[.c pi (0:Int)],(.sc pi)⟩
def ti4:TInf:=⟨.bool,1,1,[.c .bool false],(.sc .bool)⟩
def ti5:TInf:=⟨.int .u8,1,1,[.c (.int .u8) (0:Int)],(.sc (.int .u8))⟩
def ti9:TInf:=⟨.str,1,16,[.c .str ([]:List UInt8)],(.sc .str)⟩
def anC:TInf:=⟨.slice 328,1,24,[.nl],(.slice aZ)⟩
def amz:TInf:=⟨.slice 3,1,24,[.nl],(.slice (.sc pi))⟩
def apf:TInf:=⟨.slice 217,1,24,[.nl],(.slice aw)⟩
def anY:TInf:=⟨.slice 9,1,24,[.nl],(.slice (.sc .str))⟩
def anP:TInf:=⟨.st [(22,0),(23,1),(23,2),(24,3),(24,4),(25,5),(25,6),(25,7)],8,192,[.nl,.nl,.nl,.nl,.nl,.nl,.nl,.nl],co⟩
def aoA:TInf:=⟨.st [(22,0),(23,1),(23,2),(24,3),(24,4),(25,5),(25,6),(25,7)],8,192,[.nl,.nl,.nl,.nl,.nl,.nl,.nl,.nl],fQ⟩
def amE:TInf:=⟨.arr 16 5,16,16,[.ar 16 (.int .u8) ([]:List Int)],(.arr 16 (.int .u8))⟩
def al5:TInf:=⟨.st [(3,0),(3,1),(3,2)],3,24,[.c pi (0:Int),.c pi (0:Int),.c pi (0:Int)],ga⟩
def anG:TInf:=⟨.st [(32,0),(9,16),(34,17),(3,20)],21,64,[.ar 16 (.int .u8) ([]:List Int),.c .str ([]:List UInt8),.c pi (0:Int),.c pi (0:Int),.c pi (0:Int),.c pi (0:Int)],pv⟩
def aoG:TInf:=⟨.slice 32,1,24,[.nl],(.slice (.arr 16 (.int .u8)))⟩
def aoS:TInf:=⟨.st [(38,0)],1,24,[.nl],bE⟩
def amg:TInf:=⟨.slice 57,1,24,[.nl],(.slice bj)⟩
def apw:TInf:=⟨.int .i64,1,8,[.c pi (0:Int)],(.sc pi)⟩
def an1:TInf:=⟨.st [(38,0)],1,24,[.nl],cp⟩
def ame:TInf:=⟨.slice 152,1,24,[.nl],(.slice aR)⟩
def aor:TInf:=⟨.slice 23,1,24,[.nl],(.slice (.slice (.sc pi)))⟩
def aog:TInf:=⟨.st [(3,0),(3,1),(3,2)],3,24,[.c pi (0:Int),.c pi (0:Int),.c pi (0:Int)],xW⟩
def amO:TInf:=⟨.st [(52,0),(23,1),(53,2),(23,3),(23,4),(3,5),(3,6),(55,7),(3,10),(3,11),(3,12),(9,13)],14,200,[.nl,.nl,.nl,.nl,.nl,.c pi (0:Int),.c pi (0:Int),.c pi (0:Int),.c pi (0:Int),.c pi (0:Int),.c pi (0:Int),.c pi (0:Int),.c pi (0:Int),.c .str ([]:List UInt8)],bj⟩
def al7:TInf:=⟨.other,1,8,[.v (.nilFunc)],(.sc .fnc)⟩
def aoj:TInf:=⟨.arr 2 4,2,2,[.ar 2 .bool ([]:List Bool)],(.arr 2 .bool)⟩
def aoY:TInf:=⟨.st [(3,0),(9,1),(3,2),(55,3),(32,6)],22,72,[.c pi (0:Int),.c .str ([]:List UInt8),.c pi (0:Int),.c pi (0:Int),.c pi (0:Int),.c pi (0:Int),.ar 16 (.int .u8) ([]:List Int)],uI⟩
def al6:TInf:=⟨.other,1,8,[.v (.nilFunc)],(.sc .fnc)⟩
def amy:TInf:=⟨.slice 163,1,24,[.nl],(.slice cT)⟩
def aiL:TInf:=⟨.slice 297,1,24,[.nl],(.slice bW)⟩
def ai0:TInf:=⟨.slice 5,1,24,[.nl],(.slice (.sc (.int .u8)))⟩
def age:TInf:=⟨.st [(32,0)],16,16,[.ar 16 (.int .u8) ([]:List Int)],Dq⟩
def ahV:TInf:=⟨.other,1,16,[.v (.nilIface)],(.ext 0)⟩
def ai8:TInf:=⟨.st [(3,0),(3,1),(23,2)],3,40,[.c pi (0:Int),.c pi (0:Int),.nl],nY⟩
def ahs:TInf:=⟨.slice 361,1,24,[.nl],(.slice rG)⟩
def agj:TInf:=⟨.slice 238,1,24,[.nl],(.slice (.slice af))⟩
def afk:TInf:=⟨.st [(73,0),(139,22),(23,23),(140,24),(24,25)],26,168,[.c pi (0:Int),.c .str ([]:List UInt8),.c pi (0:Int),.c pi (0:Int),.c pi (0:Int),.c pi (0:Int),.ar 16 (.int .u8) ([]:List Int),.nl,.nl,.nl,.nl],yz⟩
def agw:TInf:=⟨.st [(3,0),(23,1)],2,32,[.c pi (0:Int),.nl],bV⟩
def afX:TInf:=⟨.other,1,8,[.v (.nilFunc)],(.sc .fnc)⟩
def ag4:TInf:=⟨.slice 148,1,24,[.nl],(.slice bV)⟩
def ahJ:TInf:=⟨.st [(150,0),(23,1),(3,2),(4,3)],4,64,[.nl,.nl,.c pi (0:Int),.c .bool false],aR⟩
def ahu:TInf:=⟨.other,1,8,[.v (.nilFunc)],(.sc .fnc)⟩
def agM:TInf:=⟨.st [(9,0),(9,1)],2,32,[.c .str ([]:List UInt8),.c .str ([]:List UInt8)],cT⟩
def TL:TInf:=⟨.int .u32,1,4,[.c (.int .u32) (0:Int)],(.sc (.int .u32))⟩
def afu:TInf:=⟨.arr 8 191,8,32,[.ar 8 (.int .u32) ([]:List Int)],(.arr 8 (.int .u32))⟩
def ah0:TInf:=⟨.arr 64 5,64,64,[.ar 64 (.int .u8) ([]:List Int)],(.arr 64 (.int .u8))⟩
def Va:TInf:=⟨.int .u64,1,8,[.c (.int .u64) (0:Int)],(.sc (.int .u64))⟩
def agi:TInf:=⟨.st [(192,0),(193,8),(194,72)],73,104,[.ar 8 (.int .u32) ([]:List Int),.ar 64 (.int .u8) ([]:List Int),.c (.int .u64) (0:Int)],mq⟩
def agz:TInf:=⟨.arr 32 5,32,32,[.ar 32 (.int .u8) ([]:List Int)],(.arr 32 (.int .u8))⟩
def ahe:TInf:=⟨.st [(9,0),(3,1)],2,24,[.c .str ([]:List UInt8),.c pi (0:Int)],aw⟩
def ahM:TInf:=⟨.other,1,8,[.v (.nilFunc)],(.sc .fnc)⟩
def ago:TInf:=⟨.ptr 224,1,8,[.v (.pointer none)],.unit⟩
def ahS:TInf:=⟨.map 422 4,1,8,[.v (.map none)],(.mp af (.sc .bool))⟩
def afA:TInf:=⟨.st [(27,0),(34,8),(57,11),(222,25)],26,424,[.nl,.nl,.nl,.nl,.nl,.nl,.nl,.nl,.c pi (0:Int),.c pi (0:Int),.c pi (0:Int),.nl,.nl,.nl,.nl,.nl,.c pi (0:Int),.c pi (0:Int),.c pi (0:Int),.c pi (0:Int),.c pi (0:Int),.c pi (0:Int),.c pi (0:Int),.c pi (0:Int),.c .str ([]:List UInt8),.v (.map none)],cH⟩
def ah5:TInf:=⟨.st [],0,0,[],.unit⟩
def ahx:TInf:=⟨.st [(3,0),(3,1),(3,2),(23,3)],4,48,[.c pi (0:Int),.c pi (0:Int),.c pi (0:Int),.nl],kn⟩
def aig:TInf:=⟨.slice 422,1,24,[.nl],(.slice af)⟩
def agO:TInf:=⟨.other,1,8,[.v (.nilFunc)],(.sc .fnc)⟩
def ai5:TInf:=⟨.other,1,8,[.v (.nilFunc)],(.sc .fnc)⟩
def aik:TInf:=⟨.st [(260,0),(261,1)],2,16,[.v (.nilFunc),.v (.nilFunc)],FQ⟩
def aiX:TInf:=⟨.other,1,8,[.v (.nilFunc)],(.sc .fnc)⟩
def ah7:TInf:=⟨.slice 293,1,24,[.nl],(.slice .node)⟩
def ahY:TInf:=⟨.st [(3,0),(9,1),(3,2),(291,3)],4,56,[.c pi (0:Int),.c .str ([]:List UInt8),.c pi (0:Int),.nl],.node⟩
def af2:TInf:=⟨.st [(9,0),(9,1)],2,32,[.c .str ([]:List UInt8),.c .str ([]:List UInt8)],bW⟩
def ahL:TInf:=⟨.ptr 301,1,8,[.v (.pointer none)],.unit⟩
def af6:TInf:=⟨.st [(28,0),(25,8),(3,9)],10,224,[.nl,.nl,.nl,.nl,.nl,.nl,.nl,.nl,.nl,.c pi (0:Int)],ba⟩
def aft:TInf:=⟨.slice 320,1,24,[.nl],(.slice kI)⟩
def aiz:TInf:=⟨.st [(3,0),(3,1),(3,2)],3,24,[.c pi (0:Int),.c pi (0:Int),.c pi (0:Int)],kI⟩
def agk:TInf:=⟨.ptr 152,1,8,[.v (.pointer none)],.unit⟩
def afz:TInf:=⟨.st [(3,0),(3,1),(3,2)],3,24,[.c pi (0:Int),.c pi (0:Int),.c pi (0:Int)],aZ⟩
def aix:TInf:=⟨.int .u64,1,8,[.c (.int .u64) (0:Int)],(.sc (.int .u64))⟩
def ah2:TInf:=⟨.st [(235,0),(3,4)],5,56,[.c pi (0:Int),.c pi (0:Int),.c pi (0:Int),.nl,.c pi (0:Int)],rG⟩
def aff:TInf:=⟨.other,1,8,[.v (.nilFunc)],(.sc .fnc)⟩
def afw:TInf:=⟨.other,1,8,[.v (.nilFunc)],(.sc .fnc)⟩
def agC:TInf:=⟨.slice 387,1,24,[.nl],(.slice bd)⟩
def afr:TInf:=⟨.ptr 384,1,8,[.v (.pointer none)],.unit⟩
def agN:TInf:=⟨.st [(9,0),(379,1),(3,2),(4,3),(4,4)],5,56,[.c .str ([]:List UInt8),.nl,.c pi (0:Int),.c .bool false,.c .bool false],aE⟩
def ahR:TInf:=⟨.st [(3,0),(3,1)],2,16,[.c pi (0:Int),.c pi (0:Int)],bd⟩
def ag3:TInf:=⟨.arr 3 9,3,48,[.ar 3 .str ([]:List (List UInt8))],(.arr 3 .str)⟩
def agK:TInf:=⟨.slice 393,1,24,[.nl],(.slice (.arr 3 .str))⟩
def UT:TInf:=⟨.arr 64 191,64,256,[.ar 64 (.int .u32) ([]:List Int)],(.arr 64 (.int .u32))⟩
def ag7:TInf:=⟨.arr 4 191,4,16,[.ar 4 (.int .u32) ([]:List Int)],(.arr 4 (.int .u32))⟩
def aiK:TInf:=⟨.slice 25,1,24,[.nl],(.slice (.slice (.sc .str)))⟩
def U6:TInf:=⟨.st [(9,0),(3,1)],2,24,[.c .str ([]:List UInt8),.c pi (0:Int)],mc⟩
def TT:TInf:=⟨.arr 29 411,58,696,[.c .str ([]:List UInt8),.c pi (0:Int),.c .str ([]:List UInt8),.c pi (0:Int),.c .str ([]:List UInt8),.c pi (0:Int),.c .str ([]:List UInt8),.c pi (0:Int),.c .str ([]:List UInt8),.c pi (0:Int),.c .str ([]:List UInt8),.c pi (0:Int),.c .str ([]:List UInt8),.c pi (0:Int),.c .str ([]:List UInt8),.c pi (0:Int),.c .str ([]:List UInt8),.c pi (0:Int),.c .str ([]:List UInt8),.c pi (0:Int),.c .str ([]:List UInt8),.c pi (0:Int),.c .str ([]:List UInt8),.c pi (0:Int),.c .str ([]:List UInt8),.c pi (0:Int),.c .str ([]:List UInt8),.c pi (0:Int),.c .str ([]:List UInt8),.c pi (0:Int),.c .str ([]:List UInt8),.c pi (0:Int),.c .str ([]:List UInt8),.c pi (0:Int),.c .str ([]:List UInt8),.c pi (0:Int),.c .str ([]:List UInt8),.c pi (0:Int),.c .str ([]:List UInt8),.c pi (0:Int),.c .str ([]:List UInt8),.c pi (0:Int),.c .str ([]:List UInt8),.c pi (0:Int),.c .str ([]:List UInt8),.c pi (0:Int),.c .str ([]:List UInt8),.c pi (0:Int),.c .str ([]:List UInt8),.c pi (0:Int),.c .str ([]:List UInt8),.c pi (0:Int),.c .str ([]:List UInt8),.c pi (0:Int),.c .str ([]:List UInt8),.c pi (0:Int),.c .str ([]:List UInt8),.c pi (0:Int)],.unit⟩
def afm:TInf:=⟨.ptr 148,1,8,[.v (.pointer none)],.unit⟩
def agP:TInf:=⟨.map 3 64,1,8,[.v (.map none)],(.mp (.sc pi) (.sc .fnc))⟩
def agF:TInf:=⟨.st [(3,0),(3,1),(4,2)],3,24,[.c pi (0:Int),.c pi (0:Int),.c .bool false],af⟩
def aif:TInf:=⟨.other,1,8,[.v (.nilFunc)],(.sc .fnc)⟩
def afW:TInf:=⟨.other,1,8,[.v (.nilFunc)],(.sc .fnc)⟩
def agv:TInf:=⟨.slice 441,1,24,[.nl],(.slice fk)⟩
def ag9:TInf:=⟨.st [(3,0),(3,1),(9,2),(9,3)],4,48,[.c pi (0:Int),.c pi (0:Int),.c .str ([]:List UInt8),.c .str ([]:List UInt8)],fk⟩
def tb:List (TypeId×TInf):=[(3,ti3),(4,ti4),(5,ti5),(9,ti9),(22,anC),(23,amz),(24,apf),(25,anY),(27,anP),(28,aoA),(32,amE),(34,al5),(36,anG),(38,aoG),(40,aoS),(41,amg),(42,apw),(45,an1),(52,ame),(53,aor),(55,aog),(57,amO),(64,al7),(65,aoj),(73,aoY),(88,al6),(93,amy),(103,aiL),(110,ai0),(118,age),(121,ahV),(132,ai8),(139,ahs),(140,agj),(142,afk),(148,agw),(149,afX),(150,ag4),(152,ahJ),(154,ahu),(163,agM),(191,TL),(192,afu),(193,ah0),(194,Va),(196,agi),(200,agz),(217,ahe),(218,ahM),(220,ago),(222,ahS),(224,afA),(232,ah5),(235,ahx),(238,aig),(260,agO),(261,ai5),(263,aik),(265,aiX),(291,ah7),(293,ahY),(297,af2),(299,ahL),(301,af6),(317,aft),(320,aiz),(323,agk),(328,afz),(340,aix),(361,ah2),(365,aff),(366,afw),(379,agC),(382,afr),(384,agN),(387,ahR),(393,ag3),(394,agK),(400,UT),(402,ag7),(408,aiK),(411,U6),(412,TT),(417,afm),(420,agP),(422,agF),(425,aif),(433,afW),(437,agv),(441,ag9)]
theorem XX:ti3.ok Tryz.prog 3:=⟨by unfold TI;kernel_rfl,Tryz.underlying3,rfl,λ_=>rfl⟩
theorem an7:ti4.ok Tryz.prog 4:=⟨by unfold TI;kernel_rfl,Tryz.underlying4,rfl,λ_=>rfl⟩
theorem amq:ti5.ok Tryz.prog 5:=⟨by unfold TI;kernel_rfl,Tryz.underlying5,rfl,λ_=>rfl⟩
theorem Yl:ti9.ok Tryz.prog 9:=⟨by unfold TI;kernel_rfl,Tryz.underlying9,rfl,λ_=>rfl⟩
theorem ajZ:anC.ok Tryz.prog 22:=⟨by unfold TI;kernel_rfl,Tryz.underlying22,rfl,λ_=>rfl⟩
theorem akS:amz.ok Tryz.prog 23:=⟨by unfold TI;kernel_rfl,Tryz.underlying23,rfl,λ_=>rfl⟩
theorem ajB:apf.ok Tryz.prog 24:=⟨by unfold TI;kernel_rfl,Tryz.underlying24,rfl,λ_=>rfl⟩
theorem ak5:anY.ok Tryz.prog 25:=⟨by unfold TI;kernel_rfl,Tryz.underlying25,rfl,λ_=>rfl⟩
theorem alT:anP.ok Tryz.prog 27:=⟨by unfold TI;kernel_rfl,⟨_,Tryz.underlying27,by kernel_rfl⟩,rfl,λ_=>rfl⟩
theorem akl:aoA.ok Tryz.prog 28:=⟨by unfold TI;kernel_rfl,⟨_,Tryz.underlying28,by kernel_rfl⟩,rfl,λ_=>rfl⟩
theorem ak2:amE.ok Tryz.prog 32:=⟨by unfold TI;kernel_rfl,Tryz.underlying32,rfl,λ_=>rfl⟩
theorem ajC:al5.ok Tryz.prog 34:=⟨by unfold TI;kernel_rfl,⟨_,Tryz.underlying34,by kernel_rfl⟩,rfl,λ_=>rfl⟩
theorem alv:anG.ok Tryz.prog 36:=⟨by unfold TI;kernel_rfl,⟨_,Tryz.underlying36,by kernel_rfl⟩,rfl,λ_=>rfl⟩
theorem alU:aoG.ok Tryz.prog 38:=⟨by unfold TI;kernel_rfl,Tryz.underlying38,rfl,λ_=>rfl⟩
theorem alS:aoS.ok Tryz.prog 40:=⟨by unfold TI;kernel_rfl,⟨_,Tryz.underlying40,by kernel_rfl⟩,rfl,λ_=>rfl⟩
theorem ajv:amg.ok Tryz.prog 41:=⟨by unfold TI;kernel_rfl,Tryz.underlying41,rfl,λ_=>rfl⟩
theorem alp:apw.ok Tryz.prog 42:=⟨by unfold TI;kernel_rfl,Tryz.underlying42,rfl,λ_=>rfl⟩
theorem al2:an1.ok Tryz.prog 45:=⟨by unfold TI;kernel_rfl,⟨_,Tryz.underlying45,by kernel_rfl⟩,rfl,λ_=>rfl⟩
theorem ald:ame.ok Tryz.prog 52:=⟨by unfold TI;kernel_rfl,Tryz.underlying52,rfl,λ_=>rfl⟩
theorem akP:aor.ok Tryz.prog 53:=⟨by unfold TI;kernel_rfl,Tryz.underlying53,rfl,λ_=>rfl⟩
theorem als:aog.ok Tryz.prog 55:=⟨by unfold TI;kernel_rfl,⟨_,Tryz.underlying55,by kernel_rfl⟩,rfl,λ_=>rfl⟩
theorem alR:amO.ok Tryz.prog 57:=⟨by unfold TI;kernel_rfl,⟨_,Tryz.underlying57,by kernel_rfl⟩,rfl,λ_=>rfl⟩
theorem ajR:al7.ok Tryz.prog 64:=⟨by unfold TI;kernel_rfl,⟨_,Tryz.underlying64,rfl⟩,rfl,λ_=>rfl⟩
theorem ak1:aoj.ok Tryz.prog 65:=⟨by unfold TI;kernel_rfl,Tryz.underlying65,rfl,λ_=>rfl⟩
theorem ala:aoY.ok Tryz.prog 73:=⟨by unfold TI;kernel_rfl,⟨_,Tryz.underlying73,by kernel_rfl⟩,rfl,λ_=>rfl⟩
theorem ajm:al6.ok Tryz.prog 88:=⟨by unfold TI;kernel_rfl,⟨_,Tryz.underlying88,rfl⟩,rfl,λ_=>rfl⟩
theorem alb:amy.ok Tryz.prog 93:=⟨by unfold TI;kernel_rfl,Tryz.underlying93,rfl,λ_=>rfl⟩
theorem ael:aiL.ok Tryz.prog 103:=⟨by unfold TI;kernel_rfl,Tryz.underlying103,rfl,λ_=>rfl⟩
theorem YZ:ai0.ok Tryz.prog 110:=⟨by unfold TI;kernel_rfl,Tryz.underlying110,rfl,λ_=>rfl⟩
theorem aaD:age.ok Tryz.prog 118:=⟨by unfold TI;kernel_rfl,⟨_,Tryz.underlying118,by kernel_rfl⟩,rfl,λ_=>rfl⟩
theorem abr:ahV.ok Tryz.prog 121:=⟨by unfold TI;kernel_rfl,⟨_,Tryz.underlying121,rfl⟩,rfl,λ_=>rfl⟩
theorem Zq:ai8.ok Tryz.prog 132:=⟨by unfold TI;kernel_rfl,⟨_,Tryz.underlying132,by kernel_rfl⟩,rfl,λ_=>rfl⟩
theorem aaK:ahs.ok Tryz.prog 139:=⟨by unfold TI;kernel_rfl,Tryz.underlying139,rfl,λ_=>rfl⟩
theorem aeg:agj.ok Tryz.prog 140:=⟨by unfold TI;kernel_rfl,Tryz.underlying140,rfl,λ_=>rfl⟩
theorem ZT:afk.ok Tryz.prog 142:=⟨by unfold TI;kernel_rfl,⟨_,Tryz.underlying142,by kernel_rfl⟩,rfl,λ_=>rfl⟩
theorem abh:agw.ok Tryz.prog 148:=⟨by unfold TI;kernel_rfl,⟨_,Tryz.underlying148,by kernel_rfl⟩,rfl,λ_=>rfl⟩
theorem abt:afX.ok Tryz.prog 149:=⟨by unfold TI;kernel_rfl,⟨_,Tryz.underlying149,rfl⟩,rfl,λ_=>rfl⟩
theorem aaQ:ag4.ok Tryz.prog 150:=⟨by unfold TI;kernel_rfl,Tryz.underlying150,rfl,λ_=>rfl⟩
theorem adk:ahJ.ok Tryz.prog 152:=⟨by unfold TI;kernel_rfl,⟨_,Tryz.underlying152,by kernel_rfl⟩,rfl,λ_=>rfl⟩
theorem aaF:ahu.ok Tryz.prog 154:=⟨by unfold TI;kernel_rfl,⟨_,Tryz.underlying154,rfl⟩,rfl,λ_=>rfl⟩
theorem acl:agM.ok Tryz.prog 163:=⟨by unfold TI;kernel_rfl,⟨_,Tryz.underlying163,by kernel_rfl⟩,rfl,λ_=>rfl⟩
theorem LB:TL.ok Tryz.prog 191:=⟨by unfold TI;kernel_rfl,Tryz.underlying191,rfl,λ_=>rfl⟩
theorem aec:afu.ok Tryz.prog 192:=⟨by unfold TI;kernel_rfl,Tryz.underlying192,rfl,λ_=>rfl⟩
theorem acr:ah0.ok Tryz.prog 193:=⟨by unfold TI;kernel_rfl,Tryz.underlying193,rfl,λ_=>rfl⟩
theorem J4:Va.ok Tryz.prog 194:=⟨by unfold TI;kernel_rfl,Tryz.underlying194,rfl,λ_=>rfl⟩
theorem aau:agi.ok Tryz.prog 196:=⟨by unfold TI;kernel_rfl,⟨_,Tryz.underlying196,by kernel_rfl⟩,rfl,λ_=>rfl⟩
theorem aeH:agz.ok Tryz.prog 200:=⟨by unfold TI;kernel_rfl,Tryz.underlying200,rfl,λ_=>rfl⟩
theorem adZ:ahe.ok Tryz.prog 217:=⟨by unfold TI;kernel_rfl,⟨_,Tryz.underlying217,by kernel_rfl⟩,rfl,λ_=>rfl⟩
theorem abv:ahM.ok Tryz.prog 218:=⟨by unfold TI;kernel_rfl,⟨_,Tryz.underlying218,rfl⟩,rfl,λ_=>rfl⟩
theorem aba:ago.ok Tryz.prog 220:=⟨by unfold TI;kernel_rfl,Tryz.underlying220,rfl,λ_=>rfl⟩
theorem aaY:ahS.ok Tryz.prog 222:=⟨by unfold TI;kernel_rfl,Tryz.underlying222,rfl,λ_=>rfl⟩
theorem abZ:afA.ok Tryz.prog 224:=⟨by unfold TI;kernel_rfl,⟨_,Tryz.underlying224,by kernel_rfl⟩,rfl,λ_=>rfl⟩
theorem Z6:ah5.ok Tryz.prog 232:=⟨by unfold TI;kernel_rfl,⟨_,Tryz.underlying232,by kernel_rfl⟩,rfl,λ_=>rfl⟩
theorem aef:ahx.ok Tryz.prog 235:=⟨by unfold TI;kernel_rfl,⟨_,Tryz.underlying235,by kernel_rfl⟩,rfl,λ_=>rfl⟩
theorem aeG:aig.ok Tryz.prog 238:=⟨by unfold TI;kernel_rfl,Tryz.underlying238,rfl,λ_=>rfl⟩
theorem abg:agO.ok Tryz.prog 260:=⟨by unfold TI;kernel_rfl,⟨_,Tryz.underlying260,rfl⟩,rfl,λ_=>rfl⟩
theorem adf:ai5.ok Tryz.prog 261:=⟨by unfold TI;kernel_rfl,⟨_,Tryz.underlying261,rfl⟩,rfl,λ_=>rfl⟩
theorem aaW:aik.ok Tryz.prog 263:=⟨by unfold TI;kernel_rfl,⟨_,Tryz.underlying263,by kernel_rfl⟩,rfl,λ_=>rfl⟩
theorem abU:aiX.ok Tryz.prog 265:=⟨by unfold TI;kernel_rfl,⟨_,Tryz.underlying265,rfl⟩,rfl,λ_=>rfl⟩
theorem ae0:ah7.ok Tryz.prog 291:=⟨by unfold TI;kernel_rfl,Tryz.underlying291,rfl,λ_=>rfl⟩
theorem aa4:ahY.ok Tryz.prog 293:=⟨by unfold TI;kernel_rfl,⟨_,Tryz.underlying293,by kernel_rfl⟩,rfl,λ_=>rfl⟩
theorem abb:af2.ok Tryz.prog 297:=⟨by unfold TI;kernel_rfl,⟨_,Tryz.underlying297,by kernel_rfl⟩,rfl,λ_=>rfl⟩
theorem ZR:ahL.ok Tryz.prog 299:=⟨by unfold TI;kernel_rfl,Tryz.underlying299,rfl,λ_=>rfl⟩
theorem Zc:af6.ok Tryz.prog 301:=⟨by unfold TI;kernel_rfl,⟨_,Tryz.underlying301,by kernel_rfl⟩,rfl,λ_=>rfl⟩
theorem abB:aft.ok Tryz.prog 317:=⟨by unfold TI;kernel_rfl,Tryz.underlying317,rfl,λ_=>rfl⟩
theorem abF:aiz.ok Tryz.prog 320:=⟨by unfold TI;kernel_rfl,⟨_,Tryz.underlying320,by kernel_rfl⟩,rfl,λ_=>rfl⟩
theorem ada:agk.ok Tryz.prog 323:=⟨by unfold TI;kernel_rfl,Tryz.underlying323,rfl,λ_=>rfl⟩
theorem ab7:afz.ok Tryz.prog 328:=⟨by unfold TI;kernel_rfl,⟨_,Tryz.underlying328,by kernel_rfl⟩,rfl,λ_=>rfl⟩
theorem YW:aix.ok Tryz.prog 340:=⟨by unfold TI;kernel_rfl,Tryz.underlying340,rfl,λ_=>rfl⟩
theorem Zo:ah2.ok Tryz.prog 361:=⟨by unfold TI;kernel_rfl,⟨_,Tryz.underlying361,by kernel_rfl⟩,rfl,λ_=>rfl⟩
theorem aeT:aff.ok Tryz.prog 365:=⟨by unfold TI;kernel_rfl,⟨_,Tryz.underlying365,rfl⟩,rfl,λ_=>rfl⟩
theorem adn:afw.ok Tryz.prog 366:=⟨by unfold TI;kernel_rfl,⟨_,Tryz.underlying366,rfl⟩,rfl,λ_=>rfl⟩
theorem aca:agC.ok Tryz.prog 379:=⟨by unfold TI;kernel_rfl,Tryz.underlying379,rfl,λ_=>rfl⟩
theorem Z3:afr.ok Tryz.prog 382:=⟨by unfold TI;kernel_rfl,Tryz.underlying382,rfl,λ_=>rfl⟩
theorem ZL:agN.ok Tryz.prog 384:=⟨by unfold TI;kernel_rfl,⟨_,Tryz.underlying384,by kernel_rfl⟩,rfl,λ_=>rfl⟩
theorem abQ:ahR.ok Tryz.prog 387:=⟨by unfold TI;kernel_rfl,⟨_,Tryz.underlying387,by kernel_rfl⟩,rfl,λ_=>rfl⟩
theorem adz:ag3.ok Tryz.prog 393:=⟨by unfold TI;kernel_rfl,Tryz.underlying393,rfl,λ_=>rfl⟩
theorem acu:agK.ok Tryz.prog 394:=⟨by unfold TI;kernel_rfl,Tryz.underlying394,rfl,λ_=>rfl⟩
theorem KR:UT.ok Tryz.prog 400:=⟨by unfold TI;kernel_rfl,Tryz.underlying400,rfl,λ_=>rfl⟩
theorem abA:ag7.ok Tryz.prog 402:=⟨by unfold TI;kernel_rfl,Tryz.underlying402,rfl,λ_=>rfl⟩
theorem aay:aiK.ok Tryz.prog 408:=⟨by unfold TI;kernel_rfl,Tryz.underlying408,rfl,λ_=>rfl⟩
theorem Lu:U6.ok Tryz.prog 411:=⟨by unfold TI;kernel_rfl,⟨_,Tryz.underlying411,by kernel_rfl⟩,rfl,λ_=>rfl⟩
theorem LD:TT.ok Tryz.prog 412:=⟨by unfold TI;kernel_rfl,Tryz.underlying412,rfl,λ_=>rfl⟩
theorem Zt:afm.ok Tryz.prog 417:=⟨by unfold TI;kernel_rfl,Tryz.underlying417,rfl,λ_=>rfl⟩
theorem abP:agP.ok Tryz.prog 420:=⟨by unfold TI;kernel_rfl,Tryz.underlying420,rfl,λ_=>rfl⟩
theorem Zx:agF.ok Tryz.prog 422:=⟨by unfold TI;kernel_rfl,⟨_,Tryz.underlying422,by kernel_rfl⟩,rfl,λ_=>rfl⟩
theorem Za:aif.ok Tryz.prog 425:=⟨by unfold TI;kernel_rfl,⟨_,Tryz.underlying425,rfl⟩,rfl,λ_=>rfl⟩
theorem aaC:afW.ok Tryz.prog 433:=⟨by unfold TI;kernel_rfl,⟨_,Tryz.underlying433,rfl⟩,rfl,λ_=>rfl⟩
theorem Z9:agv.ok Tryz.prog 437:=⟨by unfold TI;kernel_rfl,Tryz.underlying437,rfl,λ_=>rfl⟩
theorem adD:ag9.ok Tryz.prog 441:=⟨by unfold TI;kernel_rfl,⟨_,Tryz.underlying441,by kernel_rfl⟩,rfl,λ_=>rfl⟩
theorem aib:Tb.ok (GU tb) Tryz.prog:=KV ⟨XX,an7,amq,Yl,ajZ,akS,ajB,ak5,alT,akl,ak2,ajC,alv,alU,alS,ajv,alp,al2,ald,akP,als,alR,ajR,ak1,ala,ajm,alb,ael,YZ,aaD,abr,Zq,aaK,aeg,ZT,abh,abt,aaQ,adk,aaF,acl,LB,aec,acr,J4,aau,aeH,adZ,abv,aba,aaY,abZ,Z6,aef,aeG,abg,adf,aaW,abU,ae0,aa4,abb,ZR,Zc,abB,abF,ada,ab7,YW,Zo,aeT,adn,aca,Z3,ZL,abQ,adz,acu,KR,abA,aay,Lu,LD,Zt,abP,Zx,Za,aaC,Z9,adD,trivial⟩
def am8(t:TypeId):Bool:=[32,55,422].any λk=>Nat.beq t k
theorem apD:yM Tryz.prog 32:=⟨by kernel_rfl,by kernel_rfl,by kernel_rfl⟩
theorem aqi:yM Tryz.prog 55:=⟨by kernel_rfl,by kernel_rfl,by kernel_rfl⟩
theorem aoC:yM Tryz.prog 422:=⟨by kernel_rfl,by kernel_rfl,by kernel_rfl⟩
theorem amN(t:TypeId)(h:am8 t=true):yM Tryz.prog t:=by obtain⟨k,hk,he⟩:=aeL.1 h;have:=f9 he;subst this;simp only[aaa,ai3,amw]at hk;rcases hk with rfl|rfl|rfl<;>first|exact apD|exact aqi|exact aoC
theorem i4:Tryz.prog.follows .mixedOrders=true:=by kernel_rfl
def cx0:Cx:=⟨λ_=>[],GU tb,am8,[],false,λ_=>none,0,none,[],none,λ_=>none⟩
abbrev Qq0(C:Cx):Prop:=C.ok Tryz.prog
def Qq1:Nat->An->An
 |0,a=>a
 |n+1,a=>.s .z (Qq1 n a)
theorem Qq2[Itr]{C:Cx}(hC:C.ok Tryz.prog){f:FuncId}{fn:Func}(hf:Tryz.prog.funcs[f]?=some fn)(hn:(fn.name == "runtime.NumGoroutine")=false)(an:An){ct:Ctr}(h:∀x,ct.fn x=aG C fn an ct.toSig x)(hs:(Nat.ble ct.ps.length fn.ntmps&&Nat.ble (qE ct.ps) 64)=true):ct.sound Tryz.prog f:=am hC i4 hf hn (an:=an) h hs
theorem XL:Qq0 cx0:=⟨λ_ _ h=>(by cases h),aib,amN,λ_ h=>(by cases h),λ_ _ h=>(by cases h),λ_ h=>(by cases h),λ_ _ h=>(by cases h)⟩
section
variable [Itr]  [Yc:GCx]
def aio:An:=.s .z (.j ⟨[],[(0,.lf (.sc (.int .u64))),(2,.lf (.sc pi))],[],[]⟩ true .z (.j ⟨[],[(0,.lf (.sc (.int .u64))),(2,.lf (.sc pi))],[],[]⟩ true .z (.j ⟨[],[(0,.lf (.sc (.int .u64))),(2,.lf (.sc pi))],[],[]⟩ true .z .z)))
def H2:Ctr:=⟨⟨[.d (.sc (.int .u64))],[(.sc pi)],1,[],[]⟩,λx=>qJ x⟩
def T9:Cx:=aA cx0 128 H2
theorem Lx:Qq0 T9:=ao XL (Qq2 XL Tryz.func128 (by kernel_rfl) aio (λx=>by kernel_rfl) rfl)
def ahz:An:=.z
def Il:Ctr:=⟨⟨[.d (.sc (.int .u64))],[(.sc pi)],1,[],[]⟩,λx=>oK x⟩
def VX:Cx:=aA T9 322 Il
theorem LW:Qq0 VX:=ao Lx (Qq2 Lx Tryz.func322 (by kernel_rfl) ahz (λx=>by kernel_rfl) rfl)
def agq:An:=.z
def IP:Ctr:=⟨⟨[.d af,.d af],[(.sc pi)],1,[],[]⟩,λx=>dM x.1 x.2⟩
def VY:Cx:=aA VX 266 IP
theorem M7:Qq0 VY:=ao LW (Qq2 LW Tryz.func266 (by kernel_rfl) agq (λx=>by kernel_rfl) rfl)
def afx:An:=.s .z (.u (.l ⟨[0,1,2,3],[(8,.lf (.sc pi))],[(0,[.ownk af 422 0])],[]⟩ (.s .z (.j ⟨[0,1,2,3,8],[],[(0,[.ownk af 422 0])],[]⟩ true (.u (.s .z (.u (.l ⟨[0,1,2,3,8],[(9,.lf (.sc pi))],[(0,[.ownk af 422 0])],[]⟩ .z)))) .z))))
def JT:Ctr:=⟨⟨[.prt af 422,.d (.sc pi),.d (.sc pi),.fn 266],[(.slice af)],0,[27072],[⟨some 4194304,false,false⟩]⟩,λx=>cP x.1 x.2.1 x.2.2.1⟩
def Wf:Cx:=aA VY 341 JT
theorem N8:Qq0 Wf:=ao M7 (Qq2 M7 Tryz.func341 (by kernel_rfl) afx (λx=>by kernel_rfl) rfl)
def afD:An:=.s .z (.s .z (.u (.l ⟨[0,4],[(1,.lf (.sc pi)),(2,.lf (.sc pi)),(3,.lf (.sc pi)),(10,.lf (.sc .bool)),(11,.lf (.sc .bool))],[],[]⟩ (.u (Qq1 3 (.j ⟨[0,1,2,4,10,11,12],[(3,.lf (.sc pi))],[],[]⟩ true .z .z))))))
def H0:Ctr:=⟨⟨[.prt af 422,.d (.sc pi),.d (.sc pi),.d (.sc pi),.fn 266],[(.slice af)],0,[27072],[⟨some 4194304,false,false⟩]⟩,λx=>dI x.1 x.2.1 x.2.2.1 x.2.2.2.1⟩
def Uk:Cx:=aA Wf 321 H0
theorem KW:Qq0 Uk:=ao N8 (Qq2 N8 Tryz.func321 (by kernel_rfl) afD (λx=>by kernel_rfl) rfl)
def agJ:An:=.z
def IR:Ctr:=⟨⟨[.prt af 422,.fn 266],[(.slice af)],0,[27072],[⟨some 4194304,false,false⟩]⟩,λx=>bZ x.1⟩
theorem NU:IR.sound Tryz.prog 265:=Qq2 KW Tryz.func265 (by kernel_rfl) agJ (λx=>by kernel_rfl) rfl
def S5:Cx:=aA Uk 265 IR
theorem Nw:Qq0 S5:=ao KW NU
end
end Go.Proofs.YtgghcmbaidihjaaGreatDoor
