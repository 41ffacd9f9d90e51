/- Laws for the row. No condition. -/
import Derived.Test.YtgghcmbaidihjaaGreatDoorFn
import Derived.Test.YtgghcmbaidihjaaGreatDoorRows
namespace Go.Proofs.YtgghcmbaidihjaaGreatDoor
open Go.Sm
def c12:List Sp:=[.rep bd true [1000011],.rep (.sc pi) true [1000011],.rep (.sc pi) true [1000011],.rep aC true [1000011],.rep aC true [1000011],.rep (.sc .str) true [1000011],.rep (.sc .str) true [1000011],.rep (.sc .str) true [1000011],.sc pi,.sc pi,.sc pi,.own aU 1870727804774333205280220053793449448177874923159704 false [],.own (.sc pi) 3 false [],.own (.slice (.sc pi)) 360315457980334103 false [],.own (.sc pi) 3 false [],.own (.sc pi) 3 false [],.sc pi,.sc pi,.sc pi,.sc pi,.sc pi,.sc pi,.sc pi,.sc pi,.sc .str,.mp ah (.sc .bool)]
def c13:List Sp:=[.rep bd true [1000012],.rep (.sc pi) true [1000012],.rep (.sc pi) true [1000012],.rep aC true [1000012],.rep aC true [1000012],.rep (.sc .str) true [1000012],.rep (.sc .str) true [1000012],.rep (.sc .str) true [1000012],.sc pi,.sc pi,.sc pi,.own aU 1870727804774333205280220053793449448177874923159704 false [],.own (.sc pi) 3 false [],.rep (.slice (.sc pi)) true [1000012],.own (.sc pi) 3 false [],.own (.sc pi) 3 false [],.sc pi,.sc pi,.sc pi,.sc pi,.sc pi,.sc pi,.sc pi,.sc pi,.sc .str,.mp ah (.sc .bool)]
def c14:List Sp:=[.rep bd true [1000000],.rep (.sc pi) true [1000000],.rep (.sc pi) true [1000000],.rep aC true [1000000],.rep aC true [1000000],.rep (.sc .str) true [1000000],.rep (.sc .str) true [1000000],.rep (.sc .str) true [1000000],.sc pi,.sc pi,.sc pi,.ownk aU 1870727804774333205280220053793449448177874923159704 9,.own (.sc pi) 3 false [],.rep (.slice (.sc pi)) true [1000000],.own (.sc pi) 3 false [],.own (.sc pi) 3 false [],.sc pi,.sc pi,.sc pi,.sc pi,.sc pi,.sc pi,.sc pi,.sc pi,.sc .str,.mp ah (.sc .bool)]
def c15:List Sp:=[.rep bd true [],.rep (.sc pi) true [],.rep (.sc pi) true [],.rep aC true [],.rep aC true [],.rep (.sc .str) true [],.rep (.sc .str) true [],.rep (.sc .str) true [],.sc pi,.sc pi,.sc pi,.own aU 1870727804774333205280220053793449448177874923159704 false [],.own (.sc pi) 3 false [],.own (.slice (.sc pi)) 360315457980334103 false [],.own (.sc pi) 3 false [],.own (.sc pi) 3 false [],.sc pi,.sc pi,.sc pi,.sc pi,.sc pi,.sc pi,.sc pi,.sc pi,.sc .str,.mp ah (.sc .bool)]
def c16:List Sp:=[.rep bd true [],.rep (.sc pi) true [],.rep (.sc pi) true [],.rep aC true [],.rep aC true [],.rep (.sc .str) true [],.rep (.sc .str) true [],.rep (.sc .str) true [],.sc pi,.sc pi,.sc pi,.ownk aU 1870727804774333205280220053793449448177874923159704 9,.own (.sc pi) 3 false [],.rep (.slice (.sc pi)) true [],.own (.sc pi) 3 false [],.own (.sc pi) 3 false [],.sc pi,.sc pi,.sc pi,.sc pi,.sc pi,.sc pi,.sc pi,.sc pi,.sc .str,.mp ah (.sc .bool)]
def c17:List Sp:=[.own aU 1870727804774333205280220053793449448177874923159704 false [],.own (.sc pi) 3 false [],.pt (.slice (.sc pi)) 360315457980334103 true [1000001],.own (.sc pi) 3 false [],.own (.sc pi) 3 false [],.sc pi,.sc pi,.sc pi,.sc pi,.sc pi,.sc pi,.sc pi,.sc pi,.sc .str]
def c18:List Sp:=[.pt aU 1870727804774333205280220053793449448177874923159704 true [],.rep (.sc pi) true [],.rep (.slice (.sc pi)) true [],.rep (.sc pi) true [],.rep (.sc pi) true [],.sc pi,.sc pi,.sc pi,.sc pi,.sc pi,.sc pi,.sc pi,.sc pi,.sc .str]
def c19:List Sp:=[.own bd 328 false [],.own (.sc pi) 3 false [],.own (.sc pi) 3 false [],.rep aC false [1000011],.rep aC false [1000011],.rep (.sc .str) false [1000011],.rep (.sc .str) false [1000011],.rep (.sc .str) false [1000011],.own (.sc .str) 9 false [],.sc pi]
def c20:List Sp:=[.own bd 328 false [],.own (.sc pi) 3 false [],.own (.sc pi) 3 false [],.rep aC true [1000000],.rep aC true [1000000],.rep (.sc .str) true [1000000],.rep (.sc .str) true [1000000],.rep (.sc .str) true [1000000],.own (.sc .str) 9 false [],.sc pi]
def c21:List Sp:=[.own bd 328 false [],.own (.sc pi) 3 false [],.own (.sc pi) 3 false [],.rep aC false [],.rep aC false [],.rep (.sc .str) false [],.rep (.sc .str) false [],.rep (.sc .str) false [],.own (.sc .str) 9 false [],.sc pi]
def c22:List Sp:=[.own bd 328 false [],.own (.sc pi) 3 false [],.own (.sc pi) 3 false [],.rep aC true [],.rep aC true [],.rep (.sc .str) true [],.rep (.sc .str) true [],.rep (.sc .str) true [],.own (.sc .str) 9 false [],.sc pi]
def c23:List Sp:=[.own bd 328 false [],.own (.sc pi) 3 false [],.own (.sc pi) 3 false [],.own aC 217 false [],.own aC 217 false [],.own (.sc .str) 9 false [],.own (.sc .str) 9 false [],.own (.sc .str) 9 false []]
def c24:List PC:=[.box true cR [none,none,none,none,none,none,none,none,some 1870727804774333205280220053793449448177874923159704,some 3,some 360315457980334103,some 3,some 3,some 0],.d (.sc pi),.d (.sc pi)]
def c25:List Sp:=[.pt ce 1547425049178947864405999764 true [14],.own (.sc pi) 3 false [],.sc pi,.sc .bool]
def c26:List PC:=[.box true dH [some 9,none],.d (.slice cK),.d (.sc pi),.d (.sc pi),.d (.sc pi)]
def c27:List Sp:=[.own (.sc .str) 9 false [],.rep (.arr 16 (.int .u8)) true [],.sc pi,.sc .bool]
def c28:List PC:=[.box true bg [some 328,some 3,some 3,none,none,none,none,none,some 9],.d bB]
def c29:List Sp:=[.sc pi,.sc .str,.sc pi,.rep .node false [1000003]]
def c30:List Sp:=[.sc .str,.own bi 387 false [],.sc pi,.sc .bool,.sc .bool]
def c31:List Sp:=[.sc pi,.sc pi,.own (.sc pi) 3 false []]
def c32:List Sp:=[.sc pi,.sc .str,.sc pi,.own .node 293 false []]
def c33:List Sp:=[.own (.arr 16 (.int .u8)) 32 false []]
def c34:List PC:=[.box true aH [some 387],.d (.sc .str)]
def c35:List Sp:=[.own (.sc (.int .u8)) 5 false []]
def c36:List PC:=[.box true aH [some 387]]
set_option maxRecDepth 100000
set_option linter.unusedSectionVars false
variable [Yc:GCx]
instance:GTab:=⟨[⟨0,(.sc (.int .u32)),tW⟩,⟨1,(.sc (.int .u32)),pN⟩,⟨2,na,uL⟩,⟨4,.sc (.int .u64),Lib.pow10Tab⟩]⟩
def ti3:TInf:=⟨.int .i64,1,8,[.c pi (0:Int)],(.sc pi)⟩
def ti4:TInf:=⟨.bool,1,1,[.c .bool false],(.sc .bool)⟩
def ti5:TInf:=⟨.int .u8,1,1,[.c (.int .u8) (0:Int)],(.sc (.int .u8))⟩
def ti9:TInf:=⟨.str,1,16,[.c .str ([]:List UInt8)],(.sc .str)⟩
def at2:TInf:=⟨.slice 328,1,24,[.nl],(.slice bd)⟩
def aui:TInf:=⟨.slice 3,1,24,[.nl],(.slice (.sc pi))⟩
def atO:TInf:=⟨.slice 217,1,24,[.nl],(.slice aC)⟩
def atN:TInf:=⟨.slice 9,1,24,[.nl],(.slice (.sc .str))⟩
def awa:TInf:=⟨.st [(22,0),(23,1),(23,2),(24,3),(24,4),(25,5),(25,6),(25,7)],8,192,[.nl,.nl,.nl,.nl,.nl,.nl,.nl,.nl],bT⟩
def awq:TInf:=⟨.st [(22,0),(23,1),(23,2),(24,3),(24,4),(25,5),(25,6),(25,7)],8,192,[.nl,.nl,.nl,.nl,.nl,.nl,.nl,.nl],gm⟩
def atD:TInf:=⟨.arr 16 5,16,16,[.ar 16 (.int .u8) ([]:List Int)],(.arr 16 (.int .u8))⟩
def avo:TInf:=⟨.st [(3,0),(3,1),(3,2)],3,24,[.c pi (0:Int),.c pi (0:Int),.c pi (0:Int)],gM⟩
def avS:TInf:=⟨.st [(32,0),(9,16),(34,17),(3,20)],21,64,[.ar 16 (.int .u8) ([]:List Int),.c .str ([]:List UInt8),.c pi (0:Int),.c pi (0:Int),.c pi (0:Int),.c pi (0:Int)],kr⟩
def at9:TInf:=⟨.slice 32,1,24,[.nl],(.slice (.arr 16 (.int .u8)))⟩
def atC:TInf:=⟨.st [(38,0)],1,24,[.nl],bu⟩
def auO:TInf:=⟨.slice 57,1,24,[.nl],(.slice aX)⟩
def awJ:TInf:=⟨.int .i64,1,8,[.c pi (0:Int)],(.sc pi)⟩
def auo:TInf:=⟨.st [(38,0)],1,24,[.nl],cw⟩
def auz:TInf:=⟨.slice 152,1,24,[.nl],(.slice aU)⟩
def au4:TInf:=⟨.slice 23,1,24,[.nl],(.slice (.slice (.sc pi)))⟩
def avk:TInf:=⟨.st [(3,0),(3,1),(3,2)],3,24,[.c pi (0:Int),.c pi (0:Int),.c pi (0:Int)],Au⟩
def avl:TInf:=⟨.st [(52,0),(23,1),(53,2),(23,3),(23,4),(3,5),(3,6),(55,7),(3,10),(3,11),(3,12),(9,13)],14,200,[.nl,.nl,.nl,.nl,.nl,.c pi (0:Int),.c pi (0:Int),.c pi (0:Int),.c pi (0:Int),.c pi (0:Int),.c pi (0:Int),.c pi (0:Int),.c pi (0:Int),.c .str ([]:List UInt8)],aX⟩
def auT:TInf:=⟨.other,1,8,[.v (.nilFunc)],(.sc .fnc)⟩
def awg:TInf:=⟨.arr 2 4,2,2,[.ar 2 .bool ([]:List Bool)],(.arr 2 .bool)⟩
def awx:TInf:=⟨.st [(3,0),(9,1),(3,2),(55,3),(32,6)],22,72,[.c pi (0:Int),.c .str ([]:List UInt8),.c pi (0:Int),.c pi (0:Int),.c pi (0:Int),.c pi (0:Int),.ar 16 (.int .u8) ([]:List Int)],pv⟩
def avH:TInf:=⟨.other,1,8,[.v (.nilFunc)],(.sc .fnc)⟩
def auQ:TInf:=⟨.slice 163,1,24,[.nl],(.slice bG)⟩
def ati:TInf:=⟨.st [(3,0),(3,1),(93,2),(38,3)],4,64,[.c pi (0:Int),.c pi (0:Int),.nl,.nl],eA⟩
def avc:TInf:=⟨.st [(3,0),(57,1),(23,15),(95,16),(95,20)],24,360,[.c pi (0:Int),.nl,.nl,.nl,.nl,.nl,.c pi (0:Int),.c pi (0:Int),.c pi (0:Int),.c pi (0:Int),.c pi (0:Int),.c pi (0:Int),.c pi (0:Int),.c pi (0:Int),.c .str ([]:List UInt8),.nl,.c pi (0:Int),.c pi (0:Int),.nl,.nl,.c pi (0:Int),.c pi (0:Int),.nl,.nl],jO⟩
def alI:TInf:=⟨.slice 297,1,24,[.nl],(.slice cg)⟩
def aoL:TInf:=⟨.slice 5,1,24,[.nl],(.slice (.sc (.int .u8)))⟩
def alX:TInf:=⟨.st [(32,0)],16,16,[.ar 16 (.int .u8) ([]:List Int)],GE⟩
def anj:TInf:=⟨.other,1,16,[.v (.nilIface)],(.ext 0)⟩
def anh:TInf:=⟨.st [(3,0),(3,1),(23,2)],3,40,[.c pi (0:Int),.c pi (0:Int),.nl],qg⟩
def apE:TInf:=⟨.slice 361,1,24,[.nl],(.slice ux)⟩
def al1:TInf:=⟨.slice 238,1,24,[.nl],(.slice (.slice ah))⟩
def al6:TInf:=⟨.st [(73,0),(139,22),(23,23),(140,24),(24,25)],26,168,[.c pi (0:Int),.c .str ([]:List UInt8),.c pi (0:Int),.c pi (0:Int),.c pi (0:Int),.c pi (0:Int),.ar 16 (.int .u8) ([]:List Int),.nl,.nl,.nl,.nl],Ah⟩
def ala:TInf:=⟨.st [(3,0),(23,1)],2,32,[.c pi (0:Int),.nl],ce⟩
def an0:TInf:=⟨.other,1,8,[.v (.nilFunc)],(.sc .fnc)⟩
def amD:TInf:=⟨.slice 148,1,24,[.nl],(.slice ce)⟩
def aoy:TInf:=⟨.st [(150,0),(23,1),(3,2),(4,3)],4,64,[.nl,.nl,.c pi (0:Int),.c .bool false],aU⟩
def amL:TInf:=⟨.other,1,8,[.v (.nilFunc)],(.sc .fnc)⟩
def amm:TInf:=⟨.st [(9,0),(9,1)],2,32,[.c .str ([]:List UInt8),.c .str ([]:List UInt8)],bG⟩
def aoC:TInf:=⟨.slice 173,1,24,[.nl],(.slice (.sc .fnc))⟩
def amY:TInf:=⟨.other,1,8,[.v (.nilFunc)],(.sc .fnc)⟩
def apX:TInf:=⟨.other,1,8,[.v (.nilFunc)],(.sc .fnc)⟩
def al8:TInf:=⟨.slice 175,1,24,[.nl],(.slice cK)⟩
def amT:TInf:=⟨.st [(9,0),(9,1)],2,32,[.c .str ([]:List UInt8),.c .str ([]:List UInt8)],cK⟩
def amS:TInf:=⟨.st [(3,0),(3,1),(174,2),(38,3)],4,64,[.c pi (0:Int),.c pi (0:Int),.nl,.nl],sJ⟩
def aap:TInf:=⟨.int .u32,1,4,[.c (.int .u32) (0:Int)],(.sc (.int .u32))⟩
def amZ:TInf:=⟨.arr 8 191,8,32,[.ar 8 (.int .u32) ([]:List Int)],(.arr 8 (.int .u32))⟩
def ao3:TInf:=⟨.arr 64 5,64,64,[.ar 64 (.int .u8) ([]:List Int)],(.arr 64 (.int .u8))⟩
def aab:TInf:=⟨.int .u64,1,8,[.c (.int .u64) (0:Int)],(.sc (.int .u64))⟩
def ao8:TInf:=⟨.st [(192,0),(193,8),(194,72)],73,104,[.ar 8 (.int .u32) ([]:List Int),.ar 64 (.int .u8) ([]:List Int),.c (.int .u64) (0:Int)],od⟩
def apo:TInf:=⟨.arr 32 5,32,32,[.ar 32 (.int .u8) ([]:List Int)],(.arr 32 (.int .u8))⟩
def als:TInf:=⟨.st [(9,0),(3,1)],2,24,[.c .str ([]:List UInt8),.c pi (0:Int)],aC⟩
def anw:TInf:=⟨.other,1,8,[.v (.nilFunc)],(.sc .fnc)⟩
def al7:TInf:=⟨.ptr 224,1,8,[.v (.pointer none)],.unit⟩
def amf:TInf:=⟨.map 422 4,1,8,[.v (.map none)],(.mp ah (.sc .bool))⟩
def aoM:TInf:=⟨.st [(27,0),(34,8),(57,11),(222,25)],26,424,[.nl,.nl,.nl,.nl,.nl,.nl,.nl,.nl,.c pi (0:Int),.c pi (0:Int),.c pi (0:Int),.nl,.nl,.nl,.nl,.nl,.c pi (0:Int),.c pi (0:Int),.c pi (0:Int),.c pi (0:Int),.c pi (0:Int),.c pi (0:Int),.c pi (0:Int),.c pi (0:Int),.c .str ([]:List UInt8),.v (.map none)],cR⟩
def aoN:TInf:=⟨.st [],0,0,[],.unit⟩
def aol:TInf:=⟨.st [(3,0),(3,1),(3,2),(23,3)],4,48,[.c pi (0:Int),.c pi (0:Int),.c pi (0:Int),.nl],lZ⟩
def amh:TInf:=⟨.slice 422,1,24,[.nl],(.slice ah)⟩
def aoY:TInf:=⟨.other,1,8,[.v (.nilFunc)],(.sc .fnc)⟩
def ami:TInf:=⟨.other,1,8,[.v (.nilFunc)],(.sc .fnc)⟩
def am6:TInf:=⟨.st [(260,0),(261,1)],2,16,[.v (.nilFunc),.v (.nilFunc)],H9⟩
def anQ:TInf:=⟨.other,1,8,[.v (.nilFunc)],(.sc .fnc)⟩
def aop:TInf:=⟨.arr 4 5,4,4,[.ar 4 (.int .u8) ([]:List Int)],(.arr 4 (.int .u8))⟩
def aly:TInf:=⟨.other,1,8,[.v (.nilFunc)],(.sc .fnc)⟩
def alw:TInf:=⟨.ptr 287,1,8,[.v (.pointer none)],.unit⟩
def anE:TInf:=⟨.st [(25,0),(38,1),(3,2),(4,3)],4,64,[.nl,.nl,.c pi (0:Int),.c .bool false],dH⟩
def aoJ:TInf:=⟨.slice 293,1,24,[.nl],(.slice .node)⟩
def anU:TInf:=⟨.st [(3,0),(9,1),(3,2),(291,3)],4,56,[.c pi (0:Int),.c .str ([]:List UInt8),.c pi (0:Int),.nl],.node⟩
def apW:TInf:=⟨.st [(9,0),(9,1)],2,32,[.c .str ([]:List UInt8),.c .str ([]:List UInt8)],cg⟩
def am8:TInf:=⟨.ptr 301,1,8,[.v (.pointer none)],.unit⟩
def ao2:TInf:=⟨.st [(28,0),(25,8),(3,9)],10,224,[.nl,.nl,.nl,.nl,.nl,.nl,.nl,.nl,.nl,.c pi (0:Int)],bg⟩
def amX:TInf:=⟨.slice 320,1,24,[.nl],(.slice ma)⟩
def anH:TInf:=⟨.st [(3,0),(3,1),(3,2)],3,24,[.c pi (0:Int),.c pi (0:Int),.c pi (0:Int)],ma⟩
def alF:TInf:=⟨.ptr 152,1,8,[.v (.pointer none)],.unit⟩
def anv:TInf:=⟨.st [(3,0),(3,1),(3,2)],3,24,[.c pi (0:Int),.c pi (0:Int),.c pi (0:Int)],bd⟩
def apa:TInf:=⟨.int .u64,1,8,[.c (.int .u64) (0:Int)],(.sc (.int .u64))⟩
def alO:TInf:=⟨.other,1,8,[.v (.nilFunc)],(.sc .fnc)⟩
def apz:TInf:=⟨.st [(235,0),(3,4)],5,56,[.c pi (0:Int),.c pi (0:Int),.c pi (0:Int),.nl,.c pi (0:Int)],ux⟩
def ao5:TInf:=⟨.other,1,8,[.v (.nilFunc)],(.sc .fnc)⟩
def amP:TInf:=⟨.other,1,8,[.v (.nilFunc)],(.sc .fnc)⟩
def alR:TInf:=⟨.other,1,8,[.v (.nilFunc)],(.sc .fnc)⟩
def aoA:TInf:=⟨.slice 387,1,24,[.nl],(.slice bi)⟩
def anL:TInf:=⟨.ptr 384,1,8,[.v (.pointer none)],.unit⟩
def amH:TInf:=⟨.st [(9,0),(379,1),(3,2),(4,3),(4,4)],5,56,[.c .str ([]:List UInt8),.nl,.c pi (0:Int),.c .bool false,.c .bool false],aH⟩
def apG:TInf:=⟨.st [(3,0),(3,1)],2,16,[.c pi (0:Int),.c pi (0:Int)],bi⟩
def aok:TInf:=⟨.arr 3 9,3,48,[.ar 3 .str ([]:List (List UInt8))],(.arr 3 .str)⟩
def am0:TInf:=⟨.slice 393,1,24,[.nl],(.slice (.arr 3 .str))⟩
def ZA:TInf:=⟨.arr 64 191,64,256,[.ar 64 (.int .u32) ([]:List Int)],(.arr 64 (.int .u32))⟩
def amI:TInf:=⟨.arr 4 191,4,16,[.ar 4 (.int .u32) ([]:List Int)],(.arr 4 (.int .u32))⟩
def al0:TInf:=⟨.slice 25,1,24,[.nl],(.slice (.slice (.sc .str)))⟩
def aad:TInf:=⟨.st [(9,0),(3,1)],2,24,[.c .str ([]:List UInt8),.c pi (0:Int)],na⟩
def Wn:TInf:=⟨.arr 29 411,58,696,[.c .str ([]:List UInt8),.c pi (0:Int),.c .str ([]:List UInt8),.c pi (0:Int),.c .str ([]:List UInt8),.c pi (0:Int),.c .str ([]:List UInt8),.c pi (0:Int),.c .str ([]:List UInt8),.c pi (0:Int),.c .str ([]:List UInt8),.c pi (0:Int),.c .str ([]:List UInt8),.c pi (0:Int),.c .str ([]:List UInt8),.c pi (0:Int),.c .str ([]:List UInt8),.c pi (0:Int),.c .str ([]:List UInt8),.c pi (0:Int),.c .str ([]:List UInt8),.c pi (0:Int),.c .str ([]:List UInt8),.c pi (0:Int),.c .str ([]:List UInt8),.c pi (0:Int),.c .str ([]:List UInt8),.c pi (0:Int),.c .str ([]:List UInt8),.c pi (0:Int),.c .str ([]:List UInt8),.c pi (0:Int),.c .str ([]:List UInt8),.c pi (0:Int),.c .str ([]:List UInt8),.c pi (0:Int),.c .str ([]:List UInt8),.c pi (0:Int),.c .str ([]:List UInt8),.c pi (0:Int),.c .str ([]:List UInt8),.c pi (0:Int),.c .str ([]:List UInt8),.c pi (0:Int),.c .str ([]:List UInt8),.c pi (0:Int),.c .str ([]:List UInt8),.c pi (0:Int),.c .str ([]:List UInt8),.c pi (0:Int),.c .str ([]:List UInt8),.c pi (0:Int),.c .str ([]:List UInt8),.c pi (0:Int),.c .str ([]:List UInt8),.c pi (0:Int),.c .str ([]:List UInt8),.c pi (0:Int)],.unit⟩
def aoG:TInf:=⟨.ptr 148,1,8,[.v (.pointer none)],.unit⟩
def aln:TInf:=⟨.map 3 64,1,8,[.v (.map none)],(.mp (.sc pi) (.sc .fnc))⟩
def anu:TInf:=⟨.st [(3,0),(3,1),(4,2)],3,24,[.c pi (0:Int),.c pi (0:Int),.c .bool false],ah⟩
def alq:TInf:=⟨.other,1,8,[.v (.nilFunc)],(.sc .fnc)⟩
def anl:TInf:=⟨.other,1,8,[.v (.nilFunc)],(.sc .fnc)⟩
def anz:TInf:=⟨.slice 441,1,24,[.nl],(.slice fL)⟩
def anN:TInf:=⟨.st [(3,0),(3,1),(9,2),(9,3)],4,48,[.c pi (0:Int),.c pi (0:Int),.c .str ([]:List UInt8),.c .str ([]:List UInt8)],fL⟩
def tb:List (TypeId×TInf):=[(3,ti3),(4,ti4),(5,ti5),(9,ti9),(22,at2),(23,aui),(24,atO),(25,atN),(27,awa),(28,awq),(32,atD),(34,avo),(36,avS),(38,at9),(40,atC),(41,auO),(42,awJ),(45,auo),(52,auz),(53,au4),(55,avk),(57,avl),(64,auT),(65,awg),(73,awx),(88,avH),(93,auQ),(95,ati),(97,avc),(103,alI),(110,aoL),(118,alX),(121,anj),(132,anh),(139,apE),(140,al1),(142,al6),(148,ala),(149,an0),(150,amD),(152,aoy),(154,amL),(163,amm),(170,aoC),(172,amY),(173,apX),(174,al8),(175,amT),(178,amS),(191,aap),(192,amZ),(193,ao3),(194,aab),(196,ao8),(200,apo),(217,als),(218,anw),(220,al7),(222,amf),(224,aoM),(232,aoN),(235,aol),(238,amh),(260,aoY),(261,ami),(263,am6),(265,anQ),(281,aop),(284,aly),(285,alw),(287,anE),(291,aoJ),(293,anU),(297,apW),(299,am8),(301,ao2),(317,amX),(320,anH),(323,alF),(328,anv),(340,apa),(346,alO),(361,apz),(365,ao5),(366,amP),(371,alR),(379,aoA),(382,anL),(384,amH),(387,apG),(393,aok),(394,am0),(400,ZA),(402,amI),(408,al0),(411,aad),(412,Wn),(417,aoG),(420,aln),(422,anu),(425,alq),(433,anl),(437,anz),(441,anN)]
theorem adE:ti3.ok Tryz.prog 3:=⟨by unfold TI;kernel_rfl,Tryz.underlying3,rfl,λ_=>rfl⟩
theorem avE:ti4.ok Tryz.prog 4:=⟨by unfold TI;kernel_rfl,Tryz.underlying4,rfl,λ_=>rfl⟩
theorem atH:ti5.ok Tryz.prog 5:=⟨by unfold TI;kernel_rfl,Tryz.underlying5,rfl,λ_=>rfl⟩
theorem adQ:ti9.ok Tryz.prog 9:=⟨by unfold TI;kernel_rfl,Tryz.underlying9,rfl,λ_=>rfl⟩
theorem arc:at2.ok Tryz.prog 22:=⟨by unfold TI;kernel_rfl,Tryz.underlying22,rfl,λ_=>rfl⟩
theorem aqD:aui.ok Tryz.prog 23:=⟨by unfold TI;kernel_rfl,Tryz.underlying23,rfl,λ_=>rfl⟩
theorem arp:atO.ok Tryz.prog 24:=⟨by unfold TI;kernel_rfl,Tryz.underlying24,rfl,λ_=>rfl⟩
theorem arJ:atN.ok Tryz.prog 25:=⟨by unfold TI;kernel_rfl,Tryz.underlying25,rfl,λ_=>rfl⟩
theorem arO:awa.ok Tryz.prog 27:=⟨by unfold TI;kernel_rfl,⟨_,Tryz.underlying27,by kernel_rfl⟩,rfl,λ_=>rfl⟩
theorem ap4:awq.ok Tryz.prog 28:=⟨by unfold TI;kernel_rfl,⟨_,Tryz.underlying28,by kernel_rfl⟩,rfl,λ_=>rfl⟩
theorem aqp:atD.ok Tryz.prog 32:=⟨by unfold TI;kernel_rfl,Tryz.underlying32,rfl,λ_=>rfl⟩
theorem asd:avo.ok Tryz.prog 34:=⟨by unfold TI;kernel_rfl,⟨_,Tryz.underlying34,by kernel_rfl⟩,rfl,λ_=>rfl⟩
theorem aq6:avS.ok Tryz.prog 36:=⟨by unfold TI;kernel_rfl,⟨_,Tryz.underlying36,by kernel_rfl⟩,rfl,λ_=>rfl⟩
theorem asB:at9.ok Tryz.prog 38:=⟨by unfold TI;kernel_rfl,Tryz.underlying38,rfl,λ_=>rfl⟩
theorem aq5:atC.ok Tryz.prog 40:=⟨by unfold TI;kernel_rfl,⟨_,Tryz.underlying40,by kernel_rfl⟩,rfl,λ_=>rfl⟩
theorem aqS:auO.ok Tryz.prog 41:=⟨by unfold TI;kernel_rfl,Tryz.underlying41,rfl,λ_=>rfl⟩
theorem aqw:awJ.ok Tryz.prog 42:=⟨by unfold TI;kernel_rfl,Tryz.underlying42,rfl,λ_=>rfl⟩
theorem asL:auo.ok Tryz.prog 45:=⟨by unfold TI;kernel_rfl,⟨_,Tryz.underlying45,by kernel_rfl⟩,rfl,λ_=>rfl⟩
theorem aqj:auz.ok Tryz.prog 52:=⟨by unfold TI;kernel_rfl,Tryz.underlying52,rfl,λ_=>rfl⟩
theorem asm:au4.ok Tryz.prog 53:=⟨by unfold TI;kernel_rfl,Tryz.underlying53,rfl,λ_=>rfl⟩
theorem arn:avk.ok Tryz.prog 55:=⟨by unfold TI;kernel_rfl,⟨_,Tryz.underlying55,by kernel_rfl⟩,rfl,λ_=>rfl⟩
theorem arY:avl.ok Tryz.prog 57:=⟨by unfold TI;kernel_rfl,⟨_,Tryz.underlying57,by kernel_rfl⟩,rfl,λ_=>rfl⟩
theorem asA:auT.ok Tryz.prog 64:=⟨by unfold TI;kernel_rfl,⟨_,Tryz.underlying64,rfl⟩,rfl,λ_=>rfl⟩
theorem arK:awg.ok Tryz.prog 65:=⟨by unfold TI;kernel_rfl,Tryz.underlying65,rfl,λ_=>rfl⟩
theorem asP:awx.ok Tryz.prog 73:=⟨by unfold TI;kernel_rfl,⟨_,Tryz.underlying73,by kernel_rfl⟩,rfl,λ_=>rfl⟩
theorem aqE:avH.ok Tryz.prog 88:=⟨by unfold TI;kernel_rfl,⟨_,Tryz.underlying88,rfl⟩,rfl,λ_=>rfl⟩
theorem aqQ:auQ.ok Tryz.prog 93:=⟨by unfold TI;kernel_rfl,Tryz.underlying93,rfl,λ_=>rfl⟩
theorem asY:ati.ok Tryz.prog 95:=⟨by unfold TI;kernel_rfl,⟨_,Tryz.underlying95,by kernel_rfl⟩,rfl,λ_=>rfl⟩
theorem asc:avc.ok Tryz.prog 97:=⟨by unfold TI;kernel_rfl,⟨_,Tryz.underlying97,by kernel_rfl⟩,rfl,λ_=>rfl⟩
theorem ah4:alI.ok Tryz.prog 103:=⟨by unfold TI;kernel_rfl,Tryz.underlying103,rfl,λ_=>rfl⟩
theorem agf:aoL.ok Tryz.prog 110:=⟨by unfold TI;kernel_rfl,Tryz.underlying110,rfl,λ_=>rfl⟩
theorem afM:alX.ok Tryz.prog 118:=⟨by unfold TI;kernel_rfl,⟨_,Tryz.underlying118,by kernel_rfl⟩,rfl,λ_=>rfl⟩
theorem ail:anj.ok Tryz.prog 121:=⟨by unfold TI;kernel_rfl,⟨_,Tryz.underlying121,rfl⟩,rfl,λ_=>rfl⟩
theorem aiD:anh.ok Tryz.prog 132:=⟨by unfold TI;kernel_rfl,⟨_,Tryz.underlying132,by kernel_rfl⟩,rfl,λ_=>rfl⟩
theorem aic:apE.ok Tryz.prog 139:=⟨by unfold TI;kernel_rfl,Tryz.underlying139,rfl,λ_=>rfl⟩
theorem akn:al1.ok Tryz.prog 140:=⟨by unfold TI;kernel_rfl,Tryz.underlying140,rfl,λ_=>rfl⟩
theorem af6:al6.ok Tryz.prog 142:=⟨by unfold TI;kernel_rfl,⟨_,Tryz.underlying142,by kernel_rfl⟩,rfl,λ_=>rfl⟩
theorem aiU:ala.ok Tryz.prog 148:=⟨by unfold TI;kernel_rfl,⟨_,Tryz.underlying148,by kernel_rfl⟩,rfl,λ_=>rfl⟩
theorem aj5:an0.ok Tryz.prog 149:=⟨by unfold TI;kernel_rfl,⟨_,Tryz.underlying149,rfl⟩,rfl,λ_=>rfl⟩
theorem aji:amD.ok Tryz.prog 150:=⟨by unfold TI;kernel_rfl,Tryz.underlying150,rfl,λ_=>rfl⟩
theorem aib:aoy.ok Tryz.prog 152:=⟨by unfold TI;kernel_rfl,⟨_,Tryz.underlying152,by kernel_rfl⟩,rfl,λ_=>rfl⟩
theorem akt:amL.ok Tryz.prog 154:=⟨by unfold TI;kernel_rfl,⟨_,Tryz.underlying154,rfl⟩,rfl,λ_=>rfl⟩
theorem ak1:amm.ok Tryz.prog 163:=⟨by unfold TI;kernel_rfl,⟨_,Tryz.underlying163,by kernel_rfl⟩,rfl,λ_=>rfl⟩
theorem ak2:aoC.ok Tryz.prog 170:=⟨by unfold TI;kernel_rfl,Tryz.underlying170,rfl,λ_=>rfl⟩
theorem ad8:amY.ok Tryz.prog 172:=⟨by unfold TI;kernel_rfl,⟨_,Tryz.underlying172,rfl⟩,rfl,λ_=>rfl⟩
theorem aga:apX.ok Tryz.prog 173:=⟨by unfold TI;kernel_rfl,⟨_,Tryz.underlying173,rfl⟩,rfl,λ_=>rfl⟩
theorem ahH:al8.ok Tryz.prog 174:=⟨by unfold TI;kernel_rfl,Tryz.underlying174,rfl,λ_=>rfl⟩
theorem ai0:amT.ok Tryz.prog 175:=⟨by unfold TI;kernel_rfl,⟨_,Tryz.underlying175,by kernel_rfl⟩,rfl,λ_=>rfl⟩
theorem aeF:amS.ok Tryz.prog 178:=⟨by unfold TI;kernel_rfl,⟨_,Tryz.underlying178,by kernel_rfl⟩,rfl,λ_=>rfl⟩
theorem Sx:aap.ok Tryz.prog 191:=⟨by unfold TI;kernel_rfl,Tryz.underlying191,rfl,λ_=>rfl⟩
theorem agz:amZ.ok Tryz.prog 192:=⟨by unfold TI;kernel_rfl,Tryz.underlying192,rfl,λ_=>rfl⟩
theorem aiz:ao3.ok Tryz.prog 193:=⟨by unfold TI;kernel_rfl,Tryz.underlying193,rfl,λ_=>rfl⟩
theorem Pv:aab.ok Tryz.prog 194:=⟨by unfold TI;kernel_rfl,Tryz.underlying194,rfl,λ_=>rfl⟩
theorem agW:ao8.ok Tryz.prog 196:=⟨by unfold TI;kernel_rfl,⟨_,Tryz.underlying196,by kernel_rfl⟩,rfl,λ_=>rfl⟩
theorem ahp:apo.ok Tryz.prog 200:=⟨by unfold TI;kernel_rfl,Tryz.underlying200,rfl,λ_=>rfl⟩
theorem ae7:als.ok Tryz.prog 217:=⟨by unfold TI;kernel_rfl,⟨_,Tryz.underlying217,by kernel_rfl⟩,rfl,λ_=>rfl⟩
theorem aes:anw.ok Tryz.prog 218:=⟨by unfold TI;kernel_rfl,⟨_,Tryz.underlying218,rfl⟩,rfl,λ_=>rfl⟩
theorem aeT:al7.ok Tryz.prog 220:=⟨by unfold TI;kernel_rfl,Tryz.underlying220,rfl,λ_=>rfl⟩
theorem akc:amf.ok Tryz.prog 222:=⟨by unfold TI;kernel_rfl,Tryz.underlying222,rfl,λ_=>rfl⟩
theorem afv:aoM.ok Tryz.prog 224:=⟨by unfold TI;kernel_rfl,⟨_,Tryz.underlying224,by kernel_rfl⟩,rfl,λ_=>rfl⟩
theorem afU:aoN.ok Tryz.prog 232:=⟨by unfold TI;kernel_rfl,⟨_,Tryz.underlying232,by kernel_rfl⟩,rfl,λ_=>rfl⟩
theorem akE:aol.ok Tryz.prog 235:=⟨by unfold TI;kernel_rfl,⟨_,Tryz.underlying235,by kernel_rfl⟩,rfl,λ_=>rfl⟩
theorem ahB:amh.ok Tryz.prog 238:=⟨by unfold TI;kernel_rfl,Tryz.underlying238,rfl,λ_=>rfl⟩
theorem ahi:aoY.ok Tryz.prog 260:=⟨by unfold TI;kernel_rfl,⟨_,Tryz.underlying260,rfl⟩,rfl,λ_=>rfl⟩
theorem aeq:ami.ok Tryz.prog 261:=⟨by unfold TI;kernel_rfl,⟨_,Tryz.underlying261,rfl⟩,rfl,λ_=>rfl⟩
theorem aiB:am6.ok Tryz.prog 263:=⟨by unfold TI;kernel_rfl,⟨_,Tryz.underlying263,by kernel_rfl⟩,rfl,λ_=>rfl⟩
theorem aig:anQ.ok Tryz.prog 265:=⟨by unfold TI;kernel_rfl,⟨_,Tryz.underlying265,rfl⟩,rfl,λ_=>rfl⟩
theorem aiY:aop.ok Tryz.prog 281:=⟨by unfold TI;kernel_rfl,Tryz.underlying281,rfl,λ_=>rfl⟩
theorem aif:aly.ok Tryz.prog 284:=⟨by unfold TI;kernel_rfl,⟨_,Tryz.underlying284,rfl⟩,rfl,λ_=>rfl⟩
theorem af7:alw.ok Tryz.prog 285:=⟨by unfold TI;kernel_rfl,Tryz.underlying285,rfl,λ_=>rfl⟩
theorem agm:anE.ok Tryz.prog 287:=⟨by unfold TI;kernel_rfl,⟨_,Tryz.underlying287,by kernel_rfl⟩,rfl,λ_=>rfl⟩
theorem aey:aoJ.ok Tryz.prog 291:=⟨by unfold TI;kernel_rfl,Tryz.underlying291,rfl,λ_=>rfl⟩
theorem ajI:anU.ok Tryz.prog 293:=⟨by unfold TI;kernel_rfl,⟨_,Tryz.underlying293,by kernel_rfl⟩,rfl,λ_=>rfl⟩
theorem ajP:apW.ok Tryz.prog 297:=⟨by unfold TI;kernel_rfl,⟨_,Tryz.underlying297,by kernel_rfl⟩,rfl,λ_=>rfl⟩
theorem aew:am8.ok Tryz.prog 299:=⟨by unfold TI;kernel_rfl,Tryz.underlying299,rfl,λ_=>rfl⟩
theorem ake:ao2.ok Tryz.prog 301:=⟨by unfold TI;kernel_rfl,⟨_,Tryz.underlying301,by kernel_rfl⟩,rfl,λ_=>rfl⟩
theorem agi:amX.ok Tryz.prog 317:=⟨by unfold TI;kernel_rfl,Tryz.underlying317,rfl,λ_=>rfl⟩
theorem ahN:anH.ok Tryz.prog 320:=⟨by unfold TI;kernel_rfl,⟨_,Tryz.underlying320,by kernel_rfl⟩,rfl,λ_=>rfl⟩
theorem ajL:alF.ok Tryz.prog 323:=⟨by unfold TI;kernel_rfl,Tryz.underlying323,rfl,λ_=>rfl⟩
theorem akK:anv.ok Tryz.prog 328:=⟨by unfold TI;kernel_rfl,⟨_,Tryz.underlying328,by kernel_rfl⟩,rfl,λ_=>rfl⟩
theorem adS:apa.ok Tryz.prog 340:=⟨by unfold TI;kernel_rfl,Tryz.underlying340,rfl,λ_=>rfl⟩
theorem aiP:alO.ok Tryz.prog 346:=⟨by unfold TI;kernel_rfl,⟨_,Tryz.underlying346,rfl⟩,rfl,λ_=>rfl⟩
theorem ae6:apz.ok Tryz.prog 361:=⟨by unfold TI;kernel_rfl,⟨_,Tryz.underlying361,by kernel_rfl⟩,rfl,λ_=>rfl⟩
theorem ai9:ao5.ok Tryz.prog 365:=⟨by unfold TI;kernel_rfl,⟨_,Tryz.underlying365,rfl⟩,rfl,λ_=>rfl⟩
theorem agh:amP.ok Tryz.prog 366:=⟨by unfold TI;kernel_rfl,⟨_,Tryz.underlying366,rfl⟩,rfl,λ_=>rfl⟩
theorem af5:alR.ok Tryz.prog 371:=⟨by unfold TI;kernel_rfl,⟨_,Tryz.underlying371,rfl⟩,rfl,λ_=>rfl⟩
theorem ad7:aoA.ok Tryz.prog 379:=⟨by unfold TI;kernel_rfl,Tryz.underlying379,rfl,λ_=>rfl⟩
theorem akf:anL.ok Tryz.prog 382:=⟨by unfold TI;kernel_rfl,Tryz.underlying382,rfl,λ_=>rfl⟩
theorem aky:amH.ok Tryz.prog 384:=⟨by unfold TI;kernel_rfl,⟨_,Tryz.underlying384,by kernel_rfl⟩,rfl,λ_=>rfl⟩
theorem ah7:apG.ok Tryz.prog 387:=⟨by unfold TI;kernel_rfl,⟨_,Tryz.underlying387,by kernel_rfl⟩,rfl,λ_=>rfl⟩
theorem aiN:aok.ok Tryz.prog 393:=⟨by unfold TI;kernel_rfl,Tryz.underlying393,rfl,λ_=>rfl⟩
theorem akp:am0.ok Tryz.prog 394:=⟨by unfold TI;kernel_rfl,Tryz.underlying394,rfl,λ_=>rfl⟩
theorem RT:ZA.ok Tryz.prog 400:=⟨by unfold TI;kernel_rfl,Tryz.underlying400,rfl,λ_=>rfl⟩
theorem afd:amI.ok Tryz.prog 402:=⟨by unfold TI;kernel_rfl,Tryz.underlying402,rfl,λ_=>rfl⟩
theorem ae1:al0.ok Tryz.prog 408:=⟨by unfold TI;kernel_rfl,Tryz.underlying408,rfl,λ_=>rfl⟩
theorem Ry:aad.ok Tryz.prog 411:=⟨by unfold TI;kernel_rfl,⟨_,Tryz.underlying411,by kernel_rfl⟩,rfl,λ_=>rfl⟩
theorem QW:Wn.ok Tryz.prog 412:=⟨by unfold TI;kernel_rfl,Tryz.underlying412,rfl,λ_=>rfl⟩
theorem ahz:aoG.ok Tryz.prog 417:=⟨by unfold TI;kernel_rfl,Tryz.underlying417,rfl,λ_=>rfl⟩
theorem ad5:aln.ok Tryz.prog 420:=⟨by unfold TI;kernel_rfl,Tryz.underlying420,rfl,λ_=>rfl⟩
theorem adU:anu.ok Tryz.prog 422:=⟨by unfold TI;kernel_rfl,⟨_,Tryz.underlying422,by kernel_rfl⟩,rfl,λ_=>rfl⟩
theorem aiW:alq.ok Tryz.prog 425:=⟨by unfold TI;kernel_rfl,⟨_,Tryz.underlying425,rfl⟩,rfl,λ_=>rfl⟩
theorem ajX:anl.ok Tryz.prog 433:=⟨by unfold TI;kernel_rfl,⟨_,Tryz.underlying433,rfl⟩,rfl,λ_=>rfl⟩
theorem aiQ:anz.ok Tryz.prog 437:=⟨by unfold TI;kernel_rfl,Tryz.underlying437,rfl,λ_=>rfl⟩
theorem ahV:anN.ok Tryz.prog 441:=⟨by unfold TI;kernel_rfl,⟨_,Tryz.underlying441,by kernel_rfl⟩,rfl,λ_=>rfl⟩
theorem aoS:Tb.ok (IC tb) Tryz.prog:=PN ⟨adE,avE,atH,adQ,arc,aqD,arp,arJ,arO,ap4,aqp,asd,aq6,asB,aq5,aqS,aqw,asL,aqj,asm,arn,arY,asA,arK,asP,aqE,aqQ,asY,asc,ah4,agf,afM,ail,aiD,aic,akn,af6,aiU,aj5,aji,aib,akt,ak1,ak2,ad8,aga,ahH,ai0,aeF,Sx,agz,aiz,Pv,agW,ahp,ae7,aes,aeT,akc,afv,afU,akE,ahB,ahi,aeq,aiB,aig,aiY,aif,af7,agm,aey,ajI,ajP,aew,ake,agi,ahN,ajL,akK,adS,aiP,ae6,ai9,agh,af5,ad7,akf,aky,ah7,aiN,akp,RT,afd,ae1,Ry,QW,ahz,ad5,adU,aiW,ajX,aiQ,ahV,trivial⟩
def awr(t:TypeId):Bool:=[32,55,422].any λk=>Nat.beq t k
theorem axN:AU Tryz.prog 32:=⟨by kernel_rfl,by kernel_rfl,by kernel_rfl⟩
theorem axh:AU Tryz.prog 55:=⟨by kernel_rfl,by kernel_rfl,by kernel_rfl⟩
theorem awG:AU Tryz.prog 422:=⟨by kernel_rfl,by kernel_rfl,by kernel_rfl⟩
theorem aus(t:TypeId)(h:awr t=true):AU Tryz.prog t:=by obtain⟨k,a,b⟩:=aiF.1 h;have:=f9 b;subst this;simp only[aen,ajK,aq0]at a;rcases a with rfl|rfl|rfl<;>first|exact axN|exact axh|exact awG
theorem au:Tryz.prog.follows .mixedOrders=true:=by kernel_rfl
def cx0:Cx:=⟨λ_=>[],IC tb,awr,[],false,λ_=>none,0,none,[],none,λ_=>none⟩
abbrev Qq0(C:Cx):Prop:=C.ok Tryz.prog
def Qq1:Nat->An->An
 |0,a=>a
 |n+1,a=>.s .z (Qq1 n a)
theorem Qq2[Itr]{C:Cx}(b:C.ok Tryz.prog){f:FuncId}{fn:Func}(hf:Tryz.prog.funcs[f]?=some fn)(c:(fn.name == "runtime.NumGoroutine")=false)(an:An){a:Ctr}(h:∀x,a.fn x=aE C fn an a.toSig x)(hs:(Nat.ble a.ps.length fn.ntmps&&Nat.ble (rU a.ps) 64)=true):a.sound Tryz.prog f:=ai b au hf c (an:=an) h hs
theorem acJ:Qq0 cx0:=⟨λ_ _ h=>(by cases h),aoS,aus,λ_ h=>(by cases h),λ_ _ h=>(by cases h),λ_ h=>(by cases h),λ_ _ h=>(by cases h)⟩
section
variable [Itr]  [Yc:GCx]
def am2:An:=.s .z (.j ⟨[],[(0,.lf (.sc (.int .u64))),(2,.lf (.sc pi))],[],[]⟩ true .z (.j ⟨[],[(0,.lf (.sc (.int .u64))),(2,.lf (.sc pi))],[],[]⟩ true .z (.j ⟨[],[(0,.lf (.sc (.int .u64))),(2,.lf (.sc pi))],[],[]⟩ true .z .z)))
def Lg:Ctr:=⟨⟨[.d (.sc (.int .u64))],[(.sc pi)],1,[],[]⟩,λx=>sf x⟩
def WR:Cx:=aB cx0 128 Lg
theorem O2:Qq0 WR:=aj acJ (Qq2 acJ Tryz.func128 (by kernel_rfl) am2 (λx=>by kernel_rfl) rfl)
def anm:An:=.z
def M4:Ctr:=⟨⟨[.d (.sc (.int .u64))],[(.sc pi)],1,[],[]⟩,λx=>qO x⟩
def abg:Cx:=aB WR 322 M4
theorem RC:Qq0 abg:=aj O2 (Qq2 O2 Tryz.func322 (by kernel_rfl) anm (λx=>by kernel_rfl) rfl)
def aoQ:An:=.z
def Ks:Ctr:=⟨⟨[.d ah,.d ah],[(.sc pi)],1,[],[]⟩,λx=>dY x.1 x.2⟩
def Zi:Cx:=aB abg 266 Ks
theorem R0:Qq0 Zi:=aj RC (Qq2 RC Tryz.func266 (by kernel_rfl) aoQ (λx=>by kernel_rfl) rfl)
def apY:An:=.s .z (.u (.l ⟨[0,1,2,3],[(8,.lf (.sc pi))],[(0,[.ownk ah 422 0])],[]⟩ (.s .z (.j ⟨[0,1,2,3,8],[],[(0,[.ownk ah 422 0])],[]⟩ true (.u (.s .z (.u (.l ⟨[0,1,2,3,8],[(9,.lf (.sc pi))],[(0,[.ownk ah 422 0])],[]⟩ .z)))) .z))))
def KX:Ctr:=⟨⟨[.prt ah 422,.d (.sc pi),.d (.sc pi),.fn 266],[(.slice ah)],0,[27072],[⟨some 4194304,false,false⟩]⟩,λx=>dc x.1 x.2.1 x.2.2.1⟩
def Yb:Cx:=aB Zi 341 KX
theorem PZ:Qq0 Yb:=aj R0 (Qq2 R0 Tryz.func341 (by kernel_rfl) apY (λx=>by kernel_rfl) rfl)
def am3:An:=.s .z (.s .z (.u (.l ⟨[0,4],[(1,.lf (.sc pi)),(2,.lf (.sc pi)),(3,.lf (.sc pi)),(10,.lf (.sc .bool)),(11,.lf (.sc .bool))],[],[]⟩ (.u (Qq1 3 (.j ⟨[0,1,2,4,10,11,12],[(3,.lf (.sc pi))],[],[]⟩ true .z .z))))))
def K5:Ctr:=⟨⟨[.prt ah 422,.d (.sc pi),.d (.sc pi),.d (.sc pi),.fn 266],[(.slice ah)],0,[27072],[⟨some 4194304,false,false⟩]⟩,λx=>dW x.1 x.2.1 x.2.2.1 x.2.2.2.1⟩
def WT:Cx:=aB Yb 321 K5
theorem Ss:Qq0 WT:=aj PZ (Qq2 PZ Tryz.func321 (by kernel_rfl) am3 (λx=>by kernel_rfl) rfl)
def ani:An:=.z
def K7:Ctr:=⟨⟨[.prt ah 422,.fn 266],[(.slice ah)],0,[27072],[⟨some 4194304,false,false⟩]⟩,λx=>co x.1⟩
theorem Pc:K7.sound Tryz.prog 265:=Qq2 Ss Tryz.func265 (by kernel_rfl) ani (λx=>by kernel_rfl) rfl
def YJ:Cx:=aB WT 265 K7
theorem OY:Qq0 YJ:=aj Ss Pc
end
end Go.Proofs.YtgghcmbaidihjaaGreatDoor
