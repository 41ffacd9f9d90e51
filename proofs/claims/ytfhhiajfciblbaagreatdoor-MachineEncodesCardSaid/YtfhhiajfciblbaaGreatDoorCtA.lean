/- Laws for the row. No condition. -/
import Derived.Test.YtfhhiajfciblbaaGreatDoorFn
import Derived.Test.YtfhhiajfciblbaaGreatDoorRows
namespace Go.Proofs.YtfhhiajfciblbaaGreatDoor
open Go.Sm
def c15:List Sp:=[.rep aR true [1000012],.rep (.sc pi) true [1000012],.rep (.sc pi) true [1000012],.rep aB true [1000012],.rep aB true [1000012],.rep (.sc .str) true [1000012],.rep (.sc .str) true [1000012],.rep (.sc .str) true [1000012],.sc pi,.sc pi,.sc pi,.own aG 1870727804774333205280220053689557385530553472647298 false [],.own (.sc pi) 3 false [],.own (.slice (.sc pi)) 360314358468706326 false [],.own (.sc pi) 3 false [],.own (.sc pi) 3 false [],.sc pi,.sc pi,.sc pi,.sc pi,.sc pi,.sc pi,.sc pi,.sc pi,.sc .str,.own aQ 149 false []]
def c16:List Sp:=[.rep aR true [1000010],.rep (.sc pi) true [1000010],.rep (.sc pi) true [1000010],.rep aB true [1000010],.rep aB true [1000010],.rep (.sc .str) true [1000010],.rep (.sc .str) true [1000010],.rep (.sc .str) true [1000010],.sc pi,.sc pi,.sc pi,.own aG 1870727804774333205280220053689557385530553472647298 false [],.own (.sc pi) 3 false [],.own (.slice (.sc pi)) 360314358468706326 false [],.own (.sc pi) 3 false [],.own (.sc pi) 3 false [],.sc pi,.sc pi,.sc pi,.sc pi,.sc pi,.sc pi,.sc pi,.sc pi,.sc .str,.own aQ 149 false []]
def c17:List Sp:=[.rep aR true [1000011],.rep (.sc pi) true [1000011],.rep (.sc pi) true [1000011],.rep aB true [1000011],.rep aB true [1000011],.rep (.sc .str) true [1000011],.rep (.sc .str) true [1000011],.rep (.sc .str) true [1000011],.sc pi,.sc pi,.sc pi,.own aV 1870727804774333205280220053632888987722923590549622 false [],.own (.sc pi) 3 false [],.own (.slice (.sc pi)) 360314358468706326 false [],.own (.sc pi) 3 false [],.own (.sc pi) 3 false [],.sc pi,.sc pi,.sc pi,.sc pi,.sc pi,.sc pi,.sc pi,.sc pi,.sc .str,.mp ah (.sc .bool)]
def c18:List Sp:=[.rep aR true [1000012],.rep (.sc pi) true [1000012],.rep (.sc pi) true [1000012],.rep aB true [1000012],.rep aB true [1000012],.rep (.sc .str) true [1000012],.rep (.sc .str) true [1000012],.rep (.sc .str) true [1000012],.sc pi,.sc pi,.sc pi,.own aV 1870727804774333205280220053632888987722923590549622 false [],.own (.sc pi) 3 false [],.rep (.slice (.sc pi)) true [1000012],.own (.sc pi) 3 false [],.own (.sc pi) 3 false [],.sc pi,.sc pi,.sc pi,.sc pi,.sc pi,.sc pi,.sc pi,.sc pi,.sc .str,.mp ah (.sc .bool)]
def c19:List Sp:=[.rep aR true [1000000],.rep (.sc pi) true [1000000],.rep (.sc pi) true [1000000],.rep aB true [1000000],.rep aB true [1000000],.rep (.sc .str) true [1000000],.rep (.sc .str) true [1000000],.rep (.sc .str) true [1000000],.sc pi,.sc pi,.sc pi,.ownk aV 1870727804774333205280220053632888987722923590549622 9,.own (.sc pi) 3 false [],.rep (.slice (.sc pi)) true [1000000],.own (.sc pi) 3 false [],.own (.sc pi) 3 false [],.sc pi,.sc pi,.sc pi,.sc pi,.sc pi,.sc pi,.sc pi,.sc pi,.sc .str,.mp ah (.sc .bool)]
def c20:List Sp:=[.rep aR true [],.rep (.sc pi) true [],.rep (.sc pi) true [],.rep aB true [],.rep aB true [],.rep (.sc .str) true [],.rep (.sc .str) true [],.rep (.sc .str) true [],.sc pi,.sc pi,.sc pi,.own aG 1870727804774333205280220053689557385530553472647298 false [],.own (.sc pi) 3 false [],.own (.slice (.sc pi)) 360314358468706326 false [],.own (.sc pi) 3 false [],.own (.sc pi) 3 false [],.sc pi,.sc pi,.sc pi,.sc pi,.sc pi,.sc pi,.sc pi,.sc pi,.sc .str,.own aQ 149 false []]
def c21:List Sp:=[.rep aR true [],.rep (.sc pi) true [],.rep (.sc pi) true [],.rep aB true [],.rep aB true [],.rep (.sc .str) true [],.rep (.sc .str) true [],.rep (.sc .str) true [],.sc pi,.sc pi,.sc pi,.own aV 1870727804774333205280220053632888987722923590549622 false [],.own (.sc pi) 3 false [],.own (.slice (.sc pi)) 360314358468706326 false [],.own (.sc pi) 3 false [],.own (.sc pi) 3 false [],.sc pi,.sc pi,.sc pi,.sc pi,.sc pi,.sc pi,.sc pi,.sc pi,.sc .str,.mp ah (.sc .bool)]
def c22:List Sp:=[.rep aR true [],.rep (.sc pi) true [],.rep (.sc pi) true [],.rep aB true [],.rep aB true [],.rep (.sc .str) true [],.rep (.sc .str) true [],.rep (.sc .str) true [],.sc pi,.sc pi,.sc pi,.ownk aV 1870727804774333205280220053632888987722923590549622 9,.own (.sc pi) 3 false [],.rep (.slice (.sc pi)) true [],.own (.sc pi) 3 false [],.own (.sc pi) 3 false [],.sc pi,.sc pi,.sc pi,.sc pi,.sc pi,.sc pi,.sc pi,.sc pi,.sc .str,.mp ah (.sc .bool)]
def c23:List Sp:=[.own aG 1870727804774333205280220053689557385530553472647298 false [],.own (.sc pi) 3 false [],.own (.slice (.sc pi)) 360314358468706326 false [],.rep (.sc pi) true [1000003],.rep (.sc pi) true [1000003],.sc pi,.sc pi,.sc pi,.sc pi,.sc pi,.sc pi,.sc pi,.sc pi,.sc .str]
def c24:List Sp:=[.own aV 1870727804774333205280220053632888987722923590549622 false [],.own (.sc pi) 3 false [],.pt (.slice (.sc pi)) 360314358468706326 true [1000001],.own (.sc pi) 3 false [],.own (.sc pi) 3 false [],.sc pi,.sc pi,.sc pi,.sc pi,.sc pi,.sc pi,.sc pi,.sc pi,.sc .str]
def c25:List Sp:=[.own aG 1870727804774333205280220053689557385530553472647298 false [],.own (.sc pi) 3 false [],.own (.slice (.sc pi)) 360314358468706326 false [],.own (.sc pi) 3 false [],.own (.sc pi) 3 false [],.sc pi,.sc pi,.sc pi,.sc pi,.sc pi,.sc pi,.sc pi,.sc pi,.sc .str]
def c26:List Sp:=[.own aV 1870727804774333205280220053632888987722923590549622 false [],.own (.sc pi) 3 false [],.rep (.slice (.sc pi)) false [1000004,1000005],.own (.sc pi) 3 false [],.own (.sc pi) 3 false [],.sc pi,.sc pi,.sc pi,.sc pi,.sc pi,.sc pi,.sc pi,.sc pi,.sc .str]
def c27:List Sp:=[.own aG 1870727804774333205280220053689557385530553472647298 false [],.rep (.sc pi) true [],.rep (.slice (.sc pi)) true [],.rep (.sc pi) true [],.rep (.sc pi) true [],.sc pi,.sc pi,.sc pi,.sc pi,.sc pi,.sc pi,.sc pi,.sc pi,.sc .str]
def c28:List Sp:=[.pt aV 1870727804774333205280220053632888987722923590549622 true [],.rep (.sc pi) true [],.rep (.slice (.sc pi)) true [],.rep (.sc pi) true [],.rep (.sc pi) true [],.sc pi,.sc pi,.sc pi,.sc pi,.sc pi,.sc pi,.sc pi,.sc pi,.sc .str]
def c29:List Sp:=[.own aV 118 false [1000003],.own (.sc pi) 3 false [],.own (.slice (.sc pi)) 360314358468706326 false [],.own (.sc pi) 3 false [],.own (.sc pi) 3 false [],.sc pi,.sc pi,.sc pi,.sc pi,.sc pi,.sc pi,.sc pi,.sc pi,.sc .str]
def c30:List Sp:=[.own aR 99 false [],.own (.sc pi) 3 false [],.own (.sc pi) 3 false [],.rep aB false [1000011],.rep aB false [1000011],.rep (.sc .str) false [1000011],.rep (.sc .str) false [1000011],.rep (.sc .str) false [1000011],.own (.sc .str) 9 false [],.sc pi]
def c31:List Sp:=[.own aR 99 false [],.own (.sc pi) 3 false [],.own (.sc pi) 3 false [],.rep aB true [1000000],.rep aB true [1000000],.rep (.sc .str) true [1000000],.rep (.sc .str) true [1000000],.rep (.sc .str) true [1000000],.own (.sc .str) 9 false [],.sc pi]
def c32:List Sp:=[.own aR 99 false [],.own (.sc pi) 3 false [],.own (.sc pi) 3 false [],.rep aB false [],.rep aB false [],.rep (.sc .str) false [],.rep (.sc .str) false [],.rep (.sc .str) false [],.own (.sc .str) 9 false [],.sc pi]
def c33:List Sp:=[.own aR 99 false [],.own (.sc pi) 3 false [],.own (.sc pi) 3 false [],.rep aB true [],.rep aB true [],.rep (.sc .str) true [],.rep (.sc .str) true [],.rep (.sc .str) true [],.own (.sc .str) 9 false [],.sc pi]
def c34:List Sp:=[.own aR 99 false [],.own (.sc pi) 3 false [],.own (.sc pi) 3 false [],.own aB 101 false [],.own aB 101 false [],.own (.sc .str) 9 false [],.own (.sc .str) 9 false [],.own (.sc .str) 9 false []]
def c35:List PC:=[.box true aU [none,none,none,none,none,none,none,none,some 1870727804774333205280220053689557385530553472647298,some 3,some 360314358468706326,some 3,some 3,some 149],.d (.sc pi),.d (.sc pi)]
def c36:List PC:=[.box true dc [none,none,none,none,none,none,none,none,some 1870727804774333205280220053632888987722923590549622,some 3,some 360314358468706326,some 3,some 3,some 0],.d (.sc pi),.d (.sc pi)]
def c37:List PC:=[.box true aU [none,none,none,none,none,none,none,none,some 1870727804774333205280220053689557385530553472647298,some 3,some 360314358468706326,some 3,some 3,some 149],.d aR,.d (.sc pi)]
def c38:List PC:=[.box true aU [none,none,none,none,none,none,none,none,some 1870727804774333205280220053689557385530553472647298,some 3,some 360314358468706326,some 3,some 3,some 149],.d (.sc pi)]
def c39:List Sp:=[.pt bX 1547425049178910481010655346 true [14],.own (.sc pi) 3 false [],.sc pi,.sc .bool]
def c40:List Sp:=[.own cG 1547425049178923675150188670 false [],.own (.sc pi) 3 false [],.sc pi,.sc .bool]
def c41:List Sp:=[.own bX 114 false [1000003],.rep (.sc pi) false [1000003],.sc pi,.sc .bool]
def c42:List Sp:=[.sc pi,.sc pi,.sc pi,.own (.sc pi) 3 false []]
def c43:List PC:=[.box true bg [some 99,some 3,some 3,none,none,none,none,none,some 9],.d bG]
def c44:List Sp:=[.sc pi,.sc .str,.sc pi,.rep .node false [1000003]]
def c45:List Sp:=[.sc .str,.own bo 240 false [],.sc pi,.sc .bool,.sc .bool]
def c46:List Sp:=[.sc pi,.sc .str,.sc pi,.own .node 169 false []]
def c47:List PC:=[.box true aL [some 240],.d (.sc .str)]
def c48:List PC:=[.box false aU [],.d (.sc pi)]
def c49:List Sp:=[.own (.sc (.int .u8)) 5 false []]
def c50:List PC:=[.box true aL [some 240]]
set_option maxRecDepth 100000
set_option linter.unusedSectionVars false
instance:GTab:=⟨[⟨0,nZ,ym⟩,⟨1,(.sc (.int .u32)),sJ⟩,⟨2,(.sc (.int .u32)),oU⟩]⟩
def ti3:TInf:=⟨.int .i64,1,8,[.c pi (0:Int)],(.sc pi)⟩
def ti4:TInf:=⟨.bool,1,1,[.c .bool false],(.sc .bool)⟩
def ti5:TInf:=⟨.int .u8,1,1,[.c (.int .u8) (0:Int)],(.sc (.int .u8))⟩
def ti9:TInf:=⟨.str,1,16,[.c .str ([]:List UInt8)],(.sc .str)⟩
def anA:TInf:=⟨.slice 3,1,24,[.nl],(.slice (.sc pi))⟩
def aor:TInf:=⟨.st [(3,0),(3,1),(3,2)],3,24,[.c pi (0:Int),.c pi (0:Int),.c pi (0:Int)],fP⟩
def apB:TInf:=⟨.slice 99,1,24,[.nl],(.slice aR)⟩
def aqb:TInf:=⟨.slice 101,1,24,[.nl],(.slice aB)⟩
def anz:TInf:=⟨.slice 9,1,24,[.nl],(.slice (.sc .str))⟩
def ao7:TInf:=⟨.st [(25,0),(22,1),(22,2),(26,3),(26,4),(27,5),(27,6),(27,7)],8,192,[.nl,.nl,.nl,.nl,.nl,.nl,.nl,.nl],bB⟩
def ap9:TInf:=⟨.other,1,8,[.v (.nilFunc)],(.sc .fnc)⟩
def apD:TInf:=⟨.slice 118,1,24,[.nl],(.slice aV)⟩
def aoG:TInf:=⟨.slice 22,1,24,[.nl],(.slice (.slice (.sc pi)))⟩
def anw:TInf:=⟨.st [(3,0),(3,1),(3,2)],3,24,[.c pi (0:Int),.c pi (0:Int),.c pi (0:Int)],yG⟩
def anN:TInf:=⟨.st [(37,0),(22,1),(38,2),(22,3),(22,4),(3,5),(3,6),(40,7),(3,10),(3,11),(3,12),(9,13)],14,200,[.nl,.nl,.nl,.nl,.nl,.c pi (0:Int),.c pi (0:Int),.c pi (0:Int),.c pi (0:Int),.c pi (0:Int),.c pi (0:Int),.c pi (0:Int),.c pi (0:Int),.c .str ([]:List UInt8)],cS⟩
def anh:TInf:=⟨.int .i64,1,8,[.c pi (0:Int)],(.sc pi)⟩
def anj:TInf:=⟨.st [(25,0),(22,1),(22,2),(26,3),(26,4),(27,5),(27,6),(27,7)],8,192,[.nl,.nl,.nl,.nl,.nl,.nl,.nl,.nl],eW⟩
def apq:TInf:=⟨.slice 130,1,24,[.nl],(.slice aG)⟩
def anx:TInf:=⟨.st [(48,0),(22,1),(38,2),(22,3),(22,4),(3,5),(3,6),(40,7),(3,10),(3,11),(3,12),(9,13)],14,200,[.nl,.nl,.nl,.nl,.nl,.c pi (0:Int),.c pi (0:Int),.c pi (0:Int),.c pi (0:Int),.c pi (0:Int),.c pi (0:Int),.c pi (0:Int),.c pi (0:Int),.c .str ([]:List UInt8)],br⟩
def aqg:TInf:=⟨.st [(3,0),(3,1),(3,2),(22,3)],4,48,[.c pi (0:Int),.c pi (0:Int),.c pi (0:Int),.nl],rO⟩
def an2:TInf:=⟨.st [(3,0),(3,1),(3,2),(22,3)],4,48,[.c pi (0:Int),.c pi (0:Int),.c pi (0:Int),.nl],nL⟩
def aqa:TInf:=⟨.slice 153,1,24,[.nl],(.slice ah)⟩
def ao1:TInf:=⟨.slice 149,1,24,[.nl],(.slice aQ)⟩
def anI:TInf:=⟨.other,1,8,[.v (.nilFunc)],(.sc .fnc)⟩
def ap3:TInf:=⟨.slice 50,1,24,[.nl],(.slice br)⟩
def aoz:TInf:=⟨.slice 5,1,24,[.nl],(.slice (.sc (.int .u8)))⟩
def aqH:TInf:=⟨.arr 16 5,16,16,[.ar 16 (.int .u8) ([]:List Int)],(.arr 16 (.int .u8))⟩
def ape:TInf:=⟨.slice 132,1,24,[.nl],(.slice cC)⟩
def anP:TInf:=⟨.st [(3,0),(3,1),(3,2)],3,24,[.c pi (0:Int),.c pi (0:Int),.c pi (0:Int)],aR⟩
def agK:TInf:=⟨.st [(9,0),(3,1)],2,24,[.c .str ([]:List UInt8),.c pi (0:Int)],aB⟩
def aio:TInf:=⟨.other,1,8,[.v (.nilFunc)],(.sc .fnc)⟩
def ajI:TInf:=⟨.ptr 112,1,8,[.v (.pointer none)],.unit⟩
def aiB:TInf:=⟨.map 153 4,1,8,[.v (.map none)],(.mp ah (.sc .bool))⟩
def ajV:TInf:=⟨.st [(46,0),(24,8),(42,11),(110,25)],26,424,[.nl,.nl,.nl,.nl,.nl,.nl,.nl,.nl,.c pi (0:Int),.c pi (0:Int),.c pi (0:Int),.nl,.nl,.nl,.nl,.nl,.c pi (0:Int),.c pi (0:Int),.c pi (0:Int),.c pi (0:Int),.c pi (0:Int),.c pi (0:Int),.c pi (0:Int),.c pi (0:Int),.c .str ([]:List UInt8),.v (.map none)],dc⟩
def aiv:TInf:=⟨.st [(3,0),(22,1)],2,32,[.c pi (0:Int),.nl],bX⟩
def ajN:TInf:=⟨.slice 114,1,24,[.nl],(.slice bX)⟩
def agB:TInf:=⟨.st [(116,0),(22,1),(3,2),(4,3)],4,64,[.nl,.nl,.c pi (0:Int),.c .bool false],aV⟩
def aiI:TInf:=⟨.ptr 123,1,8,[.v (.pointer none)],.unit⟩
def ag4:TInf:=⟨.st [(29,0),(24,8),(50,11),(71,25)],26,440,[.nl,.nl,.nl,.nl,.nl,.nl,.nl,.nl,.c pi (0:Int),.c pi (0:Int),.c pi (0:Int),.nl,.nl,.nl,.nl,.nl,.c pi (0:Int),.c pi (0:Int),.c pi (0:Int),.c pi (0:Int),.c pi (0:Int),.c pi (0:Int),.c pi (0:Int),.c pi (0:Int),.c .str ([]:List UInt8),.nl],aU⟩
def aje:TInf:=⟨.st [(3,0),(22,1)],2,32,[.c pi (0:Int),.nl],cG⟩
def akb:TInf:=⟨.slice 126,1,24,[.nl],(.slice cG)⟩
def ain:TInf:=⟨.st [(128,0),(22,1),(3,2),(4,3)],4,64,[.nl,.nl,.c pi (0:Int),.c .bool false],aG⟩
def ajL:TInf:=⟨.st [(9,0),(9,1)],2,32,[.c .str ([]:List UInt8),.c .str ([]:List UInt8)],cC⟩
def aj9:TInf:=⟨.ptr 118,1,8,[.v (.pointer none)],.unit⟩
def ajR:TInf:=⟨.st [(3,0),(3,1),(4,2)],3,24,[.c pi (0:Int),.c pi (0:Int),.c .bool false],aQ⟩
def aiO:TInf:=⟨.st [(3,0),(3,1),(4,2)],3,24,[.c pi (0:Int),.c pi (0:Int),.c .bool false],ah⟩
def aie:TInf:=⟨.other,1,8,[.v (.nilFunc)],(.sc .fnc)⟩
def ahb:TInf:=⟨.other,1,8,[.v (.nilFunc)],(.sc .fnc)⟩
def ajt:TInf:=⟨.slice 169,1,24,[.nl],(.slice .node)⟩
def ahf:TInf:=⟨.st [(3,0),(9,1),(3,2),(167,3)],4,56,[.c pi (0:Int),.c .str ([]:List UInt8),.c pi (0:Int),.nl],.node⟩
def ajK:TInf:=⟨.ptr 176,1,8,[.v (.pointer none)],.unit⟩
def ajZ:TInf:=⟨.st [(29,0),(27,8),(3,9)],10,224,[.nl,.nl,.nl,.nl,.nl,.nl,.nl,.nl,.nl,.c pi (0:Int)],bg⟩
def ahJ:TInf:=⟨.slice 185,1,24,[.nl],(.slice mC)⟩
def ajb:TInf:=⟨.st [(3,0),(3,1),(3,2)],3,24,[.c pi (0:Int),.c pi (0:Int),.c pi (0:Int)],mC⟩
def ajY:TInf:=⟨.ptr 114,1,8,[.v (.pointer none)],.unit⟩
def aj1:TInf:=⟨.other,1,8,[.v (.nilFunc)],(.sc .fnc)⟩
def Vd:TInf:=⟨.int .u32,1,4,[.c (.int .u32) (0:Int)],(.sc (.int .u32))⟩
def aiE:TInf:=⟨.arr 8 217,8,32,[.ar 8 (.int .u32) ([]:List Int)],(.arr 8 (.int .u32))⟩
def ahY:TInf:=⟨.arr 64 5,64,64,[.ar 64 (.int .u8) ([]:List Int)],(.arr 64 (.int .u8))⟩
def ah8:TInf:=⟨.int .u64,1,8,[.c (.int .u64) (0:Int)],(.sc (.int .u64))⟩
def ah2:TInf:=⟨.st [(218,0),(219,8),(220,72)],73,104,[.ar 8 (.int .u32) ([]:List Int),.ar 64 (.int .u8) ([]:List Int),.c (.int .u64) (0:Int)],oc⟩
def ajv:TInf:=⟨.arr 32 5,32,32,[.ar 32 (.int .u8) ([]:List Int)],(.arr 32 (.int .u8))⟩
def ahi:TInf:=⟨.slice 240,1,24,[.nl],(.slice bo)⟩
def ahk:TInf:=⟨.ptr 237,1,8,[.v (.pointer none)],.unit⟩
def aih:TInf:=⟨.st [(9,0),(232,1),(3,2),(4,3),(4,4)],5,56,[.c .str ([]:List UInt8),.nl,.c pi (0:Int),.c .bool false,.c .bool false],aL⟩
def aic:TInf:=⟨.st [(3,0),(3,1)],2,16,[.c pi (0:Int),.c pi (0:Int)],bo⟩
def ai8:TInf:=⟨.arr 3 9,3,48,[.ar 3 .str ([]:List (List UInt8))],(.arr 3 .str)⟩
def ahv:TInf:=⟨.slice 247,1,24,[.nl],(.slice (.arr 3 .str))⟩
def aiK:TInf:=⟨.slice 27,1,24,[.nl],(.slice (.slice (.sc .str)))⟩
def Wa:TInf:=⟨.st [(9,0),(3,1)],2,24,[.c .str ([]:List UInt8),.c pi (0:Int)],nZ⟩
def T6:TInf:=⟨.arr 29 253,58,696,[.c .str ([]:List UInt8),.c pi (0:Int),.c .str ([]:List UInt8),.c pi (0:Int),.c .str ([]:List UInt8),.c pi (0:Int),.c .str ([]:List UInt8),.c pi (0:Int),.c .str ([]:List UInt8),.c pi (0:Int),.c .str ([]:List UInt8),.c pi (0:Int),.c .str ([]:List UInt8),.c pi (0:Int),.c .str ([]:List UInt8),.c pi (0:Int),.c .str ([]:List UInt8),.c pi (0:Int),.c .str ([]:List UInt8),.c pi (0:Int),.c .str ([]:List UInt8),.c pi (0:Int),.c .str ([]:List UInt8),.c pi (0:Int),.c .str ([]:List UInt8),.c pi (0:Int),.c .str ([]:List UInt8),.c pi (0:Int),.c .str ([]:List UInt8),.c pi (0:Int),.c .str ([]:List UInt8),.c pi (0:Int),.c .str ([]:List UInt8),.c pi (0:Int),.c .str ([]:List UInt8),.c pi (0:Int),.c .str ([]:List UInt8),.c pi (0:Int),.c .str ([]:List UInt8),.c pi (0:Int),.c .str ([]:List UInt8),.c pi (0:Int),.c .str ([]:List UInt8),.c pi (0:Int),.c .str ([]:List UInt8),.c pi (0:Int),.c .str ([]:List UInt8),.c pi (0:Int),.c .str ([]:List UInt8),.c pi (0:Int),.c .str ([]:List UInt8),.c pi (0:Int),.c .str ([]:List UInt8),.c pi (0:Int),.c .str ([]:List UInt8),.c pi (0:Int),.c .str ([]:List UInt8),.c pi (0:Int)],.unit⟩
def agT:TInf:=⟨.map 3 36,1,8,[.v (.map none)],(.mp (.sc pi) (.sc .fnc))⟩
def aj3:TInf:=⟨.int .u64,1,8,[.c (.int .u64) (0:Int)],(.sc (.int .u64))⟩
def ahQ:TInf:=⟨.slice 276,1,24,[.nl],(.slice fG)⟩
def ahm:TInf:=⟨.st [(3,0),(3,1),(9,2),(9,3)],4,48,[.c pi (0:Int),.c pi (0:Int),.c .str ([]:List UInt8),.c .str ([]:List UInt8)],fG⟩
def W0:TInf:=⟨.arr 64 217,64,256,[.ar 64 (.int .u32) ([]:List Int)],(.arr 64 (.int .u32))⟩
def ahh:TInf:=⟨.arr 4 217,4,16,[.ar 4 (.int .u32) ([]:List Int)],(.arr 4 (.int .u32))⟩
def tb:List (TypeId×TInf):=[(3,ti3),(4,ti4),(5,ti5),(9,ti9),(22,anA),(24,aor),(25,apB),(26,aqb),(27,anz),(29,ao7),(36,ap9),(37,apD),(38,aoG),(40,anw),(42,anN),(43,anh),(46,anj),(48,apq),(50,anx),(58,aqg),(62,an2),(68,aqa),(71,ao1),(79,anI),(83,ap3),(85,aoz),(89,aqH),(96,ape),(99,anP),(101,agK),(106,aio),(108,ajI),(110,aiB),(112,ajV),(114,aiv),(116,ajN),(118,agB),(121,aiI),(123,ag4),(126,aje),(128,akb),(130,ain),(132,ajL),(144,aj9),(149,ajR),(153,aiO),(160,aie),(162,ahb),(167,ajt),(169,ahf),(173,ajK),(176,ajZ),(182,ahJ),(185,ajb),(197,ajY),(209,aj1),(217,Vd),(218,aiE),(219,ahY),(220,ah8),(222,ah2),(225,ajv),(232,ahi),(235,ahk),(237,aih),(240,aic),(247,ai8),(248,ahv),(250,aiK),(253,Wa),(254,T6),(255,agT),(267,aj3),(272,ahQ),(276,ahm),(297,W0),(299,ahh)]
theorem ZT:ti3.ok Tryz.prog 3:=⟨by unfold TI;kernel_rfl,Tryz.underlying3,rfl,λ_=>rfl⟩
theorem anr:ti4.ok Tryz.prog 4:=⟨by unfold TI;kernel_rfl,Tryz.underlying4,rfl,λ_=>rfl⟩
theorem anB:ti5.ok Tryz.prog 5:=⟨by unfold TI;kernel_rfl,Tryz.underlying5,rfl,λ_=>rfl⟩
theorem YG:ti9.ok Tryz.prog 9:=⟨by unfold TI;kernel_rfl,Tryz.underlying9,rfl,λ_=>rfl⟩
theorem akg:anA.ok Tryz.prog 22:=⟨by unfold TI;kernel_rfl,Tryz.underlying22,rfl,λ_=>rfl⟩
theorem anc:aor.ok Tryz.prog 24:=⟨by unfold TI;kernel_rfl,⟨_,Tryz.underlying24,by kernel_rfl⟩,rfl,λ_=>rfl⟩
theorem alY:apB.ok Tryz.prog 25:=⟨by unfold TI;kernel_rfl,Tryz.underlying25,rfl,λ_=>rfl⟩
theorem akU:aqb.ok Tryz.prog 26:=⟨by unfold TI;kernel_rfl,Tryz.underlying26,rfl,λ_=>rfl⟩
theorem amC:anz.ok Tryz.prog 27:=⟨by unfold TI;kernel_rfl,Tryz.underlying27,rfl,λ_=>rfl⟩
theorem amq:ao7.ok Tryz.prog 29:=⟨by unfold TI;kernel_rfl,⟨_,Tryz.underlying29,by kernel_rfl⟩,rfl,λ_=>rfl⟩
theorem akj:ap9.ok Tryz.prog 36:=⟨by unfold TI;kernel_rfl,⟨_,Tryz.underlying36,rfl⟩,rfl,λ_=>rfl⟩
theorem akC:apD.ok Tryz.prog 37:=⟨by unfold TI;kernel_rfl,Tryz.underlying37,rfl,λ_=>rfl⟩
theorem akX:aoG.ok Tryz.prog 38:=⟨by unfold TI;kernel_rfl,Tryz.underlying38,rfl,λ_=>rfl⟩
theorem amW:anw.ok Tryz.prog 40:=⟨by unfold TI;kernel_rfl,⟨_,Tryz.underlying40,by kernel_rfl⟩,rfl,λ_=>rfl⟩
theorem amd:anN.ok Tryz.prog 42:=⟨by unfold TI;kernel_rfl,⟨_,Tryz.underlying42,by kernel_rfl⟩,rfl,λ_=>rfl⟩
theorem ama:anh.ok Tryz.prog 43:=⟨by unfold TI;kernel_rfl,Tryz.underlying43,rfl,λ_=>rfl⟩
theorem alM:anj.ok Tryz.prog 46:=⟨by unfold TI;kernel_rfl,⟨_,Tryz.underlying46,by kernel_rfl⟩,rfl,λ_=>rfl⟩
theorem akF:apq.ok Tryz.prog 48:=⟨by unfold TI;kernel_rfl,Tryz.underlying48,rfl,λ_=>rfl⟩
theorem alF:anx.ok Tryz.prog 50:=⟨by unfold TI;kernel_rfl,⟨_,Tryz.underlying50,by kernel_rfl⟩,rfl,λ_=>rfl⟩
theorem alN:aqg.ok Tryz.prog 58:=⟨by unfold TI;kernel_rfl,⟨_,Tryz.underlying58,by kernel_rfl⟩,rfl,λ_=>rfl⟩
theorem amR:an2.ok Tryz.prog 62:=⟨by unfold TI;kernel_rfl,⟨_,Tryz.underlying62,by kernel_rfl⟩,rfl,λ_=>rfl⟩
theorem ak8:aqa.ok Tryz.prog 68:=⟨by unfold TI;kernel_rfl,Tryz.underlying68,rfl,λ_=>rfl⟩
theorem alE:ao1.ok Tryz.prog 71:=⟨by unfold TI;kernel_rfl,Tryz.underlying71,rfl,λ_=>rfl⟩
theorem am5:anI.ok Tryz.prog 79:=⟨by unfold TI;kernel_rfl,⟨_,Tryz.underlying79,rfl⟩,rfl,λ_=>rfl⟩
theorem amJ:ap3.ok Tryz.prog 83:=⟨by unfold TI;kernel_rfl,Tryz.underlying83,rfl,λ_=>rfl⟩
theorem alW:aoz.ok Tryz.prog 85:=⟨by unfold TI;kernel_rfl,Tryz.underlying85,rfl,λ_=>rfl⟩
theorem akJ:aqH.ok Tryz.prog 89:=⟨by unfold TI;kernel_rfl,Tryz.underlying89,rfl,λ_=>rfl⟩
theorem aml:ape.ok Tryz.prog 96:=⟨by unfold TI;kernel_rfl,Tryz.underlying96,rfl,λ_=>rfl⟩
theorem am1:anP.ok Tryz.prog 99:=⟨by unfold TI;kernel_rfl,⟨_,Tryz.underlying99,by kernel_rfl⟩,rfl,λ_=>rfl⟩
theorem aeu:agK.ok Tryz.prog 101:=⟨by unfold TI;kernel_rfl,⟨_,Tryz.underlying101,by kernel_rfl⟩,rfl,λ_=>rfl⟩
theorem aaz:aio.ok Tryz.prog 106:=⟨by unfold TI;kernel_rfl,⟨_,Tryz.underlying106,rfl⟩,rfl,λ_=>rfl⟩
theorem afA:ajI.ok Tryz.prog 108:=⟨by unfold TI;kernel_rfl,Tryz.underlying108,rfl,λ_=>rfl⟩
theorem ada:aiB.ok Tryz.prog 110:=⟨by unfold TI;kernel_rfl,Tryz.underlying110,rfl,λ_=>rfl⟩
theorem acp:ajV.ok Tryz.prog 112:=⟨by unfold TI;kernel_rfl,⟨_,Tryz.underlying112,by kernel_rfl⟩,rfl,λ_=>rfl⟩
theorem adv:aiv.ok Tryz.prog 114:=⟨by unfold TI;kernel_rfl,⟨_,Tryz.underlying114,by kernel_rfl⟩,rfl,λ_=>rfl⟩
theorem aet:ajN.ok Tryz.prog 116:=⟨by unfold TI;kernel_rfl,Tryz.underlying116,rfl,λ_=>rfl⟩
theorem ac1:agB.ok Tryz.prog 118:=⟨by unfold TI;kernel_rfl,⟨_,Tryz.underlying118,by kernel_rfl⟩,rfl,λ_=>rfl⟩
theorem acL:aiI.ok Tryz.prog 121:=⟨by unfold TI;kernel_rfl,Tryz.underlying121,rfl,λ_=>rfl⟩
theorem adt:ag4.ok Tryz.prog 123:=⟨by unfold TI;kernel_rfl,⟨_,Tryz.underlying123,by kernel_rfl⟩,rfl,λ_=>rfl⟩
theorem afO:aje.ok Tryz.prog 126:=⟨by unfold TI;kernel_rfl,⟨_,Tryz.underlying126,by kernel_rfl⟩,rfl,λ_=>rfl⟩
theorem af2:akb.ok Tryz.prog 128:=⟨by unfold TI;kernel_rfl,Tryz.underlying128,rfl,λ_=>rfl⟩
theorem abI:ain.ok Tryz.prog 130:=⟨by unfold TI;kernel_rfl,⟨_,Tryz.underlying130,by kernel_rfl⟩,rfl,λ_=>rfl⟩
theorem afl:ajL.ok Tryz.prog 132:=⟨by unfold TI;kernel_rfl,⟨_,Tryz.underlying132,by kernel_rfl⟩,rfl,λ_=>rfl⟩
theorem agx:aj9.ok Tryz.prog 144:=⟨by unfold TI;kernel_rfl,Tryz.underlying144,rfl,λ_=>rfl⟩
theorem adq:ajR.ok Tryz.prog 149:=⟨by unfold TI;kernel_rfl,⟨_,Tryz.underlying149,by kernel_rfl⟩,rfl,λ_=>rfl⟩
theorem afi:aiO.ok Tryz.prog 153:=⟨by unfold TI;kernel_rfl,⟨_,Tryz.underlying153,by kernel_rfl⟩,rfl,λ_=>rfl⟩
theorem aeK:aie.ok Tryz.prog 160:=⟨by unfold TI;kernel_rfl,⟨_,Tryz.underlying160,rfl⟩,rfl,λ_=>rfl⟩
theorem acb:ahb.ok Tryz.prog 162:=⟨by unfold TI;kernel_rfl,⟨_,Tryz.underlying162,rfl⟩,rfl,λ_=>rfl⟩
theorem ab1:ajt.ok Tryz.prog 167:=⟨by unfold TI;kernel_rfl,Tryz.underlying167,rfl,λ_=>rfl⟩
theorem aeA:ahf.ok Tryz.prog 169:=⟨by unfold TI;kernel_rfl,⟨_,Tryz.underlying169,by kernel_rfl⟩,rfl,λ_=>rfl⟩
theorem abn:ajK.ok Tryz.prog 173:=⟨by unfold TI;kernel_rfl,Tryz.underlying173,rfl,λ_=>rfl⟩
theorem aa6:ajZ.ok Tryz.prog 176:=⟨by unfold TI;kernel_rfl,⟨_,Tryz.underlying176,by kernel_rfl⟩,rfl,λ_=>rfl⟩
theorem aa2:ahJ.ok Tryz.prog 182:=⟨by unfold TI;kernel_rfl,Tryz.underlying182,rfl,λ_=>rfl⟩
theorem acX:ajb.ok Tryz.prog 185:=⟨by unfold TI;kernel_rfl,⟨_,Tryz.underlying185,by kernel_rfl⟩,rfl,λ_=>rfl⟩
theorem aeW:ajY.ok Tryz.prog 197:=⟨by unfold TI;kernel_rfl,Tryz.underlying197,rfl,λ_=>rfl⟩
theorem ae0:aj1.ok Tryz.prog 209:=⟨by unfold TI;kernel_rfl,⟨_,Tryz.underlying209,rfl⟩,rfl,λ_=>rfl⟩
theorem OC:Vd.ok Tryz.prog 217:=⟨by unfold TI;kernel_rfl,Tryz.underlying217,rfl,λ_=>rfl⟩
theorem adl:aiE.ok Tryz.prog 218:=⟨by unfold TI;kernel_rfl,Tryz.underlying218,rfl,λ_=>rfl⟩
theorem aaJ:ahY.ok Tryz.prog 219:=⟨by unfold TI;kernel_rfl,Tryz.underlying219,rfl,λ_=>rfl⟩
theorem abV:ah8.ok Tryz.prog 220:=⟨by unfold TI;kernel_rfl,Tryz.underlying220,rfl,λ_=>rfl⟩
theorem aa7:ah2.ok Tryz.prog 222:=⟨by unfold TI;kernel_rfl,⟨_,Tryz.underlying222,by kernel_rfl⟩,rfl,λ_=>rfl⟩
theorem aaN:ajv.ok Tryz.prog 225:=⟨by unfold TI;kernel_rfl,Tryz.underlying225,rfl,λ_=>rfl⟩
theorem aej:ahi.ok Tryz.prog 232:=⟨by unfold TI;kernel_rfl,Tryz.underlying232,rfl,λ_=>rfl⟩
theorem afC:ahk.ok Tryz.prog 235:=⟨by unfold TI;kernel_rfl,Tryz.underlying235,rfl,λ_=>rfl⟩
theorem adS:aih.ok Tryz.prog 237:=⟨by unfold TI;kernel_rfl,⟨_,Tryz.underlying237,by kernel_rfl⟩,rfl,λ_=>rfl⟩
theorem af0:aic.ok Tryz.prog 240:=⟨by unfold TI;kernel_rfl,⟨_,Tryz.underlying240,by kernel_rfl⟩,rfl,λ_=>rfl⟩
theorem acI:ai8.ok Tryz.prog 247:=⟨by unfold TI;kernel_rfl,Tryz.underlying247,rfl,λ_=>rfl⟩
theorem ado:ahv.ok Tryz.prog 248:=⟨by unfold TI;kernel_rfl,Tryz.underlying248,rfl,λ_=>rfl⟩
theorem adL:aiK.ok Tryz.prog 250:=⟨by unfold TI;kernel_rfl,Tryz.underlying250,rfl,λ_=>rfl⟩
theorem KV:Wa.ok Tryz.prog 253:=⟨by unfold TI;kernel_rfl,⟨_,Tryz.underlying253,by kernel_rfl⟩,rfl,λ_=>rfl⟩
theorem MA:T6.ok Tryz.prog 254:=⟨by unfold TI;kernel_rfl,Tryz.underlying254,rfl,λ_=>rfl⟩
theorem aeH:agT.ok Tryz.prog 255:=⟨by unfold TI;kernel_rfl,Tryz.underlying255,rfl,λ_=>rfl⟩
theorem afN:aj3.ok Tryz.prog 267:=⟨by unfold TI;kernel_rfl,Tryz.underlying267,rfl,λ_=>rfl⟩
theorem ac5:ahQ.ok Tryz.prog 272:=⟨by unfold TI;kernel_rfl,Tryz.underlying272,rfl,λ_=>rfl⟩
theorem aeL:ahm.ok Tryz.prog 276:=⟨by unfold TI;kernel_rfl,⟨_,Tryz.underlying276,by kernel_rfl⟩,rfl,λ_=>rfl⟩
theorem OA:W0.ok Tryz.prog 297:=⟨by unfold TI;kernel_rfl,Tryz.underlying297,rfl,λ_=>rfl⟩
theorem abM:ahh.ok Tryz.prog 299:=⟨by unfold TI;kernel_rfl,Tryz.underlying299,rfl,λ_=>rfl⟩
theorem aju:Tb.ok (G8 tb) Tryz.prog:=Lc ⟨ZT,anr,anB,YG,akg,anc,alY,akU,amC,amq,akj,akC,akX,amW,amd,ama,alM,akF,alF,alN,amR,ak8,alE,am5,amJ,alW,akJ,aml,am1,aeu,aaz,afA,ada,acp,adv,aet,ac1,acL,adt,afO,af2,abI,afl,agx,adq,afi,aeK,acb,ab1,aeA,abn,aa6,aa2,acX,aeW,ae0,OC,adl,aaJ,abV,aa7,aaN,aej,afC,adS,af0,acI,ado,adL,KV,MA,aeH,afN,ac5,aeL,OA,abM,trivial⟩
def aoE(t:TypeId):Bool:=[40,89,153].any λk=>Nat.beq t k
theorem aqS:y6 Tryz.prog 40:=⟨by kernel_rfl,by kernel_rfl,by kernel_rfl⟩
theorem aq2:y6 Tryz.prog 89:=⟨by kernel_rfl,by kernel_rfl,by kernel_rfl⟩
theorem aoe:y6 Tryz.prog 153:=⟨by kernel_rfl,by kernel_rfl,by kernel_rfl⟩
theorem aoQ(t:TypeId)(h:aoE t=true):y6 Tryz.prog t:=by obtain⟨k,hk,he⟩:=ame.1 h;have:=amb he;subst this;simp only[aaK,afu,akQ]at hk;rcases hk with rfl|rfl|rfl<;>first|exact aqS|exact aq2|exact aoe
theorem aw:Tryz.prog.follows .mixedOrders=true:=by kernel_rfl
def cx0:Cx:=⟨λ_=>[],G8 tb,aoE,[],false,λ_=>none,0,none,[]⟩
abbrev Qq0(C:Cx):Prop:=C.ok Tryz.prog
def Qq1:Nat->An->An
 |0,a=>a
 |n+1,a=>.s .z (Qq1 n a)
theorem Qq2[Itr]{C:Cx}(hC:C.ok Tryz.prog){f:FuncId}{fn:Func}(hf:Tryz.prog.funcs[f]?=some fn)(hn:(fn.name == "runtime.NumGoroutine")=false)(an:An){ct:Ctr}(h:∀x,ct.fn x=aK C fn an ct.toSig x)(hs:(Nat.ble ct.ps.length fn.ntmps&&Nat.ble (sC ct.ps) 64)=true):ct.sound Tryz.prog f:=ai hC aw hf hn (an:=an) h hs
theorem Yp:Qq0 cx0:=⟨λ_ _ h=>(by cases h),aju,aoQ,λ_ h=>(by cases h),λ_ _ h=>(by cases h)⟩
section
variable [Itr]
def agX:An:=.s .z (.j ⟨[],[(0,.lf (.sc (.int .u64))),(2,.lf (.sc pi))],[],[]⟩ true .z (.j ⟨[],[(0,.lf (.sc (.int .u64))),(2,.lf (.sc pi))],[],[]⟩ true .z (.j ⟨[],[(0,.lf (.sc (.int .u64))),(2,.lf (.sc pi))],[],[]⟩ true .z .z)))
def H7:Ctr:=⟨⟨[.d (.sc (.int .u64))],[(.sc pi)],1,[],[]⟩,λx=>wV x⟩
def XK:Cx:=aD cx0 222 H7
theorem Mz:Qq0 XK:=am Yp (Qq2 Yp Tryz.func222 (by kernel_rfl) agX (λx=>by kernel_rfl) rfl)
def aiG:An:=.z
def IP:Ctr:=⟨⟨[.d (.sc (.int .u64))],[(.sc pi)],1,[],[]⟩,λx=>qw x⟩
def Uf:Cx:=aD XK 178 IP
theorem Lo:Qq0 Uf:=am Mz (Qq2 Mz Tryz.func178 (by kernel_rfl) aiG (λx=>by kernel_rfl) rfl)
def ahZ:An:=.z
def KG:Ctr:=⟨⟨[.d ah,.d ah],[(.sc pi)],1,[],[]⟩,λx=>dV x.1 x.2⟩
def TX:Cx:=aD Uf 124 KG
theorem MN:Qq0 TX:=am Lo (Qq2 Lo Tryz.func124 (by kernel_rfl) ahZ (λx=>by kernel_rfl) rfl)
def aiJ:An:=.s .z (.u (.l ⟨[0,1,2,3],[(8,.lf (.sc pi))],[(0,[.ownk ah 153 0])],[]⟩ (.s .z (.j ⟨[0,1,2,3,8],[],[(0,[.ownk ah 153 0])],[]⟩ true (.u (.s .z (.u (.l ⟨[0,1,2,3,8],[(9,.lf (.sc pi))],[(0,[.ownk ah 153 0])],[]⟩ .z)))) .z))))
def KA:Ctr:=⟨⟨[.prt ah 153,.d (.sc pi),.d (.sc pi),.fn 124],[(.slice ah)],0,[9856],[⟨some 4194304,false,false⟩]⟩,λx=>dn x.1 x.2.1 x.2.2.1⟩
def WH:Cx:=aD TX 213 KA
theorem Pt:Qq0 WH:=am MN (Qq2 MN Tryz.func213 (by kernel_rfl) aiJ (λx=>by kernel_rfl) rfl)
def ahK:An:=.s .z (.s .z (.u (.l ⟨[0,4],[(1,.lf (.sc pi)),(2,.lf (.sc pi)),(3,.lf (.sc pi)),(10,.lf (.sc .bool)),(11,.lf (.sc .bool))],[],[]⟩ (.u (Qq1 3 (.j ⟨[0,1,2,4,10,11,12],[(3,.lf (.sc pi))],[],[]⟩ true .z .z))))))
def JW:Ctr:=⟨⟨[.prt ah 153,.d (.sc pi),.d (.sc pi),.d (.sc pi),.fn 124],[(.slice ah)],0,[9856],[⟨some 4194304,false,false⟩]⟩,λx=>dR x.1 x.2.1 x.2.2.1 x.2.2.2.1⟩
def Wo:Cx:=aD WH 177 JW
theorem OY:Qq0 Wo:=am Pt (Qq2 Pt Tryz.func177 (by kernel_rfl) ahK (λx=>by kernel_rfl) rfl)
def ag0:An:=.z
def Iq:Ctr:=⟨⟨[.prt ah 153,.fn 124],[(.slice ah)],0,[9856],[⟨some 4194304,false,false⟩]⟩,λx=>cA x.1⟩
theorem L6:Iq.sound Tryz.prog 123:=Qq2 OY Tryz.func123 (by kernel_rfl) ag0 (λx=>by kernel_rfl) rfl
def Ts:Cx:=aD Wo 123 Iq
theorem Oj:Qq0 Ts:=am OY L6
end
end Go.Proofs.YtfhhiajfciblbaaGreatDoor
