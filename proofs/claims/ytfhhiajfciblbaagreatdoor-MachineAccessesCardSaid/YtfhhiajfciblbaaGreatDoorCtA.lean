/- Laws for the row. No condition. -/
import Derived.Test.YtfhhiajfciblbaaGreatDoorFn
import Derived.Test.YtfhhiajfciblbaaGreatDoorRows
namespace Go.Proofs.YtfhhiajfciblbaaGreatDoor
open Go.Sm
def c10:List Sp:=[.rep aP true [1000012],.rep (.sc pi) true [1000012],.rep (.sc pi) true [1000012],.rep az true [1000012],.rep az true [1000012],.rep (.sc .str) true [1000012],.rep (.sc .str) true [1000012],.rep (.sc .str) true [1000012],.sc pi,.sc pi,.sc pi,.own aG 1870727804774333205280220053689557385530553472647298 false [],.own (.sc pi) 3 false [],.own (.slice (.sc pi)) 360314358468706326 false [],.own (.sc pi) 3 false [],.own (.sc pi) 3 false [],.sc pi,.sc pi,.sc pi,.sc pi,.sc pi,.sc pi,.sc pi,.sc pi,.sc .str,.own aL 149 false []]
def c11:List Sp:=[.rep aP true [1000010],.rep (.sc pi) true [1000010],.rep (.sc pi) true [1000010],.rep az true [1000010],.rep az true [1000010],.rep (.sc .str) true [1000010],.rep (.sc .str) true [1000010],.rep (.sc .str) true [1000010],.sc pi,.sc pi,.sc pi,.own aG 1870727804774333205280220053689557385530553472647298 false [],.own (.sc pi) 3 false [],.own (.slice (.sc pi)) 360314358468706326 false [],.own (.sc pi) 3 false [],.own (.sc pi) 3 false [],.sc pi,.sc pi,.sc pi,.sc pi,.sc pi,.sc pi,.sc pi,.sc pi,.sc .str,.own aL 149 false []]
def c12:List Sp:=[.rep aP true [1000011],.rep (.sc pi) true [1000011],.rep (.sc pi) true [1000011],.rep az true [1000011],.rep az true [1000011],.rep (.sc .str) true [1000011],.rep (.sc .str) true [1000011],.rep (.sc .str) true [1000011],.sc pi,.sc pi,.sc pi,.own aV 1870727804774333205280220053632888987722923590549622 false [],.own (.sc pi) 3 false [],.own (.slice (.sc pi)) 360314358468706326 false [],.own (.sc pi) 3 false [],.own (.sc pi) 3 false [],.sc pi,.sc pi,.sc pi,.sc pi,.sc pi,.sc pi,.sc pi,.sc pi,.sc .str,.mp ae (.sc .bool)]
def c13:List Sp:=[.rep aP true [1000012],.rep (.sc pi) true [1000012],.rep (.sc pi) true [1000012],.rep az true [1000012],.rep az true [1000012],.rep (.sc .str) true [1000012],.rep (.sc .str) true [1000012],.rep (.sc .str) true [1000012],.sc pi,.sc pi,.sc pi,.own aV 1870727804774333205280220053632888987722923590549622 false [],.own (.sc pi) 3 false [],.rep (.slice (.sc pi)) true [1000012],.own (.sc pi) 3 false [],.own (.sc pi) 3 false [],.sc pi,.sc pi,.sc pi,.sc pi,.sc pi,.sc pi,.sc pi,.sc pi,.sc .str,.mp ae (.sc .bool)]
def c14:List Sp:=[.rep aP true [1000000],.rep (.sc pi) true [1000000],.rep (.sc pi) true [1000000],.rep az true [1000000],.rep az true [1000000],.rep (.sc .str) true [1000000],.rep (.sc .str) true [1000000],.rep (.sc .str) true [1000000],.sc pi,.sc pi,.sc pi,.ownk aV 1870727804774333205280220053632888987722923590549622 9,.own (.sc pi) 3 false [],.rep (.slice (.sc pi)) true [1000000],.own (.sc pi) 3 false [],.own (.sc pi) 3 false [],.sc pi,.sc pi,.sc pi,.sc pi,.sc pi,.sc pi,.sc pi,.sc pi,.sc .str,.mp ae (.sc .bool)]
def c15:List Sp:=[.rep aP true [],.rep (.sc pi) true [],.rep (.sc pi) true [],.rep az true [],.rep az true [],.rep (.sc .str) true [],.rep (.sc .str) true [],.rep (.sc .str) true [],.sc pi,.sc pi,.sc pi,.own aG 1870727804774333205280220053689557385530553472647298 false [],.own (.sc pi) 3 false [],.own (.slice (.sc pi)) 360314358468706326 false [],.own (.sc pi) 3 false [],.own (.sc pi) 3 false [],.sc pi,.sc pi,.sc pi,.sc pi,.sc pi,.sc pi,.sc pi,.sc pi,.sc .str,.own aL 149 false []]
def c16:List Sp:=[.rep aP true [],.rep (.sc pi) true [],.rep (.sc pi) true [],.rep az true [],.rep az true [],.rep (.sc .str) true [],.rep (.sc .str) true [],.rep (.sc .str) true [],.sc pi,.sc pi,.sc pi,.own aV 1870727804774333205280220053632888987722923590549622 false [],.own (.sc pi) 3 false [],.own (.slice (.sc pi)) 360314358468706326 false [],.own (.sc pi) 3 false [],.own (.sc pi) 3 false [],.sc pi,.sc pi,.sc pi,.sc pi,.sc pi,.sc pi,.sc pi,.sc pi,.sc .str,.mp ae (.sc .bool)]
def c17:List Sp:=[.rep aP true [],.rep (.sc pi) true [],.rep (.sc pi) true [],.rep az true [],.rep az true [],.rep (.sc .str) true [],.rep (.sc .str) true [],.rep (.sc .str) true [],.sc pi,.sc pi,.sc pi,.ownk aV 1870727804774333205280220053632888987722923590549622 9,.own (.sc pi) 3 false [],.rep (.slice (.sc pi)) true [],.own (.sc pi) 3 false [],.own (.sc pi) 3 false [],.sc pi,.sc pi,.sc pi,.sc pi,.sc pi,.sc pi,.sc pi,.sc pi,.sc .str,.mp ae (.sc .bool)]
def c18:List Sp:=[.own aG 1870727804774333205280220053689557385530553472647298 false [],.own (.sc pi) 3 false [],.own (.slice (.sc pi)) 360314358468706326 false [],.rep (.sc pi) true [1000003],.rep (.sc pi) true [1000003],.sc pi,.sc pi,.sc pi,.sc pi,.sc pi,.sc pi,.sc pi,.sc pi,.sc .str]
def c19:List Sp:=[.own aV 1870727804774333205280220053632888987722923590549622 false [],.own (.sc pi) 3 false [],.pt (.slice (.sc pi)) 360314358468706326 true [1000001],.own (.sc pi) 3 false [],.own (.sc pi) 3 false [],.sc pi,.sc pi,.sc pi,.sc pi,.sc pi,.sc pi,.sc pi,.sc pi,.sc .str]
def c20:List Sp:=[.own aG 1870727804774333205280220053689557385530553472647298 false [],.own (.sc pi) 3 false [],.own (.slice (.sc pi)) 360314358468706326 false [],.own (.sc pi) 3 false [],.own (.sc pi) 3 false [],.sc pi,.sc pi,.sc pi,.sc pi,.sc pi,.sc pi,.sc pi,.sc pi,.sc .str]
def c21:List Sp:=[.own aV 1870727804774333205280220053632888987722923590549622 false [],.own (.sc pi) 3 false [],.rep (.slice (.sc pi)) false [1000004,1000005],.own (.sc pi) 3 false [],.own (.sc pi) 3 false [],.sc pi,.sc pi,.sc pi,.sc pi,.sc pi,.sc pi,.sc pi,.sc pi,.sc .str]
def c22:List Sp:=[.own aG 1870727804774333205280220053689557385530553472647298 false [],.rep (.sc pi) true [],.rep (.slice (.sc pi)) true [],.rep (.sc pi) true [],.rep (.sc pi) true [],.sc pi,.sc pi,.sc pi,.sc pi,.sc pi,.sc pi,.sc pi,.sc pi,.sc .str]
def c23:List Sp:=[.pt aV 1870727804774333205280220053632888987722923590549622 true [],.rep (.sc pi) true [],.rep (.slice (.sc pi)) true [],.rep (.sc pi) true [],.rep (.sc pi) true [],.sc pi,.sc pi,.sc pi,.sc pi,.sc pi,.sc pi,.sc pi,.sc pi,.sc .str]
def c24:List Sp:=[.own aV 118 false [1000024],.own (.sc pi) 3 false [],.own (.slice (.sc pi)) 360314358468706326 false [],.own (.sc pi) 3 false [],.own (.sc pi) 3 false [],.sc pi,.sc pi,.sc pi,.sc pi,.sc pi,.sc pi,.sc pi,.sc pi,.sc .str]
def c25:List Sp:=[.own aV 118 false [1000003],.own (.sc pi) 3 false [],.own (.slice (.sc pi)) 360314358468706326 false [],.own (.sc pi) 3 false [],.own (.sc pi) 3 false [],.sc pi,.sc pi,.sc pi,.sc pi,.sc pi,.sc pi,.sc pi,.sc pi,.sc .str]
def c26:List Sp:=[.own aG 130 true [],.rep (.sc pi) true [],.rep (.slice (.sc pi)) true [],.rep (.sc pi) true [],.rep (.sc pi) true [],.sc pi,.sc pi,.sc pi,.sc pi,.sc pi,.sc pi,.sc pi,.sc pi,.sc .str]
def c27:List Sp:=[.own aP 99 false [],.own (.sc pi) 3 false [],.own (.sc pi) 3 false [],.rep az false [1000011],.rep az false [1000011],.rep (.sc .str) false [1000011],.rep (.sc .str) false [1000011],.rep (.sc .str) false [1000011],.own (.sc .str) 9 false [],.sc pi]
def c28:List Sp:=[.own aP 99 false [],.own (.sc pi) 3 false [],.own (.sc pi) 3 false [],.rep az true [1000000],.rep az true [1000000],.rep (.sc .str) true [1000000],.rep (.sc .str) true [1000000],.rep (.sc .str) true [1000000],.own (.sc .str) 9 false [],.sc pi]
def c29:List Sp:=[.own aP 99 false [],.own (.sc pi) 3 false [],.own (.sc pi) 3 false [],.rep az false [],.rep az false [],.rep (.sc .str) false [],.rep (.sc .str) false [],.rep (.sc .str) false [],.own (.sc .str) 9 false [],.sc pi]
def c30:List Sp:=[.own aP 99 false [],.own (.sc pi) 3 false [],.own (.sc pi) 3 false [],.rep az true [],.rep az true [],.rep (.sc .str) true [],.rep (.sc .str) true [],.rep (.sc .str) true [],.own (.sc .str) 9 false [],.sc pi]
def c31:List Sp:=[.own aP 99 false [],.own (.sc pi) 3 false [],.own (.sc pi) 3 false [],.own az 101 false [],.own az 101 false [],.own (.sc .str) 9 false [],.own (.sc .str) 9 false [],.own (.sc .str) 9 false []]
def c32:List PC:=[.box true aX [none,none,none,none,none,none,none,none,some 1870727804774333205280220053689557385530553472647298,some 3,some 360314358468706326,some 3,some 3,some 149],.d (.sc pi),.d (.sc pi)]
def c33:List PC:=[.box true cV [none,none,none,none,none,none,none,none,some 1870727804774333205280220053632888987722923590549622,some 3,some 360314358468706326,some 3,some 3,some 0],.d (.sc pi),.d (.sc pi)]
def c34:List PC:=[.box true aX [none,none,none,none,none,none,none,none,some 1870727804774333205280220053689557385530553472647298,some 3,some 360314358468706326,some 3,some 3,some 149],.d aP,.d (.sc pi)]
def c35:List PC:=[.box true aX [none,none,none,none,none,none,none,none,some 1870727804774333205280220053689557385530553472647298,some 3,some 360314358468706326,some 3,some 3,some 149],.d (.sc pi)]
def c36:List Sp:=[.pt cN 1547425049178910481010655346 true [14],.own (.sc pi) 3 false [],.sc pi,.sc .bool]
def c37:List Sp:=[.own co 1547425049178923675150188670 false [],.own (.sc pi) 3 false [],.sc pi,.sc .bool]
def c38:List Sp:=[.own cN 114 false [1000003],.rep (.sc pi) false [1000003],.sc pi,.sc .bool]
def c39:List Sp:=[.sc pi,.sc pi,.sc pi,.own (.sc pi) 3 false []]
def c40:List Sp:=[.own co 126 true [],.rep (.sc pi) true [],.sc pi,.sc .bool]
def c41:List PC:=[.box true bo [some 99,some 3,some 3,none,none,none,none,none,some 9],.d bJ]
def c42:List Sp:=[.sc pi,.sc .str,.sc pi,.rep .node false [1000003]]
def c43:List Sp:=[.sc .str,.own bA 240 false [],.sc pi,.sc .bool,.sc .bool]
def c44:List Sp:=[.sc pi,.sc .str,.sc pi,.own .node 169 false []]
def c45:List PC:=[.box true aJ [some 240],.d (.sc .str)]
def c46:List PC:=[.box false aX [],.d (.sc pi)]
def c47:List PC:=[.box true aJ [some 240]]
set_option maxRecDepth 100000
set_option linter.unusedSectionVars false
instance:GTab:=⟨[⟨0,nz,sV⟩]⟩
def ti3:TInf:=⟨.int .i64,1,8,[.c pi (0:Int)],(.sc pi)⟩
def ti4:TInf:=⟨.bool,1,1,[.c .bool false],(.sc .bool)⟩
def ti5:TInf:=⟨.int .u8,1,1,[.c (.int .u8) (0:Int)],(.sc (.int .u8))⟩
def ti9:TInf:=⟨.str,1,16,[.c .str ([]:List UInt8)],(.sc .str)⟩
def agY:TInf:=⟨.slice 3,1,24,[.nl],(.slice (.sc pi))⟩
def aiN:TInf:=⟨.st [(3,0),(3,1),(3,2)],3,24,[.c pi (0:Int),.c pi (0:Int),.c pi (0:Int)],fQ⟩
def ahc:TInf:=⟨.slice 99,1,24,[.nl],(.slice aP)⟩
def ais:TInf:=⟨.slice 101,1,24,[.nl],(.slice az)⟩
def ah5:TInf:=⟨.slice 9,1,24,[.nl],(.slice (.sc .str))⟩
def ahE:TInf:=⟨.st [(25,0),(22,1),(22,2),(26,3),(26,4),(27,5),(27,6),(27,7)],8,192,[.nl,.nl,.nl,.nl,.nl,.nl,.nl,.nl],bB⟩
def ajQ:TInf:=⟨.other,1,8,[.v (.nilFunc)],(.sc .fnc)⟩
def aiu:TInf:=⟨.slice 118,1,24,[.nl],(.slice aV)⟩
def ajF:TInf:=⟨.slice 22,1,24,[.nl],(.slice (.slice (.sc pi)))⟩
def ait:TInf:=⟨.st [(3,0),(3,1),(3,2)],3,24,[.c pi (0:Int),.c pi (0:Int),.c pi (0:Int)],xv⟩
def aiO:TInf:=⟨.st [(37,0),(22,1),(38,2),(22,3),(22,4),(3,5),(3,6),(40,7),(3,10),(3,11),(3,12),(9,13)],14,200,[.nl,.nl,.nl,.nl,.nl,.c pi (0:Int),.c pi (0:Int),.c pi (0:Int),.c pi (0:Int),.c pi (0:Int),.c pi (0:Int),.c pi (0:Int),.c pi (0:Int),.c .str ([]:List UInt8)],dA⟩
def ajH:TInf:=⟨.int .i64,1,8,[.c pi (0:Int)],(.sc pi)⟩
def ah8:TInf:=⟨.st [(25,0),(22,1),(22,2),(26,3),(26,4),(27,5),(27,6),(27,7)],8,192,[.nl,.nl,.nl,.nl,.nl,.nl,.nl,.nl],eX⟩
def aha:TInf:=⟨.slice 130,1,24,[.nl],(.slice aG)⟩
def ajE:TInf:=⟨.st [(48,0),(22,1),(38,2),(22,3),(22,4),(3,5),(3,6),(40,7),(3,10),(3,11),(3,12),(9,13)],14,200,[.nl,.nl,.nl,.nl,.nl,.c pi (0:Int),.c pi (0:Int),.c pi (0:Int),.c pi (0:Int),.c pi (0:Int),.c pi (0:Int),.c pi (0:Int),.c pi (0:Int),.c .str ([]:List UInt8)],ce⟩
def ajM:TInf:=⟨.st [(3,0),(3,1),(3,2),(22,3)],4,48,[.c pi (0:Int),.c pi (0:Int),.c pi (0:Int),.nl],oz⟩
def aih:TInf:=⟨.st [(3,0),(3,1),(3,2),(22,3)],4,48,[.c pi (0:Int),.c pi (0:Int),.c pi (0:Int),.nl],f6⟩
def aiA:TInf:=⟨.slice 153,1,24,[.nl],(.slice ae)⟩
def ajP:TInf:=⟨.slice 149,1,24,[.nl],(.slice aL)⟩
def ajn:TInf:=⟨.slice 5,1,24,[.nl],(.slice (.sc (.int .u8)))⟩
def ajv:TInf:=⟨.slice 132,1,24,[.nl],(.slice cu)⟩
def ajB:TInf:=⟨.st [(3,0),(3,1),(3,2)],3,24,[.c pi (0:Int),.c pi (0:Int),.c pi (0:Int)],aP⟩
def abM:TInf:=⟨.st [(9,0),(3,1)],2,24,[.c .str ([]:List UInt8),.c pi (0:Int)],az⟩
def acN:TInf:=⟨.other,1,8,[.v (.nilFunc)],(.sc .fnc)⟩
def acJ:TInf:=⟨.ptr 112,1,8,[.v (.pointer none)],.unit⟩
def abz:TInf:=⟨.map 153 4,1,8,[.v (.map none)],(.mp ae (.sc .bool))⟩
def aen:TInf:=⟨.st [(46,0),(24,8),(42,11),(110,25)],26,424,[.nl,.nl,.nl,.nl,.nl,.nl,.nl,.nl,.c pi (0:Int),.c pi (0:Int),.c pi (0:Int),.nl,.nl,.nl,.nl,.nl,.c pi (0:Int),.c pi (0:Int),.c pi (0:Int),.c pi (0:Int),.c pi (0:Int),.c pi (0:Int),.c pi (0:Int),.c pi (0:Int),.c .str ([]:List UInt8),.v (.map none)],cV⟩
def ab1:TInf:=⟨.st [(3,0),(22,1)],2,32,[.c pi (0:Int),.nl],cN⟩
def adT:TInf:=⟨.slice 114,1,24,[.nl],(.slice cN)⟩
def acg:TInf:=⟨.st [(116,0),(22,1),(3,2),(4,3)],4,64,[.nl,.nl,.c pi (0:Int),.c .bool false],aV⟩
def adF:TInf:=⟨.ptr 123,1,8,[.v (.pointer none)],.unit⟩
def ack:TInf:=⟨.st [(29,0),(24,8),(50,11),(71,25)],26,440,[.nl,.nl,.nl,.nl,.nl,.nl,.nl,.nl,.c pi (0:Int),.c pi (0:Int),.c pi (0:Int),.nl,.nl,.nl,.nl,.nl,.c pi (0:Int),.c pi (0:Int),.c pi (0:Int),.c pi (0:Int),.c pi (0:Int),.c pi (0:Int),.c pi (0:Int),.c pi (0:Int),.c .str ([]:List UInt8),.nl],aX⟩
def ab4:TInf:=⟨.st [(3,0),(22,1)],2,32,[.c pi (0:Int),.nl],co⟩
def abl:TInf:=⟨.slice 126,1,24,[.nl],(.slice co)⟩
def adv:TInf:=⟨.st [(128,0),(22,1),(3,2),(4,3)],4,64,[.nl,.nl,.c pi (0:Int),.c .bool false],aG⟩
def adj:TInf:=⟨.st [(9,0),(9,1)],2,32,[.c .str ([]:List UInt8),.c .str ([]:List UInt8)],cu⟩
def ad4:TInf:=⟨.ptr 118,1,8,[.v (.pointer none)],.unit⟩
def acD:TInf:=⟨.st [(3,0),(3,1),(4,2)],3,24,[.c pi (0:Int),.c pi (0:Int),.c .bool false],aL⟩
def abg:TInf:=⟨.st [(3,0),(3,1),(4,2)],3,24,[.c pi (0:Int),.c pi (0:Int),.c .bool false],ae⟩
def ad8:TInf:=⟨.slice 169,1,24,[.nl],(.slice .node)⟩
def ac4:TInf:=⟨.st [(3,0),(9,1),(3,2),(167,3)],4,56,[.c pi (0:Int),.c .str ([]:List UInt8),.c pi (0:Int),.nl],.node⟩
def adG:TInf:=⟨.ptr 176,1,8,[.v (.pointer none)],.unit⟩
def adJ:TInf:=⟨.st [(29,0),(27,8),(3,9)],10,224,[.nl,.nl,.nl,.nl,.nl,.nl,.nl,.nl,.nl,.c pi (0:Int)],bo⟩
def abZ:TInf:=⟨.slice 185,1,24,[.nl],(.slice mz)⟩
def acG:TInf:=⟨.st [(3,0),(3,1),(3,2)],3,24,[.c pi (0:Int),.c pi (0:Int),.c pi (0:Int)],mz⟩
def abq:TInf:=⟨.ptr 114,1,8,[.v (.pointer none)],.unit⟩
def ads:TInf:=⟨.other,1,8,[.v (.nilFunc)],(.sc .fnc)⟩
def acS:TInf:=⟨.int .u64,1,8,[.c (.int .u64) (0:Int)],(.sc (.int .u64))⟩
def adZ:TInf:=⟨.slice 240,1,24,[.nl],(.slice bA)⟩
def adW:TInf:=⟨.ptr 237,1,8,[.v (.pointer none)],.unit⟩
def abn:TInf:=⟨.st [(9,0),(232,1),(3,2),(4,3),(4,4)],5,56,[.c .str ([]:List UInt8),.nl,.c pi (0:Int),.c .bool false,.c .bool false],aJ⟩
def adU:TInf:=⟨.st [(3,0),(3,1)],2,16,[.c pi (0:Int),.c pi (0:Int)],bA⟩
def ad9:TInf:=⟨.arr 3 9,3,48,[.ar 3 .str ([]:List (List UInt8))],(.arr 3 .str)⟩
def ab0:TInf:=⟨.slice 247,1,24,[.nl],(.slice (.arr 3 .str))⟩
def adK:TInf:=⟨.slice 27,1,24,[.nl],(.slice (.slice (.sc .str)))⟩
def SF:TInf:=⟨.st [(9,0),(3,1)],2,24,[.c .str ([]:List UInt8),.c pi (0:Int)],nz⟩
def S5:TInf:=⟨.arr 29 253,58,696,[.c .str ([]:List UInt8),.c pi (0:Int),.c .str ([]:List UInt8),.c pi (0:Int),.c .str ([]:List UInt8),.c pi (0:Int),.c .str ([]:List UInt8),.c pi (0:Int),.c .str ([]:List UInt8),.c pi (0:Int),.c .str ([]:List UInt8),.c pi (0:Int),.c .str ([]:List UInt8),.c pi (0:Int),.c .str ([]:List UInt8),.c pi (0:Int),.c .str ([]:List UInt8),.c pi (0:Int),.c .str ([]:List UInt8),.c pi (0:Int),.c .str ([]:List UInt8),.c pi (0:Int),.c .str ([]:List UInt8),.c pi (0:Int),.c .str ([]:List UInt8),.c pi (0:Int),.c .str ([]:List UInt8),.c pi (0:Int),.c .str ([]:List UInt8),.c pi (0:Int),.c .str ([]:List UInt8),.c pi (0:Int),.c .str ([]:List UInt8),.c pi (0:Int),.c .str ([]:List UInt8),.c pi (0:Int),.c .str ([]:List UInt8),.c pi (0:Int),.c .str ([]:List UInt8),.c pi (0:Int),.c .str ([]:List UInt8),.c pi (0:Int),.c .str ([]:List UInt8),.c pi (0:Int),.c .str ([]:List UInt8),.c pi (0:Int),.c .str ([]:List UInt8),.c pi (0:Int),.c .str ([]:List UInt8),.c pi (0:Int),.c .str ([]:List UInt8),.c pi (0:Int),.c .str ([]:List UInt8),.c pi (0:Int),.c .str ([]:List UInt8),.c pi (0:Int),.c .str ([]:List UInt8),.c pi (0:Int)],.unit⟩
def adw:TInf:=⟨.map 3 36,1,8,[.v (.map none)],(.mp (.sc pi) (.sc .fnc))⟩
def acu:TInf:=⟨.int .u64,1,8,[.c (.int .u64) (0:Int)],(.sc (.int .u64))⟩
def ace:TInf:=⟨.slice 276,1,24,[.nl],(.slice fJ)⟩
def adC:TInf:=⟨.st [(3,0),(3,1),(9,2),(9,3)],4,48,[.c pi (0:Int),.c pi (0:Int),.c .str ([]:List UInt8),.c .str ([]:List UInt8)],fJ⟩
def tb:List (TypeId×TInf):=[(3,ti3),(4,ti4),(5,ti5),(9,ti9),(22,agY),(24,aiN),(25,ahc),(26,ais),(27,ah5),(29,ahE),(36,ajQ),(37,aiu),(38,ajF),(40,ait),(42,aiO),(43,ajH),(46,ah8),(48,aha),(50,ajE),(58,ajM),(62,aih),(68,aiA),(71,ajP),(85,ajn),(96,ajv),(99,ajB),(101,abM),(106,acN),(108,acJ),(110,abz),(112,aen),(114,ab1),(116,adT),(118,acg),(121,adF),(123,ack),(126,ab4),(128,abl),(130,adv),(132,adj),(144,ad4),(149,acD),(153,abg),(167,ad8),(169,ac4),(173,adG),(176,adJ),(182,abZ),(185,acG),(197,abq),(209,ads),(220,acS),(232,adZ),(235,adW),(237,abn),(240,adU),(247,ad9),(248,ab0),(250,adK),(253,SF),(254,S5),(255,adw),(267,acu),(272,ace),(276,adC)]
theorem UX:ti3.ok Tryz.prog 3:=⟨by unfold TI; kernel_rfl,Tryz.underlying3,rfl,fun _=>rfl⟩
theorem ajR:ti4.ok Tryz.prog 4:=⟨by unfold TI; kernel_rfl,Tryz.underlying4,rfl,fun _=>rfl⟩
theorem ahJ:ti5.ok Tryz.prog 5:=⟨by unfold TI; kernel_rfl,Tryz.underlying5,rfl,fun _=>rfl⟩
theorem VL:ti9.ok Tryz.prog 9:=⟨by unfold TI; kernel_rfl,Tryz.underlying9,rfl,fun _=>rfl⟩
theorem ae4:agY.ok Tryz.prog 22:=⟨by unfold TI; kernel_rfl,Tryz.underlying22,rfl,fun _=>rfl⟩
theorem afn:aiN.ok Tryz.prog 24:=⟨by unfold TI; kernel_rfl,⟨_,Tryz.underlying24,by kernel_rfl⟩,rfl,fun _=>rfl⟩
theorem afS:ahc.ok Tryz.prog 25:=⟨by unfold TI; kernel_rfl,Tryz.underlying25,rfl,fun _=>rfl⟩
theorem aes:ais.ok Tryz.prog 26:=⟨by unfold TI; kernel_rfl,Tryz.underlying26,rfl,fun _=>rfl⟩
theorem aeo:ah5.ok Tryz.prog 27:=⟨by unfold TI; kernel_rfl,Tryz.underlying27,rfl,fun _=>rfl⟩
theorem afk:ahE.ok Tryz.prog 29:=⟨by unfold TI; kernel_rfl,⟨_,Tryz.underlying29,by kernel_rfl⟩,rfl,fun _=>rfl⟩
theorem afg:ajQ.ok Tryz.prog 36:=⟨by unfold TI; kernel_rfl,⟨_,Tryz.underlying36,rfl⟩,rfl,fun _=>rfl⟩
theorem afF:aiu.ok Tryz.prog 37:=⟨by unfold TI; kernel_rfl,Tryz.underlying37,rfl,fun _=>rfl⟩
theorem agk:ajF.ok Tryz.prog 38:=⟨by unfold TI; kernel_rfl,Tryz.underlying38,rfl,fun _=>rfl⟩
theorem aeE:ait.ok Tryz.prog 40:=⟨by unfold TI; kernel_rfl,⟨_,Tryz.underlying40,by kernel_rfl⟩,rfl,fun _=>rfl⟩
theorem afi:aiO.ok Tryz.prog 42:=⟨by unfold TI; kernel_rfl,⟨_,Tryz.underlying42,by kernel_rfl⟩,rfl,fun _=>rfl⟩
theorem aeC:ajH.ok Tryz.prog 43:=⟨by unfold TI; kernel_rfl,Tryz.underlying43,rfl,fun _=>rfl⟩
theorem agR:ah8.ok Tryz.prog 46:=⟨by unfold TI; kernel_rfl,⟨_,Tryz.underlying46,by kernel_rfl⟩,rfl,fun _=>rfl⟩
theorem af0:aha.ok Tryz.prog 48:=⟨by unfold TI; kernel_rfl,Tryz.underlying48,rfl,fun _=>rfl⟩
theorem afh:ajE.ok Tryz.prog 50:=⟨by unfold TI; kernel_rfl,⟨_,Tryz.underlying50,by kernel_rfl⟩,rfl,fun _=>rfl⟩
theorem afo:ajM.ok Tryz.prog 58:=⟨by unfold TI; kernel_rfl,⟨_,Tryz.underlying58,by kernel_rfl⟩,rfl,fun _=>rfl⟩
theorem agA:aih.ok Tryz.prog 62:=⟨by unfold TI; kernel_rfl,⟨_,Tryz.underlying62,by kernel_rfl⟩,rfl,fun _=>rfl⟩
theorem agq:aiA.ok Tryz.prog 68:=⟨by unfold TI; kernel_rfl,Tryz.underlying68,rfl,fun _=>rfl⟩
theorem agT:ajP.ok Tryz.prog 71:=⟨by unfold TI; kernel_rfl,Tryz.underlying71,rfl,fun _=>rfl⟩
theorem afd:ajn.ok Tryz.prog 85:=⟨by unfold TI; kernel_rfl,Tryz.underlying85,rfl,fun _=>rfl⟩
theorem ae7:ajv.ok Tryz.prog 96:=⟨by unfold TI; kernel_rfl,Tryz.underlying96,rfl,fun _=>rfl⟩
theorem aeH:ajB.ok Tryz.prog 99:=⟨by unfold TI; kernel_rfl,⟨_,Tryz.underlying99,by kernel_rfl⟩,rfl,fun _=>rfl⟩
theorem aar:abM.ok Tryz.prog 101:=⟨by unfold TI; kernel_rfl,⟨_,Tryz.underlying101,by kernel_rfl⟩,rfl,fun _=>rfl⟩
theorem aaK:acN.ok Tryz.prog 106:=⟨by unfold TI; kernel_rfl,⟨_,Tryz.underlying106,rfl⟩,rfl,fun _=>rfl⟩
theorem YG:acJ.ok Tryz.prog 108:=⟨by unfold TI; kernel_rfl,Tryz.underlying108,rfl,fun _=>rfl⟩
theorem Ym:abz.ok Tryz.prog 110:=⟨by unfold TI; kernel_rfl,Tryz.underlying110,rfl,fun _=>rfl⟩
theorem WE:aen.ok Tryz.prog 112:=⟨by unfold TI; kernel_rfl,⟨_,Tryz.underlying112,by kernel_rfl⟩,rfl,fun _=>rfl⟩
theorem Y0:ab1.ok Tryz.prog 114:=⟨by unfold TI; kernel_rfl,⟨_,Tryz.underlying114,by kernel_rfl⟩,rfl,fun _=>rfl⟩
theorem aa6:adT.ok Tryz.prog 116:=⟨by unfold TI; kernel_rfl,Tryz.underlying116,rfl,fun _=>rfl⟩
theorem Yn:acg.ok Tryz.prog 118:=⟨by unfold TI; kernel_rfl,⟨_,Tryz.underlying118,by kernel_rfl⟩,rfl,fun _=>rfl⟩
theorem WJ:adF.ok Tryz.prog 121:=⟨by unfold TI; kernel_rfl,Tryz.underlying121,rfl,fun _=>rfl⟩
theorem WC:ack.ok Tryz.prog 123:=⟨by unfold TI; kernel_rfl,⟨_,Tryz.underlying123,by kernel_rfl⟩,rfl,fun _=>rfl⟩
theorem X8:ab4.ok Tryz.prog 126:=⟨by unfold TI; kernel_rfl,⟨_,Tryz.underlying126,by kernel_rfl⟩,rfl,fun _=>rfl⟩
theorem WH:abl.ok Tryz.prog 128:=⟨by unfold TI; kernel_rfl,Tryz.underlying128,rfl,fun _=>rfl⟩
theorem Zk:adv.ok Tryz.prog 130:=⟨by unfold TI; kernel_rfl,⟨_,Tryz.underlying130,by kernel_rfl⟩,rfl,fun _=>rfl⟩
theorem WY:adj.ok Tryz.prog 132:=⟨by unfold TI; kernel_rfl,⟨_,Tryz.underlying132,by kernel_rfl⟩,rfl,fun _=>rfl⟩
theorem ZM:ad4.ok Tryz.prog 144:=⟨by unfold TI; kernel_rfl,Tryz.underlying144,rfl,fun _=>rfl⟩
theorem aai:acD.ok Tryz.prog 149:=⟨by unfold TI; kernel_rfl,⟨_,Tryz.underlying149,by kernel_rfl⟩,rfl,fun _=>rfl⟩
theorem YM:abg.ok Tryz.prog 153:=⟨by unfold TI; kernel_rfl,⟨_,Tryz.underlying153,by kernel_rfl⟩,rfl,fun _=>rfl⟩
theorem ZF:ad8.ok Tryz.prog 167:=⟨by unfold TI; kernel_rfl,Tryz.underlying167,rfl,fun _=>rfl⟩
theorem Z2:ac4.ok Tryz.prog 169:=⟨by unfold TI; kernel_rfl,⟨_,Tryz.underlying169,by kernel_rfl⟩,rfl,fun _=>rfl⟩
theorem aba:adG.ok Tryz.prog 173:=⟨by unfold TI; kernel_rfl,Tryz.underlying173,rfl,fun _=>rfl⟩
theorem YV:adJ.ok Tryz.prog 176:=⟨by unfold TI; kernel_rfl,⟨_,Tryz.underlying176,by kernel_rfl⟩,rfl,fun _=>rfl⟩
theorem XL:abZ.ok Tryz.prog 182:=⟨by unfold TI; kernel_rfl,Tryz.underlying182,rfl,fun _=>rfl⟩
theorem Y3:acG.ok Tryz.prog 185:=⟨by unfold TI; kernel_rfl,⟨_,Tryz.underlying185,by kernel_rfl⟩,rfl,fun _=>rfl⟩
theorem WB:abq.ok Tryz.prog 197:=⟨by unfold TI; kernel_rfl,Tryz.underlying197,rfl,fun _=>rfl⟩
theorem ZI:ads.ok Tryz.prog 209:=⟨by unfold TI; kernel_rfl,⟨_,Tryz.underlying209,rfl⟩,rfl,fun _=>rfl⟩
theorem WN:acS.ok Tryz.prog 220:=⟨by unfold TI; kernel_rfl,Tryz.underlying220,rfl,fun _=>rfl⟩
theorem aaL:adZ.ok Tryz.prog 232:=⟨by unfold TI; kernel_rfl,Tryz.underlying232,rfl,fun _=>rfl⟩
theorem aab:adW.ok Tryz.prog 235:=⟨by unfold TI; kernel_rfl,Tryz.underlying235,rfl,fun _=>rfl⟩
theorem XC:abn.ok Tryz.prog 237:=⟨by unfold TI; kernel_rfl,⟨_,Tryz.underlying237,by kernel_rfl⟩,rfl,fun _=>rfl⟩
theorem YI:adU.ok Tryz.prog 240:=⟨by unfold TI; kernel_rfl,⟨_,Tryz.underlying240,by kernel_rfl⟩,rfl,fun _=>rfl⟩
theorem aa0:ad9.ok Tryz.prog 247:=⟨by unfold TI; kernel_rfl,Tryz.underlying247,rfl,fun _=>rfl⟩
theorem X9:ab0.ok Tryz.prog 248:=⟨by unfold TI; kernel_rfl,Tryz.underlying248,rfl,fun _=>rfl⟩
theorem Zc:adK.ok Tryz.prog 250:=⟨by unfold TI; kernel_rfl,Tryz.underlying250,rfl,fun _=>rfl⟩
theorem Js:SF.ok Tryz.prog 253:=⟨by unfold TI; kernel_rfl,⟨_,Tryz.underlying253,by kernel_rfl⟩,rfl,fun _=>rfl⟩
theorem J1:S5.ok Tryz.prog 254:=⟨by unfold TI; kernel_rfl,Tryz.underlying254,rfl,fun _=>rfl⟩
theorem ZN:adw.ok Tryz.prog 255:=⟨by unfold TI; kernel_rfl,Tryz.underlying255,rfl,fun _=>rfl⟩
theorem aag:acu.ok Tryz.prog 267:=⟨by unfold TI; kernel_rfl,Tryz.underlying267,rfl,fun _=>rfl⟩
theorem aal:ace.ok Tryz.prog 272:=⟨by unfold TI; kernel_rfl,Tryz.underlying272,rfl,fun _=>rfl⟩
theorem Xt:adC.ok Tryz.prog 276:=⟨by unfold TI; kernel_rfl,⟨_,Tryz.underlying276,by kernel_rfl⟩,rfl,fun _=>rfl⟩
theorem acp:Tb.ok (FN tb) Tryz.prog:=Kj ⟨UX,ajR,ahJ,VL,ae4,afn,afS,aes,aeo,afk,afg,afF,agk,aeE,afi,aeC,agR,af0,afh,afo,agA,agq,agT,afd,ae7,aeH,aar,aaK,YG,Ym,WE,Y0,aa6,Yn,WJ,WC,X8,WH,Zk,WY,ZM,aai,YM,ZF,Z2,aba,YV,XL,Y3,WB,ZI,WN,aaL,aab,XC,YI,aa0,X9,Zc,Js,J1,ZN,aag,aal,Xt,trivial⟩
def ahe (t:TypeId):Bool:=[40,149,153].any fun k=>Nat.beq t k
theorem akp:xB Tryz.prog 40:=⟨by kernel_rfl,by kernel_rfl,by kernel_rfl⟩
theorem air:xB Tryz.prog 149:=⟨by kernel_rfl,by kernel_rfl,by kernel_rfl⟩
theorem ahY:xB Tryz.prog 153:=⟨by kernel_rfl,by kernel_rfl,by kernel_rfl⟩
theorem aiJ (t:TypeId) (h:ahe t=true):xB Tryz.prog t:=by
 obtain ⟨k,hk,he⟩:=Z0.1 h
 have:=Wo he
 subst this
 simp only [Xb,afD,aiC] at hk
 rcases hk with rfl | rfl | rfl <;> first | exact akp | exact air | exact ahY
theorem au:Tryz.prog.follows .mixedOrders=true:=by kernel_rfl
def cx0:Cx:=⟨fun _=>[],FN tb,ahe,[],false,fun _=>none,0,none,[]⟩
abbrev Qq0 (C:Cx):Prop:=C.ok Tryz.prog
def Qq1:Nat→An→An
 | 0,a=>a
 | n+1,a=>.s .z (Qq1 n a)
theorem Qq2 [Itr] {C:Cx} (hC:C.ok Tryz.prog) {f:FuncId} {fn:Func} (hf:Tryz.prog.funcs[f]? = some fn) (hn:(fn.name == "runtime.NumGoroutine")=false) (an:An) {ct:Ctr} (h : ∀ x,ct.fn x=aM C fn an ct.toSig x) (hs:(Nat.ble ct.ps.length fn.ntmps&&Nat.ble (rF ct.ps) 64)=true):ct.sound Tryz.prog f:=aj hC au hf hn (an:=an) h hs
theorem T6:Qq0 cx0:=⟨fun _ _ h=>(by cases h),acp,aiJ,fun _ h=>(by cases h),fun _ _ h=>(by cases h)⟩
section
variable [Itr]
def aee:An:=.s .z (.j ⟨[],[(0,.lf (.sc (.int .u64))),(2,.lf (.sc pi))],[],[]⟩ true .z (.j ⟨[],[(0,.lf (.sc (.int .u64))),(2,.lf (.sc pi))],[],[]⟩ true .z (.j ⟨[],[(0,.lf (.sc (.int .u64))),(2,.lf (.sc pi))],[],[]⟩ true .z .z)))
def HM:Ctr:=⟨⟨[.d (.sc (.int .u64))],[(.sc pi)],1,[],[]⟩,fun x=>vo x⟩
def Pp:Cx:=aI cx0 222 HM
theorem KL:Qq0 Pp:=ai T6 (Qq2 T6 Tryz.func222 (by kernel_rfl) aee (fun x=>by kernel_rfl) rfl)
def ac8:An:=.z
def HK:Ctr:=⟨⟨[.d (.sc (.int .u64))],[(.sc pi)],1,[],[]⟩,fun x=>pV x⟩
def Ql:Cx:=aI Pp 178 HK
theorem KV:Qq0 Ql:=ai KL (Qq2 KL Tryz.func178 (by kernel_rfl) ac8 (fun x=>by kernel_rfl) rfl)
def acf:An:=.z
def Gf:Ctr:=⟨⟨[.d ae,.d ae],[(.sc pi)],1,[],[]⟩,fun x=>dV x.1 x.2⟩
def Qt:Cx:=aI Ql 124 Gf
theorem K9:Qq0 Qt:=ai KV (Qq2 KV Tryz.func124 (by kernel_rfl) acf (fun x=>by kernel_rfl) rfl)
def adX:An:=.s .z (.u (.l ⟨[0,1,2,3],[(8,.lf (.sc pi))],[(0,[.ownk ae 153 0])],[]⟩ (.s .z (.j ⟨[0,1,2,3,8],[],[(0,[.ownk ae 153 0])],[]⟩ true (.u (.s .z (.u (.l ⟨[0,1,2,3,8],[(9,.lf (.sc pi))],[(0,[.ownk ae 153 0])],[]⟩ .z)))) .z))))
def HG:Ctr:=⟨⟨[.prt ae 153,.d (.sc pi),.d (.sc pi),.fn 124],[(.slice ae)],0,[9856],[⟨some 4194304,false,false⟩]⟩,fun x=>df x.1 x.2.1 x.2.2.1⟩
def T0:Cx:=aI Qt 213 HG
theorem I2:Qq0 T0:=ai K9 (Qq2 K9 Tryz.func213 (by kernel_rfl) adX (fun x=>by kernel_rfl) rfl)
def aco:An:=.s .z (.s .z (.u (.l ⟨[0,4],[(1,.lf (.sc pi)),(2,.lf (.sc pi)),(3,.lf (.sc pi)),(10,.lf (.sc .bool)),(11,.lf (.sc .bool))],[],[]⟩ (.u (Qq1 3 (.j ⟨[0,1,2,4,10,11,12],[(3,.lf (.sc pi))],[],[]⟩ true .z .z))))))
def GT:Ctr:=⟨⟨[.prt ae 153,.d (.sc pi),.d (.sc pi),.d (.sc pi),.fn 124],[(.slice ae)],0,[9856],[⟨some 4194304,false,false⟩]⟩,fun x=>dU x.1 x.2.1 x.2.2.1 x.2.2.2.1⟩
def QQ:Cx:=aI T0 177 GT
theorem LC:Qq0 QQ:=ai I2 (Qq2 I2 Tryz.func177 (by kernel_rfl) aco (fun x=>by kernel_rfl) rfl)
def adN:An:=.z
def HX:Ctr:=⟨⟨[.prt ae 153,.fn 124],[(.slice ae)],0,[9856],[⟨some 4194304,false,false⟩]⟩,fun x=>cq x.1⟩
theorem I9:HX.sound Tryz.prog 123:=Qq2 LC Tryz.func123 (by kernel_rfl) adN (fun x=>by kernel_rfl) rfl
def PP:Cx:=aI QQ 123 HX
theorem IZ:Qq0 PP:=ai LC I9
end
end Go.Proofs.YtfhhiajfciblbaaGreatDoor
