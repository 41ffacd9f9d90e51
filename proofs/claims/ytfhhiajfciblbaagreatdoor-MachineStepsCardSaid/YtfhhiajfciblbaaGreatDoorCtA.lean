/- Laws for the row. No condition. -/
import Derived.Test.YtfhhiajfciblbaaGreatDoorFn
import Derived.Test.YtfhhiajfciblbaaGreatDoorRows
namespace Go.Proofs.YtfhhiajfciblbaaGreatDoor
open Go.Sm
def c10:List Sp:=[.rep aP true [1000012],.rep (.sc pi) true [1000012],.rep (.sc pi) true [1000012],.rep aA true [1000012],.rep aA true [1000012],.rep (.sc .str) true [1000012],.rep (.sc .str) true [1000012],.rep (.sc .str) true [1000012],.sc pi,.sc pi,.sc pi,.own aE 1870727804774333205280220053689557385530553472647298 false [],.own (.sc pi) 3 false [],.own (.slice (.sc pi)) 360314358468706326 false [],.own (.sc pi) 3 false [],.own (.sc pi) 3 false [],.sc pi,.sc pi,.sc pi,.sc pi,.sc pi,.sc pi,.sc pi,.sc pi,.sc .str,.own aK 149 false []]
def c11:List Sp:=[.rep aP true [1000010],.rep (.sc pi) true [1000010],.rep (.sc pi) true [1000010],.rep aA true [1000010],.rep aA true [1000010],.rep (.sc .str) true [1000010],.rep (.sc .str) true [1000010],.rep (.sc .str) true [1000010],.sc pi,.sc pi,.sc pi,.own aE 1870727804774333205280220053689557385530553472647298 false [],.own (.sc pi) 3 false [],.own (.slice (.sc pi)) 360314358468706326 false [],.own (.sc pi) 3 false [],.own (.sc pi) 3 false [],.sc pi,.sc pi,.sc pi,.sc pi,.sc pi,.sc pi,.sc pi,.sc pi,.sc .str,.own aK 149 false []]
def c12:List Sp:=[.rep aP true [1000011],.rep (.sc pi) true [1000011],.rep (.sc pi) true [1000011],.rep aA true [1000011],.rep aA true [1000011],.rep (.sc .str) true [1000011],.rep (.sc .str) true [1000011],.rep (.sc .str) true [1000011],.sc pi,.sc pi,.sc pi,.own ba 1870727804774333205280220053632888987722923590549622 false [],.own (.sc pi) 3 false [],.own (.slice (.sc pi)) 360314358468706326 false [],.own (.sc pi) 3 false [],.own (.sc pi) 3 false [],.sc pi,.sc pi,.sc pi,.sc pi,.sc pi,.sc pi,.sc pi,.sc pi,.sc .str,.mp ae (.sc .bool)]
def c13:List Sp:=[.rep aP true [1000012],.rep (.sc pi) true [1000012],.rep (.sc pi) true [1000012],.rep aA true [1000012],.rep aA true [1000012],.rep (.sc .str) true [1000012],.rep (.sc .str) true [1000012],.rep (.sc .str) true [1000012],.sc pi,.sc pi,.sc pi,.own ba 1870727804774333205280220053632888987722923590549622 false [],.own (.sc pi) 3 false [],.rep (.slice (.sc pi)) true [1000012],.own (.sc pi) 3 false [],.own (.sc pi) 3 false [],.sc pi,.sc pi,.sc pi,.sc pi,.sc pi,.sc pi,.sc pi,.sc pi,.sc .str,.mp ae (.sc .bool)]
def c14:List Sp:=[.rep aP true [1000000],.rep (.sc pi) true [1000000],.rep (.sc pi) true [1000000],.rep aA true [1000000],.rep aA true [1000000],.rep (.sc .str) true [1000000],.rep (.sc .str) true [1000000],.rep (.sc .str) true [1000000],.sc pi,.sc pi,.sc pi,.ownk ba 1870727804774333205280220053632888987722923590549622 9,.own (.sc pi) 3 false [],.rep (.slice (.sc pi)) true [1000000],.own (.sc pi) 3 false [],.own (.sc pi) 3 false [],.sc pi,.sc pi,.sc pi,.sc pi,.sc pi,.sc pi,.sc pi,.sc pi,.sc .str,.mp ae (.sc .bool)]
def c15:List Sp:=[.rep aP true [],.rep (.sc pi) true [],.rep (.sc pi) true [],.rep aA true [],.rep aA true [],.rep (.sc .str) true [],.rep (.sc .str) true [],.rep (.sc .str) true [],.sc pi,.sc pi,.sc pi,.own aE 1870727804774333205280220053689557385530553472647298 false [],.own (.sc pi) 3 false [],.own (.slice (.sc pi)) 360314358468706326 false [],.own (.sc pi) 3 false [],.own (.sc pi) 3 false [],.sc pi,.sc pi,.sc pi,.sc pi,.sc pi,.sc pi,.sc pi,.sc pi,.sc .str,.own aK 149 false []]
def c16:List Sp:=[.rep aP true [],.rep (.sc pi) true [],.rep (.sc pi) true [],.rep aA true [],.rep aA true [],.rep (.sc .str) true [],.rep (.sc .str) true [],.rep (.sc .str) true [],.sc pi,.sc pi,.sc pi,.own ba 1870727804774333205280220053632888987722923590549622 false [],.own (.sc pi) 3 false [],.own (.slice (.sc pi)) 360314358468706326 false [],.own (.sc pi) 3 false [],.own (.sc pi) 3 false [],.sc pi,.sc pi,.sc pi,.sc pi,.sc pi,.sc pi,.sc pi,.sc pi,.sc .str,.mp ae (.sc .bool)]
def c17:List Sp:=[.rep aP true [],.rep (.sc pi) true [],.rep (.sc pi) true [],.rep aA true [],.rep aA true [],.rep (.sc .str) true [],.rep (.sc .str) true [],.rep (.sc .str) true [],.sc pi,.sc pi,.sc pi,.ownk ba 1870727804774333205280220053632888987722923590549622 9,.own (.sc pi) 3 false [],.rep (.slice (.sc pi)) true [],.own (.sc pi) 3 false [],.own (.sc pi) 3 false [],.sc pi,.sc pi,.sc pi,.sc pi,.sc pi,.sc pi,.sc pi,.sc pi,.sc .str,.mp ae (.sc .bool)]
def c18:List Sp:=[.own aE 1870727804774333205280220053689557385530553472647298 false [],.own (.sc pi) 3 false [],.own (.slice (.sc pi)) 360314358468706326 false [],.rep (.sc pi) true [1000003],.rep (.sc pi) true [1000003],.sc pi,.sc pi,.sc pi,.sc pi,.sc pi,.sc pi,.sc pi,.sc pi,.sc .str]
def c19:List Sp:=[.own ba 1870727804774333205280220053632888987722923590549622 false [],.own (.sc pi) 3 false [],.pt (.slice (.sc pi)) 360314358468706326 true [1000001],.own (.sc pi) 3 false [],.own (.sc pi) 3 false [],.sc pi,.sc pi,.sc pi,.sc pi,.sc pi,.sc pi,.sc pi,.sc pi,.sc .str]
def c20:List Sp:=[.own aE 1870727804774333205280220053689557385530553472647298 false [],.own (.sc pi) 3 false [],.own (.slice (.sc pi)) 360314358468706326 false [],.own (.sc pi) 3 false [],.own (.sc pi) 3 false [],.sc pi,.sc pi,.sc pi,.sc pi,.sc pi,.sc pi,.sc pi,.sc pi,.sc .str]
def c21:List Sp:=[.own ba 1870727804774333205280220053632888987722923590549622 false [],.own (.sc pi) 3 false [],.rep (.slice (.sc pi)) false [1000004,1000005],.own (.sc pi) 3 false [],.own (.sc pi) 3 false [],.sc pi,.sc pi,.sc pi,.sc pi,.sc pi,.sc pi,.sc pi,.sc pi,.sc .str]
def c22:List Sp:=[.own aE 1870727804774333205280220053689557385530553472647298 false [],.rep (.sc pi) true [],.rep (.slice (.sc pi)) true [],.rep (.sc pi) true [],.rep (.sc pi) true [],.sc pi,.sc pi,.sc pi,.sc pi,.sc pi,.sc pi,.sc pi,.sc pi,.sc .str]
def c23:List Sp:=[.pt ba 1870727804774333205280220053632888987722923590549622 true [],.rep (.sc pi) true [],.rep (.slice (.sc pi)) true [],.rep (.sc pi) true [],.rep (.sc pi) true [],.sc pi,.sc pi,.sc pi,.sc pi,.sc pi,.sc pi,.sc pi,.sc pi,.sc .str]
def c24:List Sp:=[.own ba 118 false [1000003],.own (.sc pi) 3 false [],.own (.slice (.sc pi)) 360314358468706326 false [],.own (.sc pi) 3 false [],.own (.sc pi) 3 false [],.sc pi,.sc pi,.sc pi,.sc pi,.sc pi,.sc pi,.sc pi,.sc pi,.sc .str]
def c25:List Sp:=[.own aE 130 true [],.rep (.sc pi) true [],.rep (.slice (.sc pi)) true [],.rep (.sc pi) true [],.rep (.sc pi) true [],.sc pi,.sc pi,.sc pi,.sc pi,.sc pi,.sc pi,.sc pi,.sc pi,.sc .str]
def c26:List Sp:=[.own aP 99 false [],.own (.sc pi) 3 false [],.own (.sc pi) 3 false [],.rep aA false [1000011],.rep aA false [1000011],.rep (.sc .str) false [1000011],.rep (.sc .str) false [1000011],.rep (.sc .str) false [1000011],.own (.sc .str) 9 false [],.sc pi]
def c27:List Sp:=[.own aP 99 false [],.own (.sc pi) 3 false [],.own (.sc pi) 3 false [],.rep aA true [1000000],.rep aA true [1000000],.rep (.sc .str) true [1000000],.rep (.sc .str) true [1000000],.rep (.sc .str) true [1000000],.own (.sc .str) 9 false [],.sc pi]
def c28:List Sp:=[.own aP 99 false [],.own (.sc pi) 3 false [],.own (.sc pi) 3 false [],.rep aA false [],.rep aA false [],.rep (.sc .str) false [],.rep (.sc .str) false [],.rep (.sc .str) false [],.own (.sc .str) 9 false [],.sc pi]
def c29:List Sp:=[.own aP 99 false [],.own (.sc pi) 3 false [],.own (.sc pi) 3 false [],.rep aA true [],.rep aA true [],.rep (.sc .str) true [],.rep (.sc .str) true [],.rep (.sc .str) true [],.own (.sc .str) 9 false [],.sc pi]
def c30:List Sp:=[.own aP 99 false [],.own (.sc pi) 3 false [],.own (.sc pi) 3 false [],.own aA 101 false [],.own aA 101 false [],.own (.sc .str) 9 false [],.own (.sc .str) 9 false [],.own (.sc .str) 9 false []]
def c31:List PC:=[.box true aV [none,none,none,none,none,none,none,none,some 1870727804774333205280220053689557385530553472647298,some 3,some 360314358468706326,some 3,some 3,some 149],.d (.sc pi),.d (.sc pi)]
def c32:List PC:=[.box true cR [none,none,none,none,none,none,none,none,some 1870727804774333205280220053632888987722923590549622,some 3,some 360314358468706326,some 3,some 3,some 0],.d (.sc pi),.d (.sc pi)]
def c33:List PC:=[.box true aV [none,none,none,none,none,none,none,none,some 1870727804774333205280220053689557385530553472647298,some 3,some 360314358468706326,some 3,some 3,some 149],.d aP,.d (.sc pi)]
def c34:List PC:=[.box true aV [none,none,none,none,none,none,none,none,some 1870727804774333205280220053689557385530553472647298,some 3,some 360314358468706326,some 3,some 3,some 149],.d (.sc pi)]
def c35:List Sp:=[.pt cM 1547425049178910481010655346 true [14],.own (.sc pi) 3 false [],.sc pi,.sc .bool]
def c36:List Sp:=[.own cg 1547425049178923675150188670 false [],.own (.sc pi) 3 false [],.sc pi,.sc .bool]
def c37:List Sp:=[.own cM 114 false [1000003],.rep (.sc pi) false [1000003],.sc pi,.sc .bool]
def c38:List Sp:=[.sc pi,.sc pi,.sc pi,.own (.sc pi) 3 false []]
def c39:List Sp:=[.own cg 126 true [],.rep (.sc pi) true [],.sc pi,.sc .bool]
def c40:List PC:=[.box true bh [some 99,some 3,some 3,none,none,none,none,none,some 9],.d bE]
def c41:List Sp:=[.sc pi,.sc .str,.sc pi,.rep .node false [1000003]]
def c42:List Sp:=[.sc .str,.own bo 240 false [],.sc pi,.sc .bool,.sc .bool]
def c43:List Sp:=[.sc pi,.sc .str,.sc pi,.own .node 169 false []]
def c44:List PC:=[.box true aH [some 240],.d (.sc .str)]
def c45:List PC:=[.box false aV [],.d (.sc pi)]
def c46:List PC:=[.box true aH [some 240]]
set_option maxRecDepth 100000
set_option linter.unusedSectionVars false
instance:GTab:=⟨[⟨0,nq,sj⟩]⟩
def ti3:TInf:=⟨.int .i64,1,8,[.c pi (0:Int)],(.sc pi)⟩
def ti4:TInf:=⟨.bool,1,1,[.c .bool false],(.sc .bool)⟩
def ti5:TInf:=⟨.int .u8,1,1,[.c (.int .u8) (0:Int)],(.sc (.int .u8))⟩
def ti9:TInf:=⟨.str,1,16,[.c .str ([]:List UInt8)],(.sc .str)⟩
def aiv:TInf:=⟨.slice 3,1,24,[.nl],(.slice (.sc pi))⟩
def ahu:TInf:=⟨.st [(3,0),(3,1),(3,2)],3,24,[.c pi (0:Int),.c pi (0:Int),.c pi (0:Int)],fW⟩
def ag2:TInf:=⟨.slice 99,1,24,[.nl],(.slice aP)⟩
def ahy:TInf:=⟨.slice 101,1,24,[.nl],(.slice aA)⟩
def ag4:TInf:=⟨.slice 9,1,24,[.nl],(.slice (.sc .str))⟩
def ail:TInf:=⟨.st [(25,0),(22,1),(22,2),(26,3),(26,4),(27,5),(27,6),(27,7)],8,192,[.nl,.nl,.nl,.nl,.nl,.nl,.nl,.nl],bw⟩
def ah2:TInf:=⟨.other,1,8,[.v (.nilFunc)],(.sc .fnc)⟩
def afw:TInf:=⟨.slice 118,1,24,[.nl],(.slice ba)⟩
def ahl:TInf:=⟨.slice 22,1,24,[.nl],(.slice (.slice (.sc pi)))⟩
def aht:TInf:=⟨.st [(3,0),(3,1),(3,2)],3,24,[.c pi (0:Int),.c pi (0:Int),.c pi (0:Int)],ww⟩
def agy:TInf:=⟨.st [(37,0),(22,1),(38,2),(22,3),(22,4),(3,5),(3,6),(40,7),(3,10),(3,11),(3,12),(9,13)],14,200,[.nl,.nl,.nl,.nl,.nl,.c pi (0:Int),.c pi (0:Int),.c pi (0:Int),.c pi (0:Int),.c pi (0:Int),.c pi (0:Int),.c pi (0:Int),.c pi (0:Int),.c .str ([]:List UInt8)],dp⟩
def aim:TInf:=⟨.int .i64,1,8,[.c pi (0:Int)],(.sc pi)⟩
def af0:TInf:=⟨.st [(25,0),(22,1),(22,2),(26,3),(26,4),(27,5),(27,6),(27,7)],8,192,[.nl,.nl,.nl,.nl,.nl,.nl,.nl,.nl],eH⟩
def ahh:TInf:=⟨.slice 130,1,24,[.nl],(.slice aE)⟩
def agj:TInf:=⟨.st [(48,0),(22,1),(38,2),(22,3),(22,4),(3,5),(3,6),(40,7),(3,10),(3,11),(3,12),(9,13)],14,200,[.nl,.nl,.nl,.nl,.nl,.c pi (0:Int),.c pi (0:Int),.c pi (0:Int),.c pi (0:Int),.c pi (0:Int),.c pi (0:Int),.c pi (0:Int),.c pi (0:Int),.c .str ([]:List UInt8)],bQ⟩
def afX:TInf:=⟨.st [(3,0),(3,1),(3,2),(22,3)],4,48,[.c pi (0:Int),.c pi (0:Int),.c pi (0:Int),.nl],nP⟩
def ag6:TInf:=⟨.st [(3,0),(3,1),(3,2),(22,3)],4,48,[.c pi (0:Int),.c pi (0:Int),.c pi (0:Int),.nl],fF⟩
def ah6:TInf:=⟨.slice 153,1,24,[.nl],(.slice ae)⟩
def agh:TInf:=⟨.slice 149,1,24,[.nl],(.slice aK)⟩
def agu:TInf:=⟨.slice 5,1,24,[.nl],(.slice (.sc (.int .u8)))⟩
def ahk:TInf:=⟨.slice 132,1,24,[.nl],(.slice cp)⟩
def ahQ:TInf:=⟨.st [(3,0),(3,1),(3,2)],3,24,[.c pi (0:Int),.c pi (0:Int),.c pi (0:Int)],aP⟩
def Z7:TInf:=⟨.st [(9,0),(3,1)],2,24,[.c .str ([]:List UInt8),.c pi (0:Int)],aA⟩
def acf:TInf:=⟨.other,1,8,[.v (.nilFunc)],(.sc .fnc)⟩
def aax:TInf:=⟨.ptr 112,1,8,[.v (.pointer none)],.unit⟩
def aa3:TInf:=⟨.map 153 4,1,8,[.v (.map none)],(.mp ae (.sc .bool))⟩
def Z5:TInf:=⟨.st [(46,0),(24,8),(42,11),(110,25)],26,424,[.nl,.nl,.nl,.nl,.nl,.nl,.nl,.nl,.c pi (0:Int),.c pi (0:Int),.c pi (0:Int),.nl,.nl,.nl,.nl,.nl,.c pi (0:Int),.c pi (0:Int),.c pi (0:Int),.c pi (0:Int),.c pi (0:Int),.c pi (0:Int),.c pi (0:Int),.c pi (0:Int),.c .str ([]:List UInt8),.v (.map none)],cR⟩
def abN:TInf:=⟨.st [(3,0),(22,1)],2,32,[.c pi (0:Int),.nl],cM⟩
def abx:TInf:=⟨.slice 114,1,24,[.nl],(.slice cM)⟩
def aah:TInf:=⟨.st [(116,0),(22,1),(3,2),(4,3)],4,64,[.nl,.nl,.c pi (0:Int),.c .bool false],ba⟩
def Z2:TInf:=⟨.ptr 123,1,8,[.v (.pointer none)],.unit⟩
def aaF:TInf:=⟨.st [(29,0),(24,8),(50,11),(71,25)],26,440,[.nl,.nl,.nl,.nl,.nl,.nl,.nl,.nl,.c pi (0:Int),.c pi (0:Int),.c pi (0:Int),.nl,.nl,.nl,.nl,.nl,.c pi (0:Int),.c pi (0:Int),.c pi (0:Int),.c pi (0:Int),.c pi (0:Int),.c pi (0:Int),.c pi (0:Int),.c pi (0:Int),.c .str ([]:List UInt8),.nl],aV⟩
def aav:TInf:=⟨.st [(3,0),(22,1)],2,32,[.c pi (0:Int),.nl],cg⟩
def abE:TInf:=⟨.slice 126,1,24,[.nl],(.slice cg)⟩
def aad:TInf:=⟨.st [(128,0),(22,1),(3,2),(4,3)],4,64,[.nl,.nl,.c pi (0:Int),.c .bool false],aE⟩
def abO:TInf:=⟨.st [(9,0),(9,1)],2,32,[.c .str ([]:List UInt8),.c .str ([]:List UInt8)],cp⟩
def Z1:TInf:=⟨.ptr 118,1,8,[.v (.pointer none)],.unit⟩
def abe:TInf:=⟨.st [(3,0),(3,1),(4,2)],3,24,[.c pi (0:Int),.c pi (0:Int),.c .bool false],aK⟩
def aaG:TInf:=⟨.st [(3,0),(3,1),(4,2)],3,24,[.c pi (0:Int),.c pi (0:Int),.c .bool false],ae⟩
def acH:TInf:=⟨.slice 169,1,24,[.nl],(.slice .node)⟩
def acp:TInf:=⟨.st [(3,0),(9,1),(3,2),(167,3)],4,56,[.c pi (0:Int),.c .str ([]:List UInt8),.c pi (0:Int),.nl],.node⟩
def abd:TInf:=⟨.ptr 176,1,8,[.v (.pointer none)],.unit⟩
def aaO:TInf:=⟨.st [(29,0),(27,8),(3,9)],10,224,[.nl,.nl,.nl,.nl,.nl,.nl,.nl,.nl,.nl,.c pi (0:Int)],bh⟩
def act:TInf:=⟨.slice 185,1,24,[.nl],(.slice lU)⟩
def ab4:TInf:=⟨.st [(3,0),(3,1),(3,2)],3,24,[.c pi (0:Int),.c pi (0:Int),.c pi (0:Int)],lU⟩
def acA:TInf:=⟨.ptr 114,1,8,[.v (.pointer none)],.unit⟩
def aaD:TInf:=⟨.other,1,8,[.v (.nilFunc)],(.sc .fnc)⟩
def aa8:TInf:=⟨.int .u64,1,8,[.c (.int .u64) (0:Int)],(.sc (.int .u64))⟩
def ab9:TInf:=⟨.slice 240,1,24,[.nl],(.slice bo)⟩
def ac4:TInf:=⟨.ptr 237,1,8,[.v (.pointer none)],.unit⟩
def ab5:TInf:=⟨.st [(9,0),(232,1),(3,2),(4,3),(4,4)],5,56,[.c .str ([]:List UInt8),.nl,.c pi (0:Int),.c .bool false,.c .bool false],aH⟩
def aaE:TInf:=⟨.st [(3,0),(3,1)],2,16,[.c pi (0:Int),.c pi (0:Int)],bo⟩
def ab6:TInf:=⟨.arr 3 9,3,48,[.ar 3 .str ([]:List (List UInt8))],(.arr 3 .str)⟩
def ac2:TInf:=⟨.slice 247,1,24,[.nl],(.slice (.arr 3 .str))⟩
def ac1:TInf:=⟨.slice 27,1,24,[.nl],(.slice (.slice (.sc .str)))⟩
def SJ:TInf:=⟨.st [(9,0),(3,1)],2,24,[.c .str ([]:List UInt8),.c pi (0:Int)],nq⟩
def P3:TInf:=⟨.arr 29 253,58,696,[.c .str ([]:List UInt8),.c pi (0:Int),.c .str ([]:List UInt8),.c pi (0:Int),.c .str ([]:List UInt8),.c pi (0:Int),.c .str ([]:List UInt8),.c pi (0:Int),.c .str ([]:List UInt8),.c pi (0:Int),.c .str ([]:List UInt8),.c pi (0:Int),.c .str ([]:List UInt8),.c pi (0:Int),.c .str ([]:List UInt8),.c pi (0:Int),.c .str ([]:List UInt8),.c pi (0:Int),.c .str ([]:List UInt8),.c pi (0:Int),.c .str ([]:List UInt8),.c pi (0:Int),.c .str ([]:List UInt8),.c pi (0:Int),.c .str ([]:List UInt8),.c pi (0:Int),.c .str ([]:List UInt8),.c pi (0:Int),.c .str ([]:List UInt8),.c pi (0:Int),.c .str ([]:List UInt8),.c pi (0:Int),.c .str ([]:List UInt8),.c pi (0:Int),.c .str ([]:List UInt8),.c pi (0:Int),.c .str ([]:List UInt8),.c pi (0:Int),.c .str ([]:List UInt8),.c pi (0:Int),.c .str ([]:List UInt8),.c pi (0:Int),.c .str ([]:List UInt8),.c pi (0:Int),.c .str ([]:List UInt8),.c pi (0:Int),.c .str ([]:List UInt8),.c pi (0:Int),.c .str ([]:List UInt8),.c pi (0:Int),.c .str ([]:List UInt8),.c pi (0:Int),.c .str ([]:List UInt8),.c pi (0:Int),.c .str ([]:List UInt8),.c pi (0:Int),.c .str ([]:List UInt8),.c pi (0:Int)],.unit⟩
def ab1:TInf:=⟨.map 3 36,1,8,[.v (.map none)],(.mp (.sc pi) (.sc .fnc))⟩
def abo:TInf:=⟨.int .u64,1,8,[.c (.int .u64) (0:Int)],(.sc (.int .u64))⟩
def Z4:TInf:=⟨.slice 276,1,24,[.nl],(.slice fC)⟩
def aa5:TInf:=⟨.st [(3,0),(3,1),(9,2),(9,3)],4,48,[.c pi (0:Int),.c pi (0:Int),.c .str ([]:List UInt8),.c .str ([]:List UInt8)],fC⟩
def tb:List (TypeId×TInf):=[(3,ti3),(4,ti4),(5,ti5),(9,ti9),(22,aiv),(24,ahu),(25,ag2),(26,ahy),(27,ag4),(29,ail),(36,ah2),(37,afw),(38,ahl),(40,aht),(42,agy),(43,aim),(46,af0),(48,ahh),(50,agj),(58,afX),(62,ag6),(68,ah6),(71,agh),(85,agu),(96,ahk),(99,ahQ),(101,Z7),(106,acf),(108,aax),(110,aa3),(112,Z5),(114,abN),(116,abx),(118,aah),(121,Z2),(123,aaF),(126,aav),(128,abE),(130,aad),(132,abO),(144,Z1),(149,abe),(153,aaG),(167,acH),(169,acp),(173,abd),(176,aaO),(182,act),(185,ab4),(197,acA),(209,aaD),(220,aa8),(232,ab9),(235,ac4),(237,ab5),(240,aaE),(247,ab6),(248,ac2),(250,ac1),(253,SJ),(254,P3),(255,ab1),(267,abo),(272,Z4),(276,aa5)]
theorem UJ:ti3.ok Tryz.prog 3:=⟨by unfold TI; kernel_rfl,Tryz.underlying3,rfl,fun _=>rfl⟩
theorem agn:ti4.ok Tryz.prog 4:=⟨by unfold TI; kernel_rfl,Tryz.underlying4,rfl,fun _=>rfl⟩
theorem agx:ti5.ok Tryz.prog 5:=⟨by unfold TI; kernel_rfl,Tryz.underlying5,rfl,fun _=>rfl⟩
theorem SX:ti9.ok Tryz.prog 9:=⟨by unfold TI; kernel_rfl,Tryz.underlying9,rfl,fun _=>rfl⟩
theorem adj:aiv.ok Tryz.prog 22:=⟨by unfold TI; kernel_rfl,Tryz.underlying22,rfl,fun _=>rfl⟩
theorem aeN:ahu.ok Tryz.prog 24:=⟨by unfold TI; kernel_rfl,⟨_,Tryz.underlying24,by kernel_rfl⟩,rfl,fun _=>rfl⟩
theorem aen:ag2.ok Tryz.prog 25:=⟨by unfold TI; kernel_rfl,Tryz.underlying25,rfl,fun _=>rfl⟩
theorem adO:ahy.ok Tryz.prog 26:=⟨by unfold TI; kernel_rfl,Tryz.underlying26,rfl,fun _=>rfl⟩
theorem adB:ag4.ok Tryz.prog 27:=⟨by unfold TI; kernel_rfl,Tryz.underlying27,rfl,fun _=>rfl⟩
theorem adt:ail.ok Tryz.prog 29:=⟨by unfold TI; kernel_rfl,⟨_,Tryz.underlying29,by kernel_rfl⟩,rfl,fun _=>rfl⟩
theorem afm:ah2.ok Tryz.prog 36:=⟨by unfold TI; kernel_rfl,⟨_,Tryz.underlying36,rfl⟩,rfl,fun _=>rfl⟩
theorem afg:afw.ok Tryz.prog 37:=⟨by unfold TI; kernel_rfl,Tryz.underlying37,rfl,fun _=>rfl⟩
theorem aeC:ahl.ok Tryz.prog 38:=⟨by unfold TI; kernel_rfl,Tryz.underlying38,rfl,fun _=>rfl⟩
theorem aeO:aht.ok Tryz.prog 40:=⟨by unfold TI; kernel_rfl,⟨_,Tryz.underlying40,by kernel_rfl⟩,rfl,fun _=>rfl⟩
theorem adG:agy.ok Tryz.prog 42:=⟨by unfold TI; kernel_rfl,⟨_,Tryz.underlying42,by kernel_rfl⟩,rfl,fun _=>rfl⟩
theorem aem:aim.ok Tryz.prog 43:=⟨by unfold TI; kernel_rfl,Tryz.underlying43,rfl,fun _=>rfl⟩
theorem aeD:af0.ok Tryz.prog 46:=⟨by unfold TI; kernel_rfl,⟨_,Tryz.underlying46,by kernel_rfl⟩,rfl,fun _=>rfl⟩
theorem ac7:ahh.ok Tryz.prog 48:=⟨by unfold TI; kernel_rfl,Tryz.underlying48,rfl,fun _=>rfl⟩
theorem afu:agj.ok Tryz.prog 50:=⟨by unfold TI; kernel_rfl,⟨_,Tryz.underlying50,by kernel_rfl⟩,rfl,fun _=>rfl⟩
theorem adr:afX.ok Tryz.prog 58:=⟨by unfold TI; kernel_rfl,⟨_,Tryz.underlying58,by kernel_rfl⟩,rfl,fun _=>rfl⟩
theorem ae3:ag6.ok Tryz.prog 62:=⟨by unfold TI; kernel_rfl,⟨_,Tryz.underlying62,by kernel_rfl⟩,rfl,fun _=>rfl⟩
theorem aek:ah6.ok Tryz.prog 68:=⟨by unfold TI; kernel_rfl,Tryz.underlying68,rfl,fun _=>rfl⟩
theorem afh:agh.ok Tryz.prog 71:=⟨by unfold TI; kernel_rfl,Tryz.underlying71,rfl,fun _=>rfl⟩
theorem adD:agu.ok Tryz.prog 85:=⟨by unfold TI; kernel_rfl,Tryz.underlying85,rfl,fun _=>rfl⟩
theorem aeS:ahk.ok Tryz.prog 96:=⟨by unfold TI; kernel_rfl,Tryz.underlying96,rfl,fun _=>rfl⟩
theorem aeV:ahQ.ok Tryz.prog 99:=⟨by unfold TI; kernel_rfl,⟨_,Tryz.underlying99,by kernel_rfl⟩,rfl,fun _=>rfl⟩
theorem XJ:Z7.ok Tryz.prog 101:=⟨by unfold TI; kernel_rfl,⟨_,Tryz.underlying101,by kernel_rfl⟩,rfl,fun _=>rfl⟩
theorem WR:acf.ok Tryz.prog 106:=⟨by unfold TI; kernel_rfl,⟨_,Tryz.underlying106,rfl⟩,rfl,fun _=>rfl⟩
theorem YO:aax.ok Tryz.prog 108:=⟨by unfold TI; kernel_rfl,Tryz.underlying108,rfl,fun _=>rfl⟩
theorem WV:aa3.ok Tryz.prog 110:=⟨by unfold TI; kernel_rfl,Tryz.underlying110,rfl,fun _=>rfl⟩
theorem Xo:Z5.ok Tryz.prog 112:=⟨by unfold TI; kernel_rfl,⟨_,Tryz.underlying112,by kernel_rfl⟩,rfl,fun _=>rfl⟩
theorem Zg:abN.ok Tryz.prog 114:=⟨by unfold TI; kernel_rfl,⟨_,Tryz.underlying114,by kernel_rfl⟩,rfl,fun _=>rfl⟩
theorem YF:abx.ok Tryz.prog 116:=⟨by unfold TI; kernel_rfl,Tryz.underlying116,rfl,fun _=>rfl⟩
theorem ZQ:aah.ok Tryz.prog 118:=⟨by unfold TI; kernel_rfl,⟨_,Tryz.underlying118,by kernel_rfl⟩,rfl,fun _=>rfl⟩
theorem Zk:Z2.ok Tryz.prog 121:=⟨by unfold TI; kernel_rfl,Tryz.underlying121,rfl,fun _=>rfl⟩
theorem Zz:aaF.ok Tryz.prog 123:=⟨by unfold TI; kernel_rfl,⟨_,Tryz.underlying123,by kernel_rfl⟩,rfl,fun _=>rfl⟩
theorem Zm:aav.ok Tryz.prog 126:=⟨by unfold TI; kernel_rfl,⟨_,Tryz.underlying126,by kernel_rfl⟩,rfl,fun _=>rfl⟩
theorem Za:abE.ok Tryz.prog 128:=⟨by unfold TI; kernel_rfl,Tryz.underlying128,rfl,fun _=>rfl⟩
theorem Wu:aad.ok Tryz.prog 130:=⟨by unfold TI; kernel_rfl,⟨_,Tryz.underlying130,by kernel_rfl⟩,rfl,fun _=>rfl⟩
theorem XR:abO.ok Tryz.prog 132:=⟨by unfold TI; kernel_rfl,⟨_,Tryz.underlying132,by kernel_rfl⟩,rfl,fun _=>rfl⟩
theorem VS:Z1.ok Tryz.prog 144:=⟨by unfold TI; kernel_rfl,Tryz.underlying144,rfl,fun _=>rfl⟩
theorem Wz:abe.ok Tryz.prog 149:=⟨by unfold TI; kernel_rfl,⟨_,Tryz.underlying149,by kernel_rfl⟩,rfl,fun _=>rfl⟩
theorem XF:aaG.ok Tryz.prog 153:=⟨by unfold TI; kernel_rfl,⟨_,Tryz.underlying153,by kernel_rfl⟩,rfl,fun _=>rfl⟩
theorem Zt:acH.ok Tryz.prog 167:=⟨by unfold TI; kernel_rfl,Tryz.underlying167,rfl,fun _=>rfl⟩
theorem Zq:acp.ok Tryz.prog 169:=⟨by unfold TI; kernel_rfl,⟨_,Tryz.underlying169,by kernel_rfl⟩,rfl,fun _=>rfl⟩
theorem Zb:abd.ok Tryz.prog 173:=⟨by unfold TI; kernel_rfl,Tryz.underlying173,rfl,fun _=>rfl⟩
theorem Vc:aaO.ok Tryz.prog 176:=⟨by unfold TI; kernel_rfl,⟨_,Tryz.underlying176,by kernel_rfl⟩,rfl,fun _=>rfl⟩
theorem Wa:act.ok Tryz.prog 182:=⟨by unfold TI; kernel_rfl,Tryz.underlying182,rfl,fun _=>rfl⟩
theorem ZO:ab4.ok Tryz.prog 185:=⟨by unfold TI; kernel_rfl,⟨_,Tryz.underlying185,by kernel_rfl⟩,rfl,fun _=>rfl⟩
theorem VQ:acA.ok Tryz.prog 197:=⟨by unfold TI; kernel_rfl,Tryz.underlying197,rfl,fun _=>rfl⟩
theorem Vh:aaD.ok Tryz.prog 209:=⟨by unfold TI; kernel_rfl,⟨_,Tryz.underlying209,rfl⟩,rfl,fun _=>rfl⟩
theorem WA:aa8.ok Tryz.prog 220:=⟨by unfold TI; kernel_rfl,Tryz.underlying220,rfl,fun _=>rfl⟩
theorem Yl:ab9.ok Tryz.prog 232:=⟨by unfold TI; kernel_rfl,Tryz.underlying232,rfl,fun _=>rfl⟩
theorem U2:ac4.ok Tryz.prog 235:=⟨by unfold TI; kernel_rfl,Tryz.underlying235,rfl,fun _=>rfl⟩
theorem VB:ab5.ok Tryz.prog 237:=⟨by unfold TI; kernel_rfl,⟨_,Tryz.underlying237,by kernel_rfl⟩,rfl,fun _=>rfl⟩
theorem ZT:aaE.ok Tryz.prog 240:=⟨by unfold TI; kernel_rfl,⟨_,Tryz.underlying240,by kernel_rfl⟩,rfl,fun _=>rfl⟩
theorem XA:ab6.ok Tryz.prog 247:=⟨by unfold TI; kernel_rfl,Tryz.underlying247,rfl,fun _=>rfl⟩
theorem U9:ac2.ok Tryz.prog 248:=⟨by unfold TI; kernel_rfl,Tryz.underlying248,rfl,fun _=>rfl⟩
theorem XU:ac1.ok Tryz.prog 250:=⟨by unfold TI; kernel_rfl,Tryz.underlying250,rfl,fun _=>rfl⟩
theorem IZ:SJ.ok Tryz.prog 253:=⟨by unfold TI; kernel_rfl,⟨_,Tryz.underlying253,by kernel_rfl⟩,rfl,fun _=>rfl⟩
theorem Kf:P3.ok Tryz.prog 254:=⟨by unfold TI; kernel_rfl,Tryz.underlying254,rfl,fun _=>rfl⟩
theorem Wk:ab1.ok Tryz.prog 255:=⟨by unfold TI; kernel_rfl,Tryz.underlying255,rfl,fun _=>rfl⟩
theorem YR:abo.ok Tryz.prog 267:=⟨by unfold TI; kernel_rfl,Tryz.underlying267,rfl,fun _=>rfl⟩
theorem Zs:Z4.ok Tryz.prog 272:=⟨by unfold TI; kernel_rfl,Tryz.underlying272,rfl,fun _=>rfl⟩
theorem Zf:aa5.ok Tryz.prog 276:=⟨by unfold TI; kernel_rfl,⟨_,Tryz.underlying276,by kernel_rfl⟩,rfl,fun _=>rfl⟩
theorem abh:Tb.ok (D5 tb) Tryz.prog:=Jj ⟨UJ,agn,agx,SX,adj,aeN,aen,adO,adB,adt,afm,afg,aeC,aeO,adG,aem,aeD,ac7,afu,adr,ae3,aek,afh,adD,aeS,aeV,XJ,WR,YO,WV,Xo,Zg,YF,ZQ,Zk,Zz,Zm,Za,Wu,XR,VS,Wz,XF,Zt,Zq,Zb,Vc,Wa,ZO,VQ,Vh,WA,Yl,U2,VB,ZT,XA,U9,XU,IZ,Kf,Wk,YR,Zs,Zf,trivial⟩
def ahU (t:TypeId):Bool:=[40,149,153].any fun k=>Nat.beq t k
theorem ajd:wt Tryz.prog 40:=⟨by kernel_rfl,by kernel_rfl,by kernel_rfl⟩
theorem ahe:wt Tryz.prog 149:=⟨by kernel_rfl,by kernel_rfl,by kernel_rfl⟩
theorem agP:wt Tryz.prog 153:=⟨by kernel_rfl,by kernel_rfl,by kernel_rfl⟩
theorem agI (t:TypeId) (h:ahU t=true):wt Tryz.prog t:=by
 obtain ⟨k,hk,he⟩:=ac6.1 h
 have:=Vb he
 subst this
 simp only [Wd,aeh,ah9] at hk
 rcases hk with rfl | rfl | rfl <;> first | exact ajd | exact ahe | exact agP
theorem aq:Tryz.prog.follows .mixedOrders=true:=by kernel_rfl
def cx0:Cx:=⟨fun _=>[],D5 tb,ahU,[],false,fun _=>none,0,none,[]⟩
abbrev Qq0 (C:Cx):Prop:=C.ok Tryz.prog
def Qq1:Nat→An→An
 | 0,a=>a
 | n+1,a=>.s .z (Qq1 n a)
theorem Qq2 [Itr] {C:Cx} (hC:C.ok Tryz.prog) {f:FuncId} {fn:Func} (hf:Tryz.prog.funcs[f]? = some fn) (hn:(fn.name == "runtime.NumGoroutine")=false) (an:An) {ct:Ctr} (h : ∀ x,ct.fn x=aL C fn an ct.toSig x) (hs:(Nat.ble ct.ps.length fn.ntmps&&Nat.ble (rc ct.ps) 64)=true):ct.sound Tryz.prog f:=aj hC aq hf hn (an:=an) h hs
theorem SQ:Qq0 cx0:=⟨fun _ _ h=>(by cases h),abh,agI,fun _ h=>(by cases h),fun _ _ h=>(by cases h)⟩
section
variable [Itr]
def aaL:An:=.s .z (.j ⟨[],[(0,.lf (.sc (.int .u64))),(2,.lf (.sc pi))],[],[]⟩ true .z (.j ⟨[],[(0,.lf (.sc (.int .u64))),(2,.lf (.sc pi))],[],[]⟩ true .z (.j ⟨[],[(0,.lf (.sc (.int .u64))),(2,.lf (.sc pi))],[],[]⟩ true .z .z)))
def Gn:Ctr:=⟨⟨[.d (.sc (.int .u64))],[(.sc pi)],1,[],[]⟩,fun x=>uC x⟩
def Ph:Cx:=aI cx0 222 Gn
theorem KL:Qq0 Ph:=ai SQ (Qq2 SQ Tryz.func222 (by kernel_rfl) aaL (fun x=>by kernel_rfl) rfl)
def acj:An:=.z
def ER:Ctr:=⟨⟨[.d (.sc (.int .u64))],[(.sc pi)],1,[],[]⟩,fun x=>px x⟩
def Pl:Cx:=aI Ph 178 ER
theorem J6:Qq0 Pl:=ai KL (Qq2 KL Tryz.func178 (by kernel_rfl) acj (fun x=>by kernel_rfl) rfl)
def aaB:An:=.z
def FQ:Ctr:=⟨⟨[.d ae,.d ae],[(.sc pi)],1,[],[]⟩,fun x=>dJ x.1 x.2⟩
def PB:Cx:=aI Pl 124 FQ
theorem H5:Qq0 PB:=ai J6 (Qq2 J6 Tryz.func124 (by kernel_rfl) aaB (fun x=>by kernel_rfl) rfl)
def acu:An:=.s .z (.u (.l ⟨[0,1,2,3],[(8,.lf (.sc pi))],[(0,[.ownk ae 153 0])],[]⟩ (.s .z (.j ⟨[0,1,2,3,8],[],[(0,[.ownk ae 153 0])],[]⟩ true (.u (.s .z (.u (.l ⟨[0,1,2,3,8],[(9,.lf (.sc pi))],[(0,[.ownk ae 153 0])],[]⟩ .z)))) .z))))
def ET:Ctr:=⟨⟨[.prt ae 153,.d (.sc pi),.d (.sc pi),.fn 124],[(.slice ae)],0,[9856],[⟨some 4194304,false,false⟩]⟩,fun x=>cX x.1 x.2.1 x.2.2.1⟩
def Rz:Cx:=aI PB 213 ET
theorem KQ:Qq0 Rz:=ai H5 (Qq2 H5 Tryz.func213 (by kernel_rfl) acu (fun x=>by kernel_rfl) rfl)
def ab2:An:=.s .z (.s .z (.u (.l ⟨[0,4],[(1,.lf (.sc pi)),(2,.lf (.sc pi)),(3,.lf (.sc pi)),(10,.lf (.sc .bool)),(11,.lf (.sc .bool))],[],[]⟩ (.u (Qq1 3 (.j ⟨[0,1,2,4,10,11,12],[(3,.lf (.sc pi))],[],[]⟩ true .z .z))))))
def GB:Ctr:=⟨⟨[.prt ae 153,.d (.sc pi),.d (.sc pi),.d (.sc pi),.fn 124],[(.slice ae)],0,[9856],[⟨some 4194304,false,false⟩]⟩,fun x=>dG x.1 x.2.1 x.2.2.1 x.2.2.2.1⟩
def QF:Cx:=aI Rz 177 GB
theorem K7:Qq0 QF:=ai KQ (Qq2 KQ Tryz.func177 (by kernel_rfl) ab2 (fun x=>by kernel_rfl) rfl)
def aa6:An:=.z
def Fa:Ctr:=⟨⟨[.prt ae 153,.fn 124],[(.slice ae)],0,[9856],[⟨some 4194304,false,false⟩]⟩,fun x=>cn x.1⟩
theorem Lr:Fa.sound Tryz.prog 123:=Qq2 K7 Tryz.func123 (by kernel_rfl) aa6 (fun x=>by kernel_rfl) rfl
def Rl:Cx:=aI QF 123 Fa
theorem Lv:Qq0 Rl:=ai K7 Lr
end
end Go.Proofs.YtfhhiajfciblbaaGreatDoor
