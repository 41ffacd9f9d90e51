/- Laws for the row. No condition. -/
import Derived.Test.YtgghcmbaidihjaaGreatDoorExtFn
namespace Go.Proofs.YtgghcmbaidihjaaGreatDoor
open Go.Sm
set_option linter.unusedVariables false
abbrev pi:SC:=.int .i64
abbrev WP:=Int×Int×Bool
abbrev Qq3:=Int×Int×Int
abbrev Qq4:=List (List UInt8)
abbrev Qq5:=List ((List UInt8)×Int)
abbrev Qq6:=Int×(List Int)
abbrev Qq7:=List (List Int)
abbrev Qq8:=List UInt8
abbrev Qq9:=List Int
abbrev Qz0{A B C D E F G H R:Type}(c:A×B×C×D×E×F×G×H)(r:R):A×B×C×D×E×F×G×H×R:=(c.1,c.2.1,c.2.2.1,c.2.2.2.1,c.2.2.2.2.1,c.2.2.2.2.2.1,c.2.2.2.2.2.2.1,c.2.2.2.2.2.2.2,r)
abbrev Qz1{A B C D E F G H I J K R:Type}(c:A×B×C×D×E×F×G×H)(e:I×J×K)(r:R):A×B×C×D×E×F×G×H×I×J×K×R:=Qz0 c (e.1,e.2.1,e.2.2,r)
abbrev Qz2{A B:Type}(o:Option A)(f:A->Option B):Option B:=o.bind λ_=>o.bind f
abbrev ah:TC:=.pair (.sc pi) (.pair (.sc pi) ((.sc .bool)))
abbrev aC:TC:=.pair (.sc .str) ((.sc pi))
abbrev ce:TC:=.pair (.sc pi) ((.slice (.sc pi)))
abbrev aU:TC:=.pair (.slice ce) (.pair (.slice (.sc pi)) (.pair (.sc pi) ((.sc .bool))))
abbrev Au:TC:=.pair (.sc pi) (.pair (.sc pi) ((.sc pi)))
abbrev aX:TC:=.pair (.slice aU) (.pair (.slice (.sc pi)) (.pair (.slice (.slice (.sc pi))) (.pair (.slice (.sc pi)) (.pair (.slice (.sc pi)) (.pair (.sc pi) (.pair (.sc pi) (.pair Au (.pair (.sc pi) (.pair (.sc pi) (.pair (.sc pi) ((.sc .str))))))))))))
abbrev bd:TC:=.pair (.sc pi) (.pair (.sc pi) ((.sc pi)))
abbrev bT:TC:=.pair (.slice bd) (.pair (.slice (.sc pi)) (.pair (.slice (.sc pi)) (.pair (.slice aC) (.pair (.slice aC) (.pair (.slice (.sc .str)) (.pair (.slice (.sc .str)) ((.slice (.sc .str)))))))))
abbrev gM:TC:=.pair (.sc pi) (.pair (.sc pi) ((.sc pi)))
abbrev cR:TC:=.pair bT (.pair gM (.pair aX ((.mp ah (.sc .bool)))))
abbrev ma:TC:=.pair (.sc pi) (.pair (.sc pi) ((.sc pi)))
abbrev na:TC:=.pair (.sc .str) ((.sc pi))
abbrev lZ:TC:=.pair (.sc pi) (.pair (.sc pi) (.pair (.sc pi) ((.slice (.sc pi)))))
abbrev od:TC:=.pair (.arr 8 (.int .u32)) (.pair (.arr 64 (.int .u8)) ((.sc (.int .u64))))
abbrev cg:TC:=.pair (.sc .str) ((.sc .str))
abbrev bB:TC:=.pair (.sc pi) (.pair (.sc .str) (.pair (.sc pi) ((.slice .node))))
abbrev bi:TC:=.pair (.sc pi) ((.sc pi))
abbrev aH:TC:=.pair (.sc .str) (.pair (.slice bi) (.pair (.sc pi) (.pair (.sc .bool) ((.sc .bool)))))
abbrev fL:TC:=.pair (.sc pi) (.pair (.sc pi) (.pair (.sc .str) ((.sc .str))))
abbrev gm:TC:=.pair (.slice bd) (.pair (.slice (.sc pi)) (.pair (.slice (.sc pi)) (.pair (.slice aC) (.pair (.slice aC) (.pair (.slice (.sc .str)) (.pair (.slice (.sc .str)) ((.slice (.sc .str)))))))))
abbrev bg:TC:=.pair gm (.pair (.slice (.sc .str)) ((.sc pi)))
abbrev kr:TC:=.pair (.arr 16 (.int .u8)) (.pair (.sc .str) (.pair gM ((.sc pi))))
abbrev bu:TC:=.st (.slice (.arr 16 (.int .u8)))
abbrev cw:TC:=.st (.slice (.arr 16 (.int .u8)))
abbrev qg:TC:=.pair (.sc pi) (.pair (.sc pi) ((.slice (.sc pi))))
abbrev bG:TC:=.pair (.sc .str) ((.sc .str))
abbrev pv:TC:=.pair (.sc pi) (.pair (.sc .str) (.pair (.sc pi) (.pair Au ((.arr 16 (.int .u8))))))
abbrev ux:TC:=.pair lZ ((.sc pi))
abbrev Ah:TC:=.pair pv (.pair (.slice ux) (.pair (.slice (.sc pi)) (.pair (.slice (.slice ah)) ((.slice aC)))))
abbrev dH:TC:=.pair (.slice (.sc .str)) (.pair (.slice (.arr 16 (.int .u8))) (.pair (.sc pi) ((.sc .bool))))
abbrev cK:TC:=.pair (.sc .str) ((.sc .str))
abbrev sJ:TC:=.pair (.sc pi) (.pair (.sc pi) (.pair (.slice cK) ((.slice (.arr 16 (.int .u8))))))
abbrev eA:TC:=.pair (.sc pi) (.pair (.sc pi) (.pair (.slice bG) ((.slice (.arr 16 (.int .u8))))))
abbrev jO:TC:=.pair (.sc pi) (.pair aX (.pair (.slice (.sc pi)) (.pair eA eA)))
abbrev GE:TC:=.st (.arr 16 (.int .u8))
abbrev H9:TC:=.pair (.sc .fnc) ((.sc .fnc))
abbrev Y1:Type:=(Int×(List WP))
abbrev Y2:Type:=(Int×Int×Int×Bool×Bool)
abbrev Y3:Type:=(Int×Qq5)
abbrev Y4:Type:=(Int×Int×Qq5)
abbrev aM:Type:=((List Qq6)×Qq9×Int×Bool)
abbrev aJ:Type:=((List aM)×Qq9×Qq7×Qq9×Qq9×Int×Int×Qq3×Int×Int×Int×Qq8)
abbrev Y7:Type:=(Unit×Int×(List Qq6×Int)×Qq9×Int×Bool)
abbrev Y8:Type:=((List Qq6×Int)×Qq9×Int×Bool)
abbrev Y9:Type:=(Unit×(List aM×Int)×Qq9×Qq7×Qq9×Qq9×Int×Int×Int×Int×Int×Int×Int×Int×Qq8)
abbrev Y10:Type:=(Unit×Int×(List aM×Int)×Qq9×Qq7×Qq9×Qq9×Int×Int×Int×Int×Int×Int×Int×Int×Qq8)
abbrev Y11:Type:=((List aM×Int)×Qq9×Qq7×Qq9×Qq9×Int×Int×Int×Int×Int×Int×Int×Int×Qq8)
abbrev Y12:Type:=(Unit×Int×(List aM)×Qq9×(List Qq9×Int)×Qq9×Qq9×Int×Int×Int×Int×Int×Int×Int×Int×Qq8)
abbrev Y13:Type:=((List aM)×Qq9×(List Qq9×Int)×Qq9×Qq9×Int×Int×Int×Int×Int×Int×Int×Int×Qq8)
abbrev aD:Type:=((List Qq3)×Qq9×Qq9×Qq5×Qq5×Qq4×Qq4×Qq4)
abbrev aR:Type:=(aD×Qq3×aJ×(List (WP×Bool)))
abbrev Y16:Type:=(Bool×(List Qq3)×Qq9×Qq9×Qq5×Qq5×Qq4×Qq4×Qq4×Int×Int×Int×(List aM)×Qq9×Qq7×Qq9×Qq9×Int×Int×Int×Int×Int×Int×Int×Int×Qq8×(List (WP×Bool)))
abbrev yw:Type:=(Int×(List Qq3)×Qq9×Qq9×Qq5×Qq5×Qq4×Qq4×Qq4×Int×Int×Int×(List aM)×Qq9×Qq7×Qq9×Qq9×Int×Int×Int×Int×Int×Int×Int×Int×Qq8×(List (WP×Bool)))
abbrev rt:Type:=((List Qq3)×Qq9×Qq9×Qq5×Qq5×Qq4×Qq4×Qq4×Int×Int×Int×(List aM)×Qq9×Qq7×Qq9×Qq9×Int×Int×Int×Int×Int×Int×Int×Int×Qq8×(List (WP×Bool)))
abbrev UF:Type:=(Qq4×Int)
abbrev Y20:Type:=((List Qq3)×Int)
abbrev bN:Type:=(Int×Int×Int×Qq9)
abbrev cn:Type:=(Qq9×Qq9×Int)
abbrev Y23:Type:=(Int×Qq9×Qq9)
abbrev Y24:Type:=(Qq9×Qq9)
abbrev Y25:Type:=(Qq8×Qq9×Qq9×Int)
abbrev Y26:Type:=(Int×Qq9×Qq9×Int)
abbrev aA:Type:=(Qq8×Qq8)
abbrev vN:Type:=((List aA)×Int)
abbrev Y29:Type:=((List aA)×Bool)
abbrev Y30:Type:=((List aA)×Bool×Int)
abbrev aF:Type:=(Int×Qq8×Int×(List Nd))
abbrev Y32:Type:=((List (Int×Int))×Int)
abbrev am:Type:=(Qq8×(List (Int×Int))×Int×Bool×Bool)
abbrev oZ:Type:=(Qq8×(List (Int×Int))×Int×Bool×Bool×Int×Qq8×Int×(List Nd))
abbrev Y35:Type:=(Int×Qq8×(List (Int×Int))×Int×Bool×Bool)
abbrev bF:Type:=(Int×Int×Qq8×Qq8)
abbrev Y37:Type:=((List bF)×Int)
abbrev Y38:Type:=(Qq4×Qq4)
abbrev Y39:Type:=(Qq4×Qq4×Int)
abbrev aI:Type:=(aD×Qq4×Int)
abbrev JF:Type:=((List Qq3)×Qq9×Qq9×Qq5×Qq5×Qq4×Qq4×Qq4×Qq4×Int)
abbrev P9:Type:=(Int×(List Qq3)×Qq9×Qq9×Qq5×Qq5×Qq4×Qq4×Qq4×Qq4×Int)
abbrev Y43:Type:=(Int×(List Qq3)×Qq9×Qq9×Qq5×Qq5×Qq4×Qq4×Qq4)
abbrev iz:Type:=(Qq9×Qq8×Qq3×Int)
abbrev Ei:Type:=(Int×Qq7)
abbrev fg:Type:=(Int×Int×Qq9)
abbrev Y47:Type:=(Qq5×Int)
abbrev eU:Type:=(Int×Qq8×Int×Qq3×Qq9)
abbrev wv:Type:=(eU×(List (bN×Int))×Qq9×(List (List WP))×Qq5)
abbrev bE:Type:=(Qq4×Qq7×Int×Bool)
abbrev Y51:Type:=(Int×Int×Int×Int×Int×Int×Int×Int×Int)
abbrev zC:Type:=(Int×Int×Int×Int×Int×Int×Int×Int)
abbrev Y53:Type:=(Qq4×Qq4×Qq7×Int×Bool)
abbrev cB:Type:=(Int×Int×(List aA)×Qq7)
abbrev UW:Type:=(Qq7×Int)
abbrev gB:Type:=(Int×aJ×Qq9×cB×cB)
variable [Itr]
def aqY:List UInt8:=[0,1,2,2,3,3,3,3,4,4,4,4,4,4,4,4,5,5,5,5,5,5,5,5,5,5,5,5,5,5,5,5,6,6,6,6,6,6,6,6,6,6,6,6,6,6,6,6,6,6,6,6,6,6,6,6,6,6,6,6,6,6,6,6,7,7,7,7,7,7,7,7,7,7,7,7,7,7,7,7,7,7,7,7,7,7,7,7,7,7,7,7,7,7,7,7,7,7,7,7,7,7,7,7,7,7,7,7,7,7,7,7,7,7,7,7,7,7,7,7,7,7,7,7,7,7,7,7,8,8,8,8,8,8,8,8,8,8,8,8,8,8,8,8,8,8,8,8,8,8,8,8,8,8,8,8,8,8,8,8,8,8,8,8,8,8,8,8,8,8,8,8,8,8,8,8,8,8,8,8,8,8,8,8,8,8,8,8,8,8,8,8,8,8,8,8,8,8,8,8,8,8,8,8,8,8,8,8,8,8,8,8,8,8,8,8,8,8,8,8,8,8,8,8,8,8,8,8,8,8,8,8,8,8,8,8,8,8,8,8,8,8,8,8,8,8,8,8,8,8,8,8,8,8,8,8]
def FZ:List UInt8:=[120,35,32,61,61,32,50]
def Gc:List UInt8:=[49,32,60,61,32,120,35]
def GV:List UInt8:=[120,35,32,60,32,50]
def FR:List UInt8:=[120,35,32,61,61,32,51]
def ru:List UInt8:=[97,99,113,117,105,114,101,32,97,35,59,32,97,99,113,117,105,114,101,32,98,35,59,32,114,101,108,101,97,115,101,32,98,35,59,32,114,101,108,101,97,115,101,32,97,35,59]
def rv:List UInt8:=[97,99,113,117,105,114,101,32,98,35,59,32,97,99,113,117,105,114,101,32,97,35,59,32,114,101,108,101,97,115,101,32,97,35,59,32,114,101,108,101,97,115,101,32,98,35,59]
def FE:List UInt8:=[36,97,32,60,32,36,98]
def FJ:List UInt8:=[36,98,32,60,32,36,97]
def rH:List UInt8:=[45]
def eK:List UInt8:=[32,61,32]
def cx:List UInt8:=[59]
def qb:List UInt8:=[118,97,114]
def AO:List UInt8:=[120]
def jg:List UInt8:=[99,104,97,110]
def wK:List UInt8:=[99]
def wO:List UInt8:=[32,49,59]
def gT:List UInt8:=[112,114,111,99]
def tP:List UInt8:=[112]
def Bp:List UInt8:=[32,123,32,120,35,32,61,32,120,35,32,43,32,49,59,32,115,101,110,100,32,99,35,32,49,59,32,125]
def nM:List UInt8:=[32,123,32,103,111,32,112,35,59,32,120,35,32,61,32,120,35,32,43,32,49,59,32,114,101,99,118,32,99,35,32,36,97,59,32,99,104,101,99,107,32]
def gk:List UInt8:=[59,32,125]
def dJ:List UInt8:=[116,101,115,116]
def gW:List UInt8:=[116]
def aY:List UInt8:=[32]
def qL:List UInt8:=[108,111,99,107]
def agM:List UInt8:=[109]
def AS:List UInt8:=[32,123,32,97,99,113,117,105,114,101,32,109,35,59,32,120,35,32,61,32,120,35,32,43,32,49,59,32,114,101,108,101,97,115,101,32,109,35,59,32,115,101,110,100,32,99,35,32,49,59,32,125]
def oo:List UInt8:=[32,123,32,103,111,32,112,35,59,32,97,99,113,117,105,114,101,32,109,35,59,32,120,35,32,61,32,120,35,32,43,32,49,59,32,114,101,108,101,97,115,101,32,109,35,59,32,114,101,99,118,32,99,35,32,36,97,59,32,99,104,101,99,107,32]
def afk:List UInt8:=[113]
def AI:List UInt8:=[32,123,32,115,101,110,100,32,113,35,32,49,59,32,115,101,110,100,32,113,35,32,50,59,32,125]
def m9:List UInt8:=[32,123,32,103,111,32,112,35,59,32,114,101,99,118,32,113,35,32,36,97,59,32,114,101,99,118,32,113,35,32,36,98,59,32,99,104,101,99,107,32]
def aeS:List UInt8:=[114]
def aj8:List UInt8:=[32,48,59]
def Rs:List UInt8:=[32,61,32,48,59]
def Bq:List UInt8:=[32,123,32,114,101,99,118,32,114,35,32,36,118,59,32,120,35,32,61,32,49,59,32,115,101,110,100,32,99,35,32,49,59,32,125]
def agp:List UInt8:=[111]
def Bo:List UInt8:=[32,123,32,114,101,99,118,32,114,35,32,36,118,59,32,120,35,32,61,32,50,59,32,115,101,110,100,32,99,35,32,49,59,32,125]
def nF:List UInt8:=[32,123,32,103,111,32,112,35,59,32,103,111,32,111,35,59,32,115,101,110,100,32,114,35,32,53,59,32,114,101,99,118,32,99,35,32,36,97,59,32,99,104,101,99,107,32,120,35,32,61,61,32]
def adV:List UInt8:=[97]
def aeX:List UInt8:=[98]
def Am:List UInt8:=[32,123,32,97,99,113,117,105,114,101,32,98,35,59,32,97,99,113,117,105,114,101,32,97,35,59,32,114,101,108,101,97,115,101,32,97,35,59,32,114,101,108,101,97,115,101,32,98,35,59,32,115,101,110,100,32,99,35,32,49,59,32,125]
def yK:List UInt8:=[32,123,32,103,111,32,112,35,59,32]
def yd:List UInt8:=[32,114,101,99,118,32,99,35,32,36,120,59,32,125]
def vB:List UInt8:=[32,123,32,100,114,97,119,32,36,97,32]
def yp:List UInt8:=[59,32,115,101,110,100,32,99,35,32,36,97,59,32,125]
def Gr:List UInt8:=[36,97,32,61,61,32,36,98]
def Bu:List UInt8:=[36,97,32,43,32,36,98,32,60,32,51]
def np:List UInt8:=[32,123,32,103,111,32,112,35,59,32,100,114,97,119,32,36,98,32,50,59,32,114,101,99,118,32,99,35,32,36,97,59,32,99,104,101,99,107,32]
def nB:List UInt8:=[32,123,32,100,114,97,119,32,36,97,32,51,59,32,100,114,97,119,32,36,98,32,50,59,32,99,104,101,99,107,32,36,97,32,42,32,36,98,32,60,32]
def nJ:List UInt8:=[32,123,32,110,111,119,32,36,97,59,32,115,108,101,101,112,32,50,59,32,110,111,119,32,36,98,59,32,99,104,101,99,107,32,36,98,32,45,32,36,97,32,60,32]
def zb:List UInt8:=[102,105,108,101]
def aij:List UInt8:=[102]
def xv:List UInt8:=[32,119,114,105,116,101,32,102,35,32,55,59]
def q9:List UInt8:=[32,123,32,119,114,105,116,101,32,102,35,32,55,59]
def sw:List UInt8:=[32,114,101,97,100,32,102,35,32,36,97,59,32,99,104,101,99,107,32,36,97,32,61,61,32,55,59,32,125]
def tv:List UInt8:=[32,123,32,99,104,101,99,107,32,115,104,97,114,101,100,32,61,61,32,48,59,32,115,104,97,114,101,100,32,61,32,49,59,32,125]
def sd:List UInt8:=[32,123,32,115,104,97,114,101,100,32,61,32,115,104,97,114,101,100,32,43,32,49,59,32,99,104,101,99,107,32,115,104,97,114,101,100,32,60,32,50,59,32,125]
def ue:List UInt8:=[32,123,32,119,104,105,108,101,32,36,105,32,60,32]
def sF:List UInt8:=[32,123,32,120,35,32,61,32,120,35,32,43,32,49,59,32,36,105,32,61,32,36,105,32,43,32,49,59,32,125,32,99,104,101,99,107,32,120,35,32,61,61,32,50,59,32,125]
def tJ:List UInt8:=[32,123,32,105,102,32,107,105,110,100,32,61,61,32]
def sD:List UInt8:=[32,123,32,100,114,97,119,32,36,97,32,50,59,32,99,104,101,99,107,32,36,97,32,61,61,32,48,59,32,125,32,125]
def A7:List UInt8:=[114,101,99]
def akY:List UInt8:=[103]
def H4:List UInt8:=[32,123,32,97,32,61,32,49,59,32,98,32,61,32,50,59,32,125]
def aeW:List UInt8:=[104]
def Fl:List UInt8:=[32,123,32,103,35,46,97,32,61,32,103,35,46,98,32,43,32,49,59,32,125]
def nL:List UInt8:=[32,123,32,99,97,108,108,32,104,35,59,32,99,97,108,108,32,104,35,59,32,99,104,101,99,107,32,103,35,46,97,32,61,61,32]
def ic:List UInt8:=[32,123,32,100,114,97,119,32,36,97,32,50,59,32,105,102,32,36,97,32,123,32,97,108,108,111,99,32,53,59,32,115,108,101,101,112,32,50,59,32,110,111,119,32,36,98,59,32,125,32,101,108,115,101,32,123,32,97,108,108,111,99,32]
def rK:List UInt8:=[59,32,125,32,99,104,101,99,107,32]
def QJ:List UInt8:=[49]
def GS:List UInt8:=[36,97,32,61,61,32,48]
def A9:List UInt8:=[115,104,97,114,101,100]
def tp:List UInt8:=[118,97,114,32,115,104,97,114,101,100,32,61,32,48,59]
def UL:List UInt8:=[40,41,123,125,61,43,45,42,60,59,46]
def C9:List UInt8:=[105,102]
def rX:List UInt8:=[119,104,105,108,101]
def I6:List UInt8:=[103,111]
def En:List UInt8:=[99,97,108,108]
def Eh:List UInt8:=[115,101,110,100]
def D6:List UInt8:=[114,101,99,118]
def zo:List UInt8:=[97,99,113,117,105,114,101]
def zK:List UInt8:=[114,101,108,101,97,115,101]
def Eg:List UInt8:=[100,114,97,119]
def GT:List UInt8:=[110,111,119]
def Br:List UInt8:=[115,108,101,101,112]
def CS:List UInt8:=[119,114,105,116,101]
def Es:List UInt8:=[114,101,97,100]
def B6:List UInt8:=[99,104,101,99,107]
def B1:List UInt8:=[97,108,108,111,99]
def Ep:List UInt8:=[101,108,115,101]
def yM:List UInt8:=[107,105,110,100]
def DK:List UInt8:=[61]
def TL:List UInt8:=[123]
def rG:List UInt8:=[125]
def Dq:List UInt8:=[40]
def Ij:List UInt8:=[41]
def uc:List UInt8:=[46]
def aqA:List UInt8:=[42]
def Ua:List UInt8:=[43]
def Ur:List UInt8:=[60]
def VF:List UInt8:=[60,61]
def T8:List UInt8:=[61,61]
def UY:List UInt8:=[32,123,32]
def Ud:List UInt8:=[59,32]
def ary:List UInt8:=[123,32]
def tF:List UInt8:=[36]
def Ig:List UInt8:=[32,60,32]
def Ib:List UInt8:=[32,60,61,32]
def Hm:List UInt8:=[32,61,61,32]
def HY:List UInt8:=[32,43,32]
def Hr:List UInt8:=[32,45,32]
def Iv:List UInt8:=[32,42,32]
def sq:List UInt8:=[119,104,105,108,101,32]
def pb:List UInt8:=[105,102,32]
def yR:List UInt8:=[32,101,108,115,101,32]
def ol:List UInt8:=[32,36]
def pz:List UInt8:=[116,48]
def sf(c:Int):Option Int:= ((bif decide (4294967296<=c)then af (decide (0<=(32:Int))) (some (dD .u64 c (32:Int),32))else some (c,0):Option (Int×Int))).bind λa=>((bif decide (65536<=a.1)then af (decide (0<=(16:Int))) (some (dD .u64 a.1 (16:Int),ac (a.2+16)))else some a:Option (Int×Int))).bind λb=>((bif decide (256<=b.1)then af (decide (0<=(8:Int))) (some (dD .u64 b.1 (8:Int),ac (b.2+8)))else some b:Option (Int×Int))).bind λd=>(ae aqY (IntKind.u8.wrap d.1)).bind λv4=>some (ac (d.2+(ac (v4.toNat:Int))))
def qO(a:Int):Option Int:= (sf a).bind λr1=>some r1
def dY(a:WP)(b:WP):Option Int:= bif a.1 != b.1 then some (ac (a.1-b.1))else some (ac (a.2.1-b.2.1))
def dC(c:(List WP×Int×Int))(d:Int)(a:Y1):Option ((Y1)⊕((List WP))):=
 let b:=c.2.1
 af (!(decide (d<a.1))||(decide (0<=a.1/\a.1<c.2.2-b))) ((bif(decide (d<a.1))then ae a.2 (b+a.1)else some ((0:Int),(0:Int),false)).bind λv4=>af (!(decide (d<a.1))||(decide (0<=(ac (a.1-1))/\(ac (a.1-1))<c.2.2-b))) ((bif(decide (d<a.1))then ae a.2 (b+(ac (a.1-1)))else some ((0:Int),(0:Int),false)).bind λg=>(bif(decide (d<a.1))then dY v4 g else some (0:Int)).bind λf=>bif bif decide (d<a.1)then decide (f<0)else false then af (decide (0<=(ac (a.1-1))/\(ac (a.1-1))<c.2.2-b)) ((ae a.2 (b+(ac (a.1-1)))).bind λe=>af (decide (0<=a.1/\a.1<c.2.2-b)) ((ae a.2 (b+a.1)).bind λh=>af (decide (0<=a.1/\a.1<c.2.2-b)) ((ae a.2 (b+a.1)).bind λ_=>af (decide (0<=(ac (a.1-1))/\(ac (a.1-1))<c.2.2-b)) ((ae (a.2.set (b+a.1).toNat e) (b+(ac (a.1-1)))).bind λ_=>some (.inl (ac (a.1-1),(a.2.set (b+a.1).toNat e).set (b+(ac (a.1-1))).toNat h))))))else some (.inr a.2)))
def fN(c:(List WP×Int×Int))(d:Int)(e:Int)(a:Y1):Option ((Y1)⊕(List WP)):= bif decide (a.1<e)then((Itr.it (dC c d) a:Option (List WP))).bind λb=>some (.inl (ac (a.1+1),b))else some (.inr a.2)
def dc(a:(List WP×Int×Int))(b:Int)(c:Int):Option (List WP):= Itr.it (fN a b c) (ac (b+1),a.1)
def eB(b:(List WP×Int×Int))(a:Y2):Option ((Y2)⊕(List WP)):= bif decide ((ac (a.2.1-a.1))<=12)then(dc (b.1,b.2.1,b.2.2) a.1 a.2.1).bind λc=>some (.inr c)else bif a.2.2.1==0 then none else((bif !a.2.2.2.1 then none else some a.2.2.1:Option Int)).bind λ_=>none
def dW(a:(List WP×Int×Int))(b:Int)(c:Int)(d:Int):Option (List WP):= Itr.it (eB a) (b,c,d,true,true)
def co(a:(List WP×Int×Int)):Option (List WP):= (qO (IntKind.u64.wrap (a.2.2-a.2.1))).bind λr1=>(dW (a.1,a.2.1,a.2.2) 0 (a.2.2-a.2.1) r1).bind λb=>some b
def qd(a:(Qq8×Int))(b:(Qq8×Int)):Option Int:= bif Op.bytesLess a.1 b.1 then some (-1)else bif !(Op.bytesLess a.1 b.1||a.1==b.1)then some 1 else some 0
def de(c:(List (Qq8×Int)×Int×Int))(d:Int)(a:Y3):Option ((Y3)⊕(Qq5)):=
 let b:=c.2.1
 af (!(decide (d<a.1))||(decide (0<=a.1/\a.1<c.2.2-b))) ((bif(decide (d<a.1))then ae a.2 (b+a.1)else some (([]:Qq8),(0:Int))).bind λv4=>af (!(decide (d<a.1))||(decide (0<=(ac (a.1-1))/\(ac (a.1-1))<c.2.2-b))) ((bif(decide (d<a.1))then ae a.2 (b+(ac (a.1-1)))else some (([]:Qq8),(0:Int))).bind λg=>(bif(decide (d<a.1))then qd v4 g else some (0:Int)).bind λf=>bif bif decide (d<a.1)then decide (f<0)else false then af (decide (0<=(ac (a.1-1))/\(ac (a.1-1))<c.2.2-b)) ((ae a.2 (b+(ac (a.1-1)))).bind λe=>af (decide (0<=a.1/\a.1<c.2.2-b)) ((ae a.2 (b+a.1)).bind λh=>af (decide (0<=a.1/\a.1<c.2.2-b)) ((ae a.2 (b+a.1)).bind λ_=>af (decide (0<=(ac (a.1-1))/\(ac (a.1-1))<c.2.2-b)) ((ae (a.2.set (b+a.1).toNat e) (b+(ac (a.1-1)))).bind λ_=>some (.inl (ac (a.1-1),(a.2.set (b+a.1).toNat e).set (b+(ac (a.1-1))).toNat h))))))else some (.inr a.2)))
def eH(c:(List (Qq8×Int)×Int×Int))(d:Int)(e:Int)(a:Y3):Option ((Y3)⊕Qq5):= bif decide (a.1<e)then((Itr.it (de c d) a:Option Qq5)).bind λb=>some (.inl (ac (a.1+1),b))else some (.inr a.2)
def dV(a:(List (Qq8×Int)×Int×Int))(b:Int)(c:Int):Option Qq5:= Itr.it (eH a b c) (ac (b+1),a.1)
def d5(b:(List (Qq8×Int)×Int×Int))(d:Int)(a:Y4):Option ((Y4)⊕(Y3)):= bif decide (a.2.1<=d)then(dV (a.2.2,b.2.1,b.2.2) a.1 a.2.1).bind λc=>some (.inl (a.2.1,ac (a.2.1+20),c))else some (.inr (a.1,a.2.2))
def pR(b:Int)(a:(Int×Int)):Option (((Int×Int))⊕(Int)):= bif decide (a.2<=b)then none else some (.inr a.1)
def d8(b:Int)(c:Qq5)(a:Int):Option ((Int)⊕Qq5):= bif decide (a<b)then((Itr.it (pR b) (0,ac (2*a)):Option Int)).bind λd=>((bif decide ((ac (d+a))<b)then none else some ():Option Unit)).bind λ_=>some (.inl (ac (a*2)))else some (.inr c)
def fJ(a:(List (Qq8×Int)×Int×Int))(b:Int):Option Qq5:= ((Itr.it (d5 a b) (0,20,a.1):Option Y3)).bind λc=>(dV (c.2,a.2.1,a.2.2) c.1 b).bind λd=>Itr.it (d8 b d) 20
def dA(a:(List (Qq8×Int)×Int×Int)):Option Qq5:= (fJ (a.1,a.2.1,a.2.2) (a.2.2-a.2.1)).bind λr1=>some r1
def xN(a:Int)(b:Int):Option (Int×Int):= af (decide (0<=(32:Int))) (af (decide (0<=(32:Int))) (af (decide (0<=(32:Int))) (af (decide (0<=(32:Int))) (af (decide (0<=(32:Int))) (some (IntKind.u64.wrap ((IntKind.u64.wrap ((IntKind.u64.wrap ((dD .u64 a (32:Int))*(dD .u64 b (32:Int))))+(dD .u64 (IntKind.u64.wrap ((IntKind.u64.wrap ((dD .u64 a (32:Int))*(bc .and .u64 b (4294967295:Int))))+(dD .u64 (IntKind.u64.wrap ((bc .and .u64 a (4294967295:Int))*(bc .and .u64 b (4294967295:Int)))) (32:Int)))) (32:Int))))+(dD .u64 (IntKind.u64.wrap ((bc .and .u64 (IntKind.u64.wrap ((IntKind.u64.wrap ((dD .u64 a (32:Int))*(bc .and .u64 b (4294967295:Int))))+(dD .u64 (IntKind.u64.wrap ((bc .and .u64 a (4294967295:Int))*(bc .and .u64 b (4294967295:Int)))) (32:Int)))) (4294967295:Int))+(IntKind.u64.wrap ((bc .and .u64 a (4294967295:Int))*(dD .u64 b (32:Int)))))) (32:Int))),IntKind.u64.wrap (a*b)))))))
def Bk(a:Int)(b:Int):Option (Int×Int):= (xN a b).bind λr1=>some r1
def vf(a:(Qq9×Int)):Option (((Qq9×Int))⊕(Qq9)):= bif decide (a.2<(a.1.length:Int))then af (decide (0<=a.2/\a.2<=(a.1.length:Int)/\(a.1.length:Int)<=a.1.length)) (af (decide (0<=a.2/\a.2<=a.1.length)) (af (decide (a.2<=(a.1.length:Int)/\(a.1.length:Int)<=a.1.length)&&true) (some (.inl (a.1.take (a.2:Int).toNat++(a.1.take a.2.toNat).take (min ((a.1.length:Int)-a.2).toNat (a.1.take a.2.toNat).length)++a.1.drop ((a.2:Int).toNat+(min ((a.1.length:Int)-a.2).toNat (a.1.take a.2.toNat).length)),ac (a.2+(((min ((a.1.length:Int)-a.2).toNat (a.1.take a.2.toNat).length):Nat):Int)))))))else some (.inr a.1)
def rx(b:Qq9)(c:Int):Option Qq9:= ((bif decide (c<0)then none else some ():Option Unit)).bind λ_=>(Bk (IntKind.u64.wrap (b.length:Int)) (IntKind.u64.wrap c)).bind λa=>((bif bif decide (0<a.1)then true else decide (9223372036854775807<a.2)then none else some ():Option Unit)).bind λ_=>af (decide (0<=(ac a.2)/\(ac a.2)*8<=281474976710656/\(ac a.2)<=maxLen)) (af (decide (0<=((List.replicate (ac a.2).toNat (0:Int)).length:Int)/\((List.replicate (ac a.2).toNat (0:Int)).length:Int)<=(List.replicate (ac a.2).toNat (0:Int)).length)&&true) (((Itr.it (vf) ((List.replicate (ac a.2).toNat (0:Int)).take (0:Int).toNat++b.take (min (((List.replicate (ac a.2).toNat (0:Int)).length:Int)-0).toNat b.length)++(List.replicate (ac a.2).toNat (0:Int)).drop ((0:Int).toNat+(min (((List.replicate (ac a.2).toNat (0:Int)).length:Int)-0).toNat b.length)),(((min (((List.replicate (ac a.2).toNat (0:Int)).length:Int)-0).toNat b.length):Nat):Int)):Option Qq9)).bind λd=>some d))
def ia(a:Int):Option Qq9:= (rx ([1]:Qq9) a).bind λr1=>some r1
def eD(a:(List aM)):Option (List aM):= af (aN ([]:List aM).length a.length 64) (some (([]:List aM)++a))
def cD(a:Qq9):Option Qq9:= af (aN ([]:Qq9).length a.length 8) (some (([]:Qq9)++a))
def du(a:(List Qq6)):Option (List Qq6):= af (aN ([]:List Qq6).length a.length 32) (some (([]:List Qq6)++a))
def jY(a:Qq7):Option Qq7:= af (aN ([]:Qq7).length a.length 24) (some (([]:Qq7)++a))
def kW(g:(List Qq6))(a:Y7):Option ((Y7)⊕(Y8)):=
 let c:=a.2.1
 let b:=a.2.2.1
 bif decide (c<(g.length:Int))then Qz2 (ae b.1 c) λe=>(cD e.2).bind λd=>(ae b.1 c).bind λ_=>af (c==b.2) ((ae b.1 c).bind λf=>some (.inl ((),ac (c+1),(b.1.set c.toNat (f.1,d),b.2+1),a.2.2.2)))else some (.inr ((b.1,b.2),a.2.2.2))
def ln(r1:(List aM))(a:Y10):Option ((Y10)⊕(Y11)):=
 let b:=a.2.2.1
 bif decide (a.2.1<(r1.length:Int))then((Qz2 (ae b.1 a.2.1) λv6=>(cD v6.2.1).bind λf=>(du v6.1).bind λe=>((Itr.it (kW e) ((),0,(e,0),f,v6.2.2):Option Y8)).bind λc=>af (decide ((c.1.1.length:Int)<=c.1.2)) ((ae b.1 a.2.1).bind λ_=>af (a.2.1==b.2) ((ae b.1 a.2.1).bind λ_=>some ((),(b.1.set a.2.1.toNat (c.1.1,c.2),b.2+1),a.2.2.2))):Option Y9)).bind λd=>some (.inl ((),ac (a.2.1+1),(d.2.1.1,d.2.1.2),d.2.2))else some (.inr ((b.1,b.2),a.2.2.2))
def kX(d:Qq7)(a:Y12):Option ((Y12)⊕(Y13)):=
 let c:=a.2.1
 let b:=a.2.2.2.2.1
 bif decide (c<(d.length:Int))then Qz2 (ae b.1 c) λf=>(cD f).bind λe=>(ae b.1 c).bind λ_=>af (c==b.2) ((ae b.1 c).bind λ_=>some (.inl ((),ac (c+1),a.2.2.1,a.2.2.2.1,(b.1.set c.toNat e,b.2+1),a.2.2.2.2.2)))else some (.inr (a.2.2.1,a.2.2.2.1,(b.1,b.2),a.2.2.2.2.2))
def iE(b:aJ):Option aJ:=
 let e:=b.2.2.2.2.2.2.2.1
 (eD b.1).bind λr1=>((Itr.it (ln r1) ((),0,(r1,0),b.2.1,b.2.2.1,b.2.2.2.1,b.2.2.2.2.1,b.2.2.2.2.2.1,b.2.2.2.2.2.2.1,e.1,e.2.1,e.2.2,b.2.2.2.2.2.2.2.2):Option Y11)).bind λc=>af (decide ((c.1.1.length:Int)<=c.1.2)) ((cD c.2.1).bind λf=>(cD c.2.2.2.1).bind λg=>(cD c.2.2.2.2.1).bind λh=>(jY c.2.2.1).bind λd=>((Itr.it (kX d) ((),0,c.1.1,f,(d,0),g,h,c.2.2.2.2.2):Option Y13)).bind λa=>af (decide ((a.2.2.1.1.length:Int)<=a.2.2.1.2)) (some (a.1,a.2.1,a.2.2.1.1,a.2.2.2.1,a.2.2.2.2.1,a.2.2.2.2.2.1,a.2.2.2.2.2.2.1,(a.2.2.2.2.2.2.2.1,a.2.2.2.2.2.2.2.2.1,a.2.2.2.2.2.2.2.2.2.1),a.2.2.2.2.2.2.2.2.2.2)))
def oQ  : Option (List (Int×Nat)):= some (cP (.sc pi) (.sc .fnc) 9 (319:Nat) (cP (.sc pi) (.sc .fnc) 8 (318:Nat) (cP (.sc pi) (.sc .fnc) 7 (317:Nat) (cP (.sc pi) (.sc .fnc) 6 (316:Nat) (cP (.sc pi) (.sc .fnc) 5 (315:Nat) (cP (.sc pi) (.sc .fnc) 4 (314:Nat) ([]:(List (Int×Nat)))))))))
def rN(a:Int):Option Bool:= some (bif decide (16<=a)then decide (a<29)else false)
def qR(a:Int):Option Bool:= some (a != a)
def sS(a:Int)(b:Int):Option Bool:= (qR a).bind λr1=>(bif r1 then qR b else some false).bind λc=>some (bif bif r1 then !c else false then true else decide (a<b))
def nS(a:Int):Option Bool:= some (a != a)
def go(c:Qq9)(d:Int)(a:(Int×Int)):Option (((Int×Int))⊕(Int)):= bif decide (a.1<a.2)then af (decide (0<=(1:Int))) (Qz2 (ae c (ac (dD .u64 (IntKind.u64.wrap (ac (a.1+a.2))) (1:Int)))) λv4=>(sS v4 d).bind λb=>bif b then some (.inl (ac ((ac (dD .u64 (IntKind.u64.wrap (ac (a.1+a.2))) (1:Int)))+1),a.2))else some (.inl (a.1,ac (dD .u64 (IntKind.u64.wrap (ac (a.1+a.2))) (1:Int)))))else some (.inr a.1)
def gi(a:Qq9)(c:Int):Option (Int×Bool):= ((Itr.it (go a c) (0,(a.length:Int)):Option Int)).bind λb=>Qz2 (bif(decide (b<(a.length:Int)))then ae a b else some (0:Int)) λe=>Qz2 (bif(decide (b<(a.length:Int))) && !(e==c)then ae a b else some (0:Int)) λg=>(bif(decide (b<(a.length:Int))) && !(e==c)then nS g else some false).bind λd=>(bif((decide (b<(a.length:Int))) && !(e==c))&&d then nS c else some false).bind λf=>some (b,bif decide (b<(a.length:Int))then bif e==c then true else bif d then f else false else false)
def dU(b:aD)(c:Int):Option Int:= (gi b.2.1 c).bind λr1=>((bif !r1.2 then some (ac (r1.1-1))else some r1.1:Option Int)).bind λa=>some a
def sE(a:Int)(b:Int):Option Int:= some (ac (a+b))
def sv(a:Int)(b:Int):Option Int:= some (ac (a-b))
def sG(a:Int)(b:Int):Option Int:= some (ac (a*b))
def eY(a:Bool):Option Int:= bif a then some 1 else some 0
def j6(a:Int)(b:Int):Option Int:= (eY (decide (a<b))).bind λr1=>some r1
def jZ(a:Int)(b:Int):Option Int:= (eY (decide (a<=b))).bind λr1=>some r1
def j9(a:Int)(b:Int):Option Int:= (eY (a==b)).bind λr1=>some r1
def aa8(f:Nat)(a:Int)(b:Int):Option Int:= bif Nat.beq f 314 then sE a b else bif Nat.beq f 315 then sv a b else bif Nat.beq f 316 then sG a b else bif Nat.beq f 317 then j6 a b else bif Nat.beq f 318 then jZ a b else bif Nat.beq f 319 then j9 a b else none
def l8(p0:(yw))(b:Int):Option Qq3:=
 let a:=p0.2.2.2.2.2.2.2.2.2.2.2.2.1
 (ae a b).bind λc=>bif c.2.2.2 then some (29,0,0)else(ae a b).bind λd=>(ae a b).bind λe=>Qz2 (ae d.1 (ac ((e.1.length:Int)-1))) λf=>Qz2 (ae p0.2.1 f.1) λg=>some g
def md(p0:(yw))(b:Int):Option Bool:= (l8 p0 b).bind λa=>(rN a.1).bind λc=>(bif(!c)&&(a.1==13)then ae p0.2.2.2.2.2.2.2.2.2.2.2.2.1 b else some (([]:List Qq6),([]:Qq9),(0:Int),false)).bind λd=>some (bif c then true else bif a.1==13 then(d.1.length:Int)==1 else false)
def mc(j:(yw))(c:Int):Option Y16:=
 let o:=j.2.1
 let m:=j.2.2.1
 let n:=j.2.2.2.1
 let p:=j.2.2.2.2.1
 let q:=j.2.2.2.2.2.1
 let r:=j.2.2.2.2.2.2.1
 let s:=j.2.2.2.2.2.2.2.1
 let k:=j.2.2.2.2.2.2.2.2.1
 let l:=j.2.2.2.2.2.2.2.2.2.1
 let e:=j.2.2.2.2.2.2.2.2.2.2.1
 let f:=j.2.2.2.2.2.2.2.2.2.2.2.1
 let d:=j.2.2.2.2.2.2.2.2.2.2.2.2.1
 let g:=j.2.2.2.2.2.2.2.2.2.2.2.2.2
 let v:=j.2.2.2.2.2.2.2.2.2.2.2.2.2.1
 let w:=j.2.2.2.2.2.2.2.2.2.2.2.2.2.2.1
 let x:=j.2.2.2.2.2.2.2.2.2.2.2.2.2.2.2.1
 let y:=j.2.2.2.2.2.2.2.2.2.2.2.2.2.2.2.2.1
 let z:=j.2.2.2.2.2.2.2.2.2.2.2.2.2.2.2.2.2.1
 let A:=j.2.2.2.2.2.2.2.2.2.2.2.2.2.2.2.2.2.2.1
 let B:=j.2.2.2.2.2.2.2.2.2.2.2.2.2.2.2.2.2.2.2.1
 let C:=j.2.2.2.2.2.2.2.2.2.2.2.2.2.2.2.2.2.2.2.2.1
 let G:=j.2.2.2.2.2.2.2.2.2.2.2.2.2.2.2.2.2.2.2.2.2.1
 let H:=j.2.2.2.2.2.2.2.2.2.2.2.2.2.2.2.2.2.2.2.2.2.2.1
 let I:=j.2.2.2.2.2.2.2.2.2.2.2.2.2.2.2.2.2.2.2.2.2.2.2.2.2.2
 (l8 j c).bind λi=>
 let h:=i.2.1
 (ae d c).bind λa=>
 let b:=a.2.1
 let t:=a.2.2
 af (c==c) (af (c==c) ((ae a.1 (ac ((a.1.length:Int)-1))).bind λ_=>bif i.1==0 then af (c==c) (bif decide (16<=(b.length:Int))then some (!false,o,m,n,p,q,r,s,k,l,e,f,d.set c.toNat a,g)else af (c==c) (af (aN b.length ([h]:Qq9).length 8) (af (c==c) ((ae a.1 (ac ((a.1.length:Int)-1))).bind λP=>(ae a.1 (ac ((a.1.length:Int)-1))).bind λQ=>some (!true,o,m,n,p,q,r,s,k,l,e,f,d.set c.toNat (a.1.set (ac ((a.1.length:Int)-1)).toNat (ac (P.1+1),Q.2),b++([h]:Qq9),t),g)))))else bif i.1==1 then(ae a.1 (ac ((a.1.length:Int)-1))).bind λR=>Qz2 (ae R.2 h) λK=>af (c==c) (bif decide (16<=(b.length:Int))then some (!false,o,m,n,p,q,r,s,k,l,e,f,d.set c.toNat a,g)else af (c==c) (af (aN b.length ([K]:Qq9).length 8) (af (c==c) ((ae a.1 (ac ((a.1.length:Int)-1))).bind λS=>(ae a.1 (ac ((a.1.length:Int)-1))).bind λT=>some (!true,o,m,n,p,q,r,s,k,l,e,f,d.set c.toNat (a.1.set (ac ((a.1.length:Int)-1)).toNat (ac (S.1+1),T.2),b++([K]:Qq9),t),g)))))else bif i.1==3 then af (c==c) (bif decide (16<=(b.length:Int))then some (!false,o,m,n,p,q,r,s,k,l,e,f,d.set c.toNat a,g)else af (c==c) (af (aN b.length ([l]:Qq9).length 8) (af (c==c) ((ae a.1 (ac ((a.1.length:Int)-1))).bind λU=>(ae a.1 (ac ((a.1.length:Int)-1))).bind λV=>some (!true,o,m,n,p,q,r,s,k,l,e,f,d.set c.toNat (a.1.set (ac ((a.1.length:Int)-1)).toNat (ac (U.1+1),V.2),b++([l]:Qq9),t),g)))))else bif i.1==2 then af (c==c) (bif decide ((ac ((b.length:Int)-1))<0)then some (!false,o,m,n,p,q,r,s,k,l,e,f,d.set c.toNat a,g)else af (c==c) (Qz2 (ae b (ac ((b.length:Int)-1))) λW=>af (c==c) (af (decide (0<=(ac ((b.length:Int)-1))/\(ac ((b.length:Int)-1))<=b.length)) (af (c==c) ((ae a.1 (ac ((a.1.length:Int)-1))).bind λD=>af ((ac ((a.1.length:Int)-1))==(ac ((a.1.length:Int)-1))) (Qz2 (ae D.2 h) λ_=>af ((ac ((a.1.length:Int)-1))==(ac ((a.1.length:Int)-1))) (af ((ac ((a.1.length:Int)-1))==(ac ((a.1.length:Int)-1))) (some (!true,o,m,n,p,q,r,s,k,l,e,f,d.set c.toNat (a.1.set (ac ((a.1.length:Int)-1)).toNat (ac (D.1+1),D.2.set h.toNat W),b.take (ac ((b.length:Int)-1)).toNat,t),g)))))))))else bif i.1==10 then(ae a.1 (ac ((a.1.length:Int)-1))).bind λE=>(ae (a.1.set (ac ((a.1.length:Int)-1)).toNat (ac (h-1),E.2)) (ac ((a.1.length:Int)-1))).bind λX=>(ae (a.1.set (ac ((a.1.length:Int)-1)).toNat (ac (h-1),E.2)) (ac ((a.1.length:Int)-1))).bind λY=>some (!true,o,m,n,p,q,r,s,k,l,e,f,d.set c.toNat ((a.1.set (ac ((a.1.length:Int)-1)).toNat (ac (h-1),E.2)).set (ac ((a.1.length:Int)-1)).toNat (ac (X.1+1),Y.2),a.2),g)else bif i.1==11 then af (c==c) (bif decide ((ac ((b.length:Int)-1))<0)then bif bif false then(0:Int)==0 else false then(ae a.1 (ac ((a.1.length:Int)-1))).bind λZ=>some (!false,o,m,n,p,q,r,s,k,l,e,f,d.set c.toNat (a.1.set (ac ((a.1.length:Int)-1)).toNat (ac (h-1),Z.2),a.2),g)else some (!false,o,m,n,p,q,r,s,k,l,e,f,d.set c.toNat a,g)else af (c==c) (Qz2 (ae b (ac ((b.length:Int)-1))) λv59=>af (c==c) (af (decide (0<=(ac ((b.length:Int)-1))/\(ac ((b.length:Int)-1))<=b.length)) (af (c==c) (bif bif true then v59==0 else false then(ae a.1 (ac ((a.1.length:Int)-1))).bind λF=>(ae (a.1.set (ac ((a.1.length:Int)-1)).toNat (ac (h-1),F.2)) (ac ((a.1.length:Int)-1))).bind λv61=>(ae (a.1.set (ac ((a.1.length:Int)-1)).toNat (ac (h-1),F.2)) (ac ((a.1.length:Int)-1))).bind λv62=>some (!true,o,m,n,p,q,r,s,k,l,e,f,d.set c.toNat ((a.1.set (ac ((a.1.length:Int)-1)).toNat (ac (h-1),F.2)).set (ac ((a.1.length:Int)-1)).toNat (ac (v61.1+1),v62.2),b.take (ac ((b.length:Int)-1)).toNat,t),g)else(ae a.1 (ac ((a.1.length:Int)-1))).bind λv63=>(ae a.1 (ac ((a.1.length:Int)-1))).bind λv64=>some (!true,o,m,n,p,q,r,s,k,l,e,f,d.set c.toNat (a.1.set (ac ((a.1.length:Int)-1)).toNat (ac (v63.1+1),v64.2),b.take (ac ((b.length:Int)-1)).toNat,t),g))))))else bif i.1==12 then af (c==c) (bif decide (8<=(a.1.length:Int))then some (!false,o,m,n,p,q,r,s,k,l,e,f,d.set c.toNat a,g)else(ae a.1 (ac ((a.1.length:Int)-1))).bind λL=>(ae a.1 (ac ((a.1.length:Int)-1))).bind λM=>af (c==c) (Qz2 (ae m h) λN=>Qz2 (ae n h) λu=>af (decide (0<=u/\u*8<=281474976710656/\u<=maxLen)) (af (aN (a.1.set (ac ((a.1.length:Int)-1)).toNat (ac (L.1+1),M.2)).length ([(N,List.replicate u.toNat (0:Int))]:List Qq6).length 32) (af (c==c) (some (!true,o,m,n,p,q,r,s,k,l,e,f,d.set c.toNat ((a.1.set (ac ((a.1.length:Int)-1)).toNat (ac (L.1+1),M.2))++([(N,List.replicate u.toNat (0:Int))]:List Qq6),a.2),g))))))else bif i.1==13 then af (c==c) (af (c==c) (af (decide (0<=(ac ((a.1.length:Int)-1))/\(ac ((a.1.length:Int)-1))<=a.1.length)) (af (c==c) (some (!true,o,m,n,p,q,r,s,k,l,e,f,d.set c.toNat (a.1.take (ac ((a.1.length:Int)-1)).toNat,a.2),g)))))else bif i.1==14 then af (c==c) (bif decide ((ac ((b.length:Int)-1))<0)then bif bif false then(0:Int)==0 else false then Qz2 (ae k i.2.2) λv72=>some (!false,o,m,n,p,q,r,s,k,l,e,f,d.set c.toNat a,v,w,x,y,z,A,B,C,G,H,1,h,v72,I)else some (!false,o,m,n,p,q,r,s,k,l,e,f,d.set c.toNat a,g)else af (c==c) (Qz2 (ae b (ac ((b.length:Int)-1))) λv74=>af (c==c) (af (decide (0<=(ac ((b.length:Int)-1))/\(ac ((b.length:Int)-1))<=b.length)) (af (c==c) (bif bif true then v74==0 else false then Qz2 (ae k i.2.2) λv76=>(ae a.1 (ac ((a.1.length:Int)-1))).bind λv77=>(ae a.1 (ac ((a.1.length:Int)-1))).bind λv78=>some (!true,o,m,n,p,q,r,s,k,l,e,f,d.set c.toNat (a.1.set (ac ((a.1.length:Int)-1)).toNat (ac (v77.1+1),v78.2),b.take (ac ((b.length:Int)-1)).toNat,t),v,w,x,y,z,A,B,C,G,H,1,h,v76,I)else(ae a.1 (ac ((a.1.length:Int)-1))).bind λv79=>(ae a.1 (ac ((a.1.length:Int)-1))).bind λv80=>some (!true,o,m,n,p,q,r,s,k,l,e,f,d.set c.toNat (a.1.set (ac ((a.1.length:Int)-1)).toNat (ac (v79.1+1),v80.2),b.take (ac ((b.length:Int)-1)).toNat,t),g))))))else bif i.1==15 then(ae a.1 (ac ((a.1.length:Int)-1))).bind λv81=>(ae a.1 (ac ((a.1.length:Int)-1))).bind λv82=>some (!true,o,m,n,p,q,r,s,k,l,e,f,d.set c.toNat (a.1.set (ac ((a.1.length:Int)-1)).toNat (ac (v81.1+1),v82.2),a.2),v,w,x,y,z,A,B,ac (C+h),j.2.2.2.2.2.2.2.2.2.2.2.2.2.2.2.2.2.2.2.2.2)else af (c==c) (bif decide ((ac ((b.length:Int)-2))<0)then some (!false,o,m,n,p,q,r,s,k,l,e,f,d.set c.toNat a,g)else af (c==c) (af (decide (0<=(ac ((b.length:Int)-2))/\(ac ((b.length:Int)-2))<=b.length)) ((oQ).bind λO=>(dt (.sc pi) (.sc .fnc) i.1 O).bind λv84=>af (c==c) (Qz2 (ae b (ac ((b.length:Int)-2))) λv86=>af (c==c) (Qz2 (ae b (ac ((ac ((b.length:Int)-2))+1))) λv88=>(aa8 v84 v86 v88).bind λJ=>af (aN (b.take (ac ((b.length:Int)-2)).toNat).length ([J]:Qq9).length 8) (af (c==c) ((ae a.1 (ac ((a.1.length:Int)-1))).bind λv90=>(ae a.1 (ac ((a.1.length:Int)-1))).bind λv91=>some (!true,o,m,n,p,q,r,s,k,l,e,f,d.set c.toNat (a.1.set (ac ((a.1.length:Int)-1)).toNat (ac (v90.1+1),v91.2),(b.take (ac ((b.length:Int)-2)).toNat)++([J]:Qq9),t),g))))))))))
def gQ(d:Int)(b:yw):Option ((yw)⊕(rt⊕aR)):=
 let Q:=b.2.2.2.2.2.1
 let R:=b.2.2.2.2.2.2.1
 let S:=b.2.2.2.2.2.2.2.1
 let P:=b.2.2.2.2.2.2.2.2.1
 let k5:=b.2.2.2.2.2.2.2.2.2.1
 let k6:=b.2.2.2.2.2.2.2.2.2.2.1
 let k7:=b.2.2.2.2.2.2.2.2.2.2.2.1
 let k:=b.2.2.2.2.2.2.2.2.2.2.2.2.1
 let k9:=b.2.2.2.2.2.2.2.2.2.2.2.2.2.1
 let l:=b.2.2.2.2.2.2.2.2.2.2.2.2.2.2.1
 let m:=b.2.2.2.2.2.2.2.2.2.2.2.2.2.2.2.1
 let n:=b.2.2.2.2.2.2.2.2.2.2.2.2.2.2.2.2.1
 let o:=b.2.2.2.2.2.2.2.2.2.2.2.2.2.2.2.2.2.1
 let p:=b.2.2.2.2.2.2.2.2.2.2.2.2.2.2.2.2.2.2.1
 let q:=b.2.2.2.2.2.2.2.2.2.2.2.2.2.2.2.2.2.2.2.1
 let r:=b.2.2.2.2.2.2.2.2.2.2.2.2.2.2.2.2.2.2.2.2.1
 let s:=b.2.2.2.2.2.2.2.2.2.2.2.2.2.2.2.2.2.2.2.2.2.1
 let t:=b.2.2.2.2.2.2.2.2.2.2.2.2.2.2.2.2.2.2.2.2.2.2.1
 let u:=b.2.2.2.2.2.2.2.2.2.2.2.2.2.2.2.2.2.2.2.2.2.2.2.2.2.2
 bif decide (b.2.2.2.2.2.2.2.2.2.2.2.2.2.2.2.2.2.2.2.2.2.2.2.1<0)then(md b d).bind λT=>bif T then some (.inr (.inl b.2))else bif b.1==64 then(ae k d).bind λU=>bif !U.2.2.2 then(ae k d).bind λV=>(ae k d).bind λW=>Qz2 (ae V.1 (ac ((W.1.length:Int)-1))) λX=>(dU (b.2.1,b.2.2.1,b.2.2.2.1,b.2.2.2.2.1,Q,R,S,P) X.1).bind λJ=>Qz2 (ae P J) λY=>(ae k d).bind λZ=>(ae k d).bind λv24=>Qz2 (ae Z.1 (ac ((v24.1.length:Int)-1))) λv26=>Qz2 (ae b.2.2.1 J) λv28=>some (.inr (.inr ((b.2.1,b.2.2.1,b.2.2.2.1,b.2.2.2.2.1,Q,R,S,P),(k5,k6,k7),(k,k9,l,m,n,o,p,(q,r,s),t,3,ac (v26.1-v28),Y),u)))else some (.inr (.inr ((b.2.1,b.2.2.1,b.2.2.2.1,b.2.2.2.2.1,Q,R,S,P),(k5,k6,k7),(k,k9,l,m,n,o,p,(q,r,s),t,3,b.2.2.2.2.2.2.2.2.2.2.2.2.2.2.2.2.2.2.2.2.2.2.2.2.1,b.2.2.2.2.2.2.2.2.2.2.2.2.2.2.2.2.2.2.2.2.2.2.2.2.2.1),u)))else((mc b d:Option Y16)).bind λa=>
    let e:=a.2.2.1
    let g:=a.2.2.2.2.1
    let h:=a.2.2.2.2.2.1
    let i:=a.2.2.2.2.2.2.1
    let j:=a.2.2.2.2.2.2.2.1
    let f:=a.2.2.2.2.2.2.2.2.1
    let v:=a.2.2.2.2.2.2.2.2.2.1
    let w:=a.2.2.2.2.2.2.2.2.2.2.1
    let x:=a.2.2.2.2.2.2.2.2.2.2.2.1
    let c:=a.2.2.2.2.2.2.2.2.2.2.2.2.1
    let y:=a.2.2.2.2.2.2.2.2.2.2.2.2.2.1
    let z:=a.2.2.2.2.2.2.2.2.2.2.2.2.2.2.1
    let A:=a.2.2.2.2.2.2.2.2.2.2.2.2.2.2.2.1
    let B:=a.2.2.2.2.2.2.2.2.2.2.2.2.2.2.2.2.1
    let C:=a.2.2.2.2.2.2.2.2.2.2.2.2.2.2.2.2.2.1
    let D:=a.2.2.2.2.2.2.2.2.2.2.2.2.2.2.2.2.2.2.1
    let E:=a.2.2.2.2.2.2.2.2.2.2.2.2.2.2.2.2.2.2.2.1
    let F:=a.2.2.2.2.2.2.2.2.2.2.2.2.2.2.2.2.2.2.2.2.1
    let G:=a.2.2.2.2.2.2.2.2.2.2.2.2.2.2.2.2.2.2.2.2.2.1
    let H:=a.2.2.2.2.2.2.2.2.2.2.2.2.2.2.2.2.2.2.2.2.2.2.1
    let I:=a.2.2.2.2.2.2.2.2.2.2.2.2.2.2.2.2.2.2.2.2.2.2.2.2.2.2
    bif a.1 then(ae c d).bind λv92=>bif !v92.2.2.2 then(ae c d).bind λv93=>(ae c d).bind λv94=>Qz2 (ae v93.1 (ac ((v94.1.length:Int)-1))) λv96=>(dU (a.2.1,e,a.2.2.2.1,g,h,i,j,f) v96.1).bind λK=>Qz2 (ae f K) λv99=>(ae c d).bind λL=>(ae c d).bind λM=>Qz2 (ae L.1 (ac ((M.1.length:Int)-1))) λN=>Qz2 (ae e K) λO=>some (.inr (.inr ((a.2.1,e,a.2.2.2.1,g,h,i,j,f),(v,w,x),(c,y,z,A,B,C,D,(E,F,G),H,4,ac (N.1-O),v99),I)))else some (.inr (.inr ((a.2.1,e,a.2.2.2.1,g,h,i,j,f),(v,w,x),(c,y,z,A,B,C,D,(E,F,G),H,4,a.2.2.2.2.2.2.2.2.2.2.2.2.2.2.2.2.2.2.2.2.2.2.2.2.1,a.2.2.2.2.2.2.2.2.2.2.2.2.2.2.2.2.2.2.2.2.2.2.2.2.2.1),I)))else some (.inl (ac (b.1+1),a.2))else some (.inr (.inl b.2))
def oX(p0:(rt))(b:Int):Option Qq3:=
 let a:=p0.2.2.2.2.2.2.2.2.2.2.2.1
 (ae a b).bind λc=>bif c.2.2.2 then some (29,0,0)else(ae a b).bind λd=>(ae a b).bind λe=>Qz2 (ae d.1 (ac ((e.1.length:Int)-1))) λf=>Qz2 (ae p0.1 f.1) λg=>some g
def iU(J:aR)(H:Int):Option aR:=
 let c:=J.2.2.1
 (ae c.1 H).bind λ_=>((Itr.it (gQ H) (0,Qz1 J.1 J.2.1 (c.1,c.2.1,c.2.2.1,c.2.2.2.1,c.2.2.2.2.1,c.2.2.2.2.2.1,c.2.2.2.2.2.2.1,c.2.2.2.2.2.2.2.1.1,c.2.2.2.2.2.2.2.1.2.1,c.2.2.2.2.2.2.2.1.2.2,c.2.2.2.2.2.2.2.2.1,c.2.2.2.2.2.2.2.2.2.1,c.2.2.2.2.2.2.2.2.2.2.1,c.2.2.2.2.2.2.2.2.2.2.2,J.2.2.2)):Option (rt⊕aR))).bind λI=>
 match I with
 | .inl b=>
  let z:=b.2.2.1
  let A:=b.2.2.2.1
  let y:=b.2.2.2.2.1
  let B:=b.2.2.2.2.2.1
  let C:=b.2.2.2.2.2.2.1
  let D:=b.2.2.2.2.2.2.2.1
  let i:=b.2.2.2.2.2.2.2.2.1
  let j:=b.2.2.2.2.2.2.2.2.2.1
  let k:=b.2.2.2.2.2.2.2.2.2.2.1
  let d:=b.2.2.2.2.2.2.2.2.2.2.2.1
  let l:=b.2.2.2.2.2.2.2.2.2.2.2.2.1
  let m:=b.2.2.2.2.2.2.2.2.2.2.2.2.2.1
  let e:=b.2.2.2.2.2.2.2.2.2.2.2.2.2.2.1
  let n:=b.2.2.2.2.2.2.2.2.2.2.2.2.2.2.2.1
  let f:=b.2.2.2.2.2.2.2.2.2.2.2.2.2.2.2.2.1
  let o:=b.2.2.2.2.2.2.2.2.2.2.2.2.2.2.2.2.2.1
  let p:=b.2.2.2.2.2.2.2.2.2.2.2.2.2.2.2.2.2.2.1
  let q:=b.2.2.2.2.2.2.2.2.2.2.2.2.2.2.2.2.2.2.2.1
  let r:=b.2.2.2.2.2.2.2.2.2.2.2.2.2.2.2.2.2.2.2.2.1
  let t:=b.2.2.2.2.2.2.2.2.2.2.2.2.2.2.2.2.2.2.2.2.2.1
  let s:=b.2.2.2.2.2.2.2.2.2.2.2.2.2.2.2.2.2.2.2.2.2.2.1
  let u:=b.2.2.2.2.2.2.2.2.2.2.2.2.2.2.2.2.2.2.2.2.2.2.2.1
  let v:=b.2.2.2.2.2.2.2.2.2.2.2.2.2.2.2.2.2.2.2.2.2.2.2.2.1
  let g:=b.2.2.2.2.2.2.2.2.2.2.2.2.2.2.2.2.2.2.2.2.2.2.2.2.2
  bif decide (0<=s)then some ((b.1,b.2.1,z,A,y,B,C,D),(i,j,k),(d,l,m,e,n,f,o,(p,q,r),t,s,u,v),g)else(oX b H).bind λh=>
   let x:=h.2.1
   bif h.1==25 then(ae d H).bind λw=>some ((b.1,b.2.1,z,A,y,B,C,D),(i,j,k),(d.set H.toNat (w.1,(w.2.1,(ac (f+x),w.2.2.2))),l,m,e,n,f,o,(p,q,r),t,s,u,v),cP ah (.sc .bool) (4,0,false) (bif(dt ah (.sc .bool) (4,0,false) g).getD false then true else false) g)else bif h.1==21 then((Qz2 (ae e x) λF=>bif decide (0<=F)then some (b.1,b.2.1,z,A,y,B,C,D,i,j,k,d,l,m,e,n,f,o,p,q,ac (r+1),b.2.2.2.2.2.2.2.2.2.2.2.2.2.2.2.2.2.2.2.2.2)else some b:Option rt)).bind λa=>
     let K:=a.2.2.2.2.2.2.2.2.2.2.2.2.2.2.2.2.2.2.2.2.2.2.2.2.2
     some ((a.1,a.2.1,a.2.2.1,a.2.2.2.1,a.2.2.2.2.1,a.2.2.2.2.2.1,a.2.2.2.2.2.2.1,a.2.2.2.2.2.2.2.1),(a.2.2.2.2.2.2.2.2.1,a.2.2.2.2.2.2.2.2.2.1,a.2.2.2.2.2.2.2.2.2.2.1),(a.2.2.2.2.2.2.2.2.2.2.2.1,a.2.2.2.2.2.2.2.2.2.2.2.2.1,a.2.2.2.2.2.2.2.2.2.2.2.2.2.1,a.2.2.2.2.2.2.2.2.2.2.2.2.2.2.1,a.2.2.2.2.2.2.2.2.2.2.2.2.2.2.2.1,a.2.2.2.2.2.2.2.2.2.2.2.2.2.2.2.2.1,a.2.2.2.2.2.2.2.2.2.2.2.2.2.2.2.2.2.1,(a.2.2.2.2.2.2.2.2.2.2.2.2.2.2.2.2.2.2.1,a.2.2.2.2.2.2.2.2.2.2.2.2.2.2.2.2.2.2.2.1,a.2.2.2.2.2.2.2.2.2.2.2.2.2.2.2.2.2.2.2.2.1),a.2.2.2.2.2.2.2.2.2.2.2.2.2.2.2.2.2.2.2.2.2.1,a.2.2.2.2.2.2.2.2.2.2.2.2.2.2.2.2.2.2.2.2.2.2.1,a.2.2.2.2.2.2.2.2.2.2.2.2.2.2.2.2.2.2.2.2.2.2.2.1,a.2.2.2.2.2.2.2.2.2.2.2.2.2.2.2.2.2.2.2.2.2.2.2.2.1),cP ah (.sc .bool) (2,x,false) (bif(dt ah (.sc .bool) (2,x,false) K).getD false then true else false) K)else bif h.1==20 then Qz2 (ae y x) λG=>bif G.2==0 then some ((b.1,b.2.1,z,A,y,B,C,D),(i,j,k),(d,l,m,e,n,f,o,(p,q,r),t,s,u,v),cP ah (.sc .bool) (1,x,false) (bif(dt ah (.sc .bool) (1,x,false) g).getD false then true else true) g)else some ((b.1,b.2.1,z,A,y,B,C,D),(i,j,k),(d,l,m,e,n,f,o,(p,q,r),t,s,u,v),g)else some ((b.1,b.2.1,z,A,y,B,C,D),(i,j,k),(d,l,m,e,n,f,o,(p,q,r),t,s,u,v),g)
 |.inr E=>some E
def lQ(p0:aR)(a:((Qq9×Int))):Option Qq3:= (ae p0.2.2.1.1 a.2).bind λb=>bif b.2.2.2 then some (29,0,0)else(ae p0.2.2.1.1 a.2).bind λc=>(ae p0.2.2.1.1 a.2).bind λd=>Qz2 (ae c.1 (ac ((d.1.length:Int)-1))) λe=>Qz2 (ae p0.1.1 e.1) λf=>some f
def jx(c:aR)(e:Int)(a:(Qq9×Int)):Option (((Qq9×Int))⊕(Qq9)):= bif decide (a.2<(c.2.2.1.1.length:Int))then(((ae c.2.2.1.1 a.2).bind λ_=>(lQ c a).bind λb=>bif bif b.1==20 then b.2.1==e else false then af (aN a.1.length ([a.2]:Qq9).length 8) (some (a.1++([a.2]:Qq9)))else some a.1:Option Qq9)).bind λd=>some (.inl (d,ac (a.2+1)))else some (.inr a.1)
def dI(b:aR)(c:Int):Option Qq9:= ((Itr.it (jx b c) (([]:Qq9),0):Option Qq9)).bind λa=>some a
def mo(a:Qq3)(e:aR)(k:((Qq9×Int)))(g:aM):Option Bool:=
 let c:=e.2.2.1
 let d:=a.2.1
 bif a.1==21 then Qz2 (ae c.2.2.2.1 d) λh=>some (decide (h<0))else bif a.1==19 then Qz2 (ae e.1.2.2.2.2.1 d) λb=>Qz2 (ae c.2.2.1 d) λv20=>(bif(!(decide ((v20.length:Int)<b.2)))&&(b.2==0)then dI (e.1,e.2.1,c,([]:(List (WP×Bool)))) d else some ([]:Qq9)).bind λf=>some (bif decide ((v20.length:Int)<b.2)then true else bif b.2==0 then decide (0<(f.length:Int))else false)else bif a.1==20 then Qz2 (ae c.2.2.1 d) λi=>some (decide (0<(i.length:Int)))else bif a.1==25 then(ae c.1 k.2).bind λj=>some (decide (j.2.2.1<=c.2.2.2.2.2.1))else some (!g.2.2.2)
def j8(b:aR)(a:(Qq9×Int)):Option (((Qq9×Int))⊕(Qq9)):= bif decide (a.2<(b.2.2.1.1.length:Int))then(((ae b.2.2.1.1 a.2).bind λ_=>(lQ b a).bind λc=>(ae b.2.2.1.1 a.2).bind λe=>((mo c b a e:Option Bool)).bind λd=>bif d then af (aN a.1.length ([a.2]:Qq9).length 8) (some (a.1++([a.2]:Qq9)))else some a.1:Option Qq9)).bind λf=>some (.inl (f,ac (a.2+1)))else some (.inr a.1)
def fm(b:aR):Option Qq9:= ((Itr.it (j8 b) (([]:Qq9),0):Option Qq9)).bind λa=>some a
def uM(p0:aR)(a:((Int×Int))):Option Qq3:= (ae p0.2.2.1.1 a.2).bind λb=>bif b.2.2.2 then some (29,0,0)else(ae p0.2.2.1.1 a.2).bind λc=>(ae p0.2.2.1.1 a.2).bind λd=>Qz2 (ae c.1 (ac ((d.1.length:Int)-1))) λe=>Qz2 (ae p0.1.1 e.1) λf=>some f
def g9(c:aR)(a:(Int×Int)):Option (((Int×Int))⊕(Int)):= bif decide (a.2<(c.2.2.1.1.length:Int))then(((ae c.2.2.1.1 a.2).bind λ_=>(uM c a).bind λb=>(bif(b.1==25) && !(decide (a.1<0))then ae c.2.2.1.1 a.2 else some (([]:List Qq6),([]:Qq9),(0:Int),false)).bind λe=>bif bif b.1==25 then bif decide (a.1<0)then true else decide (e.2.2.1<a.1)else false then(ae c.2.2.1.1 a.2).bind λv30=>some v30.2.2.1 else some a.1:Option Int)).bind λd=>some (.inl (d,ac (a.2+1)))else some (.inr a.1)
def ju(b:aR):Option aR:=
 let a:=b.2.2.1
 bif decide (0<=a.2.2.2.2.2.2.2.2.2.1)then some b else bif a.2.2.2.2.2.2.1==0 then Qz2 (ae a.1 0) λr=>bif !r.2.2.2 then(ae a.1 0).bind λs=>(ae a.1 0).bind λv4=>Qz2 (ae s.1 (ac ((v4.1.length:Int)-1))) λv6=>(dU b.1 v6.1).bind λq=>Qz2 (ae b.1.2.2.2.2.2.2.2 q) λt=>(ae a.1 0).bind λv10=>(ae a.1 0).bind λv11=>Qz2 (ae v10.1 (ac ((v11.1.length:Int)-1))) λf=>Qz2 (ae b.1.2.1 q) λg=>some (b.1,b.2.1,(a.1,a.2.1,a.2.2.1,a.2.2.2.1,a.2.2.2.2.1,a.2.2.2.2.2.1,a.2.2.2.2.2.2.1,a.2.2.2.2.2.2.2.1,a.2.2.2.2.2.2.2.2.1,3,ac (f.1-g),t),b.2.2.2)else some (b.1,b.2.1,(a.1,a.2.1,a.2.2.1,a.2.2.2.1,a.2.2.2.2.1,a.2.2.2.2.2.1,a.2.2.2.2.2.2.1,a.2.2.2.2.2.2.2.1,a.2.2.2.2.2.2.2.2.1,3,a.2.2.2.2.2.2.2.2.2.2),b.2.2.2)else(fm b).bind λe=>bif decide (0<(e.length:Int))then some b else((Itr.it (g9 b) (-1,0):Option Int)).bind λd=>bif decide (d<0)then Qz2 (ae a.1 0) λh=>bif !h.2.2.2 then(ae a.1 0).bind λi=>(ae a.1 0).bind λj=>Qz2 (ae i.1 (ac ((j.1.length:Int)-1))) λk=>(dU b.1 k.1).bind λc=>Qz2 (ae b.1.2.2.2.2.2.2.2 c) λl=>(ae a.1 0).bind λm=>(ae a.1 0).bind λn=>Qz2 (ae m.1 (ac ((n.1.length:Int)-1))) λo=>Qz2 (ae b.1.2.1 c) λp=>some (b.1,b.2.1,(a.1,a.2.1,a.2.2.1,a.2.2.2.1,a.2.2.2.2.1,a.2.2.2.2.2.1,a.2.2.2.2.2.2.1,a.2.2.2.2.2.2.2.1,a.2.2.2.2.2.2.2.2.1,2,ac (o.1-p),l),b.2.2.2)else some (b.1,b.2.1,(a.1,a.2.1,a.2.2.1,a.2.2.2.1,a.2.2.2.2.1,a.2.2.2.2.2.1,a.2.2.2.2.2.2.1,a.2.2.2.2.2.2.2.1,a.2.2.2.2.2.2.2.2.1,2,a.2.2.2.2.2.2.2.2.2.2),b.2.2.2)else some (b.1,b.2.1,(a.1,a.2.1,a.2.2.1,a.2.2.2.1,a.2.2.2.2.1,d,a.2.2.2.2.2.2),b.2.2.2)
def mi(b:aR)(a:(Int×Int)):Option (((Int×Int))⊕(Int)):= bif decide (a.2<(b.2.2.1.1.length:Int))then Qz2 (ae b.2.2.1.1 a.2) λv4=>(eY (!v4.2.2.2)).bind λc=>some (.inl (ac (a.1+c),ac (a.2+1)))else some (.inr a.1)
def kA(b:aR):Option Int:= ((Itr.it (mi b) (0,0):Option Int)).bind λa=>some a
def lW(d:aR)(b:Int)(i:Int):Option (Qq9×Bool×aR):=
 let c:=d.2.2.1
 let e:=d.2.2.2
 (kA (d.1,d.2.1,c,cP ah (.sc .bool) (5,0,false) (bif(dt ah (.sc .bool) (5,0,false) e).getD false then true else true) e)).bind λr1=>bif decide (5<=r1)then some (([]:Qq9),false,(d.1,d.2.1,c,cP ah (.sc .bool) (5,0,false) (bif(dt ah (.sc .bool) (5,0,false) e).getD false then true else true) e))else(ae c.1 b).bind λa=>af (decide (0<=b/\b<(c.1.length:Int)-0)) (af ((0+b)==b) (af ((0+b)==b) (Qz2 (ae a.1 (ac ((a.1.length:Int)-1))) λv4=>(ae a.1 (ac ((a.1.length:Int)-1))).bind λg=>Qz2 (ae d.1.2.1 i) λh=>Qz2 (ae d.1.2.2.1 i) λf=>af (decide (0<=f/\f*8<=281474976710656/\f<=maxLen)) (af (aN (c.1.set b.toNat (a.1.set (ac ((a.1.length:Int)-1)).toNat (ac (v4.1+1),g.2),a.2)).length ([(([(h,List.replicate f.toNat (0:Int))]:List Qq6),([]:Qq9),0,false)]:List aM).length 64) (some (([ac ((((c.1.set b.toNat (a.1.set (ac ((a.1.length:Int)-1)).toNat (ac (v4.1+1),g.2),a.2))++([(([(h,List.replicate f.toNat (0:Int))]:List Qq6),([]:Qq9),0,false)]:List aM)).length:Int)-1),b]:Qq9),true,(d.1,d.2.1,((c.1.set b.toNat (a.1.set (ac ((a.1.length:Int)-1)).toNat (ac (v4.1+1),g.2),a.2))++([(([(h,List.replicate f.toNat (0:Int))]:List Qq6),([]:Qq9),0,false)]:List aM),c.2),cP ah (.sc .bool) (5,ac (1+(ac ((((c.1.set b.toNat (a.1.set (ac ((a.1.length:Int)-1)).toNat (ac (v4.1+1),g.2),a.2))++([(([(h,List.replicate f.toNat (0:Int))]:List Qq6),([]:Qq9),0,false)]:List aM)).length:Int)-1))),false) (bif(dt ah (.sc .bool) (5,ac (1+(ac ((((c.1.set b.toNat (a.1.set (ac ((a.1.length:Int)-1)).toNat (ac (v4.1+1),g.2),a.2))++([(([(h,List.replicate f.toNat (0:Int))]:List Qq6),([]:Qq9),0,false)]:List aM)).length:Int)-1))),false) (cP ah (.sc .bool) (5,0,false) (bif(dt ah (.sc .bool) (5,0,false) e).getD false then true else true) e)).getD false then true else true) (cP ah (.sc .bool) (5,0,false) (bif(dt ah (.sc .bool) (5,0,false) e).getD false then true else true) e))))))))
def pJ(p0:Int)(a:aM)(b:aR)(c:Qq6):Option Qq3:= af (p0==p0) (bif a.2.2.2 then some (29,0,0)else af (p0==p0) (af (p0==p0) (af (decide (0<=(ac ((a.1.length:Int)-1))/\(ac ((a.1.length:Int)-1))<(a.1.length:Int)-0)) (af ((0+(ac ((a.1.length:Int)-1)))==(ac ((a.1.length:Int)-1))) (Qz2 (ae b.1.1 c.1) λd=>some d)))))
def nH(l:aR)(a:Int)(K:Int)(b:Int):Option (Qq9×Bool×aR):=
 let c:=l.2.2.1
 let m:=l.2.2.2
 Qz2 (ae c.1 a) λj=>
 let k:=j.2.1
 af (a==a) (bif decide ((ac ((k.length:Int)-1))<0)then bif !false then some (([]:Qq9),false,(l.1,l.2.1,(c.1.set a.toNat j,c.2),cP ah (.sc .bool) (1,b,false) (bif(dt ah (.sc .bool) (1,b,false) m).getD false then true else true) m))else Qz2 (ae l.1.2.2.2.2.1 b) λv4=>bif decide (0<v4.2)then(ae (c.1.set a.toNat j) a).bind λy=>af (a==a) (af (a==a) (Qz2 (ae y.1 (ac ((y.1.length:Int)-1))) λL=>(ae y.1 (ac ((y.1.length:Int)-1))).bind λM=>(ae c.2.2.1 b).bind λJ=>af (decide (0<=b/\b<(c.2.2.1.length:Int)-0)) (af ((0+b)==b) (af (aN J.length ([0]:Qq9).length 8) (af (decide (0<=b/\b<(c.2.2.1.length:Int)-0)) (af ((0+b)==b) (some (([a]:Qq9),true,(l.1,l.2.1,((c.1.set a.toNat j).set a.toNat (y.1.set (ac ((y.1.length:Int)-1)).toNat (ac (L.1+1),M.2),y.2),c.2.1,c.2.2.1.set b.toNat (J++([0]:Qq9)),c.2.2.2),cP ah (.sc .bool) (1,b,false) (bif(dt ah (.sc .bool) (1,b,false) m).getD false then true else true) m)))))))))else(dI (l.1,l.2.1,(c.1.set a.toNat j,c.2),cP ah (.sc .bool) (1,b,false) (bif(dt ah (.sc .bool) (1,b,false) m).getD false then true else true) m) b).bind λA=>Qz2 (ae A K) λd=>(ae (c.1.set a.toNat j) a).bind λh=>af (a==a) (af (a==a) (Qz2 (ae h.1 (ac ((h.1.length:Int)-1))) λu=>(ae h.1 (ac ((h.1.length:Int)-1))).bind λv=>Qz2 (ae ((c.1.set a.toNat j).set a.toNat (h.1.set (ac ((h.1.length:Int)-1)).toNat (ac (u.1+1),v.2),h.2)) d) λf=>(ae f.1 (ac ((f.1.length:Int)-1))).bind λq=>af (d==d) (af (d==d) (af (decide (0<=(ac ((f.1.length:Int)-1))/\(ac ((f.1.length:Int)-1))<(f.1.length:Int)-0)) (af ((0+(ac ((f.1.length:Int)-1)))==(ac ((f.1.length:Int)-1))) ((pJ d f l q).bind λs=>Qz2 (ae q.2 s.2.2) λ_=>(ae (((c.1.set a.toNat j).set a.toNat (h.1.set (ac ((h.1.length:Int)-1)).toNat (ac (u.1+1),v.2),h.2)).set d.toNat (f.1.set (ac ((f.1.length:Int)-1)).toNat (q.1,q.2.set s.2.2.toNat 0),f.2)) d).bind λn=>af (d==d) (af (d==d) (Qz2 (ae n.1 (ac ((n.1.length:Int)-1))) λC=>(ae n.1 (ac ((n.1.length:Int)-1))).bind λD=>some (([d,a]:Qq9),true,(l.1,l.2.1,((((c.1.set a.toNat j).set a.toNat (h.1.set (ac ((h.1.length:Int)-1)).toNat (ac (u.1+1),v.2),h.2)).set d.toNat (f.1.set (ac ((f.1.length:Int)-1)).toNat (q.1,q.2.set s.2.2.toNat 0),f.2)).set d.toNat (n.1.set (ac ((n.1.length:Int)-1)).toNat (ac (C.1+1),D.2),n.2),c.2),cP ah (.sc .bool) (5,ac (1+d),false) (bif(dt ah (.sc .bool) (5,ac (1+d),false) (cP ah (.sc .bool) (1,b,false) (bif(dt ah (.sc .bool) (1,b,false) m).getD false then true else true) m)).getD false then true else true) (cP ah (.sc .bool) (1,b,false) (bif(dt ah (.sc .bool) (1,b,false) m).getD false then true else true) m)))))))))))else af (a==a) (Qz2 (ae k (ac ((k.length:Int)-1))) λv30=>af (a==a) (af (decide (0<=(ac ((k.length:Int)-1))/\(ac ((k.length:Int)-1))<=k.length)) (af (a==a) (bif !true then some (([]:Qq9),false,(l.1,l.2.1,(c.1.set a.toNat (j.1,k.take (ac ((k.length:Int)-1)).toNat,j.2.2),c.2),cP ah (.sc .bool) (1,b,false) (bif(dt ah (.sc .bool) (1,b,false) m).getD false then true else true) m))else Qz2 (ae l.1.2.2.2.2.1 b) λE=>bif decide (0<E.2)then(ae (c.1.set a.toNat (j.1,k.take (ac ((k.length:Int)-1)).toNat,j.2.2)) a).bind λo=>af (a==a) (af (a==a) (Qz2 (ae o.1 (ac ((o.1.length:Int)-1))) λF=>(ae o.1 (ac ((o.1.length:Int)-1))).bind λG=>(ae c.2.2.1 b).bind λz=>af (decide (0<=b/\b<(c.2.2.1.length:Int)-0)) (af ((0+b)==b) (af (aN z.length ([v30]:Qq9).length 8) (af (decide (0<=b/\b<(c.2.2.1.length:Int)-0)) (af ((0+b)==b) (some (([a]:Qq9),true,(l.1,l.2.1,((c.1.set a.toNat (j.1,k.take (ac ((k.length:Int)-1)).toNat,j.2.2)).set a.toNat (o.1.set (ac ((o.1.length:Int)-1)).toNat (ac (F.1+1),G.2),o.2),c.2.1,c.2.2.1.set b.toNat (z++([v30]:Qq9)),c.2.2.2),cP ah (.sc .bool) (1,b,false) (bif(dt ah (.sc .bool) (1,b,false) m).getD false then true else true) m)))))))))else(dI (l.1,l.2.1,(c.1.set a.toNat (j.1,k.take (ac ((k.length:Int)-1)).toNat,j.2.2),c.2),cP ah (.sc .bool) (1,b,false) (bif(dt ah (.sc .bool) (1,b,false) m).getD false then true else true) m) b).bind λB=>Qz2 (ae B K) λe=>(ae (c.1.set a.toNat (j.1,k.take (ac ((k.length:Int)-1)).toNat,j.2.2)) a).bind λi=>af (a==a) (af (a==a) (Qz2 (ae i.1 (ac ((i.1.length:Int)-1))) λw=>(ae i.1 (ac ((i.1.length:Int)-1))).bind λx=>Qz2 (ae ((c.1.set a.toNat (j.1,k.take (ac ((k.length:Int)-1)).toNat,j.2.2)).set a.toNat (i.1.set (ac ((i.1.length:Int)-1)).toNat (ac (w.1+1),x.2),i.2)) e) λg=>(ae g.1 (ac ((g.1.length:Int)-1))).bind λr=>af (e==e) (af (e==e) (af (decide (0<=(ac ((g.1.length:Int)-1))/\(ac ((g.1.length:Int)-1))<(g.1.length:Int)-0)) (af ((0+(ac ((g.1.length:Int)-1)))==(ac ((g.1.length:Int)-1))) ((pJ e g l r).bind λt=>Qz2 (ae r.2 t.2.2) λ_=>(ae (((c.1.set a.toNat (j.1,k.take (ac ((k.length:Int)-1)).toNat,j.2.2)).set a.toNat (i.1.set (ac ((i.1.length:Int)-1)).toNat (ac (w.1+1),x.2),i.2)).set e.toNat (g.1.set (ac ((g.1.length:Int)-1)).toNat (r.1,r.2.set t.2.2.toNat v30),g.2)) e).bind λp=>af (e==e) (af (e==e) (Qz2 (ae p.1 (ac ((p.1.length:Int)-1))) λH=>(ae p.1 (ac ((p.1.length:Int)-1))).bind λI=>some (([e,a]:Qq9),true,(l.1,l.2.1,((((c.1.set a.toNat (j.1,k.take (ac ((k.length:Int)-1)).toNat,j.2.2)).set a.toNat (i.1.set (ac ((i.1.length:Int)-1)).toNat (ac (w.1+1),x.2),i.2)).set e.toNat (g.1.set (ac ((g.1.length:Int)-1)).toNat (r.1,r.2.set t.2.2.toNat v30),g.2)).set e.toNat (p.1.set (ac ((p.1.length:Int)-1)).toNat (ac (H.1+1),I.2),p.2),c.2),cP ah (.sc .bool) (5,ac (1+e),false) (bif(dt ah (.sc .bool) (5,ac (1+e),false) (cP ah (.sc .bool) (1,b,false) (bif(dt ah (.sc .bool) (1,b,false) m).getD false then true else true) m)).getD false then true else true) (cP ah (.sc .bool) (1,b,false) (bif(dt ah (.sc .bool) (1,b,false) m).getD false then true else true) m))))))))))))))))
def pD(p0:aR)(a:Int):Option Qq3:= (ae p0.2.2.1.1 a).bind λb=>bif b.2.2.2 then some (29,0,0)else(ae p0.2.2.1.1 a).bind λc=>(ae p0.2.2.1.1 a).bind λd=>Qz2 (ae c.1 (ac ((d.1.length:Int)-1))) λe=>Qz2 (ae p0.1.1 e.1) λf=>some f
def rA(c:Int)(b:aR):Option rt:=
 let a:=b.2.2.1
 bif c==0 then some (Qz1 b.1 b.2.1 (a.1.set c.toNat (([]:List Qq6),([]:Qq9),0,true),a.2.1,a.2.2.1,a.2.2.2.1,a.2.2.2.2.1,a.2.2.2.2.2.1,a.2.2.2.2.2.2.1,a.2.2.2.2.2.2.2.1.1,a.2.2.2.2.2.2.2.1.2.1,a.2.2.2.2.2.2.2.1.2.2,a.2.2.2.2.2.2.2.2.1,0,a.2.2.2.2.2.2.2.2.2.2.1,a.2.2.2.2.2.2.2.2.2.2.2,cP ah (.sc .bool) (5,0,false) (bif(dt ah (.sc .bool) (5,0,false) b.2.2.2).getD false then true else true) b.2.2.2))else some (Qz1 b.1 b.2.1 (a.1.set c.toNat (([]:List Qq6),([]:Qq9),0,true),a.2.1,a.2.2.1,a.2.2.2.1,a.2.2.2.2.1,a.2.2.2.2.2.1,a.2.2.2.2.2.2.1,a.2.2.2.2.2.2.2.1.1,a.2.2.2.2.2.2.2.1.2.1,a.2.2.2.2.2.2.2.1.2.2,a.2.2.2.2.2.2.2.2.1,a.2.2.2.2.2.2.2.2.2.1,a.2.2.2.2.2.2.2.2.2.2.1,a.2.2.2.2.2.2.2.2.2.2.2,cP ah (.sc .bool) (5,0,false) (bif(dt ah (.sc .bool) (5,0,false) b.2.2.2).getD false then true else true) b.2.2.2))
def cZ(k:Qq3)(j:aR)(b:Int)(v:Int):Option (Y16⊕(Qq9×Bool×aR)):=
 let l:=j.2.1
 let a:=j.2.2.1
 let e:=j.2.2.2
 let d:=k.2.1
 bif k.1==16 then(ae a.1 b).bind λv11=>Qz2 (ae a.2.1 d) λw=>af (b==b) (bif decide (16<=(v11.2.1.length:Int))then some (.inl (false,Qz1 j.1 l (a.1.set b.toNat v11,a.2.1,a.2.2.1,a.2.2.2.1,a.2.2.2.2.1,a.2.2.2.2.2.1,a.2.2.2.2.2.2.1,a.2.2.2.2.2.2.2.1.1,a.2.2.2.2.2.2.2.1.2.1,a.2.2.2.2.2.2.2.1.2.2,a.2.2.2.2.2.2.2.2.1,a.2.2.2.2.2.2.2.2.2.1,a.2.2.2.2.2.2.2.2.2.2.1,a.2.2.2.2.2.2.2.2.2.2.2,cP ah (.sc .bool) (0,d,false) (bif(dt ah (.sc .bool) (0,d,false) e).getD false then true else false) e)))else af (b==b) (af (aN v11.2.1.length ([w]:Qq9).length 8) (af (b==b) (some (.inl (true,Qz1 j.1 l (a.1.set b.toNat (v11.1,v11.2.1++([w]:Qq9),v11.2.2),a.2.1,a.2.2.1,a.2.2.2.1,a.2.2.2.2.1,a.2.2.2.2.2.1,a.2.2.2.2.2.2.1,a.2.2.2.2.2.2.2.1.1,a.2.2.2.2.2.2.2.1.2.1,a.2.2.2.2.2.2.2.1.2.2,a.2.2.2.2.2.2.2.2.1,a.2.2.2.2.2.2.2.2.2.1,a.2.2.2.2.2.2.2.2.2.2.1,a.2.2.2.2.2.2.2.2.2.2.2,cP ah (.sc .bool) (0,d,false) (bif(dt ah (.sc .bool) (0,d,false) e).getD false then true else false) e)))))))else bif k.1==17 then(ae a.1 b).bind λp=>
   let q:=p.2.1
   af (b==b) (bif decide ((ac ((q.length:Int)-1))<0)then some (.inl (false,Qz1 j.1 l (a.1.set b.toNat p,a.2.1,a.2.2.1,a.2.2.2.1,a.2.2.2.2.1,a.2.2.2.2.2.1,a.2.2.2.2.2.2.1,a.2.2.2.2.2.2.2.1.1,a.2.2.2.2.2.2.2.1.2.1,a.2.2.2.2.2.2.2.1.2.2,a.2.2.2.2.2.2.2.2.1,a.2.2.2.2.2.2.2.2.2.1,a.2.2.2.2.2.2.2.2.2.2.1,a.2.2.2.2.2.2.2.2.2.2.2,cP ah (.sc .bool) (0,d,false) (bif(dt ah (.sc .bool) (0,d,false) e).getD false then true else true) e)))else af (b==b) (Qz2 (ae q (ac ((q.length:Int)-1))) λz=>af (b==b) (af (decide (0<=(ac ((q.length:Int)-1))/\(ac ((q.length:Int)-1))<=q.length)) (af (b==b) (Qz2 (ae a.2.1 d) λ_=>some (.inl (true,Qz1 j.1 l (a.1.set b.toNat (p.1,q.take (ac ((q.length:Int)-1)).toNat,p.2.2),a.2.1.set d.toNat z,a.2.2.1,a.2.2.2.1,a.2.2.2.2.1,a.2.2.2.2.2.1,a.2.2.2.2.2.2.1,a.2.2.2.2.2.2.2.1.1,a.2.2.2.2.2.2.2.1.2.1,a.2.2.2.2.2.2.2.1.2.2,a.2.2.2.2.2.2.2.2.1,a.2.2.2.2.2.2.2.2.2.1,a.2.2.2.2.2.2.2.2.2.2.1,a.2.2.2.2.2.2.2.2.2.2.2,cP ah (.sc .bool) (0,d,false) (bif(dt ah (.sc .bool) (0,d,false) e).getD false then true else true) e))))))))else bif k.1==18 then(lW j b d).bind λx=>some (.inr x)else bif k.1==19 then(nH j b v d).bind λy=>some (.inr y)else bif k.1==20 then(ae a.1 b).bind λf=>(ae f.1 (ac ((f.1.length:Int)-1))).bind λr=>af (b==b) (af (b==b) (af (decide (0<=(ac ((f.1.length:Int)-1))/\(ac ((f.1.length:Int)-1))<(f.1.length:Int)-0)) (af ((0+(ac ((f.1.length:Int)-1)))==(ac ((f.1.length:Int)-1))) (Qz2 (ae a.2.2.1 d) λA=>Qz2 (ae A 0) λB=>Qz2 (ae r.2 k.2.2) λ_=>(ae a.2.2.1 d).bind λn=>af (decide (0<=d/\d<(a.2.2.1.length:Int)-0)) (af ((0+d)==d) (af (decide (0<=(1:Int)/\1<=(n.length:Int)/\(n.length:Int)<=n.length)) (af (decide (0<=d/\d<(a.2.2.1.length:Int)-0)) (af ((0+d)==d) (some (.inl (true,Qz1 j.1 l (a.1.set b.toNat (f.1.set (ac ((f.1.length:Int)-1)).toNat (r.1,r.2.set k.2.2.toNat B),f.2),a.2.1,a.2.2.1.set d.toNat ((n.take (n.length:Int).toNat).drop (1:Int).toNat),a.2.2.2.1,a.2.2.2.2.1,a.2.2.2.2.2.1,a.2.2.2.2.2.2.1,a.2.2.2.2.2.2.2.1.1,a.2.2.2.2.2.2.2.1.2.1,a.2.2.2.2.2.2.2.1.2.2,a.2.2.2.2.2.2.2.2.1,a.2.2.2.2.2.2.2.2.2.1,a.2.2.2.2.2.2.2.2.2.2.1,a.2.2.2.2.2.2.2.2.2.2.2,cP ah (.sc .bool) (1,d,false) (bif(dt ah (.sc .bool) (1,d,false) e).getD false then true else true) e))))))))))))else bif k.1==21 then Qz2 (ae a.2.2.2.1 d) λ_=>some (.inl (true,Qz1 j.1 l (a.1,a.2.1,a.2.2.1,a.2.2.2.1.set d.toNat b,a.2.2.2.2.1,a.2.2.2.2.2.1,a.2.2.2.2.2.2.1,a.2.2.2.2.2.2.2.1.1,a.2.2.2.2.2.2.2.1.2.1,a.2.2.2.2.2.2.2.1.2.2,a.2.2.2.2.2.2.2.2.1,a.2.2.2.2.2.2.2.2.2.1,a.2.2.2.2.2.2.2.2.2.2.1,a.2.2.2.2.2.2.2.2.2.2.2,cP ah (.sc .bool) (2,d,false) (bif(dt ah (.sc .bool) (2,d,false) e).getD false then true else true) e)))else bif k.1==22 then Qz2 (ae a.2.2.2.1 d) λC=>Qz2 (ae a.2.2.2.1 d) λ_=>some (.inl (C==b,Qz1 j.1 l (a.1,a.2.1,a.2.2.1,a.2.2.2.1.set d.toNat (-1),a.2.2.2.2.1,a.2.2.2.2.2.1,a.2.2.2.2.2.2.1,a.2.2.2.2.2.2.2.1.1,a.2.2.2.2.2.2.2.1.2.1,a.2.2.2.2.2.2.2.1.2.2,a.2.2.2.2.2.2.2.2.1,a.2.2.2.2.2.2.2.2.2.1,a.2.2.2.2.2.2.2.2.2.2.1,a.2.2.2.2.2.2.2.2.2.2.2,cP ah (.sc .bool) (2,d,false) (bif(dt ah (.sc .bool) (2,d,false) e).getD false then true else true) e)))else bif k.1==23 then(ae a.1 b).bind λg=>(ae g.1 (ac ((g.1.length:Int)-1))).bind λs=>af (b==b) (af (b==b) (af (decide (0<=(ac ((g.1.length:Int)-1))/\(ac ((g.1.length:Int)-1))<(g.1.length:Int)-0)) (af ((0+(ac ((g.1.length:Int)-1)))==(ac ((g.1.length:Int)-1))) (Qz2 (ae s.2 k.2.2) λ_=>some (.inl (true,Qz1 j.1 l (a.1.set b.toNat (g.1.set (ac ((g.1.length:Int)-1)).toNat (s.1,s.2.set k.2.2.toNat v),g.2),a.2.1,a.2.2.1,a.2.2.2.1,a.2.2.2.2.1,a.2.2.2.2.2.1,a.2.2.2.2.2.2.1,a.2.2.2.2.2.2.2.1.1,a.2.2.2.2.2.2.2.1.2.1,a.2.2.2.2.2.2.2.1.2.2,a.2.2.2.2.2.2.2.2.1,a.2.2.2.2.2.2.2.2.2.1,a.2.2.2.2.2.2.2.2.2.2.1,a.2.2.2.2.2.2.2.2.2.2.2,e)))))))else bif k.1==24 then(ae a.1 b).bind λh=>(ae h.1 (ac ((h.1.length:Int)-1))).bind λt=>af (b==b) (af (b==b) (af (decide (0<=(ac ((h.1.length:Int)-1))/\(ac ((h.1.length:Int)-1))<(h.1.length:Int)-0)) (af ((0+(ac ((h.1.length:Int)-1)))==(ac ((h.1.length:Int)-1))) (Qz2 (ae t.2 d) λ_=>some (.inl (true,Qz1 j.1 l (a.1.set b.toNat (h.1.set (ac ((h.1.length:Int)-1)).toNat (t.1,t.2.set d.toNat (ac (a.2.2.2.2.2.1+v))),h.2),a.2.1,a.2.2.1,a.2.2.2.1,a.2.2.2.2.1,ac (a.2.2.2.2.2.1+v),a.2.2.2.2.2.2.1,a.2.2.2.2.2.2.2.1.1,a.2.2.2.2.2.2.2.1.2.1,a.2.2.2.2.2.2.2.1.2.2,a.2.2.2.2.2.2.2.2.1,a.2.2.2.2.2.2.2.2.2.1,a.2.2.2.2.2.2.2.2.2.2.1,a.2.2.2.2.2.2.2.2.2.2.2,cP ah (.sc .bool) (4,0,false) (bif(dt ah (.sc .bool) (4,0,false) e).getD false then true else v==1) e)))))))else bif k.1==25 then some (.inl (true,Qz1 j.1 l (a.1,a.2.1,a.2.2.1,a.2.2.2.1,a.2.2.2.2.1,a.2.2.2.2.2.1,a.2.2.2.2.2.2.1,a.2.2.2.2.2.2.2.1.1,a.2.2.2.2.2.2.2.1.2.1,a.2.2.2.2.2.2.2.1.2.2,a.2.2.2.2.2.2.2.2.1,a.2.2.2.2.2.2.2.2.2.1,a.2.2.2.2.2.2.2.2.2.2.1,a.2.2.2.2.2.2.2.2.2.2.2,cP ah (.sc .bool) (4,0,false) (bif(dt ah (.sc .bool) (4,0,false) e).getD false then true else false) e)))else bif k.1==26 then(ae a.1 b).bind λm=>
            let o:=m.2.1
            af (b==b) (bif decide ((ac ((o.length:Int)-1))<0)then bif bif false then v==0 else false then Qz2 (ae a.2.2.2.2.1 d) λ_=>some (.inl (false,Qz1 j.1 l (a.1.set b.toNat m,a.2.1,a.2.2.1,a.2.2.2.1,a.2.2.2.2.1.set d.toNat 0,a.2.2.2.2.2.1,a.2.2.2.2.2.2.1,a.2.2.2.2.2.2.2.1.1,a.2.2.2.2.2.2.2.1.2.1,a.2.2.2.2.2.2.2.1.2.2,a.2.2.2.2.2.2.2.2.1,a.2.2.2.2.2.2.2.2.2.1,a.2.2.2.2.2.2.2.2.2.2.1,a.2.2.2.2.2.2.2.2.2.2.2,cP ah (.sc .bool) (3,d,false) (bif(dt ah (.sc .bool) (3,d,false) e).getD false then true else true) e)))else some (.inl (false,Qz1 j.1 l (a.1.set b.toNat m,a.2.1,a.2.2.1,a.2.2.2.1,a.2.2.2.2.1,a.2.2.2.2.2.1,a.2.2.2.2.2.2.1,a.2.2.2.2.2.2.2.1.1,a.2.2.2.2.2.2.2.1.2.1,a.2.2.2.2.2.2.2.1.2.2,a.2.2.2.2.2.2.2.2.1,a.2.2.2.2.2.2.2.2.2.1,a.2.2.2.2.2.2.2.2.2.2.1,a.2.2.2.2.2.2.2.2.2.2.2,cP ah (.sc .bool) (3,d,false) (bif(dt ah (.sc .bool) (3,d,false) e).getD false then true else true) e)))else af (b==b) (Qz2 (ae o (ac ((o.length:Int)-1))) λD=>af (b==b) (af (decide (0<=(ac ((o.length:Int)-1))/\(ac ((o.length:Int)-1))<=o.length)) (af (b==b) (bif bif true then v==0 else false then Qz2 (ae a.2.2.2.2.1 d) λ_=>some (.inl (true,Qz1 j.1 l (a.1.set b.toNat (m.1,o.take (ac ((o.length:Int)-1)).toNat,m.2.2),a.2.1,a.2.2.1,a.2.2.2.1,a.2.2.2.2.1.set d.toNat D,a.2.2.2.2.2.1,a.2.2.2.2.2.2.1,a.2.2.2.2.2.2.2.1.1,a.2.2.2.2.2.2.2.1.2.1,a.2.2.2.2.2.2.2.1.2.2,a.2.2.2.2.2.2.2.2.1,a.2.2.2.2.2.2.2.2.2.1,a.2.2.2.2.2.2.2.2.2.2.1,a.2.2.2.2.2.2.2.2.2.2.2,cP ah (.sc .bool) (3,d,false) (bif(dt ah (.sc .bool) (3,d,false) e).getD false then true else true) e)))else some (.inl (true,Qz1 j.1 l (a.1.set b.toNat (m.1,o.take (ac ((o.length:Int)-1)).toNat,m.2.2),a.2.1,a.2.2.1,a.2.2.2.1,a.2.2.2.2.1,a.2.2.2.2.2.1,a.2.2.2.2.2.2.1,a.2.2.2.2.2.2.2.1.1,a.2.2.2.2.2.2.2.1.2.1,a.2.2.2.2.2.2.2.1.2.2,a.2.2.2.2.2.2.2.2.1,a.2.2.2.2.2.2.2.2.2.1,a.2.2.2.2.2.2.2.2.2.2.1,a.2.2.2.2.2.2.2.2.2.2.2,cP ah (.sc .bool) (3,d,false) (bif(dt ah (.sc .bool) (3,d,false) e).getD false then true else true) e))))))))else bif k.1==27 then(ae a.1 b).bind λi=>(ae i.1 (ac ((i.1.length:Int)-1))).bind λu=>af (b==b) (af (b==b) (af (decide (0<=(ac ((i.1.length:Int)-1))/\(ac ((i.1.length:Int)-1))<(i.1.length:Int)-0)) (af ((0+(ac ((i.1.length:Int)-1)))==(ac ((i.1.length:Int)-1))) (Qz2 (ae a.2.2.2.2.1 d) λE=>Qz2 (ae u.2 k.2.2) λ_=>some (.inl (true,Qz1 j.1 l (a.1.set b.toNat (i.1.set (ac ((i.1.length:Int)-1)).toNat (u.1,u.2.set k.2.2.toNat E),i.2),a.2.1,a.2.2.1,a.2.2.2.1,a.2.2.2.2.1,a.2.2.2.2.2.1,a.2.2.2.2.2.2.1,a.2.2.2.2.2.2.2.1.1,a.2.2.2.2.2.2.2.1.2.1,a.2.2.2.2.2.2.2.1.2.2,a.2.2.2.2.2.2.2.2.1,a.2.2.2.2.2.2.2.2.2.1,a.2.2.2.2.2.2.2.2.2.2.1,a.2.2.2.2.2.2.2.2.2.2.2,cP ah (.sc .bool) (3,d,false) (bif(dt ah (.sc .bool) (3,d,false) e).getD false then true else false) e)))))))else(ae a.1 b).bind λ_=>af (b==b) (((rA b j:Option rt)).bind λc=>some (.inr (([]:Qq9),true,((c.1,c.2.1,c.2.2.1,c.2.2.2.1,c.2.2.2.2.1,c.2.2.2.2.2.1,c.2.2.2.2.2.2.1,c.2.2.2.2.2.2.2.1),(c.2.2.2.2.2.2.2.2.1,c.2.2.2.2.2.2.2.2.2.1,c.2.2.2.2.2.2.2.2.2.2.1),(c.2.2.2.2.2.2.2.2.2.2.2.1,c.2.2.2.2.2.2.2.2.2.2.2.2.1,c.2.2.2.2.2.2.2.2.2.2.2.2.2.1,c.2.2.2.2.2.2.2.2.2.2.2.2.2.2.1,c.2.2.2.2.2.2.2.2.2.2.2.2.2.2.2.1,c.2.2.2.2.2.2.2.2.2.2.2.2.2.2.2.2.1,c.2.2.2.2.2.2.2.2.2.2.2.2.2.2.2.2.2.1,(c.2.2.2.2.2.2.2.2.2.2.2.2.2.2.2.2.2.2.1,c.2.2.2.2.2.2.2.2.2.2.2.2.2.2.2.2.2.2.2.1,c.2.2.2.2.2.2.2.2.2.2.2.2.2.2.2.2.2.2.2.2.1),c.2.2.2.2.2.2.2.2.2.2.2.2.2.2.2.2.2.2.2.2.2.1,c.2.2.2.2.2.2.2.2.2.2.2.2.2.2.2.2.2.2.2.2.2.2.1,c.2.2.2.2.2.2.2.2.2.2.2.2.2.2.2.2.2.2.2.2.2.2.2.1,c.2.2.2.2.2.2.2.2.2.2.2.2.2.2.2.2.2.2.2.2.2.2.2.2.1),c.2.2.2.2.2.2.2.2.2.2.2.2.2.2.2.2.2.2.2.2.2.2.2.2.2))))
def lY(h:aR)(d:Int)(l:Int):Option (Qq9×Bool×aR):= (ae h.2.2.1.1 d).bind λ_=>(pD h d).bind λk=>((cZ k h d l:Option (Y16⊕(Qq9×Bool×aR)))).bind λi=>
 match i with
 |.inl b=>
  let j:=b.2.2.2.2.2.2.2.2.2.2.2.2.1
  ((bif b.1 then(ae j d).bind λc=>af (d==d) (af (d==d) (Qz2 (ae c.1 (ac ((c.1.length:Int)-1))) λf=>(ae c.1 (ac ((c.1.length:Int)-1))).bind λg=>some (b.2.1,b.2.2.1,b.2.2.2.1,b.2.2.2.2.1,b.2.2.2.2.2.1,b.2.2.2.2.2.2.1,b.2.2.2.2.2.2.2.1,b.2.2.2.2.2.2.2.2.1,b.2.2.2.2.2.2.2.2.2.1,b.2.2.2.2.2.2.2.2.2.2.1,b.2.2.2.2.2.2.2.2.2.2.2.1,j.set d.toNat (c.1.set (ac ((c.1.length:Int)-1)).toNat (ac (f.1+1),g.2),c.2),b.2.2.2.2.2.2.2.2.2.2.2.2.2)))else some b.2:Option rt)).bind λa=>some (([d]:Qq9),b.1,((a.1,a.2.1,a.2.2.1,a.2.2.2.1,a.2.2.2.2.1,a.2.2.2.2.2.1,a.2.2.2.2.2.2.1,a.2.2.2.2.2.2.2.1),(a.2.2.2.2.2.2.2.2.1,a.2.2.2.2.2.2.2.2.2.1,a.2.2.2.2.2.2.2.2.2.2.1),(a.2.2.2.2.2.2.2.2.2.2.2.1,a.2.2.2.2.2.2.2.2.2.2.2.2.1,a.2.2.2.2.2.2.2.2.2.2.2.2.2.1,a.2.2.2.2.2.2.2.2.2.2.2.2.2.2.1,a.2.2.2.2.2.2.2.2.2.2.2.2.2.2.2.1,a.2.2.2.2.2.2.2.2.2.2.2.2.2.2.2.2.1,a.2.2.2.2.2.2.2.2.2.2.2.2.2.2.2.2.2.1,(a.2.2.2.2.2.2.2.2.2.2.2.2.2.2.2.2.2.2.1,a.2.2.2.2.2.2.2.2.2.2.2.2.2.2.2.2.2.2.2.1,a.2.2.2.2.2.2.2.2.2.2.2.2.2.2.2.2.2.2.2.2.1),a.2.2.2.2.2.2.2.2.2.2.2.2.2.2.2.2.2.2.2.2.2.1,a.2.2.2.2.2.2.2.2.2.2.2.2.2.2.2.2.2.2.2.2.2.2.1,a.2.2.2.2.2.2.2.2.2.2.2.2.2.2.2.2.2.2.2.2.2.2.2.1,a.2.2.2.2.2.2.2.2.2.2.2.2.2.2.2.2.2.2.2.2.2.2.2.2.1),a.2.2.2.2.2.2.2.2.2.2.2.2.2.2.2.2.2.2.2.2.2.2.2.2.2))
 |.inr e=>some e
def Fi(b:Qq5)(a:UF):Option ((UF)⊕(Qq4)):= bif decide (a.2<(b.length:Int))then Qz2 (ae b a.2) λv4=>af (aN a.1.length ([v4.1]:Qq4).length 16) (some (.inl (a.1++([v4.1]:Qq4),ac (a.2+1))))else some (.inr a.1)
def wj(b:Qq5):Option Qq4:= ((Itr.it (Fi b) (([]:Qq4),0):Option Qq4)).bind λa=>some a
def vx(a:(Qq8×Int)):Option Bool:= some (bif decide (a.2<0)then true else decide (3<a.2))
def dr(b:Qq5)(a:Int):Option ((Int)⊕(Unit⊕Int)):= bif decide (a<(b.length:Int))then Qz2 (ae b a) λv4=>(vx v4).bind λc=>bif c then some (.inr (.inr a))else some (.inl (ac (a+1)))else some (.inr (.inl ()))
def gb(b:Qq5):Option Int:= ((Itr.it (dr b) 0:Option (Unit⊕Int))).bind λc=>
 match c with
 |.inl _=>some (-1)
 |.inr a=>some a
def dL(a:Qq5):Option Bool:= (gb a).bind λr1=>some (decide (0<=r1))
def ip(v11:Qq4)(a:Int):Option ((Int)⊕(Unit⊕(Int⊕(Unit⊕Bool)))):= bif decide (a<(v11.length:Int))then Qz2 (bif(decide (0<a))then ae v11 (ac (a-1))else some ([]:Qq8)) λb=>Qz2 (bif(decide (0<a))then ae v11 a else some ([]:Qq8)) λc=>bif bif decide (0<a)then !(Op.bytesLess b c)else false then some (.inr (.inr (.inr (.inr false))))else some (.inl (ac (a+1)))else some (.inr (.inl ()))
def qw(h:aD)(f:Qq4)(g:Qq4)(a:Int):Option ((Int)⊕(Unit⊕Bool)):=
 let d:=h.2.2.2.2.2.1
 let e:=h.2.2.2.2.2.2.1
 bif decide (a<(([f,g,d,e]:List Qq4).length:Int))then((Qz2 (ae ([f,g,d,e]:List Qq4) a) λv11=>Itr.it (ip v11) 0:Option (Unit⊕(Int⊕(Unit⊕Bool))))).bind λc=>
  match c with
  |.inl _=>some (.inl (ac (a+1)))
  |.inr b=>some b else some (.inr (.inl ()))
def iy(e:aD)(a:Int):Option ((Int)⊕(Unit⊕Bool)):= bif decide (a<(e.2.1.length:Int))then Qz2 (bif(decide (0<a))then ae e.2.1 a else some (0:Int)) λb=>Qz2 (bif(decide (0<a))then ae e.2.1 (ac (a-1))else some (0:Int)) λc=>Qz2 (bif !(bif decide (0<a)then decide (b<=c)else false)then ae e.2.2.1 a else some (0:Int)) λd=>Qz2 (bif !(bif bif decide (0<a)then decide (b<=c)else false then true else decide (d<0))then ae e.2.2.1 a else some (0:Int)) λf=>bif bif bif bif decide (0<a)then decide (b<=c)else false then true else decide (d<0)then true else decide (512<f)then some (.inr (.inr false))else some (.inl (ac (a+1)))else some (.inr (.inl ()))
def uD(a:aD):Option Bool:=
 let b:=a.2.1
 let k:=a.2.2.2.2.2.2.2
 Qz2 (bif !(bif bif(b.length:Int)==0 then true else(a.2.2.1.length:Int) != (b.length:Int)then true else(a.2.2.2.2.2.2.2.length:Int) != (b.length:Int))then ae b (0:Int)else some (0:Int)) λh=>Qz2 (bif !(bif bif bif(b.length:Int)==0 then true else(a.2.2.1.length:Int) != (b.length:Int)then true else(a.2.2.2.2.2.2.2.length:Int) != (b.length:Int)then true else h != 0)then ae b (ac ((b.length:Int)-1))else some (0:Int)) λv4=>bif bif bif bif bif(b.length:Int)==0 then true else(a.2.2.1.length:Int) != (b.length:Int)then true else(a.2.2.2.2.2.2.2.length:Int) != (b.length:Int)then true else h != 0 then true else decide ((a.1.length:Int)<=v4)then some false else(((wj a.2.2.2.1).bind λi=>(wj a.2.2.2.2.1).bind λj=>Itr.it (qw a i j) 0:Option (Unit⊕Bool))).bind λg=>
  match g with
  |.inl _=>((Itr.it (iy a) 0:Option (Unit⊕Bool))).bind λf=>
   match f with
   |.inl _=>(dL a.2.2.2.2.1).bind λc=>some (!c)
   |.inr d=>some d
  |.inr e=>some e
def rh(b:aD)(a:Y20):Option ((Y20)⊕((List Qq3))):= bif decide (a.2<(b.2.1.length:Int))then((Qz2 (ae b.2.1 a.2) λd=>((bif decide ((ac (a.2+1))<(b.2.1.length:Int))then Qz2 (ae b.2.1 (ac (a.2+1))) λf=>some f else some (b.1.length:Int):Option Int)).bind λc=>af (aN a.1.length ([(a.2,d,c)]:List Qq3).length 24) (some (a.1++([(a.2,d,c)]:List Qq3))):Option (List Qq3))).bind λe=>some (.inl (e,ac (a.2+1)))else some (.inr a.1)
def wc(b:aD):Option (List Qq3):= ((Itr.it (rh b) (([]:List Qq3),0):Option (List Qq3))).bind λa=>some a
def C5(a:Qq3)(k:Int)(g:Qq3)(b:aD):Option ((Int×Int)⊕Bool):= ((bif a.1==1 then some (a.1==1)else bif a.1==2 then some (a.1==2)else some (a.1==24):Option Bool)).bind λh=>bif h then some (.inl (0,k))else((bif a.1==10 then some (a.1==10)else some (a.1==11):Option Bool)).bind λi=>bif i then some (.inl g.2)else((bif a.1==12 then some (a.1==12)else some (a.1==18):Option Bool)).bind λj=>bif j then some (.inl (0,(b.2.2.2.2.2.2.2.length:Int)))else bif a.1==14 then some (.inr (bif decide (0<=a.2.1)then a.2.2==g.1 else false))else bif a.1==15 then some (.inl (1,100))else((bif a.1==16 then some (a.1==16)else some (a.1==17):Option Bool)).bind λc=>bif c then some (.inl (0,(b.2.2.2.1.length:Int)))else((bif a.1==19 then some (a.1==19)else some (a.1==20):Option Bool)).bind λd=>bif d then some (.inl (0,(b.2.2.2.2.1.length:Int)))else((bif a.1==21 then some (a.1==21)else some (a.1==22):Option Bool)).bind λe=>bif e then some (.inl (0,(b.2.2.2.2.2.1.length:Int)))else bif a.1==23 then some (.inl (2,7))else bif a.1==25 then some (.inl (1,10))else((bif a.1==26 then some (a.1==26)else some (a.1==27):Option Bool)).bind λf=>bif f then some (.inl (0,(b.2.2.2.2.2.2.1.length:Int)))else some (.inr true)
def yb(b:aD)(c:Qq3)(i:Int):Option Bool:= Qz2 (ae b.1 i) λa=>bif bif decide (a.1<0)then true else decide (29<=a.1)then some false else af (decide (0<=a.1/\a.1<29)) ((ae uL a.1).bind λe=>bif bif bif bif bif decide (e.2<2)then a.2.2 != 0 else false then true else bif decide (e.2<1)then a.2.1 != 0 else false then true else bif a.1==13 then c.1==(ac ((b.2.1.length:Int)-1))else false then true else bif a.1==28 then !(c.1==(ac ((b.2.1.length:Int)-1)))else false then some false else bif bif bif(ac (i+1))==c.2.2 then a.1 != 13 else false then a.1 != 28 else false then some false else Qz2 (ae b.2.2.1 c.1) λh=>((C5 a h c b:Option ((Int×Int)⊕Bool))).bind λf=>
     match f with
     |.inl g=>some (bif bif decide (g.1<=a.2.1)then decide (a.2.1<g.2)else false then bif decide (e.2<2)then true else bif decide (0<=a.2.2)then decide (a.2.2<h)else false else false)
     |.inr d=>some d)
def gC(d:aD)(b:Qq3)(a:Int):Option ((Int)⊕(Unit⊕(Int⊕(Unit⊕(Int×Int))))):= bif decide (a<b.2.2)then(yb d b a).bind λc=>bif !c then some (.inr (.inr (.inr (.inr (a,2)))))else some (.inl (ac (a+1)))else some (.inr (.inl ()))
def nK(f:aD)(d:(List Qq3))(a:Int):Option ((Int)⊕(Unit⊕(Int×Int))):= bif decide (a<(d.length:Int))then((Qz2 (ae d a) λe=>Itr.it (gC f e) e.2.1:Option (Unit⊕(Int⊕(Unit⊕(Int×Int)))))).bind λc=>
  match c with
  |.inl _=>some (.inl (ac (a+1)))
  |.inr b=>some b else some (.inr (.inl ()))
def nI(a:aD):Option (Int×Int):= bif decide (512<(a.1.length:Int))then some (0,4)else(uD a).bind λr1=>bif !r1 then some (0,1)else(((wc a).bind λd=>Itr.it (nK a d) 0:Option (Unit⊕(Int×Int)))).bind λc=>
   match c with
   |.inl _=>some ((a.1.length:Int),0)
   |.inr b=>some b
def fO(b:aR)(a:Int):Option ((Int)⊕(Unit⊕Bool)):= bif decide (a<(b.2.2.1.2.2.1.length:Int))then Qz2 (ae b.2.2.1.2.2.1 a) λv4=>Qz2 (ae b.1.2.2.2.2.1 a) λv6=>bif decide (v6.2<(v4.length:Int))then some (.inr (.inr false))else some (.inl (ac (a+1)))else some (.inr (.inl ()))
def gY(b:aR)(a:Int):Option ((Int)⊕(Unit⊕Bool)):= bif decide (a<(b.2.2.1.2.2.2.1.length:Int))then Qz2 (ae b.2.2.1.2.2.2.1 a) λv10=>bif bif decide (v10<(-1:Int))then true else decide ((b.2.2.1.1.length:Int)<=v10)then some (.inr (.inr false))else some (.inl (ac (a+1)))else some (.inr (.inl ()))
def fT(d:aR)(c:aM)(b:Int):Option ((Int)⊕(Unit⊕Bool)):= bif decide (b<(c.1.length:Int))then Qz2 (ae c.1 b) λa=>(bif !(bif decide (a.1<0)then true else decide ((d.1.1.length:Int)<=a.1))then dU d.1 a.1 else some (0:Int)).bind λe=>Qz2 (bif !(bif decide (a.1<0)then true else decide ((d.1.1.length:Int)<=a.1))then ae d.1.2.2.1 e else some (0:Int)) λv30=>bif bif bif decide (a.1<0)then true else decide ((d.1.1.length:Int)<=a.1)then true else(a.2.length:Int) != v30 then some (.inr (.inr false))else some (.inl (ac (b+1)))else some (.inr (.inl ()))
def pF(p0:aR)(a:(Int)):Option Qq3:= (ae p0.2.2.1.1 a).bind λb=>bif b.2.2.2 then some (29,0,0)else(ae p0.2.2.1.1 a).bind λc=>(ae p0.2.2.1.1 a).bind λd=>Qz2 (ae c.1 (ac ((d.1.length:Int)-1))) λe=>Qz2 (ae p0.1.1 e.1) λf=>some f
def qE(p0:aR)(b:(Int)):Option Bool:= (pF p0 b).bind λa=>(rN a.1).bind λc=>(bif(!c)&&(a.1==13)then ae p0.2.2.1.1 b else some (([]:List Qq6),([]:Qq9),(0:Int),false)).bind λd=>some (bif c then true else bif a.1==13 then(d.1.length:Int)==1 else false)
def mU(p0:aR)(b:(Int)):Option Bool:=
 let a:=p0.2.2.1
 (ae a.1 b).bind λn=>bif n.2.2.2 then(ae a.1 b).bind λj=>(bif((j.1.length:Int)==0)then ae a.1 b else some (([]:List Qq6),([]:Qq9),(0:Int),false)).bind λl=>(bif(bif(j.1.length:Int)==0 then(l.2.1.length:Int)==0 else false)then ae a.1 b else some (([]:List Qq6),([]:Qq9),(0:Int),false)).bind λo=>some (bif bif(j.1.length:Int)==0 then(l.2.1.length:Int)==0 else false then o.2.2.1==0 else false)else(ae a.1 b).bind λc=>(bif !((c.1.length:Int)==0)then ae a.1 b else some (([]:List Qq6),([]:Qq9),(0:Int),false)).bind λd=>(bif !(bif(c.1.length:Int)==0 then true else decide (8<(d.1.length:Int)))then ae a.1 b else some (([]:List Qq6),([]:Qq9),(0:Int),false)).bind λk=>(bif !(bif bif(c.1.length:Int)==0 then true else decide (8<(d.1.length:Int))then true else decide (16<(k.2.1.length:Int)))then ae a.1 b else some (([]:List Qq6),([]:Qq9),(0:Int),false)).bind λm=>(bif !(bif bif bif(c.1.length:Int)==0 then true else decide (8<(d.1.length:Int))then true else decide (16<(k.2.1.length:Int))then true else decide (m.2.2.1<0))then ae a.1 b else some (([]:List Qq6),([]:Qq9),(0:Int),false)).bind λe=>bif bif bif bif bif(c.1.length:Int)==0 then true else decide (8<(d.1.length:Int))then true else decide (16<(k.2.1.length:Int))then true else decide (m.2.2.1<0)then true else decide (1048576<e.2.2.1)then some false else(((ae a.1 b).bind λf=>Itr.it (fT p0 f) 0:Option (Unit⊕Bool))).bind λg=>
   match g with
   |.inl _=>(bif !(decide (0<=a.2.2.2.2.2.2.2.2.2.1))then qE p0 b else some false).bind λh=>some (bif decide (0<=a.2.2.2.2.2.2.2.2.2.1)then true else h)
   |.inr i=>some i
def ib(c:aR)(a:Int):Option ((Int)⊕(Unit⊕Bool)):= bif decide (a<(c.2.2.1.1.length:Int))then(ae c.2.2.1.1 a).bind λ_=>(mU c a).bind λb=>bif !b then some (.inr (.inr false))else some (.inl (ac (a+1)))else some (.inr (.inl ()))
def lM(a:aR):Option Bool:=
 let b:=a.2.2.1
 bif bif bif bif bif bif(b.2.1.length:Int) != (a.1.2.2.2.1.length:Int)then true else(b.2.2.1.length:Int) != (a.1.2.2.2.2.1.length:Int)then true else(b.2.2.2.1.length:Int) != (a.1.2.2.2.2.2.1.length:Int)then true else(b.2.2.2.2.1.length:Int) != (a.1.2.2.2.2.2.2.1.length:Int)then true else(b.1.length:Int)==0 then true else decide (65<(b.1.length:Int))then some false else((Itr.it (fO a) 0:Option (Unit⊕Bool))).bind λi=>
  match i with
  | .inl _=>((Itr.it (gY a) 0:Option (Unit⊕Bool))).bind λh=>
   match h with
   |.inl _=>((Itr.it (ib a) 0:Option (Unit⊕Bool))).bind λg=>
    match g with
    |.inl _=>(kA (a.1,a.2.1,b,([]:(List (WP×Bool))))).bind λc=>some (decide (c<=5))
    |.inr d=>some d
   |.inr e=>some e
  |.inr f=>some f
def jH(a:Int)(b:Int):Option Bool:= some (bif decide (0<=a)then decide (a<=b)else false)
def gz(b:Qq9)(c:Int)(a:Int):Option ((Int)⊕(Unit⊕Int)):= bif decide (a<(b.length:Int))then Qz2 (ae b a) λv4=>bif c==v4 then some (.inr (.inr a))else some (.inl (ac (a+1)))else some (.inr (.inl ()))
def nw(b:Qq9)(c:Int):Option Int:= ((Itr.it (gz b c) 0:Option (Unit⊕Int))).bind λd=>
 match d with
 |.inl _=>some (-1)
 |.inr a=>some a
def iM(a:Qq9)(b:Int):Option Bool:= (nw a b).bind λr1=>some (decide (0<=r1))
def fU(k:aD)(a:aJ):Option Int:=
 let d:=a.2.2.2.2.2.2.1
 let b:=a.2.2.2.2.2.2.2.1
 let e:=a.2.2.2.2.2.2.2.2.1
 let l:=a.2.2.2.2.2.2.2.2.2.1
 let c:=a.2.2.2.2.2.2.2.2.2.2.1
 let g:=a.2.2.2.2.2.2.2.2.2.2.2
 (nI k).bind λr1=>bif r1.2 != 0 then some r1.2 else(iE a).bind λm=>(lM (k,(0,0,0),m,([]:(List (WP×Bool))))).bind λf=>(bif !(!f)then jH a.2.2.2.2.2.1 1048576 else some false).bind λi=>(bif !(bif !f then true else !i)then jH d 64 else some false).bind λn=>(bif !(bif bif bif !f then true else !i then true else !n then true else decide ((Aa b.1 b.2.1 b.2.2 c)<0))then jH (ac (l+1)) 5 else some false).bind λp=>bif bif bif bif bif !f then true else !i then true else !n then true else decide ((Aa b.1 b.2.1 b.2.2 c)<0)then true else !p then some 1 else bif decide (0<=l)then bif e != (-1:Int)then some 1 else some 0 else(fm (k,(0,0,0),m,([]:(List (WP×Bool))))).bind λj=>Qz2 (bif !(bif bif !(g==([]:Qq8))then true else c != 0 then true else d==0)then ae a.1 (0:Int)else some (([]:List Qq6),([]:Qq9),(0:Int),false)) λo=>(bif(!(bif bif bif bif !(g==([]:Qq8))then true else c != 0 then true else d==0 then true else o.2.2.2 then true else(j.length:Int)==0))&&(e != (-1:Int))then iM j e else some false).bind λh=>bif bif bif bif bif bif !(g==([]:Qq8))then true else c != 0 then true else d==0 then true else o.2.2.2 then true else(j.length:Int)==0 then true else bif e != (-1:Int)then !h else false then some 1 else some 0
def mW(a:Qq3):Option Bool:= some (bif bif bif bif bif decide (0<=a.1)then decide (a.1<4)else false then decide (0<=a.2.1)else false then decide (a.2.1<=8)else false then decide (0<=a.2.2)else false then decide (a.2.2<=8)else false)
def gx(c:aD)(d:Qq3)(a:aJ):Option Int:= (fU c a).bind λr1=>bif r1 != 0 then some r1 else(mW d).bind λb=>bif !b then some 1 else bif decide (0<=a.2.2.2.2.2.2.2.2.2.1)then some 8 else some 0
def kf(b:aR)(c:(Int))(v10:Qq6)(d:Qq9):Option bN:= (pF b c).bind λa=>bif a.1==23 then(ia a.2.1).bind λf=>some (1,c,v10.1,f)else Qz2 (bif(a.1==19)then ae b.1.2.2.2.2.1 a.2.1 else some (([]:Qq8),(0:Int))) λh=>bif bif a.1==19 then h.2==0 else false then(dI (b.1,b.2.1,b.2.2.1,([]:(List (WP×Bool)))) a.2.1).bind λe=>bif decide (1<(e.length:Int))then(ia (e.length:Int)).bind λg=>some (2,c,v10.1,g)else some (0,c,v10.1,d)else bif bif a.1==24 then decide (0<b.2.1.2.2)else false then some (3,c,v10.1,([ac (16-b.2.1.2.2),b.2.1.2.2]:Qq9))else bif bif a.1==26 then decide (0<b.2.1.2.1)else false then some (4,c,v10.1,([ac (16-b.2.1.2.1),b.2.1.2.1]:Qq9))else some (0,c,v10.1,d)
def iw(b:aR):Option bN:=
 let a:=b.2.2.1
 (fm (b.1,b.2.1,a,([]:(List (WP×Bool))))).bind λr1=>((bif decide (a.2.2.2.2.2.2.2.2.1<0)then bif decide (1<(r1.length:Int))then(ia (r1.length:Int)).bind λh=>some (.inr (0,-1,-1,h))else Qz2 (ae r1 0) λi=>some (.inl i)else some (.inl a.2.2.2.2.2.2.2.2.1):Option (Int⊕bN))).bind λg=>
 match g with
 |.inl e=>Qz2 (ae a.1 e) λj=>(ae a.1 e).bind λk=>Qz2 (ae j.1 (ac ((k.1.length:Int)-1))) λv10=>(ia 1).bind λc=>((kf b e v10 c:Option bN)).bind λd=>some d
 |.inr f=>some f
def eW(a:aD)(b:Qq3)(c:aJ):Option (bN×Int):= (gx a b c).bind λr1=>bif r1 != 0 then some ((0,0,0,([]:Qq9)),r1)else(iE c).bind λd=>(iw (a,b,d,([]:(List (WP×Bool))))).bind λe=>some (e,0)
def nj(e:(Qq9×Bool×aR))(a:yw):Option ((yw)⊕(rt)):= bif decide (a.1<(e.1.length:Int))then Qz2 (ae e.1 a.1) λd=>(iU ((a.2.1,a.2.2.1,a.2.2.2.1,a.2.2.2.2.1,a.2.2.2.2.2.1,a.2.2.2.2.2.2.1,a.2.2.2.2.2.2.2.1,a.2.2.2.2.2.2.2.2.1),(a.2.2.2.2.2.2.2.2.2.1,a.2.2.2.2.2.2.2.2.2.2.1,a.2.2.2.2.2.2.2.2.2.2.2.1),(a.2.2.2.2.2.2.2.2.2.2.2.2.1,a.2.2.2.2.2.2.2.2.2.2.2.2.2.1,a.2.2.2.2.2.2.2.2.2.2.2.2.2.2.1,a.2.2.2.2.2.2.2.2.2.2.2.2.2.2.2.1,a.2.2.2.2.2.2.2.2.2.2.2.2.2.2.2.2.1,a.2.2.2.2.2.2.2.2.2.2.2.2.2.2.2.2.2.1,a.2.2.2.2.2.2.2.2.2.2.2.2.2.2.2.2.2.2.1,(a.2.2.2.2.2.2.2.2.2.2.2.2.2.2.2.2.2.2.2.1,a.2.2.2.2.2.2.2.2.2.2.2.2.2.2.2.2.2.2.2.2.1,a.2.2.2.2.2.2.2.2.2.2.2.2.2.2.2.2.2.2.2.2.2.1),a.2.2.2.2.2.2.2.2.2.2.2.2.2.2.2.2.2.2.2.2.2.2.1,a.2.2.2.2.2.2.2.2.2.2.2.2.2.2.2.2.2.2.2.2.2.2.2.1,a.2.2.2.2.2.2.2.2.2.2.2.2.2.2.2.2.2.2.2.2.2.2.2.2.1,a.2.2.2.2.2.2.2.2.2.2.2.2.2.2.2.2.2.2.2.2.2.2.2.2.2.1),a.2.2.2.2.2.2.2.2.2.2.2.2.2.2.2.2.2.2.2.2.2.2.2.2.2.2) d).bind λc=>
  let b:=c.2.2.1
  some (.inl (ac (a.1+1),Qz1 c.1 c.2.1 (b.1,b.2.1,b.2.2.1,b.2.2.2.1,b.2.2.2.2.1,b.2.2.2.2.2.1,b.2.2.2.2.2.2.1,b.2.2.2.2.2.2.2.1.1,b.2.2.2.2.2.2.2.1.2.1,b.2.2.2.2.2.2.2.1.2.2,b.2.2.2.2.2.2.2.2.1,b.2.2.2.2.2.2.2.2.2.1,b.2.2.2.2.2.2.2.2.2.2.1,b.2.2.2.2.2.2.2.2.2.2.2,c.2.2.2)))else some (.inr a.2)
def eN(k:aD)(l:Qq3)(u:aJ)(m:Int):Option (aJ×(List WP)×Int):= (gx k l u).bind λr1=>bif r1 != 0 then some ((([]:List aM),([]:Qq9),([]:Qq7),([]:Qq9),([]:Qq9),0,0,(0,0,0),0,0,0,([]:Qq8)),([]:List WP),r1)else(iE u).bind λc=>(iw (k,l,c,([]:(List (WP×Bool))))).bind λv=>
  let e:=v.2.1
  bif bif decide (m<0)then true else decide ((v.2.2.2.length:Int)<=m)then some ((([]:List aM),([]:Qq9),([]:Qq7),([]:Qq9),([]:Qq9),0,0,(0,0,0),0,0,0,([]:Qq8)),([]:List WP),5)else bif decide (e<0)then(fm (k,l,c,([]:(List (WP×Bool))))).bind λw=>Qz2 (ae w m) λv6=>some ((c.1,c.2.1,c.2.2.1,c.2.2.2.1,c.2.2.2.2.1,c.2.2.2.2.2.1,c.2.2.2.2.2.2.1,c.2.2.2.2.2.2.2.1,v6,c.2.2.2.2.2.2.2.2.2),([]:List WP),0)else(lY (k,l,(c.1,c.2.1,c.2.2.1,c.2.2.2.1,c.2.2.2.2.1,c.2.2.2.2.2.1,c.2.2.2.2.2.2.1,c.2.2.2.2.2.2.2.1,-1,c.2.2.2.2.2.2.2.2.2),cP ah (.sc .bool) (5,ac (1+e),false) (bif(dt ah (.sc .bool) (5,ac (1+e),false) ([]:(List (WP×Bool)))).getD false then true else true) ([]:(List (WP×Bool)))) e m).bind λg=>
    let j:=g.2.2.1
    let h:=g.2.2.2.2.2
    let d:=g.2.2.2.2.1
    bif !g.2.1 then(iE u).bind λb=>Qz2 (ae b.1 e) λv10=>bif !v10.2.2.2 then(ae b.1 e).bind λv11=>(ae b.1 e).bind λn=>Qz2 (ae v11.1 (ac ((n.1.length:Int)-1))) λo=>(dU j o.1).bind λi=>Qz2 (ae j.2.2.2.2.2.2.2 i) λp=>(ae b.1 e).bind λq=>(ae b.1 e).bind λr=>Qz2 (ae q.1 (ac ((r.1.length:Int)-1))) λs=>Qz2 (ae j.2.1 i) λt=>af (rP h) (some ((b.1,b.2.1,b.2.2.1,b.2.2.2.1,b.2.2.2.2.1,b.2.2.2.2.2.1,b.2.2.2.2.2.2.1,b.2.2.2.2.2.2.2.1,-1,4,ac (s.1-t),p),zY h,0))else af (rP h) (some ((b.1,b.2.1,b.2.2.1,b.2.2.2.1,b.2.2.2.2.1,b.2.2.2.2.2.1,b.2.2.2.2.2.2.1,b.2.2.2.2.2.2.2.1,-1,4,b.2.2.2.2.2.2.2.2.2.2),zY h,0))else((Itr.it (nj g) (0,Qz1 j g.2.2.2.1 (d.1,d.2.1,d.2.2.1,d.2.2.2.1,d.2.2.2.2.1,ac (d.2.2.2.2.2.1+1),ac (d.2.2.2.2.2.2.1-1),ac (d.2.2.2.2.2.2.2.1.1+1),d.2.2.2.2.2.2.2.1.2.1,d.2.2.2.2.2.2.2.1.2.2,d.2.2.2.2.2.2.2.2.1,d.2.2.2.2.2.2.2.2.2.1,d.2.2.2.2.2.2.2.2.2.2.1,d.2.2.2.2.2.2.2.2.2.2.2,h)):Option rt)).bind λa=>(ju ((a.1,a.2.1,a.2.2.1,a.2.2.2.1,a.2.2.2.2.1,a.2.2.2.2.2.1,a.2.2.2.2.2.2.1,a.2.2.2.2.2.2.2.1),(a.2.2.2.2.2.2.2.2.1,a.2.2.2.2.2.2.2.2.2.1,a.2.2.2.2.2.2.2.2.2.2.1),(a.2.2.2.2.2.2.2.2.2.2.2.1,a.2.2.2.2.2.2.2.2.2.2.2.2.1,a.2.2.2.2.2.2.2.2.2.2.2.2.2.1,a.2.2.2.2.2.2.2.2.2.2.2.2.2.2.1,a.2.2.2.2.2.2.2.2.2.2.2.2.2.2.2.1,a.2.2.2.2.2.2.2.2.2.2.2.2.2.2.2.2.1,a.2.2.2.2.2.2.2.2.2.2.2.2.2.2.2.2.2.1,(a.2.2.2.2.2.2.2.2.2.2.2.2.2.2.2.2.2.2.1,a.2.2.2.2.2.2.2.2.2.2.2.2.2.2.2.2.2.2.2.1,a.2.2.2.2.2.2.2.2.2.2.2.2.2.2.2.2.2.2.2.2.1),a.2.2.2.2.2.2.2.2.2.2.2.2.2.2.2.2.2.2.2.2.2.1,a.2.2.2.2.2.2.2.2.2.2.2.2.2.2.2.2.2.2.2.2.2.2.1,a.2.2.2.2.2.2.2.2.2.2.2.2.2.2.2.2.2.2.2.2.2.2.2.1,a.2.2.2.2.2.2.2.2.2.2.2.2.2.2.2.2.2.2.2.2.2.2.2.2.1),a.2.2.2.2.2.2.2.2.2.2.2.2.2.2.2.2.2.2.2.2.2.2.2.2.2)).bind λf=>af (rP f.2.2.2) (some (f.2.2.1,zY f.2.2.2,0))
def qx(a:(Qq8×Int))(b:Qq8):Option Bool:= some (a.1==b)
def cY(b:Qq5)(d:Qq8)(a:Int):Option ((Int)⊕(Unit⊕Int)):= bif decide (a<(b.length:Int))then Qz2 (ae b a) λv4=>(qx v4 d).bind λc=>bif c then some (.inr (.inr a))else some (.inl (ac (a+1)))else some (.inr (.inl ()))
def fR(b:Qq5)(c:Qq8):Option Int:= ((Itr.it (cY b c) 0:Option (Unit⊕Int))).bind λd=>
 match d with
 |.inl _=>some (-1)
 |.inr a=>some a
def lK(c:Qq8)(d:Int)(a:Qq5):Option Int:= (fR a c).bind λr1=>bif decide (0<=r1)then Qz2 (ae a r1) λb=>some b.2 else some d
def lc(e:aD)(f:Qq5)(a:yw):Option ((yw)⊕(rt)):=
 let b:=a.2.2.2.2.2.2.2.2.2.2.2.2.2.1
 bif decide (a.1<(e.2.2.2.1.length:Int))then Qz2 (ae e.2.2.2.1 a.1) λd=>(lK d.1 d.2 f).bind λc=>af (aN b.length ([c]:Qq9).length 8) (some (.inl (ac (a.1+1),a.2.1,a.2.2.1,a.2.2.2.1,a.2.2.2.2.1,a.2.2.2.2.2.1,a.2.2.2.2.2.2.1,a.2.2.2.2.2.2.2.1,a.2.2.2.2.2.2.2.2.1,a.2.2.2.2.2.2.2.2.2.1,a.2.2.2.2.2.2.2.2.2.2.1,a.2.2.2.2.2.2.2.2.2.2.2.1,a.2.2.2.2.2.2.2.2.2.2.2.2.1,b++([c]:Qq9),a.2.2.2.2.2.2.2.2.2.2.2.2.2.2)))else some (.inr a.2)
def kZ(f:aD)(g:Qq5)(a:yw):Option ((yw)⊕(rt)):=
 let e:=a.2.2.2.2.2.2.2.2.2.2.2.2.2.2.2.2.1
 let d:=f.2.2.2.2.2.2.1
 bif decide (a.1<(d.length:Int))then Qz2 (ae d a.1) λc=>(lK c 0 g).bind λb=>af (aN e.length ([b]:Qq9).length 8) (some (.inl (ac (a.1+1),a.2.1,a.2.2.1,a.2.2.2.1,a.2.2.2.2.1,a.2.2.2.2.2.1,a.2.2.2.2.2.2.1,a.2.2.2.2.2.2.2.1,a.2.2.2.2.2.2.2.2.1,a.2.2.2.2.2.2.2.2.2.1,a.2.2.2.2.2.2.2.2.2.2.1,a.2.2.2.2.2.2.2.2.2.2.2.1,a.2.2.2.2.2.2.2.2.2.2.2.2.1,a.2.2.2.2.2.2.2.2.2.2.2.2.2.1,a.2.2.2.2.2.2.2.2.2.2.2.2.2.2.1,a.2.2.2.2.2.2.2.2.2.2.2.2.2.2.2.1,e++([b]:Qq9),a.2.2.2.2.2.2.2.2.2.2.2.2.2.2.2.2.2)))else some (.inr a.2)
def ld(c:aD)(a:yw):Option ((yw)⊕(rt)):=
 let b:=a.2.2.2.2.2.2.2.2.2.2.2.2.2.2.2.1
 bif decide (a.1<(c.2.2.2.2.2.1.length:Int))then af (aN b.length ([-1]:Qq9).length 8) (some (.inl (ac (a.1+1),a.2.1,a.2.2.1,a.2.2.2.1,a.2.2.2.2.1,a.2.2.2.2.2.1,a.2.2.2.2.2.2.1,a.2.2.2.2.2.2.2.1,a.2.2.2.2.2.2.2.2.1,a.2.2.2.2.2.2.2.2.2.1,a.2.2.2.2.2.2.2.2.2.2.1,a.2.2.2.2.2.2.2.2.2.2.2.1,a.2.2.2.2.2.2.2.2.2.2.2.2.1,a.2.2.2.2.2.2.2.2.2.2.2.2.2.1,a.2.2.2.2.2.2.2.2.2.2.2.2.2.2.1,b++([-1]:Qq9),a.2.2.2.2.2.2.2.2.2.2.2.2.2.2.2.2)))else some (.inr a.2)
def iD(b:aD)(f:Qq3)(k:Qq5):Option (aJ×Int):=
 let e:=b.2.2.2.2.1
 (nI b).bind λr1=>bif r1.2 != 0 then some ((([]:List aM),([]:Qq9),([]:Qq7),([]:Qq9),([]:Qq9),0,0,(0,0,0),0,0,0,([]:Qq8)),r1.2)else(mW f).bind λl=>bif !l then some ((([]:List aM),([]:Qq9),([]:Qq7),([]:Qq9),([]:Qq9),0,0,(0,0,0),0,0,0,([]:Qq8)),1)else bif decide (64<(k.length:Int))then some ((([]:List aM),([]:Qq9),([]:Qq7),([]:Qq9),([]:Qq9),0,0,(0,0,0),0,0,0,([]:Qq8)),4)else af (decide (0<=(e.length:Int)/\(e.length:Int)*24<=281474976710656/\(e.length:Int)<=maxLen)) ((iE (([]:List aM),([]:Qq9),List.replicate (e.length:Int).toNat (([]:Qq9):Qq9),([]:Qq9),([]:Qq9),0,64,(0,0,0),-1,-1,0,([]:Qq8))).bind λc=>
     let g:=c.2.2.2.2.2.2.2.1
     ((Itr.it (lc b k) (0,b.1,b.2.1,b.2.2.1,b.2.2.2.1,e,b.2.2.2.2.2.1,b.2.2.2.2.2.2.1,b.2.2.2.2.2.2.2,f.1,f.2.1,f.2.2,c.1,c.2.1,c.2.2.1,c.2.2.2.1,c.2.2.2.2.1,c.2.2.2.2.2.1,c.2.2.2.2.2.2.1,g.1,g.2.1,g.2.2,c.2.2.2.2.2.2.2.2.1,c.2.2.2.2.2.2.2.2.2.1,c.2.2.2.2.2.2.2.2.2.2.1,c.2.2.2.2.2.2.2.2.2.2.2,([]:(List (WP×Bool)))):Option rt)).bind λm=>((Itr.it (kZ b k) (0,m):Option rt)).bind λn=>((Itr.it (ld b) (0,n):Option rt)).bind λa=>Qz2 (ae a.2.1 (ac ((b.2.1.length:Int)-1))) λj=>Qz2 (ae a.2.2.1 (ac ((b.2.1.length:Int)-1))) λd=>af (decide (0<=d/\d*8<=281474976710656/\d<=maxLen)) ((iU ((a.1,a.2.1,a.2.2.1,a.2.2.2.1,a.2.2.2.2.1,a.2.2.2.2.2.1,a.2.2.2.2.2.2.1,a.2.2.2.2.2.2.2.1),(a.2.2.2.2.2.2.2.2.1,a.2.2.2.2.2.2.2.2.2.1,a.2.2.2.2.2.2.2.2.2.2.1),(([(([(j,List.replicate d.toNat (0:Int))]:List Qq6),([]:Qq9),0,false)]:List aM),a.2.2.2.2.2.2.2.2.2.2.2.2.1,a.2.2.2.2.2.2.2.2.2.2.2.2.2.1,a.2.2.2.2.2.2.2.2.2.2.2.2.2.2.1,a.2.2.2.2.2.2.2.2.2.2.2.2.2.2.2.1,a.2.2.2.2.2.2.2.2.2.2.2.2.2.2.2.2.1,a.2.2.2.2.2.2.2.2.2.2.2.2.2.2.2.2.2.1,(a.2.2.2.2.2.2.2.2.2.2.2.2.2.2.2.2.2.2.1,a.2.2.2.2.2.2.2.2.2.2.2.2.2.2.2.2.2.2.2.1,a.2.2.2.2.2.2.2.2.2.2.2.2.2.2.2.2.2.2.2.2.1),a.2.2.2.2.2.2.2.2.2.2.2.2.2.2.2.2.2.2.2.2.2.1,a.2.2.2.2.2.2.2.2.2.2.2.2.2.2.2.2.2.2.2.2.2.2.1,a.2.2.2.2.2.2.2.2.2.2.2.2.2.2.2.2.2.2.2.2.2.2.2.1,a.2.2.2.2.2.2.2.2.2.2.2.2.2.2.2.2.2.2.2.2.2.2.2.2.1),a.2.2.2.2.2.2.2.2.2.2.2.2.2.2.2.2.2.2.2.2.2.2.2.2.2) 0).bind λh=>(ju h).bind λi=>some (i.2.2.1,0)))
def kw(b:((Int×Int)))(a:Int):Option ((Int)⊕(Int)):= bif decide (0<a)then af (decide (0<=(ac (8*(ac (a-1)))))) (bif decide (0<(dD .u64 b.1 (ac (8*(ac (a-1))))))then some (.inr a)else some (.inl (ac (a-1))))else some (.inr a)
def tX(b:((Int×Int)))(a:(Qq9×Int)):Option (((Qq9×Int))⊕(Qq9)):= bif decide (0<=a.2)then af (decide (0<=(ac (8*a.2)))) (af (aN a.1.length ([bc .xor .u8 (IntKind.u8.wrap (dD .u64 b.1 (ac (8*a.2)))) b.2]:Qq9).length 1) (some (.inl (a.1++([bc .xor .u8 (IntKind.u8.wrap (dD .u64 b.1 (ac (8*a.2)))) b.2]:Qq9),ac (a.2-1)))))else some (.inr a.1)
def mg(b:Int):Option Qq9:= ((bif decide (b<0)then some (bc .xor .u64 (if IntKind.signed .u64 then -1 else IntKind.max .u64) (IntKind.u64.wrap b),255)else some (IntKind.u64.wrap b,0):Option (Int×Int))).bind λa=>((Itr.it (kw a) 8:Option Int)).bind λc=>((Itr.it (tX a) (([bc .xor .u8 (IntKind.u8.wrap (ac (128+c))) a.2]:Qq9),ac (c-1)):Option Qq9)).bind λd=>some d
def oJ(c:Qq9)(a:(Qq9×Int)):Option (((Qq9×Int))⊕(Qq9)):= bif decide (a.2<(c.length:Int))then Qz2 (ae c a.2) λd=>(mg d).bind λb=>af (aN a.1.length b.length 1) (some (.inl (a.1++b,ac (a.2+1))))else some (.inr a.1)
def ph(a:Qq9):Option Qq9:= (mg (a.length:Int)).bind λr1=>((Itr.it (oJ a) (r1,0):Option Qq9)).bind λb=>some b
def sj(a:Qq8):Option Qq9:= (mg (a.length:Int)).bind λr1=>af (aN r1.length a.length 1) (some (r1++(a.map λb=>(b.toNat:Int))))
def pH(c:Qq4)(a:(Qq9×Int)):Option (((Qq9×Int))⊕(Qq9)):= bif decide (a.2<(c.length:Int))then Qz2 (ae c a.2) λd=>(sj d).bind λb=>af (aN a.1.length b.length 1) (some (.inl (a.1++b,ac (a.2+1))))else some (.inr a.1)
def sL(a:Qq4):Option Qq9:= (mg (a.length:Int)).bind λr1=>((Itr.it (pH a) (r1,0):Option Qq9)).bind λb=>some b
def dB(b:Qq9)(a:Qq9):Option Qq9:= (ph b).bind λr1=>af (aN a.length r1.length 1) (some (a++r1))
def kb(d:aM)(a:Qq6):Option ((Qq6)⊕(Qq9)):= bif decide (a.1<(d.1.length:Int))then Qz2 (ae d.1 a.1) λb=>af (aN ([b.1]:Qq9).length b.2.length 8) ((dB (([b.1]:Qq9)++b.2) a.2).bind λc=>some (.inl (ac (a.1+1),c)))else some (.inr a.2)
def ke(e:aJ)(a:Qq6):Option ((Qq6)⊕(Qq9)):= bif decide (a.1<(e.1.length:Int))then((Qz2 (ae e.1 a.1) λb=>(eY b.2.2.2).bind λf=>(dB ([b.2.2.1,f,(b.1.length:Int)]:Qq9) a.2).bind λg=>((Itr.it (kb b) (0,g):Option Qq9)).bind λd=>(dB b.2.1 d).bind λc=>some c:Option Qq9)).bind λh=>some (.inl (ac (a.1+1),h))else some (.inr a.2)
def j5(c:aJ)(a:Qq6):Option ((Qq6)⊕(Qq9)):= bif decide (a.1<(c.2.2.1.length:Int))then Qz2 (ae c.2.2.1 a.1) λv20=>(dB v20 a.2).bind λb=>some (.inl (ac (a.1+1),b))else some (.inr a.2)
def pT(a:aJ):Option Qq9:=
 let b:=a.2.2.2.2.2.2.2.1
 (ph ([(a.1.length:Int),(a.2.2.1.length:Int),a.2.2.2.2.2.1,a.2.2.2.2.2.2.1,b.1,b.2.1,b.2.2,a.2.2.2.2.2.2.2.2.1,a.2.2.2.2.2.2.2.2.2.1,a.2.2.2.2.2.2.2.2.2.2.1]:Qq9)).bind λr1=>(sL ([a.2.2.2.2.2.2.2.2.2.2.2]:Qq4)).bind λg=>af (aN r1.length g.length 1) (((Itr.it (ke a) (0,r1++g):Option Qq9)).bind λh=>(dB a.2.1 h).bind λc=>((Itr.it (j5 a) (0,c):Option Qq9)).bind λf=>(dB a.2.2.2.1 f).bind λd=>(dB a.2.2.2.2.1 d).bind λe=>some e)
def AT  : Option cn:= some ((((((((((List.replicate 8 (0:Int)).set 0 1779033703).set 1 3144134277).set 2 1013904242).set 3 2773480762).set 4 1359893119).set 5 2600822924).set 6 528734635).set 7 1541459225),([]:Qq9),0)
def bM(b:Int)(a:Int):Option Int:= af (decide (0<=(bc .and .u64 (IntKind.u64.wrap a) (31:Int)))) (af (decide (0<=(IntKind.u64.wrap (32-(bc .and .u64 (IntKind.u64.wrap a) (31:Int)))))) (some (bc .or .u32 (ly .u32 b (bc .and .u64 (IntKind.u64.wrap a) (31:Int))) (dD .u32 b (IntKind.u64.wrap (32-(bc .and .u64 (IntKind.u64.wrap a) (31:Int))))))))
def gn(c:Qq9)(a:(Qq6))(b:Qq6):Option ((Qq6)⊕(Qq9)):= bif decide (b.1<(((c.take (ac ((ac (4*a.1))+4)).toNat).drop (ac (4*a.1)).toNat).length:Int))then Qz2 (ae ((c.take (ac ((ac (4*a.1))+4)).toNat).drop (ac (4*a.1)).toNat) b.1) λd=>af (decide (0<=a.1/\a.1<64)) (af (decide (0<=a.1/\a.1<64)) (af (decide (0<=(8:Int))) (af (decide (0<=a.1/\a.1<64)) (af (decide (0<=a.1/\a.1<64)) (some (.inl (ac (b.1+1),bR 64 (0:Int) b.2 a.1.toNat (bc .or .u32 (ly .u32 (List.getD b.2 a.1.toNat (0:Int)) (8:Int)) (IntKind.u32.wrap d)))))))))else some (.inr b.2)
def q8(a:(Qq6))(d:Qq9):Option Qq9:= bif decide (a.1<16)then((af (decide (0<=(ac (4*a.1))/\(ac (4*a.1))<=(ac ((ac (4*a.1))+4))/\(ac ((ac (4*a.1))+4))<=d.length)) (Itr.it (gn d a) (0,a.2)):Option Qq9)).bind λg=>some g else af (decide (0<=(ac (a.1-15))/\(ac (a.1-15))<64)) (af (decide (0<=(ac (a.1-15))/\(ac (a.1-15))<64)) (af (decide (0<=(ac (a.1-2))/\(ac (a.1-2))<64)) (af (decide (0<=(ac (a.1-2))/\(ac (a.1-2))<64)) ((bM (List.getD a.2 (ac (a.1-15)).toNat (0:Int)) (-7)).bind λe=>(bM (List.getD a.2 (ac (a.1-15)).toNat (0:Int)) (-18)).bind λf=>af (decide (0<=(3:Int))) ((bM (List.getD a.2 (ac (a.1-2)).toNat (0:Int)) (-17)).bind λb=>(bM (List.getD a.2 (ac (a.1-2)).toNat (0:Int)) (-19)).bind λc=>af (decide (0<=(10:Int))) (af (decide (0<=(ac (a.1-16))/\(ac (a.1-16))<64)) (af (decide (0<=(ac (a.1-16))/\(ac (a.1-16))<64)) (af (decide (0<=(ac (a.1-7))/\(ac (a.1-7))<64)) (af (decide (0<=(ac (a.1-7))/\(ac (a.1-7))<64)) (af (decide (0<=a.1/\a.1<64)) (af (decide (0<=a.1/\a.1<64)) (some (bR 64 (0:Int) a.2 a.1.toNat (IntKind.u32.wrap ((IntKind.u32.wrap ((IntKind.u32.wrap ((List.getD a.2 (ac (a.1-16)).toNat (0:Int))+(bc .xor .u32 (bc .xor .u32 e f) (dD .u32 (List.getD a.2 (ac (a.1-15)).toNat (0:Int)) (3:Int)))))+(List.getD a.2 (ac (a.1-7)).toNat (0:Int))))+(bc .xor .u32 (bc .xor .u32 b c) (dD .u32 (List.getD a.2 (ac (a.1-2)).toNat (0:Int)) (10:Int))))))))))))))))))
def ox(c:Qq9)(a:Qq6):Option ((Qq6)⊕(Qq9)):= bif decide (a.1<64)then((q8 a c:Option Qq9)).bind λb=>some (.inl (ac (a.1+1),b))else some (.inr a.2)
def og(b:Qq9):Option Qq9:= ((Itr.it (ox b) (0,([]:Qq9)):Option Qq9)).bind λa=>some a
def ri(a:Int)(d:Int)(e:Int)(f:Int):Option Int:= (bM a (ac (0-d))).bind λr1=>(bM a (ac (0-e))).bind λb=>(bM a (ac (0-f))).bind λc=>some (bc .xor .u32 (bc .xor .u32 r1 b) c)
def iQ(r1:Qq9)(b:Y23):Option ((Y23)⊕(Y24)):=
 let a:=b.2.2
 let c:=b.2.1
 bif decide (b.1<64)then(ae tW b.1).bind λv4=>af (decide (0<=(3:Int)/\(3:Int)<4)) (af (decide (0<=(3:Int)/\(3:Int)<4)) (af (decide (0<=(0:Int)/\(0:Int)<4)) (af (decide (0<=(0:Int)/\(0:Int)<4)) ((ri (List.getD a (0:Int).toNat (0:Int)) 6 11 25).bind λd=>af (decide (0<=(0:Int)/\(0:Int)<4)) (af (decide (0<=(0:Int)/\(0:Int)<4)) (af (decide (0<=(1:Int)/\(1:Int)<4)) (af (decide (0<=(1:Int)/\(1:Int)<4)) (af (decide (0<=(0:Int)/\(0:Int)<4)) (af (decide (0<=(0:Int)/\(0:Int)<4)) (af (decide (0<=(2:Int)/\(2:Int)<4)) (af (decide (0<=(2:Int)/\(2:Int)<4)) (af (decide (0<=b.1/\b.1<64)) (af (decide (0<=b.1/\b.1<64)) (af (decide (0<=(0:Int)/\(0:Int)<4)) (af (decide (0<=(0:Int)/\(0:Int)<4)) ((ri (List.getD c (0:Int).toNat (0:Int)) 2 13 22).bind λe=>af (decide (0<=(0:Int)/\(0:Int)<4)) (af (decide (0<=(0:Int)/\(0:Int)<4)) (af (decide (0<=(1:Int)/\(1:Int)<4)) (af (decide (0<=(1:Int)/\(1:Int)<4)) (af (decide (0<=(0:Int)/\(0:Int)<4)) (af (decide (0<=(0:Int)/\(0:Int)<4)) (af (decide (0<=(2:Int)/\(2:Int)<4)) (af (decide (0<=(2:Int)/\(2:Int)<4)) (af (decide (0<=(1:Int)/\(1:Int)<4)) (af (decide (0<=(1:Int)/\(1:Int)<4)) (af (decide (0<=(2:Int)/\(2:Int)<4)) (af (decide (0<=(2:Int)/\(2:Int)<4)) (af (decide (0<=(3:Int)/\(3:Int)<4)) (af (decide (0<=(3:Int)/\(3:Int)<4)) (af (decide (0<=(0:Int)/\(0:Int)<4)) (af (decide (0<=(0:Int)/\(0:Int)<4)) (af (decide (0<=(1:Int)/\(1:Int)<4)) (af (decide (0<=(1:Int)/\(1:Int)<4)) (af (decide (0<=(2:Int)/\(2:Int)<4)) (af (decide (0<=(2:Int)/\(2:Int)<4)) (af (decide (0<=(0:Int)/\(0:Int)<4)) (af (decide (0<=(0:Int)/\(0:Int)<4)) (af (decide (0<=(1:Int)/\(1:Int)<4)) (af (decide (0<=(1:Int)/\(1:Int)<4)) (af (decide (0<=(2:Int)/\(2:Int)<4)) (af (decide (0<=(2:Int)/\(2:Int)<4)) (some (.inl (ac (b.1+1),(((((List.replicate 4 (0:Int)).set 0 (IntKind.u32.wrap ((IntKind.u32.wrap ((IntKind.u32.wrap ((IntKind.u32.wrap ((IntKind.u32.wrap ((List.getD a (3:Int).toNat (0:Int))+d))+(bc .xor .u32 (bc .and .u32 (List.getD a (0:Int).toNat (0:Int)) (List.getD a (1:Int).toNat (0:Int))) (bc .and .u32 (bc .xor .u32 (if IntKind.signed .u32 then -1 else IntKind.max .u32) (List.getD a (0:Int).toNat (0:Int))) (List.getD a (2:Int).toNat (0:Int))))))+v4))+(List.getD r1 b.1.toNat (0:Int))))+(IntKind.u32.wrap (e+(bc .xor .u32 (bc .xor .u32 (bc .and .u32 (List.getD c (0:Int).toNat (0:Int)) (List.getD c (1:Int).toNat (0:Int))) (bc .and .u32 (List.getD c (0:Int).toNat (0:Int)) (List.getD c (2:Int).toNat (0:Int)))) (bc .and .u32 (List.getD c (1:Int).toNat (0:Int)) (List.getD c (2:Int).toNat (0:Int))))))))).set 1 (List.getD c (0:Int).toNat (0:Int))).set 2 (List.getD c (1:Int).toNat (0:Int))).set 3 (List.getD c (2:Int).toNat (0:Int))),(((((List.replicate 4 (0:Int)).set 0 (IntKind.u32.wrap ((List.getD c (3:Int).toNat (0:Int))+(IntKind.u32.wrap ((IntKind.u32.wrap ((IntKind.u32.wrap ((IntKind.u32.wrap ((List.getD a (3:Int).toNat (0:Int))+d))+(bc .xor .u32 (bc .and .u32 (List.getD a (0:Int).toNat (0:Int)) (List.getD a (1:Int).toNat (0:Int))) (bc .and .u32 (bc .xor .u32 (if IntKind.signed .u32 then -1 else IntKind.max .u32) (List.getD a (0:Int).toNat (0:Int))) (List.getD a (2:Int).toNat (0:Int))))))+v4))+(List.getD r1 b.1.toNat (0:Int))))))).set 1 (List.getD a (0:Int).toNat (0:Int))).set 2 (List.getD a (1:Int).toNat (0:Int))).set 3 (List.getD a (2:Int).toNat (0:Int)))))))))))))))))))))))))))))))))))))))))))))))else some (.inr b.2)
def tn(b:(Y24))(a:Qq6):Option ((Qq6)⊕(Qq9)):= bif decide (a.1<4)then af (decide (0<=a.1/\a.1<8)) (af (decide (0<=a.1/\a.1<8)) (af (decide (0<=a.1/\a.1<4)) (af (decide (0<=a.1/\a.1<4)) (af (decide (0<=a.1/\a.1<8)) (af (decide (0<=a.1/\a.1<8)) (af (decide (0<=(ac (a.1+4))/\(ac (a.1+4))<8)) (af (decide (0<=(ac (a.1+4))/\(ac (a.1+4))<8)) (af (decide (0<=a.1/\a.1<4)) (af (decide (0<=a.1/\a.1<4)) (af (decide (0<=(ac (a.1+4))/\(ac (a.1+4))<8)) (af (decide (0<=(ac (a.1+4))/\(ac (a.1+4))<8)) (some (.inl (ac (a.1+1),bR 8 (0:Int) (bR 8 (0:Int) a.2 a.1.toNat (IntKind.u32.wrap ((List.getD a.2 a.1.toNat (0:Int))+(List.getD b.1 a.1.toNat (0:Int))))) (ac (a.1+4)).toNat (IntKind.u32.wrap ((List.getD (bR 8 (0:Int) a.2 a.1.toNat (IntKind.u32.wrap ((List.getD a.2 a.1.toNat (0:Int))+(List.getD b.1 a.1.toNat (0:Int))))) (ac (a.1+4)).toNat (0:Int))+(List.getD b.2 a.1.toNat (0:Int))))))))))))))))))else some (.inr a.2)
def lF(a:Qq9)(d:Qq9):Option Qq9:= (og d).bind λr1=>af (decide (0<=(0:Int)/\(0:Int)<=4/\(4:Int)<=8)) (af (decide (4<=(((cT 8 (0:Int) a).take (4:Int).toNat).drop (0:Int).toNat).length)) (af (decide (0<=(0:Int)/\(0:Int)+4<=((((cT 8 (0:Int) a).take (4:Int).toNat).drop (0:Int).toNat).length:Int))) (af (decide (0<=(4:Int)/\(4:Int)<=8/\(8:Int)<=8)) (af (decide (4<=(((cT 8 (0:Int) a).take (8:Int).toNat).drop (4:Int).toNat).length)) (af (decide (0<=(0:Int)/\(0:Int)+4<=((((cT 8 (0:Int) a).take (8:Int).toNat).drop (4:Int).toNat).length:Int))) (((Itr.it (iQ r1) (0,((((cT 8 (0:Int) a).take (4:Int).toNat).drop (0:Int).toNat).drop (0:Int).toNat).take 4,((((cT 8 (0:Int) a).take (8:Int).toNat).drop (4:Int).toNat).drop (0:Int).toNat).take 4):Option Y24)).bind λb=>((Itr.it (tn b) (0,a):Option Qq9)).bind λc=>some c))))))
def gO(a:Y25):Option ((Y25)⊕(cn)):=
 let b:=a.2.2.2
 bif !(a.1==([]:Qq8))then af (!((64:Int)==0)) (af (decide (0<=(ac (Int.tmod b 64))/\(ac (Int.tmod b 64))<=64/\(64:Int)<=64)) (af (decide ((ac (Int.tmod b 64))<=64/\(64:Int)<=64)) (af (decide (0<=((min (64-(ac (Int.tmod b 64))).toNat a.1.length:Nat):Int)/\((min (64-(ac (Int.tmod b 64))).toNat a.1.length:Nat):Int)<=(a.1.length:Int)/\(a.1.length:Int)<=a.1.length)) (bif(ac ((ac (Int.tmod b 64))+((min (64-(ac (Int.tmod b 64))).toNat a.1.length:Nat):Int)))==64 then af (decide (0<=(0:Int)/\(0:Int)<=64/\(64:Int)<=64)) ((lF a.2.1 (((cT 64 (0:Int) (jj 64 a.2.2.1 (ac (Int.tmod b 64)) (64:Int) a.1)).take (64:Int).toNat).drop (0:Int).toNat)).bind λc=>some (.inl ((a.1.take (a.1.length:Int).toNat).drop ((min (64-(ac (Int.tmod b 64))).toNat a.1.length:Nat):Int).toNat,c,jj 64 a.2.2.1 (ac (Int.tmod b 64)) (64:Int) a.1,IntKind.u64.wrap (b+(IntKind.u64.wrap ((min (64-(ac (Int.tmod b 64))).toNat a.1.length:Nat):Int))))))else some (.inl ((a.1.take (a.1.length:Int).toNat).drop ((min (64-(ac (Int.tmod b 64))).toNat a.1.length:Nat):Int).toNat,a.2.1,jj 64 a.2.2.1 (ac (Int.tmod b 64)) (64:Int) a.1,IntKind.u64.wrap (b+(IntKind.u64.wrap ((min (64-(ac (Int.tmod b 64))).toNat a.1.length:Nat):Int)))))))))else some (.inr a.2)
def gV(b:cn)(c:Qq8):Option cn:= ((Itr.it (gO) (c,b):Option cn)).bind λa=>some a
def jE(b:cn)(a:Qq9):Option ((Qq9)⊕(Qq9)):= af (!((64:Int)==0)) (bif(Int.tmod (ac ((ac b.2.2)+(a.length:Int))) (64:Int)) != 56 then af (aN a.length ([0]:Qq9).length 1) (some (.inl (a++([0]:Qq9))))else some (.inr a))
def mV(b:cn)(a:(Qq9×Int)):Option (((Qq9×Int))⊕(Qq9)):= bif decide (a.2<8)then af (decide (0<=(ac (56-(ac (8*a.2)))))) (af (aN a.1.length ([IntKind.u8.wrap (dD .u64 (IntKind.u64.wrap (8*b.2.2)) (ac (56-(ac (8*a.2)))))]:Qq9).length 1) (some (.inl (a.1++([IntKind.u8.wrap (dD .u64 (IntKind.u64.wrap (8*b.2.2)) (ac (56-(ac (8*a.2)))))]:Qq9),ac (a.2+1)))))else some (.inr a.1)
def jI(b:cn)(a:Qq6):Option ((Qq6)⊕(Qq9)):= bif decide (a.1<32)then af (!((4:Int)==0)) (af (decide (0<=(ac (Int.tdiv a.1 4))/\(ac (Int.tdiv a.1 4))<8)) (af (decide (0<=(ac (Int.tdiv a.1 4))/\(ac (Int.tdiv a.1 4))<8)) (af (!((4:Int)==0)) (af (decide (0<=(ac (24-(ac (8*(Int.tmod a.1 4))))))) (af (decide (0<=a.1/\a.1<32)) (af (decide (0<=a.1/\a.1<32)) (some (.inl (ac (a.1+1),bR 32 (0:Int) a.2 a.1.toNat (IntKind.u8.wrap (dD .u32 (List.getD b.1 (ac (Int.tdiv a.1 4)).toNat (0:Int)) (ac (24-(ac (8*(Int.tmod a.1 4))))))))))))))))else some (.inr a.2)
def oC(a:cn):Option Qq9:= ((Itr.it (jE a) ([128]:Qq9):Option Qq9)).bind λc=>((Itr.it (mV a) (c,0):Option Qq9)).bind λd=>(gV a (List.map (λn=>UInt8.ofNat n.toNat) d)).bind λb=>((Itr.it (jI b) (0,([]:Qq9)):Option Qq9)).bind λe=>some e
def qP(b:Qq4)(a:Y26):Option ((Y26)⊕(cn)):= bif decide (a.1<(b.length:Int))then Qz2 (ae b a.1) λv6=>(sj v6).bind λc=>(gV a.2 (List.map (λn=>UInt8.ofNat n.toNat) c)).bind λd=>some (.inl (ac (a.1+1),d))else some (.inr a.2)
def lH(d:Int)(e:Qq4):Option Qq9:= (AT).bind λr1=>(gV r1 (List.map (λn=>UInt8.ofNat n.toNat) ([IntKind.u8.wrap d]:Qq9))).bind λb=>((Itr.it (qP e) (0,b):Option cn)).bind λc=>(oC c).bind λa=>af (decide (0<=(0:Int)/\(0:Int)<=16/\(16:Int)<=32)) (af (decide (16<=(((cT 32 (0:Int) a).take (16:Int).toNat).drop (0:Int).toNat).length)) (af (decide (0<=(0:Int)/\(0:Int)+16<=((((cT 32 (0:Int) a).take (16:Int).toNat).drop (0:Int).toNat).length:Int))) (some (((((cT 32 (0:Int) a).take (16:Int).toNat).drop (0:Int).toNat).drop (0:Int).toNat).take 16))))
def fh(b:aJ):Option Qq9:= (pT b).bind λr1=>(lH 6 ([List.map (λn=>UInt8.ofNat n.toNat) r1]:Qq4)).bind λa=>some a
def gy(b:Qq9)(c:Qq9)(a:Int):Option ((Int)⊕(Unit⊕Bool)):= bif decide (a<(b.length:Int))then Qz2 (ae b a) λv4=>Qz2 (ae c a) λv6=>bif v4 != v6 then some (.inr (.inr false))else some (.inl (ac (a+1)))else some (.inr (.inl ()))
def dv(a:Qq9)(b:Qq9):Option Bool:= bif(a.length:Int) != (b.length:Int)then some false else((Itr.it (gy a b) 0:Option (Unit⊕Bool))).bind λd=>
  match d with
  |.inl _=>some true
  |.inr c=>some c
def qc(a:Qq6)(b:Qq6):Option Bool:= (bif(a.1==b.1)then dv a.2 b.2 else some false).bind λr1=>some (bif a.1==b.1 then r1 else false)
def abb(f:Nat)(a:Qq6)(b:Qq6):Option Bool:= bif Nat.beq f 61 then qc a b else none
def bw(b:(List Qq6))(d:(List Qq6))(e:Nat)(a:Int):Option ((Int)⊕(Unit⊕Bool)):= bif decide (a<(b.length:Int))then Qz2 (ae b a) λv4=>Qz2 (ae d a) λv6=>(abb e v4 v6).bind λc=>bif !c then some (.inr (.inr false))else some (.inl (ac (a+1)))else some (.inr (.inl ()))
def bZ(a:(List Qq6))(b:(List Qq6))(d:Nat):Option Bool:= bif(a.length:Int) != (b.length:Int)then some false else((Itr.it (bw a b d) 0:Option (Unit⊕Bool))).bind λe=>
  match e with
  |.inl _=>some true
  |.inr c=>some c
def pX(a:aM)(b:aM)(d:Nat):Option Bool:= (bif(bif a.2.2.1==b.2.2.1 then a.2.2.2==b.2.2.2 else false)then dv a.2.1 b.2.1 else some false).bind λr1=>(bif(bif bif a.2.2.1==b.2.2.1 then a.2.2.2==b.2.2.2 else false then r1 else false)then bZ a.1 b.1 d else some false).bind λc=>some (bif bif bif a.2.2.1==b.2.2.1 then a.2.2.2==b.2.2.2 else false then r1 else false then c else false)
def bj(b:(List aM))(d:(List aM))(e:Nat)(a:Int):Option ((Int)⊕(Unit⊕Bool)):= bif decide (a<(b.length:Int))then Qz2 (ae b a) λv4=>Qz2 (ae d a) λv6=>(pX v4 v6 e).bind λc=>bif !c then some (.inr (.inr false))else some (.inl (ac (a+1)))else some (.inr (.inl ()))
def bW(a:(List aM))(b:(List aM))(d:Nat):Option Bool:= bif(a.length:Int) != (b.length:Int)then some false else((Itr.it (bj a b d) 0:Option (Unit⊕Bool))).bind λe=>
  match e with
  |.inl _=>some true
  |.inr c=>some c
def dF(b:Qq7)(d:Qq7)(a:Int):Option ((Int)⊕(Unit⊕Bool)):= bif decide (a<(b.length:Int))then Qz2 (ae b a) λv4=>Qz2 (ae d a) λv6=>(dv v4 v6).bind λc=>bif !c then some (.inr (.inr false))else some (.inl (ac (a+1)))else some (.inr (.inl ()))
def gG(a:Qq7)(b:Qq7):Option Bool:= bif(a.length:Int) != (b.length:Int)then some false else((Itr.it (dF a b) 0:Option (Unit⊕Bool))).bind λd=>
  match d with
  |.inl _=>some true
  |.inr c=>some c
def sO(a:aJ)(b:aJ):Option Bool:=
 let e:=b.2.2.2.2.2.2.2.1
 let d:=a.2.2.2.2.2.2.2.1
 (bW a.1 b.1 (61:Nat)).bind λr1=>(bif r1 then gG a.2.2.1 b.2.2.1 else some false).bind λc=>(bif(bif r1 then c else false)then dv a.2.1 b.2.1 else some false).bind λf=>(bif(bif bif r1 then c else false then f else false)then dv a.2.2.2.1 b.2.2.2.1 else some false).bind λg=>(bif(bif bif bif r1 then c else false then f else false then g else false)then dv a.2.2.2.2.1 b.2.2.2.2.1 else some false).bind λh=>some (bif bif bif bif bif bif bif bif bif bif bif r1 then c else false then f else false then g else false then h else false then a.2.2.2.2.2.1==b.2.2.2.2.2.1 else false then a.2.2.2.2.2.2.1==b.2.2.2.2.2.2.1 else false then d.1==e.1&&(d.2.1==e.2.1&&(d.2.2==e.2.2&&true))else false then a.2.2.2.2.2.2.2.2.1==b.2.2.2.2.2.2.2.2.1 else false then a.2.2.2.2.2.2.2.2.2.1==b.2.2.2.2.2.2.2.2.2.1 else false then a.2.2.2.2.2.2.2.2.2.2.1==b.2.2.2.2.2.2.2.2.2.2.1 else false then a.2.2.2.2.2.2.2.2.2.2.2==b.2.2.2.2.2.2.2.2.2.2.2 else false)
def bI(a:Int)(b:Int):Option Int:= ((bif decide (a<0)then some (ac (0-(ac (a+1))))else some a:Option Int)).bind λc=>af (!(b==0)) (some (Int.tmod c b))
def ng(c:Int):Option Qq3:= (bI c 4096).bind λr1=>af (!((4:Int)==0)) (af (!((4:Int)==0)) (af (!((5:Int)==0)) (Qz2 (ae ([0,0,1,8,4]:Qq9) (Int.tmod (ac (Int.tdiv r1 4)) (5:Int))) λa=>af (!((20:Int)==0)) (af (!((4:Int)==0)) (Qz2 (ae ([0,0,2,8]:Qq9) (Int.tmod (ac (Int.tdiv r1 20)) (4:Int))) λb=>some (Int.tmod r1 (4:Int),a,b))))))
def fC(b:Qq9)(a:Int)(e:Int):Option Int:= bif bif decide (a<0)then true else decide ((b.length:Int)<=a)then some 0 else Qz2 (ae b a) λd=>(bI d e).bind λc=>some c
def we(a:Int->Option Qq8)(b:Int):Option Qq8:= bif decide (b<(-9:Int))then af (!((10:Int)==0)) ((a (ac (0-(ac (Int.tdiv b 10))))).bind λr1=>af (decide (rH.length+r1.length<=9223372036854775807)) (af (!((10:Int)==0)) ((a (ac (0-(Int.tmod b 10)))).bind λc=>af (decide ((rH++r1).length+c.length<=9223372036854775807)) (some ((rH++r1)++c)))))else bif decide (b<0)then(a (ac (0-b))).bind λd=>af (decide (rH.length+d.length<=9223372036854775807)) (some (rH++d))else bif decide (b<10)then some (List.map (λn=>UInt8.ofNat n.toNat) ([IntKind.u8.wrap (ac (48+b))]:Qq9))else af (!((10:Int)==0)) ((a (ac (Int.tdiv b 10))).bind λe=>af (!((10:Int)==0)) (af (decide (e.length+(List.map (λn=>UInt8.ofNat n.toNat) ([IntKind.u8.wrap (ac (48+(Int.tmod b 10)))]:Qq9)).length<=9223372036854775807)) (some (e++(List.map (λn=>UInt8.ofNat n.toNat) ([IntKind.u8.wrap (ac (48+(Int.tmod b 10)))]:Qq9))))))
def kS:Nat->Int->Option Qq8
 |0=>λ_=>none
 |a+1=>we (kS a)
def dQ(a:Int):Option Qq8:=kS 64 a
def dz(a:Int):Option Qq8:= (dQ a).bind λr1=>some r1
def vS(d:Int)(a:(Qq9×Int)):Option (((Qq9×Int))⊕(Qq9)):= bif decide (a.2<(a.1.length:Int))then((Qz2 (ae a.1 a.2) λc=>bif c==35 then Qz2 (ae a.1 a.2) λ_=>some (a.1.set a.2.toNat (IntKind.u8.wrap (ac (48+d))))else some a.1:Option Qq9)).bind λb=>some (.inl (b,ac (a.2+1)))else some (.inr a.1)
def tC(a:Qq8)(d:Int):Option Qq8:= af (decide (a.length<=maxLen)) (((Itr.it (vS d) (List.map (λb=>(b.toNat:Int)) a,0):Option Qq9)).bind λc=>some (List.map (λn=>UInt8.ofNat n.toNat) c))
def wD(b:Qq8)(a:Qq8)(d:Int)(c:Qq8):Option aA:= (dz d).bind λr1=>af (decide (a.length+r1.length<=9223372036854775807)) (af (decide (b.length+aY.length<=9223372036854775807)) (af (decide ((b++aY).length+(a++r1).length<=9223372036854775807)) (af (decide (((b++aY)++(a++r1)).length+c.length<=9223372036854775807)) (some (a++r1,((b++aY)++(a++r1))++c)))))
def zq(d:Int)(b:(List Qq4))(a:vN):Option ((vN)⊕((List aA))):= bif decide (a.2<(b.length:Int))then(ae b a.2).bind λ_=>af (decide (0<=(0:Int)/\(0:Int)<3)) (af (decide (0<=(0:Int)/\(0:Int)<3)) ((ae b a.2).bind λv4=>(ae b a.2).bind λ_=>af (decide (0<=(1:Int)/\(1:Int)<3)) (af (decide (0<=(1:Int)/\(1:Int)<3)) ((ae b a.2).bind λv6=>(ae b a.2).bind λ_=>af (decide (0<=(2:Int)/\(2:Int)<3)) (af (decide (0<=(2:Int)/\(2:Int)<3)) ((ae b a.2).bind λf=>(tC (List.getD f (2:Int).toNat ([]:Qq8)) d).bind λe=>(wD (List.getD v4 (0:Int).toNat ([]:Qq8)) (List.getD v6 (1:Int).toNat ([]:Qq8)) d e).bind λc=>af (aN a.1.length ([c]:List aA).length 32) (some (.inl (a.1++([c]:List aA),ac (a.2+1))))))))))else some (.inr a.1)
def cC(b:Int)(c:(List Qq4)):Option (List aA):= ((Itr.it (zq b c) (([]:List aA),0):Option (List aA))).bind λa=>some a
def cr(h:Int)(g:Int)(a:Int):Option (List aA):= af (!((2:Int)==0)) (af (!((4:Int)==0)) (Qz2 (ae ([FZ,Gc,GV,FR]:Qq4) (Int.tmod (ac (Int.tdiv a 2)) (4:Int))) λf=>af (!((2:Int)==0)) (Qz2 (ae ([ru,rv]:Qq4) (Int.tmod a 2)) λv4=>af (!((2:Int)==0)) (af (!((2:Int)==0)) (Qz2 (ae ([FE,FJ]:Qq4) (Int.tmod (ac (Int.tdiv a 2)) (2:Int))) λv6=>bif h==0 then af (!((2:Int)==0)) ((dz (Int.tmod a 2)).bind λn=>af (decide (eK.length+n.length<=9223372036854775807)) (af (decide ((eK++n).length+cx.length<=9223372036854775807)) (af (decide (nM.length+f.length<=9223372036854775807)) (af (decide ((nM++f).length+gk.length<=9223372036854775807)) ((cC g ([((((List.replicate 3 ([]:Qq8)).set 0 qb).set 1 AO).set 2 ((eK++n)++cx)),((((List.replicate 3 ([]:Qq8)).set 0 jg).set 1 wK).set 2 wO),((((List.replicate 3 ([]:Qq8)).set 0 gT).set 1 tP).set 2 Bp),((((List.replicate 3 ([]:Qq8)).set 0 dJ).set 1 gW).set 2 ((nM++f)++gk))]:List Qq4)).bind λp=>some p)))))else bif h==1 then af (!((2:Int)==0)) ((dz (Int.tmod a 2)).bind λo=>af (decide (eK.length+o.length<=9223372036854775807)) (af (decide ((eK++o).length+cx.length<=9223372036854775807)) (af (decide (oo.length+f.length<=9223372036854775807)) (af (decide ((oo++f).length+gk.length<=9223372036854775807)) ((cC g ([((((List.replicate 3 ([]:Qq8)).set 0 qb).set 1 AO).set 2 ((eK++o)++cx)),((((List.replicate 3 ([]:Qq8)).set 0 qL).set 1 agM).set 2 cx),((((List.replicate 3 ([]:Qq8)).set 0 jg).set 1 wK).set 2 wO),((((List.replicate 3 ([]:Qq8)).set 0 gT).set 1 tP).set 2 AS),((((List.replicate 3 ([]:Qq8)).set 0 dJ).set 1 gW).set 2 ((oo++f)++gk))]:List Qq4)).bind λi=>some i)))))else bif h==2 then af (!((2:Int)==0)) ((dz (ac (1+(Int.tmod a 2)))).bind λb=>af (decide (aY.length+b.length<=9223372036854775807)) (af (decide ((aY++b).length+cx.length<=9223372036854775807)) (af (decide (m9.length+v6.length<=9223372036854775807)) (af (decide ((m9++v6).length+gk.length<=9223372036854775807)) ((cC g ([((((List.replicate 3 ([]:Qq8)).set 0 jg).set 1 afk).set 2 ((aY++b)++cx)),((((List.replicate 3 ([]:Qq8)).set 0 gT).set 1 tP).set 2 AI),((((List.replicate 3 ([]:Qq8)).set 0 dJ).set 1 gW).set 2 ((m9++v6)++gk))]:List Qq4)).bind λj=>some j)))))else bif h==3 then af (!((2:Int)==0)) ((dz (ac (1+(Int.tmod a 2)))).bind λc=>af (decide (nF.length+c.length<=9223372036854775807)) (af (decide ((nF++c).length+gk.length<=9223372036854775807)) ((cC g ([((((List.replicate 3 ([]:Qq8)).set 0 jg).set 1 aeS).set 2 aj8),((((List.replicate 3 ([]:Qq8)).set 0 jg).set 1 wK).set 2 wO),((((List.replicate 3 ([]:Qq8)).set 0 qb).set 1 AO).set 2 Rs),((((List.replicate 3 ([]:Qq8)).set 0 gT).set 1 tP).set 2 Bq),((((List.replicate 3 ([]:Qq8)).set 0 gT).set 1 agp).set 2 Bo),((((List.replicate 3 ([]:Qq8)).set 0 dJ).set 1 gW).set 2 ((nF++c)++gk))]:List Qq4)).bind λk=>some k)))else bif h==4 then af (decide (yK.length+v4.length<=9223372036854775807)) (af (decide ((yK++v4).length+yd.length<=9223372036854775807)) ((cC g ([((((List.replicate 3 ([]:Qq8)).set 0 qL).set 1 adV).set 2 cx),((((List.replicate 3 ([]:Qq8)).set 0 qL).set 1 aeX).set 2 cx),((((List.replicate 3 ([]:Qq8)).set 0 jg).set 1 wK).set 2 wO),((((List.replicate 3 ([]:Qq8)).set 0 gT).set 1 tP).set 2 Am),((((List.replicate 3 ([]:Qq8)).set 0 dJ).set 1 gW).set 2 ((yK++v4)++yd))]:List Qq4)).bind λl=>some l))else af (!((2:Int)==0)) ((dz (ac (2+(Int.tmod a 2)))).bind λd=>af (decide (vB.length+d.length<=9223372036854775807)) (af (decide ((vB++d).length+yp.length<=9223372036854775807)) (af (!((2:Int)==0)) (af (!((2:Int)==0)) (Qz2 (ae ([Gr,Bu]:Qq4) (Int.tmod (ac (Int.tdiv a 2)) (2:Int))) λe=>af (decide (np.length+e.length<=9223372036854775807)) (af (decide ((np++e).length+gk.length<=9223372036854775807)) ((cC g ([((((List.replicate 3 ([]:Qq8)).set 0 jg).set 1 wK).set 2 wO),((((List.replicate 3 ([]:Qq8)).set 0 gT).set 1 tP).set 2 ((vB++d)++yp)),((((List.replicate 3 ([]:Qq8)).set 0 dJ).set 1 gW).set 2 ((np++e)++gk))]:List Qq4)).bind λm=>some m))))))))))))
def qm(a:Int)(b:Int)(c:Int):Option (Unit⊕(List aA)):= ((bif a==0 then some (a==0)else bif a==1 then some (a==1)else bif a==2 then some (a==2)else bif a==3 then some (a==3)else bif a==4 then some (a==4)else some (a==5):Option Bool)).bind λs=>bif s then(cr a b c).bind λp=>some (.inr p)else bif a==6 then af (!((3:Int)==0)) ((dz (ac (1+(Int.tmod c 3)))).bind λl=>af (decide (nB.length+l.length<=9223372036854775807)) (af (decide ((nB++l).length+gk.length<=9223372036854775807)) ((cC b ([((((List.replicate 3 ([]:Qq8)).set 0 dJ).set 1 gW).set 2 ((nB++l)++gk))]:List Qq4)).bind λq=>some (.inr q))))else bif a==7 then af (!((3:Int)==0)) ((dz (ac (3+(Int.tmod c 3)))).bind λm=>af (decide (nJ.length+m.length<=9223372036854775807)) (af (decide ((nJ++m).length+gk.length<=9223372036854775807)) ((cC b ([((((List.replicate 3 ([]:Qq8)).set 0 dJ).set 1 gW).set 2 ((nJ++m)++gk))]:List Qq4)).bind λr=>some (.inr r))))else bif a==8 then af (!((2:Int)==0)) (Qz2 (ae ([([]:Qq8),xv]:Qq4) (Int.tmod c 2)) λo=>af (decide (q9.length+o.length<=9223372036854775807)) (af (decide ((q9++o).length+sw.length<=9223372036854775807)) ((cC b ([((((List.replicate 3 ([]:Qq8)).set 0 zb).set 1 aij).set 2 cx),((((List.replicate 3 ([]:Qq8)).set 0 dJ).set 1 gW).set 2 ((q9++o)++sw))]:List Qq4)).bind λg=>some (.inr g))))else bif a==9 then af (!((2:Int)==0)) (Qz2 (ae ([tv,sd]:Qq4) (Int.tmod c 2)) λn=>(cC b ([((((List.replicate 3 ([]:Qq8)).set 0 dJ).set 1 gW).set 2 n)]:List Qq4)).bind λh=>some (.inr h))else bif a==10 then af (!((3:Int)==0)) ((dz (ac (1+(Int.tmod c 3)))).bind λd=>af (decide (ue.length+d.length<=9223372036854775807)) (af (decide ((ue++d).length+sF.length<=9223372036854775807)) ((cC b ([((((List.replicate 3 ([]:Qq8)).set 0 qb).set 1 AO).set 2 Rs),((((List.replicate 3 ([]:Qq8)).set 0 dJ).set 1 gW).set 2 ((ue++d)++sF))]:List Qq4)).bind λi=>some (.inr i))))else bif a==11 then af (!((3:Int)==0)) ((dz (Int.tmod c 3)).bind λe=>af (decide (tJ.length+e.length<=9223372036854775807)) (af (decide ((tJ++e).length+sD.length<=9223372036854775807)) ((cC b ([((((List.replicate 3 ([]:Qq8)).set 0 dJ).set 1 gW).set 2 ((tJ++e)++sD))]:List Qq4)).bind λj=>some (.inr j))))else bif a==12 then af (!((3:Int)==0)) ((dz (ac (2+(Int.tmod c 3)))).bind λf=>af (decide (nL.length+f.length<=9223372036854775807)) (af (decide ((nL++f).length+gk.length<=9223372036854775807)) ((cC b ([((((List.replicate 3 ([]:Qq8)).set 0 A7).set 1 akY).set 2 H4),((((List.replicate 3 ([]:Qq8)).set 0 gT).set 1 aeW).set 2 Fl),((((List.replicate 3 ([]:Qq8)).set 0 dJ).set 1 gW).set 2 ((nL++f)++gk))]:List Qq4)).bind λk=>some (.inr k))))else some (.inl ())
def dX(h:Int)(g:Int)(e:Int):Option (List aA):= ((qm h g e:Option (Unit⊕(List aA)))).bind λf=>
 match f with
 |.inl _=>af (!((9:Int)==0)) ((dz (ac (1+(Int.tmod e 9)))).bind λa=>af (decide (ic.length+a.length<=9223372036854775807)) (af (decide ((ic++a).length+rK.length<=9223372036854775807)) (af (!((9:Int)==0)) (af (!((2:Int)==0)) (Qz2 (ae ([QJ,GS]:Qq4) (Int.tmod (ac (Int.tdiv e 9)) (2:Int))) λb=>af (decide (((ic++a)++rK).length+b.length<=9223372036854775807)) (af (decide ((((ic++a)++rK)++b).length+gk.length<=9223372036854775807)) ((cC g ([((((List.replicate 3 ([]:Qq8)).set 0 dJ).set 1 gW).set 2 ((((ic++a)++rK)++b)++gk))]:List Qq4)).bind λc=>some c)))))))
 |.inr d=>some d
def wb(b:(List aA))(e:Int)(a:vN):Option ((vN)⊕((List aA))):= bif decide (a.2<(b.length:Int))then(((bI e (b.length:Int)).bind λc=>af (!((b.length:Int)==0)) (((af (!((2:Int)==0)) (bif(Int.tmod e 2) != 0 then some (ac ((ac ((b.length:Int)-1))-(Int.tmod (ac (a.2+c)) (b.length:Int))))else some (Int.tmod (ac (a.2+c)) (b.length:Int))):Option Int)).bind λg=>Qz2 (ae b g) λd=>af (aN a.1.length ([d]:List aA).length 32) (some (a.1++([d]:List aA)))):Option (List aA))).bind λf=>some (.inl (f,ac (a.2+1)))else some (.inr a.1)
def tq(b:(List aA))(c:Int):Option (List aA):= ((Itr.it (wb b c) (([]:List aA),0):Option (List aA))).bind λa=>some a
def gA(e:Qq9)(a:Y30):Option ((Y30)⊕((List aA))):= (fC e 0 3).bind λf=>bif decide (a.2.2<(ac (1+f)))then(((fC e (ac (1+a.2.2)) 4096).bind λc=>af (!((14:Int)==0)) (af (!((14:Int)==0)) ((dX (Int.tmod c 14) a.2.2 (ac (Int.tdiv c 14))).bind λb=>af (aN a.1.length b.length 32) (af (!((14:Int)==0)) (bif bif(Int.tmod c 14)==9 then !a.2.1 else false then af (aN (a.1++b).length ([(A9,tp)]:List aA).length 32) (some ((a.1++b)++([(A9,tp)]:List aA),true))else some (a.1++b,a.2.1))))):Option Y29)).bind λd=>some (.inl (d.1,d.2,ac (a.2.2+1)))else some (.inr a.1)
def dw(a:Qq9):Option (List aA):= ((Itr.it (gA a) (([]:List aA),false,0):Option (List aA))).bind λd=>(fC a 4 64).bind λb=>(tq d b).bind λc=>some c
def iR(a:Qq8)(b:Int):Option Bool:= (bif(decide (b<(a.length:Int)))then ae a b else some 0).bind λv1=>(bif(bif decide (b<(a.length:Int))then decide (97<=(v1.toNat:Int))else false)then ae a b else some 0).bind λc=>some (bif bif decide (b<(a.length:Int))then decide (97<=(v1.toNat:Int))else false then decide ((c.toNat:Int)<=122)else false)
def gN(a:Qq8)(b:Int):Option Bool:= (bif(decide (b<(a.length:Int)))then ae a b else some 0).bind λv1=>(bif(bif decide (b<(a.length:Int))then decide (48<=(v1.toNat:Int))else false)then ae a b else some 0).bind λc=>some (bif bif decide (b<(a.length:Int))then decide (48<=(v1.toNat:Int))else false then decide ((c.toNat:Int)<=57)else false)
def xK(c:Qq8)(a:Int):Option ((Int)⊕(Int)):= (iR c a).bind λb=>(bif !b then gN c a else some false).bind λd=>bif bif b then true else d then some (.inl (ac (a+1)))else some (.inr a)
def qr(c:Qq8)(a:Int):Option Int:= (iR c a).bind λr1=>bif !r1 then some (-1)else((Itr.it (xK c) a:Option Int)).bind λb=>bif decide (16<(ac (b-a)))then some (-1)else some b
def xF(c:Int)(a:Int):Option ((Int)⊕(Unit⊕Bool)):= bif decide (a<(UL.length:Int))then(ae UL a).bind λb=>bif(b.toNat:Int)==c then some (.inr (.inr true))else some (.inl (ac (a+1)))else some (.inr (.inl ()))
def vO(b:Int):Option Bool:= ((Itr.it (xF b) 0:Option (Unit⊕Bool))).bind λc=>
 match c with
 |.inl _=>some false
 |.inr a=>some a
def xC(c:Qq8)(a:Int):Option ((Int)⊕(Int)):= (gN c a).bind λb=>bif b then some (.inl (ac (a+1)))else some (.inr a)
def vJ(b:Qq8)(a:Int):Option Int:= (iR b a).bind λr1=>bif r1 then(qr b a).bind λi=>some i else(ae b a).bind λl=>bif(l.toNat:Int)==36 then(qr b (ac (a+1))).bind λj=>some j else(((gN b a).bind λk=>bif k then((Itr.it (xC b) a:Option Int)).bind λh=>bif decide (3<(ac (h-a)))then some (.inr (-1))else some (.inr h)else some (.inl ()):Option (Unit⊕Int))).bind λg=>
   match g with
   |.inl _=>(bif(decide ((ac (a+1))<(b.length:Int)))then ae b (ac (a+1))else some 0).bind λv10=>(bif(bif decide ((ac (a+1))<(b.length:Int))then(v10.toNat:Int)==61 else false)then ae b a else some 0).bind λv11=>(bif(bif decide ((ac (a+1))<(b.length:Int))then(v10.toNat:Int)==61 else false) && !((v11.toNat:Int)==60)then ae b a else some 0).bind λe=>bif bif bif decide ((ac (a+1))<(b.length:Int))then(v10.toNat:Int)==61 else false then bif(v11.toNat:Int)==60 then true else(e.toNat:Int)==61 else false then some (ac (a+2))else(ae b a).bind λf=>(vO (f.toNat:Int)).bind λc=>bif c then some (ac (a+1))else some (-1)
   |.inr d=>some d
def xG(c:Qq8)(a:Y32):Option ((Y32)⊕(Y32⊕((List (Int×Int))×Int))):= bif decide (a.2<(c.length:Int))then(ae c a.2).bind λd=>(bif !((d.toNat:Int)==32)then ae c a.2 else some 0).bind λv4=>bif bif(d.toNat:Int)==32 then true else(v4.toNat:Int)==10 then some (.inl (a.1,ac (a.2+1)))else(vJ c a.2).bind λb=>bif decide (b<0)then some (.inr (.inr a))else af (aN a.1.length ([(a.2,b)]:List (Int×Int)).length 16) (some (.inl (a.1++([(a.2,b)]:List (Int×Int)),b)))else some (.inr (.inl a))
def vL(c:Qq8):Option ((List (Int×Int))×Int):= ((Itr.it (xG c) (([]:List (Int×Int)),0):Option (Y32⊕((List (Int×Int))×Int)))).bind λd=>
 match d with
 |.inl a=>some a
 |.inr b=>some b
def bK(a:am):Option Qq8:= bif bif a.2.2.2.1 then true else decide ((a.2.1.length:Int)<=a.2.2.1)then some ([]:Qq8)else Qz2 (ae a.2.1 a.2.2.1) λb=>Qz2 (ae a.2.1 a.2.2.1) λv4=>af (decide (0<=b.1/\b.1<=v4.2/\v4.2<=a.1.length)) (some ((a.1.take v4.2.toNat).drop b.1.toNat))
def iO  : Option Qq4:= some ([qb,A7,jg,qL,zb,gT,dJ,([]:Qq8),([]:Qq8),([]:Qq8),([]:Qq8),C9,rX,I6,En,Eh,D6,zo,zK,Eg,GT,Br,CS,Es,B6,B1]:Qq4)
def uX  : Option Qq4:= some ([zo,B1,En,jg,B6,Eg,Ep,zb,I6,C9,yM,qL,GT,gT,Es,A7,D6,zK,Eh,Br,dJ,qb,rX,CS]:Qq4)
def zA(b:Qq4)(c:Qq8)(a:Int):Option ((Int)⊕(Unit⊕Bool)):= bif decide (a<(b.length:Int))then Qz2 (ae b a) λv4=>bif v4==c then some (.inr (.inr true))else some (.inl (ac (a+1)))else some (.inr (.inl ()))
def io(b:Qq4)(c:Qq8):Option Bool:= ((Itr.it (zA b c) 0:Option (Unit⊕Bool))).bind λd=>
 match d with
 |.inl _=>some false
 |.inr a=>some a
def tB(a:Qq8):Option Bool:= (iR a 0).bind λr1=>(bif r1 then uX else some ([]:Qq4)).bind λb=>(bif r1 then io b a else some false).bind λc=>some (bif r1 then !c else false)
def cV(a:am):Option (Qq8×am):= (bK a).bind λr1=>(tB r1).bind λb=>bif !b then some (([]:Qq8),(a.1,a.2.1,a.2.2.1,true,a.2.2.2.2))else some (r1,(a.1,a.2.1,ac (a.2.2.1+1),a.2.2.2))
def cS(a:am)(b:Qq8):Option (Bool×am):= (bK a).bind λr1=>bif !(r1==b)then some (false,a)else some (true,(a.1,a.2.1,ac (a.2.2.1+1),a.2.2.2))
def bJ(a:am)(b:Qq8):Option am:= (cS a b).bind λr1=>bif !r1.1 then some (r1.2.1,r1.2.2.1,r1.2.2.2.1,true,r1.2.2.2.2.2)else some r1.2
def xj(b:Qq8)(a:(Int×Int)):Option (((Int×Int))⊕(Int)):= bif decide (a.2<(b.length:Int))then(ae b a.2).bind λc=>some (.inl (ac ((ac ((ac (10*a.1))+(ac (c.toNat:Int))))-48),ac (a.2+1)))else some (.inr a.1)
def vl(b:Qq8):Option Int:= ((Itr.it (xj b) (0,0):Option Int)).bind λa=>some a
def cA(a:am)(d:Int)(e:Int):Option (Int×am):= (bK a).bind λr1=>(gN r1 0).bind λc=>bif !c then some (0,(a.1,a.2.1,a.2.2.1,true,a.2.2.2.2))else(vl r1).bind λb=>bif bif decide (b<d)then true else decide (e<b)then some (0,(a.1,a.2.1,a.2.2.1,true,true))else some (b,(a.1,a.2.1,ac (a.2.2.1+1),a.2.2.2))
def jR(c:am):Option (Int×am):= (cS c rH).bind λr1=>bif r1.1 then(cA r1.2 0 999).bind λa=>some (ac (0-a.1),a.2)else(cA r1.2 0 999).bind λb=>some b
def d7(a:am):Option (Qq8×am):= (bK a).bind λr1=>(bif !(decide ((r1.length:Int)<2))then ae r1 (0:Int)else some 0).bind λb=>bif bif decide ((r1.length:Int)<2)then true else(b.toNat:Int) != 36 then some (([]:Qq8),(a.1,a.2.1,a.2.2.1,true,a.2.2.2.2))else af (decide (0<=(1:Int)/\1<=(r1.length:Int)/\(r1.length:Int)<=r1.length)) (some ((r1.take (r1.length:Int).toNat).drop (1:Int).toNat,(a.1,a.2.1,ac (a.2.2.1+1),a.2.2.2)))
def ko(d:am):Option (aF×am):= (cV d).bind λr1=>(((cS r1.2 uc).bind λa=>bif a.1 then af (decide (r1.1.length+uc.length<=9223372036854775807)) ((cV a.2).bind λb=>af (decide ((r1.1++uc).length+b.1.length<=9223372036854775807)) (some (b.2.1,b.2.2.1,b.2.2.2.1,b.2.2.2.2.1,b.2.2.2.2.2,35,(r1.1++uc)++b.1,0,([]:List Nd))))else some (a.2.1,a.2.2.1,a.2.2.2.1,a.2.2.2.2.1,a.2.2.2.2.2,34,r1.1,0,([]:List Nd)):Option oZ)).bind λc=>some (c.2.2.2.2.2,(c.1,c.2.1,c.2.2.1,c.2.2.2.1,c.2.2.2.2.1))
def kV(a:(am->Option (aF×am)))(k:am):Option (aF×am):= (cS k Dq).bind λr1=>bif r1.1 then(a r1.2).bind λe=>(bJ e.2 Ij).bind λh=>some (e.1,h)else(cS r1.2 yM).bind λb=>bif b.1 then some ((36,([]:Qq8),0,([]:List Nd)),b.2)else(bK b.2).bind λc=>(gN c 0).bind λi=>bif i then(cA b.2 0 999).bind λf=>some ((32,([]:Qq8),f.1,([]:List Nd)),f.2)else(bif(decide (0<(c.length:Int)))then ae c (0:Int)else some 0).bind λj=>bif bif decide (0<(c.length:Int))then(j.toNat:Int)==36 else false then(d7 b.2).bind λg=>some ((33,g.1,0,([]:List Nd)),g.2)else(ko b.2).bind λd=>some d
def rW(a:(am->Option (aF×am)))(c:oZ):Option ((oZ)⊕(oZ)):= (cS (c.1,c.2.1,c.2.2.1,c.2.2.2.1,c.2.2.2.2.1) aqA).bind λb=>bif b.1 then(kV a b.2).bind λd=>some (.inl (d.2.1,d.2.2.1,d.2.2.2.1,d.2.2.2.2.1,d.2.2.2.2.2,31,([]:Qq8),0,([Nd.of c.2.2.2.2.2,Nd.of d.1]:List Nd)))else some (.inr (b.2.1,b.2.2.1,b.2.2.2.1,b.2.2.2.2.1,b.2.2.2.2.2,c.2.2.2.2.2))
def kP(a:(am->Option (aF×am)))(c:am):Option (aF×am):= (kV a c).bind λr1=>((Itr.it (rW a) (r1.2.1,r1.2.2.1,r1.2.2.2.1,r1.2.2.2.2.1,r1.2.2.2.2.2,r1.1):Option oZ)).bind λb=>some (b.2.2.2.2.2,(b.1,b.2.1,b.2.2.1,b.2.2.2.1,b.2.2.2.2.1))
def sY(b:(am->Option (aF×am)))(a:oZ):Option ((oZ)⊕(oZ)):=
 let d:=a.2.2.2.1
 let e:=a.2.2.2.2.1
 (bK (a.1,a.2.1,a.2.2.1,d,e)).bind λf=>(bif !(f==Ua)then bK (a.1,a.2.1,a.2.2.1,d,e)else some ([]:Qq8)).bind λg=>bif bif f==Ua then true else g==rH then(((bK (a.1,a.2.1,a.2.2.1,d,e)).bind λh=>bif h==rH then some 30 else some 29:Option Int)).bind λi=>(kP b (a.1,a.2.1,ac (a.2.2.1+1),d,e)).bind λc=>some (.inl (c.2.1,c.2.2.1,c.2.2.2.1,c.2.2.2.2.1,c.2.2.2.2.2,i,([]:Qq8),0,([Nd.of a.2.2.2.2.2,Nd.of c.1]:List Nd)))else some (.inr a)
def lv(a:(am->Option (aF×am)))(c:am):Option (aF×am):= (kP a c).bind λr1=>((Itr.it (sY a) (r1.2.1,r1.2.2.1,r1.2.2.2.1,r1.2.2.2.2.1,r1.2.2.2.2.2,r1.1):Option oZ)).bind λb=>some (b.2.2.2.2.2,(b.1,b.2.1,b.2.2.1,b.2.2.2.1,b.2.2.2.2.1))
def rJ(a:(am->Option (aF×am)))(r1:(aF×am))(b:Y35):Option ((Y35)⊕(am⊕(aF×am))):= bif decide (b.1<3)then Qz2 (ae ([Ur,VF,T8]:Qq4) b.1) λe=>(cS b.2 e).bind λc=>bif c.1 then(lv a c.2).bind λd=>some (.inr (.inr ((ac (26+b.1),([]:Qq8),0,([Nd.of r1.1,Nd.of d.1]:List Nd)),d.2)))else some (.inl (ac (b.1+1),c.2))else some (.inr (.inl b.2))
def sW(a:am->Option (aF×am))(b:am):Option (aF×am):= bif b.2.2.2.1 then some ((0,([]:Qq8),0,([]:List Nd)),b)else(lv a b).bind λr1=>((Itr.it (rJ a r1) (0,r1.2):Option (am⊕(aF×am)))).bind λe=>
  match e with
  |.inl c=>some (r1.1,c)
  |.inr d=>some d
def dy:Nat->am->Option (aF×am)
 |0=>λ_=>none
 |a+1=>sW (dy a)
def eE(a:am):Option (aF×am):=dy 64 a
def tf(c:(aF))(b:(aF×am))(a:(am->Option (aF×am)))(e:(aF×am)):Option oZ:=
 let d:=c.2.2.2
 let j:=c.2.2.1
 bif(c.1==11)then bif(c.1==11)then(cS b.2 Ep).bind λf=>bif bif c.1==11 then f.1 else false then(a f.2).bind λg=>af (aN ((d++([Nd.of e.1]:List Nd))++([Nd.of b.1]:List Nd)).length ([Nd.of g.1]:List Nd).length 56) (some (g.2.1,g.2.2.1,g.2.2.2.1,g.2.2.2.2.1,g.2.2.2.2.2,c.1,c.2.1,j,((d++([Nd.of e.1]:List Nd))++([Nd.of b.1]:List Nd))++([Nd.of g.1]:List Nd)))else some (f.2.1,f.2.2.1,f.2.2.2.1,f.2.2.2.2.1,f.2.2.2.2.2,c.1,c.2.1,j,(d++([Nd.of e.1]:List Nd))++([Nd.of b.1]:List Nd))else bif bif c.1==11 then false else false then(a b.2).bind λh=>af (aN ((d++([Nd.of e.1]:List Nd))++([Nd.of b.1]:List Nd)).length ([Nd.of h.1]:List Nd).length 56) (some (h.2.1,h.2.2.1,h.2.2.2.1,h.2.2.2.2.1,h.2.2.2.2.2,c.1,c.2.1,j,((d++([Nd.of e.1]:List Nd))++([Nd.of b.1]:List Nd))++([Nd.of h.1]:List Nd)))else some (b.2.1,b.2.2.1,b.2.2.2.1,b.2.2.2.2.1,b.2.2.2.2.2,c.1,c.2.1,j,(d++([Nd.of e.1]:List Nd))++([Nd.of b.1]:List Nd))else bif(c.1==11)then none else bif bif c.1==11 then false else false then(a b.2).bind λi=>af (aN ((d++([Nd.of e.1]:List Nd))++([Nd.of b.1]:List Nd)).length ([Nd.of i.1]:List Nd).length 56) (some (i.2.1,i.2.2.1,i.2.2.2.1,i.2.2.2.2.1,i.2.2.2.2.2,c.1,c.2.1,j,((d++([Nd.of e.1]:List Nd))++([Nd.of b.1]:List Nd))++([Nd.of i.1]:List Nd)))else some (b.2.1,b.2.2.1,b.2.2.2.1,b.2.2.2.2.1,b.2.2.2.2.2,c.1,c.2.1,j,(d++([Nd.of e.1]:List Nd))++([Nd.of b.1]:List Nd))
def nX(a:(am->Option (aF×am)))(d:am)(g:Qq8):Option (aF×am):= ((bif g==rX then some (12,([]:Qq8),0,([]:List Nd))else some (11,([]:Qq8),0,([]:List Nd)):Option aF)).bind λe=>(eE (d.1,d.2.1,ac (d.2.2.1+1),d.2.2.2)).bind λc=>af (aN e.2.2.2.length ([Nd.of c.1]:List Nd).length 56) ((a c.2).bind λf=>af (aN (e.2.2.2++([Nd.of c.1]:List Nd)).length ([Nd.of f.1]:List Nd).length 56) (((tf e f a c:Option oZ)).bind λb=>some (b.2.2.2.2.2,(b.1,b.2.1,b.2.2.1,b.2.2.2.1,b.2.2.2.2.1))))
def oc(f:am)(d:Qq8):Option (aF×am):= (bif(decide (0<(d.length:Int)))then ae d (0:Int)else some 0).bind λv1=>bif bif decide (0<(d.length:Int))then(v1.toNat:Int)==36 else false then(d7 f).bind λe=>(bJ e.2 DK).bind λg=>(eE g).bind λb=>af (aN ([]:List Nd).length ([Nd.of b.1]:List Nd).length 56) (some ((9,e.1,0,([]:List Nd)++([Nd.of b.1]:List Nd)),b.2))else(ko f).bind λa=>af (aN ([]:List Nd).length ([Nd.of a.1]:List Nd).length 56) ((bJ a.2 DK).bind λh=>(eE h).bind λc=>af (aN (([]:List Nd)++([Nd.of a.1]:List Nd)).length ([Nd.of c.1]:List Nd).length 56) (some ((10,([]:Qq8),0,(([]:List Nd)++([Nd.of a.1]:List Nd))++([Nd.of c.1]:List Nd)),c.2)))
def rj(d:Qq8)(a:Int):Option ((Int)⊕(Int)):= (bif(decide (a<26))then iO else some ([]:Qq4)).bind λb=>Qz2 (bif(decide (a<26))then ae b a else some ([]:Qq8)) λc=>bif bif decide (a<26)then !(c==d)else false then some (.inl (ac (a+1)))else some (.inr a)
def sV(a:(Int))(b:am):Option oZ:=
 let j:=b.2.2.1
 let k:=b.2.2.2
 ((bif a==13 then some (a==13)else bif a==14 then some (a==14)else bif a==17 then some (a==17)else some (a==18):Option Bool)).bind λr=>bif r then(cV (b.1,b.2.1,ac (j+1),k)).bind λl=>some (l.2.1,l.2.2.1,l.2.2.2.1,l.2.2.2.2.1,l.2.2.2.2.2,a,l.1,0,([]:List Nd))else((bif a==15 then some (a==15)else some (a==22):Option Bool)).bind λp=>bif p then(cV (b.1,b.2.1,ac (j+1),k)).bind λm=>(eE m.2).bind λc=>af (aN ([]:List Nd).length ([Nd.of c.1]:List Nd).length 56) (some (c.2.1,c.2.2.1,c.2.2.2.1,c.2.2.2.2.1,c.2.2.2.2.2,a,m.1,0,([]:List Nd)++([Nd.of c.1]:List Nd)))else((bif a==16 then some (a==16)else some (a==23):Option Bool)).bind λq=>bif q then(cV (b.1,b.2.1,ac (j+1),k)).bind λn=>(d7 n.2).bind λd=>af (aN ([]:List Nd).length ([Nd.of (33,d.1,0,([]:List Nd))]:List Nd).length 56) (some (d.2.1,d.2.2.1,d.2.2.2.1,d.2.2.2.2.1,d.2.2.2.2.2,a,n.1,0,([]:List Nd)++([Nd.of (33,d.1,0,([]:List Nd))]:List Nd)))else bif a==19 then(d7 (b.1,b.2.1,ac (j+1),k)).bind λo=>(cA o.2 2 6).bind λf=>some (f.2.1,f.2.2.1,f.2.2.2.1,f.2.2.2.2.1,f.2.2.2.2.2,a,o.1,f.1,([]:List Nd))else bif a==20 then(d7 (b.1,b.2.1,ac (j+1),k)).bind λg=>some (g.2.1,g.2.2.1,g.2.2.2.1,g.2.2.2.2.1,g.2.2.2.2.2,a,g.1,0,([]:List Nd))else bif a==21 then(cA (b.1,b.2.1,ac (j+1),k) 1 9).bind λh=>some (h.2.1,h.2.2.1,h.2.2.2.1,h.2.2.2.2.1,h.2.2.2.2.2,a,([]:Qq8),h.1,([]:List Nd))else bif a==25 then(cA (b.1,b.2.1,ac (j+1),k) 1 99).bind λi=>some (i.2.1,i.2.2.1,i.2.2.2.1,i.2.2.2.2.1,i.2.2.2.2.2,a,([]:Qq8),i.1,([]:List Nd))else bif a==24 then(eE (b.1,b.2.1,ac (j+1),k)).bind λe=>af (aN ([]:List Nd).length ([Nd.of e.1]:List Nd).length 56) (some (e.2.1,e.2.2.1,e.2.2.2.1,e.2.2.2.2.1,e.2.2.2.2.2,a,([]:Qq8),0,([]:List Nd)++([Nd.of e.1]:List Nd)))else some (b.1,b.2.1,ac (j+1),b.2.2.2.1,b.2.2.2.2,a,([]:Qq8),0,([]:List Nd))
def nY(c:am)(d:Qq8):Option (aF×am):= ((Itr.it (rj d) 13:Option Int)).bind λb=>bif b==26 then(oc c d).bind λe=>some e else((sV b c:Option oZ)).bind λa=>some (a.2.2.2.2.2,(a.1,a.2.1,a.2.2.1,a.2.2.2.1,a.2.2.2.2.1))
def py(a:(am->Option (aF×am)))(b:am):Option (aF×am):= (bK b).bind λr1=>bif bif r1==C9 then true else r1==rX then(nX a b r1).bind λd=>some d else(nY b r1).bind λc=>(bJ c.2 cx).bind λe=>some (c.1,e)
def rI(b:(am->Option (aF×am)))(a:oZ):Option ((oZ)⊕(oZ)):=
 let d:=a.2.2.2.1
 (bif(!d)then bK (a.1,a.2.1,a.2.2.1,d,a.2.2.2.2.1)else some ([]:Qq8)).bind λe=>bif bif !d then !(e==rG)else false then(py b (a.1,a.2.1,a.2.2.1,d,a.2.2.2.2.1)).bind λc=>af (aN a.2.2.2.2.2.2.2.2.length ([Nd.of c.1]:List Nd).length 56) (some (.inl (c.2.1,c.2.2.1,c.2.2.2.1,c.2.2.2.2.1,c.2.2.2.2.2,a.2.2.2.2.2.1,a.2.2.2.2.2.2.1,a.2.2.2.2.2.2.2.1,a.2.2.2.2.2.2.2.2++([Nd.of c.1]:List Nd))))else some (.inr a)
def sr(a:am->Option (aF×am))(d:am):Option (aF×am):= (bJ d TL).bind λr1=>((Itr.it (rI a) (r1.1,r1.2.1,r1.2.2.1,r1.2.2.2.1,r1.2.2.2.2,8,([]:Qq8),0,([]:List Nd)):Option oZ)).bind λb=>(bJ (b.1,b.2.1,b.2.2.1,b.2.2.2.1,b.2.2.2.2.1) rG).bind λc=>some (b.2.2.2.2.2,c)
def ee:Nat->am->Option (aF×am)
 |0=>λ_=>none
 |a+1=>sr (ee a)
def oM(a:am):Option (aF×am):=ee 64 a
def ti(r1:Qq8)(a:Int):Option ((Int)⊕(Int)):= (bif(decide (a<7))then iO else some ([]:Qq4)).bind λb=>Qz2 (bif(decide (a<7))then ae b a else some ([]:Qq8)) λv6=>bif bif decide (a<7)then !(v6==r1)else false then some (.inl (ac (a+1)))else some (.inr a)
def tg(a:oZ):Option ((oZ)⊕(oZ)):=
 let e:=a.2.2.2.1
 (bif(!e)then bK (a.1,a.2.1,a.2.2.1,e,a.2.2.2.2.1)else some ([]:Qq8)).bind λf=>bif bif !e then !(f==rG)else false then(cV (a.1,a.2.1,a.2.2.1,e,a.2.2.2.2.1)).bind λc=>(bJ c.2 DK).bind λg=>(jR g).bind λd=>(bJ d.2 cx).bind λb=>af (aN a.2.2.2.2.2.2.2.2.length ([Nd.of (7,c.1,d.1,([]:List Nd))]:List Nd).length 56) (some (.inl (b.1,b.2.1,b.2.2.1,b.2.2.2.1,b.2.2.2.2,a.2.2.2.2.2.1,a.2.2.2.2.2.2.1,a.2.2.2.2.2.2.2.1,a.2.2.2.2.2.2.2.2++([Nd.of (7,c.1,d.1,([]:List Nd))]:List Nd))))else some (.inr a)
def vz(f:(Int))(a:(Qq8×am)):Option (oZ⊕(aF×am)):= bif f==0 then(bJ a.2 DK).bind λj=>(jR j).bind λb=>some (.inl (b.2.1,b.2.2.1,b.2.2.2.1,b.2.2.2.2.1,b.2.2.2.2.2,f,a.1,b.1,([]:List Nd)))else bif f==2 then(cA a.2 0 3).bind λc=>some (.inl (c.2.1,c.2.2.1,c.2.2.2.1,c.2.2.2.2.1,c.2.2.2.2.2,f,a.1,c.1,([]:List Nd)))else bif f==1 then(bJ a.2 TL).bind λe=>((Itr.it (tg) (e.1,e.2.1,e.2.2.1,e.2.2.2.1,e.2.2.2.2,f,a.1,0,([]:List Nd)):Option oZ)).bind λd=>(bJ (d.1,d.2.1,d.2.2.1,d.2.2.2.1,d.2.2.2.2.1) rG).bind λh=>some (.inr (d.2.2.2.2.2,h))else((bif f==5 then some (f==5)else some (f==6):Option Bool)).bind λi=>bif i then(oM a.2).bind λg=>af (aN ([]:List Nd).length ([Nd.of g.1]:List Nd).length 56) (some (.inr ((f,a.1,0,([]:List Nd)++([Nd.of g.1]:List Nd)),g.2)))else some (.inl (a.2.1,a.2.2.1,a.2.2.2.1,a.2.2.2.2.1,a.2.2.2.2.2,f,a.1,0,([]:List Nd)))
def qo(a:am):Option (aF×am):= (bK a).bind λr1=>((Itr.it (ti r1) 0:Option Int)).bind λf=>bif f==7 then some ((0,([]:Qq8),0,([]:List Nd)),(a.1,a.2.1,a.2.2.1,true,a.2.2.2.2))else(cV (a.1,a.2.1,ac (a.2.2.1+1),a.2.2.2)).bind λg=>((vz f g:Option (oZ⊕(aF×am)))).bind λe=>
  match e with
  |.inl b=>(bJ (b.1,b.2.1,b.2.2.1,b.2.2.2.1,b.2.2.2.2.1) cx).bind λc=>some (b.2.2.2.2.2,c)
  |.inr d=>some d
def w7(a:(aF->Option Int))(d:aF)(b:(Int×Int)):Option (((Int×Int))⊕(Int)):= bif decide (b.2<(d.2.2.2.length:Int))then Qz2 (ae d.2.2.2 b.2) λv4=>(a (v4.tup.1,v4.tup.2.1,v4.tup.2.2.1,v4.tup.2.2.2)).bind λc=>some (.inl (if c>b.1 then c else b.1,ac (b.2+1)))else some (.inr b.1)
def xB(a:aF->Option Int)(c:aF):Option Int:= ((Itr.it (w7 a c) (0,0):Option Int)).bind λb=>some (ac (b+1))
def ml:Nat->aF->Option Int
 |0=>λ_=>none
 |a+1=>xB (ml a)
def u6(a:aF):Option Int:=ml 64 a
def vj(a:aF):Option Int:= ((((bif a.1==26 then some (a.1==26)else bif a.1==27 then some (a.1==27)else some (a.1==28):Option Bool)).bind λb=>bif b then some (.inr 1)else((bif a.1==29 then some (a.1==29)else some (a.1==30):Option Bool)).bind λc=>bif c then some (.inr 2)else bif a.1==31 then some (.inr 3)else some (.inl ()):Option (Unit⊕Int))).bind λe=>
 match e with
 |.inl _=>some 4
 |.inr d=>some d
def cp(a:(aF->Option Qq8))(c:aF)(e:Int):Option Qq8:= (vj c).bind λr1=>bif decide (e<=r1)then(a c).bind λd=>some d else(a c).bind λb=>af (decide (Dq.length+b.length<=9223372036854775807)) (af (decide ((Dq++b).length+Ij.length<=9223372036854775807)) (some ((Dq++b)++Ij)))
def yJ(a:aF->Option Qq8)(d:aF):Option Qq8:= ((bif d.1==32 then(dQ d.2.2.1).bind λs=>some (.inr s)else bif d.1==33 then af (decide (tF.length+d.2.1.length<=9223372036854775807)) (some (.inr (tF++d.2.1)))else((bif d.1==34 then some (d.1==34)else some (d.1==35):Option Bool)).bind λt=>bif t then some (.inr d.2.1)else bif d.1==36 then some (.inr yM)else some (.inl ()):Option (Unit⊕Qq8))).bind λq=>
 match q with
 |.inl _=>Qz2 (ae d.2.2.2 0) λb=>Qz2 (ae d.2.2.2 1) λc=>bif d.1==26 then(cp a (b.tup.1,b.tup.2.1,b.tup.2.2.1,b.tup.2.2.2) 2).bind λo=>af (decide (o.length+Ig.length<=9223372036854775807)) ((cp a (c.tup.1,c.tup.2.1,c.tup.2.2.1,c.tup.2.2.2) 2).bind λr=>af (decide ((o++Ig).length+r.length<=9223372036854775807)) (some ((o++Ig)++r)))else bif d.1==27 then(cp a (b.tup.1,b.tup.2.1,b.tup.2.2.1,b.tup.2.2.2) 2).bind λe=>af (decide (e.length+Ib.length<=9223372036854775807)) ((cp a (c.tup.1,c.tup.2.1,c.tup.2.2.1,c.tup.2.2.2) 2).bind λj=>af (decide ((e++Ib).length+j.length<=9223372036854775807)) (some ((e++Ib)++j)))else bif d.1==28 then(cp a (b.tup.1,b.tup.2.1,b.tup.2.2.1,b.tup.2.2.2) 2).bind λf=>af (decide (f.length+Hm.length<=9223372036854775807)) ((cp a (c.tup.1,c.tup.2.1,c.tup.2.2.1,c.tup.2.2.2) 2).bind λk=>af (decide ((f++Hm).length+k.length<=9223372036854775807)) (some ((f++Hm)++k)))else bif d.1==29 then(cp a (b.tup.1,b.tup.2.1,b.tup.2.2.1,b.tup.2.2.2) 2).bind λg=>af (decide (g.length+HY.length<=9223372036854775807)) ((cp a (c.tup.1,c.tup.2.1,c.tup.2.2.1,c.tup.2.2.2) 3).bind λl=>af (decide ((g++HY).length+l.length<=9223372036854775807)) (some ((g++HY)++l)))else bif d.1==30 then(cp a (b.tup.1,b.tup.2.1,b.tup.2.2.1,b.tup.2.2.2) 2).bind λh=>af (decide (h.length+Hr.length<=9223372036854775807)) ((cp a (c.tup.1,c.tup.2.1,c.tup.2.2.1,c.tup.2.2.2) 3).bind λm=>af (decide ((h++Hr).length+m.length<=9223372036854775807)) (some ((h++Hr)++m)))else(cp a (b.tup.1,b.tup.2.1,b.tup.2.2.1,b.tup.2.2.2) 3).bind λi=>af (decide (i.length+Iv.length<=9223372036854775807)) ((cp a (c.tup.1,c.tup.2.1,c.tup.2.2.1,c.tup.2.2.2) 4).bind λn=>af (decide ((i++Iv).length+n.length<=9223372036854775807)) (some ((i++Iv)++n)))
 |.inr p=>some p
def jL:Nat->aF->Option Qq8
 |0=>λ_=>none
 |a+1=>yJ (jL a)
def fj(a:aF):Option Qq8:=jL 64 a
def AH(b:aF)(a:Qq8):Option (Unit⊕Qq8):=
 let c:=b.2.1
 ((bif b.1==13 then some (b.1==13)else bif b.1==14 then some (b.1==14)else bif b.1==17 then some (b.1==17)else some (b.1==18):Option Bool)).bind λi=>bif i then af (decide (a.length+aY.length<=9223372036854775807)) (af (decide ((a++aY).length+c.length<=9223372036854775807)) (af (decide (((a++aY)++c).length+cx.length<=9223372036854775807)) (some (.inr (((a++aY)++c)++cx)))))else((bif b.1==15 then some (b.1==15)else bif b.1==22 then some (b.1==22)else bif b.1==16 then some (b.1==16)else some (b.1==23):Option Bool)).bind λj=>bif j then af (decide (a.length+aY.length<=9223372036854775807)) (af (decide ((a++aY).length+c.length<=9223372036854775807)) (af (decide (((a++aY)++c).length+aY.length<=9223372036854775807)) (Qz2 (ae b.2.2.2 0) λd=>(fj (d.tup.1,d.tup.2.1,d.tup.2.2.1,d.tup.2.2.2)).bind λf=>af (decide ((((a++aY)++c)++aY).length+f.length<=9223372036854775807)) (af (decide (((((a++aY)++c)++aY)++f).length+cx.length<=9223372036854775807)) (some (.inr (((((a++aY)++c)++aY)++f)++cx)))))))else bif b.1==19 then af (decide (a.length+ol.length<=9223372036854775807)) (af (decide ((a++ol).length+c.length<=9223372036854775807)) (af (decide (((a++ol)++c).length+aY.length<=9223372036854775807)) ((dQ b.2.2.1).bind λg=>af (decide ((((a++ol)++c)++aY).length+g.length<=9223372036854775807)) (af (decide (((((a++ol)++c)++aY)++g).length+cx.length<=9223372036854775807)) (some (.inr (((((a++ol)++c)++aY)++g)++cx)))))))else bif b.1==20 then af (decide (a.length+ol.length<=9223372036854775807)) (af (decide ((a++ol).length+c.length<=9223372036854775807)) (af (decide (((a++ol)++c).length+cx.length<=9223372036854775807)) (some (.inr (((a++ol)++c)++cx)))))else bif b.1==24 then af (decide (a.length+aY.length<=9223372036854775807)) (Qz2 (ae b.2.2.2 0) λe=>(fj (e.tup.1,e.tup.2.1,e.tup.2.2.1,e.tup.2.2.2)).bind λh=>af (decide ((a++aY).length+h.length<=9223372036854775807)) (af (decide (((a++aY)++h).length+cx.length<=9223372036854775807)) (some (.inr (((a++aY)++h)++cx)))))else some (.inl ())
def vI(a:(aF->Option Qq8))(c:aF):Option Qq8:=
 let j:=c.2.2.2
 bif c.1==9 then af (decide (tF.length+c.2.1.length<=9223372036854775807)) (af (decide ((tF++c.2.1).length+eK.length<=9223372036854775807)) (Qz2 (ae j 0) λo=>(fj (o.tup.1,o.tup.2.1,o.tup.2.2.1,o.tup.2.2.2)).bind λs=>af (decide (((tF++c.2.1)++eK).length+s.length<=9223372036854775807)) (af (decide ((((tF++c.2.1)++eK)++s).length+cx.length<=9223372036854775807)) (some ((((tF++c.2.1)++eK)++s)++cx)))))else bif c.1==10 then Qz2 (ae j 0) λp=>(fj (p.tup.1,p.tup.2.1,p.tup.2.2.1,p.tup.2.2.2)).bind λn=>af (decide (n.length+eK.length<=9223372036854775807)) (Qz2 (ae j 1) λq=>(fj (q.tup.1,q.tup.2.1,q.tup.2.2.1,q.tup.2.2.2)).bind λt=>af (decide ((n++eK).length+t.length<=9223372036854775807)) (af (decide (((n++eK)++t).length+cx.length<=9223372036854775807)) (some (((n++eK)++t)++cx))))else bif c.1==12 then Qz2 (ae j 0) λv11=>(fj (v11.tup.1,v11.tup.2.1,v11.tup.2.2.1,v11.tup.2.2.2)).bind λf=>af (decide (sq.length+f.length<=9223372036854775807)) (af (decide ((sq++f).length+aY.length<=9223372036854775807)) (Qz2 (ae j 1) λg=>(a (g.tup.1,g.tup.2.1,g.tup.2.2.1,g.tup.2.2.2)).bind λl=>af (decide (((sq++f)++aY).length+l.length<=9223372036854775807)) (some (((sq++f)++aY)++l))))else bif c.1==11 then Qz2 (ae j 0) λh=>(fj (h.tup.1,h.tup.2.1,h.tup.2.2.1,h.tup.2.2.2)).bind λb=>af (decide (pb.length+b.length<=9223372036854775807)) (af (decide ((pb++b).length+aY.length<=9223372036854775807)) (Qz2 (ae j 1) λv20=>(a (v20.tup.1,v20.tup.2.1,v20.tup.2.2.1,v20.tup.2.2.2)).bind λd=>af (decide (((pb++b)++aY).length+d.length<=9223372036854775807)) (((bif decide (2<(c.2.2.2.length:Int))then af (decide ((((pb++b)++aY)++d).length+yR.length<=9223372036854775807)) (Qz2 (ae j 2) λi=>(a (i.tup.1,i.tup.2.1,i.tup.2.2.1,i.tup.2.2.2)).bind λm=>af (decide (((((pb++b)++aY)++d)++yR).length+m.length<=9223372036854775807)) (some (((((pb++b)++aY)++d)++yR)++m)))else some (((pb++b)++aY)++d):Option Qq8)).bind λu=>some u)))else(iO).bind λr=>Qz2 (ae r c.1) λe=>((AH c e:Option (Unit⊕Qq8))).bind λw=>
     match w with
     |.inl _=>af (decide (e.length+aY.length<=9223372036854775807)) ((dQ c.2.2.1).bind λk=>af (decide ((e++aY).length+k.length<=9223372036854775807)) (af (decide (((e++aY)++k).length+cx.length<=9223372036854775807)) (some (((e++aY)++k)++cx))))
     |.inr v=>some v
def xA(a:(aF->Option Qq8))(d:aF)(b:(Qq8×Int)):Option (((Qq8×Int))⊕(Qq8)):= bif decide (b.2<(d.2.2.2.length:Int))then Qz2 (ae d.2.2.2 b.2) λv4=>(vI a (v4.tup.1,v4.tup.2.1,v4.tup.2.2.1,v4.tup.2.2.2)).bind λc=>af (decide (b.1.length+c.length<=9223372036854775807)) (af (decide ((b.1++c).length+aY.length<=9223372036854775807)) (some (.inl ((b.1++c)++aY,ac (b.2+1)))))else some (.inr b.1)
def zc(a:aF->Option Qq8)(c:aF):Option Qq8:= ((Itr.it (xA a c) (ary,0):Option Qq8)).bind λb=>af (decide (b.length+rG.length<=9223372036854775807)) (some (b++rG))
def jA:Nat->aF->Option Qq8
 |0=>λ_=>none
 |a+1=>zc (jA a)
def vM(a:aF):Option Qq8:=jA 64 a
def xJ(d:aF)(a:(Qq8×Int)):Option (((Qq8×Int))⊕(Qq8)):= bif decide (a.2<(d.2.2.2.length:Int))then Qz2 (ae d.2.2.2 a.2) λv11=>af (decide (a.1.length+v11.tup.2.1.length<=9223372036854775807)) (af (decide ((a.1++v11.tup.2.1).length+eK.length<=9223372036854775807)) (Qz2 (ae d.2.2.2 a.2) λc=>(dQ c.tup.2.2.1).bind λb=>af (decide (((a.1++v11.tup.2.1)++eK).length+b.length<=9223372036854775807)) (af (decide ((((a.1++v11.tup.2.1)++eK)++b).length+Ud.length<=9223372036854775807)) (some (.inl ((((a.1++v11.tup.2.1)++eK)++b)++Ud,ac (a.2+1)))))))else some (.inr a.1)
def A1(c:aF)(b:Qq8):Option (Qq8⊕Qq8):=
 let a:=c.2.1
 bif c.1==0 then af (decide (((b++aY)++a).length+eK.length<=9223372036854775807)) ((dQ c.2.2.1).bind λd=>af (decide ((((b++aY)++a)++eK).length+d.length<=9223372036854775807)) (af (decide (((((b++aY)++a)++eK)++d).length+cx.length<=9223372036854775807)) (some (.inr (((((b++aY)++a)++eK)++d)++cx)))))else bif c.1==2 then af (decide (((b++aY)++a).length+aY.length<=9223372036854775807)) ((dQ c.2.2.1).bind λe=>af (decide ((((b++aY)++a)++aY).length+e.length<=9223372036854775807)) (af (decide (((((b++aY)++a)++aY)++e).length+cx.length<=9223372036854775807)) (some (.inr (((((b++aY)++a)++aY)++e)++cx)))))else((bif c.1==3 then some (c.1==3)else some (c.1==4):Option Bool)).bind λg=>bif g then af (decide (((b++aY)++a).length+cx.length<=9223372036854775807)) (some (.inr (((b++aY)++a)++cx)))else bif c.1==1 then af (decide (((b++aY)++a).length+UY.length<=9223372036854775807)) (((Itr.it (xJ c) (((b++aY)++a)++UY,0):Option Qq8)).bind λf=>af (decide (f.length+rG.length<=9223372036854775807)) (some (.inr (f++rG))))else some (.inl ((b++aY)++a))
def vK(c:aF):Option Qq8:= (iO).bind λr1=>Qz2 (ae r1 c.1) λf=>af (decide (f.length+aY.length<=9223372036854775807)) (af (decide ((f++aY).length+c.2.1.length<=9223372036854775807)) (((A1 c f:Option (Qq8⊕Qq8))).bind λg=>
   match g with
   |.inl d=>af (decide (d.length+aY.length<=9223372036854775807)) (Qz2 (ae c.2.2.2 0) λa=>(vM (a.tup.1,a.tup.2.1,a.tup.2.2.1,a.tup.2.2.2)).bind λb=>af (decide ((d++aY).length+b.length<=9223372036854775807)) (some ((d++aY)++b)))
   |.inr e=>some e))
def gK(d:Qq8):Option (aF×Int×Int):= bif decide (1024<(d.length:Int))then some ((0,([]:Qq8),0,([]:List Nd)),1024,4)else(vL d).bind λr1=>(qo (d,r1.1,0,false,false)).bind λa=>
  let b:=a.2.2.1
  let c:=a.2.2.2.1
  bif bif a.2.2.2.2.1 then decide (c<(b.length:Int))else false then bif a.2.2.2.2.2 then Qz2 (ae b c) λv4=>some ((0,([]:Qq8),0,([]:List Nd)),v4.1,5)else Qz2 (ae b c) λv6=>some ((0,([]:Qq8),0,([]:List Nd)),v6.1,2)else bif bif !a.2.2.2.2.1 then decide (c<(b.length:Int))else false then Qz2 (ae b c) λg=>some ((0,([]:Qq8),0,([]:List Nd)),g.1,2)else bif bif a.2.2.2.2.1 then true else decide (r1.2<(d.length:Int))then some ((0,([]:Qq8),0,([]:List Nd)),r1.2,2)else(u6 a.1).bind λf=>(bif !(decide (24<f))then vK a.1 else some ([]:Qq8)).bind λe=>bif bif decide (24<f)then true else decide (1024<(e.length:Int))then some ((0,([]:Qq8),0,([]:List Nd)),0,4)else some (a.1,0,0)
def wV(b:(List aA))(c:Qq8)(a:Int):Option ((Int)⊕(Unit⊕Int)):= bif decide (a<(b.length:Int))then Qz2 (ae b a) λv4=>bif v4.1==c then some (.inr (.inr a))else some (.inl (ac (a+1)))else some (.inr (.inl ()))
def dx(b:(List aA))(c:Qq8):Option Int:= ((Itr.it (wV b c) 0:Option (Unit⊕Int))).bind λd=>
 match d with
 |.inl _=>some (-1)
 |.inr a=>some a
def vZ(b:aF)(a:UF):Option ((UF)⊕(Qq4)):= bif decide (a.2<(b.2.2.2.length:Int))then((Qz2 (ae b.2.2.2 a.2) λe=>bif e.tup.1==7 then Qz2 (ae b.2.2.2 a.2) λc=>af (aN a.1.length ([c.tup.2.1]:Qq4).length 16) (some (a.1++([c.tup.2.1]:Qq4)))else some a.1:Option Qq4)).bind λd=>some (.inl (d,ac (a.2+1)))else some (.inr a.1)
def ot(b:aF):Option Qq4:= ((Itr.it (vZ b) (([]:Qq4),0):Option Qq4)).bind λa=>some a
def xe(b:Qq4)(a:Int):Option ((Int)⊕(Unit⊕Int)):= bif decide (a<(b.length:Int))then af (decide (0<=a/\a<=b.length)) (Qz2 (ae b a) λd=>(io (b.take a.toNat) d).bind λc=>bif c then some (.inr (.inr 7))else some (.inl (ac (a+1))))else some (.inr (.inl ()))
def uZ(b:(List aA))(c:Int):Option Int:= Qz2 (ae b c) λh=>(gK h.2).bind λa=>bif a.2.2 != 0 then some a.2.2 else Qz2 (ae b c) λi=>bif !(a.1.2.1==i.1)then some 11 else Qz2 (ae b c) λj=>(dx b j.1).bind λf=>bif decide (f<c)then some 7 else(ot a.1).bind λg=>((Itr.it (xe g) 0:Option (Unit⊕Int))).bind λe=>
    match e with
    |.inl _=>some 0
    |.inr d=>some d
def jV(a:Qq8):Option aF:= (gK a).bind λr1=>some r1.1
def xD(a:Int):Option (Unit⊕Int):= bif a==34 then some (.inr 0)else bif a==35 then some (.inr 1)else((bif a==13 then some (a==13)else some (a==14):Option Bool)).bind λb=>bif b then some (.inr 5)else((bif a==17 then some (a==17)else some (a==18):Option Bool)).bind λc=>bif c then some (.inr 3)else((bif a==15 then some (a==15)else some (a==16):Option Bool)).bind λd=>bif d then some (.inr 2)else((bif a==22 then some (a==22)else some (a==23):Option Bool)).bind λe=>bif e then some (.inr 4)else some (.inl ())
def nT(b:Int):Option Int:= ((xD b:Option (Unit⊕Int))).bind λc=>
 match c with
 |.inl _=>some (-1)
 |.inr a=>some a
def y5(b:Qq8)(a:Int):Option ((Int)⊕(Unit⊕(Qq8×Qq8))):= bif decide (a<(b.length:Int))then(ae b a).bind λc=>bif(c.toNat:Int)==46 then af (decide (0<=(0:Int)/\0<=a/\a<=b.length)) (af (decide (0<=(ac (a+1))/\(ac (a+1))<=(b.length:Int)/\(b.length:Int)<=b.length)) (some (.inr (.inr ((b.take a.toNat).drop (0:Int).toNat,(b.take (b.length:Int).toNat).drop (ac (a+1)).toNat)))))else some (.inl (ac (a+1)))else some (.inr (.inl ()))
def xw(a:Qq8):Option (Qq8×Qq8):= ((Itr.it (y5 a) 0:Option (Unit⊕(Qq8×Qq8)))).bind λc=>
 match c with
 |.inl _=>some (a,([]:Qq8))
 |.inr b=>some b
def wN(a:(aF->Option (List bF)))(e:aF)(b:Y37):Option ((Y37)⊕((List bF))):= bif decide (b.2<(e.2.2.2.length:Int))then Qz2 (ae e.2.2.2 b.2) λc=>(a (c.tup.1,c.tup.2.1,c.tup.2.2.1,c.tup.2.2.2)).bind λd=>af (aN b.1.length d.length 48) (some (.inl (b.1++d,ac (b.2+1))))else some (.inr b.1)
def xE(a:aF->Option (List bF))(b:aF):Option (List bF):= (((nT b.1).bind λe=>bif decide (0<=e)then(xw b.2.1).bind λc=>(nT b.1).bind λd=>af (aN ([]:List bF).length ([(b.1,d,c)]:List bF).length 48) (some (([]:List bF)++([(b.1,d,c)]:List bF)))else some ([]:List bF):Option (List bF))).bind λf=>((Itr.it (wN a b) (f,0):Option (List bF))).bind λg=>some g
def mb:Nat->aF->Option (List bF)
 |0=>λ_=>none
 |a+1=>xE (mb a)
def pd(a:aF):Option (List bF):=mb 64 a
def vU(e:(List aA))(b:(List bF))(a:Int):Option ((Int)⊕(Unit⊕Int)):= bif decide (a<(b.length:Int))then Qz2 (ae b a) λd=>(dx e d.2.2.1).bind λc=>bif decide (c<0)then some (.inr (.inr 6))else some (.inl (ac (a+1)))else some (.inr (.inl ()))
def wi(h:(List aA))(d:(List bF))(a:Int):Option ((Int)⊕(Unit⊕Int)):= bif decide (a<(d.length:Int))then Qz2 (ae d a) λe=>(dx h e.2.2.1).bind λb=>Qz2 (ae h (if(0:Int)>b then(0:Int)else b)) λf=>(jV f.2).bind λc=>Qz2 (ae d a) λg=>bif c.1 != g.2.1 then some (.inr (.inr 12))else some (.inl (ac (a+1)))else some (.inr (.inl ()))
def wd(k:(List aA))(d:(List bF))(a:Int):Option ((Int)⊕(Unit⊕Int)):= bif decide (a<(d.length:Int))then Qz2 (ae d a) λh=>(dx k h.2.2.1).bind λc=>Qz2 (ae k (if(0:Int)>c then(0:Int)else c)) λi=>(jV i.2).bind λe=>Qz2 (ae d a) λb=>(bif(b.2.1==1)then ot e else some ([]:Qq4)).bind λf=>Qz2 (bif(b.2.1==1)then ae d a else some ((0:Int),(0:Int),([]:Qq8),([]:Qq8))) λj=>(bif(b.2.1==1)then io f j.2.2.2 else some false).bind λg=>bif bif b.2.1==1 then !g else false then some (.inr (.inr 6))else some (.inl (ac (a+1)))else some (.inr (.inl ()))
def tk(a:(List aA))(k:Int):Option Int:= Qz2 (ae a k) λj=>(jV j.2).bind λi=>(pd i).bind λb=>((Itr.it (vU a b) 0:Option (Unit⊕Int))).bind λh=>
 match h with
 | .inl _=>((Itr.it (wi a b) 0:Option (Unit⊕Int))).bind λg=>
  match g with
  |.inl _=>((Itr.it (wd a b) 0:Option (Unit⊕Int))).bind λf=>
   match f with
   |.inl _=>some 0
   |.inr c=>some c
  |.inr d=>some d
 |.inr e=>some e
def yL(c:Qq4)(d:Qq8)(a:Int):Option ((Int)⊕(Int)):= Qz2 (bif(decide (0<a))then ae c (ac (a-1))else some ([]:Qq8)) λb=>bif bif decide (0<a)then Op.bytesLess d b else false then some (.inl (ac (a-1)))else some (.inr a)
def qX(a:Qq4)(c:Qq8):Option Qq4:= (io a c).bind λr1=>bif r1 then some a else((Itr.it (yL a c) (a.length:Int):Option Int)).bind λb=>af (decide (0<=(0:Int)/\0<=b/\b<=a.length)) (af (aN ([]:Qq4).length ((a.take b.toNat).drop (0:Int).toNat).length 16) (af (aN (([]:Qq4)++((a.take b.toNat).drop (0:Int).toNat)).length ([c]:Qq4).length 16) (af (decide (0<=b/\b<=(a.length:Int)/\(a.length:Int)<=a.length)) (af (aN ((([]:Qq4)++((a.take b.toNat).drop (0:Int).toNat))++([c]:Qq4)).length ((a.take (a.length:Int).toNat).drop b.toNat).length 16) (some (((([]:Qq4)++((a.take b.toNat).drop (0:Int).toNat))++([c]:Qq4))++((a.take (a.length:Int).toNat).drop b.toNat)))))))
def xH(f:Bool)(b:(List bF))(a:(Y39)):Option Y38:=
 let e:=a.2.2
 Qz2 (bif !(!f)then ae b e else some ((0:Int),(0:Int),([]:Qq8),([]:Qq8))) λc=>Qz2 (bif(bif !f then true else c.1==14)then ae b e else some ((0:Int),(0:Int),([]:Qq8),([]:Qq8))) λi=>(bif(bif !f then true else c.1==14)then io a.1 i.2.2.1 else some false).bind λg=>bif bif bif !f then true else c.1==14 then !g else false then Qz2 (ae b e) λj=>(qX a.1 j.2.2.1).bind λh=>Qz2 (ae b e) λd=>af (aN a.2.1.length ([d.2.2.1]:Qq4).length 16) (some (h,a.2.1++([d.2.2.1]:Qq4)))else some (a.1,a.2.1)
def vn(d:Bool)(b:(List bF))(a:Y39):Option ((Y39)⊕(Y38)):= bif decide (a.2.2<(b.length:Int))then((xH d b a:Option Y38)).bind λc=>some (.inl (c.1,c.2,ac (a.2.2+1)))else some (.inr (a.1,a.2.1))
def vA(e:(List aA))(i:Bool)(a:Y39):Option ((Y39)⊕(Qq4)):= bif decide (a.2.2<(a.2.1.length:Int))then((Qz2 (ae a.2.1 a.2.2) λg=>(dx e g).bind λc=>bif decide (c<0)then some (a.1,a.2.1)else Qz2 (ae e c) λh=>(jV h.2).bind λf=>(pd f).bind λb=>Itr.it (vn i b) (a.1,a.2.1,0):Option Y38)).bind λd=>some (.inl (d.1,d.2,ac (a.2.2+1)))else some (.inr a.1)
def ni(b:(List aA))(c:Qq8)(d:Bool):Option Qq4:= ((Itr.it (vA b d) (([]:Qq4),([c]:Qq4),0):Option Qq4)).bind λa=>some a
def wS(c:(List aA))(a:Int):Option ((Int)⊕(Unit⊕(Int×Int))):= bif decide (a<(c.length:Int))then(uZ c a).bind λb=>bif b != 0 then some (.inr (.inr (a,b)))else some (.inl (ac (a+1)))else some (.inr (.inl ()))
def xq(c:(List aA))(a:Int):Option ((Int)⊕(Unit⊕(Int×Int))):= bif decide (a<(c.length:Int))then(tk c a).bind λb=>bif b != 0 then some (.inr (.inr (a,b)))else some (.inl (ac (a+1)))else some (.inr (.inl ()))
def w6(b:(List aA))(a:Int):Option ((Int)⊕(Unit⊕(Int×Int))):= bif decide (a<(b.length:Int))then Qz2 (ae b a) λv10=>(ni b v10.1 true).bind λc=>Qz2 (ae b a) λe=>(io c e.1).bind λd=>bif d then some (.inr (.inr (a,13)))else some (.inl (ac (a+1)))else some (.inr (.inl ()))
def uR(a:(List aA)):Option (Int×Int):= bif decide (24<(a.length:Int))then some (0,4)else((Itr.it (wS a) 0:Option (Unit⊕(Int×Int)))).bind λg=>
  match g with
  | .inl _=>((Itr.it (xq a) 0:Option (Unit⊕(Int×Int)))).bind λf=>
   match f with
   |.inl _=>((Itr.it (w6 a) 0:Option (Unit⊕(Int×Int)))).bind λe=>
    match e with
    |.inl _=>some ((a.length:Int),0)
    |.inr b=>some b
   |.inr c=>some c
  |.inr d=>some d
def xm(d:(List aA))(b:Qq4)(a:vN):Option ((vN)⊕((List aA))):= bif decide (a.2<(b.length:Int))then Qz2 (ae b a.2) λe=>(dx d e).bind λc=>Qz2 (ae d (if(0:Int)>c then(0:Int)else c)) λv11=>af (aN a.1.length ([v11]:List aA).length 32) (some (.inl (a.1++([v11]:List aA),ac (a.2+1))))else some (.inr a.1)
def vi(a:(List aA))(b:Qq8):Option ((List aA)×Int):= (uR a).bind λr1=>bif r1.2 != 0 then some (([]:List aA),r1.2)else(dx a b).bind λc=>bif decide (c<0)then some (([]:List aA),6)else(ni a b false).bind λd=>(qX d b).bind λe=>((Itr.it (xm a e) (([]:List aA),0):Option (List aA))).bind λf=>some (f,0)
def aQ(a:aI)(b:Int)(c:Int)(d:Int):Option aI:= af (aN a.1.1.length ([(b,c,d)]:List Qq3).length 24) (some ((a.1.1++([(b,c,d)]:List Qq3),a.1.2),a.2))
def wT(b:Qq4)(c:Qq8)(a:Int):Option ((Int)⊕(Unit⊕Int)):= bif decide (a<(b.length:Int))then Qz2 (ae b a) λv4=>bif v4==c then some (.inr (.inr a))else some (.inl (ac (a+1)))else some (.inr (.inl ()))
def cy(b:Qq4)(c:Qq8):Option Int:= ((Itr.it (wT b c) 0:Option (Unit⊕Int))).bind λd=>
 match d with
 |.inl _=>some (-1)
 |.inr a=>some a
def cU(b:aI)(c:Qq8):Option (Int×aI):= (((cy b.2.1 c).bind λd=>bif decide (d<0)then af (aN b.2.1.length ([c]:Qq4).length 16) (some (Qz0 b.1 (b.2.1++([c]:Qq4),b.2.2)))else some (Qz0 b.1 (b.2)):Option JF)).bind λa=>(cy a.2.2.2.2.2.2.2.2.1 c).bind λe=>some (e,((a.1,a.2.1,a.2.2.1,a.2.2.2.1,a.2.2.2.2.1,a.2.2.2.2.2.1,a.2.2.2.2.2.2.1,a.2.2.2.2.2.2.2.1),a.2.2.2.2.2.2.2.2))
def sZ(b:(aI->aF->Option aI))(e:aF)(a:P9):Option ((P9)⊕aI):= bif decide (a.1<(e.2.2.2.length:Int))then Qz2 (ae e.2.2.2 a.1) λc=>(b ((a.2.1,a.2.2.1,a.2.2.2.1,a.2.2.2.2.1,a.2.2.2.2.2.1,a.2.2.2.2.2.2.1,a.2.2.2.2.2.2.2.1,a.2.2.2.2.2.2.2.2.1),a.2.2.2.2.2.2.2.2.2) (c.tup.1,c.tup.2.1,c.tup.2.2.1,c.tup.2.2.2)).bind λd=>some (.inl (ac (a.1+1),Qz0 d.1 (d.2)))else some (.inr ((a.2.1,a.2.2.1,a.2.2.2.1,a.2.2.2.2.1,a.2.2.2.2.2.1,a.2.2.2.2.2.2.1,a.2.2.2.2.2.2.2.1,a.2.2.2.2.2.2.2.2.1),a.2.2.2.2.2.2.2.2.2))
def ua(a:aI->aF->Option aI)(c:aI)(b:aF):Option aI:= ((bif bif bif bif b.1==9 then true else b.1==33 then true else b.1==19 then true else b.1==20 then(cU c b.2.1).bind λd=>some (Qz0 d.2.1 (d.2.2))else some (Qz0 c.1 (c.2)):Option JF)).bind λe=>Itr.it (sZ a b) (0,e)
def jp:Nat->aI->aF->Option aI
 |0=>λ_ _=>none
 |a+1=>ua (jp a)
def qk(a:aI)(b:aF):Option aI:=jp 64 a b
def kz(b:Qq5)(a:UF):Option ((UF)⊕(Qq4)):= bif decide (a.2<(b.length:Int))then Qz2 (ae b a.2) λv4=>af (aN a.1.length ([v4.1]:Qq4).length 16) (some (.inl (a.1++([v4.1]:Qq4),ac (a.2+1))))else some (.inr a.1)
def gJ(b:Qq5):Option Qq4:= ((Itr.it (kz b) (([]:Qq4),0):Option Qq4)).bind λa=>some a
def ta(a:aI->aF->Option aI)(d:aI)(b:aF):Option aI:= bif b.1==32 then(aQ d 0 b.2.2.1 0).bind λr1=>some r1 else bif b.1==33 then(cU d b.2.1).bind λi=>(aQ i.2 1 i.1 0).bind λj=>some j else((bif b.1==34 then some (b.1==34)else some (b.1==35):Option Bool)).bind λo=>bif o then(gJ d.1.2.2.2.1).bind λk=>(cy k b.2.1).bind λl=>(aQ d 16 l 0).bind λm=>some m else bif b.1==36 then(aQ d 3 0 0).bind λn=>some n else Qz2 (ae b.2.2.2 0) λv10=>(a d (v10.tup.1,v10.tup.2.1,v10.tup.2.2.1,v10.tup.2.2.2)).bind λe=>Qz2 (ae b.2.2.2 1) λc=>(a e (c.tup.1,c.tup.2.1,c.tup.2.2.1,c.tup.2.2.2)).bind λf=>Qz2 (ae ([7,8,9,4,5,6]:Qq9) (ac (b.1-26))) λh=>(aQ f h 0 0).bind λg=>some g
def iZ:Nat->aI->aF->Option aI
 |0=>λ_ _=>none
 |a+1=>ta (iZ a)
def dE(a:aI)(b:aF):Option aI:=iZ 64 a b
def oK(b:(aI->aF->Option aI))(n:aI)(l:aF):Option aI:=
 let j:=l.2.2.2
 Qz2 (ae j 0) λi=>(dE n (i.tup.1,i.tup.2.1,i.tup.2.2.1,i.tup.2.2.2)).bind λf=>(aQ f 11 0 0).bind λo=>Qz2 (ae j 1) λv6=>(b o (v6.tup.1,v6.tup.2.1,v6.tup.2.2.1,v6.tup.2.2.2)).bind λk=>((bif l.1==12 then(aQ k 10 (n.1.1.length:Int) 0).bind λm=>some (Qz0 m.1 (m.2))else some (Qz0 k.1 (k.2)):Option JF)).bind λa=>bif decide ((l.2.2.2.length:Int)<3)then Qz2 (ae a.1 (f.1.1.length:Int)) λv11=>some ((a.1.set (f.1.1.length:Int).toNat (v11.1,((a.1.length:Int),v11.2.2)),a.2.1,a.2.2.1,a.2.2.2.1,a.2.2.2.2.1,a.2.2.2.2.2.1,a.2.2.2.2.2.2.1,a.2.2.2.2.2.2.2.1),a.2.2.2.2.2.2.2.2)else(aQ ((a.1,a.2.1,a.2.2.1,a.2.2.2.1,a.2.2.2.2.1,a.2.2.2.2.2.1,a.2.2.2.2.2.2.1,a.2.2.2.2.2.2.2.1),a.2.2.2.2.2.2.2.2) 10 0 0).bind λc=>Qz2 (ae c.1.1 (f.1.1.length:Int)) λg=>Qz2 (ae j 2) λe=>(b ((c.1.1.set (f.1.1.length:Int).toNat (g.1,((c.1.1.length:Int),g.2.2)),c.1.2),c.2) (e.tup.1,e.tup.2.1,e.tup.2.2.1,e.tup.2.2.2)).bind λd=>Qz2 (ae d.1.1 (a.1.length:Int)) λh=>some ((d.1.1.set (a.1.length:Int).toNat (h.1,((d.1.1.length:Int),h.2.2)),d.1.2),d.2)
def mL(c:(aI->aF->Option aI))(b:aI)(a:aF):Option aI:=
 let d:=a.2.1
 let h:=a.2.2.2
 (gJ b.1.2.2.2.2.1).bind λr1=>bif a.1==9 then Qz2 (ae h 0) λp=>(dE b (p.tup.1,p.tup.2.1,p.tup.2.2.1,p.tup.2.2.2)).bind λW=>(cU W d).bind λU=>(aQ U.2 2 U.1 0).bind λX=>some X else bif a.1==10 then Qz2 (ae h 1) λq=>(dE b (q.tup.1,q.tup.2.1,q.tup.2.2.1,q.tup.2.2.2)).bind λV=>(gJ V.1.2.2.2.1).bind λr=>Qz2 (ae h 0) λR=>(cy r R.tup.2.1).bind λs=>(aQ V 17 s 0).bind λt=>some t else((bif a.1==11 then some (a.1==11)else some (a.1==12):Option Bool)).bind λQ=>bif Q then(oK c b a).bind λu=>some u else bif a.1==13 then(cy b.1.2.2.2.2.2.2.2 d).bind λv=>(aQ b 18 v 0).bind λw=>some w else bif a.1==14 then(cy b.1.2.2.2.2.2.2.2 d).bind λx=>(aQ b 12 x 0).bind λy=>some y else bif a.1==15 then Qz2 (ae h 0) λe=>(dE b (e.tup.1,e.tup.2.1,e.tup.2.2.1,e.tup.2.2.2)).bind λz=>(cy r1 d).bind λA=>(aQ z 19 A 0).bind λB=>some B else bif a.1==16 then(cy r1 d).bind λC=>Qz2 (ae h 0) λS=>(cU b S.tup.2.1).bind λk=>(aQ k.2 20 C k.1).bind λD=>some D else bif a.1==17 then(cy b.1.2.2.2.2.2.1 d).bind λE=>(aQ b 21 E 0).bind λF=>some F else bif a.1==18 then(cy b.1.2.2.2.2.2.1 d).bind λG=>(aQ b 22 G 0).bind λH=>some H else bif a.1==19 then(cU b d).bind λl=>(aQ l.2 23 a.2.2.1 l.1).bind λI=>some I else bif a.1==20 then(cU b d).bind λm=>(aQ m.2 24 m.1 0).bind λJ=>some J else bif a.1==21 then(aQ b 25 a.2.2.1 0).bind λK=>some K else bif a.1==22 then Qz2 (ae h 0) λf=>(dE b (f.tup.1,f.tup.2.1,f.tup.2.2.1,f.tup.2.2.2)).bind λn=>(cy n.1.2.2.2.2.2.2.1 d).bind λL=>(aQ n 26 L 0).bind λM=>some M else bif a.1==23 then(cy b.1.2.2.2.2.2.2.1 d).bind λN=>Qz2 (ae h 0) λT=>(cU b T.tup.2.1).bind λo=>(aQ o.2 27 N o.1).bind λO=>some O else bif a.1==24 then Qz2 (ae h 0) λg=>(dE b (g.tup.1,g.tup.2.1,g.tup.2.2.1,g.tup.2.2.2)).bind λi=>(aQ i 14 i.2.2 (ac ((i.1.2.1.length:Int)-1))).bind λj=>some (j.1,j.2.1,ac (j.2.2+1))else(aQ b 15 a.2.2.1 0).bind λP=>some P
def rM(b:(aI->aF->Option aI))(e:aF)(a:P9):Option ((P9)⊕aI):= bif decide (a.1<(e.2.2.2.length:Int))then Qz2 (ae e.2.2.2 a.1) λc=>(mL b ((a.2.1,a.2.2.1,a.2.2.2.1,a.2.2.2.2.1,a.2.2.2.2.2.1,a.2.2.2.2.2.2.1,a.2.2.2.2.2.2.2.1,a.2.2.2.2.2.2.2.2.1),a.2.2.2.2.2.2.2.2.2) (c.tup.1,c.tup.2.1,c.tup.2.2.1,c.tup.2.2.2)).bind λd=>some (.inl (ac (a.1+1),Qz0 d.1 (d.2)))else some (.inr ((a.2.1,a.2.2.1,a.2.2.2.1,a.2.2.2.2.1,a.2.2.2.2.2.1,a.2.2.2.2.2.2.1,a.2.2.2.2.2.2.2.1,a.2.2.2.2.2.2.2.2.1),a.2.2.2.2.2.2.2.2.2))
def sX(a:aI->aF->Option aI)(b:aI)(c:aF):Option aI:= Itr.it (rM a c) (0,Qz0 b.1 (b.2))
def eG:Nat->aI->aF->Option aI
 |0=>λ_ _=>none
 |a+1=>sX (eG a)
def pG(a:aI)(b:aF):Option aI:=eG 64 a b
def y7(c:Qq5)(b:(Qq8×Int))(a:Int):Option ((Int)⊕(Int)):= Qz2 (bif(decide (0<a))then ae c (ac (a-1))else some (([]:Qq8),(0:Int))) λv4=>bif bif decide (0<a)then !(Op.bytesLess v4.1 b.1||v4.1==b.1)else false then some (.inl (ac (a-1)))else some (.inr a)
def qW(a:Qq5)(c:(Qq8×Int)):Option Qq5:= ((Itr.it (y7 a c) (a.length:Int):Option Int)).bind λb=>af (decide (0<=(0:Int)/\0<=b/\b<=a.length)) (af (aN ([]:Qq5).length ((a.take b.toNat).drop (0:Int).toNat).length 24) (af (aN (([]:Qq5)++((a.take b.toNat).drop (0:Int).toNat)).length ([c]:Qq5).length 24) (af (decide (0<=b/\b<=(a.length:Int)/\(a.length:Int)<=a.length)) (af (aN ((([]:Qq5)++((a.take b.toNat).drop (0:Int).toNat))++([c]:Qq5)).length ((a.take (a.length:Int).toNat).drop b.toNat).length 24) (some (((([]:Qq5)++((a.take b.toNat).drop (0:Int).toNat))++([c]:Qq5))++((a.take (a.length:Int).toNat).drop b.toNat)))))))
def wn(b:(aF×Int×Int))(a:Y43):Option ((Y43)⊕(aD)):= bif decide (a.1<(b.1.2.2.2.length:Int))then af (decide (b.1.2.1.length+uc.length<=9223372036854775807)) (Qz2 (ae b.1.2.2.2 a.1) λv10=>af (decide ((b.1.2.1++uc).length+v10.tup.2.1.length<=9223372036854775807)) (Qz2 (ae b.1.2.2.2 a.1) λd=>(qW a.2.2.2.2.1 ((b.1.2.1++uc)++v10.tup.2.1,d.tup.2.2.1)).bind λc=>some (.inl (ac (a.1+1),a.2.1,a.2.2.1,a.2.2.2.1,c,a.2.2.2.2.2))))else some (.inr a.2)
def zf(k:(List aA))(a:(Y43)):Option aD:=
 let c:=a.2.2.2.1
 let d:=a.2.2.2.2.1
 let e:=a.2.2.2.2.2.1
 let f:=a.2.2.2.2.2.2.1
 let g:=a.2.2.2.2.2.2.2.1
 let h:=a.2.2.2.2.2.2.2.2
 Qz2 (ae k a.1) λj=>(gK j.2).bind λb=>bif b.1.1==0 then(qW d (b.1.2.1,b.1.2.2.1)).bind λi=>some (a.2.1,a.2.2.1,c,i,a.2.2.2.2.2)else bif b.1.1==1 then Itr.it (wn b) (0,a.2)else bif b.1.1==2 then af (aN e.length ([(b.1.2.1,b.1.2.2.1)]:Qq5).length 24) (some (a.2.1,a.2.2.1,c,d,e++([(b.1.2.1,b.1.2.2.1)]:Qq5),a.2.2.2.2.2.2))else bif b.1.1==3 then af (aN f.length ([b.1.2.1]:Qq4).length 16) (some (a.2.1,a.2.2.1,c,d,e,f++([b.1.2.1]:Qq4),a.2.2.2.2.2.2.2))else bif b.1.1==4 then af (aN g.length ([b.1.2.1]:Qq4).length 16) (some (a.2.1,a.2.2.1,c,d,e,f,g++([b.1.2.1]:Qq4),h))else bif b.1.1==5 then af (aN a.2.2.2.2.2.2.2.2.length ([b.1.2.1]:Qq4).length 16) (some (a.2.1,a.2.2.1,c,d,e,f,g,h++([b.1.2.1]:Qq4)))else some a.2
def wg(b:(List aA))(a:Y43):Option ((Y43)⊕(aD)):= bif decide (a.1<(b.length:Int))then((zf b a:Option aD)).bind λc=>some (.inl (ac (a.1+1),c))else some (.inr a.2)
def tz(c:(List aA))(b:Qq8):Option aD:= ((Itr.it (wg c) (0,([]:List Qq3),([]:Qq9),([]:Qq9),([]:Qq5),([]:Qq5),([]:Qq4),([]:Qq4),([]:Qq4)):Option aD)).bind λa=>af (aN a.2.2.2.2.2.2.2.length ([b]:Qq4).length 16) (some (a.1,a.2.1,a.2.2.1,a.2.2.2.1,a.2.2.2.2.1,a.2.2.2.2.2.1,a.2.2.2.2.2.2.1,a.2.2.2.2.2.2.2++([b]:Qq4)))
def xL(b:(P9))(r1:((List aA)×Int)):Option JF:=
 let k:=b.2.2.2.2.2.2.2.2.1
 Qz2 (ae k b.1) λv11=>(dx r1.1 v11).bind λh=>Qz2 (ae r1.1 h) λj=>(gK j.2).bind λe=>af (aN b.2.2.1.length ([(b.2.1.length:Int)]:Qq9).length 8) ((qk ((b.2.1,b.2.2.1++([(b.2.1.length:Int)]:Qq9),b.2.2.2.1,b.2.2.2.2.1,b.2.2.2.2.2.1,b.2.2.2.2.2.2.1,b.2.2.2.2.2.2.2.1,k),([]:Qq4),0) e.1).bind λi=>Qz2 (ae e.1.2.2.2 0) λc=>(pG i (c.tup.1,c.tup.2.1,c.tup.2.2.1,c.tup.2.2.2)).bind λd=>((bif decide ((ac (b.1+1))<(d.1.2.2.2.2.2.2.2.length:Int))then(aQ d 13 0 0).bind λf=>some (Qz0 f.1 (f.2))else(aQ d 28 0 0).bind λg=>some (Qz0 g.1 (g.2)):Option JF)).bind λa=>
  let l:=a.2.2.2.2.2.2.2.2.1
  af (aN a.2.2.1.length ([(l.length:Int)]:Qq9).length 8) (some (a.1,a.2.1,a.2.2.1++([(l.length:Int)]:Qq9),a.2.2.2)))
def vm(r1:((List aA)×Int))(a:P9):Option ((P9)⊕(JF)):= bif decide (a.1<(a.2.2.2.2.2.2.2.2.1.length:Int))then((xL a r1:Option JF)).bind λb=>some (.inl (ac (a.1+1),b))else some (.inr a.2)
def rO(f:(List aA))(b:Qq8):Option (aD×Int):= (vi f b).bind λr1=>bif r1.2 != 0 then some ((([]:List Qq3),([]:Qq9),([]:Qq9),([]:Qq5),([]:Qq5),([]:Qq4),([]:Qq4),([]:Qq4)),r1.2)else(dx r1.1 b).bind λc=>Qz2 (ae r1.1 c) λv4=>(gK v4.2).bind λd=>bif d.1.1 != 6 then some ((([]:List Qq3),([]:Qq9),([]:Qq9),([]:Qq5),([]:Qq5),([]:Qq4),([]:Qq4),([]:Qq4)),12)else(tz r1.1 b).bind λe=>((Itr.it (vm r1) (0,Qz0 e (([]:Qq4),0)):Option JF)).bind λa=>bif decide (512<(a.1.length:Int))then some ((([]:List Qq3),([]:Qq9),([]:Qq9),([]:Qq5),([]:Qq5),([]:Qq4),([]:Qq4),([]:Qq4)),4)else some ((a.1,a.2.1,a.2.2.1,a.2.2.2.1,a.2.2.2.2.1,a.2.2.2.2.2.1,a.2.2.2.2.2.2.1,a.2.2.2.2.2.2.2.1),0)
def rk(a:Int):Option (List aA):= (dw ([0,a]:Qq9)).bind λr1=>some r1
def mD(a:(List aA))(b:Qq8):Option aD:= (rO a b).bind λr1=>some r1.1
def jC(b:Int):Option (aD×aD):= (rk b).bind λr1=>(mD r1 pz).bind λa=>some (a,a)
def nu(a:Int)(b:Int):Option iz:= (ng a).bind λr1=>some (([]:Qq9),pz,r1,b)
def pj(a:Qq7):Option Qq7:= some a
def qZ(a:Qq7):Option Qq7:= some a
def iJ(d:Qq7)(e:Int)(a:Ei):Option ((Ei)⊕(Qq7)):= bif decide (a.1<((([]:Qq7)++d).length:Int))then(ae a.2 a.1).bind λ_=>af (decide (0<=(0:Int)/\(0:Int)<16)) (af (decide (0<=(0:Int)/\(0:Int)<16)) ((ae a.2 a.1).bind λb=>af (!((200:Int)==0)) ((ae a.2 a.1).bind λ_=>af (decide (0<=(0:Int)/\(0:Int)<16)) (af (decide (0<=(0:Int)/\(0:Int)<16)) ((ae a.2 a.1).bind λc=>some (.inl (ac (a.1+1),a.2.set a.1.toNat (bR 16 (0:Int) c (0:Int).toNat (IntKind.u8.wrap ((List.getD b (0:Int).toNat (0:Int))+(IntKind.u8.wrap (ac (1+(Int.tmod e 200))))))))))))))else some (.inr a.2)
def iK(c:Int)(a:Ei):Option ((Ei)⊕(Qq7)):= (bI c 9).bind λb=>bif decide (a.1<(ac (1+b)))then af (aN a.2.length ([(((List.replicate 16 (0:Int)).set 0 (IntKind.u8.wrap c)).set 1 (IntKind.u8.wrap a.1))]:Qq7).length 16) (some (.inl (ac (a.1+1),a.2++([(((List.replicate 16 (0:Int)).set 0 (IntKind.u8.wrap c)).set 1 (IntKind.u8.wrap a.1))]:Qq7))))else some (.inr a.2)
def iL(d:Qq7)(a:Ei):Option ((Ei)⊕(Qq7)):= bif decide (a.1<((([]:Qq7)++d).length:Int))then(ae a.2 a.1).bind λ_=>af (decide (0<=(1:Int)/\(1:Int)<16)) (af (decide (0<=(1:Int)/\(1:Int)<16)) ((ae a.2 a.1).bind λb=>(ae a.2 a.1).bind λ_=>af (decide (0<=(1:Int)/\(1:Int)<16)) (af (decide (0<=(1:Int)/\(1:Int)<16)) ((ae a.2 a.1).bind λc=>some (.inl (ac (a.1+2),a.2.set a.1.toNat (bR 16 (0:Int) c (1:Int).toNat (IntKind.u8.wrap ((List.getD b (1:Int).toNat (0:Int))+1)))))))))else some (.inr a.2)
def nv(i:Int)(a:Qq7)(g:Int)(r1:Int):Option Qq7:= (bI i 7).bind λc=>((bif c==0 then some (c==0)else some (c==1):Option Bool)).bind λh=>bif h then Itr.it (iJ a g) (r1,([]:Qq7)++a)else bif c==2 then bif decide (0<((([]:Qq7)++a).length:Int))then af (!((16:Int)==0)) ((bI (ac (Int.tdiv g 16)) 16).bind λb=>(ae (([]:Qq7)++a) r1).bind λ_=>af (decide (0<=b/\b<16)) (af (decide (0<=b/\b<16)) ((ae (([]:Qq7)++a) r1).bind λe=>(ae (([]:Qq7)++a) r1).bind λ_=>af (decide (0<=b/\b<16)) (af (decide (0<=b/\b<16)) ((ae (([]:Qq7)++a) r1).bind λf=>some ((([]:Qq7)++a).set r1.toNat (bR 16 (0:Int) f b.toNat (IntKind.u8.wrap ((List.getD e b.toNat (0:Int))+1)))))))))else some (([]:Qq7)++a)else bif c==3 then af (decide (0<=(if((([]:Qq7)++a).length:Int)<r1 then((([]:Qq7)++a).length:Int)else r1)/\(if((([]:Qq7)++a).length:Int)<r1 then((([]:Qq7)++a).length:Int)else r1)<=(([]:Qq7)++a).length)) (some ((([]:Qq7)++a).take (if((([]:Qq7)++a).length:Int)<r1 then((([]:Qq7)++a).length:Int)else r1).toNat))else bif c==4 then Itr.it (iK g) (0,([]:Qq7)++a)else bif c==5 then bif decide (1<((([]:Qq7)++a).length:Int))then Qz2 (ae (([]:Qq7)++a) (ac (((([]:Qq7)++a).length:Int)-1))) λd=>Qz2 (ae (([]:Qq7)++a) r1) λv20=>Qz2 (ae (([]:Qq7)++a) r1) λ_=>Qz2 (ae ((([]:Qq7)++a).set r1.toNat d) (ac (((([]:Qq7)++a).length:Int)-1))) λ_=>some (((([]:Qq7)++a).set r1.toNat d).set (ac (((([]:Qq7)++a).length:Int)-1)).toNat v20)else some (([]:Qq7)++a)else Itr.it (iL a) (0,([]:Qq7)++a)
def mA(a:Qq7)(d:Int)(b:Int):Option Qq7:= af (aN ([]:Qq7).length a.length 16) ((bI b (if(1:Int)>((([]:Qq7)++a).length:Int)then(1:Int)else((([]:Qq7)++a).length:Int))).bind λr1=>((nv d a b r1:Option Qq7)).bind λc=>some c)
def qp(b:Qq7)(a:Int):Option (Qq9×Bool):= bif bif decide (a<0)then true else decide ((b.length:Int)<=a)then some ((List.replicate 16 (0:Int)),false)else Qz2 (ae b a) λc=>some (c,true)
def vP(c:Qq7)(d:Qq7)(b:Int):Option Bool:= (qp c b).bind λr1=>(qp d b).bind λa=>some (bif r1.2==a.2 then dM 16 r1.1 a.1 else false)
def wG(b:Qq7)(c:Qq7)(a:Int):Option ((Int)⊕(Unit⊕Bool)):= bif bif decide (a<(b.length:Int))then true else decide (a<(c.length:Int))then(vP b c a).bind λd=>bif !d then some (.inr (.inr false))else some (.inl (ac (a+1)))else some (.inr (.inl ()))
def Cr(b:Qq7)(c:Qq7):Option Bool:= ((Itr.it (wG b c) 0:Option (Unit⊕Bool))).bind λd=>
 match d with
 |.inl _=>some true
 |.inr a=>some a
def uY(b:Qq9)(c:Qq9)(a:Int):Option ((Int)⊕(Unit⊕Bool)):= bif decide (a<(b.length:Int))then Qz2 (ae b a) λv4=>Qz2 (ae c a) λv6=>bif v4 != v6 then some (.inr (.inr false))else some (.inl (ac (a+1)))else some (.inr (.inl ()))
def rB(a:Qq9)(b:Qq9):Option Bool:= bif(a.length:Int) != (b.length:Int)then some false else((Itr.it (uY a b) 0:Option (Unit⊕Bool))).bind λd=>
  match d with
  |.inl _=>some true
  |.inr c=>some c
def xI(b:Qq9)(a:Ei):Option ((Ei)⊕(Qq7)):= bif decide (a.1<(b.length:Int))then Qz2 (ae b a.1) λv4=>af (aN a.2.length ([((List.replicate 16 (0:Int)).set 0 (IntKind.u8.wrap v4))]:Qq7).length 16) (some (.inl (ac (a.1+1),a.2++([((List.replicate 16 (0:Int)).set 0 (IntKind.u8.wrap v4))]:Qq7))))else some (.inr a.2)
def mG(b:Qq9):Option Qq7:= ((Itr.it (xI b) (0,([]:Qq7)):Option Qq7)).bind λa=>some a
def bQ(b:Qq7)(a:Int):Option (Option Qq9):= bif bif decide (a<0)then true else decide ((b.length:Int)<=a)then some (none:Option Qq9)else Qz2 (ae b a) λc=>some (some c)
def gv(b:(Option Qq9))(a:(Option Qq9)):Option Bool:= bif(uu 118 b).isSome then some (bif(uu 118 a).isSome then dM 16 ((uu 118 b).getD []) ((uu 118 a).getD [])else false)else some ((uu 232 a).isSome)
def oN(a:Qq7)(b:Qq7):Option Bool:= some (decide (1000<(if(b.length:Int)>(a.length:Int)then(b.length:Int)else(a.length:Int))))
def oz(e:Qq7)(f:Qq7)(a:Int):Option ((Int)⊕(Unit⊕(fg×Int))):= bif decide (0<=a)then(bQ e a).bind λb=>(bQ f a).bind λc=>(gv b c).bind λd=>bif !d then some (.inr (.inr ((-1,a,([]:Qq9)),0)))else some (.inl (ac (a-1)))else some (.inr (.inl ()))
def lE(a:Qq7)(b:Qq7):Option (fg×Int):= (oN a b).bind λr1=>bif r1 then some ((0,0,([]:Qq9)),4)else((Itr.it (oz a b) (ac ((if(b.length:Int)>(a.length:Int)then(b.length:Int)else(a.length:Int))-1)):Option (Unit⊕(fg×Int)))).bind λd=>
  match d with
  |.inl _=>some ((0,0,([]:Qq9)),6)
  |.inr c=>some c
def lG(b:Qq7)(f:Qq7)(a:Int):Option Bool:= (bQ b a).bind λr1=>(bif((uu 118 r1).isSome)then bQ b a else some (none:Option Qq9)).bind λc=>(bif((uu 118 r1).isSome)then bQ f a else some (none:Option Qq9)).bind λd=>(bif((uu 118 r1).isSome)then gv c d else some false).bind λe=>some (bif(uu 118 r1).isSome then e else false)
def iA(a:fg)(d:Qq7)(e:Qq7):Option (fg×Int):=
 let b:=a.2.1
 (oN d e).bind λr1=>bif r1 then some ((0,0,([]:Qq9)),4)else(bif(!(decide (a.1<(-1:Int))))&&(decide (0<=a.1))then lG d e a.1 else some false).bind λc=>(bif !(bif bif decide (a.1<(-1:Int))then true else bif decide (0<=a.1)then !c else false then true else decide (b<=a.1))then bQ d b else some (none:Option Qq9)).bind λg=>(bif !(bif bif decide (a.1<(-1:Int))then true else bif decide (0<=a.1)then !c else false then true else decide (b<=a.1))then bQ e b else some (none:Option Qq9)).bind λh=>(bif !(bif bif decide (a.1<(-1:Int))then true else bif decide (0<=a.1)then !c else false then true else decide (b<=a.1))then gv g h else some false).bind λi=>bif bif bif bif decide (a.1<(-1:Int))then true else bif decide (0<=a.1)then !c else false then true else decide (b<=a.1)then true else i then some ((0,0,([]:Qq9)),1)else bif b==(ac (a.1+1))then some ((0,0,([]:Qq9)),8)else af (!((2:Int)==0)) ((cD a.2.2).bind λf=>af (aN f.length ([ac (a.1+(ac (Int.tdiv (ac (b-a.1)) (2:Int))))]:Qq9).length 8) ((((lG d e (ac (a.1+(ac (Int.tdiv (ac (b-a.1)) (2:Int)))))).bind λj=>bif j then some (ac (a.1+(ac (Int.tdiv (ac (b-a.1)) (2:Int)))),b,f++([ac (a.1+(ac (Int.tdiv (ac (b-a.1)) (2:Int))))]:Qq9))else some (a.1,ac (a.1+(ac (Int.tdiv (ac (b-a.1)) (2:Int)))),f++([ac (a.1+(ac (Int.tdiv (ac (b-a.1)) (2:Int))))]:Qq9)):Option fg)).bind λk=>some (k,0)))
def oq(c:Qq7)(d:Qq7)(a:fg):Option ((fg)⊕Qq3):= (iA a c d).bind λb=>bif b.2 != 0 then some (.inr (a.1,(a.2.2.length:Int),0))else some (.inl b.1)
def iF(a:Qq7)(b:Qq7):Option Qq3:= (lE a b).bind λr1=>bif r1.2 != 0 then some (0,0,r1.2)else Itr.it (oq a b) r1.1
def oR(a:Int):Option Int:= bif decide (a<1)then some 0 else(sf (IntKind.u64.wrap (ac (a-1)))).bind λr1=>some r1
def gc(b:bN)(a:(Int×Int)):Option (((Int×Int))⊕(Int⊕Int)):= bif decide (a.2<(b.2.2.2.length:Int))then Qz2 (ae b.2.2.2 a.2) λv4=>bif bif bif bif decide (v4<1)then true else decide (16<v4)then true else decide (16<(b.2.2.2.length:Int))then true else decide ((b.2.2.2.length:Int)<2)then some (.inr (.inr 0))else some (.inl (ac (a.1+v4),ac (a.2+1)))else some (.inr (.inl a.1))
def mC(b:bN)(a:(Int×Int)):Option (((Int×Int))⊕(Unit⊕Int)):= bif decide (a.2<(b.2.2.2.length:Int))then Qz2 (ae b.2.2.2 a.2) λv11=>bif decide (a.1<v11)then some (.inr (.inr a.2))else some (.inl (ac (a.1-v11),ac (a.2+1)))else some (.inr (.inl ()))
def ja(e:aJ)(h:bN)(k:Int):Option Int:= ((Itr.it (gc h) (0,0):Option (Int⊕Int))).bind λg=>
 match g with
 | .inl b=> bif b==0 then some 0 else((bif decide (0<=e.2.2.2.2.2.2.2.2.1)then some (ac ((ac (2*e.2.2.2.2.2.2.2.1.1))+1))else some (ac (2*e.2.2.2.2.2.2.2.1.1)):Option Int)).bind λj=>(ph ([k,j]:Qq9)).bind λi=>(lH 15 ([List.map (λn=>UInt8.ofNat n.toNat) i]:Qq4)).bind λa=>af (decide (0<=(0:Int)/\(0:Int)<16)) (af (decide (0<=(0:Int)/\(0:Int)<16)) (af (decide (0<=(16:Int))) (af (decide (0<=(1:Int)/\(1:Int)<16)) (af (decide (0<=(1:Int)/\(1:Int)<16)) (af (decide (0<=(8:Int))) (af (decide (0<=(2:Int)/\(2:Int)<16)) (af (decide (0<=(2:Int)/\(2:Int)<16)) (af (!(b==0)) (((Itr.it (mC h) (Int.tmod (bc .or .i64 (bc .or .i64 (ly .i64 (ac (List.getD a (0:Int).toNat (0:Int))) (16:Int)) (ly .i64 (ac (List.getD a (1:Int).toNat (0:Int))) (8:Int))) (ac (List.getD a (2:Int).toNat (0:Int)))) b,0):Option (Unit⊕Int))).bind λf=>
            match f with
            |.inl _=>some 0
            |.inr c=>some c)))))))))
 |.inr d=>some d
def oP(d:aD)(e:aJ)(a:Y47):Option ((Y47)⊕(Qq5)):= bif decide (a.2<(d.2.2.2.1.length:Int))then Qz2 (ae d.2.2.2.1 a.2) λb=>Qz2 (ae e.2.1 a.2) λc=>af (aN a.1.length ([(b.1,c)]:Qq5).length 24) (some (.inl (a.1++([(b.1,c)]:Qq5),ac (a.2+1))))else some (.inr a.1)
def oV(d:aD)(e:aJ)(a:Y47):Option ((Y47)⊕(Qq5)):=
 let c:=d.2.2.2.2.2.2.1
 bif decide (a.2<(c.length:Int))then Qz2 (ae c a.2) λv11=>Qz2 (ae e.2.2.2.2.1 a.2) λb=>af (aN a.1.length ([(v11,b)]:Qq5).length 24) (some (.inl (a.1++([(v11,b)]:Qq5),ac (a.2+1))))else some (.inr a.1)
def sA(b:aD)(c:aJ):Option Qq5:= (fU b c).bind λr1=>bif r1 != 0 then some ([]:Qq5)else((Itr.it (oP b c) (([]:Qq5),0):Option Qq5)).bind λe=>((Itr.it (oV b c) (e,0):Option Qq5)).bind λd=>(dA (d,0,(d.length:Int))).bind λa=>some a
def qz(a:aA):Option Qq9:= (lH 3 ([a.1,a.2]:Qq4)).bind λr1=>some r1
def qK(a:Qq9)(b:Qq9):Option Qq9:= af (decide (0<=(0:Int)/\(0:Int)<=16/\(16:Int)<=16)) (af (decide (0<=(0:Int)/\(0:Int)<=16/\(16:Int)<=16)) ((lH 4 ([List.map (λn=>UInt8.ofNat n.toNat) (((cT 16 (0:Int) a).take (16:Int).toNat).drop (0:Int).toNat),List.map (λn=>UInt8.ofNat n.toNat) (((cT 16 (0:Int) b).take (16:Int).toNat).drop (0:Int).toNat)]:Qq4)).bind λr1=>some r1))
def ou(b:Int)(c:Int)(a:Int):Option ((Int)⊕(Int)):= bif decide ((ac (2*a))<(ac (c-b)))then some (.inl (ac (a*2)))else some (.inr a)
def lz(a:Int)(c:Int):Option Int:= ((Itr.it (ou a c) 1:Option Int)).bind λb=>some (ac (a+b))
def qf(a:aA):Option Bool:= some (bif decide (65536<(a.1.length:Int))then true else decide (65536<(a.2.length:Int)))
def lJ:Nat->List (List UInt8×List UInt8)->Int->Int->Option Qq9
 |0,_,_,_=>none
 |k+1,l,a,b=>bif ac (b-a)==1 then Qz2 (ae l a) λv=>(qz v).bind λr=>some r else(lz a b).bind λm=>(lJ k l a m).bind λx=>(lJ k l m b).bind λy=>(qK x y).bind λr=>some r
def Ek(a:Int)(b:Int)(c:(List aA)):Option Qq9:= lJ 64 c a b
def nU(a:(List aA)):Option Qq9:= (Ek 0 (a.length:Int) a).bind λr1=>some r1
def je(a:Int)(e:Qq9):Option Qq9:= bif a==0 then(mg 0).bind λr1=>(lH 4 ([List.map (λn=>UInt8.ofNat n.toNat) r1]:Qq4)).bind λb=>some b else(mg a).bind λc=>af (decide (0<=(0:Int)/\(0:Int)<=16/\(16:Int)<=16)) ((lH 4 ([List.map (λn=>UInt8.ofNat n.toNat) c,List.map (λn=>UInt8.ofNat n.toNat) (((cT 16 (0:Int) e).take (16:Int).toNat).drop (0:Int).toNat)]:Qq4)).bind λd=>some d)
def cI(b:(List aA))(a:Int):Option ((Int)⊕(Unit⊕Int)):= bif decide (a<(b.length:Int))then Qz2 (ae b a) λv4=>(qf v4).bind λc=>bif c then some (.inr (.inr a))else some (.inl (ac (a+1)))else some (.inr (.inl ()))
def eP(b:(List aA)):Option Int:= ((Itr.it (cI b) 0:Option (Unit⊕Int))).bind λc=>
 match c with
 |.inl _=>some (-1)
 |.inr a=>some a
def cX(a:(List aA)):Option Bool:= (eP a).bind λr1=>some (decide (0<=r1))
def l9(b:(List aA))(a:Int):Option ((Int)⊕(Unit⊕Int)):= bif decide (a<(b.length:Int))then Qz2 (bif(decide (0<a))then ae b (ac (a-1))else some (([]:Qq8),([]:Qq8))) λc=>Qz2 (bif(decide (0<a))then ae b a else some (([]:Qq8),([]:Qq8))) λd=>bif bif decide (0<a)then !(Op.bytesLess c.1 d.1)else false then some (.inr (.inr 1))else some (.inl (ac (a+1)))else some (.inr (.inl ()))
def jo(a:(List aA)):Option Int:= (bif !(decide (4096<(a.length:Int)))then cX a else some false).bind λr1=>bif bif decide (4096<(a.length:Int))then true else r1 then some 4 else((Itr.it (l9 a) 0:Option (Unit⊕Int))).bind λc=>
  match c with
  |.inl _=>some 0
  |.inr b=>some b
def mf(a:(List aA)):Option (Qq9×Int):= (jo a).bind λr1=>bif r1 != 0 then some ((List.replicate 16 (0:Int)),r1)else bif(a.length:Int)==0 then(je 0 (List.replicate 16 (0:Int))).bind λb=>some (b,0)else(nU a).bind λc=>(je (a.length:Int) c).bind λd=>some (d,0)
def Gk(a:Int):Option Qq8:= af (decide (0<=a)&&decide (a<=9223372036854775807)) (some (sR 20 a.toNat))
def oH(d:(List aJ))(b:vN):Option ((vN)⊕((List aA))):= bif decide (b.2<(d.length:Int))then Qz2 (ae d b.2) λv4=>(fh v4).bind λc=>(Gk (ac (10000+b.2))).bind λa=>af (decide (0<=(1:Int)/\1<=(a.length:Int)/\(a.length:Int)<=a.length)) (af (decide (0<=(0:Int)/\(0:Int)<=16/\(16:Int)<=16)) (af (aN b.1.length ([((a.take (a.length:Int).toNat).drop (1:Int).toNat,List.map (λn=>UInt8.ofNat n.toNat) (((cT 16 (0:Int) c).take (16:Int).toNat).drop (0:Int).toNat))]:List aA).length 32) (some (.inl (b.1++([((a.take (a.length:Int).toNat).drop (1:Int).toNat,List.map (λn=>UInt8.ofNat n.toNat) (((cT 16 (0:Int) c).take (16:Int).toNat).drop (0:Int).toNat))]:List aA),ac (b.2+1))))))else some (.inr b.1)
def xY(a:(List aJ)):Option (Qq9×Int):= bif(a.length:Int)==0 then some ((List.replicate 16 (0:Int)),1)else bif decide (1000<(a.length:Int))then some ((List.replicate 16 (0:Int)),4)else((Itr.it (oH a) (([]:List aA),0):Option (List aA))).bind λc=>(mf c).bind λb=>some b
def rZ(b:Qq9)(a:Int):Option ((Int)⊕(Int)):= Qz2 (bif(decide (0<a))then ae b (ac (a-1))else some (0:Int)) λv4=>bif bif decide (0<a)then v4==0 else false then some (.inl (ac (a-1)))else some (.inr a)
def ya(a:Qq9):Option Qq9:= ((Itr.it (rZ a) (a.length:Int):Option Int)).bind λb=>af (decide (0<=(0:Int)/\0<=b/\b<=a.length)) ((cD ((a.take b.toNat).drop (0:Int).toNat)).bind λc=>some c)
def qM(a:Qq9)(b:Int):Option Int:= bif decide (b<(a.length:Int))then Qz2 (ae a b) λc=>some c else some 0
abbrev xZ(β:Type):Type:=(List aM)×Qq9×Qq7×Qq9×Qq9×Int×Int×Int×Int×Int×Int×Int×Int×Qq8×β
abbrev sxS{β:Type}(s:xZ β):aJ:=(s.1,s.2.1,s.2.2.1,s.2.2.2.1,s.2.2.2.2.1,s.2.2.2.2.2.1,s.2.2.2.2.2.2.1,(s.2.2.2.2.2.2.2.1,s.2.2.2.2.2.2.2.2.1,s.2.2.2.2.2.2.2.2.2.1),s.2.2.2.2.2.2.2.2.2.2.1,s.2.2.2.2.2.2.2.2.2.2.2.1,s.2.2.2.2.2.2.2.2.2.2.2.2.1,s.2.2.2.2.2.2.2.2.2.2.2.2.2.1)
abbrev sxR{β:Type}(s:xZ β):β:=s.2.2.2.2.2.2.2.2.2.2.2.2.2.2
abbrev oF{β:Type}(t:aJ)(x:β):xZ β:=(t.1,t.2.1,t.2.2.1,t.2.2.2.1,t.2.2.2.2.1,t.2.2.2.2.2.1,t.2.2.2.2.2.2.1,t.2.2.2.2.2.2.2.1.1,t.2.2.2.2.2.2.2.1.2.1,t.2.2.2.2.2.2.2.1.2.2,t.2.2.2.2.2.2.2.2.1,t.2.2.2.2.2.2.2.2.2.1,t.2.2.2.2.2.2.2.2.2.2.1,t.2.2.2.2.2.2.2.2.2.2.2,x)
abbrev YS_:Type:=Int×xZ (Qq9×Int)
def kT(a:aD)(b:Qq3)(z:YS_)(i k:Int)(w:Qq9):Option (YS_⊕(Qq9×Int)):= (eN a b (sxS z.2) k).bind λr=>bif r.2.2 != 0 then(bif r.2.2 != 0 then none else some (.inr (w,0)))else some (.inl (i,oF r.1 (w,(sxR z.2).2)))
def qt(b:aD)(c:Qq3)(z:YS_):Option (YS_⊕(Qq9×Int)):=
 let s:=sxS z.2
 let w:=(sxR z.2).1
 bif decide (s.2.2.2.2.2.2.2.2.2.1<0)then(eW b c s).bind λr1=>bif r1.2 != 0 then(bif r1.2 != 0 then none else some (.inr (w,0)))else bif decide (1<(r1.1.2.2.2.length:Int))then(ja s r1.1 (sxR z.2).2).bind λa=>af (aN w.length ([a]:Qq9).length 8) (Qz2 (ae (w++([a]:Qq9)) z.1) λv=>kT b c z (ac (z.1+1)) v (w++([a]:Qq9)))else kT b c z z.1 0 w else some (.inr (w,0))
def uC(a:aD)(b:Qq3)(c:Qq5)(d:Int):Option (Qq9×Int):= (iD a b c).bind λr1=>bif r1.2 != 0 then some (([]:Qq9),r1.2)else Itr.it (qt a b) ((0:Int),oF r1.1 (([]:Qq9),d))
abbrev Ee:Type:=(List (bN×Int))×Qq9×(List (List WP))×Qq5×Qq9
abbrev Bs:Type:=Int×(List aJ)×Int×Qq8×Int×Int×Int×Int×Qq9×Ee
abbrev RR_:Type:=(List aJ)×wv×Int
abbrev XS:wv:=((0,([]:Qq8),0,(0,0,0),([]:Qq9)),[],[],[],[])
def oW(a:aD)(s:aJ)(out:List aJ)(m:Ee):Option RR_:= (ya m.2.2.2.2).bind λw=>bif decide ((m.1.length:Int)<(w.length:Int))then some ([],XS,3)else(sA a s).bind λl=>some (out,((s.2.2.2.2.2.2.2.2.2.1,s.2.2.2.2.2.2.2.2.2.2.2,s.2.2.2.2.2.2.2.2.2.2.1,s.2.2.2.2.2.2.2.1,[]),m.1,m.2.1,m.2.2.1,l),0)
def vr(p:bN)(k:Int)(l:List WP)(m:Ee){R:Type}(K:Ee->Option R):Option R:=
 let K2 (a:List (bN×Int)):Option R:=bif decide (0<=p.2.1)then
   af (aN m.2.1.length ([p.2.1]:Qq9).length 8) (af (aN m.2.2.1.length ([l]:List (List WP)).length 24) (K (a,m.2.1++[p.2.1],m.2.2.1++[l],m.2.2.2)))else K (a,m.2.1,m.2.2.1,m.2.2.2);bif decide (1<(p.2.2.2.length:Int))then af (aN m.1.length ([(p,k)]:List (bN×Int)).length 56) (K2 (m.1++[(p,k)]))else K2 m.1
def vC(a:aD)(s:aJ)(f:Int)(out:List aJ)(m:Ee):Option ((Int×xZ (xZ Bs))⊕RR_):= bif f != 0 then none else af (aN out.length ([s]:List aJ).length 200) ((oW a s (out++[s]) m).map .inr)
def lD(a:aD)(c:Qq3)(s:aJ)(out:List aJ)(b:Bs)(i k:Int)(p:bN):Option ((Int×xZ (xZ Bs))⊕RR_):= (eN a c s k).bind λr=>bif r.2.2 != 0 then vC a s r.2.2 out b.2.2.2.2.2.2.2.2.2 else vr p k r.2.1 b.2.2.2.2.2.2.2.2.2 λm=>some (.inl (i,oF r.1 (oF s (0,out,b.2.2.1,b.2.2.2.1,b.2.2.2.2.1,b.2.2.2.2.2.1,b.2.2.2.2.2.2.1,b.2.2.2.2.2.2.2.1,b.2.2.2.2.2.2.2.2.1,m))))
def mX(a:aD)(c:Qq3)(z:Int×xZ (xZ Bs)):Option ((Int×xZ (xZ Bs))⊕RR_):=
 let s:=sxS z.2
 let b:=sxR (sxR z.2)
 af (aN b.2.1.length ([s]:List aJ).length 200) (bif decide (s.2.2.2.2.2.2.2.2.2.1<0)then(eW a c s).bind λr1=>bif r1.2 != 0 then vC a s r1.2 (b.2.1++[s]) b.2.2.2.2.2.2.2.2.2 else bif decide (1<(r1.1.2.2.2.length:Int))then(qM b.2.2.2.2.2.2.2.2.2.2.2.2.2 z.1).bind λk=>lD a c s (b.2.1++[s]) b (ac (z.1+1)) k r1.1 else lD a c s (b.2.1++[s]) b z.1 0 r1.1 else(oW a s (b.2.1++[s]) b.2.2.2.2.2.2.2.2.2).map .inr)
def wM(a:aD)(b:Qq3)(d:Qq5)(c:Qq9):Option ((List aJ)×wv×Int):= (iD a b d).bind λr1=>bif r1.2 != 0 then some ([],XS,r1.2)else bif decide (160<(c.length:Int))then some ([],XS,4)else Itr.it (mX a b) ((0:Int),oF r1.1 (oF r1.1 (r1.2,[],0,[],0,0,0,0,[],[],[],[],[],c)))
def ym(b:aD)(c:Qq3)(d:Qq5)(e:Qq9):Option (wv×Int):= (wM b c d e).bind λr1=>bif r1.2.2 != 0 then some (((0,([]:Qq8),0,(0,0,0),([]:Qq9)),([]:List (bN×Int)),([]:Qq9),([]:List (List WP)),([]:Qq5)),r1.2.2)else(xY r1.1).bind λa=>bif a.2 != 0 then some (((0,([]:Qq8),0,(0,0,0),([]:Qq9)),([]:List (bN×Int)),([]:Qq9),([]:List (List WP)),([]:Qq5)),a.2)else some (((r1.2.1.1.1,r1.2.1.1.2.1,r1.2.1.1.2.2.1,r1.2.1.1.2.2.2.1,a.1),r1.2.1.2),0)
def ui(a:aD)(b:Qq3)(c:Qq5)(d:Qq9):Option ((List aJ)×Int):= (wM a b c d).bind λr1=>some (r1.1,r1.2.2)
def m7(d:aD)(a:iz):Option (eU×(List aJ)×Int):= (uC d a.2.2.1 ([]:Qq5) a.2.2.2).bind λr1=>bif r1.2 != 0 then some ((0,([]:Qq8),0,(0,0,0),([]:Qq9)),([]:List aJ),r1.2)else(ym d a.2.2.1 ([]:Qq5) r1.1).bind λb=>bif b.2 != 0 then some ((0,([]:Qq8),0,(0,0,0),([]:Qq9)),([]:List aJ),b.2)else(ui d a.2.2.1 ([]:Qq5) r1.1).bind λc=>bif c.2 != 0 then some ((0,([]:Qq8),0,(0,0,0),([]:Qq9)),([]:List aJ),c.2)else some (b.1.1,c.1,0)
def kn(r1:(eU×(List aJ)×Int))(a:Ei):Option ((Ei)⊕(Qq7)):= bif decide (a.1<(r1.2.1.length:Int))then Qz2 (ae r1.2.1 a.1) λc=>(fh c).bind λb=>af (aN a.2.length ([b]:Qq7).length 16) (some (.inl (ac (a.1+1),a.2++([b]:Qq7))))else some (.inr a.2)
def pZ(b:aD)(c:iz):Option (Qq7×(List aJ)×Int):= (m7 b c).bind λr1=>bif r1.2.2 != 0 then some (([]:Qq7),([]:List aJ),r1.2.2)else((Itr.it (kn r1) (0,([]:Qq7)):Option Qq7)).bind λa=>some (a,r1.2.1,0)
def Bd(b:aD)(a:iz)(c:aJ)(i:Int):Option (Option Qq9):= bif decide (i<0)then(iD b a.2.2.1 ([]:Qq5)).bind λr1=>(fh r1.1).bind λe=>some (some e)else(eW b a.2.2.1 c).bind λd=>bif d.2 != 0 then some (none:Option Qq9)else(ja c d.1 a.2.2.2).bind λf=>(eN b a.2.2.1 c f).bind λg=>(fh g.1).bind λh=>some (some h)
def JP(h:aD)(n:iz)(i:aJ)(a:Int)(o:Qq7)(p:Qq7):Option ((List Bool)×Int):= (iD h n.2.2.1 ([]:Qq5)).bind λr1=>bif r1.2 != 0 then some ((List.replicate 2 false),r1.2)else bif bif decide (a<(-1:Int))then true else decide (998<a)then some ((List.replicate 2 false),5)else((bif decide (0<=a)then(fU h i).bind λk=>bif k != 0 then some (.inr ((List.replicate 2 false),k))else(fh i).bind λl=>(bQ o a).bind λq=>(gv q (some l)).bind λf=>(bif !(!f)then bQ p a else some (none:Option Qq9)).bind λr=>(bif !(!f)then gv r (some l)else some false).bind λs=>bif bif !f then true else !s then some (.inr ((List.replicate 2 false),9))else some (.inl ())else some (.inl ()):Option (Unit⊕((List Bool)×Int)))).bind λj=>
   match j with
   |.inl _=>(Bd h n i a).bind λm=>(bQ o (ac (a+1))).bind λb=>(gv b m).bind λc=>(bQ p (ac (a+1))).bind λd=>(gv d m).bind λe=>some ((((List.replicate 2 false).set 0 c).set 1 e),0)
   |.inr g=>some g
def jq  : Option Bool:= (mG ([1,2,3,4,5]:Qq9)).bind λr1=>(mG ([1,2,6,7]:Qq9)).bind λg=>(lE r1 g).bind λh=>(iA h.1 r1 g).bind λl=>(iA l.1 r1 g).bind λi=>(iA i.1 r1 g).bind λm=>(iF r1 g).bind λa=>(mG ([1,2,3,8,5]:Qq9)).bind λn=>(iF r1 n).bind λb=>(iF r1 r1).bind λj=>bif bif bif bif bif bif bif bif bif bif bif h.2 != 0 then true else l.2 != 0 then true else i.2 != 0 then true else a.2.2 != 0 then true else b.2.2 != 0 then true else m.2 != 8 then true else j.2.2 != 6 then true else h.1.1 != (-1:Int)then true else h.1.2.1 != 4 then true else l.1.1 != 1 then true else i.1.2.1 != 2 then some false else(bif(bif bif bif a.1==1 then a.2.1==2 else false then b.1==2 else false then b.2.1==2 else false)then rB i.1.2.2 ([1,2]:Qq9)else some false).bind λc=>(bif(bif bif bif bif a.1==1 then a.2.1==2 else false then b.1==2 else false then b.2.1==2 else false then c else false)then oR 0 else some (0:Int)).bind λd=>(bif(bif bif bif bif bif a.1==1 then a.2.1==2 else false then b.1==2 else false then b.2.1==2 else false then c else false then d==0 else false)then oR 2 else some (0:Int)).bind λe=>(bif(bif bif bif bif bif bif a.1==1 then a.2.1==2 else false then b.1==2 else false then b.2.1==2 else false then c else false then d==0 else false then e==1 else false)then oR 3 else some (0:Int)).bind λf=>(bif(bif bif bif bif bif bif bif a.1==1 then a.2.1==2 else false then b.1==2 else false then b.2.1==2 else false then c else false then d==0 else false then e==1 else false then f==2 else false)then oR 5 else some (0:Int)).bind λk=>some (bif bif bif bif bif bif bif bif a.1==1 then a.2.1==2 else false then b.1==2 else false then b.2.1==2 else false then c else false then d==0 else false then e==1 else false then f==2 else false then k==3 else false)
def jS(d:aD)(a:iz)(b:aJ):Option Qq9:= (eW d a.2.2.1 b).bind λr1=>bif r1.2 != 0 then some ([]:Qq9)else(ja b r1.1 a.2.2.2).bind λc=>some ([c]:Qq9)
def ET(a:fg):Option ((fg)⊕(Qq9)):= bif decide (0<=a.2.1)then af (!((10:Int)==0)) (af (decide (0<=a.2.1/\a.2.1<4)) (af (decide (0<=a.2.1/\a.2.1<4)) (af (!((10:Int)==0)) (some (.inl (ac (Int.tdiv a.1 10),ac (a.2.1-1),bR 4 (0:Int) a.2.2 a.2.1.toNat (IntKind.u8.wrap (ac (48+(Int.tmod a.1 10))))))))))else some (.inr a.2.2)
def kh(b:Int):Option Qq8:= ((Itr.it (ET) (b,3,([]:Qq9)):Option Qq9)).bind λa=>af (decide (0<=(0:Int)/\(0:Int)<=4/\(4:Int)<=4)) (some (List.map (λn=>UInt8.ofNat n.toNat) (((cT 4 (0:Int) a).take (4:Int).toNat).drop (0:Int).toNat)))
def oY(a:aJ):Option Qq8:= (fh a).bind λr1=>af (decide (0<=(0:Int)/\(0:Int)<=16/\(16:Int)<=16)) (some (List.map (λn=>UInt8.ofNat n.toNat) (((cT 16 (0:Int) r1).take (16:Int).toNat).drop (0:Int).toNat)))
def lq(d:(List aJ))(a:vN):Option ((vN)⊕((List aA))):= bif decide (a.2<(d.length:Int))then Qz2 (ae d a.2) λv4=>(kh a.2).bind λb=>(oY v4).bind λc=>af (aN a.1.length ([(b,c)]:List aA).length 32) (some (.inl (a.1++([(b,c)]:List aA),ac (a.2+1))))else some (.inr a.1)
def qN(a:(List aJ)):Option ((List aA)×Int):= bif(a.length:Int)==0 then some (([]:List aA),1)else bif decide (1000<(a.length:Int))then some (([]:List aA),4)else((Itr.it (lq a) (([]:List aA),0):Option (List aA))).bind λb=>some (b,0)
def R9(a:Qq8)(b:Qq8):Option Int:= some (Lib.compareBytes a b)
def oa(a:aA)(b:Qq8):Option Int:= (R9 a.1 b).bind λr1=>some r1
def cE(c:(List aA))(d:Qq8)(a:(Int×Int)):Option (((Int×Int))⊕(Int)):= bif decide (a.1<a.2)then af (decide (0<=(1:Int))) (Qz2 (ae c (ac (dD .u64 (IntKind.u64.wrap (ac (a.1+a.2))) (1:Int)))) λv4=>(oa v4 d).bind λb=>bif decide (b<0)then some (.inl (ac ((ac (dD .u64 (IntKind.u64.wrap (ac (a.1+a.2))) (1:Int)))+1),a.2))else some (.inl (a.1,ac (dD .u64 (IntKind.u64.wrap (ac (a.1+a.2))) (1:Int)))))else some (.inr a.1)
def cW(a:(List aA))(c:Qq8):Option (Int×Bool):= ((Itr.it (cE a c) (0,(a.length:Int)):Option Int)).bind λb=>Qz2 (bif(decide (b<(a.length:Int)))then ae a b else some (([]:Qq8),([]:Qq8))) λe=>(bif(decide (b<(a.length:Int)))then oa e c else some (0:Int)).bind λd=>some (b,bif decide (b<(a.length:Int))then d==0 else false)
def qF(a:(List aA))(b:Qq8):Option Int:= (cW a b).bind λr1=>some r1.1
def jd(a:Qq6):Option ((Qq6)⊕(Qq9)):= bif decide (0<a.1)then af (!((256:Int)==0)) (af (aN a.2.length ([IntKind.u8.wrap (Int.tmod a.1 256)]:Qq9).length 1) (af (!((256:Int)==0)) (some (.inl (ac (Int.tdiv a.1 256),a.2++([IntKind.u8.wrap (Int.tmod a.1 256)]:Qq9))))))else some (.inr a.2)
def mn(f:Int)(d:(Qq9))(a:(Qq9×Int)):Option (((Qq9×Int))⊕(Qq9)):= bif decide (0<=a.2)then((Qz2 (ae d a.2) λc=>((bif decide (f<0)then some (IntKind.u8.wrap (255-c))else some c:Option Int)).bind λb=>af (aN a.1.length ([b]:Qq9).length 1) (some (a.1++([b]:Qq9))):Option Qq9)).bind λe=>some (.inl (e,ac (a.2-1)))else some (.inr a.1)
def kN(b:Int):Option Qq9:= ((bif decide (b<0)then some (ac ((-1:Int)-b))else some b:Option Int)).bind λc=>((Itr.it (jd) (c,([]:Qq9)):Option Qq9)).bind λa=>((bif decide (0<=b)then af (aN ([]:Qq9).length ([IntKind.u8.wrap (ac (128+(a.length:Int)))]:Qq9).length 1) (some (([]:Qq9)++([IntKind.u8.wrap (ac (128+(a.length:Int)))]:Qq9)))else af (aN ([]:Qq9).length ([IntKind.u8.wrap (ac (127-(a.length:Int)))]:Qq9).length 1) (some (([]:Qq9)++([IntKind.u8.wrap (ac (127-(a.length:Int)))]:Qq9))):Option Qq9)).bind λd=>((Itr.it (mn b a) (d,ac ((a.length:Int)-1)):Option Qq9)).bind λe=>some e
def lO(a:Qq8):Option Qq9:= (kN (a.length:Int)).bind λr1=>af (decide (a.length<=maxLen)) (af (aN r1.length (List.map (λb=>(b.toNat:Int)) a).length 1) (some (r1++(List.map (λb=>(b.toNat:Int)) a))))
def ig(c:Qq4)(a:(Qq9×Int)):Option (((Qq9×Int))⊕(Qq9)):= bif decide (a.2<(c.length:Int))then Qz2 (ae c a.2) λv4=>(lO v4).bind λb=>af (aN a.1.length b.length 1) (some (.inl (a.1++b,ac (a.2+1))))else some (.inr a.1)
def lS(b:Int)(c:Qq4):Option Qq9:= ((Itr.it (ig c) (([IntKind.u8.wrap b]:Qq9),0):Option Qq9)).bind λa=>some a
def gP(a:Qq9):Option ((Qq9)⊕(Qq9)):= af (!((64:Int)==0)) (bif(Int.tmod (a.length:Int) (64:Int)) != 56 then af (aN a.length ([0]:Qq9).length 1) (some (.inl (a++([0]:Qq9))))else some (.inr a))
def kg(b:Qq9)(a:(Qq9×Int)):Option (((Qq9×Int))⊕(Qq9)):= bif decide (a.2<8)then af (decide (0<=(ac (56-(ac (8*a.2)))))) (af (aN a.1.length ([IntKind.u8.wrap (dD .u64 (IntKind.u64.wrap (8*(IntKind.u64.wrap (b.length:Int)))) (ac (56-(ac (8*a.2)))))]:Qq9).length 1) (some (.inl (a.1++([IntKind.u8.wrap (dD .u64 (IntKind.u64.wrap (8*(IntKind.u64.wrap (b.length:Int)))) (ac (56-(ac (8*a.2)))))]:Qq9),ac (a.2+1)))))else some (.inr a.1)
def lk(a:Qq9):Option Qq9:= af (aN ([]:Qq9).length a.length 1) (af (aN (([]:Qq9)++a).length ([128]:Qq9).length 1) (((Itr.it (gP) ((([]:Qq9)++a)++([128]:Qq9)):Option Qq9)).bind λb=>((Itr.it (kg a) (b,0):Option Qq9)).bind λc=>some c))
def cv(b:Int)(a:Int):Option Int:= af (decide (0<=a)) (af (decide (0<=(ac (32-a)))) (some (bc .or .u32 (dD .u32 b a) (ly .u32 b (ac (32-a))))))
def ii(b:Qq9)(a:Qq6):Option ((Qq6)⊕(Qq9)):= bif decide (a.1<16)then Qz2 (ae b (ac (4*a.1))) λv4=>af (decide (0<=(24:Int))) (Qz2 (ae b (ac ((ac (4*a.1))+1))) λv6=>af (decide (0<=(16:Int))) (Qz2 (ae b (ac ((ac (4*a.1))+2))) λc=>af (decide (0<=(8:Int))) (Qz2 (ae b (ac ((ac (4*a.1))+3))) λv10=>af (decide (0<=a.1/\a.1<64)) (af (decide (0<=a.1/\a.1<64)) (some (.inl (ac (a.1+1),bR 64 (0:Int) a.2 a.1.toNat (bc .or .u32 (bc .or .u32 (bc .or .u32 (ly .u32 (IntKind.u32.wrap v4) (24:Int)) (ly .u32 (IntKind.u32.wrap v6) (16:Int))) (ly .u32 (IntKind.u32.wrap c) (8:Int))) (IntKind.u32.wrap v10)))))))))else some (.inr a.2)
def gX(a:Qq6):Option ((Qq6)⊕(Qq9)):= bif decide (a.1<64)then af (decide (0<=(ac (a.1-15))/\(ac (a.1-15))<64)) (af (decide (0<=(ac (a.1-15))/\(ac (a.1-15))<64)) ((cv (List.getD a.2 (ac (a.1-15)).toNat (0:Int)) 7).bind λb=>af (decide (0<=(ac (a.1-15))/\(ac (a.1-15))<64)) (af (decide (0<=(ac (a.1-15))/\(ac (a.1-15))<64)) ((cv (List.getD a.2 (ac (a.1-15)).toNat (0:Int)) 18).bind λc=>af (decide (0<=(ac (a.1-15))/\(ac (a.1-15))<64)) (af (decide (0<=(ac (a.1-15))/\(ac (a.1-15))<64)) (af (decide (0<=(3:Int))) (af (decide (0<=(ac (a.1-2))/\(ac (a.1-2))<64)) (af (decide (0<=(ac (a.1-2))/\(ac (a.1-2))<64)) ((cv (List.getD a.2 (ac (a.1-2)).toNat (0:Int)) 17).bind λd=>af (decide (0<=(ac (a.1-2))/\(ac (a.1-2))<64)) (af (decide (0<=(ac (a.1-2))/\(ac (a.1-2))<64)) ((cv (List.getD a.2 (ac (a.1-2)).toNat (0:Int)) 19).bind λe=>af (decide (0<=(ac (a.1-2))/\(ac (a.1-2))<64)) (af (decide (0<=(ac (a.1-2))/\(ac (a.1-2))<64)) (af (decide (0<=(10:Int))) (af (decide (0<=(ac (a.1-16))/\(ac (a.1-16))<64)) (af (decide (0<=(ac (a.1-16))/\(ac (a.1-16))<64)) (af (decide (0<=(ac (a.1-7))/\(ac (a.1-7))<64)) (af (decide (0<=(ac (a.1-7))/\(ac (a.1-7))<64)) (af (decide (0<=a.1/\a.1<64)) (af (decide (0<=a.1/\a.1<64)) (some (.inl (ac (a.1+1),bR 64 (0:Int) a.2 a.1.toNat (IntKind.u32.wrap ((IntKind.u32.wrap ((IntKind.u32.wrap ((List.getD a.2 (ac (a.1-16)).toNat (0:Int))+(bc .xor .u32 (bc .xor .u32 b c) (dD .u32 (List.getD a.2 (ac (a.1-15)).toNat (0:Int)) (3:Int)))))+(List.getD a.2 (ac (a.1-7)).toNat (0:Int))))+(bc .xor .u32 (bc .xor .u32 d e) (dD .u32 (List.getD a.2 (ac (a.1-2)).toNat (0:Int)) (10:Int)))))))))))))))))))))))))))else some (.inr a.2)
def jr(c:Qq9):Option Qq9:= ((Itr.it (ii c) (0,([]:Qq9)):Option Qq9)).bind λb=>((Itr.it (gX) (16,b):Option Qq9)).bind λa=>some a
def gt(k:Qq9)(a:Y51):Option ((Y51)⊕(zC)):=
 let b:=a.2.2.2.2.1
 let e:=a.2.2.2.2.2.1
 let f:=a.2.2.2.2.2.2.1
 let c:=a.2.2.2.2.2.2.2.2
 let g:=a.2.2.2.2.2.2.2.1
 bif decide (c<64)then(cv b 6).bind λl=>(cv b 11).bind λm=>(cv b 25).bind λd=>af (decide (0<=c/\c<64)) ((ae pN c).bind λv11=>af (decide (0<=c/\c<64)) (af (decide (0<=c/\c<64)) ((cv a.1 2).bind λh=>(cv a.1 13).bind λi=>(cv a.1 22).bind λj=>some (.inl (IntKind.u32.wrap ((IntKind.u32.wrap ((IntKind.u32.wrap ((IntKind.u32.wrap ((IntKind.u32.wrap (g+(bc .xor .u32 (bc .xor .u32 l m) d)))+(bc .xor .u32 (bc .and .u32 b e) (bc .and .u32 (bc .xor .u32 b (4294967295:Int)) f))))+v11))+(List.getD k a.2.2.2.2.2.2.2.2.toNat (0:Int))))+(IntKind.u32.wrap ((bc .xor .u32 (bc .xor .u32 h i) j)+(bc .xor .u32 (bc .xor .u32 (bc .and .u32 a.1 a.2.1) (bc .and .u32 a.1 a.2.2.1)) (bc .and .u32 a.2.1 a.2.2.1))))),a.1,a.2.1,a.2.2.1,IntKind.u32.wrap (a.2.2.2.1+(IntKind.u32.wrap ((IntKind.u32.wrap ((IntKind.u32.wrap ((IntKind.u32.wrap (g+(bc .xor .u32 (bc .xor .u32 l m) d)))+(bc .xor .u32 (bc .and .u32 b e) (bc .and .u32 (bc .xor .u32 b (4294967295:Int)) f))))+v11))+(List.getD k a.2.2.2.2.2.2.2.2.toNat (0:Int))))),b,e,f,ac (c+1))))))else some (.inr (a.1,a.2.1,a.2.2.1,a.2.2.2.1,b,e,f,g))
def kY(a:(Qq6))(r1:Qq9):Option Qq9:= af (decide (0<=a.1/\a.1<=(ac (a.1+64))/\(ac (a.1+64))<=r1.length)) ((jr ((r1.take (ac (a.1+64)).toNat).drop a.1.toNat)).bind λc=>af (decide (0<=(0:Int)/\(0:Int)<8)) (af (decide (0<=(0:Int)/\(0:Int)<8)) (af (decide (0<=(1:Int)/\(1:Int)<8)) (af (decide (0<=(1:Int)/\(1:Int)<8)) (af (decide (0<=(2:Int)/\(2:Int)<8)) (af (decide (0<=(2:Int)/\(2:Int)<8)) (af (decide (0<=(3:Int)/\(3:Int)<8)) (af (decide (0<=(3:Int)/\(3:Int)<8)) (af (decide (0<=(4:Int)/\(4:Int)<8)) (af (decide (0<=(4:Int)/\(4:Int)<8)) (af (decide (0<=(5:Int)/\(5:Int)<8)) (af (decide (0<=(5:Int)/\(5:Int)<8)) (af (decide (0<=(6:Int)/\(6:Int)<8)) (af (decide (0<=(6:Int)/\(6:Int)<8)) (af (decide (0<=(7:Int)/\(7:Int)<8)) (af (decide (0<=(7:Int)/\(7:Int)<8)) (((Itr.it (gt c) (List.getD a.2 (0:Int).toNat (0:Int),List.getD a.2 (1:Int).toNat (0:Int),List.getD a.2 (2:Int).toNat (0:Int),List.getD a.2 (3:Int).toNat (0:Int),List.getD a.2 (4:Int).toNat (0:Int),List.getD a.2 (5:Int).toNat (0:Int),List.getD a.2 (6:Int).toNat (0:Int),List.getD a.2 (7:Int).toNat (0:Int),0):Option zC)).bind λb=>af (decide (0<=(0:Int)/\(0:Int)<8)) (af (decide (0<=(0:Int)/\(0:Int)<8)) (af (decide (0<=(1:Int)/\(1:Int)<8)) (af (decide (0<=(1:Int)/\(1:Int)<8)) (af (decide (0<=(2:Int)/\(2:Int)<8)) (af (decide (0<=(2:Int)/\(2:Int)<8)) (af (decide (0<=(3:Int)/\(3:Int)<8)) (af (decide (0<=(3:Int)/\(3:Int)<8)) (af (decide (0<=(4:Int)/\(4:Int)<8)) (af (decide (0<=(4:Int)/\(4:Int)<8)) (af (decide (0<=(5:Int)/\(5:Int)<8)) (af (decide (0<=(5:Int)/\(5:Int)<8)) (af (decide (0<=(6:Int)/\(6:Int)<8)) (af (decide (0<=(6:Int)/\(6:Int)<8)) (af (decide (0<=(7:Int)/\(7:Int)<8)) (af (decide (0<=(7:Int)/\(7:Int)<8)) (some (((((((((List.replicate 8 (0:Int)).set 0 (IntKind.u32.wrap ((List.getD a.2 (0:Int).toNat (0:Int))+b.1))).set 1 (IntKind.u32.wrap ((List.getD a.2 (1:Int).toNat (0:Int))+b.2.1))).set 2 (IntKind.u32.wrap ((List.getD a.2 (2:Int).toNat (0:Int))+b.2.2.1))).set 3 (IntKind.u32.wrap ((List.getD a.2 (3:Int).toNat (0:Int))+b.2.2.2.1))).set 4 (IntKind.u32.wrap ((List.getD a.2 (4:Int).toNat (0:Int))+b.2.2.2.2.1))).set 5 (IntKind.u32.wrap ((List.getD a.2 (5:Int).toNat (0:Int))+b.2.2.2.2.2.1))).set 6 (IntKind.u32.wrap ((List.getD a.2 (6:Int).toNat (0:Int))+b.2.2.2.2.2.2.1))).set 7 (IntKind.u32.wrap ((List.getD a.2 (7:Int).toNat (0:Int))+b.2.2.2.2.2.2.2))))))))))))))))))))))))))))))))))))
def jk(r1:Qq9)(a:Qq6):Option ((Qq6)⊕(Qq9)):= bif decide (a.1<(r1.length:Int))then((kY a r1:Option Qq9)).bind λb=>some (.inl (ac (a.1+64),b))else some (.inr a.2)
def jh(b:(Qq9))(a:Qq6):Option ((Qq6)⊕(Qq9)):= bif decide (a.1<32)then af (!((4:Int)==0)) (af (decide (0<=(ac (Int.tdiv a.1 4))/\(ac (Int.tdiv a.1 4))<8)) (af (decide (0<=(ac (Int.tdiv a.1 4))/\(ac (Int.tdiv a.1 4))<8)) (af (!((4:Int)==0)) (af (decide (0<=(ac (24-(ac (8*(Int.tmod a.1 4))))))) (af (decide (0<=a.1/\a.1<32)) (af (decide (0<=a.1/\a.1<32)) (some (.inl (ac (a.1+1),bR 32 (0:Int) a.2 a.1.toNat (IntKind.u8.wrap (dD .u32 (List.getD b (ac (Int.tdiv a.1 4)).toNat (0:Int)) (ac (24-(ac (8*(Int.tmod a.1 4))))))))))))))))else some (.inr a.2)
def m8(c:Qq9):Option Qq9:= (lk c).bind λr1=>((Itr.it (jk r1) (0,(((((((((List.replicate 8 (0:Int)).set 0 1779033703).set 1 3144134277).set 2 1013904242).set 3 2773480762).set 4 1359893119).set 5 2600822924).set 6 528734635).set 7 1541459225)):Option Qq9)).bind λb=>((Itr.it (jh b) (0,([]:Qq9)):Option Qq9)).bind λa=>some a
def gZ(r1:Qq9)(a:Qq6):Option ((Qq6)⊕(Qq9)):= bif decide (a.1<16)then af (decide (0<=a.1/\a.1<32)) (af (decide (0<=a.1/\a.1<32)) (af (decide (0<=a.1/\a.1<16)) (af (decide (0<=a.1/\a.1<16)) (some (.inl (ac (a.1+1),bR 16 (0:Int) a.2 a.1.toNat (List.getD r1 a.1.toNat (0:Int))))))))else some (.inr a.2)
def gH(b:Qq9):Option Qq9:= (m8 b).bind λr1=>((Itr.it (gZ r1) (0,(List.replicate 16 (0:Int))):Option Qq9)).bind λa=>some a
def fV(a:bE)(c:Int)(d:Qq4):Option (Qq9×bE):= (lS c d).bind λr1=>af (aN a.1.length ([List.map (λn=>UInt8.ofNat n.toNat) r1]:Qq4).length 16) ((gH r1).bind λb=>some (b,(a.1++([List.map (λn=>UInt8.ofNat n.toNat) r1]:Qq4),a.2)))
def lw(b:Int)(a:Int):Option ((Int)⊕(Int)):= bif decide ((ac (2*a))<b)then some (.inl (ac (2*a)))else some (.inr a)
def mw(b:Int):Option Int:= ((Itr.it (lw b) 1:Option Int)).bind λa=>some a
def lx(b:Qq9)(a:(Qq9×Int)):Option (((Qq9×Int))⊕(Qq9)):= bif decide (a.2<16)then af (decide (0<=a.2/\a.2<16)) (af (decide (0<=a.2/\a.2<16)) (af (aN a.1.length ([List.getD b a.2.toNat (0:Int)]:Qq9).length 1) (some (.inl (a.1++([List.getD b a.2.toNat (0:Int)]:Qq9),ac (a.2+1))))))else some (.inr a.1)
def iu(b:Qq9):Option Qq8:= ((Itr.it (lx b) (([]:Qq9),0):Option Qq9)).bind λa=>some (List.map (λn=>UInt8.ofNat n.toNat) a)
def eX(a:bE->(List aA)->Int->Int->Int->Option (Qq9×bE))(b:bE)(f:(List aA))(d:Int)(c:Int)(g:Int):Option (Qq9×bE):= bif bif decide (g<=d)then true else decide ((ac (d+(f.length:Int)))<=c)then bif decide ((b.2.1.length:Int)<=b.2.2.1)then some ((List.replicate 16 (0:Int)),(b.1,b.2.1,b.2.2.1,true))else Qz2 (ae b.2.1 (ac ((ac (b.2.2.1+1))-1))) λn=>some (n,(b.1,b.2.1,ac (b.2.2.1+1),b.2.2.2))else bif(ac (g-c))==1 then Qz2 (ae f (ac (c-d))) λv4=>Qz2 (ae f (ac (c-d))) λv6=>(fV b 3 ([v4.1,v6.2]:Qq4)).bind λm=>some m else(mw (ac (g-c))).bind λk=>(a b f d c (ac (c+k))).bind λl=>(a l.2 f d (ac (c+k)) g).bind λe=>(iu l.1).bind λh=>(iu e.1).bind λi=>(fV e.2 4 ([h,i]:Qq4)).bind λj=>some j
def fB:Nat->bE->(List aA)->Int->Int->Int->Option (Qq9×bE)
 |0=>λ_ _ _ _ _=>none
 |a+1=>eX (fB a)
def mP(a:bE)(b:(List aA))(c:Int)(d:Int)(e:Int):Option (Qq9×bE):=fB 64 a b c d e
def gr(e:bE)(g:(List aA))(h:Int)(a:Int):Option (Qq9×bE):= (kN a).bind λr1=>((bif decide (0<a)then(mP e g h 0 a).bind λb=>(iu b.1).bind λc=>af (aN ([List.map (λn=>UInt8.ofNat n.toNat) r1]:Qq4).length ([c]:Qq4).length 16) (some (([List.map (λn=>UInt8.ofNat n.toNat) r1]:Qq4)++([c]:Qq4),b.2))else some (([List.map (λn=>UInt8.ofNat n.toNat) r1]:Qq4),e):Option Y53)).bind λd=>(fV d.2 4 d.1).bind λf=>some f
def i9(a:Int):Option Qq8:= af (!((1000:Int)==0)) (af (!((10:Int)==0)) (af (!((100:Int)==0)) (af (!((10:Int)==0)) (af (!((10:Int)==0)) (af (!((10:Int)==0)) (af (!((10:Int)==0)) (some (List.map (λn=>UInt8.ofNat n.toNat) ([IntKind.u8.wrap (ac (48+(Int.tmod (ac (Int.tdiv a 1000)) (10:Int)))),IntKind.u8.wrap (ac (48+(Int.tmod (ac (Int.tdiv a 100)) (10:Int)))),IntKind.u8.wrap (ac (48+(Int.tmod (ac (Int.tdiv a 10)) (10:Int)))),IntKind.u8.wrap (ac (48+(Int.tmod a 10)))]:Qq9)))))))))
def jT(r1:(Qq9×bE))(h:(bE))(d:(UW))(e:Qq9)(a:Int):Option ((Int)⊕(Qq7⊕(UW⊕(Unit⊕Bool)))):= bif decide (a<d.2)then Qz2 (ae ((([]:Qq4)++r1.2.1)++h.1) d.2) λb=>Qz2 (ae ((([]:Qq4)++r1.2.1)++h.1) a) λc=>Qz2 (bif(!(b==c))then ae (d.1++([e]:Qq7)) d.2 else some ([]:Qq9)) λf=>Qz2 (bif(!(b==c))then ae (d.1++([e]:Qq7)) a else some ([]:Qq9)) λg=>bif bif !(b==c)then dM 16 f g else false then some (.inr (.inr (.inr (.inr true))))else some (.inl (ac (a+1)))else some (.inr (.inl (d.1++([e]:Qq7))))
def gw(r1:(Qq9×bE))(c:(bE))(a:UW):Option ((UW)⊕(Unit⊕Bool)):= bif decide (a.2<(((([]:Qq4)++r1.2.1)++c.1).length:Int))then((Qz2 (ae ((([]:Qq4)++r1.2.1)++c.1) a.2) λg=>af (decide (g.length<=maxLen)) ((gH (List.map (λb=>(b.toNat:Int)) g)).bind λf=>af (aN a.1.length ([f]:Qq7).length 16) (Itr.it (jT r1 c a f) 0)):Option (Qq7⊕(UW⊕(Unit⊕Bool))))).bind λe=>
  match e with
  |.inl h=>some (.inl (h,ac (a.2+1)))
  |.inr d=>some d else some (.inr (.inl ()))
def nD(e:(List aA))(a:cB):Option Bool:= (gr (([]:Qq4),([]:Qq7),0,false) e 0 (e.length:Int)).bind λr1=>((bif bif bif bif bif decide (0<=a.2.1)then decide (a.2.1<=4096)else false then decide (0<=a.1)else false then decide (a.1<=a.2.1)else false then decide ((a.2.2.1.length:Int)<=(ac (a.2.1-a.1)))else false then(gr (([]:Qq4),a.2.2.2,0,false) a.2.2.1 a.1 a.2.1).bind λf=>some f.2 else some (([]:Qq4),a.2.2.2,0,false):Option bE)).bind λd=>af (aN ([]:Qq4).length r1.2.1.length 16) (af (aN (([]:Qq4)++r1.2.1).length d.1.length 16) (((Itr.it (gw r1 d) (([]:Qq7),0):Option (Unit⊕Bool))).bind λc=>
   match c with
   |.inl _=>some false
   |.inr b=>some b))
def u7(d:Qq7)(a:vN):Option ((vN)⊕((List aA))):= bif decide (a.2<(d.length:Int))then(i9 a.2).bind λb=>Qz2 (ae d a.2) λc=>af (aN a.1.length ([(b,List.map (λn=>UInt8.ofNat n.toNat) (cT 16 (0:Int) c))]:List aA).length 32) (some (.inl (a.1++([(b,List.map (λn=>UInt8.ofNat n.toNat) (cT 16 (0:Int) c))]:List aA),ac (a.2+1))))else some (.inr a.1)
def uJ(c:Qq7)(a:vN):Option ((vN)⊕((List aA))):= bif decide (a.2<(c.length:Int))then(i9 a.2).bind λb=>Qz2 (ae c a.2) λv10=>af (aN a.1.length ([(b,List.map (λn=>UInt8.ofNat n.toNat) (cT 16 (0:Int) v10))]:List aA).length 32) (some (.inl (a.1++([(b,List.map (λn=>UInt8.ofNat n.toNat) (cT 16 (0:Int) v10))]:List aA),ac (a.2+1))))else some (.inr a.1)
def jz(d:Qq7)(e:Qq7):Option Bool:= ((Itr.it (u7 d) (([]:List aA),0):Option (List aA))).bind λc=>((Itr.it (uJ e) (([]:List aA),0):Option (List aA))).bind λb=>(nD c (0,(b.length:Int),b,([]:Qq7))).bind λa=>some a
def fS(a:(List aA)):Option (List aA):= af (aN ([]:List aA).length a.length 32) (some (([]:List aA)++a))
def ji:Nat->List (List UInt8×List UInt8)->Int->Int->Int->Int->(Int×Int×(List (List UInt8×List UInt8))×List Qq9)->Option (Int×Int×(List (List UInt8×List UInt8))×List Qq9)
 |0,_,_,_,_,_,_=>none
 |k+1,l,f,e,a,b,p=>bif bif decide (b<=f)then true else decide (e<=a)then af (decide (0<=a/\a<=b/\b<=l.length)) ((nU ((l.take b.toNat).drop a.toNat)).bind λd=>af (aN p.2.2.2.length ([d]:Qq7).length 16) (some (p.1,p.2.1,p.2.2.1,p.2.2.2++([d]:Qq7))))else bif decide (1<ac (b-a))then(lz a b).bind λm=>(ji k l f e a m p).bind λp=>(ji k l f e m b p).bind λp=>some p else some p
def Er(a:Int)(b:Int)(c:Int)(d:Int)(e:cB)(f:(List aA)):Option cB:= ji 64 f c d a b e
def pp(a:(List aA))(b:Int)(c:Int):Option cB:= af (decide (0<=b/\b<=c/\c<=a.length)) ((fS ((a.take c.toNat).drop b.toNat)).bind λr1=>bif decide (0<(a.length:Int))then(Er 0 (a.length:Int) b c (b,(a.length:Int),r1,([]:Qq7)) a).bind λd=>some d else some (b,(a.length:Int),r1,([]:Qq7)))
def im:Nat->(Int×Int×(List (List UInt8×List UInt8))×List Qq9)->Int->Int->Int->Bool->List Qq9->Option (List Int×Bool×List Qq9)
 |0,_,_,_,_,_,_=>none
 |k+1,p,e,a,b,n,s=>bif !n then some (List.replicate 16 (0:Int),n,s)else bif bif decide (b<=p.1)then true else decide (e<=a)then bif !(decide (0<(s.length:Int)))then some (List.replicate 16 (0:Int),decide (0<(s.length:Int)),s)else Qz2 (ae s 0) λv=>af (decide (0<=(1:Int)/\1<=(s.length:Int)/\(s.length:Int)<=s.length)) (some (v,decide (0<(s.length:Int)),(s.take (s.length:Int).toNat).drop (1:Int).toNat))else bif ac (b-a)==1 then Qz2 (ae p.2.2.1 (ac (a-p.1))) λv=>(qz v).bind λr=>some (r,n,s)else(lz a b).bind λm=>(im k p e a m n s).bind λx=>(im k p e m b x.2.1 x.2.2).bind λy=>(qK x.1 y.1).bind λr=>some (r,y.2.1,y.2.2)
def Eb(a:Int)(b:Int)(c:Bool)(d:cB)(e:Int)(f:Qq7):Option (Qq9×Bool×Qq7):= im 64 d e a b c f
def lP(a:cB)(d:Qq9):Option Bool:=
 let b:=a.2.1
 (bif !(bif bif bif bif decide (b<0)then true else decide (4096<b)then true else decide (a.1<0)then true else decide (b<a.1)then true else decide (b<(ac (a.1+(a.2.2.1.length:Int)))))then jo a.2.2.1 else some (0:Int)).bind λr1=>bif bif bif bif bif bif decide (b<0)then true else decide (4096<b)then true else decide (a.1<0)then true else decide (b<a.1)then true else decide (b<(ac (a.1+(a.2.2.1.length:Int))))then true else r1 != 0 then some false else bif b==0 then(bif((a.2.2.2.length:Int)==0)then je 0 (List.replicate 16 (0:Int))else some ([]:Qq9)).bind λe=>some (bif(a.2.2.2.length:Int)==0 then dM 16 e d else false)else bif(a.2.2.1.length:Int)==0 then some false else(Eb 0 b true a (ac (a.1+(a.2.2.1.length:Int))) a.2.2.2).bind λc=>(bif(bif c.2.1 then(c.2.2.length:Int)==0 else false)then je b c.1 else some ([]:Qq9)).bind λf=>some (bif bif c.2.1 then(c.2.2.length:Int)==0 else false then dM 16 f d else false)
def oT(b:(List aA))(c:Qq8):Option (cB×Int):= (jo b).bind λr1=>bif r1 != 0 then some ((0,0,([]:List aA),([]:Qq7)),r1)else(qF b c).bind λa=>Qz2 (bif(decide (a<(b.length:Int)))then ae b a else some (([]:Qq8),([]:Qq8))) λv4=>bif bif decide (a<(b.length:Int))then v4.1==c else false then(pp b a (ac (a+1))).bind λd=>some (d,0)else(pp b (if(0:Int)>(ac (a-1))then(0:Int)else(ac (a-1))) (if(b.length:Int)<(ac (a+1))then(b.length:Int)else(ac (a+1)))).bind λe=>some (e,0)
def uz(f:aD)(g:iz)(b:Int):Option (gB×Int):= (m7 f g).bind λr1=>bif r1.2.2 != 0 then some ((0,(([]:List aM),([]:Qq9),([]:Qq7),([]:Qq9),([]:Qq9),0,0,(0,0,0),0,0,0,([]:Qq8)),([]:Qq9),(0,0,([]:List aA),([]:Qq7)),(0,0,([]:List aA),([]:Qq7))),r1.2.2)else bif bif decide (b<0)then true else decide ((r1.2.1.length:Int)<=b)then some ((0,(([]:List aM),([]:Qq9),([]:Qq7),([]:Qq9),([]:Qq9),0,0,(0,0,0),0,0,0,([]:Qq8)),([]:Qq9),(0,0,([]:List aA),([]:Qq7)),(0,0,([]:List aA),([]:Qq7))),5)else(qN r1.2.1).bind λc=>bif c.2 != 0 then some ((0,(([]:List aM),([]:Qq9),([]:Qq7),([]:Qq9),([]:Qq9),0,0,(0,0,0),0,0,0,([]:Qq8)),([]:Qq9),(0,0,([]:List aA),([]:Qq7)),(0,0,([]:List aA),([]:Qq7))),c.2)else Qz2 (ae r1.2.1 b) λv4=>Qz2 (ae r1.2.1 b) λv6=>(jS f g v6).bind λh=>(kh b).bind λi=>(oT c.1 i).bind λe=>bif e.2 != 0 then some ((0,(([]:List aM),([]:Qq9),([]:Qq7),([]:Qq9),([]:Qq9),0,0,(0,0,0),0,0,0,([]:Qq8)),([]:Qq9),(0,0,([]:List aA),([]:Qq7)),(0,0,([]:List aA),([]:Qq7))),e.2)else(kh (ac (b+1))).bind λd=>(oT c.1 d).bind λa=>bif a.2 != 0 then some ((0,(([]:List aM),([]:Qq9),([]:Qq7),([]:Qq9),([]:Qq9),0,0,(0,0,0),0,0,0,([]:Qq8)),([]:Qq9),(0,0,([]:List aA),([]:Qq7)),(0,0,([]:List aA),([]:Qq7))),a.2)else some ((b,v4,h,e.1,a.1),0)
def oB(a:gB):Option Bool:= some (decide (0<=a.2.1.2.2.2.2.2.2.2.2.2.1))
def ij(e:Qq9)(d:Qq8)(c:cB):Option (Qq8×Bool×Int):=
 let a:=c.2.2.1
 (lP c e).bind λr1=>bif !r1 then some (([]:Qq8),false,17)else(qF a d).bind λb=>Qz2 (bif(decide (b<(a.length:Int)))then ae a b else some (([]:Qq8),([]:Qq8))) λv4=>bif bif decide (b<(a.length:Int))then v4.1==d else false then Qz2 (ae a b) λv6=>some (v6.2,true,0)else bif bif bif decide (0<b)then true else c.1==0 then bif decide (b<(a.length:Int))then true else(ac (c.1+(a.length:Int)))==c.2.1 else false then some (([]:Qq8),false,0)else some (([]:Qq8),false,17)
def jJ(c:Int)(d:cB)(e:aJ)(f:eU):Option Bool:= (kh c).bind λr1=>(ij f.2.2.2.2 r1 d).bind λa=>(bif(bif a.2.2==0 then a.2.1 else false)then oY e else some ([]:Qq8)).bind λb=>some (bif bif a.2.2==0 then a.2.1 else false then a.1==b else false)
def oI(a:gB)(b:aD):Option Bool:= (bif(bif decide (0<=a.1)then decide (a.1<=998)else false)then fU b a.2.1 else some (0:Int)).bind λr1=>some (bif bif decide (0<=a.1)then decide (a.1<=998)else false then r1==0 else false)
def oG(a:gB)(b:aJ):Option Bool:= (bif !(decide (0<a.1))then sO a.2.1 b else some false).bind λr1=>some (bif decide (0<a.1)then true else r1)
def oA(a:gB)(c:aD)(d:iz):Option Bool:= (jS c d a.2.1).bind λr1=>(dv a.2.2.1 r1).bind λb=>some b
def lL(b:eU)(a:gB):Option Bool:= (jJ a.1 a.2.2.2.1 a.2.1 b).bind λr=>some r
def sN(b:aD)(c:iz)(d:eU)(a:gB):Option Bool:= (oB a).bind λo=>bif o then some true else Qz2 (ae a.2.2.1 0) λv=>(eN b c.2.2.1 a.2.1 v).bind λr=>(bif r.2.2==0 then jJ (ac (a.1+1)) a.2.2.2.2 r.1 d else some false).bind λq=>some (bif r.2.2==0 then q else false)
def sI(b:eU)(a:gB):Option Bool:= (oB a).bind λo=>bif !o then some true else(kh (ac (a.1+1))).bind λk=>(ij b.2.2.2.2 k a.2.2.2.2).bind λm=>some (bif bif bif bif bif m.2.2==0 then !m.2.1 else false then a.2.1.2.2.2.2.2.2.2.2.2.1==b.1 else false then a.2.1.2.2.2.2.2.2.2.2.2.2.2==b.2.1 else false then a.2.1.2.2.2.2.2.2.2.2.2.2.1==b.2.2.1 else false then((a.2.1.2.2.2.2.2.2.2.1.1==b.2.2.2.1.1)&&((a.2.1.2.2.2.2.2.2.2.1.2.1==b.2.2.2.1.2.1)&&((a.2.1.2.2.2.2.2.2.2.1.2.2==b.2.2.2.1.2.2)&&true)))else false)
def i4(c:aD)(d:iz)(e:eU)(a:gB):Option Int:= (iD c d.2.2.1 []).bind λr1=>bif r1.2 != 0 then some r1.2 else(oI a c).bind λb=>bif !b then some 17 else(oG a r1.1).bind λb=>bif !b then some 17 else(lL e a).bind λb=>bif !b then some 17 else(oA a c d).bind λb=>bif !b then some 17 else(sN c d e a).bind λb=>bif !b then some 17 else(sI e a).bind λb=>bif !b then some 17 else some 0
def iI(d:Qq7)(a:vN):Option ((vN)⊕((List aA))):= bif decide (a.2<(d.length:Int))then(i9 a.2).bind λb=>Qz2 (ae d a.2) λc=>af (aN a.1.length ([(b,List.map (λn=>UInt8.ofNat n.toNat) (cT 16 (0:Int) c))]:List aA).length 32) (some (.inl (a.1++([(b,List.map (λn=>UInt8.ofNat n.toNat) (cT 16 (0:Int) c))]:List aA),ac (a.2+1))))else some (.inr a.1)
def jX(c:Qq7):Option (Qq9×Int):= ((Itr.it (iI c) (([]:List aA),0):Option (List aA))).bind λb=>(mf b).bind λa=>some a
def kB(p:Int)(q:Int)(r:Int)(s:Int)(t:Int):Option Bool:= (jC p).bind λr1=>(nu q r).bind λg=>(pZ r1.1 g).bind λc=>(m7 r1.1 g).bind λd=>(jX c.1).bind λe=>bif bif bif bif c.2.2 != 0 then true else d.2.2 != 0 then true else e.2 != 0 then true else !(dM 16 e.1 d.1.2.2.2.2)then some false else(pj c.1).bind λn=>(mA n s t).bind λo=>(qZ o).bind λh=>(iF c.1 h).bind λi=>bif i.2.2 != 0 then(bif(i.2.2==6)then jq else some false).bind λj=>some (bif i.2.2==6 then j else false)else(uz r1.1 g (if(0:Int)>i.1 then(0:Int)else i.1)).bind λb=>(bif !(b.2 != 0)then i4 r1.1 g d.1 b.1 else some (0:Int)).bind λk=>bif bif b.2 != 0 then true else k != 0 then some false else(jX h).bind λa=>(bif(((c.1.length:Int)==(h.length:Int)) && !(a.2 != 0))&&(dM 16 a.1 e.1)then jz c.1 h else some false).bind λl=>bif bif(c.1.length:Int)==(h.length:Int)then bif a.2 != 0 then true else bif dM 16 a.1 e.1 then !l else false else false then some false else(bif !(bif a.2 != 0 then true else dM 16 a.1 e.1)then i4 r1.1 g (d.1.1,d.1.2.1,d.1.2.2.1,d.1.2.2.2.1,a.1) b.1 else some (0:Int)).bind λf=>(bif(bif bif a.2 != 0 then true else dM 16 a.1 e.1 then true else f==17)then jq else some false).bind λm=>some (bif bif bif a.2 != 0 then true else dM 16 a.1 e.1 then true else f==17 then m else false)
end Go.Proofs.YtgghcmbaidihjaaGreatDoor
