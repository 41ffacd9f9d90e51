/- Laws for the row. No condition. -/
import Derived.Test.YtfhhiajfciblbaaGreatDoorCtC
namespace Go.Proofs.YtfhhiajfciblbaaGreatDoor
open Go.Sm
set_option maxRecDepth 100000
set_option linter.unusedSectionVars false
section
variable [Itr] [SortLaw]
def aps:An:=Qq1 15 (.j ⟨[8,12,16],[],[(12,c15)],[15]⟩ true (.s .z (.u (.l ⟨[8,12,15,16],[(18,.lf (.sc pi))],[(12,c15)],[]⟩ .z))) (.s .z (.s (.k [16] [] []) .z)))
def U6:Ctr:=⟨⟨[.d bB,.d fP,.d br,.d (.sc pi)],[br,(.slice aQ),(.sc pi)],3,[],[⟨some 1870727804774333205280220053689557385530553472647298,false,false⟩,⟨some 3,false,false⟩,⟨some 360314358468706326,false,false⟩,⟨some 3,false,false⟩,⟨some 3,false,false⟩,⟨some 149,false,false⟩]⟩,λx=>eG x.1 x.2.1 x.2.2.1 x.2.2.2⟩
def ae8:Cx:=aD acC 25 U6
theorem Sv:Qq0 ae8:=am QC (Qq2 QC Tryz.func25 (by kernel_rfl) aps (λx=>by kernel_rfl) rfl)
def aoX:An:=.z
def S9:Ctr:=⟨⟨[.d bB,.d fP,.d br],[nL,(.sc pi)],2,[],[⟨some 3,false,false⟩]⟩,λx=>iH x.1 x.2.1 x.2.2⟩
def acE:Cx:=aD ae8 20 S9
theorem R0:Qq0 acE:=am Sv (Qq2 Sv Tryz.func20 (by kernel_rfl) aoX (λx=>by kernel_rfl) rfl)
def apQ:An:=.s .z (.j ⟨[1],[(0,.lf (.sc pi))],[],[]⟩ true .z .z)
def Tw:Ctr:=⟨⟨[.d (.sc pi),.d (.sc pi)],[(.sc pi)],1,[],[]⟩,λx=>cK x.1 x.2⟩
def afp:Cx:=aD acE 11 Tw
theorem Qq:Qq0 afp:=am R0 (Qq2 R0 Tryz.func11 (by kernel_rfl) apQ (λx=>by kernel_rfl) rfl)
def aoF:An:=.z
def Xm:Ctr:=⟨⟨[.d (.slice (.sc pi)),.d (.sc pi),.d (.sc pi)],[(.sc pi)],1,[],[]⟩,λx=>iB x.1 x.2.1 x.2.2⟩
def ab9:Cx:=aD afp 23 Xm
theorem QE:Qq0 ab9:=am Qq (Qq2 Qq Tryz.func23 (by kernel_rfl) aoF (λx=>by kernel_rfl) rfl)
def aqR:An:=.s .z (.s .z (.j ⟨[10,11,3,4,5,6],[],[(11,c25)],[]⟩ false (.s .z (.u (.l ⟨[3,4,5,6,10,11],[(13,.lf (.sc pi))],[(11,c25)],[]⟩ .z))) .z))
def Tf:Ctr:=⟨⟨[.d bB,.d fP,.d (.slice aB),.d (.slice (.sc pi)),.d (.sc pi)],[br],1,[],[⟨some 1870727804774333205280220053689557385530553472647298,false,false⟩,⟨some 3,false,false⟩,⟨some 360314358468706326,false,false⟩,⟨some 3,false,false⟩,⟨some 3,false,false⟩]⟩,λx=>kz x.1 x.2.1 x.2.2.1 x.2.2.2.1 x.2.2.2.2⟩
def af4:Cx:=aD ab9 28 Tf
theorem QW:Qq0 af4:=am QE (Qq2 QE Tryz.func28 (by kernel_rfl) aqR (λx=>by kernel_rfl) rfl)
def aid:An:=.z
def J0:Ctr:=⟨⟨[],[oc],1,[],[]⟩,λ_=>yE⟩
def U0:Cx:=aD af4 138 J0
theorem Le:Qq0 U0:=am QW (Qq2 QW Tryz.func138 (by kernel_rfl) aid (λx=>by kernel_rfl) rfl)
def ahn:An:=.z
def Iw:Ctr:=⟨⟨[.d (.sc (.int .u32)),.d (.sc pi)],[(.sc (.int .u32))],1,[],[]⟩,λx=>bV x.1 x.2⟩
def UR:Cx:=aD U0 248 Iw
theorem MC:Qq0 UR:=am Le (Qq2 Le Tryz.func248 (by kernel_rfl) ahn (λx=>by kernel_rfl) rfl)
def agU:An:=.s .z (.s .z (.j ⟨[2,3,0],[],[(3,[.ar 64 (.int .u32)])],[]⟩ true (.s .z (.u (.l ⟨[0,2,3],[(11,.lf (.sc pi))],[(3,[.ar 64 (.int .u32)])],[]⟩ (.s .z (.s .z (.j ⟨[0,2,3,11],[],[(3,[.ar 64 (.int .u32)])],[]⟩ true (.u (.s .z (.s (.s .z (.s (.j ⟨[0,2,3,11,4],[],[(3,[.ar 64 (.int .u32)])],[]⟩ true (.s .z (.u (.l ⟨[0,2,3,4,11,22,23],[(24,.lf (.sc pi))],[(3,[.ar 64 (.int .u32)])],[]⟩ .z))) .z) .z)) .z))) .z)))))) .z))
def IN:Ctr:=⟨⟨[.d (.slice (.sc (.int .u8)))],[(.arr 64 (.int .u32))],1,[],[]⟩,λx=>oo x⟩
def Xq:Cx:=aD UR 223 IN
theorem NI:Qq0 Xq:=am MC (Qq2 MC Tryz.func223 (by kernel_rfl) agU (λx=>by kernel_rfl) rfl)
def ahl:An:=.z
def Kw:Ctr:=⟨⟨[.d (.sc (.int .u32)),.d (.sc pi),.d (.sc pi),.d (.sc pi)],[(.sc (.int .u32))],1,[],[]⟩,λx=>qU x.1 x.2.1 x.2.2.1 x.2.2.2⟩
def Xp:Cx:=aD Xq 224 Kw
theorem La:Qq0 Xp:=am NI (Qq2 NI Tryz.func224 (by kernel_rfl) ahl (λx=>by kernel_rfl) rfl)
def ajM:An:=Qq1 3 (.j ⟨[2,4,6,7,5],[],[(6,[.ar 4 (.int .u32)]),(7,[.ar 4 (.int .u32)])],[]⟩ true (.s .z (.u (.l ⟨[2,4,5,6,7,21],[(22,.lf (.sc pi))],[(6,[.ar 4 (.int .u32)]),(7,[.ar 4 (.int .u32)])],[]⟩ .z))) (.j ⟨[2,4,6,7],[],[(2,[.ar 8 (.int .u32)])],[]⟩ true (.s .z (.u (.l ⟨[2,4,6,7],[(94,.lf (.sc pi))],[(2,[.ar 8 (.int .u32)])],[]⟩ .z))) .z))
def Il:Ctr:=⟨⟨[.d (.arr 8 (.int .u32)),.d (.slice (.sc (.int .u8)))],[(.arr 8 (.int .u32))],1,[],[]⟩,λx=>lX x.1 x.2⟩
def VG:Cx:=aD Xp 179 Il
theorem O4:Qq0 VG:=am La (Qq2 La Tryz.func179 (by kernel_rfl) ajM (λx=>by kernel_rfl) rfl)
def ajj:An:=.s .z (.j ⟨[2,4],[],[(2,[.ar 8 (.int .u32),.ar 64 (.int .u8),.sc (.int .u64)])],[1]⟩ true (.u (.l ⟨[2,4],[(1,.lf (.sc .str))],[(2,[.ar 8 (.int .u32),.ar 64 (.int .u8),.sc (.int .u64)])],[]⟩ .z)) .z)
def Jg:Ctr:=⟨⟨[.d oc,.d (.sc .str)],[oc],1,[],[]⟩,λx=>j7 x.1 x.2⟩
def Te:Cx:=aD VG 139 Jg
theorem M4:Qq0 Te:=am O4 (Qq2 O4 Tryz.func139 (by kernel_rfl) ajj (λx=>by kernel_rfl) rfl)
def ai1:An:=.s .z (.u (.s .z (.j ⟨[0],[(3,.lf (.sc (.int .u64))),(4,.lf (.sc (.int .u8)))],[],[]⟩ true .z (.s .z (.s .z (.j ⟨[3,4],[(5,.lf (.sc pi))],[],[]⟩ true (.u (.l ⟨[3,4],[(5,.lf (.sc pi))],[],[]⟩ .z)) (.s .z (.j ⟨[3,4,5],[(6,.lf (.own (.sc (.int .u8)) 5 false []))],[],[]⟩ true (.s .z (.u (.l ⟨[3,4],[(6,.lf (.own (.sc (.int .u8)) 5 false [])),(7,.lf (.sc pi))],[],[]⟩ .z))) .z))))))))
def Ki:Ctr:=⟨⟨[.d (.sc pi)],[(.slice (.sc (.int .u8)))],1,[],[⟨some 5,false,false⟩]⟩,λx=>pd x⟩
def Vv:Cx:=aD Te 134 Ki
theorem KR:Qq0 Vv:=am M4 (Qq2 M4 Tryz.func134 (by kernel_rfl) ai1 (λx=>by kernel_rfl) rfl)
def aj6:An:=.z
def H9:Ctr:=⟨⟨[.d (.sc .str)],[(.slice (.sc (.int .u8)))],1,[],[⟨some 5,false,false⟩]⟩,λx=>sj x⟩
def Xh:Cx:=aD Vv 135 H9
theorem Ps:Qq0 Xh:=am KR (Qq2 KR Tryz.func135 (by kernel_rfl) aj6 (λx=>by kernel_rfl) rfl)
def ahG:An:=Qq1 3 (.j ⟨[1,2,3],[(4,.lf (.own (.sc (.int .u8)) 5 false []))],[],[]⟩ true (.u (.l ⟨[1,2,3],[(4,.lf (.own (.sc (.int .u8)) 5 false []))],[],[]⟩ .z)) (.j ⟨[1,2,3],[(4,.lf (.own (.sc (.int .u8)) 5 false []))],[],[]⟩ true (.s .z (.u (.l ⟨[1,2,3],[(4,.lf (.own (.sc (.int .u8)) 5 false [])),(23,.lf (.sc pi))],[],[]⟩ .z))) (.s .z (.s .z (.j ⟨[2,6,1],[],[(6,[.ar 32 (.int .u8)])],[]⟩ true (.s .z (.u (.l ⟨[1,2,6],[(40,.lf (.sc pi))],[(6,[.ar 32 (.int .u8)])],[]⟩ .z))) .z)))))
def I1:Ctr:=⟨⟨[.d oc],[(.arr 32 (.int .u8))],1,[],[]⟩,λx=>oG x⟩
def XM:Cx:=aD Xh 140 I1
theorem Ma:Qq0 XM:=am Ps (Qq2 Ps Tryz.func140 (by kernel_rfl) ahG (λx=>by kernel_rfl) rfl)
def aot:An:=.s .z (.s .z (.j ⟨[4,5,1],[],[(5,[.ar 8 (.int .u32),.ar 64 (.int .u8),.sc (.int .u64)])],[]⟩ true (.s .z (.u (.l ⟨[4,5,15,16],[(17,.lf (.sc pi))],[(5,[.ar 8 (.int .u32),.ar 64 (.int .u8),.sc (.int .u64)])],[]⟩ .z))) .z))
def Uc:Ctr:=⟨⟨[.d (.sc pi),.d (.slice (.sc .str))],[(.arr 16 (.int .u8))],1,[],[]⟩,λx=>B3 x.1 x.2⟩
def adG:Cx:=aD XM 79 Uc
theorem QR:Qq0 adG:=am Ma (Qq2 Ma Tryz.func79 (by kernel_rfl) aot (λx=>by kernel_rfl) rfl)
def agE:An:=.s .z (.s .z (.j ⟨[0],[(3,.lf (.sc pi))],[],[]⟩ true .z (.s .z (.j ⟨[0],[(4,.lf (.own (.sc (.int .u8)) 5 false []))],[],[3]⟩ true (.u (.l ⟨[0],[(3,.lf (.sc pi)),(4,.lf (.own (.sc (.int .u8)) 5 false []))],[],[]⟩ .z)) (.s .z (.s .z (.j ⟨[0,4,5],[(6,.lf (.own (.sc (.int .u8)) 5 false []))],[],[]⟩ true .z (.j ⟨[0,5],[(6,.lf (.own (.sc (.int .u8)) 5 false []))],[],[4]⟩ true (.s .z (.u (.l ⟨[0,4],[(6,.lf (.own (.sc (.int .u8)) 5 false [])),(7,.lf (.sc pi))],[],[]⟩ (.s .z (.j ⟨[0,4,7],[(6,.lf (.own (.sc (.int .u8)) 5 false []))],[],[]⟩ true (.u (.s .z (.j ⟨[0,4,6,7],[(8,.lf (.sc (.int .u8)))],[],[]⟩ true .z .z))) .z))))) .z))))))))
def IY:Ctr:=⟨⟨[.d (.sc pi)],[(.slice (.sc (.int .u8)))],1,[],[⟨some 5,false,false⟩]⟩,λx=>fO x⟩
def WK:Cx:=aD adG 136 IY
theorem Ok:Qq0 WK:=am QR (Qq2 QR Tryz.func136 (by kernel_rfl) agE (λx=>by kernel_rfl) rfl)
def agG:An:=.z
def Ie:Ctr:=⟨⟨[.d (.sc .str)],[(.slice (.sc (.int .u8)))],1,[],[⟨some 5,false,false⟩]⟩,λx=>jH x⟩
def Wi:Cx:=aD WK 137 Ie
theorem Ol:Qq0 Wi:=am Ok (Qq2 Ok Tryz.func137 (by kernel_rfl) agG (λx=>by kernel_rfl) rfl)
def ahO:An:=.s .z (.s .z (.j ⟨[1],[(5,.lf (.own (.sc (.int .u8)) 5 false []))],[],[]⟩ true (.s .z (.u (.l ⟨[1],[(5,.lf (.own (.sc (.int .u8)) 5 false [])),(6,.lf (.sc pi))],[],[]⟩ .z))) .z))
def Kf:Ctr:=⟨⟨[.d (.sc pi),.d (.slice (.sc .str))],[(.slice (.sc (.int .u8)))],1,[],[⟨some 5,false,false⟩]⟩,λx=>pv x.1 x.2⟩
def Wv:Cx:=aD Wi 142 Kf
theorem OI:Qq0 Wv:=am Ol (Qq2 Ol Tryz.func142 (by kernel_rfl) ahO (λx=>by kernel_rfl) rfl)
def ai9:An:=Qq1 3 (.j ⟨[0],[(3,.lf (.own (.sc (.int .u8)) 5 false []))],[],[]⟩ true (.u (.l ⟨[0],[(3,.lf (.own (.sc (.int .u8)) 5 false []))],[],[]⟩ .z)) (.s .z (.j ⟨[4],[(3,.lf (.own (.sc (.int .u8)) 5 false []))],[],[]⟩ true (.s .z (.u (.l ⟨[4],[(3,.lf (.own (.sc (.int .u8)) 5 false [])),(5,.lf (.sc pi))],[],[]⟩ .z))) .z)))
def Ii:Ctr:=⟨⟨[.d (.slice (.sc (.int .u8)))],[(.slice (.sc (.int .u8)))],1,[],[⟨some 5,false,false⟩]⟩,λx=>lJ x⟩
def Um:Cx:=aD Wv 225 Ii
theorem Oc:Qq0 Um:=am OI (Qq2 OI Tryz.func225 (by kernel_rfl) ai9 (λx=>by kernel_rfl) rfl)
def ajn:An:=.z
def Ij:Ctr:=⟨⟨[.d (.sc (.int .u32)),.d (.sc pi)],[(.sc (.int .u32))],1,[],[]⟩,λx=>cH x.1 x.2⟩
def Xj:Cx:=aD Um 227 Ij
theorem O7:Qq0 Xj:=am Oc (Qq2 Oc Tryz.func227 (by kernel_rfl) ajn (λx=>by kernel_rfl) rfl)
def ai3:An:=.s .z (.s .z (.j ⟨[2,3,0],[],[(3,[.ar 64 (.int .u32)])],[]⟩ true (.s .z (.u (.l ⟨[0,2,3],[(4,.lf (.sc pi))],[(3,[.ar 64 (.int .u32)])],[]⟩ .z))) (.j ⟨[2,3],[],[(3,[.ar 64 (.int .u32)])],[]⟩ true (.s .z (.u (.l ⟨[2,3],[(5,.lf (.sc pi))],[(3,[.ar 64 (.int .u32)])],[]⟩ .z))) .z)))
def Kt:Ctr:=⟨⟨[.d (.slice (.sc (.int .u8)))],[(.arr 64 (.int .u32))],1,[],[]⟩,λx=>jD x⟩
def Wc:Cx:=aD Xj 226 Kt
theorem MW:Qq0 Wc:=am O7 (Qq2 O7 Tryz.func226 (by kernel_rfl) ai3 (λx=>by kernel_rfl) rfl)
def aiF:An:=Qq1 3 (.j ⟨[2,3],[],[(3,[.ar 8 (.int .u32)])],[4]⟩ true (.s .z (.u (.l ⟨[2,3,4],[(5,.lf (.sc pi))],[(3,[.ar 8 (.int .u32)])],[]⟩ (.s .z (.j ⟨[2,3,4,5],[],[(3,[.ar 8 (.int .u32)])],[]⟩ true (.u (.s .z (.s .z (.j ⟨[2,3,4,5,6],[(7,.lf (.sc (.int .u32))),(8,.lf (.sc (.int .u32))),(9,.lf (.sc (.int .u32))),(10,.lf (.sc (.int .u32))),(11,.lf (.sc (.int .u32))),(12,.lf (.sc (.int .u32))),(13,.lf (.sc (.int .u32))),(14,.lf (.sc (.int .u32)))],[],[]⟩ true (.s .z (.u (.l ⟨[2,3,4,5,6],[(7,.lf (.sc (.int .u32))),(8,.lf (.sc (.int .u32))),(9,.lf (.sc (.int .u32))),(10,.lf (.sc (.int .u32))),(11,.lf (.sc (.int .u32))),(12,.lf (.sc (.int .u32))),(13,.lf (.sc (.int .u32))),(14,.lf (.sc (.int .u32))),(15,.lf (.sc pi))],[],[]⟩ .z))) .z)))) .z))))) (.s .z (.j ⟨[2,18,3],[],[(18,[.ar 32 (.int .u8)])],[]⟩ true (.s .z (.u (.l ⟨[2,3,18],[(19,.lf (.sc pi))],[(18,[.ar 32 (.int .u8)])],[]⟩ .z))) .z)))
def ID:Ctr:=⟨⟨[.d (.slice (.sc (.int .u8)))],[(.arr 32 (.int .u8))],1,[],[]⟩,λx=>nN x⟩
def UE:Cx:=aD Wc 180 ID
theorem KX:Qq0 UE:=am MW (Qq2 MW Tryz.func180 (by kernel_rfl) aiF (λx=>by kernel_rfl) rfl)
def ajQ:An:=Qq1 3 (.j ⟨[2,4,3],[],[(4,[.ar 16 (.int .u8)])],[]⟩ true (.s .z (.u (.l ⟨[2,3,4],[(5,.lf (.sc pi))],[(4,[.ar 16 (.int .u8)])],[]⟩ .z))) .z)
def J9:Ctr:=⟨⟨[.d (.slice (.sc (.int .u8)))],[(.arr 16 (.int .u8))],1,[],[]⟩,λx=>oS x⟩
def Vw:Cx:=aD UE 141 J9
theorem NU:Qq0 Vw:=am KX (Qq2 KX Tryz.func141 (by kernel_rfl) ajQ (λx=>by kernel_rfl) rfl)
def aoM:An:=.z
def UN:Ctr:=⟨⟨[.d (.sc pi),.d (.slice (.sc .str))],[(.arr 16 (.int .u8))],1,[],[]⟩,λx=>oN x.1 x.2⟩
def ab8:Cx:=aD Vw 80 UN
theorem Qj:Qq0 ab8:=am NU (Qq2 NU Tryz.func80 (by kernel_rfl) aoM (λx=>by kernel_rfl) rfl)
def aql:An:=Qq1 4 (.j ⟨[6,7,1,2,8,9],[],[(7,c25)],[]⟩ true (.s .z (.u (.s .z (.s .z (.s .z (.s .z (.s .z (.s .z (.s .z (.s .z (.s .z (.s .z (.s .z (.s .z (.s .z (.s .z (.s .z (.s .z (.s .z (.s (.s .z (.s (.k [2000000] [.ug 7 (some 2) (some 1000000) (.slice (.sc pi)) [3]] [.pa]) .z)) (.s .z (.s .z (.s .z (.s .z (.s .z (.s .z (.s .z (.s .z (.s .z (.s (.s .z (.s (.k [2000000] [.ug 7 (some 0) (some 8) aG [1547425049178923675150188670,3]] [.pa]) .z)) (.s .z (.s (.s .z (.s (.s .z (.k [2000001] [.ug 7 (some 0) (some 8) aG [1547425049178923675150188670,3],.uh 7 0 0 cG [3]] [.pa,.pa])) .z)) (.s .z (.s (.k [2000000] [.ug 7 (some 0) (some 8) aG [1547425049178923675150188670,3]] [.pa]) .z)))))))))))))))))))))))))))))))))) .z)
def WU:Ctr:=⟨⟨[.d br,.d (.sc pi),.d (.sc pi)],[br],1,[],[⟨some 1870727804774333205280220053689557385530553472647298,false,false⟩,⟨some 3,false,false⟩,⟨some 360314358468706326,false,false⟩,⟨some 3,false,false⟩,⟨some 3,false,false⟩]⟩,λx=>ja x.1 x.2.1 x.2.2⟩
def aa8:Cx:=aD ab8 32 WU
theorem RA:Qq0 aa8:=am Qj (Qq2 Qj Tryz.func32 (by kernel_rfl) aql (λx=>by kernel_rfl) rfl)
def anH:An:=.s .z (.s .z (.j ⟨[0,1],[],[],[]⟩ false (.s .z (.u (.l ⟨[0,1],[(5,.lf (.sc pi))],[],[]⟩ .z))) .z))
def Xb:Ctr:=⟨⟨[.d (.slice (.sc (.int .u8))),.d (.slice (.sc (.int .u8)))],[(.sc .bool)],1,[],[]⟩,λx=>mM x.1 x.2⟩
def abo:Cx:=aD aa8 33 Xb
theorem Qg:Qq0 abo:=am RA (Qq2 RA Tryz.func33 (by kernel_rfl) anH (λx=>by kernel_rfl) rfl)
def aph:An:=.s .z (.s .z (.j ⟨[0],[(3,.lf (.own (.sc (.int .u8)) 5 false []))],[],[]⟩ true (.s .z (.u (.l ⟨[9,10],[(3,.lf (.own (.sc (.int .u8)) 5 false [])),(11,.lf (.sc pi))],[],[]⟩ .z))) .z))
def WA:Ctr:=⟨⟨[.d (.slice (.sc pi))],[(.slice (.sc (.int .u8)))],1,[],[⟨some 5,false,false⟩]⟩,λx=>tP x⟩
def agy:Cx:=aD abo 72 WA
theorem Qn:Qq0 agy:=am Qg (Qq2 Qg Tryz.func72 (by kernel_rfl) aph (λx=>by kernel_rfl) rfl)
def aop:An:=.s .z (.s .z (.j ⟨[0],[(3,.lf (.own (.sc (.int .u8)) 5 false []))],[],[]⟩ true (.s .z (.u (.l ⟨[9,10],[(3,.lf (.own (.sc (.int .u8)) 5 false [])),(11,.lf (.sc pi))],[],[]⟩ .z))) .z))
def Xa:Ctr:=⟨⟨[.d (.slice (.sc .str))],[(.slice (.sc (.int .u8)))],1,[],[⟨some 5,false,false⟩]⟩,λx=>se x⟩
def abS:Cx:=aD agy 73 Xa
theorem QG:Qq0 abS:=am Qn (Qq2 Qn Tryz.func73 (by kernel_rfl) aop (λx=>by kernel_rfl) rfl)
def aoZ:An:=.z
def TL:Ctr:=⟨⟨[.d (.slice (.sc pi)),.box true (.slice (.sc (.int .u8))) [some 5]],[(.slice (.sc (.int .u8)))],0,[1],[⟨some 5,false,false⟩]⟩,λx=>dA x.1 x.2⟩
def adZ:Cx:=aD abS 74 TL
theorem Rd:Qq0 adZ:=am QG (Qq2 QG Tryz.func74 (by kernel_rfl) aoZ (λx=>by kernel_rfl) rfl)
def aol:An:=Qq1 4 (.j ⟨[1,3,4],[],[(3,c49)],[]⟩ true (.s .z (.u (.l ⟨[1,3,4,46,47],[(48,.lf (.sc pi))],[(3,c49)],[]⟩ (.s .z (.s .z (.j ⟨[1,3,4,46,47,48],[],[(3,c49)],[]⟩ true (.u (.s .z (.s .z (.j ⟨[1,3,4,6,46,47,48],[],[(3,c49)],[]⟩ true (.s .z (.u (.l ⟨[1,3,4,6,46,47,48,64,65],[(66,.lf (.sc pi))],[(3,c49)],[]⟩ .z))) .z)))) .z)))))) (.s .z (.j ⟨[1,3,4],[],[(3,c49)],[]⟩ true (.s .z (.u (.l ⟨[1,3,4,89,90],[(91,.lf (.sc pi))],[(3,c49)],[]⟩ .z))) .z)))
def TA:Ctr:=⟨⟨[.d cS],[(.slice (.sc (.int .u8)))],1,[],[⟨some 5,false,false⟩]⟩,λx=>jg x⟩
theorem alu:TA.sound Tryz.prog 34:=ai (Cx.wr_ok Rd) aw Tryz.func34 (by kernel_rfl) (an:=aol) (λx=>(by kernel_rfl:TA.fn x=aK adZ.wr Tryz.f34 aol TA.toSig x)) rfl
def afS:Cx:=aD adZ 34 TA
theorem Rb:Qq0 afS:=am Rd alu
def anp:An:=.s .z (.s .z (.j ⟨[0],[(3,.lf (.own (.sc (.int .u8)) 5 false []))],[],[]⟩ true (.s .z (.u (.l ⟨[0],[(3,.lf (.own (.sc (.int .u8)) 5 false [])),(4,.lf (.sc pi))],[],[]⟩ .z))) .z))
def UT:Ctr:=⟨⟨[.d (.slice (.sc pi))],[(.slice (.sc (.int .u8)))],1,[],[⟨some 5,false,false⟩]⟩,λx=>de x⟩
def aeY:Cx:=aD afS 76 UT
theorem QH:Qq0 aeY:=am Rb (Qq2 Rb Tryz.func76 (by kernel_rfl) anp (λx=>by kernel_rfl) rfl)
def apa:An:=.s .z (.s .z (.j ⟨[0],[(3,.lf (.own (.sc (.int .u8)) 5 false []))],[],[]⟩ true (.s .z (.u (.l ⟨[0],[(3,.lf (.own (.sc (.int .u8)) 5 false [])),(4,.lf (.sc pi))],[],[]⟩ .z))) .z))
def V6:Ctr:=⟨⟨[.d (.slice (.sc .str))],[(.slice (.sc (.int .u8)))],1,[],[⟨some 5,false,false⟩]⟩,λx=>kO x⟩
def aer:Cx:=aD aeY 77 V6
theorem Rx:Qq0 aer:=am QH (Qq2 QH Tryz.func77 (by kernel_rfl) apa (λx=>by kernel_rfl) rfl)
def anX:An:=Qq1 3 (.j ⟨[1],[(3,.lf (.own (.sc (.int .u8)) 5 false []))],[],[]⟩ true (.s .z (.u (.l ⟨[1],[(3,.lf (.own (.sc (.int .u8)) 5 false [])),(4,.lf (.sc pi))],[],[]⟩ (.s .z (.j ⟨[1,4],[(3,.lf (.own (.sc (.int .u8)) 5 false []))],[],[]⟩ true (.u (.s .z (.s .z (.j ⟨[1,4,5],[(3,.lf (.own (.sc (.int .u8)) 5 false []))],[],[]⟩ true (.s .z (.u (.l ⟨[1,4,5],[(3,.lf (.own (.sc (.int .u8)) 5 false [])),(6,.lf (.sc pi))],[],[]⟩ .z))) .z)))) .z))))) (.s .z (.j ⟨[1],[(3,.lf (.own (.sc (.int .u8)) 5 false []))],[],[]⟩ true (.s .z (.u (.l ⟨[1],[(3,.lf (.own (.sc (.int .u8)) 5 false [])),(7,.lf (.sc pi))],[],[]⟩ .z))) .z)))
def S4:Ctr:=⟨⟨[.d br],[(.slice (.sc (.int .u8)))],1,[],[⟨some 5,false,false⟩]⟩,λx=>i8 x⟩
def aau:Cx:=aD aer 35 S4
theorem QB:Qq0 aau:=am Rx (Qq2 Rx Tryz.func35 (by kernel_rfl) anX (λx=>by kernel_rfl) rfl)
def ap5:An:=.z
def VP:Ctr:=⟨⟨[.d cS],[(.arr 16 (.int .u8))],1,[],[]⟩,λx=>pO x⟩
def afr:Cx:=aD aau 36 VP
theorem Sz:Qq0 afr:=am QB (Qq2 QB Tryz.func36 (by kernel_rfl) ap5 (λx=>by kernel_rfl) rfl)
def anL:An:=.z
def Ub:Ctr:=⟨⟨[.d br],[(.arr 16 (.int .u8))],1,[],[]⟩,λx=>lE x⟩
def afW:Cx:=aD afr 37 Ub
theorem QS:Qq0 afW:=am Sz (Qq2 Sz Tryz.func37 (by kernel_rfl) anL (λx=>by kernel_rfl) rfl)
def aqN:An:=.s .z (.s .z (.j ⟨[0,1],[],[],[]⟩ false (.s .z (.u (.l ⟨[0,1,12],[(13,.lf (.sc pi))],[],[]⟩ .z))) .z))
def Tr:Ctr:=⟨⟨[.d (.slice (.sc pi)),.d (.slice (.sc pi))],[(.sc .bool)],1,[],[]⟩,λx=>dM x.1 x.2⟩
def af8:Cx:=aD afW 82 Tr
theorem Ry:Qq0 af8:=am QS (Qq2 QS Tryz.func82 (by kernel_rfl) aqN (λx=>by kernel_rfl) rfl)
def ap4:An:=.z
def WP:Ctr:=⟨⟨[.d bX,.d bX],[(.sc .bool)],1,[],[]⟩,λx=>pL x.1 x.2⟩
theorem QN:WP.sound Tryz.prog 81:=Qq2 Ry Tryz.func81 (by kernel_rfl) ap4 (λx=>by kernel_rfl) rfl
def abt:Cx:=aD af8 81 WP
theorem Se:Qq0 abt:=am Ry QN
def aa9:DCtr:=⟨⟨[.d bX,.d bX],[(.sc .bool)],1,[],[]⟩,λf x=>XR f x.1 x.2⟩
theorem amP:DCtr.sound Tryz.prog aa9:=by
 intro f x r h;simp only[aa9,XR]at h;cases hb:Nat.beq f 81;rotate_left
 ·rw[hb]at h;rw[amb hb];exact QN x r h
 rw[hb]at h;cases h
def aoY:An:=.s .z (.s .z (.j ⟨[0,1,2],[],[],[]⟩ false (.s .z (.u (.l ⟨[1,2,15,16],[(17,.lf (.sc pi))],[],[]⟩ .z))) .z))
def Tl:Ctr:=⟨⟨[.d (.slice bX),.d (.slice bX),.d (.sc .fnc)],[(.sc .bool)],1,[],[]⟩,λx=>cr x.1 x.2.1 x.2.2⟩
def akc:Cx:=abP abt aa9 true
theorem abz:Qq0 akc:=Qm Se amP
def afk:Cx:=aD abt 84 Tl
theorem QU:Qq0 afk:=am Se (Qq2 abz Tryz.func84 (by kernel_rfl) aoY (λx=>by kernel_rfl) rfl)
def ao0:An:=.z
def UJ:Ctr:=⟨⟨[.d aV,.d aV,.box false (.sc .fnc) []],[(.sc .bool)],1,[],[]⟩,λx=>pV x.1 x.2.1 x.2.2⟩
def aaC:Cx:=aD afk 83 UJ
theorem Qi:Qq0 aaC:=am QU (Qq2 QU Tryz.func83 (by kernel_rfl) ao0 (λx=>by kernel_rfl) rfl)
def aqQ:An:=.s .z (.s .z (.j ⟨[0,1,2],[],[],[]⟩ false (.s .z (.u (.l ⟨[1,2,15,16],[(17,.lf (.sc pi))],[],[]⟩ .z))) .z))
def Uu:Ctr:=⟨⟨[.d (.slice aV),.d (.slice aV),.clo 83 (.sc .fnc)],[(.sc .bool)],1,[],[]⟩,λx=>cf x.1 x.2.1 x.2.2⟩
def ad6:Cx:=aD aaC 85 Uu
theorem Sq:Qq0 ad6:=am Qi (Qq2 Qi Tryz.func85 (by kernel_rfl) aqQ (λx=>by kernel_rfl) rfl)
def aqw:An:=.s .z (.s .z (.j ⟨[0,1,2],[],[],[]⟩ false (.s .z (.u (.l ⟨[1,2,15,16],[(17,.lf (.sc pi))],[],[]⟩ .z))) .z))
def WI:Ctr:=⟨⟨[.d (.slice (.slice (.sc pi))),.d (.slice (.slice (.sc pi))),.fn 82],[(.sc .bool)],1,[],[]⟩,λx=>gF x.1 x.2.1⟩
def ac8:Cx:=aD ad6 86 WI
theorem Qv:Qq0 ac8:=am Sq (Qq2 Sq Tryz.func86 (by kernel_rfl) aqw (λx=>by kernel_rfl) rfl)
def ap2:An:=.z
def Ur:Ctr:=⟨⟨[.d cS,.d cS],[(.sc .bool)],1,[],[]⟩,λx=>rX x.1 x.2⟩
def abx:Cx:=aD ac8 38 Ur
theorem Qp:Qq0 abx:=am Qv (Qq2 Qv Tryz.func38 (by kernel_rfl) ap2 (λx=>by kernel_rfl) rfl)
def aox:An:=.s .z (.s .z (.j ⟨[0,1],[],[],[]⟩ false (.s .z (.u (.l ⟨[0,1],[(5,.lf (.sc pi))],[],[]⟩ .z))) .z))
def WJ:Ctr:=⟨⟨[.d (.slice (.sc pi)),.d (.slice (.sc pi))],[(.sc .bool)],1,[],[]⟩,λx=>dE x.1 x.2⟩
def adO:Cx:=aD abx 30 WJ
theorem Qk:Qq0 adO:=am Qp (Qq2 Qp Tryz.func30 (by kernel_rfl) aox (λx=>by kernel_rfl) rfl)
def apd:An:=.s .z (.s .z (.j ⟨[2,3],[],[],[]⟩ false (.s .z (.u (.l ⟨[2,3],[(5,.lf (.sc pi))],[],[]⟩ (.s .z (.j ⟨[2,3,5],[],[],[]⟩ false (.u (Qq1 4 (.u (.l ⟨[2,3,5,6,7],[(8,.lf (.sc pi))],[],[]⟩ .z)))) .z))))) (.j ⟨[2,3],[],[],[]⟩ false (.s .z (.u (.l ⟨[2,3],[(9,.lf (.sc pi))],[],[]⟩ .z))) .z)))
def Uj:Ctr:=⟨⟨[.d br,.d br],[(.sc .bool)],1,[],[]⟩,λx=>mI x.1 x.2⟩
def adV:Cx:=aD adO 15 Uj
theorem Sy:Qq0 adV:=am Qk (Qq2 Qk Tryz.func15 (by kernel_rfl) apd (λx=>by kernel_rfl) rfl)
def an9:An:=.z
def ct9:Ctr:=⟨⟨[.d (.sc pi)],[fP],1,[],[]⟩,λx=>lc x⟩
def cx9:Cx:=aD adV 9 ct9
theorem Ym:Qq0 cx9:=am Sy (Qq2 Sy Tryz.func9 (by kernel_rfl) an9 (λx=>by kernel_rfl) rfl)
def ajp:An:=.z
def EO(k_:Nat):Ctr:=⟨⟨[.d (.sc pi)],[(.sc .str)],1,[],[]⟩,λx=>lj k_ x⟩
def ahg:Ctr:=⟨⟨[.d (.sc pi)],[(.sc .str)],1,[],[]⟩,λx=>dO x⟩
theorem Hz:∀k,(EO k).sound Tryz.prog 194
 |0=>λx r h=>by have h1:none=some r:=h;cases h1
 |k+1=>ai (am Ym (Hz k)) aw Tryz.func194 (by kernel_rfl) (an:=ajp) (λx=>(by kernel_rfl:(EO (k+1)).fn x=aK (aD cx9 194 (EO k)) Tryz.f194 ajp (EO (k+1)).toSig x)) rfl
theorem ags:ahg.sound Tryz.prog 194:=Hz 64
def UV:Cx:=aD cx9 194 ahg
theorem Lz:Qq0 UV:=am Ym ags
def ajz:An:=.z
def IX:Ctr:=⟨⟨[.d (.sc pi)],[(.sc .str)],1,[],[]⟩,λx=>dx x⟩
def Uh:Cx:=aD UV 155 IX
theorem LO:Qq0 Uh:=am Lz (Qq2 Lz Tryz.func155 (by kernel_rfl) ajz (λx=>by kernel_rfl) rfl)
def ail:An:=.s .z (.s .z (.j ⟨[1],[(5,.lf (.own (.sc (.int .u8)) 1048581 false []))],[],[]⟩ true (.s .z (.u (.l ⟨[1],[(5,.lf (.own (.sc (.int .u8)) 1048581 false [])),(6,.lf (.sc pi))],[],[]⟩ (.s .z (.j ⟨[1,6],[(5,.lf (.own (.sc (.int .u8)) 1048581 false []))],[],[]⟩ true .z .z))))) .z))
def I0:Ctr:=⟨⟨[.d (.sc .str),.d (.sc pi)],[(.sc .str)],1,[],[]⟩,λx=>sB x.1 x.2⟩
def Un:Cx:=aD Uh 200 I0
theorem KN:Qq0 Un:=am LO (Qq2 LO Tryz.func200 (by kernel_rfl) ail (λx=>by kernel_rfl) rfl)
def ai2:An:=.z
def IF:Ctr:=⟨⟨[.d (.sc .str),.d (.sc .str),.d (.sc pi),.d (.sc .str)],[cC],1,[],[]⟩,λx=>vJ x.1 x.2.1 x.2.2.1 x.2.2.2⟩
def T3:Cx:=aD Un 199 IF
theorem K5:Qq0 T3:=am KN (Qq2 KN Tryz.func199 (by kernel_rfl) ai2 (λx=>by kernel_rfl) rfl)
def aiA:An:=.s .z (.s .z (.j ⟨[0,1],[(5,.lf (.own cC 132 false []))],[],[]⟩ true (.s .z (.u (.l ⟨[0,1],[(5,.lf (.own cC 132 false [])),(6,.lf (.sc pi))],[],[]⟩ .z))) .z))
def IE:Ctr:=⟨⟨[.d (.sc pi),.d (.slice (.arr 3 .str))],[(.slice cC)],1,[],[⟨some 132,false,false⟩]⟩,λx=>cR x.1 x.2⟩
def S5:Cx:=aD T3 154 IE
theorem M6:Qq0 S5:=am K5 (Qq2 K5 Tryz.func154 (by kernel_rfl) aiA (λx=>by kernel_rfl) rfl)
def aik:An:=.z
def Jx:Ctr:=⟨⟨[.d (.sc pi),.d (.sc pi),.d (.sc pi)],[(.slice cC)],1,[],[⟨some 132,false,false⟩]⟩,λx=>cD x.1 x.2.1 x.2.2⟩
def TY:Cx:=aD S5 153 Jx
theorem OK:Qq0 TY:=am M6 (Qq2 M6 Tryz.func153 (by kernel_rfl) aik (λx=>by kernel_rfl) rfl)
def aoT:An:=.s .z (.j ⟨[1,2,0],[],[],[]⟩ false (.s .z (.u (.j ⟨[0,1,2,7],[(8,.lf (.sc .bool))],[],[]⟩ true .z .z))) .z)
def XG:Ctr:=⟨⟨[.d (.sc pi),.d (.sc pi),.d (.sc pi)],[(.slice cC)],1,[],[⟨some 132,false,false⟩]⟩,λx=>cF x.1 x.2.1 x.2.2⟩
def adn:Cx:=aD TY 94 XG
theorem Ss:Qq0 adn:=am OK (Qq2 OK Tryz.func94 (by kernel_rfl) aoT (λx=>by kernel_rfl) rfl)
def an3:An:=.s .z (.s .z (.j ⟨[0,1],[(5,.lf (.own cC 132 false []))],[],[]⟩ true (.s .z (.u (.l ⟨[0,1],[(5,.lf (.own cC 132 false [])),(6,.lf (.sc pi))],[],[]⟩ (.s .z (.j ⟨[0,1,6],[(5,.lf (.own cC 132 false []))],[],[]⟩ true (.u (.s .z (.j ⟨[0,1,5,6],[(7,.lf (.sc pi))],[],[]⟩ true .z .z))) .z))))) .z))
def VO:Ctr:=⟨⟨[.d (.slice cC),.d (.sc pi)],[(.slice cC)],1,[],[⟨some 132,false,false⟩]⟩,λx=>ox x.1 x.2⟩
def aeo:Cx:=aD adn 95 VO
theorem Qy:Qq0 aeo:=am Ss (Qq2 Ss Tryz.func95 (by kernel_rfl) an3 (λx=>by kernel_rfl) rfl)
def an1:An:=Qq1 3 (.j ⟨[0],[(3,.lf (.own cC 132 false []))],[],[4]⟩ true (.s .z (.u (.l ⟨[0],[(3,.lf (.own cC 132 false [])),(4,.lf (.sc .bool)),(5,.lf (.sc pi))],[],[]⟩ (.s .z (.j ⟨[0,5],[(3,.lf (.own cC 132 false [])),(4,.lf (.sc .bool))],[],[]⟩ true .z .z))))) .z)
def Xn:Ctr:=⟨⟨[.d (.slice (.sc pi))],[(.slice cC)],1,[],[⟨some 132,false,false⟩]⟩,λx=>kH x⟩
def abH:Cx:=aD aeo 40 Xn
theorem RX:Qq0 abH:=am Qy (Qq2 Qy Tryz.func40 (by kernel_rfl) an1 (λx=>by kernel_rfl) rfl)
def aim:An:=.z
def Ja:Ctr:=⟨⟨[.d (.sc .str),.d (.sc pi)],[(.sc .bool)],1,[],[]⟩,λx=>i4 x.1 x.2⟩
def S8:Cx:=aD abH 231 Ja
theorem Ll:Qq0 S8:=am RX (Qq2 RX Tryz.func231 (by kernel_rfl) aim (λx=>by kernel_rfl) rfl)
def ahe:An:=.z
def Iv:Ctr:=⟨⟨[.d (.sc .str),.d (.sc pi)],[(.sc .bool)],1,[],[]⟩,λx=>gL x.1 x.2⟩
def SY:Cx:=aD S8 233 Iv
theorem Nk:Qq0 SY:=am Ll (Qq2 Ll Tryz.func233 (by kernel_rfl) ahe (λx=>by kernel_rfl) rfl)
def ajP:An:=Qq1 3 (.j ⟨[1,0],[(5,.lf (.sc pi))],[],[]⟩ true (.u (.l ⟨[0,1],[(5,.lf (.sc pi))],[],[]⟩ .z)) .z)
def Ih:Ctr:=⟨⟨[.d (.sc .str),.d (.sc pi)],[(.sc pi)],1,[],[]⟩,λx=>qg x.1 x.2⟩
def Ti:Cx:=aD SY 232 Ih
theorem Pv:Qq0 Ti:=am Nk (Qq2 Nk Tryz.func232 (by kernel_rfl) ajP (λx=>by kernel_rfl) rfl)
def agH:An:=.s .z (.s .z (.j ⟨[0,3],[],[],[]⟩ false (.s .z (.u (.l ⟨[0,3],[(4,.lf (.sc pi))],[],[]⟩ .z))) .z))
def IB:Ctr:=⟨⟨[.d (.sc (.int .u8))],[(.sc .bool)],1,[],[]⟩,λx=>uB x⟩
def UZ:Cx:=aD Ti 234 IB
theorem NA:Qq0 UZ:=am Pv (Qq2 Pv Tryz.func234 (by kernel_rfl) agH (λx=>by kernel_rfl) rfl)
def ahR:An:=Qq1 3 (.j ⟨[0,1],[],[],[]⟩ false (.s .z (.s (.s .z (.j ⟨[1,0],[(5,.lf (.sc pi))],[],[]⟩ true (.u (.l ⟨[0,1],[(5,.lf (.sc pi))],[],[]⟩ .z)) .z)) .z)) .z)
def JK:Ctr:=⟨⟨[.d (.sc .str),.d (.sc pi)],[(.sc pi)],1,[],[]⟩,λx=>uF x.1 x.2⟩
def Tg:Cx:=aD UZ 186 JK
theorem L7:Qq0 Tg:=am NA (Qq2 NA Tryz.func186 (by kernel_rfl) ahR (λx=>by kernel_rfl) rfl)
def ag8:An:=Qq1 3 (.j ⟨[0],[(4,.lf (.own bo 240 false [])),(5,.lf (.sc pi))],[],[]⟩ false (.u (.l ⟨[0],[(4,.lf (.own bo 240 false [])),(5,.lf (.sc pi))],[],[]⟩ .z)) .z)
def JE:Ctr:=⟨⟨[.d (.sc .str)],[(.slice bo),(.sc pi)],2,[],[⟨some 240,false,false⟩]⟩,λx=>ux x⟩
def SZ:Cx:=aD Tg 146 JE
theorem K9:Qq0 SZ:=am L7 (Qq2 L7 Tryz.func146 (by kernel_rfl) ag8 (λx=>by kernel_rfl) rfl)
def ahI:An:=.z
def IH:Ctr:=⟨⟨[.box false aL []],[(.sc .str)],1,[],[]⟩,λx=>bS x⟩
def XB:Cx:=aD SZ 187 IH
theorem Pk:Qq0 XB:=am K9 (Qq2 K9 Tryz.func187 (by kernel_rfl) ahI (λx=>by kernel_rfl) rfl)
def ahW:An:=.z
def Jf:Ctr:=⟨⟨[],[(.slice (.sc .str))],1,[],[⟨some 9,false,false⟩]⟩,λ_=>i5⟩
def ST:Cx:=aD XB 188 Jf
theorem MX:Qq0 ST:=am Pk (Qq2 Pk Tryz.func188 (by kernel_rfl) ahW (λx=>by kernel_rfl) rfl)
def agR:An:=.z
def agD:Ctr:=⟨⟨[],[(.slice (.sc .str))],1,[],[⟨some 9,false,false⟩]⟩,λ_=>tF⟩
def VH:Cx:=aD ST 249 agD
theorem NO:Qq0 VH:=am MX (Qq2 MX Tryz.func249 (by kernel_rfl) agR (λx=>by kernel_rfl) rfl)
def ahB:An:=.s .z (.j ⟨[0,1],[],[],[]⟩ false (.s .z (.u (.l ⟨[0,1],[(5,.lf (.sc pi))],[],[]⟩ .z))) .z)
def KB:Ctr:=⟨⟨[.d (.slice (.sc .str)),.d (.sc .str)],[(.sc .bool)],1,[],[]⟩,λx=>fk x.1 x.2⟩
def XQ:Cx:=aD VH 183 KB
theorem MK:Qq0 XQ:=am NO (Qq2 NO Tryz.func183 (by kernel_rfl) ahB (λx=>by kernel_rfl) rfl)
def aho:An:=.z
def Jc:Ctr:=⟨⟨[.d (.sc .str)],[(.sc .bool)],1,[],[]⟩,λx=>sD x⟩
def SV:Cx:=aD XQ 235 Jc
theorem KS:Qq0 SV:=am MK (Qq2 MK Tryz.func235 (by kernel_rfl) aho (λx=>by kernel_rfl) rfl)
def ahA:An:=.z
def J6:Ctr:=⟨⟨c50,[(.sc .str),aL],1,[0],[⟨some 240,false,false⟩]⟩,λx=>dh x⟩
def TQ:Cx:=aD SV 189 J6
theorem M2:Qq0 TQ:=am KS (Qq2 KS Tryz.func189 (by kernel_rfl) ahA (λx=>by kernel_rfl) rfl)
def aj7:An:=.z
def Ks:Ctr:=⟨⟨c47,[(.sc .bool),aL],1,[0],[⟨some 240,false,false⟩]⟩,λx=>df x.1 x.2⟩
def UK:Cx:=aD TQ 236 Ks
theorem NE:Qq0 UK:=am M2 (Qq2 M2 Tryz.func236 (by kernel_rfl) aj7 (λx=>by kernel_rfl) rfl)
def aiu:An:=.z
def KD:Ctr:=⟨⟨c47,[aL],0,[0],[⟨some 240,false,false⟩]⟩,λx=>bT x.1 x.2⟩
def Vh:Cx:=aD UK 190 KD
theorem LE:Qq0 Vh:=am NE (Qq2 NE Tryz.func190 (by kernel_rfl) aiu (λx=>by kernel_rfl) rfl)
def aiN:An:=.s .z (.s .z (.j ⟨[0],[(3,.lf (.sc pi))],[],[]⟩ true (.s .z (.u (.l ⟨[0],[(3,.lf (.sc pi)),(4,.lf (.sc pi))],[],[]⟩ .z))) .z))
def Ip:Ctr:=⟨⟨[.d (.sc .str)],[(.sc pi)],1,[],[]⟩,λx=>tS x⟩
def W2:Cx:=aD Vh 237 Ip
theorem Mt:Qq0 W2:=am LE (Qq2 LE Tryz.func237 (by kernel_rfl) aiN (λx=>by kernel_rfl) rfl)
def aiP:An:=.z
def Iz:Ctr:=⟨⟨[.box true aL [some 240],.d (.sc pi),.d (.sc pi)],[(.sc pi),aL],1,[0],[⟨some 240,false,false⟩]⟩,λx=>cM x.1 x.2.1 x.2.2⟩
def Xw:Cx:=aD W2 192 Iz
theorem L9:Qq0 Xw:=am Mt (Qq2 Mt Tryz.func192 (by kernel_rfl) aiP (λx=>by kernel_rfl) rfl)
def aix:An:=.z
def I3:Ctr:=⟨⟨c50,[(.sc pi),aL],1,[0],[⟨some 240,false,false⟩]⟩,λx=>ko x⟩
def VQ:Cx:=aD Xw 191 I3
theorem Pn:Qq0 VQ:=am L9 (Qq2 L9 Tryz.func191 (by kernel_rfl) aix (λx=>by kernel_rfl) rfl)
def agZ:An:=.z
def Kb:Ctr:=⟨⟨c50,[(.sc .str),aL],1,[0],[⟨some 240,false,false⟩]⟩,λx=>dY x⟩
def U2:Cx:=aD VQ 256 Kb
theorem OO:Qq0 U2:=am Pn (Qq2 Pn Tryz.func256 (by kernel_rfl) agZ (λx=>by kernel_rfl) rfl)
def ajC:An:=.s .z (.s .z (.j ⟨[0,2,3],[],[(0,c45),(3,c46)],[]⟩ true (.s .z (.s (.s .z (.k [0,1000000] [] [])) .z)) .z))
def Ke:Ctr:=⟨⟨c50,[bG,aL],1,[0],[⟨some 169,false,true⟩,⟨some 240,false,false⟩]⟩,λx=>kM x⟩
def Bz:Cx:=aD U2 259 Ke
theorem vL:Qq0 Bz:=am OO (Qq2 OO Tryz.func259 (by kernel_rfl) ajC (λx=>by kernel_rfl) rfl)
def ajh:An:=Qq1 4 (.j ⟨[0,2,3],[],[(0,c45)],[4]⟩ false (.s .z (.u (.l ⟨[0,2,3,4],[(5,.lf (.sc pi))],[(0,c45)],[]⟩ (.s .z (.s (.u (.s .z (.s (.s (.k [0,1000000] [] []) .z) .z))) .z))))) .z)
def qq(k_:Nat):Ctr:=⟨⟨c50,[bG,aL],1,[0],[⟨none,false,true⟩,⟨some 240,false,false⟩]⟩,λx=>dy k_ x⟩
def ajq:Ctr:=⟨⟨c50,[bG,aL],1,[0],[⟨none,false,true⟩,⟨some 240,false,false⟩]⟩,λx=>eB x⟩
def aj2:An:=.z
def yp(k:Nat):Ctr:=⟨⟨c50,[bG,aL],1,[0],[⟨none,false,true⟩,⟨some 240,false,false⟩]⟩,λx=>ld (dy k) x⟩
theorem Bi(k:Nat)(h:(qq k).sound Tryz.prog 254):(yp k).sound Tryz.prog 262:=ai (am vL h) aw Tryz.func262 (by kernel_rfl) (an:=aj2) (λx=>(by kernel_rfl:(yp k).fn x=aK (aD Bz 254 (qq k)) Tryz.f262 aj2 (yp k).toSig x)) rfl
def ahX:An:=.s .z (.s .z (.j ⟨[0,2,3],[],[(0,c45),(3,c44)],[]⟩ true (.u (.l ⟨[0,2,3],[],[(0,c45),(3,c44)],[]⟩ (.s .z (.u (.k [0,1000000] [] []))))) .z))
def Au(k:Nat):Ctr:=⟨⟨c50,[bG,aL],1,[0],[⟨none,false,true⟩,⟨some 240,false,false⟩]⟩,λx=>lu (dy k) x⟩
theorem G9(k:Nat)(h:(qq k).sound Tryz.prog 254):(Au k).sound Tryz.prog 261:=ai (am (am vL h) (Bi k h)) aw Tryz.func261 (by kernel_rfl) (an:=ahX) (λx=>(by kernel_rfl:(Au k).fn x=aK (aD (aD Bz 254 (qq k)) 262 (yp k)) Tryz.f261 ahX (Au k).toSig x)) rfl
def aiU:An:=.s .z (.s .z (.j ⟨[0,2,3],[],[(0,c45),(3,c44)],[]⟩ true (.u (.l ⟨[0,2,3],[],[(0,c45),(3,c44)],[]⟩ (.s .z (.u (.s .z (.j ⟨[0,2,3],[(4,.lf (.sc pi))],[],[]⟩ true .z (.s .z (.k [0,1000000] [] [])))))))) .z))
def EV(k:Nat):Ctr:=⟨⟨c50,[bG,aL],1,[0],[⟨none,false,true⟩,⟨some 240,false,false⟩]⟩,λx=>lN (dy k) x⟩
theorem X9(k:Nat)(h:(qq k).sound Tryz.prog 254):(EV k).sound Tryz.prog 258:=ai (am (am (am vL h) (Bi k h)) (G9 k h)) aw Tryz.func258 (by kernel_rfl) (an:=aiU) (λx=>(by kernel_rfl:(EV k).fn x=aK (aD (aD (aD Bz 254 (qq k)) 262 (yp k)) 261 (Au k)) Tryz.f258 aiU (EV k).toSig x)) rfl
theorem tQ:∀k,(qq k).sound Tryz.prog 254
 |0=>λx r h=>by have h1:none=some r:=h;cases h1
 |k+1=>ai (am (am (am (am vL (tQ k)) (Bi k (tQ k))) (G9 k (tQ k))) (X9 k (tQ k))) aw Tryz.func254 (by kernel_rfl) (an:=ajh) (λx=>(by kernel_rfl:(qq (k+1)).fn x=aK (aD (aD (aD (aD Bz 254 (qq k)) 262 (yp k)) 261 (Au k)) 258 (EV k)) Tryz.f254 ajh (qq (k+1)).toSig x)) rfl
theorem ac9:ajq.sound Tryz.prog 254:=tQ 64
def VS:Cx:=aD Bz 254 ajq
theorem Mw:Qq0 VS:=am vL ac9
def ajc:An:=.s .z (.s (.s .z (.s (.s .z (.s .z (.s (.k [0,1000000] [] []) .z))) .z)) (.s .z (.s (.k [0,1000000] [] []) (.s .z (.s (.k [0,1000000] [] []) .z)))))
def Ku:Ctr:=⟨⟨c47,[bG,aL],1,[0],[⟨some 169,false,true⟩,⟨some 240,false,false⟩]⟩,λx=>oj x.1 x.2⟩
def WV:Cx:=aD VS 255 Ku
theorem KU:Qq0 WV:=am Mw (Qq2 Mw Tryz.func255 (by kernel_rfl) ajc (λx=>by kernel_rfl) rfl)
end
end Go.Proofs.YtfhhiajfciblbaaGreatDoor
