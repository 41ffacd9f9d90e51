/- Laws for the row. No condition. -/
import Derived.Test.YtgghcmbaidihjaaGreatDoorCtD
namespace Go.Proofs.YtgghcmbaidihjaaGreatDoor
open Go.Sm
set_option maxRecDepth 100000
set_option linter.unusedSectionVars false
section
variable [Itr] [SortLaw]
section
variable [Yc:GCx]
noncomputable def akM:Cx:=cM Ds 129 (Qe Ds Tryz.f129 .z)
theorem Vu:Qq0 akM:=bz xi (DR xi au Tryz.func129 (by kernel_rfl) (by kernel_rfl) _)
noncomputable def age:Cx:=cM akM 130 (Qe akM Tryz.f130 .z)
theorem T6:Qq0 age:=bz Vu (DR Vu au Tryz.func130 (by kernel_rfl) (by kernel_rfl) _)
noncomputable def avs:Cx:=(cM age 131 (mj age Tryz.f131 .z)).wr
theorem ar5:Qq0 avs:=Cx.wr_ok (bz T6 (fG T6 au Tryz.func131 (by kernel_rfl) (by kernel_rfl) _))
noncomputable def ahl:Cx:=cM Ds 205 (Qe Ds Tryz.f205 .z)
theorem UD:Qq0 ahl:=bz xi (DR xi au Tryz.func205 (by kernel_rfl) (by kernel_rfl) _)
noncomputable def af8:Cx:=cM ahl 207 (Qe ahl Tryz.f207 .z)
theorem Tz:Qq0 af8:=bz UD (DR UD au Tryz.func207 (by kernel_rfl) (by kernel_rfl) _)
noncomputable def atL:Cx:=(cM af8 131 (mj af8 Tryz.f131 .z)).wr
theorem asj:Qq0 atL:=Cx.wr_ok (bz Tz (fG Tz au Tryz.func131 (by kernel_rfl) (by kernel_rfl) _))
end
instance gcx0:GCx:=⟨0,[],λ_ h=>(by cases h),λ_ h=>(by cases h),FD⟩
abbrev ve:Sp:=.sc pi
def spS:List Sp:=[.rep aU true [],.rep (.sc pi) true [],.rep (.slice (.sc pi)) true [],.rep (.sc pi) true [],.rep (.sc pi) true [],ve,ve,ve,ve,ve,ve,ve,ve,.sc .str]
def anA:An:=.s .z (.u (.l ⟨[0,1,2,3,4],[(6,.lf ve)],[(1,spS),(8001152,[.own (.sc pi) 3 false []]),(8000192,[ve])],[]⟩ .z))
noncomputable def cxA:Cx:=Yd avs 204 Tryz.f204 anA
theorem awi:Qq0 cxA:=U4 rfl (λY=>ar5 (Yc:=Y)) au Tryz.func204 (by kernel_rfl) (by kernel_rfl) _
def anB:An:=.s .z (.u (.l ⟨[0,1,2,3,4],[(6,.lf ve)],[(1,spS),(8000896,spS),(8000960,[ve]),(8001856,[.own aX 57 true []]),(8001472,[ve,.sc .str,ve,ve,ve,ve,.ar 16 (.int .u8),.own ux 361 true [],.own (.sc pi) 3 false [],.own (.slice ah) 238 true [],.rep aC true []]),(8000192,[.rep (.sc pi) true []])],[]⟩ .z))
def anK:An:=.s (.k [8,9,10] [] []) .z
def anR:An:=.s .z (.s .z (.s (.s .z (.s anK .z)) (Qq1 4 (.s (.s .z (.u (.s (.s (.k [11,12,15] [] []) .z) (.u (.s (.s .z (.s anK .z)) .z))))) (.s .z (.s .z (.s .z anK)))))))
noncomputable def cxB:Cx:=Yd atL 204 Tryz.f204 anB
theorem atv:Qq0 cxB:=U4 rfl (λY=>asj (Yc:=Y)) au Tryz.func204 (by kernel_rfl) (by kernel_rfl) _
def Zx:Ctr:=⟨⟨[.d bT,.d gM,.d (.slice aC),.d (.sc pi)],[(.slice (.sc pi)),(.sc pi)],2,[],[⟨some 3,false,false⟩]⟩,λx=>uC x.1 x.2.1 x.2.2.1 x.2.2.2⟩
theorem aq8:Zx.sound Tryz.prog 58:=ai awi au Tryz.func58 (by kernel_rfl) (an:=.z) (λx=>(by kernel_rfl:Zx.fn x=aE cxA Tryz.f58 .z Zx.toSig x)) rfl
def auG:Cx:=aB Ds 58 Zx
theorem ap2:Qq0 auG:=aj xi aq8
def Lb:Ctr:=⟨⟨[.d bT,.d gM,.d (.slice aC),.d (.slice (.sc pi))],[(.slice aX),Ah,(.sc pi)],3,[],[⟨none,true,true⟩,⟨none,true,true⟩,⟨none,true,true⟩,⟨none,true,true⟩,⟨none,true,true⟩]⟩,λx=>wM x.1 x.2.1 x.2.2.1 x.2.2.2⟩
def abl:Cx:=aB auG 132 Lb
theorem NL:Qq0 abl:=aj ap2 (Qq2 atv Tryz.func132 (by kernel_rfl) anR (λx=>by kernel_rfl) rfl)
def auU:An:=.z
def Xf:Ctr:=⟨⟨[.d bT,.d gM,.d (.slice aC),.d (.slice (.sc pi))],[Ah,(.sc pi)],2,[],[⟨none,true,true⟩,⟨none,true,true⟩,⟨none,true,true⟩,⟨none,true,true⟩]⟩,λx=>ym x.1 x.2.1 x.2.2.1 x.2.2.2⟩
def ahn:Cx:=aB abl 59 Xf
theorem VO:Qq0 ahn:=aj NL (Qq2 NL Tryz.func59 (by kernel_rfl) auU (λx=>by kernel_rfl) rfl)
def av8:An:=.z
def aai:Ctr:=⟨⟨[.d bT,.d gM,.d (.slice aC),.d (.slice (.sc pi))],[(.slice aX),(.sc pi)],2,[],[⟨none,true,true⟩]⟩,λx=>ui x.1 x.2.1 x.2.2.1 x.2.2.2⟩
def ahh:Cx:=aB ahn 60 aai
theorem UE:Qq0 ahh:=aj VO (Qq2 VO Tryz.func60 (by kernel_rfl) av8 (λx=>by kernel_rfl) rfl)
def atK:An:=.z
def Zg:Ctr:=⟨⟨[.d bT,.d kr],[pv,(.slice aX),(.sc pi)],3,[],[⟨none,true,true⟩]⟩,λx=>m7 x.1 x.2⟩
def ajk:Cx:=aB ahh 22 Zg
theorem TF:Qq0 ajk:=aj UE (Qq2 UE Tryz.func22 (by kernel_rfl) atK (λx=>by kernel_rfl) rfl)
def avY:An:=Qq1 4 (.j ⟨[4,8,10],[],[(10,c33)],[]⟩ true (.s .z (.u (.l ⟨[4,8,10,24,25],[(26,.lf (.sc pi))],[(10,c33)],[]⟩ .z))) .z)
def XX:Ctr:=⟨⟨[.d bT,.d kr],[bu,(.slice aX),(.sc pi)],3,[],[⟨some 32,false,false⟩,⟨none,true,true⟩]⟩,λx=>pZ x.1 x.2⟩
def aea:Cx:=aB ajk 10 XX
theorem U5:Qq0 aea:=aj TF (Qq2 TF Tryz.func10 (by kernel_rfl) avY (λx=>by kernel_rfl) rfl)
def ave:An:=.z
def Yp:Ctr:=⟨⟨[.d bT,.d kr,.d aX,.d (.sc pi)],[(.ext 0)],1,[],[]⟩,λx=>Bd x.1 x.2.1 x.2.2.1 x.2.2.2⟩
def akq:Cx:=aB aea 49 Yp
theorem Vv:Qq0 akq:=aj U5 (Qq2 U5 Tryz.func49 (by kernel_rfl) ave (λx=>by kernel_rfl) rfl)
def awN:An:=Qq1 3 (.j ⟨[3,6,7,8,10,11,12],[],[],[]⟩ false .z .z)
def aa4:Ctr:=⟨⟨[.d bT,.d kr,.d aX,.d (.sc pi),.d bu,.d bu],[(.arr 2 .bool),(.sc pi)],2,[],[]⟩,λx=>JP x.1 x.2.1 x.2.2.1 x.2.2.2.1 x.2.2.2.2.1 x.2.2.2.2.2⟩
def afD:Cx:=aB akq 18 aa4
theorem Va:Qq0 afD:=aj Vv (Qq2 Vv Tryz.func18 (by kernel_rfl) awN (λx=>by kernel_rfl) rfl)
def auN:An:=.z
def V9:Ctr:=⟨⟨[],[(.sc .bool)],1,[],[]⟩,λ_=>jq⟩
def ajV:Cx:=aB afD 21 V9
theorem TJ:Qq0 ajV:=aj Va (Qq2 Va Tryz.func21 (by kernel_rfl) auN (λx=>by kernel_rfl) rfl)
def aut:An:=.z
def XT:Ctr:=⟨⟨[.d bT,.d kr,.d aX],[(.slice (.sc pi))],1,[],[⟨some 3,false,false⟩]⟩,λx=>jS x.1 x.2.1 x.2.2⟩
def aiy:Cx:=aB ajV 75 XT
theorem T9:Qq0 aiy:=aj TJ (Qq2 TJ Tryz.func75 (by kernel_rfl) aut (λx=>by kernel_rfl) rfl)
def avR:An:=.s .z (.s .z (.j ⟨[3],[],[(3,[.ar 4 (.int .u8)])],[0]⟩ true (.s .z (.u (.l ⟨[3],[(0,.lf (.sc pi)),(4,.lf (.sc pi))],[(3,[.ar 4 (.int .u8)])],[]⟩ .z))) .z))
def aaQ:Ctr:=⟨⟨[.d (.sc pi)],[(.sc .str)],1,[],[]⟩,λx=>kh x⟩
def akg:Cx:=aB aiy 77 aaQ
theorem VJ:Qq0 akg:=aj T9 (Qq2 T9 Tryz.func77 (by kernel_rfl) avR (λx=>by kernel_rfl) rfl)
def amB:An:=.z
def JW:Ctr:=⟨⟨[.d aX],[(.sc .str)],1,[],[]⟩,λx=>oY x⟩
def Zq:Cx:=aB akg 140 JW
theorem OM:Qq0 Zq:=aj VJ (Qq2 VJ Tryz.func140 (by kernel_rfl) amB (λx=>by kernel_rfl) rfl)
def awm:An:=Qq1 4 (.j ⟨[0],[(4,.lf (.own bG 163 false []))],[],[]⟩ true (.s .z (.u (.l ⟨[13,14],[(4,.lf (.own bG 163 false [])),(15,.lf (.sc pi))],[],[]⟩ .z))) .z)
def Ws:Ctr:=⟨⟨[.d (.slice aX)],[(.slice bG),(.sc pi)],2,[],[⟨some 163,false,false⟩]⟩,λx=>qN x⟩
def auV:Cx:=aB Zq 74 Ws
theorem ap5:Qq0 auV:=aj OM (Qq2 OM Tryz.func74 (by kernel_rfl) awm (λx=>by kernel_rfl) rfl)
def api:Ctr:=⟨⟨[.d (.sc .str),.d (.sc .str)],[.sc pi],1,[],[]⟩,λx=>R9 x.1 x.2⟩
theorem afb:api.sound Tryz.prog 221:=avb
def aaz:Cx:=aB auV 221 api
theorem OP:Qq0 aaz:=aj ap5 afb
def ank:An:=.z
def Kh:Ctr:=⟨⟨[.d bG,.d (.sc .str)],[(.sc pi)],1,[],[]⟩,λx=>oa x.1 x.2⟩
def XB:Cx:=aB aaz 220 Kh
theorem Px:Qq0 XB:=aj OP (Qq2 OP Tryz.func220 (by kernel_rfl) ank (λx=>by kernel_rfl) rfl)
def alH:An:=Qq1 3 (.j ⟨[0,1,2,8],[(9,.lf (.sc pi))],[],[10]⟩ true (.u (.l ⟨[0,1,2,8],[(9,.lf (.sc pi)),(10,.lf (.sc pi))],[],[]⟩ .z)) .z)
def KM:Ctr:=⟨⟨[.d (.slice bG),.d (.sc .str),.fn 220],[(.sc pi),(.sc .bool)],2,[],[]⟩,λx=>cW x.1 x.2.1⟩
def ZU:Cx:=aB XB 219 KM
theorem Re:Qq0 ZU:=aj Px (Qq2 Px Tryz.func219 (by kernel_rfl) alH (λx=>by kernel_rfl) rfl)
def aom:An:=.z
def Mg:Ctr:=⟨⟨[.d (.slice bG),.d (.sc .str)],[(.sc pi)],1,[],[]⟩,λx=>qF x.1 x.2⟩
def Zr:Cx:=aB ZU 141 Mg
theorem Sy:Qq0 Zr:=aj Re (Qq2 Re Tryz.func141 (by kernel_rfl) aom (λx=>by kernel_rfl) rfl)
def anZ:An:=.s .z (.s .z (.j ⟨[0],[(3,.lf (.sc pi))],[],[]⟩ true .z (.s .z (.j ⟨[0],[(4,.lf (.own (.sc (.int .u8)) 5 false []))],[],[3]⟩ true (.u (.l ⟨[0],[(3,.lf (.sc pi)),(4,.lf (.own (.sc (.int .u8)) 5 false []))],[],[]⟩ .z)) (.s .z (.s .z (.j ⟨[0,4,5],[(6,.lf (.own (.sc (.int .u8)) 5 false []))],[],[]⟩ true .z (.j ⟨[0,5],[(6,.lf (.own (.sc (.int .u8)) 5 false []))],[],[4]⟩ true (.s .z (.u (.l ⟨[0,4],[(6,.lf (.own (.sc (.int .u8)) 5 false [])),(7,.lf (.sc pi))],[],[]⟩ (.s .z (.j ⟨[0,4,7],[(6,.lf (.own (.sc (.int .u8)) 5 false []))],[],[]⟩ true (.u (.s .z (.j ⟨[0,4,6,7],[(8,.lf (.sc (.int .u8)))],[],[]⟩ true .z .z))) .z))))) .z))))))))
def Ko:Ctr:=⟨⟨[.d (.sc pi)],[(.slice (.sc (.int .u8)))],1,[],[⟨some 5,false,false⟩]⟩,λx=>kN x⟩
def Xv:Cx:=aB Zr 170 Ko
theorem PM:Qq0 Xv:=aj Sy (Qq2 Sy Tryz.func170 (by kernel_rfl) anZ (λx=>by kernel_rfl) rfl)
def anY:An:=.z
def JZ:Ctr:=⟨⟨[.d (.sc .str)],[(.slice (.sc (.int .u8)))],1,[],[⟨some 5,false,false⟩]⟩,λx=>lO x⟩
def W3:Cx:=aB Xv 169 JZ
theorem St:Qq0 W3:=aj PM (Qq2 PM Tryz.func169 (by kernel_rfl) anY (λx=>by kernel_rfl) rfl)
def avB:An:=.s .z (.s .z (.j ⟨[1],[(5,.lf (.own (.sc (.int .u8)) 5 false []))],[],[]⟩ true (.s .z (.u (.l ⟨[1],[(5,.lf (.own (.sc (.int .u8)) 5 false [])),(6,.lf (.sc pi))],[],[]⟩ .z))) .z))
def V4:Ctr:=⟨⟨[.d (.sc pi),.d (.slice (.sc .str))],[(.slice (.sc (.int .u8)))],1,[],[⟨some 5,false,false⟩]⟩,λx=>lS x.1 x.2⟩
def aeg:Cx:=aB W3 94 V4
theorem Ue:Qq0 aeg:=aj St (Qq2 St Tryz.func94 (by kernel_rfl) avB (λx=>by kernel_rfl) rfl)
def alg:An:=Qq1 3 (.j ⟨[0],[(3,.lf (.own (.sc (.int .u8)) 5 false []))],[],[]⟩ true (.u (.l ⟨[0],[(3,.lf (.own (.sc (.int .u8)) 5 false []))],[],[]⟩ .z)) (.s .z (.j ⟨[4],[(3,.lf (.own (.sc (.int .u8)) 5 false []))],[],[]⟩ true (.s .z (.u (.l ⟨[4],[(3,.lf (.own (.sc (.int .u8)) 5 false [])),(5,.lf (.sc pi))],[],[]⟩ .z))) .z)))
def M6:Ctr:=⟨⟨[.d (.slice (.sc (.int .u8)))],[(.slice (.sc (.int .u8)))],1,[],[⟨some 5,false,false⟩]⟩,λx=>lk x⟩
def abf:Cx:=aB aeg 247 M6
theorem Ny:Qq0 abf:=aj Ue (Qq2 Ue Tryz.func247 (by kernel_rfl) alg (λx=>by kernel_rfl) rfl)
def ali:An:=.z
def Lh:Ctr:=⟨⟨[.d (.sc (.int .u32)),.d (.sc pi)],[(.sc (.int .u32))],1,[],[]⟩,λx=>cv x.1 x.2⟩
def Ys:Cx:=aB abf 249 Lh
theorem Nx:Qq0 Ys:=aj Ny (Qq2 Ny Tryz.func249 (by kernel_rfl) ali (λx=>by kernel_rfl) rfl)
def am1:An:=.s .z (.s .z (.j ⟨[2,3,0],[],[(3,[.ar 64 (.int .u32)])],[]⟩ true (.s .z (.u (.l ⟨[0,2,3],[(4,.lf (.sc pi))],[(3,[.ar 64 (.int .u32)])],[]⟩ .z))) (.j ⟨[2,3],[],[(3,[.ar 64 (.int .u32)])],[]⟩ true (.s .z (.u (.l ⟨[2,3],[(5,.lf (.sc pi))],[(3,[.ar 64 (.int .u32)])],[]⟩ .z))) .z)))
def KL:Ctr:=⟨⟨[.d (.slice (.sc (.int .u8)))],[(.arr 64 (.int .u32))],1,[],[]⟩,λx=>jr x⟩
def Wp:Cx:=aB Ys 248 KL
theorem Of:Qq0 Wp:=aj Nx (Qq2 Nx Tryz.func248 (by kernel_rfl) am1 (λx=>by kernel_rfl) rfl)
def alV:An:=Qq1 3 (.j ⟨[2,3],[],[(3,[.ar 8 (.int .u32)])],[4]⟩ true (.s .z (.u (.l ⟨[2,3,4],[(5,.lf (.sc pi))],[(3,[.ar 8 (.int .u32)])],[]⟩ (.s .z (.j ⟨[2,3,4,5],[],[(3,[.ar 8 (.int .u32)])],[]⟩ true (.u (.s .z (.s .z (.j ⟨[2,3,4,5,6],[(7,.lf (.sc (.int .u32))),(8,.lf (.sc (.int .u32))),(9,.lf (.sc (.int .u32))),(10,.lf (.sc (.int .u32))),(11,.lf (.sc (.int .u32))),(12,.lf (.sc (.int .u32))),(13,.lf (.sc (.int .u32))),(14,.lf (.sc (.int .u32)))],[],[]⟩ true (.s .z (.u (.l ⟨[2,3,4,5,6],[(7,.lf (.sc (.int .u32))),(8,.lf (.sc (.int .u32))),(9,.lf (.sc (.int .u32))),(10,.lf (.sc (.int .u32))),(11,.lf (.sc (.int .u32))),(12,.lf (.sc (.int .u32))),(13,.lf (.sc (.int .u32))),(14,.lf (.sc (.int .u32))),(15,.lf (.sc pi))],[],[]⟩ .z))) .z)))) .z))))) (.s .z (.j ⟨[2,18,3],[],[(18,[.ar 32 (.int .u8)])],[]⟩ true (.s .z (.u (.l ⟨[2,3,18],[(19,.lf (.sc pi))],[(18,[.ar 32 (.int .u8)])],[]⟩ .z))) .z)))
def JT:Ctr:=⟨⟨[.d (.slice (.sc (.int .u8)))],[(.arr 32 (.int .u8))],1,[],[]⟩,λx=>m8 x⟩
def Xh:Cx:=aB Wp 168 JT
theorem Oo:Qq0 Xh:=aj Of (Qq2 Of Tryz.func168 (by kernel_rfl) alV (λx=>by kernel_rfl) rfl)
def atY:An:=Qq1 3 (.j ⟨[2,4,3],[],[(4,[.ar 16 (.int .u8)])],[]⟩ true (.s .z (.u (.l ⟨[2,3,4],[(5,.lf (.sc pi))],[(4,[.ar 16 (.int .u8)])],[]⟩ .z))) .z)
def Zw:Ctr:=⟨⟨[.d (.slice (.sc (.int .u8)))],[(.arr 16 (.int .u8))],1,[],[]⟩,λx=>gH x⟩
def ahs:Cx:=aB Xh 93 Zw
theorem Vw:Qq0 ahs:=aj Oo (Qq2 Oo Tryz.func93 (by kernel_rfl) atY (λx=>by kernel_rfl) rfl)
def apg:An:=.z
def MD:Ctr:=⟨⟨[.box true dH [some 9,none],.d (.sc pi),.d (.slice (.sc .str))],[(.arr 16 (.int .u8)),dH],1,[0],[⟨some 9,false,false⟩,⟨none,true,false⟩]⟩,λx=>fV x.1 x.2.1 x.2.2⟩
def ZC:Cx:=aB ahs 227 MD
theorem Qa:Qq0 ZC:=aj Vw (Qq2 Vw Tryz.func227 (by kernel_rfl) apg (λx=>by kernel_rfl) rfl)
def aoD:An:=.s .z (.s .z (.j ⟨[0],[(3,.lf (.sc pi))],[],[]⟩ true (.u (.l ⟨[0],[(3,.lf (.sc pi))],[],[]⟩ .z)) .z))
def Me:Ctr:=⟨⟨[.d (.sc pi)],[(.sc pi)],1,[],[]⟩,λx=>mw x⟩
def X9:Cx:=aB ZC 290 Me
theorem QK:Qq0 X9:=aj Qa (Qq2 Qa Tryz.func290 (by kernel_rfl) aoD (λx=>by kernel_rfl) rfl)
def alx:An:=.s .z (.s .z (.j ⟨[1],[(3,.lf (.own (.sc (.int .u8)) 5 false []))],[],[]⟩ true (.s .z (.u (.l ⟨[1],[(3,.lf (.own (.sc (.int .u8)) 5 false [])),(4,.lf (.sc pi))],[],[]⟩ .z))) .z))
def L3:Ctr:=⟨⟨[.d (.arr 16 (.int .u8))],[(.sc .str)],1,[],[]⟩,λx=>iu x⟩
def Xw:Cx:=aB X9 225 L3
theorem ON:Qq0 Xw:=aj QK (Qq2 QK Tryz.func225 (by kernel_rfl) alx (λx=>by kernel_rfl) rfl)
def anC:An:=.z
def Gb(a:Nat):Ctr:=⟨⟨c26,[(.arr 16 (.int .u8)),dH],1,[0],[⟨some 9,false,false⟩,⟨none,true,true⟩]⟩,λx=>fB a x.1 x.2.1 x.2.2.1 x.2.2.2.1 x.2.2.2.2⟩
def ao7:Ctr:=⟨⟨c26,[(.arr 16 (.int .u8)),dH],1,[0],[⟨some 9,false,false⟩,⟨none,true,true⟩]⟩,λx=>mP x.1 x.2.1 x.2.2.1 x.2.2.2.1 x.2.2.2.2⟩
theorem JA:∀k,(Gb k).sound Tryz.prog 226
 |0=>λx r h=>by have a:none=some r:=h;cases a
 |k+1=>ai (aj ON (JA k)) au Tryz.func226 (by kernel_rfl) (an:=anC) (λx=>(by kernel_rfl:(Gb (k+1)).fn x=aE (aB Xw 226 (Gb k)) Tryz.f226 anC (Gb (k+1)).toSig x)) rfl
theorem akT:ao7.sound Tryz.prog 226:=JA 64
def aaf:Cx:=aB Xw 226 ao7
theorem Pb:Qq0 aaf:=aj ON akT
def alM:An:=.s .z (.s .z (.j ⟨[0,8,1,2,3],[(9,.lf (.own (.sc .str) 9 false []))],[(0,c27)],[]⟩ true .z .z))
def LM:Ctr:=⟨⟨[.box true dH [some 9,none],.d (.slice cK),.d (.sc pi),.d (.sc pi)],[(.arr 16 (.int .u8)),dH],1,[0],[⟨some 9,false,false⟩,⟨none,true,true⟩]⟩,λx=>gr x.1 x.2.1 x.2.2.1 x.2.2.2⟩
def X0:Cx:=aB aaf 152 LM
theorem Ok:Qq0 X0:=aj Pb (Qq2 Pb Tryz.func152 (by kernel_rfl) alM (λx=>by kernel_rfl) rfl)
def auY:An:=.z
def YS:Ctr:=⟨⟨[.d (.sc pi)],[(.sc .str)],1,[],[]⟩,λx=>i9 x⟩
def ajB:Cx:=aB X0 72 YS
theorem Vj:Qq0 ajB:=aj Ok (Qq2 Ok Tryz.func72 (by kernel_rfl) auY (λx=>by kernel_rfl) rfl)
def avr:An:=Qq1 4 (.j ⟨[5,6,3],[],[(6,c27)],[]⟩ true .z (.s .z (.s .z (.j ⟨[],[],[],[7,8]⟩ false (.s .z (.u (.l ⟨[7],[(8,.lf (.own (.arr 16 (.int .u8)) 32 false [])),(9,.lf (.sc pi))],[],[]⟩ (.s .z (.j ⟨[7,9],[(8,.lf (.own (.arr 16 (.int .u8)) 32 false []))],[],[]⟩ false (.u (.s .z (.s .z (.u (.l ⟨[7,8,9],[(10,.lf (.sc pi))],[],[]⟩ .z))))) .z))))) .z))))
def aam:Ctr:=⟨⟨[.d (.slice cK),.d sJ],[(.sc .bool)],1,[],[]⟩,λx=>nD x.1 x.2⟩
def aje:Cx:=aB ajB 79 aam
theorem VG:Qq0 aje:=aj Vj (Qq2 Vj Tryz.func79 (by kernel_rfl) avr (λx=>by kernel_rfl) rfl)
def atG:An:=Qq1 3 (.j ⟨[3,6,2],[(5,.lf (.own cK 175 false []))],[],[]⟩ true (.s .z (.u (.l ⟨[2,3,6],[(5,.lf (.own cK 175 false [])),(7,.lf (.sc pi))],[],[]⟩ .z))) (.j ⟨[5,3],[(6,.lf (.own cK 175 false []))],[],[]⟩ true (.s .z (.u (.l ⟨[3,5],[(6,.lf (.own cK 175 false [])),(8,.lf (.sc pi))],[],[]⟩ .z))) .z))
def Xz:Ctr:=⟨⟨[.d bu,.d bu],[(.sc .bool)],1,[],[]⟩,λx=>jz x.1 x.2⟩
def aih:Cx:=aB aje 35 Xz
theorem U1:Qq0 aih:=aj VG (Qq2 VG Tryz.func35 (by kernel_rfl) atG (λx=>by kernel_rfl) rfl)
def alm:An:=.z
def Mk:Ctr:=⟨⟨[.d (.slice bG)],[(.slice bG)],1,[],[⟨some 163,false,false⟩]⟩,λx=>fS x⟩
theorem aeV:Mk.sound Tryz.prog 222:=va U1 au Tryz.func222 (by kernel_rfl) rfl (an:=alm) (λx=>(by kernel_rfl:Mk.fn x=w5 [.isn 0 false] aih Tryz.f222 alm Mk.toSig x)) (by kernel_rfl) rfl
def X1:Cx:=aB aih 222 Mk
theorem NC:Qq0 X1:=aj U1 aeV
def GG(k:Nat):Ctr:=⟨⟨[.d (.sc pi),.d (.sc pi),.box false (.sc pi) [],.box false (.sc pi) [],.box true eA [none,some 32],.box false (.slice bG) [],.rc 223 [0,1,2,5,7]],[eA],0,[2],[⟨none,true,false⟩,⟨some 32,false,false⟩]⟩,λx=>ji k x.2.2.2.2.2.1 x.2.2.1 x.2.2.2.1 x.1 x.2.1 x.2.2.2.2.1⟩
theorem RZ:∀k,(GG k).sound Tryz.prog 223
 |0=>λx r h=>by have a:none=some r:=h;cases a
 |k+1=>ai (Cx.wr_ok (aj NC (RZ k))) au Tryz.func223 (by kernel_rfl) (an:=.z) (λx=>(by kernel_rfl:(GG (k+1)).fn x=aE (aB X1 223 (GG k)).wr Tryz.f223 (.z) (GG (k+1)).toSig x)) rfl
def aoh:Ctr:=GG 64
theorem ajG:aoh.sound Tryz.prog 223:=RZ 64
def aa2:Cx:=aB X1 223 aoh
theorem Q8:Qq0 aa2:=aj NC ajG
def apl:An:=.z
def MS:Ctr:=⟨⟨[.d (.slice bG),.d (.sc pi),.d (.sc pi)],[eA],1,[],[⟨none,true,true⟩,⟨some 32,false,false⟩]⟩,λx=>pp x.1 x.2.1 x.2.2⟩
theorem aeR:MS.sound Tryz.prog 142:=ai (Cx.wr_ok Q8) au Tryz.func142 (by kernel_rfl) (an:=apl) (λx=>(by kernel_rfl:MS.fn x=aE aa2.wr Tryz.f142 apl MS.toSig x)) rfl
def XN:Cx:=aB aa2 142 MS
theorem NG:Qq0 XN:=aj Q8 aeR
def GW(k:Nat):Ctr:=⟨⟨[.d (.sc pi),.d (.sc pi),.box true (.sc .bool) [],.box false eA [],.box false (.sc pi) [],.box true (.slice (.arr 16 (.int .u8))) [none],.rc 289 [0,1,4,5,7]],[.arr 16 (.int .u8),.sc .bool,.slice (.arr 16 (.int .u8))],1,[0,5],[⟨none,true,false⟩]⟩,λx=>im k x.2.2.2.1 x.2.2.2.2.1 x.1 x.2.1 x.2.2.1 x.2.2.2.2.2.1⟩
theorem Qf:∀k,(GW k).sound Tryz.prog 289
 |0=>λx r h=>by have a:none=some r:=h;cases a
 |k+1=>ai (Cx.wr_ok (aj NG (Qf k))) au Tryz.func289 (by kernel_rfl) (an:=Qq1 4 (.s (.k [2,5] [] []) .z)) (λx=>(by kernel_rfl:(GW (k+1)).fn x=aE (aB XN 289 (GW k)).wr Tryz.f289 (Qq1 4 (.s (.k [2,5] [] []) .z)) (GW (k+1)).toSig x)) rfl
def alh:Ctr:=GW 64
theorem akQ:alh.sound Tryz.prog 289:=Qf 64
def Xr:Cx:=aB XN 289 alh
theorem PB:Qq0 Xr:=aj NG akQ
def apM:An:=.z
def Kb:Ctr:=⟨⟨[.d eA,.d (.arr 16 (.int .u8))],[(.sc .bool)],1,[],[]⟩,λx=>lP x.1 x.2⟩
theorem aiL:Kb.sound Tryz.prog 224:=ai (Cx.wr_ok PB) au Tryz.func224 (by kernel_rfl) (an:=apM) (λx=>(by kernel_rfl:Kb.fn x=aE Xr.wr Tryz.f224 apM Kb.toSig x)) rfl
def YL:Cx:=aB Xr 224 Kb
theorem Oz:Qq0 YL:=aj PB aiL
def auD:An:=.z
def WB:Ctr:=⟨⟨[.d (.slice bG),.d (.sc .str)],[eA,(.sc pi)],2,[],[⟨none,true,true⟩,⟨some 32,false,false⟩]⟩,λx=>oT x.1 x.2⟩
def ahP:Cx:=aB YL 76 WB
theorem Uf:Qq0 ahP:=aj Oz (Qq2 Oz Tryz.func76 (by kernel_rfl) auD (λx=>by kernel_rfl) rfl)
def atk:An:=.z
def aaT:Ctr:=⟨⟨[.d bT,.d kr,.d (.sc pi)],[jO,(.sc pi)],2,[],[⟨none,true,true⟩,⟨none,true,true⟩,⟨none,true,true⟩,⟨none,true,true⟩,⟨none,true,true⟩,⟨some 3,false,false⟩,⟨none,false,true⟩,⟨some 32,false,false⟩,⟨none,false,true⟩,⟨some 32,false,false⟩]⟩,λx=>uz x.1 x.2.1 x.2.2⟩
def akZ:Cx:=aB ahP 33 aaT
theorem TO:Qq0 akZ:=aj Uf (Qq2 Uf Tryz.func33 (by kernel_rfl) atk (λx=>by kernel_rfl) rfl)
def alW:An:=.z
def LZ:Ctr:=⟨⟨[.d jO],[(.sc .bool)],1,[],[]⟩,λx=>oB x⟩
def Zf:Cx:=aB akZ 145 LZ
theorem Sn:Qq0 Zf:=aj TO (Qq2 TO Tryz.func145 (by kernel_rfl) alW (λx=>by kernel_rfl) rfl)
def aoU:An:=.z
def J0:Ctr:=⟨⟨[.d (.arr 16 (.int .u8)),.d (.sc .str),.d eA],[(.sc .str),(.sc .bool),(.sc pi)],3,[],[]⟩,λx=>ij x.1 x.2.1 x.2.2⟩
def ZZ:Cx:=aB Zf 144 J0
theorem Pi:Qq0 ZZ:=aj Sn (Qq2 Sn Tryz.func144 (by kernel_rfl) aoU (λx=>by kernel_rfl) rfl)
def aou:An:=.z
def M1:Ctr:=⟨⟨[.d (.sc pi),.d eA,.d aX,.box false pv []],[(.sc .bool)],1,[],[]⟩,λx=>jJ x.1 x.2.1 x.2.2.1 x.2.2.2⟩
def WO:Cx:=aB ZZ 143 M1
theorem NT:Qq0 WO:=aj Pi (Qq2 Pi Tryz.func143 (by kernel_rfl) aou (λx=>by kernel_rfl) rfl)
def aps:An:=.z
def KB:Ctr:=⟨⟨[.d jO,.box false bT []],[(.sc .bool)],1,[],[]⟩,λx=>oI x.1 x.2⟩
def Wo:Cx:=aB WO 146 KB
theorem QT:Qq0 Wo:=aj NT (Qq2 NT Tryz.func146 (by kernel_rfl) aps (λx=>by kernel_rfl) rfl)
def apd:An:=.z
def MR:Ctr:=⟨⟨[.d jO,.box false aX []],[(.sc .bool)],1,[],[]⟩,λx=>oG x.1 x.2⟩
def Yk:Cx:=aB Wo 147 MR
theorem SR:Qq0 Yk:=aj QT (Qq2 QT Tryz.func147 (by kernel_rfl) apd (λx=>by kernel_rfl) rfl)
def aot:An:=.z
def My:Ctr:=⟨⟨[.d jO,.box false bT [],.box false kr []],[(.sc .bool)],1,[],[]⟩,λx=>oA x.1 x.2.1 x.2.2⟩
def Lk:Cx:=aB Yk 149 My
theorem Fg:Qq0 Lk:=aj SR (Qq2 SR Tryz.func149 (by kernel_rfl) aot (λx=>by kernel_rfl) rfl)
noncomputable def OS:Cx:=cM Lk 148 (qv Lk Tryz.f148 .z [.sc .bool])
theorem Jw:Qq0 OS:=bz Fg (jD Fg au Tryz.func148 (by kernel_rfl) (by kernel_rfl) _ _)
noncomputable def OF:Cx:=cM OS 150 (qv OS Tryz.f150 .z [.sc .bool])
theorem I0:Qq0 OF:=bz Jw (jD Jw au Tryz.func150 (by kernel_rfl) (by kernel_rfl) _ _)
noncomputable def Pe:Cx:=cM OF 151 (qv OF Tryz.f151 .z [.sc .bool])
theorem I5:Qq0 Pe:=bz I0 (jD I0 au Tryz.func151 (by kernel_rfl) (by kernel_rfl) _ _)
noncomputable def ans:Cx:=cM Pe 78 (mj Pe Tryz.f78 .z)
theorem ahb:Qq0 ans:=bz I5 (fG I5 au Tryz.func78 (by kernel_rfl) (by kernel_rfl) _)
def avz:An:=Qq1 3 (.s (.s .z (.u (.s .z (.s .z (.s .z (.s .z (.s .z (.s .z (.s .z (.z)))))))))) .z)
def X4:Ctr:=⟨⟨[.d bT,.d kr,.d pv,.d jO],[.sc pi],1,[],[]⟩,λx=>i4 x.1 x.2.1 x.2.2.1 x.2.2.2⟩
def afC:Cx:=aB Lk 34 X4
theorem Ut:Qq0 afC:=aj Fg (Qq2 ahb Tryz.func34 (by kernel_rfl) avz (λx=>by kernel_rfl) rfl)
def awc:An:=.s .z (.s .z (.j ⟨[2,1],[(4,.lf (.own bG 163 false []))],[],[]⟩ true (.s .z (.u (.l ⟨[1,2],[(4,.lf (.own bG 163 false [])),(5,.lf (.sc pi))],[],[]⟩ .z))) .z))
def X6:Ctr:=⟨⟨[.d bu],[(.arr 16 (.int .u8)),(.sc pi)],2,[],[]⟩,λx=>jX x⟩
def awX:Cx:=aB afC 32 X6
theorem arg:Qq0 awX:=aj Ut (Qq2 Ut Tryz.func32 (by kernel_rfl) awc (λx=>by kernel_rfl) rfl)
def an7:An:=.z
def ct7:Ctr:=⟨⟨[.d (.sc pi),.d (.sc pi),.d (.sc pi),.d (.sc pi),.d (.sc pi)],[(.sc .bool)],1,[],[]⟩,λx=>kB x.1 x.2.1 x.2.2.1 x.2.2.2.1 x.2.2.2.2⟩
theorem atU:ct7.sound Tryz.prog 7:=Qq2 arg Tryz.func7 (by kernel_rfl) an7 (λx=>by kernel_rfl) rfl
end
end Go.Proofs.YtgghcmbaidihjaaGreatDoor
