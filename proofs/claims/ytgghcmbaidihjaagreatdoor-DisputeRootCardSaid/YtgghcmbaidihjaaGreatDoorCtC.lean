/- Laws for the row. No condition. -/
import Derived.Test.YtgghcmbaidihjaaGreatDoorCtB
namespace Go.Proofs.YtgghcmbaidihjaaGreatDoor
open Go.Sm
set_option maxRecDepth 100000
set_option linter.unusedSectionVars false
section
variable [Itr]  [Yc:GCx] [SortLaw]
def UX:An:=.s .z (.j ⟨[0,1],[],[],[]⟩ false (.s .z (.u (.l ⟨[0,1,7],[(8,.lf (.sc pi))],[],[]⟩ .z))) .z)
def D3:Ctr:=⟨⟨[.d (.slice aC),.clo 102 (.sc .str)],[(.sc pi)],1,[],[]⟩,λx=>fR x.1 x.2⟩
def H6:Cx:=aB XL 101 D3
theorem GM:Qq0 H6:=aj RI (Qq2 RI Tryz.func101 (by kernel_rfl) UX (λx=>by kernel_rfl) rfl)
def amM:An:=.z
def KD:Ctr:=⟨⟨[.d (.sc .str),.d (.sc pi),.box false (.slice aC) []],[(.sc pi)],1,[],[]⟩,λx=>lK x.1 x.2.1 x.2.2⟩
def L9:Cx:=aB H6 100 KD
theorem ER:Qq0 L9:=aj GM (Qq2 GM Tryz.func100 (by kernel_rfl) amM (λx=>by kernel_rfl) rfl)
noncomputable def E8:Cx:=cM L9 103 (mj L9 Tryz.f103 Fz)
theorem D7:Qq0 E8:=bz ER (fG ER au Tryz.func103 (by kernel_rfl) (by kernel_rfl) _)
noncomputable def QG:Cx:=cM E8 104 (mj E8 Tryz.f104 QR)
theorem Tu:Qq0 QG:=bz D7 (fG D7 au Tryz.func104 (by kernel_rfl) (by kernel_rfl) _)
def atp:An:=Qq1 6 (.j ⟨[3,6,10,11],[],[(11,c15)],[]⟩ true (.s .z (.u (.l ⟨[3,6,10,11,43,44],[(45,.lf (.sc pi))],[(11,c15)],[]⟩ .z))) (.j ⟨[3,6,11,10],[],[(11,c12)],[]⟩ true (.s .z (.u (.l ⟨[3,6,10,11,68,69],[(70,.lf (.sc pi))],[(11,c12)],[]⟩ .z))) (.j ⟨[3,6,11],[],[(11,c12)],[]⟩ true (.s .z (.u (.l ⟨[3,6,11,91],[(92,.lf (.sc pi))],[(11,c12)],[]⟩ .z))) .z)))
def aaR:Ctr:=⟨⟨[.d bT,.d gM,.d (.slice aC)],[aX,(.sc pi)],2,[],[⟨some 1870727804774333205280220053793449448177874923159704,false,false⟩,⟨some 3,false,false⟩,⟨none,true,true⟩,⟨some 3,false,false⟩,⟨some 3,false,false⟩]⟩,λx=>iD x.1 x.2.1 x.2.2⟩
def aff:Cx:=aB L9 45 aaR
theorem U7:Qq0 aff:=aj ER (Qq2 Tu Tryz.func45 (by kernel_rfl) atp (λx=>by kernel_rfl) rfl)
def apj:An:=.s .z (.u (.s .z (.j ⟨[0],[(3,.lf (.sc (.int .u64))),(4,.lf (.sc (.int .u8)))],[],[]⟩ true .z (.s .z (.s .z (.j ⟨[3,4],[(5,.lf (.sc pi))],[],[]⟩ true (.u (.l ⟨[3,4],[(5,.lf (.sc pi))],[],[]⟩ .z)) (.s .z (.j ⟨[3,4,5],[(6,.lf (.own (.sc (.int .u8)) 5 false []))],[],[]⟩ true (.s .z (.u (.l ⟨[3,4],[(6,.lf (.own (.sc (.int .u8)) 5 false [])),(7,.lf (.sc pi))],[],[]⟩ .z))) .z))))))))
def Mt:Ctr:=⟨⟨[.d (.sc pi)],[(.slice (.sc (.int .u8)))],1,[],[⟨some 5,false,false⟩]⟩,λx=>mg x⟩
def aaY:Cx:=aB aff 167 Mt
theorem OG:Qq0 aaY:=aj U7 (Qq2 U7 Tryz.func167 (by kernel_rfl) apj (λx=>by kernel_rfl) rfl)
def avL:An:=.s .z (.s .z (.j ⟨[0],[(3,.lf (.own (.sc (.int .u8)) 5 false []))],[],[]⟩ true (.s .z (.u (.l ⟨[9,10],[(3,.lf (.own (.sc (.int .u8)) 5 false [])),(11,.lf (.sc pi))],[],[]⟩ .z))) .z))
def Yt:Ctr:=⟨⟨[.d (.slice (.sc pi))],[(.slice (.sc (.int .u8)))],1,[],[⟨some 5,false,false⟩]⟩,λx=>ph x⟩
def akO:Cx:=aB aaY 89 Yt
theorem Ug:Qq0 akO:=aj OG (Qq2 OG Tryz.func89 (by kernel_rfl) avL (λx=>by kernel_rfl) rfl)
def auL:An:=.z
def Xq:Ctr:=⟨⟨[.d (.sc .str)],[(.slice (.sc (.int .u8)))],1,[],[⟨some 5,false,false⟩]⟩,λx=>sj x⟩
def afy:Cx:=aB akO 87 Xq
theorem VW:Qq0 afy:=aj Ug (Qq2 Ug Tryz.func87 (by kernel_rfl) auL (λx=>by kernel_rfl) rfl)
def avO:An:=.s .z (.s .z (.j ⟨[0],[(3,.lf (.own (.sc (.int .u8)) 5 false []))],[],[]⟩ true (.s .z (.u (.l ⟨[9,10],[(3,.lf (.own (.sc (.int .u8)) 5 false [])),(11,.lf (.sc pi))],[],[]⟩ .z))) .z))
def ZT:Ctr:=⟨⟨[.d (.slice (.sc .str))],[(.slice (.sc (.int .u8)))],1,[],[⟨some 5,false,false⟩]⟩,λx=>sL x⟩
def aeB:Cx:=aB afy 90 ZT
theorem VS:Qq0 aeB:=aj VW (Qq2 VW Tryz.func90 (by kernel_rfl) avO (λx=>by kernel_rfl) rfl)
def ava:An:=.z
def YH:Ctr:=⟨⟨[.d (.slice (.sc pi)),.box true (.slice (.sc (.int .u8))) [some 5]],[(.slice (.sc (.int .u8)))],0,[1],[⟨some 5,false,false⟩]⟩,λx=>dB x.1 x.2⟩
def aj6:Cx:=aB aeB 91 YH
theorem TU:Qq0 aj6:=aj VS (Qq2 VS Tryz.func91 (by kernel_rfl) ava (λx=>by kernel_rfl) rfl)
def aun:An:=Qq1 4 (.j ⟨[1,3,4],[],[(3,c35)],[]⟩ true (.s .z (.u (.l ⟨[1,3,4,46,47],[(48,.lf (.sc pi))],[(3,c35)],[]⟩ (.s .z (.s .z (.j ⟨[1,3,4,46,47,48],[],[(3,c35)],[]⟩ true (.u (.s .z (.s .z (.j ⟨[1,3,4,6,46,47,48],[],[(3,c35)],[]⟩ true (.s .z (.u (.l ⟨[1,3,4,6,46,47,48,64,65],[(66,.lf (.sc pi))],[(3,c35)],[]⟩ .z))) .z)))) .z)))))) (.s .z (.j ⟨[1,3,4],[],[(3,c35)],[]⟩ true (.s .z (.u (.l ⟨[1,3,4,89,90],[(91,.lf (.sc pi))],[(3,c35)],[]⟩ .z))) .z)))
def ZH:Ctr:=⟨⟨[.d aX],[(.slice (.sc (.int .u8)))],1,[],[⟨some 5,false,false⟩]⟩,λx=>pT x⟩
theorem asr:ZH.sound Tryz.prog 42:=ai (Cx.wr_ok TU) au Tryz.func42 (by kernel_rfl) (an:=aun) (λx=>(by kernel_rfl:ZH.fn x=aE aj6.wr Tryz.f42 aun ZH.toSig x)) rfl
def aiZ:Cx:=aB aj6 42 ZH
theorem UA:Qq0 aiZ:=aj TU asr
def avm:An:=.z
def Zd:Ctr:=⟨⟨[],[od],1,[],[]⟩,λ_=>AT⟩
def ahL:Cx:=aB aiZ 85 Zd
theorem TM:Qq0 ahL:=aj UA (Qq2 UA Tryz.func85 (by kernel_rfl) avm (λx=>by kernel_rfl) rfl)
def am4:An:=.z
def Ki:Ctr:=⟨⟨[.d (.sc (.int .u32)),.d (.sc pi)],[(.sc (.int .u32))],1,[],[]⟩,λx=>bM x.1 x.2⟩
def WY:Cx:=aB ahL 312 Ki
theorem OE:Qq0 WY:=aj TM (Qq2 TM Tryz.func312 (by kernel_rfl) am4 (λx=>by kernel_rfl) rfl)
def anM:An:=.s .z (.s .z (.j ⟨[2,3,0],[],[(3,[.ar 64 (.int .u32)])],[]⟩ true (.s .z (.u (.l ⟨[0,2,3],[(11,.lf (.sc pi))],[(3,[.ar 64 (.int .u32)])],[]⟩ (.s .z (.s .z (.j ⟨[0,2,3,11],[],[(3,[.ar 64 (.int .u32)])],[]⟩ true (.u (.s .z (.s (.s .z (.s (.j ⟨[0,2,3,11,4],[],[(3,[.ar 64 (.int .u32)])],[]⟩ true (.s .z (.u (.l ⟨[0,2,3,4,11,22,23],[(24,.lf (.sc pi))],[(3,[.ar 64 (.int .u32)])],[]⟩ .z))) .z) .z)) .z))) .z)))))) .z))
def Mh:Ctr:=⟨⟨[.d (.slice (.sc (.int .u8)))],[(.arr 64 (.int .u32))],1,[],[]⟩,λx=>og x⟩
def WG:Cx:=aB WY 245 Mh
theorem QL:Qq0 WG:=aj OE (Qq2 OE Tryz.func245 (by kernel_rfl) anM (λx=>by kernel_rfl) rfl)
def an1:An:=.z
def LX:Ctr:=⟨⟨[.d (.sc (.int .u32)),.d (.sc pi),.d (.sc pi),.d (.sc pi)],[(.sc (.int .u32))],1,[],[]⟩,λx=>ri x.1 x.2.1 x.2.2.1 x.2.2.2⟩
def abm:Cx:=aB WG 246 LX
theorem RO:Qq0 abm:=aj QL (Qq2 QL Tryz.func246 (by kernel_rfl) an1 (λx=>by kernel_rfl) rfl)
def apJ:An:=Qq1 3 (.j ⟨[2,4,6,7,5],[],[(6,[.ar 4 (.int .u32)]),(7,[.ar 4 (.int .u32)])],[]⟩ true (.s .z (.u (.l ⟨[2,4,5,6,7,21],[(22,.lf (.sc pi))],[(6,[.ar 4 (.int .u32)]),(7,[.ar 4 (.int .u32)])],[]⟩ .z))) (.j ⟨[2,4,6,7],[],[(2,[.ar 8 (.int .u32)])],[]⟩ true (.s .z (.u (.l ⟨[2,4,6,7],[(94,.lf (.sc pi))],[(2,[.ar 8 (.int .u32)])],[]⟩ .z))) .z))
def Ls:Ctr:=⟨⟨[.d (.arr 8 (.int .u32)),.d (.slice (.sc (.int .u8)))],[(.arr 8 (.int .u32))],1,[],[]⟩,λx=>lF x.1 x.2⟩
def abc:Cx:=aB abm 166 Ls
theorem P7:Qq0 abc:=aj RO (Qq2 RO Tryz.func166 (by kernel_rfl) apJ (λx=>by kernel_rfl) rfl)
def at0:An:=.s .z (.j ⟨[2,4],[],[(2,[.ar 8 (.int .u32),.ar 64 (.int .u8),.sc (.int .u64)])],[1]⟩ true (.u (.l ⟨[2,4],[(1,.lf (.sc .str))],[(2,[.ar 8 (.int .u32),.ar 64 (.int .u8),.sc (.int .u64)])],[]⟩ .z)) .z)
def XG:Ctr:=⟨⟨[.d od,.d (.sc .str)],[od],1,[],[]⟩,λx=>gV x.1 x.2⟩
def akk:Cx:=aB abc 86 XG
theorem Vr:Qq0 akk:=aj P7 (Qq2 P7 Tryz.func86 (by kernel_rfl) at0 (λx=>by kernel_rfl) rfl)
def atq:An:=Qq1 3 (.j ⟨[1,2,3],[(4,.lf (.own (.sc (.int .u8)) 5 false []))],[],[]⟩ true (.u (.l ⟨[1,2,3],[(4,.lf (.own (.sc (.int .u8)) 5 false []))],[],[]⟩ .z)) (.j ⟨[1,2,3],[(4,.lf (.own (.sc (.int .u8)) 5 false []))],[],[]⟩ true (.s .z (.u (.l ⟨[1,2,3],[(4,.lf (.own (.sc (.int .u8)) 5 false [])),(23,.lf (.sc pi))],[],[]⟩ .z))) (.s .z (.s .z (.j ⟨[2,6,1],[],[(6,[.ar 32 (.int .u8)])],[]⟩ true (.s .z (.u (.l ⟨[1,2,6],[(40,.lf (.sc pi))],[(6,[.ar 32 (.int .u8)])],[]⟩ .z))) .z)))))
def aao:Ctr:=⟨⟨[.d od],[(.arr 32 (.int .u8))],1,[],[]⟩,λx=>oC x⟩
def ajz:Cx:=aB akk 88 aao
theorem T2:Qq0 ajz:=aj Vr (Qq2 Vr Tryz.func88 (by kernel_rfl) atq (λx=>by kernel_rfl) rfl)
def aub:An:=.s .z (.s .z (.j ⟨[4,5,1],[],[(5,[.ar 8 (.int .u32),.ar 64 (.int .u8),.sc (.int .u64)])],[]⟩ true (.s .z (.u (.l ⟨[4,5,15,16],[(17,.lf (.sc pi))],[(5,[.ar 8 (.int .u32),.ar 64 (.int .u8),.sc (.int .u64)])],[]⟩ .z))) .z))
def Zc:Ctr:=⟨⟨[.d (.sc pi),.d (.slice (.sc .str))],[(.arr 16 (.int .u8))],1,[],[]⟩,λx=>lH x.1 x.2⟩
def aeu:Cx:=aB ajz 41 Zc
theorem TZ:Qq0 aeu:=aj T2 (Qq2 T2 Tryz.func41 (by kernel_rfl) aub (λx=>by kernel_rfl) rfl)
def aww:An:=.z
def WM:Ctr:=⟨⟨[.d aX],[(.arr 16 (.int .u8))],1,[],[]⟩,λx=>fh x⟩
def aiE:Cx:=aB aeu 14 WM
theorem UG:Qq0 aiE:=aj TZ (Qq2 TZ Tryz.func14 (by kernel_rfl) aww (λx=>by kernel_rfl) rfl)
def auR:An:=.s .z (.s .z (.j ⟨[0,1],[],[],[]⟩ false (.s .z (.u (.l ⟨[0,1,12],[(13,.lf (.sc pi))],[],[]⟩ .z))) .z))
def Za:Ctr:=⟨⟨[.d (.slice (.sc pi)),.d (.slice (.sc pi))],[(.sc .bool)],1,[],[]⟩,λx=>dv x.1 x.2⟩
def aj1:Cx:=aB aiE 62 Za
theorem Vb:Qq0 aj1:=aj UG (Qq2 UG Tryz.func62 (by kernel_rfl) auR (λx=>by kernel_rfl) rfl)
def atQ:An:=.z
def WA:Ctr:=⟨⟨[.d ce,.d ce],[(.sc .bool)],1,[],[]⟩,λx=>qc x.1 x.2⟩
theorem VV:WA.sound Tryz.prog 61:=Qq2 Vb Tryz.func61 (by kernel_rfl) atQ (λx=>by kernel_rfl) rfl
def agC:Cx:=aB aj1 61 WA
theorem Vk:Qq0 agC:=aj Vb VV
def aiq:DCtr:=⟨⟨[.d ce,.d ce],[(.sc .bool)],1,[],[]⟩,λf x=>abb f x.1 x.2⟩
theorem atb:DCtr.sound Tryz.prog aiq:=by
 intro f x r h;simp only[aiq,abb]at h;cases a:Nat.beq f 61;rotate_left
 ·rw[a]at h;rw[f9 a];exact VV x r h
 rw[a]at h;cases h
def avX:An:=.s .z (.s .z (.j ⟨[0,1,2],[],[],[]⟩ false (.s .z (.u (.l ⟨[1,2,15,16],[(17,.lf (.sc pi))],[],[]⟩ .z))) .z))
def YG:Ctr:=⟨⟨[.d (.slice ce),.d (.slice ce),.d (.sc .fnc)],[(.sc .bool)],1,[],[]⟩,λx=>bZ x.1 x.2.1 x.2.2⟩
def apT:Cx:=afq agC aiq true
theorem ai5:Qq0 apT:=UZ Vk atb
def agb:Cx:=aB agC 64 YG
theorem Vo:Qq0 agb:=aj Vk (Qq2 ai5 Tryz.func64 (by kernel_rfl) avX (λx=>by kernel_rfl) rfl)
def auu:An:=.z
def X3:Ctr:=⟨⟨[.d aU,.d aU,.box false (.sc .fnc) []],[(.sc .bool)],1,[],[]⟩,λx=>pX x.1 x.2.1 x.2.2⟩
def ai6:Cx:=aB agb 63 X3
theorem U2:Qq0 ai6:=aj Vo (Qq2 Vo Tryz.func63 (by kernel_rfl) auu (λx=>by kernel_rfl) rfl)
def avG:An:=.s .z (.s .z (.j ⟨[0,1,2],[],[],[]⟩ false (.s .z (.u (.l ⟨[1,2,15,16],[(17,.lf (.sc pi))],[],[]⟩ .z))) .z))
def XR:Ctr:=⟨⟨[.d (.slice aU),.d (.slice aU),.clo 63 (.sc .fnc)],[(.sc .bool)],1,[],[]⟩,λx=>bW x.1 x.2.1 x.2.2⟩
def agS:Cx:=aB ai6 65 XR
theorem UO:Qq0 agS:=aj U2 (Qq2 U2 Tryz.func65 (by kernel_rfl) avG (λx=>by kernel_rfl) rfl)
def awF:An:=.s .z (.s .z (.j ⟨[0,1,2],[],[],[]⟩ false (.s .z (.u (.l ⟨[1,2,15,16],[(17,.lf (.sc pi))],[],[]⟩ .z))) .z))
def Z7:Ctr:=⟨⟨[.d (.slice (.slice (.sc pi))),.d (.slice (.slice (.sc pi))),.fn 62],[(.sc .bool)],1,[],[]⟩,λx=>gG x.1 x.2.1⟩
def aiH:Cx:=aB agS 66 Z7
theorem US:Qq0 aiH:=aj UO (Qq2 UO Tryz.func66 (by kernel_rfl) awF (λx=>by kernel_rfl) rfl)
def avK:An:=.z
def Xt:Ctr:=⟨⟨[.d aX,.d aX],[(.sc .bool)],1,[],[]⟩,λx=>sO x.1 x.2⟩
def aeM:Cx:=aB aiH 23 Xt
theorem UT:Qq0 aeM:=aj US (Qq2 US Tryz.func23 (by kernel_rfl) avK (λx=>by kernel_rfl) rfl)
def auy:An:=.s .z (.j ⟨[1],[(0,.lf (.sc pi))],[],[]⟩ true .z .z)
def XV:Ctr:=⟨⟨[.d (.sc pi),.d (.sc pi)],[(.sc pi)],1,[],[]⟩,λx=>bI x.1 x.2⟩
def ajb:Cx:=aB aeM 17 XV
theorem UM:Qq0 ajb:=aj UT (Qq2 UT Tryz.func17 (by kernel_rfl) auy (λx=>by kernel_rfl) rfl)
def awz:An:=.z
def XW:Ctr:=⟨⟨[.d (.sc pi)],[gM],1,[],[]⟩,λx=>ng x⟩
def akb:Cx:=aB ajb 38 XW
theorem VD:Qq0 akb:=aj UM (Qq2 UM Tryz.func38 (by kernel_rfl) awz (λx=>by kernel_rfl) rfl)
def amw:An:=.z
def Ln:Ctr:=⟨⟨[.d (.slice (.sc pi)),.d (.sc pi),.d (.sc pi)],[(.sc pi)],1,[],[]⟩,λx=>fC x.1 x.2.1 x.2.2⟩
def aau:Cx:=aB akb 160 Ln
theorem SA:Qq0 aau:=aj VD (Qq2 VD Tryz.func160 (by kernel_rfl) amw (λx=>by kernel_rfl) rfl)
def an6:An:=.z
def Gu(a:Nat):Ctr:=⟨⟨[.d (.sc pi)],[(.sc .str)],1,[],[]⟩,λx=>kS a x⟩
def anS:Ctr:=⟨⟨[.d (.sc pi)],[(.sc .str)],1,[],[]⟩,λx=>dQ x⟩
theorem I1:∀k,(Gu k).sound Tryz.prog 304
 |0=>λx r h=>by have a:none=some r:=h;cases a
 |k+1=>ai (aj SA (I1 k)) au Tryz.func304 (by kernel_rfl) (an:=an6) (λx=>(by kernel_rfl:(Gu (k+1)).fn x=aE (aB aau 304 (Gu k)) Tryz.f304 an6 (Gu (k+1)).toSig x)) rfl
theorem ahq:anS.sound Tryz.prog 304:=I1 64
def Zh:Cx:=aB aau 304 anS
theorem PS:Qq0 Zh:=aj SA ahq
def apR:An:=.z
def LW:Ctr:=⟨⟨[.d (.sc pi)],[(.sc .str)],1,[],[]⟩,λx=>dz x⟩
def abi:Cx:=aB Zh 240 LW
theorem NA:Qq0 abi:=aj PS (Qq2 PS Tryz.func240 (by kernel_rfl) apR (λx=>by kernel_rfl) rfl)
def ao1:An:=.s .z (.s .z (.j ⟨[1],[(5,.lf (.own (.sc (.int .u8)) 1048581 false []))],[],[]⟩ true (.s .z (.u (.l ⟨[1],[(5,.lf (.own (.sc (.int .u8)) 1048581 false [])),(6,.lf (.sc pi))],[],[]⟩ (.s .z (.j ⟨[1,6],[(5,.lf (.own (.sc (.int .u8)) 1048581 false []))],[],[]⟩ true .z .z))))) .z))
def Lv:Ctr:=⟨⟨[.d (.sc .str),.d (.sc pi)],[(.sc .str)],1,[],[]⟩,λx=>tC x.1 x.2⟩
def aba:Cx:=aB abi 310 Lv
theorem Qb:Qq0 aba:=aj NA (Qq2 NA Tryz.func310 (by kernel_rfl) ao1 (λx=>by kernel_rfl) rfl)
def amu:An:=.z
def L4:Ctr:=⟨⟨[.d (.sc .str),.d (.sc .str),.d (.sc pi),.d (.sc .str)],[cg],1,[],[]⟩,λx=>wD x.1 x.2.1 x.2.2.1 x.2.2.2⟩
def Y5:Cx:=aB aba 309 L4
theorem NF:Qq0 Y5:=aj Qb (Qq2 Qb Tryz.func309 (by kernel_rfl) amu (λx=>by kernel_rfl) rfl)
def alv:An:=.s .z (.s .z (.j ⟨[0,1],[(5,.lf (.own cg 297 false []))],[],[]⟩ true (.s .z (.u (.l ⟨[0,1],[(5,.lf (.own cg 297 false [])),(6,.lf (.sc pi))],[],[]⟩ .z))) .z))
def JY:Ctr:=⟨⟨[.d (.sc pi),.d (.slice (.arr 3 .str))],[(.slice cg)],1,[],[⟨some 297,false,false⟩]⟩,λx=>cC x.1 x.2⟩
def ZQ:Cx:=aB Y5 239 JY
theorem Ov:Qq0 ZQ:=aj NF (Qq2 NF Tryz.func239 (by kernel_rfl) alv (λx=>by kernel_rfl) rfl)
def anT:An:=.z
def KN:Ctr:=⟨⟨[.d (.sc pi),.d (.sc pi),.d (.sc pi)],[(.slice cg)],1,[],[⟨some 297,false,false⟩]⟩,λx=>cr x.1 x.2.1 x.2.2⟩
def Wf:Cx:=aB ZQ 238 KN
theorem Qc:Qq0 Wf:=aj Ov (Qq2 Ov Tryz.func238 (by kernel_rfl) anT (λx=>by kernel_rfl) rfl)
def aoz:An:=.s .z (.j ⟨[1,2,0],[],[],[]⟩ false (.s .z (.u (.j ⟨[0,1,2,7],[(8,.lf (.sc .bool))],[],[]⟩ true .z .z))) .z)
def KG:Ctr:=⟨⟨[.d (.sc pi),.d (.sc pi),.d (.sc pi)],[(.slice cg)],1,[],[⟨some 297,false,false⟩]⟩,λx=>dX x.1 x.2.1 x.2.2⟩
def aaC:Cx:=aB Wf 161 KG
theorem N4:Qq0 aaC:=aj Qc (Qq2 Qc Tryz.func161 (by kernel_rfl) aoz (λx=>by kernel_rfl) rfl)
def al5:An:=.s .z (.s .z (.j ⟨[0,1],[(5,.lf (.own cg 297 false []))],[],[]⟩ true (.s .z (.u (.l ⟨[0,1],[(5,.lf (.own cg 297 false [])),(6,.lf (.sc pi))],[],[]⟩ (.s .z (.j ⟨[0,1,6],[(5,.lf (.own cg 297 false []))],[],[]⟩ true (.u (.s .z (.j ⟨[0,1,5,6],[(7,.lf (.sc pi))],[],[]⟩ true .z .z))) .z))))) .z))
def Ku:Ctr:=⟨⟨[.d (.slice cg),.d (.sc pi)],[(.slice cg)],1,[],[⟨some 297,false,false⟩]⟩,λx=>tq x.1 x.2⟩
def YB:Cx:=aB aaC 162 Ku
theorem Oy:Qq0 YB:=aj N4 (Qq2 N4 Tryz.func162 (by kernel_rfl) al5 (λx=>by kernel_rfl) rfl)
def avq:An:=Qq1 3 (.j ⟨[0],[(3,.lf (.own cg 297 false []))],[],[4]⟩ true (.s .z (.u (.l ⟨[0],[(3,.lf (.own cg 297 false [])),(4,.lf (.sc .bool)),(5,.lf (.sc pi))],[],[]⟩ (.s .z (.j ⟨[0,5],[(3,.lf (.own cg 297 false [])),(4,.lf (.sc .bool))],[],[]⟩ true .z .z))))) .z)
def WI:Ctr:=⟨⟨[.d (.slice (.sc pi))],[(.slice cg)],1,[],[⟨some 297,false,false⟩]⟩,λx=>dw x⟩
def agB:Cx:=aB YB 81 WI
theorem Ve:Qq0 agB:=aj Oy (Qq2 Oy Tryz.func81 (by kernel_rfl) avq (λx=>by kernel_rfl) rfl)
def amb:An:=.z
def M7:Ctr:=⟨⟨[.d (.sc .str),.d (.sc pi)],[(.sc .bool)],1,[],[]⟩,λx=>iR x.1 x.2⟩
def Wk:Cx:=aB agB 329 M7
theorem Q2:Qq0 Wk:=aj Ve (Qq2 Ve Tryz.func329 (by kernel_rfl) amb (λx=>by kernel_rfl) rfl)
def apP:An:=.z
def Lm:Ctr:=⟨⟨[.d (.sc .str),.d (.sc pi)],[(.sc .bool)],1,[],[]⟩,λx=>gN x.1 x.2⟩
def Zt:Cx:=aB Wk 331 Lm
theorem O5:Qq0 Zt:=aj Q2 (Qq2 Q2 Tryz.func331 (by kernel_rfl) apP (λx=>by kernel_rfl) rfl)
def apA:An:=Qq1 3 (.j ⟨[1,0],[(5,.lf (.sc pi))],[],[]⟩ true (.u (.l ⟨[0,1],[(5,.lf (.sc pi))],[],[]⟩ .z)) .z)
def Ld:Ctr:=⟨⟨[.d (.sc .str),.d (.sc pi)],[(.sc pi)],1,[],[]⟩,λx=>qr x.1 x.2⟩
def ZM:Cx:=aB Zt 330 Ld
theorem Rg:Qq0 ZM:=aj O5 (Qq2 O5 Tryz.func330 (by kernel_rfl) apA (λx=>by kernel_rfl) rfl)
def alU:An:=.s .z (.s .z (.j ⟨[0,3],[],[],[]⟩ false (.s .z (.u (.l ⟨[0,3],[(4,.lf (.sc pi))],[],[]⟩ .z))) .z))
def ME:Ctr:=⟨⟨[.d (.sc (.int .u8))],[(.sc .bool)],1,[],[]⟩,λx=>vO x⟩
def YD:Cx:=aB ZM 332 ME
theorem RB:Qq0 YD:=aj Rg (Qq2 Rg Tryz.func332 (by kernel_rfl) alU (λx=>by kernel_rfl) rfl)
def apw:An:=Qq1 3 (.j ⟨[0,1],[],[],[]⟩ false (.s .z (.s (.s .z (.j ⟨[1,0],[(5,.lf (.sc pi))],[],[]⟩ true (.u (.l ⟨[0,1],[(5,.lf (.sc pi))],[],[]⟩ .z)) .z)) .z)) .z)
def LR:Ctr:=⟨⟨[.d (.sc .str),.d (.sc pi)],[(.sc pi)],1,[],[]⟩,λx=>vJ x.1 x.2⟩
def Xi:Cx:=aB YD 296 LR
theorem Nn:Qq0 Xi:=aj RB (Qq2 RB Tryz.func296 (by kernel_rfl) apw (λx=>by kernel_rfl) rfl)
def alj:An:=Qq1 3 (.j ⟨[0],[(4,.lf (.own bi 387 false [])),(5,.lf (.sc pi))],[],[]⟩ false (.u (.l ⟨[0],[(4,.lf (.own bi 387 false [])),(5,.lf (.sc pi))],[],[]⟩ .z)) .z)
def LT:Ctr:=⟨⟨[.d (.sc .str)],[(.slice bi),(.sc pi)],2,[],[⟨some 387,false,false⟩]⟩,λx=>vL x⟩
def ZD:Cx:=aB Xi 231 LT
theorem QN:Qq0 ZD:=aj Nn (Qq2 Nn Tryz.func231 (by kernel_rfl) alj (λx=>by kernel_rfl) rfl)
def aoV:An:=.z
def LA:Ctr:=⟨⟨[.box false aH []],[(.sc .str)],1,[],[]⟩,λx=>bK x⟩
def aa1:Cx:=aB ZD 297 LA
theorem NZ:Qq0 aa1:=aj QN (Qq2 QN Tryz.func297 (by kernel_rfl) aoV (λx=>by kernel_rfl) rfl)
def anF:An:=.z
def MN:Ctr:=⟨⟨[],[(.slice (.sc .str))],1,[],[⟨some 9,false,false⟩]⟩,λ_=>iO⟩
def V6:Cx:=aB aa1 298 MN
theorem N9:Qq0 V6:=aj NZ (Qq2 NZ Tryz.func298 (by kernel_rfl) anF (λx=>by kernel_rfl) rfl)
def amv:An:=.z
def MM:Ctr:=⟨⟨[],[(.slice (.sc .str))],1,[],[⟨some 9,false,false⟩]⟩,λ_=>uX⟩
def Yi:Cx:=aB V6 356 MM
theorem Qh:Qq0 Yi:=aj N9 (Qq2 N9 Tryz.func356 (by kernel_rfl) amv (λx=>by kernel_rfl) rfl)
def amg:An:=.s .z (.j ⟨[0,1],[],[],[]⟩ false (.s .z (.u (.l ⟨[0,1],[(5,.lf (.sc pi))],[],[]⟩ .z))) .z)
def Ke:Ctr:=⟨⟨[.d (.slice (.sc .str)),.d (.sc .str)],[(.sc .bool)],1,[],[]⟩,λx=>io x.1 x.2⟩
def YF:Cx:=aB Yi 293 Ke
theorem Ph:Qq0 YF:=aj Qh (Qq2 Qh Tryz.func293 (by kernel_rfl) amg (λx=>by kernel_rfl) rfl)
def apF:An:=.z
def Mw:Ctr:=⟨⟨[.d (.sc .str)],[(.sc .bool)],1,[],[]⟩,λx=>tB x⟩
def W4:Cx:=aB YF 333 Mw
theorem Rf:Qq0 W4:=aj Ph (Qq2 Ph Tryz.func333 (by kernel_rfl) apF (λx=>by kernel_rfl) rfl)
def ald:An:=.z
def KA:Ctr:=⟨⟨c36,[(.sc .str),aH],1,[0],[⟨some 387,false,false⟩]⟩,λx=>cV x⟩
def Yy:Cx:=aB W4 299 KA
theorem Q5:Qq0 Yy:=aj Rf (Qq2 Rf Tryz.func299 (by kernel_rfl) ald (λx=>by kernel_rfl) rfl)
def al3:An:=.z
def Ma:Ctr:=⟨⟨c34,[(.sc .bool),aH],1,[0],[⟨some 387,false,false⟩]⟩,λx=>cS x.1 x.2⟩
def aaI:Cx:=aB Yy 334 Ma
theorem Rm:Qq0 aaI:=aj Q5 (Qq2 Q5 Tryz.func334 (by kernel_rfl) al3 (λx=>by kernel_rfl) rfl)
def apI:An:=.z
def LU:Ctr:=⟨⟨c34,[aH],0,[0],[⟨some 387,false,false⟩]⟩,λx=>bJ x.1 x.2⟩
def ZK:Cx:=aB aaI 300 LU
theorem Pu:Qq0 ZK:=aj Rm (Qq2 Rm Tryz.func300 (by kernel_rfl) apI (λx=>by kernel_rfl) rfl)
def an3:An:=.s .z (.s .z (.j ⟨[0],[(3,.lf (.sc pi))],[],[]⟩ true (.s .z (.u (.l ⟨[0],[(3,.lf (.sc pi)),(4,.lf (.sc pi))],[],[]⟩ .z))) .z))
def MP:Ctr:=⟨⟨[.d (.sc .str)],[(.sc pi)],1,[],[]⟩,λx=>vl x⟩
def Z8:Cx:=aB ZK 335 MP
theorem P2:Qq0 Z8:=aj Pu (Qq2 Pu Tryz.func335 (by kernel_rfl) an3 (λx=>by kernel_rfl) rfl)
def amQ:An:=.z
def Mz:Ctr:=⟨⟨[.box true aH [some 387],.d (.sc pi),.d (.sc pi)],[(.sc pi),aH],1,[0],[⟨some 387,false,false⟩]⟩,λx=>cA x.1 x.2.1 x.2.2⟩
def ZX:Cx:=aB Z8 302 Mz
theorem O3:Qq0 ZX:=aj P2 (Qq2 P2 Tryz.func302 (by kernel_rfl) amQ (λx=>by kernel_rfl) rfl)
def apf:An:=.z
def M0:Ctr:=⟨⟨c36,[(.sc pi),aH],1,[0],[⟨some 387,false,false⟩]⟩,λx=>jR x⟩
def ZB:Cx:=aB ZX 301 M0
theorem PQ:Qq0 ZB:=aj O3 (Qq2 O3 Tryz.func301 (by kernel_rfl) apf (λx=>by kernel_rfl) rfl)
def apD:An:=.z
def Ll:Ctr:=⟨⟨c36,[(.sc .str),aH],1,[0],[⟨some 387,false,false⟩]⟩,λx=>d7 x⟩
def aaq:Cx:=aB ZB 375 Ll
theorem QQ:Qq0 aaq:=aj PQ (Qq2 PQ Tryz.func375 (by kernel_rfl) apD (λx=>by kernel_rfl) rfl)
def apK:An:=.s .z (.s .z (.j ⟨[0,2,3],[],[(0,c30),(3,c32)],[]⟩ true (.s .z (.s (.s .z (.k [0,1000000] [] [])) .z)) .z))
def JX:Ctr:=⟨⟨c36,[bB,aH],1,[0],[⟨some 293,false,true⟩,⟨some 387,false,false⟩]⟩,λx=>ko x⟩
def Dp:Cx:=aB aaq 382 JX
theorem xu:Qq0 Dp:=aj QQ (Qq2 QQ Tryz.func382 (by kernel_rfl) apK (λx=>by kernel_rfl) rfl)
def apu:An:=Qq1 4 (.j ⟨[0,2,3],[],[(0,c30)],[4]⟩ false (.s .z (.u (.l ⟨[0,2,3,4],[(5,.lf (.sc pi))],[(0,c30)],[]⟩ (.s .z (.s (.u (.s .z (.s (.s (.k [0,1000000] [] []) .z) .z))) .z))))) .z)
def qI(a:Nat):Ctr:=⟨⟨c36,[bB,aH],1,[0],[⟨none,false,true⟩,⟨some 387,false,false⟩]⟩,λx=>dy a x⟩
def aph:Ctr:=⟨⟨c36,[bB,aH],1,[0],[⟨none,false,true⟩,⟨some 387,false,false⟩]⟩,λx=>eE x⟩
def aoq:An:=.z
def zI(k:Nat):Ctr:=⟨⟨c36,[bB,aH],1,[0],[⟨none,false,true⟩,⟨some 387,false,false⟩]⟩,λx=>kV (dy k) x⟩
theorem Co(k:Nat)(h:(qI k).sound Tryz.prog 373):(zI k).sound Tryz.prog 385:=ai (aj xu h) au Tryz.func385 (by kernel_rfl) (an:=aoq) (λx=>(by kernel_rfl:(zI k).fn x=aE (aB Dp 373 (qI k)) Tryz.f385 aoq (zI k).toSig x)) rfl
def am5:An:=.s .z (.s .z (.j ⟨[0,2,3],[],[(0,c30),(3,c29)],[]⟩ true (.u (.l ⟨[0,2,3],[],[(0,c30),(3,c29)],[]⟩ (.s .z (.u (.k [0,1000000] [] []))))) .z))
def Bv(k:Nat):Ctr:=⟨⟨c36,[bB,aH],1,[0],[⟨none,false,true⟩,⟨some 387,false,false⟩]⟩,λx=>kP (dy k) x⟩
theorem Jm(k:Nat)(h:(qI k).sound Tryz.prog 373):(Bv k).sound Tryz.prog 384:=ai (aj (aj xu h) (Co k h)) au Tryz.func384 (by kernel_rfl) (an:=am5) (λx=>(by kernel_rfl:(Bv k).fn x=aE (aB (aB Dp 373 (qI k)) 385 (zI k)) Tryz.f384 am5 (Bv k).toSig x)) rfl
def amF:An:=.s .z (.s .z (.j ⟨[0,2,3],[],[(0,c30),(3,c29)],[]⟩ true (.u (.l ⟨[0,2,3],[],[(0,c30),(3,c29)],[]⟩ (.s .z (.u (.s .z (.j ⟨[0,2,3],[(4,.lf (.sc pi))],[],[]⟩ true .z (.s .z (.k [0,1000000] [] [])))))))) .z))
def F7(k:Nat):Ctr:=⟨⟨c36,[bB,aH],1,[0],[⟨none,false,true⟩,⟨some 387,false,false⟩]⟩,λx=>lv (dy k) x⟩
theorem abW(k:Nat)(h:(qI k).sound Tryz.prog 373):(F7 k).sound Tryz.prog 381:=ai (aj (aj (aj xu h) (Co k h)) (Jm k h)) au Tryz.func381 (by kernel_rfl) (an:=amF) (λx=>(by kernel_rfl:(F7 k).fn x=aE (aB (aB (aB Dp 373 (qI k)) 385 (zI k)) 384 (Bv k)) Tryz.f381 amF (F7 k).toSig x)) rfl
theorem uW:∀k,(qI k).sound Tryz.prog 373
 |0=>λx r h=>by have a:none=some r:=h;cases a
 |k+1=>ai (aj (aj (aj (aj xu (uW k)) (Co k (uW k))) (Jm k (uW k))) (abW k (uW k))) au Tryz.func373 (by kernel_rfl) (an:=apu) (λx=>(by kernel_rfl:(qI (k+1)).fn x=aE (aB (aB (aB (aB Dp 373 (qI k)) 385 (zI k)) 384 (Bv k)) 381 (F7 k)) Tryz.f373 apu (qI (k+1)).toSig x)) rfl
theorem ah0:aph.sound Tryz.prog 373:=uW 64
def Yx:Cx:=aB Dp 373 aph
theorem Nt:Qq0 Yx:=aj xu ah0
def amk:An:=.s .z (.s (.s .z (.s (.s .z (.s .z (.s (.k [0,1000000] [] []) .z))) .z)) (.s .z (.s (.k [0,1000000] [] []) (.s .z (.s (.k [0,1000000] [] []) .z)))))
def Kk:Ctr:=⟨⟨c34,[bB,aH],1,[0],[⟨some 293,false,true⟩,⟨some 387,false,false⟩]⟩,λx=>oc x.1 x.2⟩
def abk:Cx:=aB Yx 374 Kk
theorem ST:Qq0 abk:=aj Nt (Qq2 Nt Tryz.func374 (by kernel_rfl) amk (λx=>by kernel_rfl) rfl)
def ap1:An:=.s .z (.s .z (.j ⟨[0,1,4],[(5,.lf (.sc pi))],[],[]⟩ true (.u (.l ⟨[0,1,4],[(5,.lf (.sc pi))],[],[]⟩ .z)) (Qq1 3 (.j ⟨[0,4,6,5],[],[(0,c30),(6,c32)],[]⟩ true (.s .z (.u (.j ⟨[0,4,6,33],[(34,.lf (.sc .bool))],[],[]⟩ true .z (.s .z (.j ⟨[0,4,6,33],[(42,.lf (.sc .bool))],[],[]⟩ true .z (.s (.s .z (.k [0,1000000] [] [])) (.j ⟨[0,4,6,33],[(55,.lf (.sc .bool))],[],[]⟩ true .z (.s (.s .z (.k [0,1000000] [] [])) (.s .z (.s .z (.s .z (.s .z (.s .z (.s .z (.s .z (.s .z (.s .z (.s (.k [0,1000000] [] []) .z)))))))))))))))))) .z))))
def M2:Ctr:=⟨⟨c34,[bB,aH],1,[0],[⟨some 293,false,true⟩,⟨some 387,false,false⟩]⟩,λx=>nY x.1 x.2⟩
def FQ:Cx:=aB abk 358 M2
theorem AG:Qq0 FQ:=aj ST (Qq2 ST Tryz.func358 (by kernel_rfl) ap1 (λx=>by kernel_rfl) rfl)
def apx:An:=Qq1 3 (.j ⟨[0,2,3],[],[(0,c30),(3,c32)],[]⟩ true (.u (.l ⟨[0,2,3],[],[(0,c30),(3,c32)],[]⟩ (.s .z (.u (.k [0,1000000] [] []))))) .z)
def vd(a:Nat):Ctr:=⟨⟨c36,[bB,aH],1,[0],[⟨none,false,true⟩,⟨some 387,false,false⟩]⟩,λx=>ee a x⟩
def al2:Ctr:=⟨⟨c36,[bB,aH],1,[0],[⟨none,false,true⟩,⟨some 387,false,false⟩]⟩,λx=>oM x⟩
def an2:An:=Qq1 3 (.j ⟨[0,4,5,1],[],[(5,c32)],[]⟩ true .z (.s (.k [0,1000000] [] []) (.s (.k [0,1000000] [] []) (.j ⟨[0,4,5],[],[(0,c30),(5,[.sc pi,.sc .str,.sc pi,.own .node 293 false [1000005]])],[]⟩ true (.s (.k [0,1000000,3000004,3000005] [] []) (.s (.k [0,1000000] [] []) .z)) .z))))
def De(k:Nat):Ctr:=⟨⟨c34,[bB,aH],1,[0],[⟨some 293,false,true⟩,⟨some 387,false,false⟩]⟩,λx=>nX (ee k) x.1 x.2⟩
theorem IH(k:Nat)(h:(vd k).sound Tryz.prog 303):(De k).sound Tryz.prog 357:=ai (aj AG h) au Tryz.func357 (by kernel_rfl) (an:=an2) (λx=>(by kernel_rfl:(De k).fn x=aE (aB FQ 303 (vd k)) Tryz.f357 an2 (De k).toSig x)) rfl
def aoZ:An:=.z
def GH(k:Nat):Ctr:=⟨⟨c36,[bB,aH],1,[0],[⟨some 293,false,true⟩,⟨some 387,false,false⟩]⟩,λx=>py (ee k) x⟩
theorem acs(k:Nat)(h:(vd k).sound Tryz.prog 303):(GH k).sound Tryz.prog 336:=ai (aj (aj AG h) (IH k h)) au Tryz.func336 (by kernel_rfl) (an:=aoZ) (λx=>(by kernel_rfl:(GH k).fn x=aE (aB (aB FQ 303 (vd k)) 357 (De k)) Tryz.f336 aoZ (GH k).toSig x)) rfl
theorem xS:∀k,(vd k).sound Tryz.prog 303
 |0=>λx r h=>by have a:none=some r:=h;cases a
 |k+1=>ai (aj (aj (aj AG (xS k)) (IH k (xS k))) (acs k (xS k))) au Tryz.func303 (by kernel_rfl) (an:=apx) (λx=>(by kernel_rfl:(vd (k+1)).fn x=aE (aB (aB (aB FQ 303 (vd k)) 357 (De k)) 336 (GH k)) Tryz.f303 apx (vd (k+1)).toSig x)) rfl
theorem aiX:al2.sound Tryz.prog 303:=xS 64
def Z2:Cx:=aB FQ 303 al2
theorem N5:Qq0 Z2:=aj AG aiX
def anP:An:=Qq1 3 (.j ⟨[0,2,3],[(4,.lf (.sc pi))],[],[]⟩ true (.u (.l ⟨[0,2,3],[(4,.lf (.sc pi))],[],[]⟩ .z)) (.s .z (.s .z (.s .z (.j ⟨[0,2,5,4],[],[(0,c30),(5,c32)],[]⟩ false (.s .z (.u (.s .z (.s .z (.s .z (.s .z (.s .z (.s (.s .z (.j ⟨[0,2,5],[],[(0,c30),(5,c32)],[]⟩ true (.u (.l ⟨[0,2,5],[],[(0,c30),(5,c32)],[]⟩ .z)) .z)) (.j ⟨[0,2,5,38],[(84,.lf (.sc .bool))],[],[]⟩ true .z (.s (.s (.k [0,1000000] [] []) .z) .z)))))))))) .z)))))
def Kp:Ctr:=⟨⟨c36,[bB,aH],1,[0],[⟨some 293,false,true⟩,⟨some 387,false,false⟩]⟩,λx=>qo x⟩
def Xl:Cx:=aB Z2 232 Kp
theorem NS:Qq0 Xl:=aj N5 (Qq2 N5 Tryz.func232 (by kernel_rfl) anP (λx=>by kernel_rfl) rfl)
def anI:An:=.s .z (.s .z (.j ⟨[1],[(3,.lf (.sc pi))],[],[]⟩ true (.s .z (.u (.l ⟨[1],[(3,.lf (.sc pi)),(4,.lf (.sc pi))],[],[]⟩ .z))) .z))
def Gz(a:Nat):Ctr:=⟨⟨[.d bB],[(.sc pi)],1,[],[]⟩,λx=>ml a x⟩
def apU:Ctr:=⟨⟨[.d bB],[(.sc pi)],1,[],[]⟩,λx=>u6 x⟩
theorem IS:∀k,(Gz k).sound Tryz.prog 233
 |0=>λx r h=>by have a:none=some r:=h;cases a
 |k+1=>ai (aj NS (IS k)) au Tryz.func233 (by kernel_rfl) (an:=anI) (λx=>(by kernel_rfl:(Gz (k+1)).fn x=aE (aB Xl 233 (Gz k)) Tryz.f233 anI (Gz (k+1)).toSig x)) rfl
theorem agq:apU.sound Tryz.prog 233:=IS 64
def abe:Cx:=aB Xl 233 apU
theorem Qk:Qq0 abe:=aj NS agq
def apH:An:=.s .z (.j ⟨[1],[],[],[]⟩ false (.s .z (.u (.j ⟨[4],[(5,.lf (.sc .bool))],[],[]⟩ true .z (.s .z (.j ⟨[4],[(9,.lf (.sc .bool))],[],[]⟩ true .z .z))))) .z)
def JV:Ctr:=⟨⟨[.d bB],[(.sc pi)],1,[],[]⟩,λx=>vj x⟩
def LH:Cx:=aB abe 383 JV
theorem EF:Qq0 LH:=aj Qk (Qq2 Qk Tryz.func383 (by kernel_rfl) apH (λx=>by kernel_rfl) rfl)
def aof:An:=.s .z (.j ⟨[1],[],[],[]⟩ false (.s .z (.u (Qq1 4 (.j ⟨[1,6],[(17,.lf (.sc .bool))],[],[]⟩ true .z .z)))) .z)
def zO(a:Nat):Ctr:=⟨⟨[.d bB],[(.sc .str)],1,[],[]⟩,λx=>jL a x⟩
def alr:Ctr:=⟨⟨[.d bB],[(.sc .str)],1,[],[]⟩,λx=>fj x⟩
def apL:An:=.z
def Gp(k:Nat):Ctr:=⟨⟨[.d bB,.d (.sc pi)],[(.sc .str)],1,[],[]⟩,λx=>cp (jL k) x.1 x.2⟩
theorem aca(k:Nat)(h:(zO k).sound Tryz.prog 359):(Gp k).sound Tryz.prog 376:=ai (aj EF h) au Tryz.func376 (by kernel_rfl) (an:=apL) (λx=>(by kernel_rfl:(Gp k).fn x=aE (aB LH 359 (zO k)) Tryz.f376 apL (Gp k).toSig x)) rfl
theorem Cg:∀k,(zO k).sound Tryz.prog 359
 |0=>λx r h=>by have a:none=some r:=h;cases a
 |k+1=>ai (aj (aj EF (Cg k)) (aca k (Cg k))) au Tryz.func359 (by kernel_rfl) (an:=aof) (λx=>(by kernel_rfl:(zO (k+1)).fn x=aE (aB (aB LH 359 (zO k)) 376 (Gp k)) Tryz.f359 aof (zO (k+1)).toSig x)) rfl
theorem afh:alr.sound Tryz.prog 359:=Cg 64
def M5:Cx:=aB LH 359 alr
theorem E2:Qq0 M5:=aj EF afh
def alP:An:=.s .z (.s .z (.j ⟨[1],[(3,.lf (.sc .str))],[],[]⟩ true (.s .z (.u (.l ⟨[1],[(3,.lf (.sc .str)),(4,.lf (.sc pi))],[],[]⟩ .z))) .z))
def zp(a:Nat):Ctr:=⟨⟨[.d bB],[(.sc .str)],1,[],[]⟩,λx=>jA a x⟩
def alE:Ctr:=⟨⟨[.d bB],[(.sc .str)],1,[],[]⟩,λx=>vM x⟩
def apm:An:=.s .z (.s .z (.s (.s .z (.u (Qq1 7 (.s (.s .z (.j ⟨[3],[(4,.lf (.sc .str))],[],[]⟩ true .z .z)) .z)))) (.s .z (.j ⟨[1,5,3],[],[],[]⟩ false (.s .z (.u (.j ⟨[1,3,5,78],[(79,.lf (.sc .bool))],[],[]⟩ true .z (.s .z (.j ⟨[1,3,5,78],[(90,.lf (.sc .bool))],[],[]⟩ true .z .z))))) .z))))
def FX(k:Nat):Ctr:=⟨⟨[.d bB],[(.sc .str)],1,[],[]⟩,λx=>vI (jA k) x⟩
theorem adK(k:Nat)(h:(zp k).sound Tryz.prog 305):(FX k).sound Tryz.prog 337:=ai (aj E2 h) au Tryz.func337 (by kernel_rfl) (an:=apm) (λx=>(by kernel_rfl:(FX k).fn x=aE (aB M5 305 (zp k)) Tryz.f337 apm (FX k).toSig x)) rfl
theorem BI:∀k,(zp k).sound Tryz.prog 305
 |0=>λx r h=>by have a:none=some r:=h;cases a
 |k+1=>ai (aj (aj E2 (BI k)) (adK k (BI k))) au Tryz.func305 (by kernel_rfl) (an:=alP) (λx=>(by kernel_rfl:(zp (k+1)).fn x=aE (aB (aB M5 305 (zp k)) 337 (FX k)) Tryz.f305 alP (zp (k+1)).toSig x)) rfl
theorem ajM:alE.sound Tryz.prog 305:=BI 64
def aaG:Cx:=aB M5 305 alE
theorem Nb:Qq0 aaG:=aj E2 ajM
def ao6:An:=.s .z (.s .z (.j ⟨[1],[(3,.lf (.sc .str))],[],[]⟩ false (.s .z (.u (Qq1 4 (.j ⟨[1,3,15],[(34,.lf (.sc .bool))],[],[]⟩ true .z (.s .z (.s .z (.s (.s .z (.j ⟨[1],[(3,.lf (.sc .str))],[],[]⟩ true (.s .z (.u (.l ⟨[1],[(3,.lf (.sc .str)),(4,.lf (.sc pi))],[],[]⟩ .z))) .z)) .z))))))) .z))
def Km:Ctr:=⟨⟨[.d bB],[(.sc .str)],1,[],[]⟩,λx=>vK x⟩
def YZ:Cx:=aB aaG 234 Km
theorem R7:Qq0 YZ:=aj Nb (Qq2 Nb Tryz.func234 (by kernel_rfl) ao6 (λx=>by kernel_rfl) rfl)
def aoH:An:=Qq1 5 (.s (.s .z (.s (.s (.s .z (.s (.s (.k [2] [] []) .z) .z)) (.s (.k [2] [] []) .z)) .z)) (.s (.s .z (.s (.s (.k [2] [] []) .z) .z)) .z))
def J6:Ctr:=⟨⟨[.d (.sc .str)],[bB,(.sc pi),(.sc pi)],3,[],[⟨some 293,false,true⟩]⟩,λx=>gK x⟩
def WF:Cx:=aB YZ 154 J6
theorem Nc:Qq0 WF:=aj R7 (Qq2 R7 Tryz.func154 (by kernel_rfl) aoH (λx=>by kernel_rfl) rfl)
end
end Go.Proofs.YtgghcmbaidihjaaGreatDoor
