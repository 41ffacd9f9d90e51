/- Laws for the row. No condition. -/
import Derived.Test.YtfhhiajfciblbaaGreatDoorCtC
namespace Go.Proofs.YtfhhiajfciblbaaGreatDoor
open Go.Sm
set_option maxRecDepth 100000
set_option linter.unusedSectionVars false
section
variable [Itr] [SortLaw]
def ag9:An:=Qq1 15 (.j ⟨[8,12,16],[],[(12,c10)],[15]⟩ true (.s .z (.u (.l ⟨[8,12,15,16],[(18,.lf (.sc pi))],[(12,c10)],[]⟩ .z))) (.s .z (.s (.k [16] [] []) .z)))
def OO:Ctr:=⟨⟨[.d bw,.d fW,.d bQ,.d (.sc pi)],[bQ,(.slice aK),(.sc pi)],3,[],[⟨some 1870727804774333205280220053689557385530553472647298,false,false⟩,⟨some 3,false,false⟩,⟨some 360314358468706326,false,false⟩,⟨some 3,false,false⟩,⟨some 3,false,false⟩,⟨some 149,false,false⟩]⟩,fun x=>d6 x.1 x.2.1 x.2.2.1 x.2.2.2⟩
def YE:Cx:=aI Zx 25 OO
theorem NS:Qq0 YE:=ai NM (Qq2 NM Tryz.func25 (by kernel_rfl) ag9 (fun x=>by kernel_rfl) rfl)
def ag1:An:=.z
def Ol:Ctr:=⟨⟨[.d bw,.d fW,.d bQ],[fF,(.sc pi)],2,[],[⟨some 3,false,false⟩]⟩,fun x=>mb x.1 x.2.1 x.2.2⟩
def Zn:Cx:=aI YE 20 Ol
theorem My:Qq0 Zn:=ai NS (Qq2 NS Tryz.func20 (by kernel_rfl) ag1 (fun x=>by kernel_rfl) rfl)
def ahE:An:=.s .z (.j ⟨[1],[(0,.lf (.sc pi))],[],[]⟩ true .z .z)
def Rd:Ctr:=⟨⟨[.d (.sc pi),.d (.sc pi)],[(.sc pi)],1,[],[]⟩,fun x=>eO x.1 x.2⟩
def Yz:Cx:=aI Zn 11 Rd
theorem Mo:Qq0 Yz:=ai My (Qq2 My Tryz.func11 (by kernel_rfl) ahE (fun x=>by kernel_rfl) rfl)
def an9:An:=.z
def ct9:Ctr:=⟨⟨[.d (.sc pi)],[fW],1,[],[]⟩,fun x=>mJ x⟩
def cx9:Cx:=aI Yz 9 ct9
theorem TE:Qq0 cx9:=ai Mo (Qq2 Mo Tryz.func9 (by kernel_rfl) an9 (fun x=>by kernel_rfl) rfl)
def agR:An:=.s .z (.s .z (.j ⟨[1,2],[(5,.lf (.own aA 101 false []))],[],[]⟩ true (.s .z (.u (.l ⟨[1,2],[(5,.lf (.own aA 101 false [])),(6,.lf (.sc pi))],[],[]⟩ (.s .z (.j ⟨[1,2,6],[(5,.lf (.own aA 101 false []))],[],[]⟩ true (.u (.s .z (.s .z (.j ⟨[1,2,5,6,7,8],[],[(8,[.sc .str,.sc pi])],[]⟩ true .z (.j ⟨[1,2,5,6,8,7],[],[(8,[.sc .str,.sc pi])],[]⟩ true .z .z))))) .z))))) .z))
def QU:Ctr:=⟨⟨[.d bw,.d (.slice (.sc pi))],[(.slice aA)],1,[],[⟨some 101,false,false⟩]⟩,fun x=>lF x.1 x.2⟩
def VZ:Cx:=aI cx9 10 QU
theorem Mi:Qq0 VZ:=ai TE (Qq2 TE Tryz.func10 (by kernel_rfl) agR (fun x=>by kernel_rfl) rfl)
def afK:An:=.s .z (.s .z (.j ⟨[2,3,1],[],[(3,c25)],[]⟩ true (.s .z (.u (.l ⟨[1,2,3],[(4,.lf (.sc pi))],[(3,c25)],[]⟩ (.s .z (.j ⟨[1,2,3,4],[],[(3,[.own aE 130 true [1000003],.rep (.sc pi) true [1000003],.rep (.slice (.sc pi)) true [1000003],.rep (.sc pi) true [1000003],.rep (.sc pi) true [1000003],.sc pi,.sc pi,.sc pi,.sc pi,.sc pi,.sc pi,.sc pi,.sc pi,.sc .str])],[]⟩ true (.u (.s .z (.j ⟨[1,2,3,4,5],[],[(5,c39)],[]⟩ true (.s .z (.u (.l ⟨[1,2,3,4,5],[(6,.lf (.sc pi))],[(5,c39)],[]⟩ .z))) .z))) .z))))) .z))
def Om:Ctr:=⟨⟨[.d dp],[bQ],1,[],[⟨some 130,true,true⟩,⟨none,true,true⟩,⟨none,true,true⟩,⟨none,true,true⟩,⟨none,true,true⟩]⟩,fun x=>lI x⟩
def YV:Cx:=aI VZ 16 Om
theorem M5:Qq0 YV:=ai Mi (Qq2 Mi Tryz.func16 (by kernel_rfl) afK (fun x=>by kernel_rfl) rfl)
def ag5:An:=.s .z (.s .z (.j ⟨[0,1],[],[],[]⟩ false (.s .z (.u (.l ⟨[0,1],[(5,.lf (.sc pi))],[],[]⟩ .z))) .z))
def OS:Ctr:=⟨⟨[.d (.slice (.sc pi)),.d (.slice (.sc pi))],[(.sc .bool)],1,[],[]⟩,fun x=>cG x.1 x.2⟩
def Xv:Cx:=aI YV 30 OS
theorem Oa:Qq0 Xv:=ai M5 (Qq2 M5 Tryz.func30 (by kernel_rfl) ag5 (fun x=>by kernel_rfl) rfl)
def afV:An:=.s .z (.s .z (.j ⟨[2,3],[],[],[]⟩ false (.s .z (.u (.l ⟨[2,3],[(5,.lf (.sc pi))],[],[]⟩ (.s .z (.j ⟨[2,3,5],[],[],[]⟩ false (.u (Qq1 4 (.u (.l ⟨[2,3,5,6,7],[(8,.lf (.sc pi))],[],[]⟩ .z)))) .z))))) (.j ⟨[2,3],[],[],[]⟩ false (.s .z (.u (.l ⟨[2,3],[(9,.lf (.sc pi))],[],[]⟩ .z))) .z)))
def Rv:Ctr:=⟨⟨[.d bQ,.d bQ],[(.sc .bool)],1,[],[]⟩,fun x=>mc x.1 x.2⟩
def W3:Cx:=aI Xv 15 Rv
theorem N1:Qq0 W3:=ai Oa (Qq2 Oa Tryz.func15 (by kernel_rfl) afV (fun x=>by kernel_rfl) rfl)
def agm:An:=.z
def O5:Ctr:=⟨⟨[.d (.slice (.sc pi)),.d (.sc pi),.d (.sc pi)],[(.sc pi)],1,[],[]⟩,fun x=>ig x.1 x.2.1 x.2.2⟩
def Ve:Cx:=aI W3 23 O5
theorem M0:Qq0 Ve:=ai N1 (Qq2 N1 Tryz.func23 (by kernel_rfl) agm (fun x=>by kernel_rfl) rfl)
def aaq:An:=.z
def BI (k_:Nat):Ctr:=⟨⟨[.d (.sc pi)],[(.sc .str)],1,[],[]⟩,fun x=>kK k_ x⟩
def abl:Ctr:=⟨⟨[.d (.sc pi)],[(.sc .str)],1,[],[]⟩,fun x=>dF x⟩
theorem Ep : ∀ k,(BI k).sound Tryz.prog 194
 | 0=>fun x r h=>by
  have h1:none=some r:=h
  cases h1
 | k+1=>aj (ai M0 (Ep k)) aq Tryz.func194 (by kernel_rfl) (an:=aaq) (fun x=>(by kernel_rfl:(BI (k+1)).fn x=aL (aI Ve 194 (BI k)) Tryz.f194 aaq (BI (k+1)).toSig x)) rfl
theorem YC:abl.sound Tryz.prog 194:=Ep 64
def Q8:Cx:=aI Ve 194 abl
theorem JH:Qq0 Q8:=ai M0 YC
def acK:An:=.z
def Gt:Ctr:=⟨⟨[.d (.sc pi)],[(.sc .str)],1,[],[]⟩,fun x=>dl x⟩
def QI:Cx:=aI Q8 155 Gt
theorem KX:Qq0 QI:=ai JH (Qq2 JH Tryz.func155 (by kernel_rfl) acK (fun x=>by kernel_rfl) rfl)
def acN:An:=.s .z (.s .z (.j ⟨[1],[(5,.lf (.own (.sc (.int .u8)) 1048581 false []))],[],[]⟩ true (.s .z (.u (.l ⟨[1],[(5,.lf (.own (.sc (.int .u8)) 1048581 false [])),(6,.lf (.sc pi))],[],[]⟩ (.s .z (.j ⟨[1,6],[(5,.lf (.own (.sc (.int .u8)) 1048581 false []))],[],[]⟩ true .z .z))))) .z))
def GD:Ctr:=⟨⟨[.d (.sc .str),.d (.sc pi)],[(.sc .str)],1,[],[]⟩,fun x=>rg x.1 x.2⟩
def QV:Cx:=aI QI 200 GD
theorem I9:Qq0 QV:=ai KX (Qq2 KX Tryz.func200 (by kernel_rfl) acN (fun x=>by kernel_rfl) rfl)
def acC:An:=.z
def Fc:Ctr:=⟨⟨[.d (.sc .str),.d (.sc .str),.d (.sc pi),.d (.sc .str)],[cp],1,[],[]⟩,fun x=>ua x.1 x.2.1 x.2.2.1 x.2.2.2⟩
def Re:Cx:=aI QV 199 Fc
theorem JF:Qq0 Re:=ai I9 (Qq2 I9 Tryz.func199 (by kernel_rfl) acC (fun x=>by kernel_rfl) rfl)
def acv:An:=.s .z (.s .z (.j ⟨[0,1],[(5,.lf (.own cp 132 false []))],[],[]⟩ true (.s .z (.u (.l ⟨[0,1],[(5,.lf (.own cp 132 false [])),(6,.lf (.sc pi))],[],[]⟩ .z))) .z))
def Gi:Ctr:=⟨⟨[.d (.sc pi),.d (.slice (.arr 3 .str))],[(.slice cp)],1,[],[⟨some 132,false,false⟩]⟩,fun x=>cF x.1 x.2⟩
def Pi:Cx:=aI Re 154 Gi
theorem Iq:Qq0 Pi:=ai JF (Qq2 JF Tryz.func154 (by kernel_rfl) acv (fun x=>by kernel_rfl) rfl)
def acX:An:=.z
def G1:Ctr:=⟨⟨[.d (.sc pi),.d (.sc pi),.d (.sc pi)],[(.slice cp)],1,[],[⟨some 132,false,false⟩]⟩,fun x=>cq x.1 x.2.1 x.2.2⟩
def OL:Cx:=aI Pi 153 G1
theorem Ix:Qq0 OL:=ai Iq (Qq2 Iq Tryz.func153 (by kernel_rfl) acX (fun x=>by kernel_rfl) rfl)
def ahY:An:=.s .z (.j ⟨[1,2,0],[],[],[]⟩ false (.s .z (.u (.j ⟨[0,1,2,7],[(8,.lf (.sc .bool))],[],[]⟩ true .z .z))) .z)
def OJ:Ctr:=⟨⟨[.d (.sc pi),.d (.sc pi),.d (.sc pi)],[(.slice cp)],1,[],[⟨some 132,false,false⟩]⟩,fun x=>cu x.1 x.2.1 x.2.2⟩
def XH:Cx:=aI OL 94 OJ
theorem NZ:Qq0 XH:=ai Ix (Qq2 Ix Tryz.func94 (by kernel_rfl) ahY (fun x=>by kernel_rfl) rfl)
def afD:An:=.s .z (.s .z (.j ⟨[0,1],[(5,.lf (.own cp 132 false []))],[],[]⟩ true (.s .z (.u (.l ⟨[0,1],[(5,.lf (.own cp 132 false [])),(6,.lf (.sc pi))],[],[]⟩ (.s .z (.j ⟨[0,1,6],[(5,.lf (.own cp 132 false []))],[],[]⟩ true (.u (.s .z (.j ⟨[0,1,5,6],[(7,.lf (.sc pi))],[],[]⟩ true .z .z))) .z))))) .z))
def Pf:Ctr:=⟨⟨[.d (.slice cp),.d (.sc pi)],[(.slice cp)],1,[],[⟨some 132,false,false⟩]⟩,fun x=>nK x.1 x.2⟩
def WL:Cx:=aI XH 95 Pf
theorem Mq:Qq0 WL:=ai NZ (Qq2 NZ Tryz.func95 (by kernel_rfl) afD (fun x=>by kernel_rfl) rfl)
def afT:An:=Qq1 3 (.j ⟨[0],[(3,.lf (.own cp 132 false []))],[],[4]⟩ true (.s .z (.u (.l ⟨[0],[(3,.lf (.own cp 132 false [])),(4,.lf (.sc .bool)),(5,.lf (.sc pi))],[],[]⟩ (.s .z (.j ⟨[0,5],[(3,.lf (.own cp 132 false [])),(4,.lf (.sc .bool))],[],[]⟩ true .z .z))))) .z)
def Su:Ctr:=⟨⟨[.d (.slice (.sc pi))],[(.slice cp)],1,[],[⟨some 132,false,false⟩]⟩,fun x=>j8 x⟩
def ZX:Cx:=aI WL 40 Su
theorem Nw:Qq0 ZX:=ai Mq (Qq2 Mq Tryz.func40 (by kernel_rfl) afT (fun x=>by kernel_rfl) rfl)
def acS:An:=.z
def Hh:Ctr:=⟨⟨[.d (.sc .str),.d (.sc pi)],[(.sc .bool)],1,[],[]⟩,fun x=>iL x.1 x.2⟩
def SN:Cx:=aI ZX 231 Hh
theorem Lc:Qq0 SN:=ai Nw (Qq2 Nw Tryz.func231 (by kernel_rfl) acS (fun x=>by kernel_rfl) rfl)
def aay:An:=.z
def FC:Ctr:=⟨⟨[.d (.sc .str),.d (.sc pi)],[(.sc .bool)],1,[],[]⟩,fun x=>gy x.1 x.2⟩
def Oz:Cx:=aI SN 233 FC
theorem I0:Qq0 Oz:=ai Lc (Qq2 Lc Tryz.func233 (by kernel_rfl) aay (fun x=>by kernel_rfl) rfl)
def acs:An:=Qq1 3 (.j ⟨[1,0],[(5,.lf (.sc pi))],[],[]⟩ true (.u (.l ⟨[0,1],[(5,.lf (.sc pi))],[],[]⟩ .z)) .z)
def GU:Ctr:=⟨⟨[.d (.sc .str),.d (.sc pi)],[(.sc pi)],1,[],[]⟩,fun x=>oT x.1 x.2⟩
def Sw:Cx:=aI Oz 232 GU
theorem HK:Qq0 Sw:=ai I0 (Qq2 I0 Tryz.func232 (by kernel_rfl) acs (fun x=>by kernel_rfl) rfl)
def abj:An:=.s .z (.s .z (.j ⟨[0,3],[],[],[]⟩ false (.s .z (.u (.l ⟨[0,3],[(4,.lf (.sc pi))],[],[]⟩ .z))) .z))
def G7:Ctr:=⟨⟨[.d (.sc (.int .u8))],[(.sc .bool)],1,[],[]⟩,fun x=>sO x⟩
def Qh:Cx:=aI Sw 234 G7
theorem Hm:Qq0 Qh:=ai HK (Qq2 HK Tryz.func234 (by kernel_rfl) abj (fun x=>by kernel_rfl) rfl)
def abq:An:=Qq1 3 (.j ⟨[0,1],[],[],[]⟩ false (.s .z (.s (.s .z (.j ⟨[1,0],[(5,.lf (.sc pi))],[],[]⟩ true (.u (.l ⟨[0,1],[(5,.lf (.sc pi))],[],[]⟩ .z)) .z)) .z)) .z)
def Fe:Ctr:=⟨⟨[.d (.sc .str),.d (.sc pi)],[(.sc pi)],1,[],[]⟩,fun x=>sJ x.1 x.2⟩
def QB:Cx:=aI Qh 186 Fe
theorem J5:Qq0 QB:=ai Hm (Qq2 Hm Tryz.func186 (by kernel_rfl) abq (fun x=>by kernel_rfl) rfl)
def aan:An:=Qq1 3 (.j ⟨[0],[(4,.lf (.own bo 240 false [])),(5,.lf (.sc pi))],[],[]⟩ false (.u (.l ⟨[0],[(4,.lf (.own bo 240 false [])),(5,.lf (.sc pi))],[],[]⟩ .z)) .z)
def FR:Ctr:=⟨⟨[.d (.sc .str)],[(.slice bo),(.sc pi)],2,[],[⟨some 240,false,false⟩]⟩,fun x=>sM x⟩
def O3:Cx:=aI QB 146 FR
theorem Kc:Qq0 O3:=ai J5 (Qq2 J5 Tryz.func146 (by kernel_rfl) aan (fun x=>by kernel_rfl) rfl)
def acz:An:=.z
def G5:Ctr:=⟨⟨[.box false aH []],[(.sc .str)],1,[],[]⟩,fun x=>bO x⟩
def SH:Cx:=aI O3 187 G5
theorem K6:Qq0 SH:=ai Kc (Qq2 Kc Tryz.func187 (by kernel_rfl) acz (fun x=>by kernel_rfl) rfl)
def abD:An:=.z
def E3:Ctr:=⟨⟨[],[(.slice (.sc .str))],1,[],[⟨some 9,false,false⟩]⟩,fun _=>iG ⟩
def Ow:Cx:=aI SH 188 E3
theorem KO:Qq0 Ow:=ai K6 (Qq2 K6 Tryz.func188 (by kernel_rfl) abD (fun x=>by kernel_rfl) rfl)
def Z6:An:=.z
def Gm:Ctr:=⟨⟨[],[(.slice (.sc .str))],1,[],[⟨some 9,false,false⟩]⟩,fun _=>sn ⟩
def RN:Cx:=aI Ow 249 Gm
theorem Ks:Qq0 RN:=ai KO (Qq2 KO Tryz.func249 (by kernel_rfl) Z6 (fun x=>by kernel_rfl) rfl)
def acR:An:=.s .z (.j ⟨[0,1],[],[],[]⟩ false (.s .z (.u (.l ⟨[0,1],[(5,.lf (.sc pi))],[],[]⟩ .z))) .z)
def E6:Ctr:=⟨⟨[.d (.slice (.sc .str)),.d (.sc .str)],[(.sc .bool)],1,[],[]⟩,fun x=>eU x.1 x.2⟩
def SG:Cx:=aI RN 183 E6
theorem HL:Qq0 SG:=ai Ks (Qq2 Ks Tryz.func183 (by kernel_rfl) acR (fun x=>by kernel_rfl) rfl)
def ZY:An:=.z
def FN:Ctr:=⟨⟨[.d (.sc .str)],[(.sc .bool)],1,[],[]⟩,fun x=>rd x⟩
def O0:Cx:=aI SG 235 FN
theorem JZ:Qq0 O0:=ai HL (Qq2 HL Tryz.func235 (by kernel_rfl) ZY (fun x=>by kernel_rfl) rfl)
def abu:An:=.z
def Gp:Ctr:=⟨⟨c46,[(.sc .str),aH],1,[0],[⟨some 240,false,false⟩]⟩,fun x=>cV x⟩
def OE:Cx:=aI O0 189 Gp
theorem IN:Qq0 OE:=ai JZ (Qq2 JZ Tryz.func189 (by kernel_rfl) abu (fun x=>by kernel_rfl) rfl)
def abb:An:=.z
def FA:Ctr:=⟨⟨c44,[(.sc .bool),aH],1,[0],[⟨some 240,false,false⟩]⟩,fun x=>cS x.1 x.2⟩
def OV:Cx:=aI OE 236 FA
theorem Hw:Qq0 OV:=ai IN (Qq2 IN Tryz.func236 (by kernel_rfl) abb (fun x=>by kernel_rfl) rfl)
def abg:An:=.z
def F6:Ctr:=⟨⟨c44,[aH],0,[0],[⟨some 240,false,false⟩]⟩,fun x=>bP x.1 x.2⟩
def Px:Cx:=aI OV 190 F6
theorem JJ:Qq0 Px:=ai Hw (Qq2 Hw Tryz.func190 (by kernel_rfl) abg (fun x=>by kernel_rfl) rfl)
def aac:An:=.s .z (.s .z (.j ⟨[0],[(3,.lf (.sc pi))],[],[]⟩ true (.s .z (.u (.l ⟨[0],[(3,.lf (.sc pi)),(4,.lf (.sc pi))],[],[]⟩ .z))) .z))
def Ft:Ctr:=⟨⟨[.d (.sc .str)],[(.sc pi)],1,[],[]⟩,fun x=>si x⟩
def Q2:Cx:=aI Px 237 Ft
theorem KN:Qq0 Q2:=ai JJ (Qq2 JJ Tryz.func237 (by kernel_rfl) aac (fun x=>by kernel_rfl) rfl)
def aaX:An:=.z
def Gc:Ctr:=⟨⟨[.box true aH [some 240],.d (.sc pi),.d (.sc pi)],[(.sc pi),aH],1,[0],[⟨some 240,false,false⟩]⟩,fun x=>cA x.1 x.2.1 x.2.2⟩
def QJ:Cx:=aI Q2 192 Gc
theorem Lb:Qq0 QJ:=ai KN (Qq2 KN Tryz.func192 (by kernel_rfl) aaX (fun x=>by kernel_rfl) rfl)
def abG:An:=.z
def EU:Ctr:=⟨⟨c46,[(.sc pi),aH],1,[0],[⟨some 240,false,false⟩]⟩,fun x=>jH x⟩
def Ru:Cx:=aI QJ 191 EU
theorem I5:Qq0 Ru:=ai Lb (Qq2 Lb Tryz.func191 (by kernel_rfl) abG (fun x=>by kernel_rfl) rfl)
def aaR:An:=.z
def G2:Ctr:=⟨⟨c46,[(.sc .str),aH],1,[0],[⟨some 240,false,false⟩]⟩,fun x=>dO x⟩
def RG:Cx:=aI Ru 256 G2
theorem HO:Qq0 RG:=ai I5 (Qq2 I5 Tryz.func256 (by kernel_rfl) aaR (fun x=>by kernel_rfl) rfl)
def abK:An:=.s .z (.s .z (.j ⟨[0,2,3],[],[(0,c42),(3,c43)],[]⟩ true (.s .z (.s (.s .z (.k [0,1000000] [] [])) .z)) .z))
def E0:Ctr:=⟨⟨c46,[bE,aH],1,[0],[⟨some 169,false,true⟩,⟨some 240,false,false⟩]⟩,fun x=>kf x⟩
def zc:Cx:=aI RG 259 E0
theorem tS:Qq0 zc:=ai HO (Qq2 HO Tryz.func259 (by kernel_rfl) abK (fun x=>by kernel_rfl) rfl)
def acQ:An:=Qq1 4 (.j ⟨[0,2,3],[],[(0,c42)],[4]⟩ false (.s .z (.u (.l ⟨[0,2,3,4],[(5,.lf (.sc pi))],[(0,c42)],[]⟩ (.s .z (.s (.u (.s .z (.s (.s (.k [0,1000000] [] []) .z) .z))) .z))))) .z)
def o0 (k_:Nat):Ctr:=⟨⟨c46,[bE,aH],1,[0],[⟨none,false,true⟩,⟨some 240,false,false⟩]⟩,fun x=>dm k_ x⟩
def aaP:Ctr:=⟨⟨c46,[bE,aH],1,[0],[⟨none,false,true⟩,⟨some 240,false,false⟩]⟩,fun x=>dS x⟩
def abP:An:=.z
def vL (k:Nat):Ctr:=⟨⟨c46,[bE,aH],1,[0],[⟨none,false,true⟩,⟨some 240,false,false⟩]⟩,fun x=>ku ( dm k) x⟩
theorem yG (k:Nat) (h:(o0 k).sound Tryz.prog 254):(vL k).sound Tryz.prog 262:=aj (ai tS h) aq Tryz.func262 (by kernel_rfl) (an:=abP) (fun x=>(by kernel_rfl:(vL k).fn x=aL (aI zc 254 (o0 k)) Tryz.f262 abP (vL k).toSig x)) rfl
def acw:An:=.s .z (.s .z (.j ⟨[0,2,3],[],[(0,c42),(3,c41)],[]⟩ true (.u (.l ⟨[0,2,3],[],[(0,c42),(3,c41)],[]⟩ (.s .z (.u (.k [0,1000000] [] []))))) .z))
def yP (k:Nat):Ctr:=⟨⟨c46,[bE,aH],1,[0],[⟨none,false,true⟩,⟨some 240,false,false⟩]⟩,fun x=>kJ ( dm k) x⟩
theorem Eg (k:Nat) (h:(o0 k).sound Tryz.prog 254):(yP k).sound Tryz.prog 261:=aj (ai (ai tS h) (yG k h)) aq Tryz.func261 (by kernel_rfl) (an:=acw) (fun x=>(by kernel_rfl:(yP k).fn x=aL (aI (aI zc 254 (o0 k)) 262 (vL k)) Tryz.f261 acw (yP k).toSig x)) rfl
def aaH:An:=.s .z (.s .z (.j ⟨[0,2,3],[],[(0,c42),(3,c41)],[]⟩ true (.u (.l ⟨[0,2,3],[],[(0,c42),(3,c41)],[]⟩ (.s .z (.u (.s .z (.j ⟨[0,2,3],[(4,.lf (.sc pi))],[],[]⟩ true .z (.s .z (.k [0,1000000] [] [])))))))) .z))
def Bn (k:Nat):Ctr:=⟨⟨c46,[bE,aH],1,[0],[⟨none,false,true⟩,⟨some 240,false,false⟩]⟩,fun x=>lj ( dm k) x⟩
theorem TQ (k:Nat) (h:(o0 k).sound Tryz.prog 254):(Bn k).sound Tryz.prog 258:=aj (ai (ai (ai tS h) (yG k h)) (Eg k h)) aq Tryz.func258 (by kernel_rfl) (an:=aaH) (fun x=>(by kernel_rfl:(Bn k).fn x=aL (aI (aI (aI zc 254 (o0 k)) 262 (vL k)) 261 (yP k)) Tryz.f258 aaH (Bn k).toSig x)) rfl
theorem rW : ∀ k,(o0 k).sound Tryz.prog 254
 | 0=>fun x r h=>by
  have h1:none=some r:=h
  cases h1
 | k+1=>aj (ai (ai (ai (ai tS (rW k)) (yG k (rW k))) (Eg k (rW k))) (TQ k (rW k))) aq Tryz.func254 (by kernel_rfl) (an:=acQ) (fun x=>(by kernel_rfl:(o0 (k+1)).fn x=aL (aI (aI (aI (aI zc 254 (o0 k)) 262 (vL k)) 261 (yP k)) 258 (Bn k)) Tryz.f254 acQ (o0 (k+1)).toSig x)) rfl
theorem XL:aaP.sound Tryz.prog 254:=rW 64
def Po:Cx:=aI zc 254 aaP
theorem JO:Qq0 Po:=ai tS XL
def abV:An:=.s .z (.s (.s .z (.s (.s .z (.s .z (.s (.k [0,1000000] [] []) .z))) .z)) (.s .z (.s (.k [0,1000000] [] []) (.s .z (.s (.k [0,1000000] [] []) .z)))))
def Fq:Ctr:=⟨⟨c44,[bE,aH],1,[0],[⟨some 169,false,true⟩,⟨some 240,false,false⟩]⟩,fun x=>nA x.1 x.2⟩
def Oy:Cx:=aI Po 255 Fq
theorem Hy:Qq0 Oy:=ai JO (Qq2 JO Tryz.func255 (by kernel_rfl) abV (fun x=>by kernel_rfl) rfl)
def ab0:An:=.s .z (.s .z (.j ⟨[0,1,4],[(5,.lf (.sc pi))],[],[]⟩ true (.u (.l ⟨[0,1,4],[(5,.lf (.sc pi))],[],[]⟩ .z)) (Qq1 3 (.j ⟨[0,4,6,5],[],[(0,c42),(6,c43)],[]⟩ true (.s .z (.u (.j ⟨[0,4,6,33],[(34,.lf (.sc .bool))],[],[]⟩ true .z (.s .z (.j ⟨[0,4,6,33],[(42,.lf (.sc .bool))],[],[]⟩ true .z (.s (.s .z (.k [0,1000000] [] [])) (.j ⟨[0,4,6,33],[(55,.lf (.sc .bool))],[],[]⟩ true .z (.s (.s .z (.k [0,1000000] [] [])) (.s .z (.s .z (.s .z (.s .z (.s .z (.s .z (.s .z (.s .z (.s .z (.s (.k [0,1000000] [] []) .z)))))))))))))))))) .z))))
def EX:Ctr:=⟨⟨c44,[bE,aH],1,[0],[⟨some 169,false,true⟩,⟨some 240,false,false⟩]⟩,fun x=>nw x.1 x.2⟩
def Bl:Cx:=aI Oy 251 EX
theorem wD:Qq0 Bl:=ai Hy (Qq2 Hy Tryz.func251 (by kernel_rfl) ab0 (fun x=>by kernel_rfl) rfl)
def aaC:An:=Qq1 3 (.j ⟨[0,2,3],[],[(0,c42),(3,c43)],[]⟩ true (.u (.l ⟨[0,2,3],[],[(0,c42),(3,c43)],[]⟩ (.s .z (.u (.k [0,1000000] [] []))))) .z)
def rT (k_:Nat):Ctr:=⟨⟨c46,[bE,aH],1,[0],[⟨none,false,true⟩,⟨some 240,false,false⟩]⟩,fun x=>dQ k_ x⟩
def abI:Ctr:=⟨⟨c46,[bE,aH],1,[0],[⟨none,false,true⟩,⟨some 240,false,false⟩]⟩,fun x=>nT x⟩
def aaW:An:=Qq1 3 (.j ⟨[0,4,5,1],[],[(5,c43)],[]⟩ true .z (.s (.k [0,1000000] [] []) (.s (.k [0,1000000] [] []) (.j ⟨[0,4,5],[],[(0,c42),(5,[.sc pi,.sc .str,.sc pi,.own .node 169 false [1000005]])],[]⟩ true (.s (.k [0,1000000,3000004,3000005] [] []) (.s (.k [0,1000000] [] []) .z)) .z))))
def xM (k:Nat):Ctr:=⟨⟨c44,[bE,aH],1,[0],[⟨some 169,false,true⟩,⟨some 240,false,false⟩]⟩,fun x=>ny ( dQ k) x.1 x.2⟩
theorem Ei (k:Nat) (h:(rT k).sound Tryz.prog 193):(xM k).sound Tryz.prog 250:=aj (ai wD h) aq Tryz.func250 (by kernel_rfl) (an:=aaW) (fun x=>(by kernel_rfl:(xM k).fn x=aL (aI Bl 193 (rT k)) Tryz.f250 aaW (xM k).toSig x)) rfl
def aa9:An:=.z
def BR (k:Nat):Ctr:=⟨⟨c46,[bE,aH],1,[0],[⟨some 169,false,true⟩,⟨some 240,false,false⟩]⟩,fun x=>oc ( dQ k) x⟩
theorem Uk (k:Nat) (h:(rT k).sound Tryz.prog 193):(BR k).sound Tryz.prog 238:=aj (ai (ai wD h) (Ei k h)) aq Tryz.func238 (by kernel_rfl) (an:=aa9) (fun x=>(by kernel_rfl:(BR k).fn x=aL (aI (aI Bl 193 (rT k)) 250 (xM k)) Tryz.f238 aa9 (BR k).toSig x)) rfl
theorem uV : ∀ k,(rT k).sound Tryz.prog 193
 | 0=>fun x r h=>by
  have h1:none=some r:=h
  cases h1
 | k+1=>aj (ai (ai (ai wD (uV k)) (Ei k (uV k))) (Uk k (uV k))) aq Tryz.func193 (by kernel_rfl) (an:=aaC) (fun x=>(by kernel_rfl:(rT (k+1)).fn x=aL (aI (aI (aI Bl 193 (rT k)) 250 (xM k)) 238 (BR k)) Tryz.f193 aaC (rT (k+1)).toSig x)) rfl
theorem XP:abI.sound Tryz.prog 193:=uV 64
def P7:Cx:=aI Bl 193 abI
theorem IV:Qq0 P7:=ai wD XP
def acq:An:=Qq1 3 (.j ⟨[0,2,3],[(4,.lf (.sc pi))],[],[]⟩ true (.u (.l ⟨[0,2,3],[(4,.lf (.sc pi))],[],[]⟩ .z)) (.s .z (.s .z (.s .z (.j ⟨[0,2,5,4],[],[(0,c42),(5,c43)],[]⟩ false (.s .z (.u (.s .z (.s .z (.s .z (.s .z (.s .z (.s (.s .z (.j ⟨[0,2,5],[],[(0,c42),(5,c43)],[]⟩ true (.u (.l ⟨[0,2,5],[],[(0,c42),(5,c43)],[]⟩ .z)) .z)) (.j ⟨[0,2,5,38],[(84,.lf (.sc .bool))],[],[]⟩ true .z (.s (.s (.k [0,1000000] [] []) .z) .z)))))))))) .z)))))
def FY:Ctr:=⟨⟨c46,[bE,aH],1,[0],[⟨some 169,false,true⟩,⟨some 240,false,false⟩]⟩,fun x=>oO x⟩
def Qt:Cx:=aI P7 147 FY
theorem HW:Qq0 Qt:=ai IV (Qq2 IV Tryz.func147 (by kernel_rfl) acq (fun x=>by kernel_rfl) rfl)
def abi:An:=.s .z (.s .z (.j ⟨[1],[(3,.lf (.sc pi))],[],[]⟩ true (.s .z (.u (.l ⟨[1],[(3,.lf (.sc pi)),(4,.lf (.sc pi))],[],[]⟩ .z))) .z))
def BN (k_:Nat):Ctr:=⟨⟨[.d bE],[(.sc pi)],1,[],[]⟩,fun x=>lO k_ x⟩
def aaN:Ctr:=⟨⟨[.d bE],[(.sc pi)],1,[],[]⟩,fun x=>rY x⟩
theorem EE : ∀ k,(BN k).sound Tryz.prog 148
 | 0=>fun x r h=>by
  have h1:none=some r:=h
  cases h1
 | k+1=>aj (ai HW (EE k)) aq Tryz.func148 (by kernel_rfl) (an:=abi) (fun x=>(by kernel_rfl:(BN (k+1)).fn x=aL (aI Qt 148 (BN k)) Tryz.f148 abi (BN (k+1)).toSig x)) rfl
theorem XX:aaN.sound Tryz.prog 148:=EE 64
def Qw:Cx:=aI Qt 148 aaN
theorem Jq:Qq0 Qw:=ai HW XX
def acx:An:=.s .z (.j ⟨[1],[],[],[]⟩ false (.s .z (.u (.j ⟨[4],[(5,.lf (.sc .bool))],[],[]⟩ true .z (.s .z (.j ⟨[4],[(9,.lf (.sc .bool))],[],[]⟩ true .z .z))))) .z)
def G4:Ctr:=⟨⟨[.d bE],[(.sc pi)],1,[],[]⟩,fun x=>rQ x⟩
def GH:Cx:=aI Qw 260 G4
theorem AR:Qq0 GH:=ai Jq (Qq2 Jq Tryz.func260 (by kernel_rfl) acx (fun x=>by kernel_rfl) rfl)
def acU:An:=.s .z (.j ⟨[1],[],[],[]⟩ false (.s .z (.u (Qq1 4 (.j ⟨[1,6],[(17,.lf (.sc .bool))],[],[]⟩ true .z .z)))) .z)
def vI (k_:Nat):Ctr:=⟨⟨[.d bE],[(.sc .str)],1,[],[]⟩,fun x=>ju k_ x⟩
def ack:Ctr:=⟨⟨[.d bE],[(.sc .str)],1,[],[]⟩,fun x=>eL x⟩
def abW:An:=.z
def Cq (k:Nat):Ctr:=⟨⟨[.d bE,.d (.sc pi)],[(.sc .str)],1,[],[]⟩,fun x=>co ( ju k) x.1 x.2⟩
theorem Ua (k:Nat) (h:(vI k).sound Tryz.prog 252):(Cq k).sound Tryz.prog 257:=aj (ai AR h) aq Tryz.func257 (by kernel_rfl) (an:=abW) (fun x=>(by kernel_rfl:(Cq k).fn x=aL (aI GH 252 (vI k)) Tryz.f257 abW (Cq k).toSig x)) rfl
theorem xH : ∀ k,(vI k).sound Tryz.prog 252
 | 0=>fun x r h=>by
  have h1:none=some r:=h
  cases h1
 | k+1=>aj (ai (ai AR (xH k)) (Ua k (xH k))) aq Tryz.func252 (by kernel_rfl) (an:=acU) (fun x=>(by kernel_rfl:(vI (k+1)).fn x=aL (aI (aI GH 252 (vI k)) 257 (Cq k)) Tryz.f252 acU (vI (k+1)).toSig x)) rfl
theorem WX:ack.sound Tryz.prog 252:=xH 64
def Gv:Cx:=aI GH 252 ack
theorem Ao:Qq0 Gv:=ai AR WX
def abc:An:=.s .z (.s .z (.j ⟨[1],[(3,.lf (.sc .str))],[],[]⟩ true (.s .z (.u (.l ⟨[1],[(3,.lf (.sc .str)),(4,.lf (.sc pi))],[],[]⟩ .z))) .z))
def wh (k_:Nat):Ctr:=⟨⟨[.d bE],[(.sc .str)],1,[],[]⟩,fun x=>jh k_ x⟩
def abA:Ctr:=⟨⟨[.d bE],[(.sc .str)],1,[],[]⟩,fun x=>sI x⟩
def aaM:An:=.s .z (.s .z (.s (.s .z (.u (Qq1 7 (.s (.s .z (.j ⟨[3],[(4,.lf (.sc .str))],[],[]⟩ true .z .z)) .z)))) (.s .z (.j ⟨[1,5,3],[],[],[]⟩ false (.s .z (.u (.j ⟨[1,3,5,78],[(79,.lf (.sc .bool))],[],[]⟩ true .z (.s .z (.j ⟨[1,3,5,78],[(90,.lf (.sc .bool))],[],[]⟩ true .z .z))))) .z))))
def BC (k:Nat):Ctr:=⟨⟨[.d bE],[(.sc .str)],1,[],[]⟩,fun x=>sL ( jh k) x⟩
theorem TB (k:Nat) (h:(wh k).sound Tryz.prog 195):(BC k).sound Tryz.prog 239:=aj (ai Ao h) aq Tryz.func239 (by kernel_rfl) (an:=aaM) (fun x=>(by kernel_rfl:(BC k).fn x=aL (aI Gv 195 (wh k)) Tryz.f239 aaM (BC k).toSig x)) rfl
theorem xO : ∀ k,(wh k).sound Tryz.prog 195
 | 0=>fun x r h=>by
  have h1:none=some r:=h
  cases h1
 | k+1=>aj (ai (ai Ao (xO k)) (TB k (xO k))) aq Tryz.func195 (by kernel_rfl) (an:=abc) (fun x=>(by kernel_rfl:(wh (k+1)).fn x=aL (aI (aI Gv 195 (wh k)) 239 (BC k)) Tryz.f195 abc (wh (k+1)).toSig x)) rfl
theorem Xr:abA.sound Tryz.prog 195:=xO 64
def PL:Cx:=aI Gv 195 abA
theorem Jx:Qq0 PL:=ai Ao Xr
def abT:An:=.s .z (.s .z (.j ⟨[1],[(3,.lf (.sc .str))],[],[]⟩ false (.s .z (.u (Qq1 4 (.j ⟨[1,3,15],[(34,.lf (.sc .bool))],[],[]⟩ true .z (.s .z (.s .z (.s (.s .z (.j ⟨[1],[(3,.lf (.sc .str))],[],[]⟩ true (.s .z (.u (.l ⟨[1],[(3,.lf (.sc .str)),(4,.lf (.sc pi))],[],[]⟩ .z))) .z)) .z))))))) .z))
def Fb:Ctr:=⟨⟨[.d bE],[(.sc .str)],1,[],[]⟩,fun x=>sN x⟩
def Q9:Cx:=aI PL 149 Fb
theorem KS:Qq0 Q9:=ai Jx (Qq2 Jx Tryz.func149 (by kernel_rfl) abT (fun x=>by kernel_rfl) rfl)
def aik:An:=Qq1 5 (.s (.s .z (.s (.s (.s .z (.s (.s (.k [2] [] []) .z) .z)) (.s (.k [2] [] []) .z)) .z)) (.s (.s .z (.s (.s (.k [2] [] []) .z) .z)) .z))
def Q7:Ctr:=⟨⟨[.d (.sc .str)],[bE,(.sc pi),(.sc pi)],3,[],[⟨some 169,false,true⟩]⟩,fun x=>dI x⟩
def Vr:Cx:=aI Q9 88 Q7
theorem NX:Qq0 Vr:=ai KS (Qq2 KS Tryz.func88 (by kernel_rfl) aik (fun x=>by kernel_rfl) rfl)
def aii:An:=.s .z (.j ⟨[0,1],[],[],[]⟩ false (.s .z (.u (.l ⟨[0,1],[(5,.lf (.sc pi))],[],[]⟩ .z))) .z)
def OX:Ctr:=⟨⟨[.d (.slice cp),.d (.sc .str)],[(.sc pi)],1,[],[]⟩,fun x=>bK x.1 x.2⟩
def Vo:Cx:=aI Vr 89 OX
theorem Mx:Qq0 Vo:=ai NX (Qq2 NX Tryz.func89 (by kernel_rfl) aii (fun x=>by kernel_rfl) rfl)
def ace:An:=.s .z (.s .z (.j ⟨[1],[(3,.lf (.own (.sc .str) 9 false []))],[],[]⟩ true (.s .z (.u (.l ⟨[1],[(3,.lf (.own (.sc .str) 9 false [])),(4,.lf (.sc pi))],[],[]⟩ (.s .z (.j ⟨[1,4],[(3,.lf (.own (.sc .str) 9 false []))],[],[]⟩ true .z .z))))) .z))
def EZ:Ctr:=⟨⟨[.d bE],[(.slice (.sc .str))],1,[],[⟨some 9,false,false⟩]⟩,fun x=>f6 x⟩
def PX:Cx:=aI Vo 228 EZ
theorem J1:Qq0 PX:=ai Mx (Qq2 Mx Tryz.func228 (by kernel_rfl) ace (fun x=>by kernel_rfl) rfl)
def abw:An:=Qq1 6 (.j ⟨[],[],[],[8]⟩ false (.s .z (.u (.l ⟨[8],[(9,.lf (.sc pi))],[],[]⟩ .z))) .z)
def Fp:Ctr:=⟨⟨[.d (.slice cp),.d (.sc pi)],[(.sc pi)],1,[],[]⟩,fun x=>gx x.1 x.2⟩
def ON:Cx:=aI PX 181 Fp
theorem Js:Qq0 ON:=ai J1 (Qq2 J1 Tryz.func181 (by kernel_rfl) abw (fun x=>by kernel_rfl) rfl)
def abB:An:=.z
def Fy:Ctr:=⟨⟨[.d (.sc .str)],[bE],1,[],[⟨some 169,false,true⟩]⟩,fun x=>eK x⟩
def PD:Cx:=aI ON 185 Fy
theorem J0:Qq0 PD:=ai Js (Qq2 Js Tryz.func185 (by kernel_rfl) abB (fun x=>by kernel_rfl) rfl)
def aae:An:=.s .z (.j ⟨[0],[],[],[]⟩ false (.s .z (.u (Qq1 4 (.j ⟨[3],[(8,.lf (.sc .bool))],[],[]⟩ true .z (.s .z (.j ⟨[3],[(11,.lf (.sc .bool))],[],[]⟩ true .z (.s .z (.j ⟨[3],[(14,.lf (.sc .bool))],[],[]⟩ true .z (.s .z (.j ⟨[3],[(17,.lf (.sc .bool))],[],[]⟩ true .z .z)))))))))) .z)
def FZ:Ctr:=⟨⟨[.d (.sc pi)],[(.sc pi)],1,[],[]⟩,fun x=>mO x⟩
def Sh:Cx:=aI PD 229 FZ
theorem KM:Qq0 Sh:=ai J0 (Qq2 J0 Tryz.func229 (by kernel_rfl) aae (fun x=>by kernel_rfl) rfl)
def abf:An:=.s .z (.j ⟨[0],[],[],[]⟩ false (.s .z (.u (.l ⟨[0],[(4,.lf (.sc pi))],[],[]⟩ .z))) .z)
def G8:Ctr:=⟨⟨[.d (.sc .str)],[(.sc .str),(.sc .str)],2,[],[]⟩,fun x=>tv x⟩
def OI:Cx:=aI Sh 230 G8
theorem Ld:Qq0 OI:=ai KM (Qq2 KM Tryz.func230 (by kernel_rfl) abf (fun x=>by kernel_rfl) rfl)
def aaa:An:=.s .z (.s .z (.j ⟨[1],[(3,.lf (.own fC 276 false []))],[],[]⟩ true .z (.j ⟨[1],[(3,.lf (.own fC 276 false []))],[],[]⟩ true (.s .z (.u (.l ⟨[1],[(3,.lf (.own fC 276 false [])),(6,.lf (.sc pi))],[],[]⟩ .z))) .z)))
def Cs (k_:Nat):Ctr:=⟨⟨[.d bE],[(.slice fC)],1,[],[⟨some 276,false,false⟩]⟩,fun x=>lQ k_ x⟩
def abJ:Ctr:=⟨⟨[.d bE],[(.slice fC)],1,[],[⟨some 276,false,false⟩]⟩,fun x=>fu x⟩
theorem EJ : ∀ k,(Cs k).sound Tryz.prog 184
 | 0=>fun x r h=>by
  have h1:none=some r:=h
  cases h1
 | k+1=>aj (ai Ld (EJ k)) aq Tryz.func184 (by kernel_rfl) (an:=aaa) (fun x=>(by kernel_rfl:(Cs (k+1)).fn x=aL (aI OI 184 (Cs k)) Tryz.f184 aaa (Cs (k+1)).toSig x)) rfl
theorem VR:abJ.sound Tryz.prog 184:=EJ 64
def Sd:Cx:=aI OI 184 abJ
theorem I7:Qq0 Sd:=ai Ld VR
def abR:An:=.s .z (.s .z (.j ⟨[0,5],[],[],[]⟩ false (.s .z (.u (.l ⟨[0,5],[(6,.lf (.sc pi))],[],[]⟩ .z))) (.j ⟨[0,5],[],[],[]⟩ false (.s .z (.u (.l ⟨[0,5],[(7,.lf (.sc pi))],[],[]⟩ .z))) (.j ⟨[0],[],[],[5]⟩ false (.s .z (.u (.l ⟨[0,5],[(8,.lf (.sc pi))],[],[]⟩ .z))) .z))))
def E8:Ctr:=⟨⟨[.d (.slice cp),.d (.sc pi)],[(.sc pi)],1,[],[]⟩,fun x=>kP x.1 x.2⟩
def R0:Cx:=aI Sd 182 E8
theorem Jw:Qq0 R0:=ai I7 (Qq2 I7 Tryz.func182 (by kernel_rfl) abR (fun x=>by kernel_rfl) rfl)
def aaI:An:=Qq1 3 (.j ⟨[0,1],[(5,.lf (.sc pi))],[],[]⟩ true (.u (.l ⟨[0,1],[(5,.lf (.sc pi))],[],[]⟩ .z)) .z)
def GV:Ctr:=⟨⟨[.d (.slice (.sc .str)),.d (.sc .str)],[(.slice (.sc .str))],1,[],[⟨none,true,true⟩]⟩,fun x=>kq x.1 x.2⟩
def Oo:Cx:=aI R0 144 GV
theorem Jr:Qq0 Oo:=ai Jw (Qq2 Jw Tryz.func144 (by kernel_rfl) aaI (fun x=>by kernel_rfl) rfl)
def aaQ:An:=Qq1 3 (.j ⟨[0,2],[(7,.lf (.rep (.sc .str) false []))],[],[8]⟩ true (.s .z (.u (.l ⟨[0,2],[(7,.lf (.rep (.sc .str) false [])),(8,.lf (.own (.sc .str) 9 false [])),(9,.lf (.sc pi))],[],[]⟩ (.s .z (.j ⟨[0,2,9],[(7,.lf (.rep (.sc .str) false [])),(8,.lf (.own (.sc .str) 9 false []))],[],[]⟩ true (.u (.s .z (.s .z (.s .z (.s .z (.u (.l ⟨[0,2,9,11],[(7,.lf (.rep (.sc .str) false [])),(8,.lf (.own (.sc .str) 9 false [])),(12,.lf (.sc pi))],[],[]⟩ (.s .z (.j ⟨[0,2,9,11,12],[(7,.lf (.rep (.sc .str) false [])),(8,.lf (.own (.sc .str) 9 false []))],[],[]⟩ true .z .z))))))))) .z))))) .z)
def Hf:Ctr:=⟨⟨[.d (.slice cp),.d (.sc .str),.d (.sc .bool)],[(.slice (.sc .str))],1,[],[⟨none,false,true⟩]⟩,fun x=>gW x.1 x.2.1 x.2.2⟩
def PG:Cx:=aI Oo 145 Hf
theorem IR:Qq0 PG:=ai Jr (Qq2 Jr Tryz.func145 (by kernel_rfl) aaQ (fun x=>by kernel_rfl) rfl)
def aa1:An:=.s .z (.s .z (.j ⟨[0],[],[],[]⟩ false (.s .z (.u (.l ⟨[0],[(4,.lf (.sc pi))],[],[]⟩ .z))) (.j ⟨[0],[],[],[]⟩ false (.s .z (.u (.l ⟨[0],[(6,.lf (.sc pi))],[],[]⟩ .z))) (.j ⟨[0],[],[],[]⟩ false (.s .z (.u (.l ⟨[0],[(8,.lf (.sc pi))],[],[]⟩ .z))) .z))))
def Fj:Ctr:=⟨⟨[.d (.slice cp)],[(.sc pi),(.sc pi)],2,[],[]⟩,fun x=>lv x⟩
def Rh:Cx:=aI PG 143 Fj
theorem Ht:Qq0 Rh:=ai IR (Qq2 IR Tryz.func143 (by kernel_rfl) aa1 (fun x=>by kernel_rfl) rfl)
def ait:An:=Qq1 6 (.j ⟨[0,8],[(9,.lf (.own cp 132 false []))],[],[]⟩ true (.s .z (.u (.l ⟨[0,8],[(9,.lf (.own cp 132 false [])),(10,.lf (.sc pi))],[],[]⟩ .z))) .z)
def RZ:Ctr:=⟨⟨[.d (.slice cp),.d (.sc .str)],[(.slice cp),(.sc pi)],2,[],[⟨some 132,false,false⟩]⟩,fun x=>lx x.1 x.2⟩
def Wp:Cx:=aI Rh 87 RZ
theorem Oe:Qq0 Wp:=ai Ht (Qq2 Ht Tryz.func87 (by kernel_rfl) ait (fun x=>by kernel_rfl) rfl)
def agS:An:=.z
def Pn:Ctr:=⟨⟨[.box true bh [some 99,some 3,some 3,none,none,none,none,none,some 9],.d (.sc pi),.d (.sc pi),.d (.sc pi)],[bh],0,[0],[⟨some 99,false,false⟩,⟨some 3,false,false⟩,⟨some 3,false,false⟩,⟨none,true,false⟩,⟨none,true,false⟩,⟨none,true,false⟩,⟨none,true,false⟩,⟨none,true,false⟩,⟨some 9,false,false⟩]⟩,fun x=>aD x.1 x.2.1 x.2.2.1 x.2.2.2⟩
def Xd:Cx:=aI Wp 93 Pn
theorem Me:Qq0 Xd:=ai Oe (Qq2 Oe Tryz.func93 (by kernel_rfl) agS (fun x=>by kernel_rfl) rfl)
def abk:An:=.s .z (.j ⟨[0,1],[],[],[]⟩ false (.s .z (.u (.l ⟨[0,1],[(5,.lf (.sc pi))],[],[]⟩ .z))) .z)
def FK:Ctr:=⟨⟨[.d (.slice (.sc .str)),.d (.sc .str)],[(.sc pi)],1,[],[]⟩,fun x=>bJ x.1 x.2⟩
def Oj:Cx:=aI Xd 196 FK
theorem JD:Qq0 Oj:=ai Me (Qq2 Me Tryz.func196 (by kernel_rfl) abk (fun x=>by kernel_rfl) rfl)
def abC:An:=.s .z (.j ⟨[0,1],[],[(0,c29)],[]⟩ true .z .z)
def GR:Ctr:=⟨⟨[.box true bh [some 99,some 3,some 3,none,none,none,none,none,some 9],.d (.sc .str)],[(.sc pi),bh],1,[0],[⟨some 99,false,false⟩,⟨some 3,false,false⟩,⟨some 3,false,false⟩,⟨none,true,true⟩,⟨none,true,true⟩,⟨none,true,true⟩,⟨none,true,true⟩,⟨none,true,true⟩,⟨some 9,false,false⟩]⟩,fun x=>cf x.1 x.2⟩
def Pb:Cx:=aI Oj 151 GR
theorem Kq:Qq0 Pb:=ai JD (Qq2 JD Tryz.func151 (by kernel_rfl) abC (fun x=>by kernel_rfl) rfl)
def ag8:An:=.s .z (.j ⟨[0,3],[],[(0,c29)],[]⟩ true .z (.s .z (.u (.l ⟨[0,3],[(4,.lf (.sc pi))],[(0,c27)],[]⟩ .z))))
def GC (k_:Nat):Ctr:=⟨⟨c40,[bh],0,[0],[⟨some 99,false,false⟩,⟨some 3,false,false⟩,⟨some 3,false,false⟩,⟨none,true,true⟩,⟨none,true,true⟩,⟨none,true,true⟩,⟨none,true,true⟩,⟨none,true,true⟩,⟨some 9,false,false⟩]⟩,fun x=>cz k_ x.1 x.2⟩
def agc:Ctr:=⟨⟨c40,[bh],0,[0],[⟨some 99,false,false⟩,⟨some 3,false,false⟩,⟨some 3,false,false⟩,⟨none,true,true⟩,⟨none,true,true⟩,⟨none,true,true⟩,⟨none,true,true⟩,⟨none,true,true⟩,⟨some 9,false,false⟩]⟩,fun x=>lh x.1 x.2⟩
theorem Io : ∀ k,(GC k).sound Tryz.prog 91
 | 0=>fun x r h=>by
  have h1:none=some r:=h
  cases h1
 | k+1=>aj (ai Kq (Io k)) aq Tryz.func91 (by kernel_rfl) (an:=ag8) (fun x=>(by kernel_rfl:(GC (k+1)).fn x=aL (aI Pb 91 (GC k)) Tryz.f91 ag8 (GC (k+1)).toSig x)) rfl
theorem adA:agc.sound Tryz.prog 91:=Io 64
def YP:Cx:=aI Pb 91 agc
theorem MO:Qq0 YP:=ai Kq adA
end
end Go.Proofs.YtfhhiajfciblbaaGreatDoor
