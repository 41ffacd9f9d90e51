/- Laws for the row. No condition. -/
import Derived.Test.YtfhhiajfciblbaaGreatDoorCtC
namespace Go.Proofs.YtfhhiajfciblbaaGreatDoor
open Go.Sm
set_option maxRecDepth 100000
set_option linter.unusedSectionVars false
section
variable [Itr] [SortLaw]
def ahk:An:=Qq1 15 (.j ⟨[8,12,16],[],[(12,c10)],[15]⟩ true (.s .z (.u (.l ⟨[8,12,15,16],[(18,.lf (.sc pi))],[(12,c10)],[]⟩ .z))) (.s .z (.s (.k [16] [] []) .z)))
def QC:Ctr:=⟨⟨[.d bB,.d fQ,.d ce,.d (.sc pi)],[ce,(.slice aL),(.sc pi)],3,[],[⟨some 1870727804774333205280220053689557385530553472647298,false,false⟩,⟨some 3,false,false⟩,⟨some 360314358468706326,false,false⟩,⟨some 3,false,false⟩,⟨some 3,false,false⟩,⟨some 149,false,false⟩]⟩,fun x=>gm x.1 x.2.1 x.2.2.1 x.2.2.2⟩
def aa9:Cx:=aI Zi 25 QC
theorem O7:Qq0 aa9:=ai Ov (Qq2 Ov Tryz.func25 (by kernel_rfl) ahk (fun x=>by kernel_rfl) rfl)
def aia:An:=.z
def RX:Ctr:=⟨⟨[.d bB,.d fQ,.d ce],[f6,(.sc pi)],2,[],[⟨some 3,false,false⟩]⟩,fun x=>iN x.1 x.2.1 x.2.2⟩
def YO:Cx:=aI aa9 20 RX
theorem OH:Qq0 YO:=ai O7 (Qq2 O7 Tryz.func20 (by kernel_rfl) aia (fun x=>by kernel_rfl) rfl)
def aif:An:=.s .z (.j ⟨[1],[(0,.lf (.sc pi))],[],[]⟩ true .z .z)
def TP:Ctr:=⟨⟨[.d (.sc pi),.d (.sc pi)],[(.sc pi)],1,[],[]⟩,fun x=>dD x.1 x.2⟩
def Xj:Cx:=aI YO 11 TP
theorem ON:Qq0 Xj:=ai OH (Qq2 OH Tryz.func11 (by kernel_rfl) aif (fun x=>by kernel_rfl) rfl)
def ahV:An:=.z
def RD:Ctr:=⟨⟨[.d (.slice (.sc pi)),.d (.sc pi),.d (.sc pi)],[(.sc pi)],1,[],[]⟩,fun x=>iq x.1 x.2.1 x.2.2⟩
def YZ:Cx:=aI Xj 23 RD
theorem Ng:Qq0 YZ:=ai ON (Qq2 ON Tryz.func23 (by kernel_rfl) ahV (fun x=>by kernel_rfl) rfl)
def aiD:An:=.s .z (.s .z (.j ⟨[10,11,3,4,5,6],[],[(11,c20)],[]⟩ false (.s .z (.u (.l ⟨[3,4,5,6,10,11],[(13,.lf (.sc pi))],[(11,c20)],[]⟩ .z))) .z))
def PQ:Ctr:=⟨⟨[.d bB,.d fQ,.d (.slice az),.d (.slice (.sc pi)),.d (.sc pi)],[ce],1,[],[⟨some 1870727804774333205280220053689557385530553472647298,false,false⟩,⟨some 3,false,false⟩,⟨some 360314358468706326,false,false⟩,⟨some 3,false,false⟩,⟨some 3,false,false⟩]⟩,fun x=>mN x.1 x.2.1 x.2.2.1 x.2.2.2.1 x.2.2.2.2⟩
def Zg:Cx:=aI YZ 28 PQ
theorem Ny:Qq0 Zg:=ai Ng (Qq2 Ng Tryz.func28 (by kernel_rfl) aiD (fun x=>by kernel_rfl) rfl)
def an9:An:=.z
def Iv:Ctr:=⟨⟨[.d (.sc pi)],[fQ],1,[],[]⟩,fun x=>nQ x⟩
def cx9:Cx:=aI Zg 9 Iv
theorem Ub:Qq0 cx9:=ai Ny (Qq2 Ny Tryz.func9 (by kernel_rfl) an9 (fun x=>by kernel_rfl) rfl)
def ahP:An:=.s .z (.s .z (.j ⟨[1,2],[(5,.lf (.own az 101 false []))],[],[]⟩ true (.s .z (.u (.l ⟨[1,2],[(5,.lf (.own az 101 false [])),(6,.lf (.sc pi))],[],[]⟩ (.s .z (.j ⟨[1,2,6],[(5,.lf (.own az 101 false []))],[],[]⟩ true (.u (.s .z (.s .z (.j ⟨[1,2,5,6,7,8],[],[(8,[.sc .str,.sc pi])],[]⟩ true .z (.j ⟨[1,2,5,6,8,7],[],[(8,[.sc .str,.sc pi])],[]⟩ true .z .z))))) .z))))) .z))
def Sc:Ctr:=⟨⟨[.d bB,.d (.slice (.sc pi))],[(.slice az)],1,[],[⟨some 101,false,false⟩]⟩,fun x=>mh x.1 x.2⟩
def WZ:Cx:=aI cx9 10 Sc
theorem Ph:Qq0 WZ:=ai Ub (Qq2 Ub Tryz.func10 (by kernel_rfl) ahP (fun x=>by kernel_rfl) rfl)
def aid:An:=.s .z (.s .z (.j ⟨[2,3,1],[],[(3,c26)],[]⟩ true (.s .z (.u (.l ⟨[1,2,3],[(4,.lf (.sc pi))],[(3,c26)],[]⟩ (.s .z (.j ⟨[1,2,3,4],[],[(3,[.own aG 130 true [1000003],.rep (.sc pi) true [1000003],.rep (.slice (.sc pi)) true [1000003],.rep (.sc pi) true [1000003],.rep (.sc pi) true [1000003],.sc pi,.sc pi,.sc pi,.sc pi,.sc pi,.sc pi,.sc pi,.sc pi,.sc .str])],[]⟩ true (.u (.s .z (.j ⟨[1,2,3,4,5],[],[(5,c40)],[]⟩ true (.s .z (.u (.l ⟨[1,2,3,4,5],[(6,.lf (.sc pi))],[(5,c40)],[]⟩ .z))) .z))) .z))))) .z))
def Sr:Ctr:=⟨⟨[.d dA],[ce],1,[],[⟨some 130,true,true⟩,⟨none,true,true⟩,⟨none,true,true⟩,⟨none,true,true⟩,⟨none,true,true⟩]⟩,fun x=>mi x⟩
def ZB:Cx:=aI WZ 16 Sr
theorem N8:Qq0 ZB:=ai Ph (Qq2 Ph Tryz.func16 (by kernel_rfl) aid (fun x=>by kernel_rfl) rfl)
def ab2:An:=.z
def Cv (k_:Nat):Ctr:=⟨⟨[.d (.sc pi)],[(.sc .str)],1,[],[]⟩,fun x=>lu k_ x⟩
def abO:Ctr:=⟨⟨[.d (.sc pi)],[(.sc .str)],1,[],[]⟩,fun x=>dQ x⟩
theorem Fo : ∀ k,(Cv k).sound Tryz.prog 194
 | 0=>fun x r h=>by
  have h1:none=some r:=h
  cases h1
 | k+1=>aj (ai N8 (Fo k)) au Tryz.func194 (by kernel_rfl) (an:=ab2) (fun x=>(by kernel_rfl:(Cv (k+1)).fn x=aM (aI ZB 194 (Cv k)) Tryz.f194 ab2 (Cv (k+1)).toSig x)) rfl
theorem XA:abO.sound Tryz.prog 194:=Fo 64
def TF:Cx:=aI ZB 194 abO
theorem LY:Qq0 TF:=ai N8 XA
def abh:An:=.z
def Ij:Ctr:=⟨⟨[.d (.sc pi)],[(.sc .str)],1,[],[]⟩,fun x=>dx x⟩
def Ti:Cx:=aI TF 155 Ij
theorem La:Qq0 Ti:=ai LY (Qq2 LY Tryz.func155 (by kernel_rfl) abh (fun x=>by kernel_rfl) rfl)
def adQ:An:=.s .z (.s .z (.j ⟨[1],[(5,.lf (.own (.sc (.int .u8)) 1048581 false []))],[],[]⟩ true (.s .z (.u (.l ⟨[1],[(5,.lf (.own (.sc (.int .u8)) 1048581 false [])),(6,.lf (.sc pi))],[],[]⟩ (.s .z (.j ⟨[1,6],[(5,.lf (.own (.sc (.int .u8)) 1048581 false []))],[],[]⟩ true .z .z))))) .z))
def GL:Ctr:=⟨⟨[.d (.sc .str),.d (.sc pi)],[(.sc .str)],1,[],[]⟩,fun x=>rG x.1 x.2⟩
def QT:Cx:=aI Ti 200 GL
theorem IM:Qq0 QT:=ai La (Qq2 La Tryz.func200 (by kernel_rfl) adQ (fun x=>by kernel_rfl) rfl)
def adq:An:=.z
def Ha:Ctr:=⟨⟨[.d (.sc .str),.d (.sc .str),.d (.sc pi),.d (.sc .str)],[cu],1,[],[]⟩,fun x=>uL x.1 x.2.1 x.2.2.1 x.2.2.2⟩
def ST:Cx:=aI QT 199 Ha
theorem Kv:Qq0 ST:=ai IM (Qq2 IM Tryz.func199 (by kernel_rfl) adq (fun x=>by kernel_rfl) rfl)
def aci:An:=.s .z (.s .z (.j ⟨[0,1],[(5,.lf (.own cu 132 false []))],[],[]⟩ true (.s .z (.u (.l ⟨[0,1],[(5,.lf (.own cu 132 false [])),(6,.lf (.sc pi))],[],[]⟩ .z))) .z))
def GH:Ctr:=⟨⟨[.d (.sc pi),.d (.slice (.arr 3 .str))],[(.slice cu)],1,[],[⟨some 132,false,false⟩]⟩,fun x=>cJ x.1 x.2⟩
def SD:Cx:=aI ST 154 GH
theorem Mm:Qq0 SD:=ai Kv (Qq2 Kv Tryz.func154 (by kernel_rfl) aci (fun x=>by kernel_rfl) rfl)
def ab3:An:=.z
def HZ:Ctr:=⟨⟨[.d (.sc pi),.d (.sc pi),.d (.sc pi)],[(.slice cu)],1,[],[⟨some 132,false,false⟩]⟩,fun x=>cx x.1 x.2.1 x.2.2⟩
def PE:Cx:=aI SD 153 HZ
theorem Kb:Qq0 PE:=ai Mm (Qq2 Mm Tryz.func153 (by kernel_rfl) ab3 (fun x=>by kernel_rfl) rfl)
def ag0:An:=.s .z (.j ⟨[1,2,0],[],[],[]⟩ false (.s .z (.u (.j ⟨[0,1,2,7],[(8,.lf (.sc .bool))],[],[]⟩ true .z .z))) .z)
def RQ:Ctr:=⟨⟨[.d (.sc pi),.d (.sc pi),.d (.sc pi)],[(.slice cu)],1,[],[⟨some 132,false,false⟩]⟩,fun x=>cv x.1 x.2.1 x.2.2⟩
def WQ:Cx:=aI PE 94 RQ
theorem NO:Qq0 WQ:=ai Kb (Qq2 Kb Tryz.func94 (by kernel_rfl) ag0 (fun x=>by kernel_rfl) rfl)
def ahv:An:=.s .z (.s .z (.j ⟨[0,1],[(5,.lf (.own cu 132 false []))],[],[]⟩ true (.s .z (.u (.l ⟨[0,1],[(5,.lf (.own cu 132 false [])),(6,.lf (.sc pi))],[],[]⟩ (.s .z (.j ⟨[0,1,6],[(5,.lf (.own cu 132 false []))],[],[]⟩ true (.u (.s .z (.j ⟨[0,1,5,6],[(7,.lf (.sc pi))],[],[]⟩ true .z .z))) .z))))) .z))
def Tc:Ctr:=⟨⟨[.d (.slice cu),.d (.sc pi)],[(.slice cu)],1,[],[⟨some 132,false,false⟩]⟩,fun x=>ou x.1 x.2⟩
def Yh:Cx:=aI WQ 95 Tc
theorem OI:Qq0 Yh:=ai NO (Qq2 NO Tryz.func95 (by kernel_rfl) ahv (fun x=>by kernel_rfl) rfl)
def ajx:An:=Qq1 3 (.j ⟨[0],[(3,.lf (.own cu 132 false []))],[],[4]⟩ true (.s .z (.u (.l ⟨[0],[(3,.lf (.own cu 132 false [])),(4,.lf (.sc .bool)),(5,.lf (.sc pi))],[],[]⟩ (.s .z (.j ⟨[0,5],[(3,.lf (.own cu 132 false [])),(4,.lf (.sc .bool))],[],[]⟩ true .z .z))))) .z)
def RI:Ctr:=⟨⟨[.d (.slice (.sc pi))],[(.slice cu)],1,[],[⟨some 132,false,false⟩]⟩,fun x=>kC x⟩
def Xk:Cx:=aI Yh 40 RI
theorem Oc:Qq0 Xk:=ai OI (Qq2 OI Tryz.func40 (by kernel_rfl) ajx (fun x=>by kernel_rfl) rfl)
def acv:An:=.z
def Gr:Ctr:=⟨⟨[.d (.sc .str),.d (.sc pi)],[(.sc .bool)],1,[],[]⟩,fun x=>i5 x.1 x.2⟩
def Rs:Cx:=aI Xk 231 Gr
theorem K6:Qq0 Rs:=ai Oc (Qq2 Oc Tryz.func231 (by kernel_rfl) acv (fun x=>by kernel_rfl) rfl)
def ac2:An:=.z
def Hf:Ctr:=⟨⟨[.d (.sc .str),.d (.sc pi)],[(.sc .bool)],1,[],[]⟩,fun x=>gP x.1 x.2⟩
def TW:Cx:=aI Rs 233 Hf
theorem Io:Qq0 TW:=ai K6 (Qq2 K6 Tryz.func233 (by kernel_rfl) ac2 (fun x=>by kernel_rfl) rfl)
def abW:An:=Qq1 3 (.j ⟨[1,0],[(5,.lf (.sc pi))],[],[]⟩ true (.u (.l ⟨[0,1],[(5,.lf (.sc pi))],[],[]⟩ .z)) .z)
def F4:Ctr:=⟨⟨[.d (.sc .str),.d (.sc pi)],[(.sc pi)],1,[],[]⟩,fun x=>pD x.1 x.2⟩
def Rk:Cx:=aI TW 232 F4
theorem JU:Qq0 Rk:=ai Io (Qq2 Io Tryz.func232 (by kernel_rfl) abW (fun x=>by kernel_rfl) rfl)
def adg:An:=.s .z (.s .z (.j ⟨[0,3],[],[],[]⟩ false (.s .z (.u (.l ⟨[0,3],[(4,.lf (.sc pi))],[],[]⟩ .z))) .z))
def HD:Ctr:=⟨⟨[.d (.sc (.int .u8))],[(.sc .bool)],1,[],[]⟩,fun x=>tB x⟩
def QD:Cx:=aI Rk 234 HD
theorem IH:Qq0 QD:=ai JU (Qq2 JU Tryz.func234 (by kernel_rfl) adg (fun x=>by kernel_rfl) rfl)
def abp:An:=Qq1 3 (.j ⟨[0,1],[],[],[]⟩ false (.s .z (.s (.s .z (.j ⟨[1,0],[(5,.lf (.sc pi))],[],[]⟩ true (.u (.l ⟨[0,1],[(5,.lf (.sc pi))],[],[]⟩ .z)) .z)) .z)) .z)
def Gs:Ctr:=⟨⟨[.d (.sc .str),.d (.sc pi)],[(.sc pi)],1,[],[]⟩,fun x=>tG x.1 x.2⟩
def Ta:Cx:=aI QD 186 Gs
theorem LT:Qq0 Ta:=ai IH (Qq2 IH Tryz.func186 (by kernel_rfl) abp (fun x=>by kernel_rfl) rfl)
def ad3:An:=Qq1 3 (.j ⟨[0],[(4,.lf (.own bA 240 false [])),(5,.lf (.sc pi))],[],[]⟩ false (.u (.l ⟨[0],[(4,.lf (.own bA 240 false [])),(5,.lf (.sc pi))],[],[]⟩ .z)) .z)
def Gv:Ctr:=⟨⟨[.d (.sc .str)],[(.slice bA),(.sc pi)],2,[],[⟨some 240,false,false⟩]⟩,fun x=>tH x⟩
def QF:Cx:=aI Ta 146 Gv
theorem Le:Qq0 QF:=ai LT (Qq2 LT Tryz.func146 (by kernel_rfl) ad3 (fun x=>by kernel_rfl) rfl)
def adH:An:=.z
def Gt:Ctr:=⟨⟨[.box false aJ []],[(.sc .str)],1,[],[]⟩,fun x=>bS x⟩
def RO:Cx:=aI QF 187 Gt
theorem Mq:Qq0 RO:=ai Le (Qq2 Le Tryz.func187 (by kernel_rfl) adH (fun x=>by kernel_rfl) rfl)
def adz:An:=.z
def Gn:Ctr:=⟨⟨[],[(.slice (.sc .str))],1,[],[⟨some 9,false,false⟩]⟩,fun _=>i6 ⟩
def TG:Cx:=aI RO 188 Gn
theorem KM:Qq0 TG:=ai Mq (Qq2 Mq Tryz.func188 (by kernel_rfl) adz (fun x=>by kernel_rfl) rfl)
def act:An:=.z
def Hc:Ctr:=⟨⟨[],[(.slice (.sc .str))],1,[],[⟨some 9,false,false⟩]⟩,fun _=>sE ⟩
def QB:Cx:=aI TG 249 Hc
theorem Ir:Qq0 QB:=ai KM (Qq2 KM Tryz.func249 (by kernel_rfl) act (fun x=>by kernel_rfl) rfl)
def abD:An:=.s .z (.j ⟨[0,1],[],[],[]⟩ false (.s .z (.u (.l ⟨[0,1],[(5,.lf (.sc pi))],[],[]⟩ .z))) .z)
def Gc:Ctr:=⟨⟨[.d (.slice (.sc .str)),.d (.sc .str)],[(.sc .bool)],1,[],[]⟩,fun x=>fp x.1 x.2⟩
def RK:Cx:=aI QB 183 Gc
theorem Jq:Qq0 RK:=ai Ir (Qq2 Ir Tryz.func183 (by kernel_rfl) abD (fun x=>by kernel_rfl) rfl)
def abi:An:=.z
def Ik:Ctr:=⟨⟨[.d (.sc .str)],[(.sc .bool)],1,[],[]⟩,fun x=>rH x⟩
def RE:Cx:=aI RK 235 Ik
theorem Md:Qq0 RE:=ai Jq (Qq2 Jq Tryz.func235 (by kernel_rfl) abi (fun x=>by kernel_rfl) rfl)
def aei:An:=.z
def GF:Ctr:=⟨⟨c47,[(.sc .str),aJ],1,[0],[⟨some 240,false,false⟩]⟩,fun x=>cZ x⟩
def Rx:Cx:=aI RE 189 GF
theorem My:Qq0 Rx:=ai Md (Qq2 Md Tryz.func189 (by kernel_rfl) aei (fun x=>by kernel_rfl) rfl)
def adi:An:=.z
def F8:Ctr:=⟨⟨c45,[(.sc .bool),aJ],1,[0],[⟨some 240,false,false⟩]⟩,fun x=>cW x.1 x.2⟩
def TR:Cx:=aI Rx 236 F8
theorem Kr:Qq0 TR:=ai My (Qq2 My Tryz.func236 (by kernel_rfl) adi (fun x=>by kernel_rfl) rfl)
def adc:An:=.z
def Gb:Ctr:=⟨⟨c45,[aJ],0,[0],[⟨some 240,false,false⟩]⟩,fun x=>bQ x.1 x.2⟩
def PG:Cx:=aI TR 190 Gb
theorem LS:Qq0 PG:=ai Kr (Qq2 Kr Tryz.func190 (by kernel_rfl) adc (fun x=>by kernel_rfl) rfl)
def ab7:An:=.s .z (.s .z (.j ⟨[0],[(3,.lf (.sc pi))],[],[]⟩ true (.s .z (.u (.l ⟨[0],[(3,.lf (.sc pi)),(4,.lf (.sc pi))],[],[]⟩ .z))) .z))
def Gm:Ctr:=⟨⟨[.d (.sc .str)],[(.sc pi)],1,[],[]⟩,fun x=>sM x⟩
def Pt:Cx:=aI PG 237 Gm
theorem Mx:Qq0 Pt:=ai LS (Qq2 LS Tryz.func237 (by kernel_rfl) ab7 (fun x=>by kernel_rfl) rfl)
def acU:An:=.z
def Hr:Ctr:=⟨⟨[.box true aJ [some 240],.d (.sc pi),.d (.sc pi)],[(.sc pi),aJ],1,[0],[⟨some 240,false,false⟩]⟩,fun x=>cF x.1 x.2.1 x.2.2⟩
def QW:Cx:=aI Pt 192 Hr
theorem Ma:Qq0 QW:=ai Mx (Qq2 Mx Tryz.func192 (by kernel_rfl) acU (fun x=>by kernel_rfl) rfl)
def acY:An:=.z
def Gx:Ctr:=⟨⟨c47,[(.sc pi),aJ],1,[0],[⟨some 240,false,false⟩]⟩,fun x=>j6 x⟩
def SW:Cx:=aI QW 191 Gx
theorem Kc:Qq0 SW:=ai Ma (Qq2 Ma Tryz.func191 (by kernel_rfl) acY (fun x=>by kernel_rfl) rfl)
def ada:An:=.z
def H4:Ctr:=⟨⟨c47,[(.sc .str),aJ],1,[0],[⟨some 240,false,false⟩]⟩,fun x=>d7 x⟩
def Tk:Cx:=aI SW 256 H4
theorem L3:Qq0 Tk:=ai Kc (Qq2 Kc Tryz.func256 (by kernel_rfl) ada (fun x=>by kernel_rfl) rfl)
def abX:An:=.s .z (.s .z (.j ⟨[0,2,3],[],[(0,c43),(3,c44)],[]⟩ true (.s .z (.s (.s .z (.k [0,1000000] [] [])) .z)) .z))
def HN:Ctr:=⟨⟨c47,[bJ,aJ],1,[0],[⟨some 169,false,true⟩,⟨some 240,false,false⟩]⟩,fun x=>kI x⟩
def zX:Cx:=aI Tk 259 HN
theorem uK:Qq0 zX:=ai L3 (Qq2 L3 Tryz.func259 (by kernel_rfl) abX (fun x=>by kernel_rfl) rfl)
def ad2:An:=Qq1 4 (.j ⟨[0,2,3],[],[(0,c43)],[4]⟩ false (.s .z (.u (.l ⟨[0,2,3,4],[(5,.lf (.sc pi))],[(0,c43)],[]⟩ (.s .z (.s (.u (.s .z (.s (.s (.k [0,1000000] [] []) .z) .z))) .z))))) .z)
def pJ (k_:Nat):Ctr:=⟨⟨c47,[bJ,aJ],1,[0],[⟨none,false,true⟩,⟨some 240,false,false⟩]⟩,fun x=>dy k_ x⟩
def ac3:Ctr:=⟨⟨c47,[bJ,aJ],1,[0],[⟨none,false,true⟩,⟨some 240,false,false⟩]⟩,fun x=>ey x⟩
def aef:An:=.z
def wD (k:Nat):Ctr:=⟨⟨c47,[bJ,aJ],1,[0],[⟨none,false,true⟩,⟨some 240,false,false⟩]⟩,fun x=>lp ( dy k) x⟩
theorem yG (k:Nat) (h:(pJ k).sound Tryz.prog 254):(wD k).sound Tryz.prog 262:=aj (ai uK h) au Tryz.func262 (by kernel_rfl) (an:=aef) (fun x=>(by kernel_rfl:(wD k).fn x=aM (aI zX 254 (pJ k)) Tryz.f262 aef (wD k).toSig x)) rfl
def aek:An:=.s .z (.s .z (.j ⟨[0,2,3],[],[(0,c43),(3,c42)],[]⟩ true (.u (.l ⟨[0,2,3],[],[(0,c43),(3,c42)],[]⟩ (.s .z (.u (.k [0,1000000] [] []))))) .z))
def zH (k:Nat):Ctr:=⟨⟨c47,[bJ,aJ],1,[0],[⟨none,false,true⟩,⟨some 240,false,false⟩]⟩,fun x=>kU ( dy k) x⟩
theorem EW (k:Nat) (h:(pJ k).sound Tryz.prog 254):(zH k).sound Tryz.prog 261:=aj (ai (ai uK h) (yG k h)) au Tryz.func261 (by kernel_rfl) (an:=aek) (fun x=>(by kernel_rfl:(zH k).fn x=aM (aI (aI zX 254 (pJ k)) 262 (wD k)) Tryz.f261 aek (zH k).toSig x)) rfl
def abj:An:=.s .z (.s .z (.j ⟨[0,2,3],[],[(0,c43),(3,c42)],[]⟩ true (.u (.l ⟨[0,2,3],[],[(0,c43),(3,c42)],[]⟩ (.s .z (.u (.s .z (.j ⟨[0,2,3],[(4,.lf (.sc pi))],[],[]⟩ true .z (.s .z (.k [0,1000000] [] [])))))))) .z))
def CL (k:Nat):Ctr:=⟨⟨c47,[bJ,aJ],1,[0],[⟨none,false,true⟩,⟨some 240,false,false⟩]⟩,fun x=>lN ( dy k) x⟩
theorem V3 (k:Nat) (h:(pJ k).sound Tryz.prog 254):(CL k).sound Tryz.prog 258:=aj (ai (ai (ai uK h) (yG k h)) (EW k h)) au Tryz.func258 (by kernel_rfl) (an:=abj) (fun x=>(by kernel_rfl:(CL k).fn x=aM (aI (aI (aI zX 254 (pJ k)) 262 (wD k)) 261 (zH k)) Tryz.f258 abj (CL k).toSig x)) rfl
theorem sU : ∀ k,(pJ k).sound Tryz.prog 254
 | 0=>fun x r h=>by
  have h1:none=some r:=h
  cases h1
 | k+1=>aj (ai (ai (ai (ai uK (sU k)) (yG k (sU k))) (EW k (sU k))) (V3 k (sU k))) au Tryz.func254 (by kernel_rfl) (an:=ad2) (fun x=>(by kernel_rfl:(pJ (k+1)).fn x=aM (aI (aI (aI (aI zX 254 (pJ k)) 262 (wD k)) 261 (zH k)) 258 (CL k)) Tryz.f254 ad2 (pJ (k+1)).toSig x)) rfl
theorem ZD:ac3.sound Tryz.prog 254:=sU 64
def QS:Cx:=aI zX 254 ac3
theorem JM:Qq0 QS:=ai uK ZD
def abr:An:=.s .z (.s (.s .z (.s (.s .z (.s .z (.s (.k [0,1000000] [] []) .z))) .z)) (.s .z (.s (.k [0,1000000] [] []) (.s .z (.s (.k [0,1000000] [] []) .z)))))
def GW:Ctr:=⟨⟨c45,[bJ,aJ],1,[0],[⟨some 169,false,true⟩,⟨some 240,false,false⟩]⟩,fun x=>oa x.1 x.2⟩
def Q6:Cx:=aI QS 255 GW
theorem Jt:Qq0 Q6:=ai JM (Qq2 JM Tryz.func255 (by kernel_rfl) abr (fun x=>by kernel_rfl) rfl)
def adP:An:=.s .z (.s .z (.j ⟨[0,1,4],[(5,.lf (.sc pi))],[],[]⟩ true (.u (.l ⟨[0,1,4],[(5,.lf (.sc pi))],[],[]⟩ .z)) (Qq1 3 (.j ⟨[0,4,6,5],[],[(0,c43),(6,c44)],[]⟩ true (.s .z (.u (.j ⟨[0,4,6,33],[(34,.lf (.sc .bool))],[],[]⟩ true .z (.s .z (.j ⟨[0,4,6,33],[(42,.lf (.sc .bool))],[],[]⟩ true .z (.s (.s .z (.k [0,1000000] [] [])) (.j ⟨[0,4,6,33],[(55,.lf (.sc .bool))],[],[]⟩ true .z (.s (.s .z (.k [0,1000000] [] [])) (.s .z (.s .z (.s .z (.s .z (.s .z (.s .z (.s .z (.s .z (.s .z (.s (.k [0,1000000] [] []) .z)))))))))))))))))) .z))))
def GK:Ctr:=⟨⟨c45,[bJ,aJ],1,[0],[⟨some 169,false,true⟩,⟨some 240,false,false⟩]⟩,fun x=>oe x.1 x.2⟩
def Ce:Cx:=aI Q6 251 GK
theorem wZ:Qq0 Ce:=ai Jt (Qq2 Jt Tryz.func251 (by kernel_rfl) adP (fun x=>by kernel_rfl) rfl)
def adu:An:=Qq1 3 (.j ⟨[0,2,3],[],[(0,c43),(3,c44)],[]⟩ true (.u (.l ⟨[0,2,3],[],[(0,c43),(3,c44)],[]⟩ (.s .z (.u (.k [0,1000000] [] []))))) .z)
def sL (k_:Nat):Ctr:=⟨⟨c47,[bJ,aJ],1,[0],[⟨none,false,true⟩,⟨some 240,false,false⟩]⟩,fun x=>d9 k_ x⟩
def acl:Ctr:=⟨⟨c47,[bJ,aJ],1,[0],[⟨none,false,true⟩,⟨some 240,false,false⟩]⟩,fun x=>ox x⟩
def adh:An:=Qq1 3 (.j ⟨[0,4,5,1],[],[(5,c44)],[]⟩ true .z (.s (.k [0,1000000] [] []) (.s (.k [0,1000000] [] []) (.j ⟨[0,4,5],[],[(0,c43),(5,[.sc pi,.sc .str,.sc pi,.own .node 169 false [1000005]])],[]⟩ true (.s (.k [0,1000000,3000004,3000005] [] []) (.s (.k [0,1000000] [] []) .z)) .z))))
def yL (k:Nat):Ctr:=⟨⟨c45,[bJ,aJ],1,[0],[⟨some 169,false,true⟩,⟨some 240,false,false⟩]⟩,fun x=>oc ( d9 k) x.1 x.2⟩
theorem FO (k:Nat) (h:(sL k).sound Tryz.prog 193):(yL k).sound Tryz.prog 250:=aj (ai wZ h) au Tryz.func250 (by kernel_rfl) (an:=adh) (fun x=>(by kernel_rfl:(yL k).fn x=aM (aI Ce 193 (sL k)) Tryz.f250 adh (yL k).toSig x)) rfl
def aeg:An:=.z
def Db (k:Nat):Ctr:=⟨⟨c47,[bJ,aJ],1,[0],[⟨some 169,false,true⟩,⟨some 240,false,false⟩]⟩,fun x=>oR ( d9 k) x⟩
theorem Wc (k:Nat) (h:(sL k).sound Tryz.prog 193):(Db k).sound Tryz.prog 238:=aj (ai (ai wZ h) (FO k h)) au Tryz.func238 (by kernel_rfl) (an:=aeg) (fun x=>(by kernel_rfl:(Db k).fn x=aM (aI (aI Ce 193 (sL k)) 250 (yL k)) Tryz.f238 aeg (Db k).toSig x)) rfl
theorem vv : ∀ k,(sL k).sound Tryz.prog 193
 | 0=>fun x r h=>by
  have h1:none=some r:=h
  cases h1
 | k+1=>aj (ai (ai (ai wZ (vv k)) (FO k (vv k))) (Wc k (vv k))) au Tryz.func193 (by kernel_rfl) (an:=adu) (fun x=>(by kernel_rfl:(sL (k+1)).fn x=aM (aI (aI (aI Ce 193 (sL k)) 250 (yL k)) 238 (Db k)) Tryz.f193 adu (sL (k+1)).toSig x)) rfl
theorem Yt:acl.sound Tryz.prog 193:=vv 64
def Rw:Cx:=aI Ce 193 acl
theorem JI:Qq0 Rw:=ai wZ Yt
def abt:An:=Qq1 3 (.j ⟨[0,2,3],[(4,.lf (.sc pi))],[],[]⟩ true (.u (.l ⟨[0,2,3],[(4,.lf (.sc pi))],[],[]⟩ .z)) (.s .z (.s .z (.s .z (.j ⟨[0,2,5,4],[],[(0,c43),(5,c44)],[]⟩ false (.s .z (.u (.s .z (.s .z (.s .z (.s .z (.s .z (.s (.s .z (.j ⟨[0,2,5],[],[(0,c43),(5,c44)],[]⟩ true (.u (.l ⟨[0,2,5],[],[(0,c43),(5,c44)],[]⟩ .z)) .z)) (.j ⟨[0,2,5,38],[(84,.lf (.sc .bool))],[],[]⟩ true .z (.s (.s (.k [0,1000000] [] []) .z) .z)))))))))) .z)))))
def Hh:Ctr:=⟨⟨c47,[bJ,aJ],1,[0],[⟨some 169,false,true⟩,⟨some 240,false,false⟩]⟩,fun x=>pz x⟩
def SX:Cx:=aI Rw 147 Hh
theorem Jx:Qq0 SX:=ai JI (Qq2 JI Tryz.func147 (by kernel_rfl) abt (fun x=>by kernel_rfl) rfl)
def adD:An:=.s .z (.s .z (.j ⟨[1],[(3,.lf (.sc pi))],[],[]⟩ true (.s .z (.u (.l ⟨[1],[(3,.lf (.sc pi)),(4,.lf (.sc pi))],[],[]⟩ .z))) .z))
def B6 (k_:Nat):Ctr:=⟨⟨[.d bJ],[(.sc pi)],1,[],[]⟩,fun x=>mr k_ x⟩
def aea:Ctr:=⟨⟨[.d bJ],[(.sc pi)],1,[],[]⟩,fun x=>sS x⟩
theorem FM : ∀ k,(B6 k).sound Tryz.prog 148
 | 0=>fun x r h=>by
  have h1:none=some r:=h
  cases h1
 | k+1=>aj (ai Jx (FM k)) au Tryz.func148 (by kernel_rfl) (an:=adD) (fun x=>(by kernel_rfl:(B6 (k+1)).fn x=aM (aI SX 148 (B6 k)) Tryz.f148 adD (B6 (k+1)).toSig x)) rfl
theorem Z6:aea.sound Tryz.prog 148:=FM 64
def PS:Cx:=aI SX 148 aea
theorem LR:Qq0 PS:=ai Jx Z6
def abV:An:=.s .z (.j ⟨[1],[],[],[]⟩ false (.s .z (.u (.j ⟨[4],[(5,.lf (.sc .bool))],[],[]⟩ true .z (.s .z (.j ⟨[4],[(9,.lf (.sc .bool))],[],[]⟩ true .z .z))))) .z)
def HS:Ctr:=⟨⟨[.d bJ],[(.sc pi)],1,[],[]⟩,fun x=>sC x⟩
def GG:Cx:=aI PS 260 HS
theorem Bs:Qq0 GG:=ai LR (Qq2 LR Tryz.func260 (by kernel_rfl) abV (fun x=>by kernel_rfl) rfl)
def acz:An:=.s .z (.j ⟨[1],[],[],[]⟩ false (.s .z (.u (Qq1 4 (.j ⟨[1,6],[(17,.lf (.sc .bool))],[],[]⟩ true .z .z)))) .z)
def wS (k_:Nat):Ctr:=⟨⟨[.d bJ],[(.sc .str)],1,[],[]⟩,fun x=>jF k_ x⟩
def adV:Ctr:=⟨⟨[.d bJ],[(.sc .str)],1,[],[]⟩,fun x=>fc x⟩
def adI:An:=.z
def C3 (k:Nat):Ctr:=⟨⟨[.d bJ,.d (.sc pi)],[(.sc .str)],1,[],[]⟩,fun x=>cr ( jF k) x.1 x.2⟩
theorem VR (k:Nat) (h:(wS k).sound Tryz.prog 252):(C3 k).sound Tryz.prog 257:=aj (ai Bs h) au Tryz.func257 (by kernel_rfl) (an:=adI) (fun x=>(by kernel_rfl:(C3 k).fn x=aM (aI GG 252 (wS k)) Tryz.f257 adI (C3 k).toSig x)) rfl
theorem zb : ∀ k,(wS k).sound Tryz.prog 252
 | 0=>fun x r h=>by
  have h1:none=some r:=h
  cases h1
 | k+1=>aj (ai (ai Bs (zb k)) (VR k (zb k))) au Tryz.func252 (by kernel_rfl) (an:=acz) (fun x=>(by kernel_rfl:(wS (k+1)).fn x=aM (aI (aI GG 252 (wS k)) 257 (C3 k)) Tryz.f252 acz (wS (k+1)).toSig x)) rfl
theorem aaA:adV.sound Tryz.prog 252:=zb 64
def HV:Cx:=aI GG 252 adV
theorem Bj:Qq0 HV:=ai Bs aaA
def aca:An:=.s .z (.s .z (.j ⟨[1],[(3,.lf (.sc .str))],[],[]⟩ true (.s .z (.u (.l ⟨[1],[(3,.lf (.sc .str)),(4,.lf (.sc pi))],[],[]⟩ .z))) .z))
def wx (k_:Nat):Ctr:=⟨⟨[.d bJ],[(.sc .str)],1,[],[]⟩,fun x=>jM k_ x⟩
def acr:Ctr:=⟨⟨[.d bJ],[(.sc .str)],1,[],[]⟩,fun x=>tE x⟩
def acy:An:=.s .z (.s .z (.s (.s .z (.u (Qq1 7 (.s (.s .z (.j ⟨[3],[(4,.lf (.sc .str))],[],[]⟩ true .z .z)) .z)))) (.s .z (.j ⟨[1,5,3],[],[],[]⟩ false (.s .z (.u (.j ⟨[1,3,5,78],[(79,.lf (.sc .bool))],[],[]⟩ true .z (.s .z (.j ⟨[1,3,5,78],[(90,.lf (.sc .bool))],[],[]⟩ true .z .z))))) .z))))
def Cm (k:Nat):Ctr:=⟨⟨[.d bJ],[(.sc .str)],1,[],[]⟩,fun x=>tC ( jM k) x⟩
theorem VS (k:Nat) (h:(wx k).sound Tryz.prog 195):(Cm k).sound Tryz.prog 239:=aj (ai Bj h) au Tryz.func239 (by kernel_rfl) (an:=acy) (fun x=>(by kernel_rfl:(Cm k).fn x=aM (aI HV 195 (wx k)) Tryz.f239 acy (Cm k).toSig x)) rfl
theorem yE : ∀ k,(wx k).sound Tryz.prog 195
 | 0=>fun x r h=>by
  have h1:none=some r:=h
  cases h1
 | k+1=>aj (ai (ai Bj (yE k)) (VS k (yE k))) au Tryz.func195 (by kernel_rfl) (an:=aca) (fun x=>(by kernel_rfl:(wx (k+1)).fn x=aM (aI (aI HV 195 (wx k)) 239 (Cm k)) Tryz.f195 aca (wx (k+1)).toSig x)) rfl
theorem aa4:acr.sound Tryz.prog 195:=yE 64
def Rc:Cx:=aI HV 195 acr
theorem Mn:Qq0 Rc:=ai Bj aa4
def acA:An:=.s .z (.s .z (.j ⟨[1],[(3,.lf (.sc .str))],[],[]⟩ false (.s .z (.u (Qq1 4 (.j ⟨[1,3,15],[(34,.lf (.sc .bool))],[],[]⟩ true .z (.s .z (.s .z (.s (.s .z (.j ⟨[1],[(3,.lf (.sc .str))],[],[]⟩ true (.s .z (.u (.l ⟨[1],[(3,.lf (.sc .str)),(4,.lf (.sc pi))],[],[]⟩ .z))) .z)) .z))))))) .z))
def H6:Ctr:=⟨⟨[.d bJ],[(.sc .str)],1,[],[]⟩,fun x=>tF x⟩
def Q8:Cx:=aI Rc 149 H6
theorem Ku:Qq0 Q8:=ai Mn (Qq2 Mn Tryz.func149 (by kernel_rfl) acA (fun x=>by kernel_rfl) rfl)
def aiW:An:=Qq1 5 (.s (.s .z (.s (.s (.s .z (.s (.s (.k [2] [] []) .z) .z)) (.s (.k [2] [] []) .z)) .z)) (.s (.s .z (.s (.s (.k [2] [] []) .z) .z)) .z))
def Tm:Ctr:=⟨⟨[.d (.sc .str)],[bJ,(.sc pi),(.sc pi)],3,[],[⟨some 169,false,true⟩]⟩,fun x=>dS x⟩
def aaj:Cx:=aI Q8 88 Tm
theorem OP:Qq0 aaj:=ai Ku (Qq2 Ku Tryz.func88 (by kernel_rfl) aiW (fun x=>by kernel_rfl) rfl)
def aiS:An:=.s .z (.j ⟨[0,1],[],[],[]⟩ false (.s .z (.u (.l ⟨[0,1],[(5,.lf (.sc pi))],[],[]⟩ .z))) .z)
def RW:Ctr:=⟨⟨[.d (.slice cu),.d (.sc .str)],[(.sc pi)],1,[],[]⟩,fun x=>bP x.1 x.2⟩
def X0:Cx:=aI aaj 89 RW
theorem OB:Qq0 X0:=ai OP (Qq2 OP Tryz.func89 (by kernel_rfl) aiS (fun x=>by kernel_rfl) rfl)
def acP:An:=.s .z (.s .z (.j ⟨[1],[(3,.lf (.own (.sc .str) 9 false []))],[],[]⟩ true (.s .z (.u (.l ⟨[1],[(3,.lf (.own (.sc .str) 9 false [])),(4,.lf (.sc pi))],[],[]⟩ (.s .z (.j ⟨[1,4],[(3,.lf (.own (.sc .str) 9 false []))],[],[]⟩ true .z .z))))) .z))
def Ie:Ctr:=⟨⟨[.d bJ],[(.slice (.sc .str))],1,[],[⟨some 9,false,false⟩]⟩,fun x=>gr x⟩
def Qy:Cx:=aI X0 228 Ie
theorem KQ:Qq0 Qy:=ai OB (Qq2 OB Tryz.func228 (by kernel_rfl) acP (fun x=>by kernel_rfl) rfl)
def abC:An:=Qq1 6 (.j ⟨[],[],[],[8]⟩ false (.s .z (.u (.l ⟨[8],[(9,.lf (.sc pi))],[],[]⟩ .z))) .z)
def G5:Ctr:=⟨⟨[.d (.slice cu),.d (.sc pi)],[(.sc pi)],1,[],[]⟩,fun x=>gR x.1 x.2⟩
def R9:Cx:=aI Qy 181 G5
theorem K5:Qq0 R9:=ai KQ (Qq2 KQ Tryz.func181 (by kernel_rfl) abC (fun x=>by kernel_rfl) rfl)
def acq:An:=.z
def Id:Ctr:=⟨⟨[.d (.sc .str)],[bJ],1,[],[⟨some 169,false,true⟩]⟩,fun x=>eZ x⟩
def RR:Cx:=aI R9 185 Id
theorem Ip:Qq0 RR:=ai K5 (Qq2 K5 Tryz.func185 (by kernel_rfl) acq (fun x=>by kernel_rfl) rfl)
def abF:An:=.s .z (.j ⟨[0],[],[],[]⟩ false (.s .z (.u (Qq1 4 (.j ⟨[3],[(8,.lf (.sc .bool))],[],[]⟩ true .z (.s .z (.j ⟨[3],[(11,.lf (.sc .bool))],[],[]⟩ true .z (.s .z (.j ⟨[3],[(14,.lf (.sc .bool))],[],[]⟩ true .z (.s .z (.j ⟨[3],[(17,.lf (.sc .bool))],[],[]⟩ true .z .z)))))))))) .z)
def HL:Ctr:=⟨⟨[.d (.sc pi)],[(.sc pi)],1,[],[]⟩,fun x=>nD x⟩
def Tz:Cx:=aI RR 229 HL
theorem Jz:Qq0 Tz:=ai Ip (Qq2 Ip Tryz.func229 (by kernel_rfl) abF (fun x=>by kernel_rfl) rfl)
def ac0:An:=.s .z (.j ⟨[0],[],[],[]⟩ false (.s .z (.u (.l ⟨[0],[(4,.lf (.sc pi))],[],[]⟩ .z))) .z)
def HU:Ctr:=⟨⟨[.d (.sc .str)],[(.sc .str),(.sc .str)],2,[],[]⟩,fun x=>uV x⟩
def RP:Cx:=aI Tz 230 HU
theorem JJ:Qq0 RP:=ai Jz (Qq2 Jz Tryz.func230 (by kernel_rfl) ac0 (fun x=>by kernel_rfl) rfl)
def abT:An:=.s .z (.s .z (.j ⟨[1],[(3,.lf (.own fJ 276 false []))],[],[]⟩ true .z (.j ⟨[1],[(3,.lf (.own fJ 276 false []))],[],[]⟩ true (.s .z (.u (.l ⟨[1],[(3,.lf (.own fJ 276 false [])),(6,.lf (.sc pi))],[],[]⟩ .z))) .z)))
def Cb (k_:Nat):Ctr:=⟨⟨[.d bJ],[(.slice fJ)],1,[],[⟨some 276,false,false⟩]⟩,fun x=>mv k_ x⟩
def adB:Ctr:=⟨⟨[.d bJ],[(.slice fJ)],1,[],[⟨some 276,false,false⟩]⟩,fun x=>fR x⟩
theorem EO : ∀ k,(Cb k).sound Tryz.prog 184
 | 0=>fun x r h=>by
  have h1:none=some r:=h
  cases h1
 | k+1=>aj (ai JJ (EO k)) au Tryz.func184 (by kernel_rfl) (an:=abT) (fun x=>(by kernel_rfl:(Cb (k+1)).fn x=aM (aI RP 184 (Cb k)) Tryz.f184 abT (Cb (k+1)).toSig x)) rfl
theorem YC:adB.sound Tryz.prog 184:=EO 64
def R8:Cx:=aI RP 184 adB
theorem Lc:Qq0 R8:=ai JJ YC
def aec:An:=.s .z (.s .z (.j ⟨[0,5],[],[],[]⟩ false (.s .z (.u (.l ⟨[0,5],[(6,.lf (.sc pi))],[],[]⟩ .z))) (.j ⟨[0,5],[],[],[]⟩ false (.s .z (.u (.l ⟨[0,5],[(7,.lf (.sc pi))],[],[]⟩ .z))) (.j ⟨[0],[],[],[5]⟩ false (.s .z (.u (.l ⟨[0,5],[(8,.lf (.sc pi))],[],[]⟩ .z))) .z))))
def G1:Ctr:=⟨⟨[.d (.slice cu),.d (.sc pi)],[(.sc pi)],1,[],[]⟩,fun x=>lE x.1 x.2⟩
def SJ:Cx:=aI R8 182 G1
theorem Ja:Qq0 SJ:=ai Lc (Qq2 Lc Tryz.func182 (by kernel_rfl) aec (fun x=>by kernel_rfl) rfl)
def aem:An:=Qq1 3 (.j ⟨[0,1],[(5,.lf (.sc pi))],[],[]⟩ true (.u (.l ⟨[0,1],[(5,.lf (.sc pi))],[],[]⟩ .z)) .z)
def HB:Ctr:=⟨⟨[.d (.slice (.sc .str)),.d (.sc .str)],[(.slice (.sc .str))],1,[],[⟨none,true,true⟩]⟩,fun x=>la x.1 x.2⟩
def So:Cx:=aI SJ 144 HB
theorem IW:Qq0 So:=ai Ja (Qq2 Ja Tryz.func144 (by kernel_rfl) aem (fun x=>by kernel_rfl) rfl)
def acT:An:=Qq1 3 (.j ⟨[0,2],[(7,.lf (.rep (.sc .str) false []))],[],[8]⟩ true (.s .z (.u (.l ⟨[0,2],[(7,.lf (.rep (.sc .str) false [])),(8,.lf (.own (.sc .str) 9 false [])),(9,.lf (.sc pi))],[],[]⟩ (.s .z (.j ⟨[0,2,9],[(7,.lf (.rep (.sc .str) false [])),(8,.lf (.own (.sc .str) 9 false []))],[],[]⟩ true (.u (.s .z (.s .z (.s .z (.s .z (.u (.l ⟨[0,2,9,11],[(7,.lf (.rep (.sc .str) false [])),(8,.lf (.own (.sc .str) 9 false [])),(12,.lf (.sc pi))],[],[]⟩ (.s .z (.j ⟨[0,2,9,11,12],[(7,.lf (.rep (.sc .str) false [])),(8,.lf (.own (.sc .str) 9 false []))],[],[]⟩ true .z .z))))))))) .z))))) .z)
def Hv:Ctr:=⟨⟨[.d (.slice cu),.d (.sc .str),.d (.sc .bool)],[(.slice (.sc .str))],1,[],[⟨none,false,true⟩]⟩,fun x=>io x.1 x.2.1 x.2.2⟩
def RN:Cx:=aI So 145 Hv
theorem K4:Qq0 RN:=ai IW (Qq2 IW Tryz.func145 (by kernel_rfl) acT (fun x=>by kernel_rfl) rfl)
def adS:An:=.s .z (.s .z (.j ⟨[0],[],[],[]⟩ false (.s .z (.u (.l ⟨[0],[(4,.lf (.sc pi))],[],[]⟩ .z))) (.j ⟨[0],[],[],[]⟩ false (.s .z (.u (.l ⟨[0],[(6,.lf (.sc pi))],[],[]⟩ .z))) (.j ⟨[0],[],[],[]⟩ false (.s .z (.u (.l ⟨[0],[(8,.lf (.sc pi))],[],[]⟩ .z))) .z))))
def Hq:Ctr:=⟨⟨[.d (.slice cu)],[(.sc pi),(.sc pi)],2,[],[]⟩,fun x=>mo x⟩
def Qz:Cx:=aI RN 143 Hq
theorem KH:Qq0 Qz:=ai K4 (Qq2 K4 Tryz.func143 (by kernel_rfl) adS (fun x=>by kernel_rfl) rfl)
def ag3:An:=Qq1 6 (.j ⟨[0,8],[(9,.lf (.own cu 132 false []))],[],[]⟩ true (.s .z (.u (.l ⟨[0,8],[(9,.lf (.own cu 132 false [])),(10,.lf (.sc pi))],[],[]⟩ .z))) .z)
def P1:Ctr:=⟨⟨[.d (.slice cu),.d (.sc .str)],[(.slice cu),(.sc pi)],2,[],[⟨some 132,false,false⟩]⟩,fun x=>lV x.1 x.2⟩
def Zz:Cx:=aI Qz 87 P1
theorem Ni:Qq0 Zz:=ai KH (Qq2 KH Tryz.func87 (by kernel_rfl) ag3 (fun x=>by kernel_rfl) rfl)
def ahs:An:=.z
def TB:Ctr:=⟨⟨[.box true bo [some 99,some 3,some 3,none,none,none,none,none,some 9],.d (.sc pi),.d (.sc pi),.d (.sc pi)],[bo],0,[0],[⟨some 99,false,false⟩,⟨some 3,false,false⟩,⟨some 3,false,false⟩,⟨none,true,false⟩,⟨none,true,false⟩,⟨none,true,false⟩,⟨none,true,false⟩,⟨none,true,false⟩,⟨some 9,false,false⟩]⟩,fun x=>aD x.1 x.2.1 x.2.2.1 x.2.2.2⟩
def Yf:Cx:=aI Zz 93 TB
theorem OX:Qq0 Yf:=ai Ni (Qq2 Ni Tryz.func93 (by kernel_rfl) ahs (fun x=>by kernel_rfl) rfl)
def ab9:An:=.s .z (.j ⟨[0,1],[],[],[]⟩ false (.s .z (.u (.l ⟨[0,1],[(5,.lf (.sc pi))],[],[]⟩ .z))) .z)
def HW:Ctr:=⟨⟨[.d (.slice (.sc .str)),.d (.sc .str)],[(.sc pi)],1,[],[]⟩,fun x=>bO x.1 x.2⟩
def To:Cx:=aI Yf 196 HW
theorem LZ:Qq0 To:=ai OX (Qq2 OX Tryz.func196 (by kernel_rfl) ab9 (fun x=>by kernel_rfl) rfl)
def ac7:An:=.s .z (.j ⟨[0,1],[],[(0,c30)],[]⟩ true .z .z)
def G9:Ctr:=⟨⟨[.box true bo [some 99,some 3,some 3,none,none,none,none,none,some 9],.d (.sc .str)],[(.sc pi),bo],1,[0],[⟨some 99,false,false⟩,⟨some 3,false,false⟩,⟨some 3,false,false⟩,⟨none,true,true⟩,⟨none,true,true⟩,⟨none,true,true⟩,⟨none,true,true⟩,⟨none,true,true⟩,⟨some 9,false,false⟩]⟩,fun x=>cn x.1 x.2⟩
def Ru:Cx:=aI To 151 G9
theorem IB:Qq0 Ru:=ai LZ (Qq2 LZ Tryz.func151 (by kernel_rfl) ac7 (fun x=>by kernel_rfl) rfl)
def aiU:An:=.s .z (.j ⟨[0,3],[],[(0,c30)],[]⟩ true .z (.s .z (.u (.l ⟨[0,3],[(4,.lf (.sc pi))],[(0,c28)],[]⟩ .z))))
def Hz (k_:Nat):Ctr:=⟨⟨c41,[bo],0,[0],[⟨some 99,false,false⟩,⟨some 3,false,false⟩,⟨some 3,false,false⟩,⟨none,true,true⟩,⟨none,true,true⟩,⟨none,true,true⟩,⟨none,true,true⟩,⟨none,true,true⟩,⟨some 9,false,false⟩]⟩,fun x=>cE k_ x.1 x.2⟩
def ahN:Ctr:=⟨⟨c41,[bo],0,[0],[⟨some 99,false,false⟩,⟨some 3,false,false⟩,⟨some 3,false,false⟩,⟨none,true,true⟩,⟨none,true,true⟩,⟨none,true,true⟩,⟨none,true,true⟩,⟨none,true,true⟩,⟨some 9,false,false⟩]⟩,fun x=>lM x.1 x.2⟩
theorem II : ∀ k,(Hz k).sound Tryz.prog 91
 | 0=>fun x r h=>by
  have h1:none=some r:=h
  cases h1
 | k+1=>aj (ai IB (II k)) au Tryz.func91 (by kernel_rfl) (an:=aiU) (fun x=>(by kernel_rfl:(Hz (k+1)).fn x=aM (aI Ru 91 (Hz k)) Tryz.f91 aiU (Hz (k+1)).toSig x)) rfl
theorem afT:ahN.sound Tryz.prog 91:=II 64
def WI:Cx:=aI Ru 91 ahN
theorem NP:Qq0 WI:=ai IB afT
end
end Go.Proofs.YtfhhiajfciblbaaGreatDoor
