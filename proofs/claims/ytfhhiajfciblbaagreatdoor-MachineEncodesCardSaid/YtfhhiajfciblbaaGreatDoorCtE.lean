/- Laws for the row. No condition. -/
import Derived.Test.YtfhhiajfciblbaaGreatDoorCtD
namespace Go.Proofs.YtfhhiajfciblbaaGreatDoor
open Go.Sm
set_option maxRecDepth 100000
set_option linter.unusedSectionVars false
section
variable [Itr] [SortLaw]
def ah4:An:=.s .z (.s .z (.j ⟨[0,1,4],[(5,.lf (.sc pi))],[],[]⟩ true (.u (.l ⟨[0,1,4],[(5,.lf (.sc pi))],[],[]⟩ .z)) (Qq1 3 (.j ⟨[0,4,6,5],[],[(0,c45),(6,c46)],[]⟩ true (.s .z (.u (.j ⟨[0,4,6,33],[(34,.lf (.sc .bool))],[],[]⟩ true .z (.s .z (.j ⟨[0,4,6,33],[(42,.lf (.sc .bool))],[],[]⟩ true .z (.s (.s .z (.k [0,1000000] [] [])) (.j ⟨[0,4,6,33],[(55,.lf (.sc .bool))],[],[]⟩ true .z (.s (.s .z (.k [0,1000000] [] [])) (.s .z (.s .z (.s .z (.s .z (.s .z (.s .z (.s .z (.s .z (.s .z (.s (.k [0,1000000] [] []) .z)))))))))))))))))) .z))))
def J1:Ctr:=⟨⟨c47,[bG,aL],1,[0],[⟨some 169,false,true⟩,⟨some 240,false,false⟩]⟩,λx=>om x.1 x.2⟩
def EP:Cx:=aD WV 251 J1
theorem yO:Qq0 EP:=am KU (Qq2 KU Tryz.func251 (by kernel_rfl) ah4 (λx=>by kernel_rfl) rfl)
def ajU:An:=Qq1 3 (.j ⟨[0,2,3],[],[(0,c45),(3,c46)],[]⟩ true (.u (.l ⟨[0,2,3],[],[(0,c45),(3,c46)],[]⟩ (.s .z (.u (.k [0,1000000] [] []))))) .z)
def uf(k_:Nat):Ctr:=⟨⟨c50,[bG,aL],1,[0],[⟨none,false,true⟩,⟨some 240,false,false⟩]⟩,λx=>d8 k_ x⟩
def aiZ:Ctr:=⟨⟨c50,[bG,aL],1,[0],[⟨none,false,true⟩,⟨some 240,false,false⟩]⟩,λx=>oO x⟩
def ajH:An:=Qq1 3 (.j ⟨[0,4,5,1],[],[(5,c46)],[]⟩ true .z (.s (.k [0,1000000] [] []) (.s (.k [0,1000000] [] []) (.j ⟨[0,4,5],[],[(0,c45),(5,[.sc pi,.sc .str,.sc pi,.own .node 169 false [1000005]])],[]⟩ true (.s (.k [0,1000000,3000004,3000005] [] []) (.s (.k [0,1000000] [] []) .z)) .z))))
def Bc(k:Nat):Ctr:=⟨⟨c47,[bG,aL],1,[0],[⟨some 169,false,true⟩,⟨some 240,false,false⟩]⟩,λx=>og (d8 k) x.1 x.2⟩
theorem Hc(k:Nat)(h:(uf k).sound Tryz.prog 193):(Bc k).sound Tryz.prog 250:=ai (am yO h) aw Tryz.func250 (by kernel_rfl) (an:=ajH) (λx=>(by kernel_rfl:(Bc k).fn x=aK (aD EP 193 (uf k)) Tryz.f250 ajH (Bc k).toSig x)) rfl
def ai6:An:=.z
def Eh(k:Nat):Ctr:=⟨⟨c50,[bG,aL],1,[0],[⟨some 169,false,true⟩,⟨some 240,false,false⟩]⟩,λx=>oT (d8 k) x⟩
theorem aag(k:Nat)(h:(uf k).sound Tryz.prog 193):(Eh k).sound Tryz.prog 238:=ai (am (am yO h) (Hc k h)) aw Tryz.func238 (by kernel_rfl) (an:=ai6) (λx=>(by kernel_rfl:(Eh k).fn x=aK (aD (aD EP 193 (uf k)) 250 (Bc k)) Tryz.f238 ai6 (Eh k).toSig x)) rfl
theorem wC:∀k,(uf k).sound Tryz.prog 193
 |0=>λx r h=>by have h1:none=some r:=h;cases h1
 |k+1=>ai (am (am (am yO (wC k)) (Hc k (wC k))) (aag k (wC k))) aw Tryz.func193 (by kernel_rfl) (an:=ajU) (λx=>(by kernel_rfl:(uf (k+1)).fn x=aK (aD (aD (aD EP 193 (uf k)) 250 (Bc k)) 238 (Eh k)) Tryz.f193 ajU (uf (k+1)).toSig x)) rfl
theorem abi:aiZ.sound Tryz.prog 193:=wC 64
def VV:Cx:=aD EP 193 aiZ
theorem N5:Qq0 VV:=am yO abi
def ahs:An:=Qq1 3 (.j ⟨[0,2,3],[(4,.lf (.sc pi))],[],[]⟩ true (.u (.l ⟨[0,2,3],[(4,.lf (.sc pi))],[],[]⟩ .z)) (.s .z (.s .z (.s .z (.j ⟨[0,2,5,4],[],[(0,c45),(5,c46)],[]⟩ false (.s .z (.u (.s .z (.s .z (.s .z (.s .z (.s .z (.s (.s .z (.j ⟨[0,2,5],[],[(0,c45),(5,c46)],[]⟩ true (.u (.l ⟨[0,2,5],[],[(0,c45),(5,c46)],[]⟩ .z)) .z)) (.j ⟨[0,2,5,38],[(84,.lf (.sc .bool))],[],[]⟩ true .z (.s (.s (.k [0,1000000] [] []) .z) .z)))))))))) .z)))))
def JP:Ctr:=⟨⟨c50,[bG,aL],1,[0],[⟨some 169,false,true⟩,⟨some 240,false,false⟩]⟩,λx=>pW x⟩
def TJ:Cx:=aD VV 147 JP
theorem LC:Qq0 TJ:=am N5 (Qq2 N5 Tryz.func147 (by kernel_rfl) ahs (λx=>by kernel_rfl) rfl)
def ahC:An:=.s .z (.s .z (.j ⟨[1],[(3,.lf (.sc pi))],[],[]⟩ true (.s .z (.u (.l ⟨[1],[(3,.lf (.sc pi)),(4,.lf (.sc pi))],[],[]⟩ .z))) .z))
def D1(k_:Nat):Ctr:=⟨⟨[.d bG],[(.sc pi)],1,[],[]⟩,λx=>mo k_ x⟩
def ajr:Ctr:=⟨⟨[.d bG],[(.sc pi)],1,[],[]⟩,λx=>tM x⟩
theorem G5:∀k,(D1 k).sound Tryz.prog 148
 |0=>λx r h=>by have h1:none=some r:=h;cases h1
 |k+1=>ai (am LC (G5 k)) aw Tryz.func148 (by kernel_rfl) (an:=ahC) (λx=>(by kernel_rfl:(D1 (k+1)).fn x=aK (aD TJ 148 (D1 k)) Tryz.f148 ahC (D1 (k+1)).toSig x)) rfl
theorem afV:ajr.sound Tryz.prog 148:=G5 64
def VZ:Cx:=aD TJ 148 ajr
theorem O0:Qq0 VZ:=am LC afV
def ahL:An:=.s .z (.j ⟨[1],[],[],[]⟩ false (.s .z (.u (.j ⟨[4],[(5,.lf (.sc .bool))],[],[]⟩ true .z (.s .z (.j ⟨[4],[(9,.lf (.sc .bool))],[],[]⟩ true .z .z))))) .z)
def Kc:Ctr:=⟨⟨[.d bG],[(.sc pi)],1,[],[]⟩,λx=>ue x⟩
def I9:Cx:=aD VZ 260 Kc
theorem C9:Qq0 I9:=am O0 (Qq2 O0 Tryz.func260 (by kernel_rfl) ahL (λx=>by kernel_rfl) rfl)
def aiD:An:=.s .z (.j ⟨[1],[],[],[]⟩ false (.s .z (.u (Qq1 4 (.j ⟨[1,6],[(17,.lf (.sc .bool))],[],[]⟩ true .z .z)))) .z)
def x7(k_:Nat):Ctr:=⟨⟨[.d bG],[(.sc .str)],1,[],[]⟩,λx=>jU k_ x⟩
def agW:Ctr:=⟨⟨[.d bG],[(.sc .str)],1,[],[]⟩,λx=>eY x⟩
def agI:An:=.z
def Ex(k:Nat):Ctr:=⟨⟨[.d bG,.d (.sc pi)],[(.sc .str)],1,[],[]⟩,λx=>cB (jU k) x.1 x.2⟩
theorem Yn(k:Nat)(h:(x7 k).sound Tryz.prog 252):(Ex k).sound Tryz.prog 257:=ai (am C9 h) aw Tryz.func257 (by kernel_rfl) (an:=agI) (λx=>(by kernel_rfl:(Ex k).fn x=aK (aD I9 252 (x7 k)) Tryz.f257 agI (Ex k).toSig x)) rfl
theorem AM:∀k,(x7 k).sound Tryz.prog 252
 |0=>λx r h=>by have h1:none=some r:=h;cases h1
 |k+1=>ai (am (am C9 (AM k)) (Yn k (AM k))) aw Tryz.func252 (by kernel_rfl) (an:=aiD) (λx=>(by kernel_rfl:(x7 (k+1)).fn x=aK (aD (aD I9 252 (x7 k)) 257 (Ex k)) Tryz.f252 aiD (x7 (k+1)).toSig x)) rfl
theorem adK:agW.sound Tryz.prog 252:=AM 64
def Jp:Cx:=aD I9 252 agW
theorem CU:Qq0 Jp:=am C9 adK
def ajy:An:=.s .z (.s .z (.j ⟨[1],[(3,.lf (.sc .str))],[],[]⟩ true (.s .z (.u (.l ⟨[1],[(3,.lf (.sc .str)),(4,.lf (.sc pi))],[],[]⟩ .z))) .z))
def xZ(k_:Nat):Ctr:=⟨⟨[.d bG],[(.sc .str)],1,[],[]⟩,λx=>j6 k_ x⟩
def aiY:Ctr:=⟨⟨[.d bG],[(.sc .str)],1,[],[]⟩,λx=>uG x⟩
def ai0:An:=.s .z (.s .z (.s (.s .z (.u (Qq1 7 (.s (.s .z (.j ⟨[3],[(4,.lf (.sc .str))],[],[]⟩ true .z .z)) .z)))) (.s .z (.j ⟨[1,5,3],[],[],[]⟩ false (.s .z (.u (.j ⟨[1,3,5,78],[(79,.lf (.sc .bool))],[],[]⟩ true .z (.s .z (.j ⟨[1,3,5,78],[(90,.lf (.sc .bool))],[],[]⟩ true .z .z))))) .z))))
def Ey(k:Nat):Ctr:=⟨⟨[.d bG],[(.sc .str)],1,[],[]⟩,λx=>uz (j6 k) x⟩
theorem ZJ(k:Nat)(h:(xZ k).sound Tryz.prog 195):(Ey k).sound Tryz.prog 239:=ai (am CU h) aw Tryz.func239 (by kernel_rfl) (an:=ai0) (λx=>(by kernel_rfl:(Ey k).fn x=aK (aD Jp 195 (xZ k)) Tryz.f239 ai0 (Ey k).toSig x)) rfl
theorem Bu:∀k,(xZ k).sound Tryz.prog 195
 |0=>λx r h=>by have h1:none=some r:=h;cases h1
 |k+1=>ai (am (am CU (Bu k)) (ZJ k (Bu k))) aw Tryz.func195 (by kernel_rfl) (an:=ajy) (λx=>(by kernel_rfl:(xZ (k+1)).fn x=aK (aD (aD Jp 195 (xZ k)) 239 (Ey k)) Tryz.f195 ajy (xZ (k+1)).toSig x)) rfl
theorem afI:aiY.sound Tryz.prog 195:=Bu 64
def XC:Cx:=aD Jp 195 aiY
theorem Of:Qq0 XC:=am CU afI
def ajB:An:=.s .z (.s .z (.j ⟨[1],[(3,.lf (.sc .str))],[],[]⟩ false (.s .z (.u (Qq1 4 (.j ⟨[1,3,15],[(34,.lf (.sc .bool))],[],[]⟩ true .z (.s .z (.s .z (.s (.s .z (.j ⟨[1],[(3,.lf (.sc .str))],[],[]⟩ true (.s .z (.u (.l ⟨[1],[(3,.lf (.sc .str)),(4,.lf (.sc pi))],[],[]⟩ .z))) .z)) .z))))))) .z))
def IK:Ctr:=⟨⟨[.d bG],[(.sc .str)],1,[],[]⟩,λx=>uC x⟩
def Vo:Cx:=aD XC 149 IK
theorem Lr:Qq0 Vo:=am Of (Qq2 Of Tryz.func149 (by kernel_rfl) ajB (λx=>by kernel_rfl) rfl)
def ap7:An:=Qq1 5 (.s (.s .z (.s (.s (.s .z (.s (.s (.k [2] [] []) .z) .z)) (.s (.k [2] [] []) .z)) .z)) (.s (.s .z (.s (.s (.k [2] [] []) .z) .z)) .z))
def Tu:Ctr:=⟨⟨[.d (.sc .str)],[bG,(.sc pi),(.sc pi)],3,[],[⟨some 169,false,true⟩]⟩,λx=>dL x⟩
def afg:Cx:=aD Vo 88 Tu
theorem Q1:Qq0 afg:=am Lr (Qq2 Lr Tryz.func88 (by kernel_rfl) ap7 (λx=>by kernel_rfl) rfl)
def anm:An:=.s .z (.j ⟨[0,1],[],[],[]⟩ false (.s .z (.u (.l ⟨[0,1],[(5,.lf (.sc pi))],[],[]⟩ .z))) .z)
def Vu:Ctr:=⟨⟨[.d (.slice cC),.d (.sc .str)],[(.sc pi)],1,[],[]⟩,λx=>bQ x.1 x.2⟩
def ago:Cx:=aD afg 89 Vu
theorem Re:Qq0 ago:=am Q1 (Qq2 Q1 Tryz.func89 (by kernel_rfl) anm (λx=>by kernel_rfl) rfl)
def aif:An:=.s .z (.s .z (.j ⟨[1],[(3,.lf (.own (.sc .str) 9 false []))],[],[]⟩ true (.s .z (.u (.l ⟨[1],[(3,.lf (.own (.sc .str) 9 false [])),(4,.lf (.sc pi))],[],[]⟩ (.s .z (.j ⟨[1,4],[(3,.lf (.own (.sc .str) 9 false []))],[],[]⟩ true .z .z))))) .z))
def JS:Ctr:=⟨⟨[.d bG],[(.slice (.sc .str))],1,[],[⟨some 9,false,false⟩]⟩,λx=>gm x⟩
def TS:Cx:=aD ago 228 JS
theorem OT:Qq0 TS:=am Re (Qq2 Re Tryz.func228 (by kernel_rfl) aif (λx=>by kernel_rfl) rfl)
def aiW:An:=Qq1 6 (.j ⟨[],[],[],[8]⟩ false (.s .z (.u (.l ⟨[8],[(9,.lf (.sc pi))],[],[]⟩ .z))) .z)
def Im:Ctr:=⟨⟨[.d (.slice cC),.d (.sc pi)],[(.sc pi)],1,[],[]⟩,λx=>gR x.1 x.2⟩
def VK:Cx:=aD TS 181 Im
theorem NJ:Qq0 VK:=am OT (Qq2 OT Tryz.func181 (by kernel_rfl) aiW (λx=>by kernel_rfl) rfl)
def ahV:An:=.z
def IW:Ctr:=⟨⟨[.d (.sc .str)],[bG],1,[],[⟨some 169,false,true⟩]⟩,λx=>eZ x⟩
def Wp:Cx:=aD VK 185 IW
theorem Mb:Qq0 Wp:=am NJ (Qq2 NJ Tryz.func185 (by kernel_rfl) ahV (λx=>by kernel_rfl) rfl)
def aha:An:=.s .z (.j ⟨[0],[],[],[]⟩ false (.s .z (.u (Qq1 4 (.j ⟨[3],[(8,.lf (.sc .bool))],[],[]⟩ true .z (.s .z (.j ⟨[3],[(11,.lf (.sc .bool))],[],[]⟩ true .z (.s .z (.j ⟨[3],[(14,.lf (.sc .bool))],[],[]⟩ true .z (.s .z (.j ⟨[3],[(17,.lf (.sc .bool))],[],[]⟩ true .z .z)))))))))) .z)
def Is:Ctr:=⟨⟨[.d (.sc pi)],[(.sc pi)],1,[],[]⟩,λx=>nz x⟩
def XE:Cx:=aD Wp 229 Is
theorem ME:Qq0 XE:=am Mb (Qq2 Mb Tryz.func229 (by kernel_rfl) aha (λx=>by kernel_rfl) rfl)
def ajo:An:=.s .z (.j ⟨[0],[],[],[]⟩ false (.s .z (.u (.l ⟨[0],[(4,.lf (.sc pi))],[],[]⟩ .z))) .z)
def JQ:Ctr:=⟨⟨[.d (.sc .str)],[(.sc .str),(.sc .str)],2,[],[]⟩,λx=>vi x⟩
def Ui:Cx:=aD XE 230 JQ
theorem LG:Qq0 Ui:=am ME (Qq2 ME Tryz.func230 (by kernel_rfl) ajo (λx=>by kernel_rfl) rfl)
def agP:An:=.s .z (.s .z (.j ⟨[1],[(3,.lf (.own fG 276 false []))],[],[]⟩ true .z (.j ⟨[1],[(3,.lf (.own fG 276 false []))],[],[]⟩ true (.s .z (.u (.l ⟨[1],[(3,.lf (.own fG 276 false [])),(6,.lf (.sc pi))],[],[]⟩ .z))) .z)))
def Ev(k_:Nat):Ctr:=⟨⟨[.d bG],[(.slice fG)],1,[],[⟨some 276,false,false⟩]⟩,λx=>mD k_ x⟩
def ahp:Ctr:=⟨⟨[.d bG],[(.slice fG)],1,[],[⟨some 276,false,false⟩]⟩,λx=>fN x⟩
theorem HO:∀k,(Ev k).sound Tryz.prog 184
 |0=>λx r h=>by have h1:none=some r:=h;cases h1
 |k+1=>ai (am LG (HO k)) aw Tryz.func184 (by kernel_rfl) (an:=agP) (λx=>(by kernel_rfl:(Ev (k+1)).fn x=aK (aD Ui 184 (Ev k)) Tryz.f184 agP (Ev (k+1)).toSig x)) rfl
theorem abE:ahp.sound Tryz.prog 184:=HO 64
def V7:Cx:=aD Ui 184 ahp
theorem NK:Qq0 V7:=am LG abE
def ajx:An:=.s .z (.s .z (.j ⟨[0,5],[],[],[]⟩ false (.s .z (.u (.l ⟨[0,5],[(6,.lf (.sc pi))],[],[]⟩ .z))) (.j ⟨[0,5],[],[],[]⟩ false (.s .z (.u (.l ⟨[0,5],[(7,.lf (.sc pi))],[],[]⟩ .z))) (.j ⟨[0],[],[],[5]⟩ false (.s .z (.u (.l ⟨[0,5],[(8,.lf (.sc pi))],[],[]⟩ .z))) .z))))
def H6:Ctr:=⟨⟨[.d (.slice cC),.d (.sc pi)],[(.sc pi)],1,[],[]⟩,λx=>lI x.1 x.2⟩
def XL:Cx:=aD V7 182 H6
theorem KQ:Qq0 XL:=am NK (Qq2 NK Tryz.func182 (by kernel_rfl) ajx (λx=>by kernel_rfl) rfl)
def ajD:An:=Qq1 3 (.j ⟨[0,1],[(5,.lf (.sc pi))],[],[]⟩ true (.u (.l ⟨[0,1],[(5,.lf (.sc pi))],[],[]⟩ .z)) .z)
def Jn:Ctr:=⟨⟨[.d (.slice (.sc .str)),.d (.sc .str)],[(.slice (.sc .str))],1,[],[⟨none,true,true⟩]⟩,λx=>ly x.1 x.2⟩
def Wu:Cx:=aD XL 144 Jn
theorem Pe:Qq0 Wu:=am KQ (Qq2 KQ Tryz.func144 (by kernel_rfl) ajD (λx=>by kernel_rfl) rfl)
def aj4:An:=Qq1 3 (.j ⟨[0,2],[(7,.lf (.rep (.sc .str) false []))],[],[8]⟩ true (.s .z (.u (.l ⟨[0,2],[(7,.lf (.rep (.sc .str) false [])),(8,.lf (.own (.sc .str) 9 false [])),(9,.lf (.sc pi))],[],[]⟩ (.s .z (.j ⟨[0,2,9],[(7,.lf (.rep (.sc .str) false [])),(8,.lf (.own (.sc .str) 9 false []))],[],[]⟩ true (.u (.s .z (.s .z (.s .z (.s .z (.u (.l ⟨[0,2,9,11],[(7,.lf (.rep (.sc .str) false [])),(8,.lf (.own (.sc .str) 9 false [])),(12,.lf (.sc pi))],[],[]⟩ (.s .z (.j ⟨[0,2,9,11,12],[(7,.lf (.rep (.sc .str) false [])),(8,.lf (.own (.sc .str) 9 false []))],[],[]⟩ true .z .z))))))))) .z))))) .z)
def Kp:Ctr:=⟨⟨[.d (.slice cC),.d (.sc .str),.d (.sc .bool)],[(.slice (.sc .str))],1,[],[⟨none,false,true⟩]⟩,λx=>il x.1 x.2.1 x.2.2⟩
def T9:Cx:=aD Wu 145 Kp
theorem Me:Qq0 T9:=am Pe (Qq2 Pe Tryz.func145 (by kernel_rfl) aj4 (λx=>by kernel_rfl) rfl)
def aja:An:=.s .z (.s .z (.j ⟨[0],[],[],[]⟩ false (.s .z (.u (.l ⟨[0],[(4,.lf (.sc pi))],[],[]⟩ .z))) (.j ⟨[0],[],[],[]⟩ false (.s .z (.u (.l ⟨[0],[(6,.lf (.sc pi))],[],[]⟩ .z))) (.j ⟨[0],[],[],[]⟩ false (.s .z (.u (.l ⟨[0],[(8,.lf (.sc pi))],[],[]⟩ .z))) .z))))
def IJ:Ctr:=⟨⟨[.d (.slice cC)],[(.sc pi),(.sc pi)],2,[],[]⟩,λx=>l8 x⟩
def UW:Cx:=aD T9 143 IJ
theorem Ld:Qq0 UW:=am Me (Qq2 Me Tryz.func143 (by kernel_rfl) aja (λx=>by kernel_rfl) rfl)
def apT:An:=Qq1 6 (.j ⟨[0,8],[(9,.lf (.own cC 132 false []))],[],[]⟩ true (.s .z (.u (.l ⟨[0,8],[(9,.lf (.own cC 132 false [])),(10,.lf (.sc pi))],[],[]⟩ .z))) .z)
def Ut:Ctr:=⟨⟨[.d (.slice cC),.d (.sc .str)],[(.slice cC),(.sc pi)],2,[],[⟨some 132,false,false⟩]⟩,λx=>mi x.1 x.2⟩
def abT:Cx:=aD UW 87 Ut
theorem Qd:Qq0 abT:=am Ld (Qq2 Ld Tryz.func87 (by kernel_rfl) apT (λx=>by kernel_rfl) rfl)
def apW:An:=.z
def XA:Ctr:=⟨⟨[.box true bg [some 99,some 3,some 3,none,none,none,none,none,some 9],.d (.sc pi),.d (.sc pi),.d (.sc pi)],[bg],0,[0],[⟨some 99,false,false⟩,⟨some 3,false,false⟩,⟨some 3,false,false⟩,⟨none,true,false⟩,⟨none,true,false⟩,⟨none,true,false⟩,⟨none,true,false⟩,⟨none,true,false⟩,⟨some 9,false,false⟩]⟩,λx=>aI x.1 x.2.1 x.2.2.1 x.2.2.2⟩
def afZ:Cx:=aD abT 93 XA
theorem Rm:Qq0 afZ:=am Qd (Qq2 Qd Tryz.func93 (by kernel_rfl) apW (λx=>by kernel_rfl) rfl)
def ahM:An:=.s .z (.j ⟨[0,1],[],[],[]⟩ false (.s .z (.u (.l ⟨[0,1],[(5,.lf (.sc pi))],[],[]⟩ .z))) .z)
def IR:Ctr:=⟨⟨[.d (.slice (.sc .str)),.d (.sc .str)],[(.sc pi)],1,[],[]⟩,λx=>bP x.1 x.2⟩
def Ve:Cx:=aD afZ 196 IR
theorem O5:Qq0 Ve:=am Rm (Qq2 Rm Tryz.func196 (by kernel_rfl) ahM (λx=>by kernel_rfl) rfl)
def aiH:An:=.s .z (.j ⟨[0,1],[],[(0,c33)],[]⟩ true .z .z)
def Km:Ctr:=⟨⟨[.box true bg [some 99,some 3,some 3,none,none,none,none,none,some 9],.d (.sc .str)],[(.sc pi),bg],1,[0],[⟨some 99,false,false⟩,⟨some 3,false,false⟩,⟨some 3,false,false⟩,⟨none,true,true⟩,⟨none,true,true⟩,⟨none,true,true⟩,⟨none,true,true⟩,⟨none,true,true⟩,⟨some 9,false,false⟩]⟩,λx=>cw x.1 x.2⟩
def WT:Cx:=aD Ve 151 Km
theorem Oe:Qq0 WT:=am O5 (Qq2 O5 Tryz.func151 (by kernel_rfl) aiH (λx=>by kernel_rfl) rfl)
def apM:An:=.s .z (.j ⟨[0,3],[],[(0,c33)],[]⟩ true .z (.s .z (.u (.l ⟨[0,3],[(4,.lf (.sc pi))],[(0,c31)],[]⟩ .z))))
def In(k_:Nat):Ctr:=⟨⟨c43,[bg],0,[0],[⟨some 99,false,false⟩,⟨some 3,false,false⟩,⟨some 3,false,false⟩,⟨none,true,true⟩,⟨none,true,true⟩,⟨none,true,true⟩,⟨none,true,true⟩,⟨none,true,true⟩,⟨some 9,false,false⟩]⟩,λx=>cN k_ x.1 x.2⟩
def aok:Ctr:=⟨⟨c43,[bg],0,[0],[⟨some 99,false,false⟩,⟨some 3,false,false⟩,⟨some 3,false,false⟩,⟨none,true,true⟩,⟨none,true,true⟩,⟨none,true,true⟩,⟨none,true,true⟩,⟨none,true,true⟩,⟨some 9,false,false⟩]⟩,λx=>lS x.1 x.2⟩
theorem K7:∀k,(In k).sound Tryz.prog 91
 |0=>λx r h=>by have h1:none=some r:=h;cases h1
 |k+1=>ai (am Oe (K7 k)) aw Tryz.func91 (by kernel_rfl) (an:=apM) (λx=>(by kernel_rfl:(In (k+1)).fn x=aK (aD WT 91 (In k)) Tryz.f91 apM (In (k+1)).toSig x)) rfl
theorem alv:aok.sound Tryz.prog 91:=K7 64
def adb:Cx:=aD WT 91 aok
theorem Rl:Qq0 adb:=am Oe alv
def ahx:An:=.s .z (.s .z (.u (Qq1 4 (.j ⟨[0,3,5],[(40,.lf (.sc .bool))],[],[]⟩ true .z (.s (.k [] [] []) .z)))))
def EF(k_:Nat):Ctr:=⟨⟨c43,[bg],0,[0],[⟨some 99,false,false⟩,⟨some 3,false,false⟩,⟨some 3,false,false⟩,⟨none,true,true⟩,⟨none,true,true⟩,⟨none,true,true⟩,⟨none,true,true⟩,⟨none,true,true⟩,⟨some 9,false,false⟩]⟩,λx=>da k_ x.1 x.2⟩
def ajW:Ctr:=⟨⟨c43,[bg],0,[0],[⟨some 99,false,false⟩,⟨some 3,false,false⟩,⟨some 3,false,false⟩,⟨none,true,true⟩,⟨none,true,true⟩,⟨none,true,true⟩,⟨none,true,true⟩,⟨none,true,true⟩,⟨some 9,false,false⟩]⟩,λx=>cv x.1 x.2⟩
theorem Hl:∀k,(EF k).sound Tryz.prog 197
 |0=>λx r h=>by have h1:none=some r:=h;cases h1
 |k+1=>ai (am Rl (Hl k)) aw Tryz.func197 (by kernel_rfl) (an:=ahx) (λx=>(by kernel_rfl:(EF (k+1)).fn x=aK (aD adb 197 (EF k)) Tryz.f197 ahx (EF (k+1)).toSig x)) rfl
theorem abJ:ajW.sound Tryz.prog 197:=Hl 64
def D2:Cx:=aD adb 197 ajW
theorem zw:Qq0 D2:=am Rl abJ
def aqh:An:=.s .z (.s .z (.u (.l ⟨[0,3],[(4,.lf (.sc pi))],[(0,c33)],[]⟩ .z)))
def wT(k_:Nat):Ctr:=⟨⟨c43,[bg],0,[0],[⟨some 99,false,false⟩,⟨some 3,false,false⟩,⟨some 3,false,false⟩,⟨none,true,true⟩,⟨none,true,true⟩,⟨none,true,true⟩,⟨none,true,true⟩,⟨none,true,true⟩,⟨some 9,false,false⟩]⟩,λx=>cI k_ x.1 x.2⟩
def aqf:Ctr:=⟨⟨c43,[bg],0,[0],[⟨some 99,false,false⟩,⟨some 3,false,false⟩,⟨some 3,false,false⟩,⟨none,true,true⟩,⟨none,true,true⟩,⟨none,true,true⟩,⟨none,true,true⟩,⟨none,true,true⟩,⟨some 9,false,false⟩]⟩,λx=>ln x.1 x.2⟩
def agY:An:=Qq1 6 (.j ⟨[0,3,5,4],[],[(0,c31)],[]⟩ true .z .z)
def Al(k:Nat):Ctr:=⟨⟨c43,[bg],0,[0],[⟨some 99,false,false⟩,⟨some 3,false,false⟩,⟨some 3,false,false⟩,⟨none,true,true⟩,⟨none,true,true⟩,⟨none,true,true⟩,⟨none,true,true⟩,⟨none,true,true⟩,⟨some 9,false,false⟩]⟩,λx=>d7 (cI k) x.1 x.2⟩
theorem Hv(k:Nat)(h:(wT k).sound Tryz.prog 92):(Al k).sound Tryz.prog 198:=ai (am zw h) aw Tryz.func198 (by kernel_rfl) (an:=agY) (λx=>(by kernel_rfl:(Al k).fn x=aK (aD D2 92 (wT k)) Tryz.f198 agY (Al k).toSig x)) rfl
def aiL:An:=Qq1 3 (.u (.s .z (.s .z (.s .z (.s (.s .z (.k [] [] [])) (.j ⟨[0,3,4,12],[(53,.lf (.sc .bool))],[],[]⟩ true .z (.s .z (.s .z (.s (.k [] [] []) (.s .z (.s (.k [] [] []) (.s .z (.s .z (.s .z (.s (.k [0,1000000] [] []) (.s .z (.s (.k [] [] []) (.s .z (.s (.k [] [] []) (.s .z (.s (.k [0,1000000] [] []) (.s .z (.s .z (.s .z (.s .z (.s .z (.s (.s .z (.k [] [] [])) (.s .z (.s (.k [0,1000000] [] []) (.s .z (.s (.s .z (.s (.k [] [] []) .z)) .z)))))))))))))))))))))))))))))))
def Ew(k:Nat):Ctr:=⟨⟨c43,[bg],0,[0],[⟨some 99,false,false⟩,⟨some 3,false,false⟩,⟨some 3,false,false⟩,⟨none,true,true⟩,⟨none,true,true⟩,⟨none,true,true⟩,⟨none,true,true⟩,⟨none,true,true⟩,⟨some 9,false,false⟩]⟩,λx=>cY (cI k) x.1 x.2⟩
theorem YP(k:Nat)(h:(wT k).sound Tryz.prog 92):(Ew k).sound Tryz.prog 152:=ai (am (am zw h) (Hv k h)) aw Tryz.func152 (by kernel_rfl) (an:=aiL) (λx=>(by kernel_rfl:(Ew k).fn x=aK (aD (aD D2 92 (wT k)) 198 (Al k)) Tryz.f152 aiL (Ew k).toSig x)) rfl
theorem yP:∀k,(wT k).sound Tryz.prog 92
 |0=>λx r h=>by have h1:none=some r:=h;cases h1
 |k+1=>ai (am (am (am zw (yP k)) (Hv k (yP k))) (YP k (yP k))) aw Tryz.func92 (by kernel_rfl) (an:=aqh) (λx=>(by kernel_rfl:(wT (k+1)).fn x=aK (aD (aD (aD D2 92 (wT k)) 198 (Al k)) 152 (Ew k)) Tryz.f92 aqh (wT (k+1)).toSig x)) rfl
theorem alb:aqf.sound Tryz.prog 92:=yP 64
def aes:Cx:=aD D2 92 aqf
theorem Q4:Qq0 aes:=am zw alb
def ag1:An:=.s .z (.s .z (.j ⟨[0,3],[(5,.lf (.sc pi))],[],[]⟩ true (.u (.l ⟨[0,3],[(5,.lf (.sc pi))],[],[]⟩ .z)) .z))
def JB:Ctr:=⟨⟨[.d (.slice aB),.d aB],[(.slice aB)],1,[],[⟨some 101,false,false⟩]⟩,λx=>lp x.1 x.2⟩
def UA:Cx:=aD aes 150 JB
theorem NF:Qq0 UA:=am Q4 (Qq2 Q4 Tryz.func150 (by kernel_rfl) ag1 (λx=>by kernel_rfl) rfl)
def aqJ:An:=.s .z (.s .z (.j ⟨[1,4,5,0],[],[(5,c34)],[]⟩ true (.s .z (.u (.l ⟨[0,1,4,5],[(6,.lf (.sc pi))],[(5,c34)],[]⟩ (.s .z (.j ⟨[0,1,4,5,6],[],[(5,c34)],[]⟩ true (.u (.s .z (.s .z (.u (Qq1 3 (.s (.s .z (.u (.l ⟨[0,1,4,5,6,7],[(10,.lf (.sc pi))],[(5,c34)],[]⟩ .z))) .z)))))) .z))))) .z))
def Xz:Ctr:=⟨⟨[.d (.slice cC),.d (.sc .str)],[bB],1,[],[⟨some 99,false,false⟩,⟨some 3,false,false⟩,⟨some 3,false,false⟩,⟨some 101,false,false⟩,⟨some 101,false,false⟩,⟨some 9,false,false⟩,⟨some 9,false,false⟩,⟨some 9,false,false⟩]⟩,λx=>lM x.1 x.2⟩
def abZ:Cx:=aD UA 90 Xz
theorem RD:Qq0 abZ:=am NF (Qq2 NF Tryz.func90 (by kernel_rfl) aqJ (λx=>by kernel_rfl) rfl)
def aqo:An:=Qq1 6 (.j ⟨[4,11],[],[(11,c32)],[6]⟩ true (.s .z (.u (.l ⟨[4,6,11],[(12,.lf (.sc pi))],[(11,c32)],[]⟩ (.s .z (.j ⟨[4,6,11,12],[],[(11,c30)],[]⟩ true (.u (.s .z (.s .z (.s .z (.s .z (.s .z (.s .z (.j ⟨[4,6,11,12],[],[(11,c30)],[]⟩ true .z .z)))))))) .z))))) .z)
def U4:Ctr:=⟨⟨[.d (.slice cC),.d (.sc .str)],[bB,(.sc pi)],2,[],[⟨some 99,false,false⟩,⟨some 3,false,false⟩,⟨some 3,false,false⟩,⟨none,false,true⟩,⟨none,false,true⟩,⟨none,false,true⟩,⟨none,false,true⟩,⟨none,false,true⟩]⟩,λx=>iC x.1 x.2⟩
def aeg:Cx:=aD abZ 39 U4
theorem Sj:Qq0 aeg:=am RD (Qq2 RD Tryz.func39 (by kernel_rfl) aqo (λx=>by kernel_rfl) rfl)
def an7:An:=.z
def ct7:Ctr:=⟨⟨[.d (.slice (.sc pi))],[bB],1,[],[⟨some 99,false,false⟩,⟨some 3,false,false⟩,⟨some 3,false,false⟩,⟨none,false,true⟩,⟨none,false,true⟩,⟨none,false,true⟩,⟨none,false,true⟩,⟨none,false,true⟩]⟩,λx=>j5 x⟩
def cx7:Cx:=aD aeg 7 ct7
theorem Ya:Qq0 cx7:=am Sj (Qq2 Sj Tryz.func7 (by kernel_rfl) an7 (λx=>by kernel_rfl) rfl)
def anC:An:=Qq1 3 (.j ⟨[2,4,3],[],[(4,c29)],[]⟩ true (.s .z (.u (.l ⟨[2,3,4],[(5,.lf (.sc pi))],[(4,c29)],[]⟩ (.s .z (.j ⟨[2,3,4,5],[],[(4,[.own aV 118 false [1000003,1000004],.own (.sc pi) 3 false [],.own (.slice (.sc pi)) 360314358468706326 false [],.own (.sc pi) 3 false [],.own (.sc pi) 3 false [],.sc pi,.sc pi,.sc pi,.sc pi,.sc pi,.sc pi,.sc pi,.sc pi,.sc .str])],[]⟩ true (.u (.s .z (.j ⟨[2,3,4,5,6],[],[(6,c41)],[]⟩ true (.s .z (.u (.l ⟨[2,3,4,5,6],[(7,.lf (.sc pi))],[(6,c41)],[]⟩ .z))) .z))) .z))))) .z)
def Vb:Ctr:=⟨⟨[.d br],[cS],1,[],[⟨some 118,false,true⟩,⟨some 3,false,false⟩,⟨some 360314358468706326,false,false⟩,⟨some 3,false,false⟩,⟨some 3,false,false⟩]⟩,λx=>dS x⟩
def abA:Cx:=aD cx7 19 Vb
theorem RQ:Qq0 abA:=am Ya (Qq2 Ya Tryz.func19 (by kernel_rfl) anC (λx=>by kernel_rfl) rfl)
def aoi:An:=.z
def Ue:Ctr:=⟨⟨[.d bB],[eW],1,[],[⟨none,true,false⟩,⟨none,true,false⟩,⟨none,true,false⟩,⟨none,true,false⟩,⟨none,true,false⟩,⟨none,true,false⟩,⟨none,true,false⟩,⟨none,true,false⟩]⟩,λx=>rY x⟩
def ael:Cx:=aD abA 13 Ue
theorem RR:Qq0 ael:=am RQ (Qq2 RQ Tryz.func13 (by kernel_rfl) aoi (λx=>by kernel_rfl) rfl)
def ani:An:=Qq1 10 (.j ⟨[5,4],[],[(5,c26)],[]⟩ false (.s .z (.u (.l ⟨[4,5],[(9,.lf (.sc pi))],[(5,c26)],[]⟩ .z))) .z)
def Vi:Ctr:=⟨⟨[],[(.sc .bool)],1,[],[]⟩,λ_=>oW⟩
def aoR:Cx:=aD ael 17 Vi
theorem alI:Qq0 aoR:=am RR (Qq2 RR Tryz.func17 (by kernel_rfl) ani (λx=>by kernel_rfl) rfl)
def an6:An:=Qq1 5 (.j ⟨[],[],[],[16]⟩ false (.s .z (.u (.l ⟨[16],[(17,.lf (.sc pi))],[],[]⟩ (.s .z (.j ⟨[16,17],[],[],[]⟩ false (.u (.s .z (.s .z (.u (.l ⟨[16,17],[(18,.lf (.sc pi))],[],[]⟩ .z))))) .z))))) .z)
def ct6:Ctr:=⟨⟨[.d (.slice (.sc pi)),.d (.sc pi),.d (.slice (.sc pi)),.d (.sc pi),.d (.sc pi),.d (.sc pi)],[(.sc .bool)],1,[],[]⟩,λx=>jE x.1 x.2.1 x.2.2.1 x.2.2.2.1 x.2.2.2.2.1 x.2.2.2.2.2⟩
theorem an4:ct6.sound Tryz.prog 6:=Qq2 alI Tryz.func6 (by kernel_rfl) an6 (λx=>by kernel_rfl) rfl
end
end Go.Proofs.YtfhhiajfciblbaaGreatDoor
