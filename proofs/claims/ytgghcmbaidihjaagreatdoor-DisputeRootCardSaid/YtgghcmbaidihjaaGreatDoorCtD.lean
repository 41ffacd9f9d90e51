/- Laws for the row. No condition. -/
import Derived.Test.YtgghcmbaidihjaaGreatDoorCtC
namespace Go.Proofs.YtgghcmbaidihjaaGreatDoor
open Go.Sm
set_option maxRecDepth 100000
set_option linter.unusedSectionVars false
section
variable [Itr]  [Yc:GCx] [SortLaw]
def alY:An:=.s .z (.j ⟨[0,1],[],[],[]⟩ false (.s .z (.u (.l ⟨[0,1],[(5,.lf (.sc pi))],[],[]⟩ .z))) .z)
def KI:Ctr:=⟨⟨[.d (.slice cg),.d (.sc .str)],[(.sc pi)],1,[],[]⟩,λx=>dx x.1 x.2⟩
def ZP:Cx:=aB WF 155 KI
theorem OH:Qq0 ZP:=aj Nc (Qq2 Nc Tryz.func155 (by kernel_rfl) alY (λx=>by kernel_rfl) rfl)
def amc:An:=.s .z (.s .z (.j ⟨[1],[(3,.lf (.own (.sc .str) 9 false []))],[],[]⟩ true (.s .z (.u (.l ⟨[1],[(3,.lf (.own (.sc .str) 9 false [])),(4,.lf (.sc pi))],[],[]⟩ (.s .z (.j ⟨[1,4],[(3,.lf (.own (.sc .str) 9 false []))],[],[]⟩ true .z .z))))) .z))
def K4:Ctr:=⟨⟨[.d bB],[(.slice (.sc .str))],1,[],[⟨some 9,false,false⟩]⟩,λx=>ot x⟩
def ZL:Cx:=aB ZP 326 K4
theorem Ol:Qq0 ZL:=aj OH (Qq2 OH Tryz.func326 (by kernel_rfl) amc (λx=>by kernel_rfl) rfl)
def anf:An:=Qq1 6 (.j ⟨[],[],[],[8]⟩ false (.s .z (.u (.l ⟨[8],[(9,.lf (.sc pi))],[],[]⟩ .z))) .z)
def KY:Ctr:=⟨⟨[.d (.slice cg),.d (.sc pi)],[(.sc pi)],1,[],[]⟩,λx=>uZ x.1 x.2⟩
def Ww:Cx:=aB ZL 291 KY
theorem Om:Qq0 Ww:=aj Ol (Qq2 Ol Tryz.func291 (by kernel_rfl) anf (λx=>by kernel_rfl) rfl)
def anG:An:=.z
def Mn:Ctr:=⟨⟨[.d (.sc .str)],[bB],1,[],[⟨some 293,false,true⟩]⟩,λx=>jV x⟩
def abj:Cx:=aB Ww 295 Mn
theorem Rx:Qq0 abj:=aj Om (Qq2 Om Tryz.func295 (by kernel_rfl) anG (λx=>by kernel_rfl) rfl)
def amo:An:=.s .z (.j ⟨[0],[],[],[]⟩ false (.s .z (.u (Qq1 4 (.j ⟨[3],[(8,.lf (.sc .bool))],[],[]⟩ true .z (.s .z (.j ⟨[3],[(11,.lf (.sc .bool))],[],[]⟩ true .z (.s .z (.j ⟨[3],[(14,.lf (.sc .bool))],[],[]⟩ true .z (.s .z (.j ⟨[3],[(17,.lf (.sc .bool))],[],[]⟩ true .z .z)))))))))) .z)
def MK:Ctr:=⟨⟨[.d (.sc pi)],[(.sc pi)],1,[],[]⟩,λx=>nT x⟩
def Zo:Cx:=aB abj 327 MK
theorem Qv:Qq0 Zo:=aj Rx (Qq2 Rx Tryz.func327 (by kernel_rfl) amo (λx=>by kernel_rfl) rfl)
def ak9:An:=.s .z (.j ⟨[0],[],[],[]⟩ false (.s .z (.u (.l ⟨[0],[(4,.lf (.sc pi))],[],[]⟩ .z))) .z)
def MB:Ctr:=⟨⟨[.d (.sc .str)],[(.sc .str),(.sc .str)],2,[],[]⟩,λx=>xw x⟩
def Xs:Cx:=aB Zo 328 MB
theorem Qs:Qq0 Xs:=aj Qv (Qq2 Qv Tryz.func328 (by kernel_rfl) ak9 (λx=>by kernel_rfl) rfl)
def amj:An:=.s .z (.s .z (.j ⟨[1],[(3,.lf (.own fL 441 false []))],[],[]⟩ true .z (.j ⟨[1],[(3,.lf (.own fL 441 false []))],[],[]⟩ true (.s .z (.u (.l ⟨[1],[(3,.lf (.own fL 441 false [])),(6,.lf (.sc pi))],[],[]⟩ .z))) .z)))
def Ga(a:Nat):Ctr:=⟨⟨[.d bB],[(.slice fL)],1,[],[⟨some 441,false,false⟩]⟩,λx=>mb a x⟩
def apv:Ctr:=⟨⟨[.d bB],[(.slice fL)],1,[],[⟨some 441,false,false⟩]⟩,λx=>pd x⟩
theorem JC:∀k,(Ga k).sound Tryz.prog 294
 |0=>λx r h=>by have a:none=some r:=h;cases a
 |k+1=>ai (aj Qs (JC k)) au Tryz.func294 (by kernel_rfl) (an:=amj) (λx=>(by kernel_rfl:(Ga (k+1)).fn x=aE (aB Xs 294 (Ga k)) Tryz.f294 amj (Ga (k+1)).toSig x)) rfl
theorem ahD:apv.sound Tryz.prog 294:=JC 64
def aay:Cx:=aB Xs 294 apv
theorem R3:Qq0 aay:=aj Qs ahD
def aoe:An:=.s .z (.s .z (.j ⟨[0,5],[],[],[]⟩ false (.s .z (.u (.l ⟨[0,5],[(6,.lf (.sc pi))],[],[]⟩ .z))) (.j ⟨[0,5],[],[],[]⟩ false (.s .z (.u (.l ⟨[0,5],[(7,.lf (.sc pi))],[],[]⟩ .z))) (.j ⟨[0],[],[],[5]⟩ false (.s .z (.u (.l ⟨[0,5],[(8,.lf (.sc pi))],[],[]⟩ .z))) .z))))
def J5:Ctr:=⟨⟨[.d (.slice cg),.d (.sc pi)],[(.sc pi)],1,[],[]⟩,λx=>tk x.1 x.2⟩
def YU:Cx:=aB aay 292 J5
theorem OU:Qq0 YU:=aj R3 (Qq2 R3 Tryz.func292 (by kernel_rfl) aoe (λx=>by kernel_rfl) rfl)
def alC:An:=Qq1 3 (.j ⟨[0,1],[(5,.lf (.sc pi))],[],[]⟩ true (.u (.l ⟨[0,1],[(5,.lf (.sc pi))],[],[]⟩ .z)) .z)
def JU:Ctr:=⟨⟨[.d (.slice (.sc .str)),.d (.sc .str)],[(.slice (.sc .str))],1,[],[⟨none,true,true⟩]⟩,λx=>qX x.1 x.2⟩
def Wz:Cx:=aB YU 229 JU
theorem Nk:Qq0 Wz:=aj OU (Qq2 OU Tryz.func229 (by kernel_rfl) alC (λx=>by kernel_rfl) rfl)
def apq:An:=Qq1 3 (.j ⟨[0,2],[(7,.lf (.rep (.sc .str) false []))],[],[8]⟩ true (.s .z (.u (.l ⟨[0,2],[(7,.lf (.rep (.sc .str) false [])),(8,.lf (.own (.sc .str) 9 false [])),(9,.lf (.sc pi))],[],[]⟩ (.s .z (.j ⟨[0,2,9],[(7,.lf (.rep (.sc .str) false [])),(8,.lf (.own (.sc .str) 9 false []))],[],[]⟩ true (.u (.s .z (.s .z (.s .z (.s .z (.u (.l ⟨[0,2,9,11],[(7,.lf (.rep (.sc .str) false [])),(8,.lf (.own (.sc .str) 9 false [])),(12,.lf (.sc pi))],[],[]⟩ (.s .z (.j ⟨[0,2,9,11,12],[(7,.lf (.rep (.sc .str) false [])),(8,.lf (.own (.sc .str) 9 false []))],[],[]⟩ true .z .z))))))))) .z))))) .z)
def Mf:Ctr:=⟨⟨[.d (.slice cg),.d (.sc .str),.d (.sc .bool)],[(.slice (.sc .str))],1,[],[⟨none,false,true⟩]⟩,λx=>ni x.1 x.2.1 x.2.2⟩
def aaa:Cx:=aB Wz 230 Mf
theorem Qp:Qq0 aaa:=aj Nk (Qq2 Nk Tryz.func230 (by kernel_rfl) apq (λx=>by kernel_rfl) rfl)
def amJ:An:=.s .z (.s .z (.j ⟨[0],[],[],[]⟩ false (.s .z (.u (.l ⟨[0],[(4,.lf (.sc pi))],[],[]⟩ .z))) (.j ⟨[0],[],[],[]⟩ false (.s .z (.u (.l ⟨[0],[(6,.lf (.sc pi))],[],[]⟩ .z))) (.j ⟨[0],[],[],[]⟩ false (.s .z (.u (.l ⟨[0],[(8,.lf (.sc pi))],[],[]⟩ .z))) .z))))
def MJ:Ctr:=⟨⟨[.d (.slice cg)],[(.sc pi),(.sc pi)],2,[],[]⟩,λx=>uR x⟩
def XM:Cx:=aB aaa 228 MJ
theorem Sg:Qq0 XM:=aj Qp (Qq2 Qp Tryz.func228 (by kernel_rfl) amJ (λx=>by kernel_rfl) rfl)
def alJ:An:=Qq1 6 (.j ⟨[0,8],[(9,.lf (.own cg 297 false []))],[],[]⟩ true (.s .z (.u (.l ⟨[0,8],[(9,.lf (.own cg 297 false [])),(10,.lf (.sc pi))],[],[]⟩ .z))) .z)
def KQ:Ctr:=⟨⟨[.d (.slice cg),.d (.sc .str)],[(.slice cg),(.sc pi)],2,[],[⟨some 297,false,false⟩]⟩,λx=>vi x.1 x.2⟩
def WZ:Cx:=aB XM 153 KQ
theorem OQ:Qq0 WZ:=aj Sg (Qq2 Sg Tryz.func153 (by kernel_rfl) alJ (λx=>by kernel_rfl) rfl)
def anb:An:=.z
def J3:Ctr:=⟨⟨[.box true bg [some 328,some 3,some 3,none,none,none,none,none,some 9],.d (.sc pi),.d (.sc pi),.d (.sc pi)],[bg],0,[0],[⟨some 328,false,false⟩,⟨some 3,false,false⟩,⟨some 3,false,false⟩,⟨none,true,false⟩,⟨none,true,false⟩,⟨none,true,false⟩,⟨none,true,false⟩,⟨none,true,false⟩,⟨some 9,false,false⟩]⟩,λx=>aQ x.1 x.2.1 x.2.2.1 x.2.2.2⟩
def Zn:Cx:=aB WZ 159 J3
theorem R8:Qq0 Zn:=aj OQ (Qq2 OQ Tryz.func159 (by kernel_rfl) anb (λx=>by kernel_rfl) rfl)
def ao9:An:=.s .z (.j ⟨[0,1],[],[],[]⟩ false (.s .z (.u (.l ⟨[0,1],[(5,.lf (.sc pi))],[],[]⟩ .z))) .z)
def LQ:Ctr:=⟨⟨[.d (.slice (.sc .str)),.d (.sc .str)],[(.sc pi)],1,[],[]⟩,λx=>cy x.1 x.2⟩
def YW:Cx:=aB Zn 306 LQ
theorem Rk:Qq0 YW:=aj R8 (Qq2 R8 Tryz.func306 (by kernel_rfl) ao9 (λx=>by kernel_rfl) rfl)
def alT:An:=.s .z (.j ⟨[0,1],[],[(0,c22)],[]⟩ true .z .z)
def Ky:Ctr:=⟨⟨[.box true bg [some 328,some 3,some 3,none,none,none,none,none,some 9],.d (.sc .str)],[(.sc pi),bg],1,[0],[⟨some 328,false,false⟩,⟨some 3,false,false⟩,⟨some 3,false,false⟩,⟨none,true,true⟩,⟨none,true,true⟩,⟨none,true,true⟩,⟨none,true,true⟩,⟨none,true,true⟩,⟨some 9,false,false⟩]⟩,λx=>cU x.1 x.2⟩
def Ze:Cx:=aB YW 236 Ky
theorem N2:Qq0 Ze:=aj Rk (Qq2 Rk Tryz.func236 (by kernel_rfl) alT (λx=>by kernel_rfl) rfl)
def apC:An:=.s .z (.j ⟨[0,3],[],[(0,c22)],[]⟩ true .z (.s .z (.u (.l ⟨[0,3],[(4,.lf (.sc pi))],[(0,c20)],[]⟩ .z))))
def Gy(a:Nat):Ctr:=⟨⟨c28,[bg],0,[0],[⟨some 328,false,false⟩,⟨some 3,false,false⟩,⟨some 3,false,false⟩,⟨none,true,true⟩,⟨none,true,true⟩,⟨none,true,true⟩,⟨none,true,true⟩,⟨none,true,true⟩,⟨some 9,false,false⟩]⟩,λx=>jp a x.1 x.2⟩
def amn:Ctr:=⟨⟨c28,[bg],0,[0],[⟨some 328,false,false⟩,⟨some 3,false,false⟩,⟨some 3,false,false⟩,⟨none,true,true⟩,⟨none,true,true⟩,⟨none,true,true⟩,⟨none,true,true⟩,⟨none,true,true⟩,⟨some 9,false,false⟩]⟩,λx=>qk x.1 x.2⟩
theorem Jc:∀k,(Gy k).sound Tryz.prog 157
 |0=>λx r h=>by have a:none=some r:=h;cases a
 |k+1=>ai (aj N2 (Jc k)) au Tryz.func157 (by kernel_rfl) (an:=apC) (λx=>(by kernel_rfl:(Gy (k+1)).fn x=aE (aB Ze 157 (Gy k)) Tryz.f157 apC (Gy (k+1)).toSig x)) rfl
theorem aiR:amn.sound Tryz.prog 157:=Jc 64
def aa5:Cx:=aB Ze 157 amn
theorem QF:Qq0 aa5:=aj N2 aiR
def alA:An:=.s .z (.s .z (.j ⟨[0],[(3,.lf (.own (.sc .str) 9 false []))],[],[]⟩ true (.s .z (.u (.l ⟨[0],[(3,.lf (.own (.sc .str) 9 false [])),(4,.lf (.sc pi))],[],[]⟩ .z))) .z))
def Md:Ctr:=⟨⟨[.d (.slice aC)],[(.slice (.sc .str))],1,[],[⟨some 9,false,false⟩]⟩,λx=>gJ x⟩
def WQ:Cx:=aB aa5 268 Md
theorem PE:Qq0 WQ:=aj QF (Qq2 QF Tryz.func268 (by kernel_rfl) alA (λx=>by kernel_rfl) rfl)
def aoR:An:=.s .z (.s .z (.u (Qq1 4 (.j ⟨[0,3,5],[(40,.lf (.sc .bool))],[],[]⟩ true .z (.s (.k [] [] []) .z)))))
def GC(a:Nat):Ctr:=⟨⟨c28,[bg],0,[0],[⟨some 328,false,false⟩,⟨some 3,false,false⟩,⟨some 3,false,false⟩,⟨none,true,true⟩,⟨none,true,true⟩,⟨none,true,true⟩,⟨none,true,true⟩,⟨none,true,true⟩,⟨some 9,false,false⟩]⟩,λx=>iZ a x.1 x.2⟩
def alc:Ctr:=⟨⟨c28,[bg],0,[0],[⟨some 328,false,false⟩,⟨some 3,false,false⟩,⟨some 3,false,false⟩,⟨none,true,true⟩,⟨none,true,true⟩,⟨none,true,true⟩,⟨none,true,true⟩,⟨none,true,true⟩,⟨some 9,false,false⟩]⟩,λx=>dE x.1 x.2⟩
theorem Jy:∀k,(GC k).sound Tryz.prog 307
 |0=>λx r h=>by have a:none=some r:=h;cases a
 |k+1=>ai (aj PE (Jy k)) au Tryz.func307 (by kernel_rfl) (an:=aoR) (λx=>(by kernel_rfl:(GC (k+1)).fn x=aE (aB WQ 307 (GC k)) Tryz.f307 aoR (GC (k+1)).toSig x)) rfl
theorem ad9:alc.sound Tryz.prog 307:=Jy 64
def G0:Cx:=aB WQ 307 alc
theorem zX:Qq0 G0:=aj PE ad9
def anW:An:=.s .z (.s .z (.u (.l ⟨[0,3],[(4,.lf (.sc pi))],[(0,c22)],[]⟩ .z)))
def uS(a:Nat):Ctr:=⟨⟨c28,[bg],0,[0],[⟨some 328,false,false⟩,⟨some 3,false,false⟩,⟨some 3,false,false⟩,⟨none,true,true⟩,⟨none,true,true⟩,⟨none,true,true⟩,⟨none,true,true⟩,⟨none,true,true⟩,⟨some 9,false,false⟩]⟩,λx=>eG a x.1 x.2⟩
def anJ:Ctr:=⟨⟨c28,[bg],0,[0],[⟨some 328,false,false⟩,⟨some 3,false,false⟩,⟨some 3,false,false⟩,⟨none,true,true⟩,⟨none,true,true⟩,⟨none,true,true⟩,⟨none,true,true⟩,⟨none,true,true⟩,⟨some 9,false,false⟩]⟩,λx=>pG x.1 x.2⟩
def ao4:An:=Qq1 6 (.j ⟨[0,3,5,4],[],[(0,c20)],[]⟩ true .z .z)
def CF(k:Nat):Ctr:=⟨⟨c28,[bg],0,[0],[⟨some 328,false,false⟩,⟨some 3,false,false⟩,⟨some 3,false,false⟩,⟨none,true,true⟩,⟨none,true,true⟩,⟨none,true,true⟩,⟨none,true,true⟩,⟨none,true,true⟩,⟨some 9,false,false⟩]⟩,λx=>oK (eG k) x.1 x.2⟩
theorem Jn(k:Nat)(h:(uS k).sound Tryz.prog 158):(CF k).sound Tryz.prog 308:=ai (aj zX h) au Tryz.func308 (by kernel_rfl) (an:=ao4) (λx=>(by kernel_rfl:(CF k).fn x=aE (aB G0 158 (uS k)) Tryz.f308 ao4 (CF k).toSig x)) rfl
def apV:An:=Qq1 3 (.u (.s .z (.s .z (.s .z (.s (.s .z (.k [] [] [])) (.j ⟨[0,3,4,12],[(53,.lf (.sc .bool))],[],[]⟩ true .z (.s .z (.s .z (.s (.k [] [] []) (.s .z (.s (.k [] [] []) (.s .z (.s .z (.s .z (.s (.k [0,1000000] [] []) (.s .z (.s (.k [] [] []) (.s .z (.s (.k [] [] []) (.s .z (.s (.k [0,1000000] [] []) (.s .z (.s .z (.s .z (.s .z (.s .z (.s (.s .z (.k [] [] [])) (.s .z (.s (.k [0,1000000] [] []) (.s .z (.s (.s .z (.s (.k [] [] []) .z)) .z)))))))))))))))))))))))))))))))
def FH(k:Nat):Ctr:=⟨⟨c28,[bg],0,[0],[⟨some 328,false,false⟩,⟨some 3,false,false⟩,⟨some 3,false,false⟩,⟨none,true,true⟩,⟨none,true,true⟩,⟨none,true,true⟩,⟨none,true,true⟩,⟨none,true,true⟩,⟨some 9,false,false⟩]⟩,λx=>mL (eG k) x.1 x.2⟩
theorem acC(k:Nat)(h:(uS k).sound Tryz.prog 158):(FH k).sound Tryz.prog 237:=ai (aj (aj zX h) (Jn k h)) au Tryz.func237 (by kernel_rfl) (an:=apV) (λx=>(by kernel_rfl:(FH k).fn x=aE (aB (aB G0 158 (uS k)) 308 (CF k)) Tryz.f237 apV (FH k).toSig x)) rfl
theorem x6:∀k,(uS k).sound Tryz.prog 158
 |0=>λx r h=>by have a:none=some r:=h;cases a
 |k+1=>ai (aj (aj (aj zX (x6 k)) (Jn k (x6 k))) (acC k (x6 k))) au Tryz.func158 (by kernel_rfl) (an:=anW) (λx=>(by kernel_rfl:(uS (k+1)).fn x=aE (aB (aB (aB G0 158 (uS k)) 308 (CF k)) 237 (FH k)) Tryz.f158 anW (uS (k+1)).toSig x)) rfl
theorem ais:anJ.sound Tryz.prog 158:=x6 64
def Y6:Cx:=aB G0 158 anJ
theorem Ni:Qq0 Y6:=aj zX ais
def anq:An:=.s .z (.s .z (.j ⟨[0,3],[(5,.lf (.sc pi))],[],[]⟩ true (.u (.l ⟨[0,3],[(5,.lf (.sc pi))],[],[]⟩ .z)) .z))
def L7:Ctr:=⟨⟨[.d (.slice aC),.d aC],[(.slice aC)],1,[],[⟨some 217,false,false⟩]⟩,λx=>qW x.1 x.2⟩
def Wq:Cx:=aB Y6 235 L7
theorem PG:Qq0 Wq:=aj Ni (Qq2 Ni Tryz.func235 (by kernel_rfl) anq (λx=>by kernel_rfl) rfl)
def amt:An:=.s .z (.s .z (.j ⟨[1,4,5,0],[],[(5,c23)],[]⟩ true (.s .z (.u (.l ⟨[0,1,4,5],[(6,.lf (.sc pi))],[(5,c23)],[]⟩ (.s .z (.j ⟨[0,1,4,5,6],[],[(5,c23)],[]⟩ true (.u (.s .z (.s .z (.u (Qq1 3 (.s (.s .z (.u (.l ⟨[0,1,4,5,6,7],[(10,.lf (.sc pi))],[(5,c23)],[]⟩ .z))) .z)))))) .z))))) .z))
def KZ:Ctr:=⟨⟨[.d (.slice cg),.d (.sc .str)],[gm],1,[],[⟨some 328,false,false⟩,⟨some 3,false,false⟩,⟨some 3,false,false⟩,⟨some 217,false,false⟩,⟨some 217,false,false⟩,⟨some 9,false,false⟩,⟨some 9,false,false⟩,⟨some 9,false,false⟩]⟩,λx=>tz x.1 x.2⟩
def W9:Cx:=aB Wq 156 KZ
theorem O8:Qq0 W9:=aj PG (Qq2 PG Tryz.func156 (by kernel_rfl) amt (λx=>by kernel_rfl) rfl)
def avV:An:=Qq1 6 (.j ⟨[4,11],[],[(11,c21)],[6]⟩ true (.s .z (.u (.l ⟨[4,6,11],[(12,.lf (.sc pi))],[(11,c21)],[]⟩ (.s .z (.j ⟨[4,6,11,12],[],[(11,c19)],[]⟩ true (.u (.s .z (.s .z (.s .z (.s .z (.s .z (.s .z (.j ⟨[4,6,11,12],[],[(11,c19)],[]⟩ true .z .z)))))))) .z))))) .z)
def XI:Ctr:=⟨⟨[.d (.slice cg),.d (.sc .str)],[gm,(.sc pi)],2,[],[⟨some 328,false,false⟩,⟨some 3,false,false⟩,⟨some 3,false,false⟩,⟨none,false,true⟩,⟨none,false,true⟩,⟨none,false,true⟩,⟨none,false,true⟩,⟨none,false,true⟩]⟩,λx=>rO x.1 x.2⟩
def agw:Cx:=aB W9 80 XI
theorem TT:Qq0 agw:=aj O8 (Qq2 O8 Tryz.func80 (by kernel_rfl) avV (λx=>by kernel_rfl) rfl)
def ato:An:=.z
def X7:Ctr:=⟨⟨[.d (.sc pi)],[(.slice cg)],1,[],[⟨some 297,false,false⟩]⟩,λx=>rk x⟩
def ajW:Cx:=aB agw 37 X7
theorem UR:Qq0 ajW:=aj TT (Qq2 TT Tryz.func37 (by kernel_rfl) ato (λx=>by kernel_rfl) rfl)
def awd:An:=.z
def aaF:Ctr:=⟨⟨[.d (.slice cg),.d (.sc .str)],[gm],1,[],[⟨some 328,false,false⟩,⟨some 3,false,false⟩,⟨some 3,false,false⟩,⟨none,false,true⟩,⟨none,false,true⟩,⟨none,false,true⟩,⟨none,false,true⟩,⟨none,false,true⟩]⟩,λx=>mD x.1 x.2⟩
def ajC:Cx:=aB ajW 36 aaF
theorem U9:Qq0 ajC:=aj UR (Qq2 UR Tryz.func36 (by kernel_rfl) awd (λx=>by kernel_rfl) rfl)
def an8:An:=.s .z (.s .z (.s (.k [2,3] [] []) .z))
def ct8:Ctr:=⟨⟨[.d (.sc pi)],[bT,gm],2,[],[⟨none,false,true⟩,⟨none,false,true⟩,⟨none,false,true⟩,⟨none,false,true⟩,⟨none,false,true⟩,⟨none,false,true⟩,⟨none,false,true⟩,⟨none,false,true⟩,⟨none,false,true⟩,⟨none,false,true⟩,⟨none,false,true⟩,⟨none,false,true⟩,⟨none,false,true⟩,⟨none,false,true⟩,⟨none,false,true⟩,⟨none,false,true⟩]⟩,λx=>jC x⟩
def cx8:Cx:=aB ajC 8 ct8
theorem ady:Qq0 cx8:=aj U9 (Qq2 U9 Tryz.func8 (by kernel_rfl) an8 (λx=>by kernel_rfl) rfl)
def an9:An:=.z
def ct9:Ctr:=⟨⟨[.d (.sc pi),.d (.sc pi)],[kr],1,[],[]⟩,λx=>nu x.1 x.2⟩
def cx9:Cx:=aB cx8 9 ct9
theorem adg:Qq0 cx9:=aj ady (Qq2 ady Tryz.func9 (by kernel_rfl) an9 (λx=>by kernel_rfl) rfl)
def av3:An:=.z
def Xu:Ctr:=⟨⟨[.d bu],[cw],1,[],[⟨none,true,false⟩]⟩,λx=>pj x⟩
def agd:Cx:=aB cx9 13 Xu
theorem Uu:Qq0 agd:=aj adg (Qq2 adg Tryz.func13 (by kernel_rfl) av3 (λx=>by kernel_rfl) rfl)
def aua:An:=.z
def Yv:Ctr:=⟨⟨[.d cw],[bu],1,[],[⟨none,true,false⟩]⟩,λx=>qZ x⟩
def ait:Cx:=aB agd 19 Yv
theorem Vs:Qq0 ait:=aj Uu (Qq2 Uu Tryz.func19 (by kernel_rfl) aua (λx=>by kernel_rfl) rfl)
def awO:An:=Qq1 4 (.j ⟨[6,7,1,2,8,9],[],[(7,c33)],[]⟩ true (.s .z (.u (.j ⟨[2,6,7,8,9,26],[(41,.lf (.sc .bool))],[],[]⟩ true .z (.s (.s .z (.u (.l ⟨[2,6,7,8],[(10,.lf (.sc pi))],[(7,c33)],[]⟩ (.s .z (.s (.u (.k [1000007] [] [])) .z))))) (.s .z (.s (.s .z (.s (.k [1000007] [] []) .z)) (.s .z (.s .z (.s .z (.s (.s .z (.u (.l ⟨[2,6,7],[(11,.lf (.sc pi))],[(7,c33)],[]⟩ .z))) (.s .z (.s (.s .z (.s (.k [1000007] [] []) .z)) (.s .z (.u (.l ⟨[6,7,8],[(12,.lf (.sc pi))],[(7,c33)],[]⟩ (.s .z (.s (.u (.k [1000007] [] [])) .z))))))))))))))))) .z)
def ZJ:Ctr:=⟨⟨[.d cw,.d (.sc pi),.d (.sc pi)],[cw],1,[],[⟨some 32,false,false⟩]⟩,λx=>mA x.1 x.2.1 x.2.2⟩
def afs:Cx:=aB ait 16 ZJ
theorem TV:Qq0 afs:=aj Vs (Qq2 Vs Tryz.func16 (by kernel_rfl) awO (λx=>by kernel_rfl) rfl)
def avN:An:=.z
def W6:Ctr:=⟨⟨[.d cw,.d (.sc pi)],[(.arr 16 (.int .u8)),(.sc .bool)],2,[],[]⟩,λx=>qp x.1 x.2⟩
def aed:Cx:=aB afs 52 W6
theorem Uz:Qq0 aed:=aj TV (Qq2 TV Tryz.func52 (by kernel_rfl) avN (λx=>by kernel_rfl) rfl)
def awp:An:=.z
def XZ:Ctr:=⟨⟨[.d cw,.d cw,.d (.sc pi)],[(.sc .bool)],1,[],[]⟩,λx=>vP x.1 x.2.1 x.2.2⟩
def ajs:Cx:=aB aed 67 XZ
theorem VX:Qq0 ajs:=aj Uz (Qq2 Uz Tryz.func67 (by kernel_rfl) awp (λx=>by kernel_rfl) rfl)
def avW:An:=.s .z (.j ⟨[2,3],[],[],[]⟩ false (.s .z (.u (.l ⟨[2,3],[(5,.lf (.sc pi))],[],[]⟩ .z))) .z)
def Wi:Ctr:=⟨⟨[.d cw,.d cw],[(.sc .bool)],1,[],[]⟩,λx=>Cr x.1 x.2⟩
def agn:Cx:=aB ajs 25 Wi
theorem VR:Qq0 agn:=aj VX (Qq2 VX Tryz.func25 (by kernel_rfl) avW (λx=>by kernel_rfl) rfl)
def av5:An:=.s .z (.s .z (.j ⟨[0,1],[],[],[]⟩ false (.s .z (.u (.l ⟨[0,1],[(5,.lf (.sc pi))],[],[]⟩ .z))) .z))
def YA:Ctr:=⟨⟨[.d (.slice (.sc pi)),.d (.slice (.sc pi))],[(.sc .bool)],1,[],[]⟩,λx=>rB x.1 x.2⟩
def aki:Cx:=aB agn 31 YA
theorem TX:Qq0 aki:=aj VR (Qq2 VR Tryz.func31 (by kernel_rfl) av5 (λx=>by kernel_rfl) rfl)
def au0:An:=.s .z (.s .z (.j ⟨[2,3,0],[],[(3,c33)],[]⟩ true (.s .z (.u (.l ⟨[0,2,3],[(4,.lf (.sc pi))],[(3,c33)],[]⟩ .z))) .z))
def XD:Ctr:=⟨⟨[.d (.slice (.sc pi))],[bu],1,[],[⟨some 32,false,false⟩]⟩,λx=>mG x⟩
def ajh:Cx:=aB aki 54 XD
theorem VK:Qq0 ajh:=aj TX (Qq2 TX Tryz.func54 (by kernel_rfl) au0 (λx=>by kernel_rfl) rfl)
def auP:An:=.z
def Xp:Ctr:=⟨⟨[.d bu,.d (.sc pi)],[(.ext 0)],1,[],[]⟩,λx=>bQ x.1 x.2⟩
def agv:Cx:=aB ajh 48 Xp
theorem Vm:Qq0 agv:=aj VK (Qq2 VK Tryz.func48 (by kernel_rfl) auP (λx=>by kernel_rfl) rfl)
def atI:An:=.z
def Wj:Ctr:=⟨⟨[.d (.ext 0),.d (.ext 0)],[(.sc .bool)],1,[],[]⟩,λx=>gv x.1 x.2⟩
def agF:Cx:=aB agv 47 Wj
theorem Up:Qq0 agF:=aj Vm (Qq2 Vm Tryz.func47 (by kernel_rfl) atI (λx=>by kernel_rfl) rfl)
def awW:An:=.z
def Yu:Ctr:=⟨⟨[.d bu,.d bu],[(.sc .bool)],1,[],[]⟩,λx=>oN x.1 x.2⟩
def afV:Cx:=aB agF 70 Yu
theorem Vp:Qq0 afV:=aj Up (Qq2 Up Tryz.func70 (by kernel_rfl) awW (λx=>by kernel_rfl) rfl)
def av0:An:=.s .z (.s .z (.j ⟨[4,2,3],[],[],[]⟩ false (.s .z (.u (.l ⟨[2,3,4],[(6,.lf (.sc pi))],[],[]⟩ .z))) .z))
def Xy:Ctr:=⟨⟨[.d bu,.d bu],[qg,(.sc pi)],2,[],[⟨some 3,false,false⟩]⟩,λx=>lE x.1 x.2⟩
def aim:Cx:=aB afV 55 Xy
theorem UC:Qq0 aim:=aj Vp (Qq2 Vp Tryz.func55 (by kernel_rfl) av0 (λx=>by kernel_rfl) rfl)
def ann:An:=.z
def KJ:Ctr:=⟨⟨[.d bu,.d bu,.d (.sc pi)],[(.sc .bool)],1,[],[]⟩,λx=>lG x.1 x.2.1 x.2.2⟩
def Xo:Cx:=aB aim 126 KJ
theorem QC:Qq0 Xo:=aj UC (Qq2 UC Tryz.func126 (by kernel_rfl) ann (λx=>by kernel_rfl) rfl)
def avn:An:=Qq1 5 (.s (.k [] [] []) (.j ⟨[6,9,4,5,8],[],[(9,c31)],[]⟩ true .z .z))
def WC:Ctr:=⟨⟨[.d qg,.d bu,.d bu],[qg,(.sc pi)],2,[],[⟨some 3,false,false⟩]⟩,λx=>iA x.1 x.2.1 x.2.2⟩
def aeG:Cx:=aB Xo 56 WC
theorem VC:Qq0 aeG:=aj QC (Qq2 QC Tryz.func56 (by kernel_rfl) avn (λx=>by kernel_rfl) rfl)
def avJ:An:=Qq1 3 (.u (.l ⟨[2,3,7],[],[(7,c31)],[]⟩ .z))
def YT:Ctr:=⟨⟨[.d bu,.d bu],[(.sc pi),(.sc pi),(.sc pi)],3,[],[]⟩,λx=>iF x.1 x.2⟩
def akI:Cx:=aB aeG 24 YT
theorem U6:Qq0 akI:=aj VC (Qq2 VC Tryz.func24 (by kernel_rfl) avJ (λx=>by kernel_rfl) rfl)
def auk:An:=.z
def aaP:Ctr:=⟨⟨[.d (.sc pi)],[(.sc pi)],1,[],[]⟩,λx=>oR x⟩
def aej:Cx:=aB akI 57 aaP
theorem Vd:Qq0 aej:=aj U6 (Qq2 U6 Tryz.func57 (by kernel_rfl) auk (λx=>by kernel_rfl) rfl)
def amV:An:=.s .z (.s .z (.j ⟨[2,3,4],[(7,.lf (.sc pi))],[],[]⟩ false (.s .z (.u (.l ⟨[2,3,4,16,17],[(7,.lf (.sc pi)),(18,.lf (.sc pi))],[],[]⟩ .z))) (.s .z (.s .z (.j ⟨[2,4,7,3],[(10,.lf (.sc pi))],[],[]⟩ true .z (.s .z (.s .z (.j ⟨[4],[],[],[12]⟩ false (.s .z (.u (.l ⟨[78,79],[(12,.lf (.sc pi)),(80,.lf (.sc pi))],[],[]⟩ .z))) .z))))))))
def MQ:Ctr:=⟨⟨[.d aX,.d lZ,.d (.sc pi)],[(.sc pi)],1,[],[]⟩,λx=>ja x.1 x.2.1 x.2.2⟩
def Zp:Cx:=aB aej 113 MQ
theorem Nf:Qq0 Zp:=aj Vd (Qq2 Vd Tryz.func113 (by kernel_rfl) amV (λx=>by kernel_rfl) rfl)
def alS:An:=Qq1 3 (.j ⟨[2,3],[(5,.lf (.own aC 217 false []))],[],[]⟩ true (.s .z (.u (.l ⟨[2,3,15,16],[(5,.lf (.own aC 217 false [])),(17,.lf (.sc pi))],[],[]⟩ .z))) (.j ⟨[2,3],[(5,.lf (.own aC 217 false []))],[],[]⟩ true (.s .z (.u (.l ⟨[3,35,36],[(5,.lf (.own aC 217 false [])),(37,.lf (.sc pi))],[],[]⟩ .z))) .z))
def K6:Ctr:=⟨⟨[.d bT,.d aX],[(.slice aC)],1,[],[⟨some 217,false,false⟩]⟩,λx=>sA x.1 x.2⟩
def YC:Cx:=aB Zp 209 K6
theorem Rp:Qq0 YC:=aj Nf (Qq2 Nf Tryz.func209 (by kernel_rfl) alS (λx=>by kernel_rfl) rfl)
def ap0:An:=.z
def Mm:Ctr:=⟨⟨[.d bG],[(.arr 16 (.int .u8))],1,[],[]⟩,λx=>qz x⟩
def aaX:Cx:=aB YC 216 Mm
theorem Py:Qq0 aaX:=aj Rp (Qq2 Rp Tryz.func216 (by kernel_rfl) ap0 (λx=>by kernel_rfl) rfl)
def apn:An:=.z
def Kg:Ctr:=⟨⟨[.d (.arr 16 (.int .u8)),.d (.arr 16 (.int .u8))],[(.arr 16 (.int .u8))],1,[],[]⟩,λx=>qK x.1 x.2⟩
def Wt:Cx:=aB aaX 218 Kg
theorem N3:Qq0 Wt:=aj Py (Qq2 Py Tryz.func218 (by kernel_rfl) apn (λx=>by kernel_rfl) rfl)
def amR:An:=.s .z (.s .z (.j ⟨[0,1],[(5,.lf (.sc pi))],[],[]⟩ true (.u (.l ⟨[0,1],[(5,.lf (.sc pi))],[],[]⟩ .z)) .z))
def Kf:Ctr:=⟨⟨[.d (.sc pi),.d (.sc pi)],[(.sc pi)],1,[],[]⟩,λx=>lz x.1 x.2⟩
def V7:Cx:=aB Wt 217 Kf
theorem Oe:Qq0 V7:=aj N3 (Qq2 N3 Tryz.func217 (by kernel_rfl) amR (λx=>by kernel_rfl) rfl)
def aoK:An:=.z
def JR:Ctr:=⟨⟨[.d bG],[(.sc .bool)],1,[],[]⟩,λx=>qf x⟩
def V8:Cx:=aB V7 214 JR
theorem NE:Qq0 V8:=aj Oe (Qq2 Oe Tryz.func214 (by kernel_rfl) aoK (λx=>by kernel_rfl) rfl)
def FY(k:Nat):Ctr:=⟨⟨[.d (.sc pi),.d (.sc pi),.box false (.slice bG) [],.rc 215 [0,2]],[.arr 16 (.int .u8)],1,[],[]⟩,λx=>lJ k x.2.2.1 x.1 x.2.1⟩
theorem Nl:∀k,(FY k).sound Tryz.prog 215
 |0=>λx r h=>by have a:none=some r:=h;cases a
 |k+1=>ai (aj NE (Nl k)) au Tryz.func215 (by kernel_rfl) (an:=.z) (λx=>(by kernel_rfl:(FY (k+1)).fn x=aE (aB V8 215 (FY k)) Tryz.f215 (.z) (FY (k+1)).toSig x)) rfl
def ama:Ctr:=FY 64
theorem ajw:ama.sound Tryz.prog 215:=Nl 64
def Wx:Cx:=aB V8 215 ama
theorem RR:Qq0 Wx:=aj NE ajw
def aov:An:=.z
def Mo:Ctr:=⟨⟨[.d (.slice bG)],[(.arr 16 (.int .u8))],1,[],[]⟩,λx=>nU x⟩
def XH:Cx:=aB Wx 139 Mo
theorem PD:Qq0 XH:=aj RR (Qq2 RR Tryz.func139 (by kernel_rfl) aov (λx=>by kernel_rfl) rfl)
def aoi:An:=.z
def Mr:Ctr:=⟨⟨[.d (.sc pi),.d (.arr 16 (.int .u8))],[(.arr 16 (.int .u8))],1,[],[]⟩,λx=>je x.1 x.2⟩
def Wh:Cx:=aB XH 138 Mr
theorem OX:Qq0 Wh:=aj PD (Qq2 PD Tryz.func138 (by kernel_rfl) aoi (λx=>by kernel_rfl) rfl)
def amK:An:=.s .z (.j ⟨[0,1],[],[],[]⟩ false (.s .z (.u (.l ⟨[0,1,7],[(8,.lf (.sc pi))],[],[]⟩ .z))) .z)
def K3:Ctr:=⟨⟨[.d (.slice bG),.fn 214],[(.sc pi)],1,[],[]⟩,λx=>eP x.1⟩
def ZG:Cx:=aB Wh 287 K3
theorem NU:Qq0 ZG:=aj OX (Qq2 OX Tryz.func287 (by kernel_rfl) amK (λx=>by kernel_rfl) rfl)
def amz:An:=.z
def LN:Ctr:=⟨⟨[.d (.slice bG),.fn 214],[(.sc .bool)],1,[],[]⟩,λx=>cX x.1⟩
def aa6:Cx:=aB ZG 213 LN
theorem Rt:Qq0 aa6:=aj NU (Qq2 NU Tryz.func213 (by kernel_rfl) amz (λx=>by kernel_rfl) rfl)
def apB:An:=.s .z (.s .z (.j ⟨[0],[],[],[]⟩ false (.s .z (.u (.l ⟨[0,12],[(13,.lf (.sc pi))],[],[]⟩ .z))) .z))
def LV:Ctr:=⟨⟨[.d (.slice bG)],[(.sc pi)],1,[],[]⟩,λx=>jo x⟩
def Ym:Cx:=aB aa6 137 LV
theorem SQ:Qq0 Ym:=aj Rt (Qq2 Rt Tryz.func137 (by kernel_rfl) apB (λx=>by kernel_rfl) rfl)
def auC:An:=.z
def Z9:Ctr:=⟨⟨[.d (.slice bG)],[(.arr 16 (.int .u8)),(.sc pi)],2,[],[]⟩,λx=>mf x⟩
def auw:Cx:=aB Ym 73 Z9
theorem aqU:Qq0 auw:=aj SQ (Qq2 SQ Tryz.func73 (by kernel_rfl) auC (λx=>by kernel_rfl) rfl)
def ape:Ctr:=⟨⟨[.d (.sc pi)],[.sc .str],1,[],[]⟩,λx=>Gk x⟩
theorem ah1:ape.sound Tryz.prog 210:=aqa
def Wa:Cx:=aB auw 210 ape
theorem QO:Qq0 Wa:=aj aqU ah1
def amx:An:=Qq1 4 (.j ⟨[2,0],[(4,.lf (.own bG 163 false []))],[],[]⟩ true (.s .z (.u (.l ⟨[2,16,17],[(4,.lf (.own bG 163 false [])),(18,.lf (.sc pi))],[],[]⟩ .z))) .z)
def J1:Ctr:=⟨⟨[.d (.slice aX)],[(.arr 16 (.int .u8)),(.sc pi)],2,[],[]⟩,λx=>xY x⟩
def Z1:Cx:=aB Wa 133 J1
theorem Ng:Qq0 Z1:=aj QO (Qq2 QO Tryz.func133 (by kernel_rfl) amx (λx=>by kernel_rfl) rfl)
def aoB:An:=.s .z (.s .z (.j ⟨[0],[(3,.lf (.sc pi))],[],[]⟩ true (.u (.l ⟨[0],[(3,.lf (.sc pi))],[],[]⟩ .z)) .z))
def KS:Ctr:=⟨⟨[.d (.slice (.sc pi))],[(.slice (.sc pi))],1,[],[⟨some 3,false,false⟩]⟩,λx=>ya x⟩
def aah:Cx:=aB Z1 208 KS
theorem O1:Qq0 aah:=aj Ng (Qq2 Ng Tryz.func208 (by kernel_rfl) aoB (λx=>by kernel_rfl) rfl)
def apN:An:=.z
def Lp:Ctr:=⟨⟨[.d (.slice (.sc pi)),.d (.sc pi)],[(.sc pi)],1,[],[]⟩,λx=>qM x.1 x.2⟩
def Ds:Cx:=aB aah 206 Lp
theorem xi:Qq0 Ds:=aj O1 (Qq2 O1 Tryz.func206 (by kernel_rfl) apN (λx=>by kernel_rfl) rfl)
end
end Go.Proofs.YtgghcmbaidihjaaGreatDoor
