/- Laws for the row. No condition. -/
import Derived.Test.YtgghcmbaidihjaaGreatDoorCtC
namespace Go.Proofs.YtgghcmbaidihjaaGreatDoor
open Go.Sm
set_option maxRecDepth 100000
set_option linter.unusedSectionVars false
section
variable [Itr]  [Yc:GCx] [SortLaw]
def ahb:An:=.s .z (.j ⟨[0,1],[],[],[]⟩ false (.s .z (.u (.l ⟨[0,1],[(5,.lf (.sc pi))],[],[]⟩ .z))) .z)
def HE:Ctr:=⟨⟨[.d (.slice bW),.d (.sc .str)],[(.sc pi)],1,[],[]⟩,λx=>db x.1 x.2⟩
def VS:Cx:=aA VO 155 HE
theorem Lw:Qq0 VS:=ao Nc (Qq2 Nc Tryz.func155 (by kernel_rfl) ahb (λx=>by kernel_rfl) rfl)
def afo:An:=.s .z (.s .z (.j ⟨[1],[(3,.lf (.own (.sc .str) 9 false []))],[],[]⟩ true (.s .z (.u (.l ⟨[1],[(3,.lf (.own (.sc .str) 9 false [])),(4,.lf (.sc pi))],[],[]⟩ (.s .z (.j ⟨[1,4],[(3,.lf (.own (.sc .str) 9 false []))],[],[]⟩ true .z .z))))) .z))
def Hy:Ctr:=⟨⟨[.d bu],[(.slice (.sc .str))],1,[],[⟨some 9,false,false⟩]⟩,λx=>mI x⟩
def UE:Cx:=aA VS 326 Hy
theorem KH:Qq0 UE:=ao Lw (Qq2 Lw Tryz.func326 (by kernel_rfl) afo (λx=>by kernel_rfl) rfl)
def aiO:An:=Qq1 6 (.j ⟨[],[],[],[8]⟩ false (.s .z (.u (.l ⟨[8],[(9,.lf (.sc pi))],[],[]⟩ .z))) .z)
def JI:Ctr:=⟨⟨[.d (.slice bW),.d (.sc pi)],[(.sc pi)],1,[],[]⟩,λx=>sw x.1 x.2⟩
def Uw:Cx:=aA UE 291 JI
theorem Kg:Qq0 Uw:=ao KH (Qq2 KH Tryz.func291 (by kernel_rfl) aiO (λx=>by kernel_rfl) rfl)
def aip:An:=.z
def Ij:Ctr:=⟨⟨[.d (.sc .str)],[bu],1,[],[⟨some 293,false,true⟩]⟩,λx=>iU x⟩
def Up:Cx:=aA Uw 295 Ij
theorem Ok:Qq0 Up:=ao Kg (Qq2 Kg Tryz.func295 (by kernel_rfl) aip (λx=>by kernel_rfl) rfl)
def aic:An:=.s .z (.j ⟨[0],[],[],[]⟩ false (.s .z (.u (Qq1 4 (.j ⟨[3],[(8,.lf (.sc .bool))],[],[]⟩ true .z (.s .z (.j ⟨[3],[(11,.lf (.sc .bool))],[],[]⟩ true .z (.s .z (.j ⟨[3],[(14,.lf (.sc .bool))],[],[]⟩ true .z (.s .z (.j ⟨[3],[(17,.lf (.sc .bool))],[],[]⟩ true .z .z)))))))))) .z)
def Hm:Ctr:=⟨⟨[.d (.sc pi)],[(.sc pi)],1,[],[]⟩,λx=>lT x⟩
def UN:Cx:=aA Up 327 Hm
theorem OC:Qq0 UN:=ao Ok (Qq2 Ok Tryz.func327 (by kernel_rfl) aic (λx=>by kernel_rfl) rfl)
def aiD:An:=.s .z (.j ⟨[0],[],[],[]⟩ false (.s .z (.u (.l ⟨[0],[(4,.lf (.sc pi))],[],[]⟩ .z))) .z)
def IY:Ctr:=⟨⟨[.d (.sc .str)],[(.sc .str),(.sc .str)],2,[],[]⟩,λx=>uT x⟩
def RY:Cx:=aA UN 328 IY
theorem LU:Qq0 RY:=ao OC (Qq2 OC Tryz.func328 (by kernel_rfl) aiD (λx=>by kernel_rfl) rfl)
def afe:An:=.s .z (.s .z (.j ⟨[1],[(3,.lf (.own fk 441 false []))],[],[]⟩ true .z (.j ⟨[1],[(3,.lf (.own fk 441 false []))],[],[]⟩ true (.s .z (.u (.l ⟨[1],[(3,.lf (.own fk 441 false [])),(6,.lf (.sc pi))],[],[]⟩ .z))) .z)))
def Eu(k_:Nat):Ctr:=⟨⟨[.d bu],[(.slice fk)],1,[],[⟨some 441,false,false⟩]⟩,λx=>kG k_ x⟩
def ais:Ctr:=⟨⟨[.d bu],[(.slice fk)],1,[],[⟨some 441,false,false⟩]⟩,λx=>mY x⟩
theorem Gy:∀k,(Eu k).sound Tryz.prog 294
  | 0=>λx r h=>by
    have h1:none=some r:=h;cases h1
  |k+1=>am (ao LU (Gy k)) i4 Tryz.func294 (by kernel_rfl) (an:=afe) (λx=>(by kernel_rfl:(Eu (k+1)).fn x=aG (aA RY 294 (Eu k)) Tryz.f294 afe (Eu (k+1)).toSig x)) rfl
theorem Zm:ais.sound Tryz.prog 294:=Gy 64
def Ti:Cx:=aA RY 294 ais
theorem Mw:Qq0 Ti:=ao LU Zm
def ah6:An:=.s .z (.s .z (.j ⟨[0,5],[],[],[]⟩ false (.s .z (.u (.l ⟨[0,5],[(6,.lf (.sc pi))],[],[]⟩ .z))) (.j ⟨[0,5],[],[],[]⟩ false (.s .z (.u (.l ⟨[0,5],[(7,.lf (.sc pi))],[],[]⟩ .z))) (.j ⟨[0],[],[],[5]⟩ false (.s .z (.u (.l ⟨[0,5],[(8,.lf (.sc pi))],[],[]⟩ .z))) .z))))
def Iu:Ctr:=⟨⟨[.d (.slice bW),.d (.sc pi)],[(.sc pi)],1,[],[]⟩,λx=>qX x.1 x.2⟩
def Sq:Cx:=aA Ti 292 Iu
theorem NB:Qq0 Sq:=ao Mw (Qq2 Mw Tryz.func292 (by kernel_rfl) ah6 (λx=>by kernel_rfl) rfl)
def ahN:An:=Qq1 3 (.j ⟨[0,1],[(5,.lf (.sc pi))],[],[]⟩ true (.u (.l ⟨[0,1],[(5,.lf (.sc pi))],[],[]⟩ .z)) .z)
def Js:Ctr:=⟨⟨[.d (.slice (.sc .str)),.d (.sc .str)],[(.slice (.sc .str))],1,[],[⟨none,true,true⟩]⟩,λx=>oS x.1 x.2⟩
def Uy:Cx:=aA Sq 229 Js
theorem Nu:Qq0 Uy:=ao NB (Qq2 NB Tryz.func229 (by kernel_rfl) ahN (λx=>by kernel_rfl) rfl)
def aiH:An:=Qq1 3 (.j ⟨[0,2],[(7,.lf (.rep (.sc .str) false []))],[],[8]⟩ true (.s .z (.u (.l ⟨[0,2],[(7,.lf (.rep (.sc .str) false [])),(8,.lf (.own (.sc .str) 9 false [])),(9,.lf (.sc pi))],[],[]⟩ (.s .z (.j ⟨[0,2,9],[(7,.lf (.rep (.sc .str) false [])),(8,.lf (.own (.sc .str) 9 false []))],[],[]⟩ true (.u (.s .z (.s .z (.s .z (.s .z (.u (.l ⟨[0,2,9,11],[(7,.lf (.rep (.sc .str) false [])),(8,.lf (.own (.sc .str) 9 false [])),(12,.lf (.sc pi))],[],[]⟩ (.s .z (.j ⟨[0,2,9,11,12],[(7,.lf (.rep (.sc .str) false [])),(8,.lf (.own (.sc .str) 9 false []))],[],[]⟩ true .z .z))))))))) .z))))) .z)
def I7:Ctr:=⟨⟨[.d (.slice bW),.d (.sc .str),.d (.sc .bool)],[(.slice (.sc .str))],1,[],[⟨none,false,true⟩]⟩,λx=>mh x.1 x.2.1 x.2.2⟩
def Vf:Cx:=aA Uy 230 I7
theorem L5:Qq0 Vf:=ao Nu (Qq2 Nu Tryz.func230 (by kernel_rfl) aiH (λx=>by kernel_rfl) rfl)
def afa:An:=.s .z (.s .z (.j ⟨[0],[],[],[]⟩ false (.s .z (.u (.l ⟨[0],[(4,.lf (.sc pi))],[],[]⟩ .z))) (.j ⟨[0],[],[],[]⟩ false (.s .z (.u (.l ⟨[0],[(6,.lf (.sc pi))],[],[]⟩ .z))) (.j ⟨[0],[],[],[]⟩ false (.s .z (.u (.l ⟨[0],[(8,.lf (.sc pi))],[],[]⟩ .z))) .z))))
def HN:Ctr:=⟨⟨[.d (.slice bW)],[(.sc pi),(.sc pi)],2,[],[]⟩,λx=>sq x⟩
def SW:Cx:=aA Vf 228 HN
theorem MB:Qq0 SW:=ao L5 (Qq2 L5 Tryz.func228 (by kernel_rfl) afa (λx=>by kernel_rfl) rfl)
def aiR:An:=Qq1 6 (.j ⟨[0,8],[(9,.lf (.own bW 297 false []))],[],[]⟩ true (.s .z (.u (.l ⟨[0,8],[(9,.lf (.own bW 297 false [])),(10,.lf (.sc pi))],[],[]⟩ .z))) .z)
def Ia:Ctr:=⟨⟨[.d (.slice bW),.d (.sc .str)],[(.slice bW),(.sc pi)],2,[],[⟨some 297,false,false⟩]⟩,λx=>sI x.1 x.2⟩
def Uc:Cx:=aA SW 153 Ia
theorem MH:Qq0 Uc:=ao MB (Qq2 MB Tryz.func153 (by kernel_rfl) aiR (λx=>by kernel_rfl) rfl)
def ah9:An:=.z
def Jb:Ctr:=⟨⟨[.box true ba [some 328,some 3,some 3,none,none,none,none,none,some 9],.d (.sc pi),.d (.sc pi),.d (.sc pi)],[ba],0,[0],[⟨some 328,false,false⟩,⟨some 3,false,false⟩,⟨some 3,false,false⟩,⟨none,true,false⟩,⟨none,true,false⟩,⟨none,true,false⟩,⟨none,true,false⟩,⟨none,true,false⟩,⟨some 9,false,false⟩]⟩,λx=>aN x.1 x.2.1 x.2.2.1 x.2.2.2⟩
def RL:Cx:=aA Uc 159 Jb
theorem LX:Qq0 RL:=ao MH (Qq2 MH Tryz.func159 (by kernel_rfl) ah9 (λx=>by kernel_rfl) rfl)
def agA:An:=.s .z (.j ⟨[0,1],[],[],[]⟩ false (.s .z (.u (.l ⟨[0,1],[(5,.lf (.sc pi))],[],[]⟩ .z))) .z)
def Ju:Ctr:=⟨⟨[.d (.slice (.sc .str)),.d (.sc .str)],[(.sc pi)],1,[],[]⟩,λx=>cq x.1 x.2⟩
def Sw:Cx:=aA RL 306 Ju
theorem Mg:Qq0 Sw:=ao LX (Qq2 LX Tryz.func306 (by kernel_rfl) agA (λx=>by kernel_rfl) rfl)
def air:An:=.s .z (.j ⟨[0,1],[],[(0,c22)],[]⟩ true .z .z)
def HG:Ctr:=⟨⟨[.box true ba [some 328,some 3,some 3,none,none,none,none,none,some 9],.d (.sc .str)],[(.sc pi),ba],1,[0],[⟨some 328,false,false⟩,⟨some 3,false,false⟩,⟨some 3,false,false⟩,⟨none,true,true⟩,⟨none,true,true⟩,⟨none,true,true⟩,⟨none,true,true⟩,⟨none,true,true⟩,⟨some 9,false,false⟩]⟩,λx=>cM x.1 x.2⟩
def Wj:Cx:=aA Sw 236 HG
theorem Nh:Qq0 Wj:=ao Mg (Qq2 Mg Tryz.func236 (by kernel_rfl) air (λx=>by kernel_rfl) rfl)
def ahl:An:=.s .z (.j ⟨[0,3],[],[(0,c22)],[]⟩ true .z (.s .z (.u (.l ⟨[0,3],[(4,.lf (.sc pi))],[(0,c20)],[]⟩ .z))))
def Dm(k_:Nat):Ctr:=⟨⟨c26,[ba],0,[0],[⟨some 328,false,false⟩,⟨some 3,false,false⟩,⟨some 3,false,false⟩,⟨none,true,true⟩,⟨none,true,true⟩,⟨none,true,true⟩,⟨none,true,true⟩,⟨none,true,true⟩,⟨some 9,false,false⟩]⟩,λx=>iA k_ x.1 x.2⟩
def agV:Ctr:=⟨⟨c26,[ba],0,[0],[⟨some 328,false,false⟩,⟨some 3,false,false⟩,⟨some 3,false,false⟩,⟨none,true,true⟩,⟨none,true,true⟩,⟨none,true,true⟩,⟨none,true,true⟩,⟨none,true,true⟩,⟨some 9,false,false⟩]⟩,λx=>ol x.1 x.2⟩
theorem GL:∀k,(Dm k).sound Tryz.prog 157
  | 0=>λx r h=>by
    have h1:none=some r:=h;cases h1
  |k+1=>am (ao Nh (GL k)) i4 Tryz.func157 (by kernel_rfl) (an:=ahl) (λx=>(by kernel_rfl:(Dm (k+1)).fn x=aG (aA Wj 157 (Dm k)) Tryz.f157 ahl (Dm (k+1)).toSig x)) rfl
theorem abO:agV.sound Tryz.prog 157:=GL 64
def UJ:Cx:=aA Wj 157 agV
theorem JW:Qq0 UJ:=ao Nh abO
def ahQ:An:=.s .z (.s .z (.j ⟨[0],[(3,.lf (.own (.sc .str) 9 false []))],[],[]⟩ true (.s .z (.u (.l ⟨[0],[(3,.lf (.own (.sc .str) 9 false [])),(4,.lf (.sc pi))],[],[]⟩ .z))) .z))
def Hn:Ctr:=⟨⟨[.d (.slice aw)],[(.slice (.sc .str))],1,[],[⟨some 9,false,false⟩]⟩,λx=>f7 x⟩
def Tx:Cx:=aA UJ 268 Hn
theorem Mp:Qq0 Tx:=ao JW (Qq2 JW Tryz.func268 (by kernel_rfl) ahQ (λx=>by kernel_rfl) rfl)
def ahK:An:=.s .z (.s .z (.u (Qq1 4 (.j ⟨[0,3,5],[(40,.lf (.sc .bool))],[],[]⟩ true .z (.s (.k [] [] []) .z)))))
def Dn(k_:Nat):Ctr:=⟨⟨c26,[ba],0,[0],[⟨some 328,false,false⟩,⟨some 3,false,false⟩,⟨some 3,false,false⟩,⟨none,true,true⟩,⟨none,true,true⟩,⟨none,true,true⟩,⟨none,true,true⟩,⟨none,true,true⟩,⟨some 9,false,false⟩]⟩,λx=>ib k_ x.1 x.2⟩
def afE:Ctr:=⟨⟨c26,[ba],0,[0],[⟨some 328,false,false⟩,⟨some 3,false,false⟩,⟨some 3,false,false⟩,⟨none,true,true⟩,⟨none,true,true⟩,⟨none,true,true⟩,⟨none,true,true⟩,⟨none,true,true⟩,⟨some 9,false,false⟩]⟩,λx=>dp x.1 x.2⟩
theorem Gc:∀k,(Dn k).sound Tryz.prog 307
  | 0=>λx r h=>by
    have h1:none=some r:=h;cases h1
  |k+1=>am (ao Mp (Gc k)) i4 Tryz.func307 (by kernel_rfl) (an:=ahK) (λx=>(by kernel_rfl:(Dn (k+1)).fn x=aG (aA Tx 307 (Dn k)) Tryz.f307 ahK (Dn (k+1)).toSig x)) rfl
theorem aeR:afE.sound Tryz.prog 307:=Gc 64
def DY:Cx:=aA Tx 307 afE
theorem yh:Qq0 DY:=ao Mp aeR
def aiI:An:=.s .z (.s .z (.u (.l ⟨[0,3],[(4,.lf (.sc pi))],[(0,c22)],[]⟩ .z)))
def sG(k_:Nat):Ctr:=⟨⟨c26,[ba],0,[0],[⟨some 328,false,false⟩,⟨some 3,false,false⟩,⟨some 3,false,false⟩,⟨none,true,true⟩,⟨none,true,true⟩,⟨none,true,true⟩,⟨none,true,true⟩,⟨none,true,true⟩,⟨some 9,false,false⟩]⟩,λx=>dX k_ x.1 x.2⟩
def ahm:Ctr:=⟨⟨c26,[ba],0,[0],[⟨some 328,false,false⟩,⟨some 3,false,false⟩,⟨some 3,false,false⟩,⟨none,true,true⟩,⟨none,true,true⟩,⟨none,true,true⟩,⟨none,true,true⟩,⟨none,true,true⟩,⟨some 9,false,false⟩]⟩,λx=>nC x.1 x.2⟩
def ain:An:=Qq1 6 (.j ⟨[0,3,5,4],[],[(0,c20)],[]⟩ true .z .z)
def zg(k:Nat):Ctr:=⟨⟨c26,[ba],0,[0],[⟨some 328,false,false⟩,⟨some 3,false,false⟩,⟨some 3,false,false⟩,⟨none,true,true⟩,⟨none,true,true⟩,⟨none,true,true⟩,⟨none,true,true⟩,⟨none,true,true⟩,⟨some 9,false,false⟩]⟩,λx=>mU (dX k) x.1 x.2⟩
theorem Gz(k:Nat)(h:(sG k).sound Tryz.prog 158):(zg k).sound Tryz.prog 308:=am (ao yh h) i4 Tryz.func308 (by kernel_rfl) (an:=ain) (λx=>(by kernel_rfl:(zg k).fn x=aG (aA DY 158 (sG k)) Tryz.f308 ain (zg k).toSig x)) rfl
def afH:An:=Qq1 3 (.u (.s .z (.s .z (.s .z (.s (.s .z (.k [] [] [])) (.j ⟨[0,3,4,12],[(53,.lf (.sc .bool))],[],[]⟩ true .z (.s .z (.s .z (.s (.k [] [] []) (.s .z (.s (.k [] [] []) (.s .z (.s .z (.s .z (.s (.k [0,1000000] [] []) (.s .z (.s (.k [] [] []) (.s .z (.s (.k [] [] []) (.s .z (.s (.k [0,1000000] [] []) (.s .z (.s .z (.s .z (.s .z (.s .z (.s (.s .z (.k [] [] [])) (.s .z (.s (.k [0,1000000] [] []) (.s .z (.s (.s .z (.s (.k [] [] []) .z)) .z)))))))))))))))))))))))))))))))
def D1(k:Nat):Ctr:=⟨⟨c26,[ba],0,[0],[⟨some 328,false,false⟩,⟨some 3,false,false⟩,⟨some 3,false,false⟩,⟨none,true,true⟩,⟨none,true,true⟩,⟨none,true,true⟩,⟨none,true,true⟩,⟨none,true,true⟩,⟨some 9,false,false⟩]⟩,λx=>lw (dX k) x.1 x.2⟩
theorem WP(k:Nat)(h:(sG k).sound Tryz.prog 158):(D1 k).sound Tryz.prog 237:=am (ao (ao yh h) (Gz k h)) i4 Tryz.func237 (by kernel_rfl) (an:=afH) (λx=>(by kernel_rfl:(D1 k).fn x=aG (aA (aA DY 158 (sG k)) 308 (zg k)) Tryz.f237 afH (D1 k).toSig x)) rfl
theorem vU:∀k,(sG k).sound Tryz.prog 158
  | 0=>λx r h=>by
    have h1:none=some r:=h;cases h1
  |k+1=>am (ao (ao (ao yh (vU k)) (Gz k (vU k))) (WP k (vU k))) i4 Tryz.func158 (by kernel_rfl) (an:=aiI) (λx=>(by kernel_rfl:(sG (k+1)).fn x=aG (aA (aA (aA DY 158 (sG k)) 308 (zg k)) 237 (D1 k)) Tryz.f158 aiI (sG (k+1)).toSig x)) rfl
theorem acy:ahm.sound Tryz.prog 158:=vU 64
def SX:Cx:=aA DY 158 ahm
theorem N6:Qq0 SX:=ao yh acy
def aiF:An:=.s .z (.s .z (.j ⟨[0,3],[(5,.lf (.sc pi))],[],[]⟩ true (.u (.l ⟨[0,3],[(5,.lf (.sc pi))],[],[]⟩ .z)) .z))
def Ii:Ctr:=⟨⟨[.d (.slice aw),.d aw],[(.slice aw)],1,[],[⟨some 217,false,false⟩]⟩,λx=>o0 x.1 x.2⟩
def TV:Cx:=aA SX 235 Ii
theorem KD:Qq0 TV:=ao N6 (Qq2 N6 Tryz.func235 (by kernel_rfl) aiF (λx=>by kernel_rfl) rfl)
def agT:An:=.s .z (.s .z (.j ⟨[1,4,5,0],[],[(5,c23)],[]⟩ true (.s .z (.u (.l ⟨[0,1,4,5],[(6,.lf (.sc pi))],[(5,c23)],[]⟩ (.s .z (.j ⟨[0,1,4,5,6],[],[(5,c23)],[]⟩ true (.u (.s .z (.s .z (.u (Qq1 3 (.s (.s .z (.u (.l ⟨[0,1,4,5,6,7],[(10,.lf (.sc pi))],[(5,c23)],[]⟩ .z))) .z)))))) .z))))) .z))
def JQ:Ctr:=⟨⟨[.d (.slice bW),.d (.sc .str)],[fQ],1,[],[⟨some 328,false,false⟩,⟨some 3,false,false⟩,⟨some 3,false,false⟩,⟨some 217,false,false⟩,⟨some 217,false,false⟩,⟨some 9,false,false⟩,⟨some 9,false,false⟩,⟨some 9,false,false⟩]⟩,λx=>q8 x.1 x.2⟩
def VB:Cx:=aA TV 156 JQ
theorem NR:Qq0 VB:=ao KD (Qq2 KD Tryz.func156 (by kernel_rfl) agT (λx=>by kernel_rfl) rfl)
def amB:An:=Qq1 6 (.j ⟨[4,11],[],[(11,c21)],[6]⟩ true (.s .z (.u (.l ⟨[4,6,11],[(12,.lf (.sc pi))],[(11,c21)],[]⟩ (.s .z (.j ⟨[4,6,11,12],[],[(11,c19)],[]⟩ true (.u (.s .z (.s .z (.s .z (.s .z (.s .z (.s .z (.j ⟨[4,6,11,12],[],[(11,c19)],[]⟩ true .z .z)))))))) .z))))) .z)
def UG:Ctr:=⟨⟨[.d (.slice bW),.d (.sc .str)],[fQ,(.sc pi)],2,[],[⟨some 328,false,false⟩,⟨some 3,false,false⟩,⟨some 3,false,false⟩,⟨none,false,true⟩,⟨none,false,true⟩,⟨none,false,true⟩,⟨none,false,true⟩,⟨none,false,true⟩]⟩,λx=>qr x.1 x.2⟩
def acY:Cx:=aA VB 80 UG
theorem Pt:Qq0 acY:=ao NR (Qq2 NR Tryz.func80 (by kernel_rfl) amB (λx=>by kernel_rfl) rfl)
def aol:An:=.z
def TW:Ctr:=⟨⟨[.d (.sc pi)],[(.slice bW)],1,[],[⟨some 297,false,false⟩]⟩,λx=>pe x⟩
def acm:Cx:=aA acY 37 TW
theorem PS:Qq0 acm:=ao Pt (Qq2 Pt Tryz.func37 (by kernel_rfl) aol (λx=>by kernel_rfl) rfl)
def anN:An:=.z
def TS:Ctr:=⟨⟨[.d (.slice bW),.d (.sc .str)],[fQ],1,[],[⟨some 328,false,false⟩,⟨some 3,false,false⟩,⟨some 3,false,false⟩,⟨none,false,true⟩,⟨none,false,true⟩,⟨none,false,true⟩,⟨none,false,true⟩,⟨none,false,true⟩]⟩,λx=>kN x.1 x.2⟩
def abp:Cx:=aA acm 36 TS
theorem Qj:Qq0 abp:=ao PS (Qq2 PS Tryz.func36 (by kernel_rfl) anN (λx=>by kernel_rfl) rfl)
def an8:An:=.s .z (.s .z (.s (.k [2,3] [] []) .z))
def ct8:Ctr:=⟨⟨[.d (.sc pi)],[co,fQ],2,[],[⟨none,false,true⟩,⟨none,false,true⟩,⟨none,false,true⟩,⟨none,false,true⟩,⟨none,false,true⟩,⟨none,false,true⟩,⟨none,false,true⟩,⟨none,false,true⟩,⟨none,false,true⟩,⟨none,false,true⟩,⟨none,false,true⟩,⟨none,false,true⟩,⟨none,false,true⟩,⟨none,false,true⟩,⟨none,false,true⟩,⟨none,false,true⟩]⟩,λx=>iF x⟩
def cx8:Cx:=aA abp 8 ct8
theorem Xf:Qq0 cx8:=ao Qj (Qq2 Qj Tryz.func8 (by kernel_rfl) an8 (λx=>by kernel_rfl) rfl)
def an9:An:=.z
def ct9:Ctr:=⟨⟨[.d (.sc pi),.d (.sc pi)],[pv],1,[],[]⟩,λx=>l8 x.1 x.2⟩
def cx9:Cx:=aA cx8 9 ct9
theorem W4:Qq0 cx9:=ao Xf (Qq2 Xf Tryz.func9 (by kernel_rfl) an9 (λx=>by kernel_rfl) rfl)
def am3:An:=.z
def VU:Ctr:=⟨⟨[.d bE],[cp],1,[],[⟨none,true,false⟩]⟩,λx=>gi x⟩
def aez:Cx:=aA cx9 13 VU
theorem PR:Qq0 aez:=ao W4 (Qq2 W4 Tryz.func13 (by kernel_rfl) am3 (λx=>by kernel_rfl) rfl)
def aoH:An:=.z
def Ut:Ctr:=⟨⟨[.d cp],[bE],1,[],[⟨none,true,false⟩]⟩,λx=>oU x⟩
def adQ:Cx:=aA aez 19 Ut
theorem QP:Qq0 adQ:=ao PR (Qq2 PR Tryz.func19 (by kernel_rfl) aoH (λx=>by kernel_rfl) rfl)
def ama:An:=Qq1 4 (.j ⟨[6,7,1,2,8,9],[],[(7,c31)],[]⟩ true (.s .z (.u (.j ⟨[2,6,7,8,9,26],[(41,.lf (.sc .bool))],[],[]⟩ true .z (.s (.s .z (.u (.l ⟨[2,6,7,8],[(10,.lf (.sc pi))],[(7,c31)],[]⟩ (.s .z (.s (.u (.k [1000007] [] [])) .z))))) (.s .z (.s (.s .z (.s (.k [1000007] [] []) .z)) (.s .z (.s .z (.s .z (.s (.s .z (.u (.l ⟨[2,6,7],[(11,.lf (.sc pi))],[(7,c31)],[]⟩ .z))) (.s .z (.s (.s .z (.s (.k [1000007] [] []) .z)) (.s .z (.u (.l ⟨[6,7,8],[(12,.lf (.sc pi))],[(7,c31)],[]⟩ (.s .z (.s (.u (.k [1000007] [] [])) .z))))))))))))))))) .z)
def R0:Ctr:=⟨⟨[.d cp,.d (.sc pi),.d (.sc pi)],[cp],1,[],[⟨some 32,false,false⟩]⟩,λx=>kZ x.1 x.2.1 x.2.2⟩
def aaT:Cx:=aA adQ 16 R0
theorem PZ:Qq0 aaT:=ao QP (Qq2 QP Tryz.func16 (by kernel_rfl) ama (λx=>by kernel_rfl) rfl)
def amp:An:=.z
def U8:Ctr:=⟨⟨[.d cp,.d (.sc pi)],[(.arr 16 (.int .u8)),(.sc .bool)],2,[],[]⟩,λx=>iT x.1 x.2⟩
def aa9:Cx:=aA aaT 52 U8
theorem QF:Qq0 aa9:=ao PZ (Qq2 PZ Tryz.func52 (by kernel_rfl) amp (λx=>by kernel_rfl) rfl)
def aop:An:=.z
def Uj:Ctr:=⟨⟨[.d cp,.d cp,.d (.sc pi)],[(.sc .bool)],1,[],[]⟩,λx=>kW x.1 x.2.1 x.2.2⟩
def adu:Cx:=aA aa9 67 Uj
theorem Q9:Qq0 adu:=ao QF (Qq2 QF Tryz.func67 (by kernel_rfl) aop (λx=>by kernel_rfl) rfl)
def apj:An:=.s .z (.j ⟨[2,3],[],[],[]⟩ false (.s .z (.u (.l ⟨[2,3],[(5,.lf (.sc pi))],[],[]⟩ .z))) .z)
def TX:Ctr:=⟨⟨[.d cp,.d cp],[(.sc .bool)],1,[],[]⟩,λx=>kw x.1 x.2⟩
def adx:Cx:=aA adu 25 TX
theorem Ro:Qq0 adx:=ao Q9 (Qq2 Q9 Tryz.func25 (by kernel_rfl) apj (λx=>by kernel_rfl) rfl)
def amH:An:=.s .z (.s .z (.j ⟨[0,1],[],[],[]⟩ false (.s .z (.u (.l ⟨[0,1],[(5,.lf (.sc pi))],[],[]⟩ .z))) .z))
def RQ:Ctr:=⟨⟨[.d (.slice (.sc pi)),.d (.slice (.sc pi))],[(.sc .bool)],1,[],[]⟩,λx=>pK x.1 x.2⟩
def YJ:Cx:=aA adx 31 RQ
theorem P2:Qq0 YJ:=ao Ro (Qq2 Ro Tryz.func31 (by kernel_rfl) amH (λx=>by kernel_rfl) rfl)
def anS:An:=.s .z (.s .z (.j ⟨[2,3,0],[],[(3,c31)],[]⟩ true (.s .z (.u (.l ⟨[0,2,3],[(4,.lf (.sc pi))],[(3,c31)],[]⟩ .z))) .z))
def Tj:Ctr:=⟨⟨[.d (.slice (.sc pi))],[bE],1,[],[⟨some 32,false,false⟩]⟩,λx=>kT x⟩
def ZY:Cx:=aA YJ 54 Tj
theorem PN:Qq0 ZY:=ao P2 (Qq2 P2 Tryz.func54 (by kernel_rfl) anS (λx=>by kernel_rfl) rfl)
def anO:An:=.z
def Vk:Ctr:=⟨⟨[.d bE,.d (.sc pi)],[(.ext 0)],1,[],[]⟩,λx=>bC x.1 x.2⟩
def abY:Cx:=aA ZY 48 Vk
theorem Qa:Qq0 abY:=ao PN (Qq2 PN Tryz.func48 (by kernel_rfl) anO (λx=>by kernel_rfl) rfl)
def aoQ:An:=.z
def Tv:Ctr:=⟨⟨[.d (.ext 0),.d (.ext 0)],[(.sc .bool)],1,[],[]⟩,λx=>eF x.1 x.2⟩
def adV:Cx:=aA abY 47 Tv
theorem PV:Qq0 adV:=ao Qa (Qq2 Qa Tryz.func47 (by kernel_rfl) aoQ (λx=>by kernel_rfl) rfl)
def aoJ:An:=.z
def TY:Ctr:=⟨⟨[.d bE,.d bE],[(.sc .bool)],1,[],[]⟩,λx=>mV x.1 x.2⟩
def ad9:Cx:=aA adV 70 TY
theorem P6:Qq0 ad9:=ao PV (Qq2 PV Tryz.func70 (by kernel_rfl) aoJ (λx=>by kernel_rfl) rfl)
def ank:An:=.s .z (.s .z (.j ⟨[4,2,3],[],[],[]⟩ false (.s .z (.u (.l ⟨[2,3,4],[(6,.lf (.sc pi))],[],[]⟩ .z))) .z))
def UX:Ctr:=⟨⟨[.d bE,.d bE],[nY,(.sc pi)],2,[],[⟨some 3,false,false⟩]⟩,λx=>jS x.1 x.2⟩
def adJ:Cx:=aA ad9 55 UX
theorem Qm:Qq0 adJ:=ao P6 (Qq2 P6 Tryz.func55 (by kernel_rfl) ank (λx=>by kernel_rfl) rfl)
def agD:An:=.z
def IW:Ctr:=⟨⟨[.d bE,.d bE,.d (.sc pi)],[(.sc .bool)],1,[],[]⟩,λx=>jY x.1 x.2.1 x.2.2⟩
def Tm:Cx:=aA adJ 126 IW
theorem K5:Qq0 Tm:=ao Qm (Qq2 Qm Tryz.func126 (by kernel_rfl) agD (λx=>by kernel_rfl) rfl)
def amb:An:=Qq1 5 (.s (.k [] [] []) (.j ⟨[6,9,4,5,8],[],[(9,c29)],[]⟩ true .z .z))
def TP:Ctr:=⟨⟨[.d nY,.d bE,.d bE],[nY,(.sc pi)],2,[],[⟨some 3,false,false⟩]⟩,λx=>gJ x.1 x.2.1 x.2.2⟩
def abN:Cx:=aA Tm 56 TP
theorem PW:Qq0 abN:=ao K5 (Qq2 K5 Tryz.func56 (by kernel_rfl) amb (λx=>by kernel_rfl) rfl)
def aoy:An:=Qq1 3 (.u (.l ⟨[2,3,7],[],[(7,c29)],[]⟩ .z))
def Ue:Ctr:=⟨⟨[.d bE,.d bE],[(.sc pi),(.sc pi),(.sc pi)],3,[],[]⟩,λx=>gL x.1 x.2⟩
def YT:Cx:=aA abN 24 Ue
theorem Qy:Qq0 YT:=ao PW (Qq2 PW Tryz.func24 (by kernel_rfl) aoy (λx=>by kernel_rfl) rfl)
def anI:An:=.z
def TJ:Ctr:=⟨⟨[.d (.sc pi)],[(.sc pi)],1,[],[]⟩,λx=>nj x⟩
def aa5:Cx:=aA YT 57 TJ
theorem Rp:Qq0 aa5:=ao Qy (Qq2 Qy Tryz.func57 (by kernel_rfl) anI (λx=>by kernel_rfl) rfl)
def af5:An:=.s .z (.s .z (.j ⟨[2,3,4],[(7,.lf (.sc pi))],[],[]⟩ false (.s .z (.u (.l ⟨[2,3,4,16,17],[(7,.lf (.sc pi)),(18,.lf (.sc pi))],[],[]⟩ .z))) (.s .z (.s .z (.j ⟨[2,4,7,3],[(10,.lf (.sc pi))],[],[]⟩ true .z (.s .z (.s .z (.j ⟨[4],[],[],[12]⟩ false (.s .z (.u (.l ⟨[78,79],[(12,.lf (.sc pi)),(80,.lf (.sc pi))],[],[]⟩ .z))) .z))))))))
def JE:Ctr:=⟨⟨[.d bj,.d kn,.d (.sc pi)],[(.sc pi)],1,[],[]⟩,λx=>jh x.1 x.2.1 x.2.2⟩
def RB:Cx:=aA aa5 113 JE
theorem Ku:Qq0 RB:=ao Rp (Qq2 Rp Tryz.func113 (by kernel_rfl) af5 (λx=>by kernel_rfl) rfl)
def ahy:An:=Qq1 3 (.j ⟨[2,3],[(5,.lf (.own aw 217 false []))],[],[]⟩ true (.s .z (.u (.l ⟨[2,3,15,16],[(5,.lf (.own aw 217 false [])),(17,.lf (.sc pi))],[],[]⟩ .z))) (.j ⟨[2,3],[(5,.lf (.own aw 217 false []))],[],[]⟩ true (.s .z (.u (.l ⟨[3,35,36],[(5,.lf (.own aw 217 false [])),(37,.lf (.sc pi))],[],[]⟩ .z))) .z))
def HZ:Ctr:=⟨⟨[.d co,.d bj],[(.slice aw)],1,[],[⟨some 217,false,false⟩]⟩,λx=>qt x.1 x.2⟩
def UP:Cx:=aA RB 209 HZ
theorem OH:Qq0 UP:=ao Ku (Qq2 Ku Tryz.func209 (by kernel_rfl) ahy (λx=>by kernel_rfl) rfl)
def afQ:An:=.z
def HU:Ctr:=⟨⟨[.d cT],[(.arr 16 (.int .u8))],1,[],[]⟩,λx=>rL x⟩
def TK:Cx:=aA UP 216 HU
theorem MF:Qq0 TK:=ao OH (Qq2 OH Tryz.func216 (by kernel_rfl) afQ (λx=>by kernel_rfl) rfl)
def afI:An:=.z
def IF:Ctr:=⟨⟨[.d (.arr 16 (.int .u8)),.d (.arr 16 (.int .u8))],[(.arr 16 (.int .u8))],1,[],[]⟩,λx=>rW x.1 x.2⟩
def R7:Cx:=aA TK 218 IF
theorem MW:Qq0 R7:=ao MF (Qq2 MF Tryz.func218 (by kernel_rfl) afI (λx=>by kernel_rfl) rfl)
def ai7:An:=.s .z (.s .z (.j ⟨[0,1],[(5,.lf (.sc pi))],[],[]⟩ true (.u (.l ⟨[0,1],[(5,.lf (.sc pi))],[],[]⟩ .z)) .z))
def Iz:Ctr:=⟨⟨[.d (.sc pi),.d (.sc pi)],[(.sc pi)],1,[],[]⟩,λx=>oL x.1 x.2⟩
def UC:Cx:=aA R7 217 Iz
theorem MA:Qq0 UC:=ao MW (Qq2 MW Tryz.func217 (by kernel_rfl) ai7 (λx=>by kernel_rfl) rfl)
def agH:An:=.z
def Jr:Ctr:=⟨⟨[.d cT],[(.sc .bool)],1,[],[]⟩,λx=>oh x⟩
def Hq:Cx:=aA UC 214 Jr
theorem CL:Qq0 Hq:=ao MA (Qq2 MA Tryz.func214 (by kernel_rfl) agH (λx=>by kernel_rfl) rfl)
def Ts(k:Nat):Inl:=⟨false,λ{R} ex _ _ vs F kk=>match ex,vs with
 | none,[.lf (.c (.int .i64) a),.lf (.c (.int .i64) b),.lf (.bp bl 0),.lf (.bp bo 0)]=>match iw bl F,iw bo F with
  |some (i1,[.sl h]),some (i2,[.clo g [b1,b2]])=>match jQ cT h F with
   |some s=>bif Nat.beq g 215&&Nat.beq b1 bl&&Nat.beq b2 bo&&(i1::i2::s.all).all (Nat.ble 1)then(iX k s.xs a b).bind λr=>kk ⟨.lf (.ar 16 (.int .u8) r),[],[]⟩else none
   |none=>none
  |_,_=>none
 |_,_=>none⟩
theorem ajT(k:Nat):(Ts k).sound Tryz.prog 215:=by
  induction k using Nat.strongRecOn with
  | _ k ih=>
    refine⟨⟨_,_,Tryz.func215,rfl,by kernel_rfl⟩,λ{R} ex n N vs F kk r hr=>?_⟩;simp only[Ts]at hr;split at hr;rotate_left
    ·cases hr
    rename_i a b bl bo;split at hr;rotate_left
    ·cases hr
    rename_i i1 h i2 g b1 b2 hb1 hb2;split at hr;rotate_left
    ·cases hr
    rename_i s hs1;cases hc:(Nat.beq g 215&&Nat.beq b1 bl&&Nat.beq b2 bo&&(i1::i2::s.all).all (Nat.ble 1))
    ·rw[hc]at hr;cases hr
    rw[hc]at hr;simp only[Ze]at hr;simp only[Y5]at hc;obtain⟨⟨⟨e1,e2⟩,e3⟩,e4⟩:=hc;obtain rfl:=f9 e1;obtain rfl:=f9 e2;obtain rfl:=f9 e3;obtain⟨x,hx,hk⟩:=bind_some hr;cases k with
    |zero=>cases hx
    |succ k=>
    have hs:=jX (bA CL (ih k (Nat.lt_succ_self k))) i4 Tryz.func215 (by kernel_rfl) (by kernel_rfl) .z [.arr 16 (.int .u8)];have hrun:(pZ (cK Hq 215 (Ts k)) Tryz.f215 .z [.arr 16 (.int .u8)]).run (R:=Out) none 64 256 [.lf (.c pi a),.lf (.c pi b),.lf (.bp 0 0),.lf (.bp 1 0)] [.box 1 0 [.sl 2],.rep cT [1] s.xs 2,.box 1 1 [.clo 215 [0,1]]] some=(iX (k+1) s.xs a b).bind λr=>some ⟨.lf (.ar 16 (.int .u8) r),[],[]⟩:=by kernel_rfl
    rw[hx]at hrun;obtain⟨u,hu,hI⟩:=hs.2 none 64 256 _ _ some _ hrun;simp only[no]at hu;subst hu;refine⟨_,hk,λ_ η w c hH=>?_⟩;let Ka:=i1::i2::s.all
    have hmu:∀k∈Ka,mu [] Ka k=1:=λk hk=>by have h1:Nat.ble 1 k=true:=Zy.1 e4 k hk;simp only[mu,h1,mem_iff.2 hk,ahn,Ze]
    let η':Vn:=⟨λ_=>η.h h,λm=>bif Nat.beq m 0 then η.b b1 else η.b b2⟩
    have hF:aj w c (F.map (AF.ha η)):=λA hA=>hH A (ZW _ hA);have g1:HA.holds w c (.box i1 (η.b b1) (au η [.sl h])):=hF _ (ZA.2 ⟨_,d6 hb1,rfl⟩);have g2:HA.holds w c (.box i2 (η.b b2) (au η [.clo 215 [b1,b2]])):=hF _ (ZA.2 ⟨_,d6 hb2,rfl⟩);have g3:=gE (l:=.sl h) (t:=cT) hs1 hF;have hcall:=hI trivial η' w (λy=>mu [] Ka (c y)) (by
      refine aj.append (aj.cons ⟨g1.1,?_⟩ (aj.cons ?_ (aj.cons ⟨g2.1,?_⟩ (aj.nil _ _)))) (DA rfl λA hA=>hH A (Z7 _ hA))
      · show mu [] Ka (c (η.b b1))=1
        rw[show c (η.b b1)=i1 from g1.2];exact hmu _ (by simp[Ka])
      ·exact bD.keep (S:=λy=>c y∈s.all) (λy _ hy=>⟨by show mu [] Ka (c y)∈[1];rw[hmu _ (by simp[Ka,hy])];exact ZK.2 rfl,rfl⟩) (.slice cT.ty) s.xs (η.h h) g3
      · show mu [] Ka (c (η.b b2))=1
        rw[show c (η.b b2)=i2 from g2.2];exact hmu _ (by simp[Ka]))
    refine hcall.mono ?_;rintro e w' ⟨y,c',rfl,hst,_⟩;refine⟨⟨η,η.agr_refl n⟩,λy=>if y<w.heap.size then c y else c' y,rfl,⟨hst.size,λy hy _=>if_pos hy,λy hy _=>hst.same y hy (by simp),λy hy hy' => ?_,hst.env⟩,aj.nil _ _⟩;by_cases hl:y<w.heap.size
    ·exact absurd (hy' hl).1 (by simp)
    · simp only[if_neg hl]
      exact hst.two y hy λh=>absurd h hl
noncomputable def anU:Cx:=cK Hq 215 (Ts 64)
theorem alA:Qq0 anU:=bA CL (ajT 64)
def IJ:Ctr:=⟨⟨[.d (.slice cT)],[(.arr 16 (.int .u8))],1,[],[]⟩,λx=>oQ x⟩
theorem ab6:IJ.sound Tryz.prog 139:=am alA i4 Tryz.func139 (by kernel_rfl) (an:=.z) (λx=>(by kernel_rfl:IJ.fn x=aG anU Tryz.f139 .z IJ.toSig x)) rfl
def Se:Cx:=aA Hq 139 IJ
theorem LA:Qq0 Se:=ao CL ab6
def af1:An:=.z
def Jv:Ctr:=⟨⟨[.d (.sc pi),.d (.arr 16 (.int .u8))],[(.arr 16 (.int .u8))],1,[],[]⟩,λx=>oy x.1 x.2⟩
def Vc:Cx:=aA Se 138 Jv
theorem L9:Qq0 Vc:=ao LA (Qq2 LA Tryz.func138 (by kernel_rfl) af1 (λx=>by kernel_rfl) rfl)
def agY:An:=.s .z (.j ⟨[0,1],[],[],[]⟩ false (.s .z (.u (.l ⟨[0,1,7],[(8,.lf (.sc pi))],[],[]⟩ .z))) .z)
def Ih:Ctr:=⟨⟨[.d (.slice cT),.fn 214],[(.sc pi)],1,[],[]⟩,λx=>eu x.1⟩
def SZ:Cx:=aA Vc 287 Ih
theorem Na:Qq0 SZ:=ao L9 (Qq2 L9 Tryz.func287 (by kernel_rfl) agY (λx=>by kernel_rfl) rfl)
def ag6:An:=.z
def H9:Ctr:=⟨⟨[.d (.slice cT),.fn 214],[(.sc .bool)],1,[],[]⟩,λx=>cN x.1⟩
def TU:Cx:=aA SZ 213 H9
theorem Kq:Qq0 TU:=ao Na (Qq2 Na Tryz.func213 (by kernel_rfl) ag6 (λx=>by kernel_rfl) rfl)
def afj:An:=.s .z (.s .z (.j ⟨[0],[],[],[]⟩ false (.s .z (.u (.l ⟨[0,12],[(13,.lf (.sc pi))],[],[]⟩ .z))) .z))
def IC:Ctr:=⟨⟨[.d (.slice cT)],[(.sc pi)],1,[],[]⟩,λx=>pX x⟩
def RK:Cx:=aA TU 137 IC
theorem Ls:Qq0 RK:=ao Kq (Qq2 Kq Tryz.func137 (by kernel_rfl) afj (λx=>by kernel_rfl) rfl)
def anl:An:=.z
def SO:Ctr:=⟨⟨[.d (.slice cT)],[(.arr 16 (.int .u8)),(.sc pi)],2,[],[]⟩,λx=>wM x⟩
def amk:Cx:=aA RK 73 SO
theorem ak6:Qq0 amk:=ao Ls (Qq2 Ls Tryz.func73 (by kernel_rfl) anl (λx=>by kernel_rfl) rfl)
def afv:Ctr:=⟨⟨[.d (.sc pi)],[.sc .str],1,[],[]⟩,λx=>Ed x⟩
theorem acL:afv.sound Tryz.prog 210:=aj6
def Ux:Cx:=aA amk 210 afv
theorem KC:Qq0 Ux:=ao ak6 acL
def aiU:An:=Qq1 4 (.j ⟨[2,0],[(4,.lf (.own cT 163 false []))],[],[]⟩ true (.s .z (.u (.l ⟨[2,16,17],[(4,.lf (.own cT 163 false [])),(18,.lf (.sc pi))],[],[]⟩ .z))) .z)
def JU:Ctr:=⟨⟨[.d (.slice bj)],[(.arr 16 (.int .u8)),(.sc pi)],2,[],[]⟩,λx=>vG x⟩
def UH:Cx:=aA Ux 133 JU
theorem Ot:Qq0 UH:=ao KC (Qq2 KC Tryz.func133 (by kernel_rfl) aiU (λx=>by kernel_rfl) rfl)
def afs:An:=.s .z (.s .z (.j ⟨[0],[(3,.lf (.sc pi))],[],[]⟩ true (.u (.l ⟨[0],[(3,.lf (.sc pi))],[],[]⟩ .z)) .z))
def IZ:Ctr:=⟨⟨[.d (.slice (.sc pi))],[(.slice (.sc pi))],1,[],[⟨some 3,false,false⟩]⟩,λx=>vV x⟩
def Tl:Cx:=aA UH 208 IZ
theorem My:Qq0 Tl:=ao Ot (Qq2 Ot Tryz.func208 (by kernel_rfl) afs (λx=>by kernel_rfl) rfl)
def aiE:An:=.z
def H3:Ctr:=⟨⟨[.d (.slice (.sc pi)),.d (.sc pi)],[(.sc pi)],1,[],[]⟩,λx=>oJ x.1 x.2⟩
def BV:Cx:=aA Tl 206 H3
theorem uS:Qq0 BV:=ao My (Qq2 My Tryz.func206 (by kernel_rfl) aiE (λx=>by kernel_rfl) rfl)
end
end Go.Proofs.YtgghcmbaidihjaaGreatDoor
