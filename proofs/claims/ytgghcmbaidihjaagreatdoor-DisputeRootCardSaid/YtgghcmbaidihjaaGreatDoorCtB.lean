/- Laws for the row. No condition. -/
import Derived.Test.YtgghcmbaidihjaaGreatDoorExtT
namespace Go.Proofs.YtgghcmbaidihjaaGreatDoor
open Go.Sm
set_option maxRecDepth 100000
set_option linter.unusedSectionVars false
section
variable [Itr]  [Yc:GCx] [SortLaw]
def amW:An:=.z
def Kj:Ctr:=⟨⟨[.d aC,.d aC],[(.sc pi)],1,[],[]⟩,λx=>qd x.1 x.2⟩
def Xm:Cx:=aB YJ 285 Kj
theorem Na:Qq0 Xm:=aj OY (Qq2 OY Tryz.func285 (by kernel_rfl) amW (λx=>by kernel_rfl) rfl)
def apb:An:=.s .z (.u (.l ⟨[0,1,2,3],[(8,.lf (.sc pi))],[(0,[.ownk aC 217 0])],[]⟩ (.s .z (.j ⟨[0,1,2,3,8],[],[(0,[.ownk aC 217 0])],[]⟩ true (.u (.s .z (.u (.l ⟨[0,1,2,3,8],[(9,.lf (.sc pi))],[(0,[.ownk aC 217 0])],[]⟩ .z)))) .z))))
def Kw:Ctr:=⟨⟨[.prt aC 217,.d (.sc pi),.d (.sc pi),.fn 285],[(.slice aC)],0,[13952],[⟨some 4194304,false,false⟩]⟩,λx=>dV x.1 x.2.1 x.2.2.1⟩
def Xx:Cx:=aB Xm 350 Kw
theorem OZ:Qq0 Xx:=aj Na (Qq2 Na Tryz.func350 (by kernel_rfl) apb (λx=>by kernel_rfl) rfl)
def apr:An:=.s .z (.s .z (.j ⟨[0,1,2,6],[(7,.lf (.sc pi))],[(0,[.ownk aC 217 0])],[8]⟩ true (.u (.l ⟨[0,1,2,6],[(7,.lf (.sc pi)),(8,.lf (.sc pi))],[(0,[.ownk aC 217 0])],[]⟩ .z)) (.s .z (.u (.l ⟨[0,1,2],[(6,.lf (.sc pi))],[],[]⟩ (.s .z (.u (.s .z (.j ⟨[0,1,2,6],[(7,.lf (.sc pi))],[],[8]⟩ true (.u (.l ⟨[0,1,2,6],[(7,.lf (.sc pi)),(8,.lf (.sc pi))],[],[]⟩ .z)) (.j ⟨[0,1,2,6,7],[],[],[]⟩ true .z .z))))))))))
def Mu:Ctr:=⟨⟨[.prt aC 217,.d (.sc pi),.fn 285],[(.slice aC)],0,[13952],[⟨some 4194304,false,false⟩]⟩,λx=>fJ x.1 x.2.1⟩
def Wc:Cx:=aB Xx 323 Mu
theorem Rl:Qq0 Wc:=aj OZ (Qq2 OZ Tryz.func323 (by kernel_rfl) apr (λx=>by kernel_rfl) rfl)
def ams:An:=.z
def Mx:Ctr:=⟨⟨[.prt aC 217,.fn 285],[(.slice aC)],0,[13952],[⟨some 4194304,false,false⟩]⟩,λx=>dA x.1⟩
def aax:Cx:=aB Wc 284 Mx
theorem PT:Qq0 aax:=aj Rl (Qq2 Rl Tryz.func284 (by kernel_rfl) ams (λx=>by kernel_rfl) rfl)
def ant:An:=.z
def Mc:Ctr:=⟨⟨[.d (.sc (.int .u64)),.d (.sc (.int .u64))],[(.sc (.int .u64)),(.sc (.int .u64))],2,[],[]⟩,λx=>xN x.1 x.2⟩
def Z5:Cx:=aB aax 362 Mc
theorem SM:Qq0 Z5:=aj PT (Qq2 PT Tryz.func362 (by kernel_rfl) ant (λx=>by kernel_rfl) rfl)
def amO:An:=.z
def MH:Ctr:=⟨⟨[.d (.sc (.int .u64)),.d (.sc (.int .u64))],[(.sc (.int .u64)),(.sc (.int .u64))],2,[],[]⟩,λx=>Bk x.1 x.2⟩
def Wl:Cx:=aB Z5 340 MH
theorem PP:Qq0 Wl:=aj SM (Qq2 SM Tryz.func340 (by kernel_rfl) amO (λx=>by kernel_rfl) rfl)
def anp:An:=.s .z (.j ⟨[0,1],[],[],[]⟩ true .z (.s .z (.j ⟨[0,6,5],[],[],[]⟩ true .z (.s .z (.s .z (.j ⟨[],[(7,.lf (.own (.sc pi) 3 false []))],[],[8]⟩ true (.u (.l ⟨[],[(7,.lf (.own (.sc pi) 3 false [])),(8,.lf (.sc pi))],[],[]⟩ .z)) .z))))))
def LC:Ctr:=⟨⟨[.d (.slice (.sc pi)),.d (.sc pi)],[(.slice (.sc pi))],1,[],[⟨some 3,false,false⟩]⟩,λx=>rx x.1 x.2⟩
def WK:Cx:=aB Wl 320 LC
theorem Sf:Qq0 WK:=aj PP (Qq2 PP Tryz.func320 (by kernel_rfl) anp (λx=>by kernel_rfl) rfl)
def aoE:An:=.z
def KH:Ctr:=⟨⟨[.d (.sc pi)],[(.slice (.sc pi))],1,[],[⟨some 3,false,false⟩]⟩,λx=>ia x⟩
def aar:Cx:=aB WK 262 KH
theorem QY:Qq0 aar:=aj Sf (Qq2 Sf Tryz.func262 (by kernel_rfl) aoE (λx=>by kernel_rfl) rfl)
def aoF:An:=.z
def KP:Ctr:=⟨⟨[.d (.slice aU)],[(.slice aU)],1,[],[⟨some 152,true,false⟩]⟩,λx=>eD x⟩
theorem af2:KP.sound Tryz.prog 253:=va QY au Tryz.func253 (by kernel_rfl) rfl (an:=aoF) (λx=>(by kernel_rfl:KP.fn x=w5 [.isn 0 false] aar Tryz.f253 aoF KP.toSig x)) (by kernel_rfl) rfl
def XA:Cx:=aB aar 253 KP
theorem SP:Qq0 XA:=aj QY af2
def aon:An:=.z
def MF:Ctr:=⟨⟨[.d (.slice (.sc pi))],[(.slice (.sc pi))],1,[],[⟨some 3,false,false⟩]⟩,λx=>cD x⟩
theorem aiG:MF.sound Tryz.prog 127:=va SP au Tryz.func127 (by kernel_rfl) rfl (an:=aon) (λx=>(by kernel_rfl:MF.fn x=w5 [.isn 0 false] XA Tryz.f127 aon MF.toSig x)) (by kernel_rfl) rfl
def abh:Cx:=aB XA 127 MF
theorem Sr:Qq0 abh:=aj SP aiG
def anO:An:=.z
def LI:Ctr:=⟨⟨[.d (.slice ce)],[(.slice ce)],1,[],[⟨some 148,true,false⟩]⟩,λx=>du x⟩
theorem ahR:LI.sound Tryz.prog 254:=va Sr au Tryz.func254 (by kernel_rfl) rfl (an:=anO) (λx=>(by kernel_rfl:LI.fn x=w5 [.isn 0 false] abh Tryz.f254 anO LI.toSig x)) (by kernel_rfl) rfl
def WW:Cx:=aB abh 254 LI
theorem Sc:Qq0 WW:=aj Sr ahR
def al4:An:=.z
def J8:Ctr:=⟨⟨[.d (.slice (.slice (.sc pi)))],[(.slice (.slice (.sc pi)))],1,[],[⟨some 23,true,false⟩]⟩,λx=>jY x⟩
theorem agV:J8.sound Tryz.prog 255:=va Sc au Tryz.func255 (by kernel_rfl) rfl (an:=al4) (λx=>(by kernel_rfl:J8.fn x=w5 [.isn 0 false] WW Tryz.f255 al4 J8.toSig x)) (by kernel_rfl) rfl
def ZF:Cx:=aB WW 255 J8
theorem QZ:Qq0 ZF:=aj Sc agV
def am9:An:=.s .z (.s (.gg [] [.p0 1 (some 0) 1870727804774333205280220053793449448177874923159704]) (.j ⟨[1,2],[],[(1,c18)],[]⟩ true (.s .z (.u (.l ⟨[1,2,15],[(14,.lf (.al 2)),(16,.lf (.sc pi))],[(1,c18)],[]⟩ (.s .z (.s .z (.j ⟨[1,2,15,16],[(14,.lf (.al 1))],[(1,[.pt aU 1870727804774333205280220053793449448177874923159704 true [1000001],.rep (.sc pi) true [1000001],.rep (.slice (.sc pi)) true [1000001],.rep (.sc pi) true [1000001],.rep (.sc pi) true [1000001],.sc pi,.sc pi,.sc pi,.sc pi,.sc pi,.sc pi,.sc pi,.sc pi,.sc .str])],[]⟩ true (.u (.s .z (.s .z (.s (.gg [] [.p0 4 (some 0) 1547425049178947864405999764]) (.j ⟨[1,2,3,4,14,15,16],[],[(4,c25)],[]⟩ true (.s .z (.u (.l ⟨[1,2,3,4,14,15,16,31],[(30,.lf (.al 2)),(32,.lf (.sc pi))],[(4,c25)],[]⟩ .z))) (.g [.pf 4 (some 0)])))))) .z)))))) (.s (.g [.pf 1 (some 0)]) (.s (.gg [] [.p0 1 (some 2) 360315457980334103]) (.j ⟨[1,2],[],[(1,c17)],[53,56,59,65]⟩ true (.s .z (.u (.l ⟨[1,2,70],[(69,.lf (.al 4)),(71,.lf (.sc pi))],[(1,c17)],[53,56,59,65]⟩ .z))) (.s (.g [.pf 1 (some 2)]) .z))))))
def LJ:Ctr:=⟨⟨[.d aX],[aX],1,[],[⟨some 1870727804774333205280220053793449448177874923159704,false,false⟩,⟨some 3,false,false⟩,⟨some 360315457980334103,false,false⟩,⟨some 3,false,false⟩,⟨some 3,false,false⟩]⟩,λx=>iE x⟩
def WU:Cx:=aB ZF 174 LJ
theorem Oh:Qq0 WU:=aj QZ (Qq2 QZ Tryz.func174 (by kernel_rfl) am9 (λx=>by kernel_rfl) rfl)
def amq:An:=.z
def Lw:Ctr:=⟨⟨[],[(.mp (.sc pi) (.sc .fnc))],1,[],[⟨some 0,false,false⟩]⟩,λ_=>oQ⟩
def WE:Cx:=aB WU 261 Lw
theorem Qr:Qq0 WE:=aj Oh (Qq2 Oh Tryz.func261 (by kernel_rfl) amq (λx=>by kernel_rfl) rfl)
def aob:An:=.z
def MZ:Ctr:=⟨⟨[.d (.sc pi)],[(.sc .bool)],1,[],[]⟩,λx=>rN x⟩
def WH:Cx:=aB WE 256 MZ
theorem N7:Qq0 WH:=aj Qr (Qq2 Qr Tryz.func256 (by kernel_rfl) aob (λx=>by kernel_rfl) rfl)
def apk:An:=.z
def LK:Ctr:=⟨⟨[.d (.sc pi)],[(.sc .bool)],1,[],[]⟩,λx=>qR x⟩
def Ye:Cx:=aB WH 360 LK
theorem NY:Qq0 Ye:=aj N7 (Qq2 N7 Tryz.func360 (by kernel_rfl) apk (λx=>by kernel_rfl) rfl)
def apc:An:=.z
def K9:Ctr:=⟨⟨[.d (.sc pi),.d (.sc pi)],[(.sc .bool)],1,[],[]⟩,λx=>sS x.1 x.2⟩
def WN:Cx:=aB Ye 338 K9
theorem Ou:Qq0 WN:=aj NY (Qq2 NY Tryz.func338 (by kernel_rfl) apc (λx=>by kernel_rfl) rfl)
def alD:An:=.z
def Kv:Ctr:=⟨⟨[.d (.sc pi)],[(.sc .bool)],1,[],[]⟩,λx=>nS x⟩
def Ya:Cx:=aB WN 339 Kv
theorem O0:Qq0 Ya:=aj Ou (Qq2 Ou Tryz.func339 (by kernel_rfl) alD (λx=>by kernel_rfl) rfl)
def aos:An:=Qq1 3 (.j ⟨[0,1,6],[(7,.lf (.sc pi))],[],[8]⟩ true (.u (.l ⟨[0,1,6],[(7,.lf (.sc pi)),(8,.lf (.sc pi))],[],[]⟩ .z)) .z)
def LY:Ctr:=⟨⟨[.d (.slice (.sc pi)),.d (.sc pi)],[(.sc pi),(.sc .bool)],2,[],[]⟩,λx=>gi x.1 x.2⟩
def WX:Cx:=aB Ya 313 LY
theorem O9:Qq0 WX:=aj O0 (Qq2 O0 Tryz.func313 (by kernel_rfl) aos (λx=>by kernel_rfl) rfl)
def anX:An:=.s .z (.s .z (.j ⟨[6],[(5,.lf (.sc pi))],[],[]⟩ true .z .z))
def MG:Ctr:=⟨⟨[.d bT,.d (.sc pi)],[(.sc pi)],1,[],[]⟩,λx=>dU x.1 x.2⟩
def aa7:Cx:=aB WX 257 MG
theorem RX:Qq0 aa7:=aj O9 (Qq2 O9 Tryz.func257 (by kernel_rfl) anX (λx=>by kernel_rfl) rfl)
def amA:An:=.z
def KT:Ctr:=⟨⟨[.d (.sc pi),.d (.sc pi)],[(.sc pi)],1,[],[]⟩,λx=>sE x.1 x.2⟩
theorem NQ:KT.sound Tryz.prog 314:=Qq2 RX Tryz.func314 (by kernel_rfl) amA (λx=>by kernel_rfl) rfl
def WD:Cx:=aB aa7 314 KT
theorem Nw:Qq0 WD:=aj RX NQ
def aoc:An:=.z
def LL:Ctr:=⟨⟨[.d (.sc pi),.d (.sc pi)],[(.sc pi)],1,[],[]⟩,λx=>sv x.1 x.2⟩
theorem NN:LL.sound Tryz.prog 315:=Qq2 Nw Tryz.func315 (by kernel_rfl) aoc (λx=>by kernel_rfl) rfl
def Yg:Cx:=aB WD 315 LL
theorem QB:Qq0 Yg:=aj Nw NN
def amN:An:=.z
def Lu:Ctr:=⟨⟨[.d (.sc pi),.d (.sc pi)],[(.sc pi)],1,[],[]⟩,λx=>sG x.1 x.2⟩
theorem Ra:Lu.sound Tryz.prog 316:=Qq2 QB Tryz.func316 (by kernel_rfl) amN (λx=>by kernel_rfl) rfl
def aaL:Cx:=aB Yg 316 Lu
theorem RK:Qq0 aaL:=aj QB Ra
def av6:An:=.z
def YI:Ctr:=⟨⟨[.d (.sc .bool)],[(.sc pi)],1,[],[]⟩,λx=>eY x⟩
def akC:Cx:=aB aaL 92 YI
theorem TG:Qq0 akC:=aj RK (Qq2 RK Tryz.func92 (by kernel_rfl) av6 (λx=>by kernel_rfl) rfl)
def alZ:An:=.z
def Ms:Ctr:=⟨⟨[.d (.sc pi),.d (.sc pi)],[(.sc pi)],1,[],[]⟩,λx=>j6 x.1 x.2⟩
theorem RA:Ms.sound Tryz.prog 317:=Qq2 TG Tryz.func317 (by kernel_rfl) alZ (λx=>by kernel_rfl) rfl
def Zk:Cx:=aB akC 317 Ms
theorem RU:Qq0 Zk:=aj TG RA
def alb:An:=.z
def LS:Ctr:=⟨⟨[.d (.sc pi),.d (.sc pi)],[(.sc pi)],1,[],[]⟩,λx=>jZ x.1 x.2⟩
theorem QD:LS.sound Tryz.prog 318:=Qq2 RU Tryz.func318 (by kernel_rfl) alb (λx=>by kernel_rfl) rfl
def Yl:Cx:=aB Zk 318 LS
theorem R6:Qq0 Yl:=aj RU QD
def alK:An:=.z
def JS:Ctr:=⟨⟨[.d (.sc pi),.d (.sc pi)],[(.sc pi)],1,[],[]⟩,λx=>j9 x.1 x.2⟩
theorem PR:JS.sound Tryz.prog 319:=Qq2 R6 Tryz.func319 (by kernel_rfl) alK (λx=>by kernel_rfl) rfl
def aak:Cx:=aB Yl 319 JS
theorem Oq:Qq0 aak:=aj R6 PR
def ajO:DCtr:=⟨⟨[.d (.sc pi),.d (.sc pi)],[(.sc pi)],1,[],[]⟩,λf x=>aa8 f x.1 x.2⟩
theorem arH:DCtr.sound Tryz.prog ajO:=by
 intro f x r h;simp only[ajO,aa8]at h;cases a:Nat.beq f 314;rotate_left
 ·rw[a]at h;rw[f9 a];exact NQ x r h
 rw[a]at h;simp only[ab7]at h;cases a:Nat.beq f 315;rotate_left
 ·rw[a]at h;rw[f9 a];exact NN x r h
 rw[a]at h;simp only[ab7]at h;cases a:Nat.beq f 316;rotate_left
 ·rw[a]at h;rw[f9 a];exact Ra x r h
 rw[a]at h;simp only[ab7]at h;cases a:Nat.beq f 317;rotate_left
 ·rw[a]at h;rw[f9 a];exact RA x r h
 rw[a]at h;simp only[ab7]at h;cases a:Nat.beq f 318;rotate_left
 ·rw[a]at h;rw[f9 a];exact QD x r h
 rw[a]at h;simp only[ab7]at h;cases a:Nat.beq f 319;rotate_left
 ·rw[a]at h;rw[f9 a];exact PR x r h
 rw[a]at h;cases h
def Q3:Cx:=afq aak ajO false
theorem I8:Qq0 Q3:=UZ Oq arH
def qA:An:=.z
noncomputable def Cd:Cx:=cM Q3 258 (mj Q3 Tryz.f258 qA)
theorem BA:Qq0 Cd:=bz I8 (fG I8 au Tryz.func258 (by kernel_rfl) (by kernel_rfl) _)
def uG:An:=.z
noncomputable def Df:Cx:=cM Cd 178 (qv Cd Tryz.f178 uG [bd])
theorem B8:Qq0 Df:=bz BA (jD BA au Tryz.func178 (by kernel_rfl) (by kernel_rfl) _ _)
def adA:An:=.z
noncomputable def CV:Cx:=cM Df 175 (qv Df Tryz.f175 adA [(.sc .bool)])
theorem Cz:Qq0 CV:=bz B8 (jD B8 au Tryz.func175 (by kernel_rfl) (by kernel_rfl) _ _)
def Pf:An:=.z
noncomputable def BM:Cx:=cM CV 176 (qT CV Tryz.f176 Pf)
theorem C6:Qq0 BM:=bz Cz (jF Cz au Tryz.func176 (by kernel_rfl) (by kernel_rfl) _)
def adj:An:=.z
noncomputable def CR:Cx:=cM BM 259 (qT BM Tryz.f259 adj)
theorem BE:Qq0 CR:=bz C6 (jF C6 au Tryz.func259 (by kernel_rfl) (by kernel_rfl) _)
def OK:An:=.z
noncomputable def CZ:Cx:=cM CR 260 (qT CR Tryz.f260 OK)
theorem C3:Qq0 CZ:=bz BE (jF BE au Tryz.func260 (by kernel_rfl) (by kernel_rfl) _)
def QR:An:=.z
noncomputable def Cb:Cx:=cM CZ 104 (mj CZ Tryz.f104 QR)
theorem BC:Qq0 Cb:=bz C3 (fG C3 au Tryz.func104 (by kernel_rfl) (by kernel_rfl) _)
def awY:An:=.s .z (.s (.g [.up 1 [1547425049178947864405999764,3]]) (.s .z (.s .z (.s (.s .z (.u (Qq1 7 (.s (.s .z (.s .z (.s (.g [.up 7 [3]]) .z))) (.s .z (.s .z (.s .z (.s .z (.s .z (.s (.s (.s .z (.s (.s .z (.g [.pa,.pa])) .z)) (.s .z (.s .z (.s .z (.g [.pa,.pa]))))) (.s .z (.s (.s .z (.s .z (.g [.pa,.pa]))) (.s .z (.s (.s .z (.s .z (.s (.k [0] [] []) .z))) (.s .z (.s .z (.s .z (.s (.s .z (.s (.s .z (.g [.pa,.pa])) .z)) .z)))))))))))))))))) (.s .z (.s .z (.g [.pa,.pa])))))))
noncomputable def CT:Cx:=cM Cb 177 (qT Cb Tryz.f177 awY)
theorem B5:Qq0 CT:=bz BC (jF BC au Tryz.func177 (by kernel_rfl) (by kernel_rfl) _)
def BX:An:=.z
noncomputable def Jt:Cx:=cM CT 179 (qT CT Tryz.f179 BX)
theorem NO:Qq0 Jt:=bz B5 (jF B5 au Tryz.func179 (by kernel_rfl) (by kernel_rfl) _)
def an4:An:=.u (Qq1 3 (.j ⟨[0,4],[],[(0,c16)],[5]⟩ false (.u (.l ⟨[0,4],[(5,.lf (.sc pi))],[(0,c16)],[]⟩ (.s .z (.u (.s (.u (.s .z (.s .z (.s .z (.s .z (.j ⟨[0,4,5],[(30,.lf (.sc .bool))],[(0,c14)],[]⟩ true .z .z)))))) .z))))) (.s .z (.s .z (.s .z (.u (.s .z (.s .z (.s .z (.s (.j ⟨[0,6],[],[(0,[.rep bd true [1000000],.rep (.sc pi) true [1000000],.rep (.sc pi) true [1000000],.rep aC true [1000000],.rep aC true [1000000],.rep (.sc .str) true [1000000],.rep (.sc .str) true [1000000],.rep (.sc .str) true [1000000],.sc pi,.sc pi,.sc pi,.own aU 1870727804774333205280220053793449448177874923159704 false [],.own (.sc pi) 3 false [],.rep (.slice (.sc pi)) true [1000000],.own (.sc pi) 3 false [],.own (.sc pi) 3 false [],.sc pi,.sc pi,.sc pi,.sc pi,.sc pi,.sc pi,.sc pi,.sc pi,.sc .str,.mp ah (.sc .bool)])],[]⟩ true .z .z) .z))))))))))
def Mv:Ctr:=⟨⟨[.box true cR [none,none,none,none,none,none,none,none,some 1870727804774333205280220053793449448177874923159704,some 3,none,some 3,some 3,some 0],.d (.sc pi)],[cR],0,[0],[⟨none,true,true⟩,⟨none,true,true⟩,⟨none,true,true⟩,⟨none,true,true⟩,⟨none,true,true⟩,⟨none,true,true⟩,⟨none,true,true⟩,⟨none,true,true⟩,⟨some 1870727804774333205280220053793449448177874923159704,false,false⟩,⟨some 3,false,false⟩,⟨none,true,true⟩,⟨some 3,false,false⟩,⟨some 3,false,false⟩,⟨some 0,false,false⟩]⟩,λx=>iU x.1 x.2⟩
def LB:Cx:=aB aak 105 Mv
theorem EB:Qq0 LB:=aj Oq (Qq2 NO Tryz.func105 (by kernel_rfl) an4 (λx=>by kernel_rfl) rfl)
noncomputable def Cf:Cx:=cM LB 258 (mj LB Tryz.f258 qA)
theorem CO:Qq0 Cf:=bz EB (fG EB au Tryz.func258 (by kernel_rfl) (by kernel_rfl) _)
noncomputable def Jo:Cx:=cM Cf 178 (qv Cf Tryz.f178 uG [bd])
theorem Se:Qq0 Jo:=bz CO (jD CO au Tryz.func178 (by kernel_rfl) (by kernel_rfl) _ _)
def alo:An:=.s .z (.s .z (.j ⟨[0,1],[(5,.lf (.own (.sc pi) 3 false []))],[],[]⟩ true (.s .z (.u (.l ⟨[0,1,13],[(5,.lf (.own (.sc pi) 3 false [])),(14,.lf (.sc pi))],[],[]⟩ (.s .z (.s .z (.j ⟨[0,1,13,14],[(5,.lf (.own (.sc pi) 3 false []))],[],[]⟩ true .z .z)))))) .z))
def KC:Ctr:=⟨⟨[.box false cR [],.d (.sc pi)],[(.slice (.sc pi))],1,[],[⟨some 3,false,false⟩]⟩,λx=>dI x.1 x.2⟩
def Mp:Cx:=aB LB 182 KC
theorem E9:Qq0 Mp:=aj EB (Qq2 Se Tryz.func182 (by kernel_rfl) alo (λx=>by kernel_rfl) rfl)
noncomputable def Cm:Cx:=cM Mp 258 (mj Mp Tryz.f258 qA)
theorem BO:Qq0 Cm:=bz E9 (fG E9 au Tryz.func258 (by kernel_rfl) (by kernel_rfl) _)
noncomputable def Jh:Cx:=cM Cm 178 (qv Cm Tryz.f178 uG [bd])
theorem So:Qq0 Jh:=bz BO (jD BO au Tryz.func178 (by kernel_rfl) (by kernel_rfl) _ _)
def amG:An:=.s .z (.s .z (.j ⟨[0],[(3,.lf (.own (.sc pi) 3 false []))],[],[]⟩ true (.s .z (.u (.l ⟨[0,14],[(3,.lf (.own (.sc pi) 3 false [])),(15,.lf (.sc pi))],[],[]⟩ (.s .z (.s .z (.j ⟨[0,14,15],[(3,.lf (.own (.sc pi) 3 false []))],[],[]⟩ true (.u (Qq1 4 (.j ⟨[0,3,4,14,15,5,6],[(7,.lf (.sc .bool))],[],[]⟩ true .z .z))) .z)))))) .z))
def MV:Ctr:=⟨⟨[.box false cR []],[(.slice (.sc pi))],1,[],[⟨some 3,false,false⟩]⟩,λx=>fm x⟩
def J9:Cx:=aB Mp 109 MV
theorem EZ:Qq0 J9:=aj E9 (Qq2 So Tryz.func109 (by kernel_rfl) amG (λx=>by kernel_rfl) rfl)
noncomputable def C2:Cx:=cM J9 258 (mj J9 Tryz.f258 qA)
theorem BB:Qq0 C2:=bz EZ (fG EZ au Tryz.func258 (by kernel_rfl) (by kernel_rfl) _)
noncomputable def BP:Cx:=cM C2 176 (qT C2 Tryz.f176 Pf)
theorem Dc:Qq0 BP:=bz BB (jF BB au Tryz.func176 (by kernel_rfl) (by kernel_rfl) _)
noncomputable def IE:Cx:=cM BP 178 (qv BP Tryz.f178 uG [bd])
theorem PL:Qq0 IE:=bz Dc (jD Dc au Tryz.func178 (by kernel_rfl) (by kernel_rfl) _ _)
def aoI:An:=.s .z (.s .z (.j ⟨[0],[(2,.lf (.sc pi))],[],[]⟩ true (.s .z (.u (.l ⟨[0,37],[(2,.lf (.sc pi)),(38,.lf (.sc pi))],[],[]⟩ (.s .z (.s .z (.j ⟨[0,37,38],[(2,.lf (.sc pi))],[],[]⟩ true .z .z)))))) .z))
def M3:Ctr:=⟨⟨[.box true cR [none,none,none,none,none,none,none,none,some 1870727804774333205280220053793449448177874923159704,some 3,none,some 3,some 3,some 0]],[cR],0,[0],[⟨none,true,false⟩,⟨none,true,false⟩,⟨none,true,false⟩,⟨none,true,false⟩,⟨none,true,false⟩,⟨none,true,false⟩,⟨none,true,false⟩,⟨none,true,false⟩,⟨some 1870727804774333205280220053793449448177874923159704,false,false⟩,⟨some 3,false,false⟩,⟨none,true,false⟩,⟨some 3,false,false⟩,⟨some 3,false,false⟩,⟨some 0,false,false⟩]⟩,λx=>ju x⟩
def aae:Cx:=aB J9 106 M3
theorem OO:Qq0 aae:=aj EZ (Qq2 PL Tryz.func106 (by kernel_rfl) aoI (λx=>by kernel_rfl) rfl)
def aor:An:=.s .z (.s .z (.j ⟨[0],[(3,.lf (.sc pi))],[],[]⟩ true (.s .z (.u (.l ⟨[10,11],[(3,.lf (.sc pi)),(12,.lf (.sc pi))],[],[]⟩ .z))) .z))
def Kr:Ctr:=⟨⟨[.box false cR []],[(.sc pi)],1,[],[]⟩,λx=>kA x⟩
def Mj:Cx:=aB aae 181 Kr
theorem ED:Qq0 Mj:=aj OO (Qq2 OO Tryz.func181 (by kernel_rfl) aor (λx=>by kernel_rfl) rfl)
noncomputable def CX:Cx:=cM Mj 179 (qT Mj Tryz.f179 BX)
theorem CD:Qq0 CX:=bz ED (jF ED au Tryz.func179 (by kernel_rfl) (by kernel_rfl) _)
noncomputable def CU:Cx:=cM CX 258 (mj CX Tryz.f258 qA)
theorem Bw:Qq0 CU:=bz CD (fG CD au Tryz.func258 (by kernel_rfl) (by kernel_rfl) _)
noncomputable def IQ:Cx:=cM CU 104 (mj CU Tryz.f104 QR)
theorem Qo:Qq0 IQ:=bz Bw (fG Bw au Tryz.func104 (by kernel_rfl) (by kernel_rfl) _)
def alG:An:=Qq1 3 (.s (.gg [.ug 0 (some 11) (some 1) aU [1547425049178947864405999764,3]] [.pa]) .z)
def Kq:Ctr:=⟨⟨c24,[(.slice (.sc pi)),(.sc .bool),cR],2,[0],[⟨some 3,false,false⟩,⟨none,true,false⟩,⟨none,true,false⟩,⟨none,true,false⟩,⟨none,true,false⟩,⟨none,true,false⟩,⟨none,true,false⟩,⟨none,true,false⟩,⟨none,true,false⟩,⟨some 1870727804774333205280220053793449448177874923159704,false,false⟩,⟨some 3,false,false⟩,⟨some 360315457980334103,false,false⟩,⟨some 3,false,false⟩,⟨some 3,false,false⟩,⟨some 0,false,false⟩]⟩,λx=>lW x.1 x.2.1 x.2.2⟩
def MC:Cx:=aB Mj 263 Kq
theorem Fb:Qq0 MC:=aj ED (Qq2 Qo Tryz.func263 (by kernel_rfl) alG (λx=>by kernel_rfl) rfl)
noncomputable def Ch:Cx:=cM MC 179 (qT MC Tryz.f179 BX)
theorem Cp:Qq0 Ch:=bz Fb (jF Fb au Tryz.func179 (by kernel_rfl) (by kernel_rfl) _)
noncomputable def CM:Cx:=cM Ch 260 (qT Ch Tryz.f260 OK)
theorem Di:Qq0 CM:=bz Cp (jF Cp au Tryz.func260 (by kernel_rfl) (by kernel_rfl) _)
noncomputable def Cv:Cx:=cM CM 258 (mj CM Tryz.f258 qA)
theorem BK:Qq0 Cv:=bz Di (fG Di au Tryz.func258 (by kernel_rfl) (by kernel_rfl) _)
noncomputable def IW:Cx:=cM Cv 178 (qv Cv Tryz.f178 uG [bd])
theorem OV:Qq0 IW:=bz BK (jD BK au Tryz.func178 (by kernel_rfl) (by kernel_rfl) _ _)
def aoT:An:=Qq1 3 (.s (.gg [.up 10 [1547425049178947864405999764,3]] [.pa]) (.s .z (.s (.s .z (.s (.s (.gg [.up 10 [1547425049178947864405999764,3]] [.pa]) (.s (.k [2000000] [.ug 0 (some 13) (some 3) (.slice (.sc pi)) [3]] [.pa]) .z)) .z)) (.s .z (.s (.gg [.up 10 [1547425049178947864405999764,3]] [.pa]) (.s .z (.s (.gg [.up 14 [1547425049178947864405999764,3],.ug 14 (some 0) none ce [3]] [.pa,.pa]) (.s (.gg [.up 14 [1547425049178947864405999764,3]] [.pa]) .z))))))))
def ML:Ctr:=⟨⟨[.box true cR [none,none,none,none,none,none,none,none,some 1870727804774333205280220053793449448177874923159704,some 3,some 360315457980334103,some 3,some 3,some 0],.d (.sc pi),.d (.sc pi),.d (.sc pi)],[(.slice (.sc pi)),(.sc .bool),cR],2,[0],[⟨some 3,false,false⟩,⟨none,true,false⟩,⟨none,true,false⟩,⟨none,true,false⟩,⟨none,true,false⟩,⟨none,true,false⟩,⟨none,true,false⟩,⟨none,true,false⟩,⟨none,true,false⟩,⟨some 1870727804774333205280220053793449448177874923159704,false,false⟩,⟨some 3,false,false⟩,⟨some 360315457980334103,false,false⟩,⟨some 3,false,false⟩,⟨some 3,false,false⟩,⟨some 0,false,false⟩]⟩,λx=>nH x.1 x.2.1 x.2.2.1 x.2.2.2⟩
def MW:Cx:=aB MC 264 ML
theorem EP:Qq0 MW:=aj Fb (Qq2 OV Tryz.func264 (by kernel_rfl) aoT (λx=>by kernel_rfl) rfl)
noncomputable def Dn:Cx:=cM MW 258 (mj MW Tryz.f258 qA)
theorem CE:Qq0 Dn:=bz EP (fG EP au Tryz.func258 (by kernel_rfl) (by kernel_rfl) _)
noncomputable def BN:Cx:=cM Dn 178 (qv Dn Tryz.f178 uG [bd])
theorem Dm:Qq0 BN:=bz CE (jD CE au Tryz.func178 (by kernel_rfl) (by kernel_rfl) _ _)
noncomputable def B3:Cx:=cM BN 179 (qT BN Tryz.f179 BX)
theorem CN:Qq0 B3:=bz Dm (jF Dm au Tryz.func179 (by kernel_rfl) (by kernel_rfl) _)
noncomputable def Bx:Cx:=cM B3 259 (qT B3 Tryz.f259 adj)
theorem B4:Qq0 Bx:=bz CN (jF CN au Tryz.func259 (by kernel_rfl) (by kernel_rfl) _)
noncomputable def IU:Cx:=cM Bx 260 (qT Bx Tryz.f260 OK)
theorem ND:Qq0 IU:=bz B4 (jF B4 au Tryz.func260 (by kernel_rfl) (by kernel_rfl) _)
def ana:An:=Qq1 5 (.j ⟨[0,1,8,2,9],[(10,.lf (.sc .bool))],[(0,[.rep bd true [],.rep (.sc pi) true [],.rep (.sc pi) true [],.rep aC true [],.rep aC true [],.rep (.sc .str) true [],.rep (.sc .str) true [],.rep (.sc .str) true [],.sc pi,.sc pi,.sc pi,.ownk aU 1870727804774333205280220053793449448177874923159704 9,.own (.sc pi) 3 false [],.rep (.slice (.sc pi)) true [1000000],.own (.sc pi) 3 false [],.own (.sc pi) 3 false [],.sc pi,.sc pi,.sc pi,.sc pi,.sc pi,.sc pi,.sc pi,.sc pi,.sc .str,.mp ah (.sc .bool)])],[]⟩ false (.s .z (.u (.s .z (.s (.s .z (.gg [.up 8 [1547425049178947864405999764,3]] [.pa])) (.s .z (.s (.s .z (.s (.gg [.up 8 [1547425049178947864405999764,3]] [.pa]) .z)) (.s .z (.s .z (.s .z (.s .z (.s .z (.s (.s .z (.s (.gg [.up 8 [1547425049178947864405999764,3],.ug 8 (some 0) none ce [3]] [.pa,.pa]) (.gg [.ug 0 (some 13) (some 96) (.slice (.sc pi)) [3]] [.pr 0 (some 13)]))) (.s .z (.s .z (.s .z (.s .z (.s .z (.s (.gg [.up 8 [1547425049178947864405999764,3],.ug 8 (some 0) none ce [3]] [.pa,.pa]) (.s .z (.s (.s .z (.s .z (.gg [.up 8 [1547425049178947864405999764,3],.ug 8 (some 0) none ce [3]] [.pa,.pa]))) (.s .z (.s .z (.s .z (.s (.s .z (.s (.gg [.up 8 [1547425049178947864405999764,3]] [.pa]) .z)) (.s .z (.s (.s .z (.gg [.up 8 [1547425049178947864405999764,3],.ug 8 (some 0) none ce [3]] [.pa,.pa])) (.s .z (.s (.gg [.up 8 [1547425049178947864405999764,3]] [.pa]) (.j ⟨[0,1],[],[(0,c15)],[]⟩ true .z .z))))))))))))))))))))))))))))) (.j ⟨[0,1,10,8],[],[(0,c14)],[]⟩ true (.s .z (.s (.gg [.up 8 [1547425049178947864405999764,3]] [.pa]) .z)) .z))
def K8:Ctr:=⟨⟨c24,[(.slice (.sc pi)),(.sc .bool),cR],2,[0],[⟨some 3,false,false⟩,⟨none,true,true⟩,⟨none,true,true⟩,⟨none,true,true⟩,⟨none,true,true⟩,⟨none,true,true⟩,⟨none,true,true⟩,⟨none,true,true⟩,⟨none,true,true⟩,⟨some 1870727804774333205280220053793449448177874923159704,false,false⟩,⟨some 3,false,false⟩,⟨none,true,true⟩,⟨some 3,false,false⟩,⟨some 3,false,false⟩,⟨some 0,false,false⟩]⟩,λx=>lY x.1 x.2.1 x.2.2⟩
def aaU:Cx:=aB MW 186 K8
theorem Sq:Qq0 aaU:=aj EP (Qq2 ND Tryz.func186 (by kernel_rfl) ana (λx=>by kernel_rfl) rfl)
def aox:An:=.s .z (.s .z (.j ⟨[0],[(3,.lf (.own (.sc .str) 9 false []))],[],[]⟩ true (.s .z (.u (.l ⟨[6,7],[(3,.lf (.own (.sc .str) 9 false [])),(8,.lf (.sc pi))],[],[]⟩ .z))) .z))
def LF:Ctr:=⟨⟨[.d (.slice aC)],[(.slice (.sc .str))],1,[],[⟨some 9,false,false⟩]⟩,λx=>wj x⟩
def Zz:Cx:=aB aaU 250 LF
theorem SG:Qq0 Zz:=aj Sq (Qq2 Sq Tryz.func250 (by kernel_rfl) aox (λx=>by kernel_rfl) rfl)
def an5:An:=.z
def Ml:Ctr:=⟨⟨[.d aC],[(.sc .bool)],1,[],[]⟩,λx=>vx x⟩
def aaS:Cx:=aB Zz 252 Ml
theorem Ru:Qq0 aaS:=aj SG (Qq2 SG Tryz.func252 (by kernel_rfl) an5 (λx=>by kernel_rfl) rfl)
def amr:An:=.s .z (.j ⟨[0,1],[],[],[]⟩ false (.s .z (.u (.l ⟨[0,1,7],[(8,.lf (.sc pi))],[],[]⟩ .z))) .z)
def Kt:Ctr:=⟨⟨[.d (.slice aC),.fn 252],[(.sc pi)],1,[],[]⟩,λx=>gb x.1⟩
def V5:Cx:=aB aaS 101 Kt
theorem Od:Qq0 V5:=aj Ru (Qq2 Ru Tryz.func101 (by kernel_rfl) amr (λx=>by kernel_rfl) rfl)
def alf:An:=.z
def L1:Ctr:=⟨⟨[.d (.slice aC),.fn 252],[(.sc .bool)],1,[],[]⟩,λx=>dL x.1⟩
def Xg:Cx:=aB V5 251 L1
theorem Ow:Qq0 Xg:=aj Od (Qq2 Od Tryz.func251 (by kernel_rfl) alf (λx=>by kernel_rfl) rfl)
def aoj:An:=Qq1 3 (.j ⟨[1,3],[],[],[]⟩ false (.s .z (.u (.l ⟨[1,3,56,57],[(58,.lf (.sc pi))],[],[]⟩ (.s .z (.s .z (.j ⟨[1,3,56,57,58],[],[],[]⟩ false (.u (.s .z (.s .z (.u (.l ⟨[1,3,5,56,57,58,63],[(64,.lf (.sc pi))],[],[]⟩ .z))))) .z)))))) (.j ⟨[1,3],[],[],[]⟩ false (.s .z (.u (.l ⟨[1,83],[(84,.lf (.sc pi))],[],[]⟩ .z))) .z))
def MY:Ctr:=⟨⟨[.d bT],[(.sc .bool)],1,[],[]⟩,λx=>uD x⟩
def XC:Cx:=aB Xg 171 MY
theorem N1:Qq0 XC:=aj Ow (Qq2 Ow Tryz.func171 (by kernel_rfl) aoj (λx=>by kernel_rfl) rfl)
def amE:An:=.s .z (.s .z (.j ⟨[1],[(3,.lf (.own ma 320 false []))],[],[]⟩ true (.s .z (.u (.l ⟨[1,8,9],[(3,.lf (.own ma 320 false [])),(10,.lf (.sc pi))],[],[]⟩ (.s .z (.s .z (.j ⟨[1,8,9,10],[(3,.lf (.own ma 320 false []))],[],[]⟩ true (.u (.s .z (.s .z (.j ⟨[1,3,4,5,8,9,10],[(6,.lf (.sc pi))],[],[]⟩ true .z .z)))) .z)))))) .z))
def Lr:Ctr:=⟨⟨[.d bT],[(.slice ma)],1,[],[⟨some 320,false,false⟩]⟩,λx=>wc x⟩
def We:Cx:=aB XC 172 Lr
theorem OA:Qq0 We:=aj N1 (Qq2 N1 Tryz.func172 (by kernel_rfl) amE (λx=>by kernel_rfl) rfl)
def alp:An:=Qq1 7 (.j ⟨[7,8,12,3,4],[(10,.lf (.sc pi)),(11,.lf (.sc pi))],[],[]⟩ false (.s .z (.u (.j ⟨[3,4,7,8,10,12,94],[(95,.lf (.sc .bool))],[],[]⟩ true .z (.s .z (.j ⟨[3,4,7,8,10,12,94],[(100,.lf (.sc .bool))],[],[]⟩ true .z (.s .z (.j ⟨[3,4,7,8,10,12,94],[(107,.lf (.sc .bool))],[],[]⟩ true .z (.s .z (.s .z (.s .z (.s .z (.s .z (.j ⟨[3,7,8,10,12,94],[(127,.lf (.sc .bool))],[],[]⟩ true .z (.s .z (.j ⟨[3,7,8,10,12,94],[(133,.lf (.sc .bool))],[],[]⟩ true .z (.s .z (.j ⟨[3,7,8,10,12,94],[(139,.lf (.sc .bool))],[],[]⟩ true .z (.s .z (.s .z (.s .z (.s .z (.s .z (.j ⟨[3,7,8,10,12,94],[(149,.lf (.sc .bool))],[],[]⟩ true .z .z))))))))))))))))))))))) .z)
def J7:Ctr:=⟨⟨[.d bT,.d ma,.d (.sc pi)],[(.sc .bool)],1,[],[]⟩,λx=>yb x.1 x.2.1 x.2.2⟩
def aaW:Cx:=aB We 173 J7
theorem RF:Qq0 aaW:=aj OA (Qq2 OA Tryz.func173 (by kernel_rfl) alp (λx=>by kernel_rfl) rfl)
def atE:An:=Qq1 3 (.j ⟨[1],[],[],[]⟩ false (.s .z (.u (.l ⟨[1,15,16],[(17,.lf (.sc pi))],[],[]⟩ (.s .z (.s .z (.j ⟨[1,15,16,17],[],[],[]⟩ false (.u (.s .z (.s .z (.u (.l ⟨[1,5,15,16,17],[(6,.lf (.sc pi))],[],[]⟩ .z))))) .z)))))) .z)
def aa3:Ctr:=⟨⟨[.d bT],[(.sc pi),(.sc pi)],2,[],[]⟩,λx=>nI x⟩
def Yq:Cx:=aB aaW 98 aa3
theorem HC:Qq0 Yq:=aj RF (Qq2 RF Tryz.func98 (by kernel_rfl) atE (λx=>by kernel_rfl) rfl)
noncomputable def BU:Cx:=cM Yq 258 (mj Yq Tryz.f258 qA)
theorem CK:Qq0 BU:=bz HC (fG HC au Tryz.func258 (by kernel_rfl) (by kernel_rfl) _)
noncomputable def BJ:Cx:=cM BU 178 (qv BU Tryz.f178 uG [bd])
theorem B0:Qq0 BJ:=bz CK (jD CK au Tryz.func178 (by kernel_rfl) (by kernel_rfl) _ _)
noncomputable def B2:Cx:=cM BJ 175 (qv BJ Tryz.f175 adA [(.sc .bool)])
theorem Cu:Qq0 B2:=bz B0 (jD B0 au Tryz.func175 (by kernel_rfl) (by kernel_rfl) _ _)
def auv:An:=Qq1 3 (.j ⟨[0,1],[],[],[]⟩ false (.s .z (.u (.l ⟨[0,1,71,72],[(73,.lf (.sc pi))],[],[]⟩ .z))) .z)
noncomputable def ID:Cx:=cM B2 180 (qv B2 Tryz.f180 auv [(.sc .bool)])
theorem RV:Qq0 ID:=bz Cu (jD Cu au Tryz.func180 (by kernel_rfl) (by kernel_rfl) _ _)
def ao0:An:=Qq1 3 (.j ⟨[0,3],[],[],[]⟩ false (.s .z (.u (.l ⟨[0,3,85,86],[(87,.lf (.sc pi))],[],[]⟩ .z))) (.j ⟨[0,3],[],[],[]⟩ false (.s .z (.u (.l ⟨[0,3,108,109],[(110,.lf (.sc pi))],[],[]⟩ .z))) (.j ⟨[0,3],[],[],[]⟩ false (.s .z (.u (.l ⟨[0,3,130],[(131,.lf (.sc pi))],[],[]⟩ .z))) .z)))
def LE:Ctr:=⟨⟨[.box false cR []],[(.sc .bool)],1,[],[]⟩,λx=>lM x⟩
def Zl:Cx:=aB Yq 108 LE
theorem NR:Qq0 Zl:=aj HC (Qq2 RV Tryz.func108 (by kernel_rfl) ao0 (λx=>by kernel_rfl) rfl)
def apO:An:=.z
def Lq:Ctr:=⟨⟨[.d (.sc pi),.d (.sc pi)],[(.sc .bool)],1,[],[]⟩,λx=>jH x.1 x.2⟩
def X8:Cx:=aB Zl 107 Lq
theorem N8:Qq0 X8:=aj NR (Qq2 NR Tryz.func107 (by kernel_rfl) apO (λx=>by kernel_rfl) rfl)
def anV:An:=.s .z (.j ⟨[0,1],[],[],[]⟩ false (.s .z (.u (.l ⟨[0,1,7],[(8,.lf (.sc pi))],[],[]⟩ .z))) .z)
def L6:Ctr:=⟨⟨[.d (.slice (.sc pi)),.d (.sc pi)],[(.sc pi)],1,[],[]⟩,λx=>nw x.1 x.2⟩
def XU:Cx:=aB X8 183 L6
theorem SO:Qq0 XU:=aj N8 (Qq2 N8 Tryz.func183 (by kernel_rfl) anV (λx=>by kernel_rfl) rfl)
def apZ:An:=.z
def Lc:Ctr:=⟨⟨[.d (.slice (.sc pi)),.d (.sc pi)],[(.sc .bool)],1,[],[]⟩,λx=>iM x.1 x.2⟩
def Lz:Cx:=aB XU 110 Lc
theorem Fo:Qq0 Lz:=aj SO (Qq2 SO Tryz.func110 (by kernel_rfl) apZ (λx=>by kernel_rfl) rfl)
def Fz:An:=.z
noncomputable def Pk:Cx:=cM Lz 103 (mj Lz Tryz.f103 Fz)
theorem Tn:Qq0 Pk:=bz Fo (fG Fo au Tryz.func103 (by kernel_rfl) (by kernel_rfl) _)
def awe:An:=.z
def XE:Ctr:=⟨⟨[.d bT,.d aX],[(.sc pi)],1,[],[]⟩,λx=>fU x.1 x.2⟩
def ai8:Cx:=aB Lz 46 XE
theorem Vg:Qq0 ai8:=aj Fo (Qq2 Tn Tryz.func46 (by kernel_rfl) awe (λx=>by kernel_rfl) rfl)
def aul:An:=.z
def ZY:Ctr:=⟨⟨[.d gM],[(.sc .bool)],1,[],[]⟩,λx=>mW x⟩
def aft:Cx:=aB ai8 99 ZY
theorem UP:Qq0 aft:=aj Vg (Qq2 Vg Tryz.func99 (by kernel_rfl) aul (λx=>by kernel_rfl) rfl)
def aoo:An:=.z
def MT:Ctr:=⟨⟨[.d bT,.d gM,.d aX],[(.sc pi)],1,[],[]⟩,λx=>gx x.1 x.2.1 x.2.2⟩
def KV:Cx:=aB aft 184 MT
theorem Ff:Qq0 KV:=aj UP (Qq2 UP Tryz.func184 (by kernel_rfl) aoo (λx=>by kernel_rfl) rfl)
noncomputable def Ca:Cx:=cM KV 258 (mj KV Tryz.f258 qA)
theorem BS:Qq0 Ca:=bz Ff (fG Ff au Tryz.func258 (by kernel_rfl) (by kernel_rfl) _)
noncomputable def IK:Cx:=cM Ca 178 (qv Ca Tryz.f178 uG [bd])
theorem QI:Qq0 IK:=bz BS (jD BS au Tryz.func178 (by kernel_rfl) (by kernel_rfl) _ _)
def amU:An:=Qq1 3 (.j ⟨[0,2],[(4,.lf (.sc pi))],[],[3]⟩ false .z (.s .z (.s .z (.j ⟨[2,6,0,5],[],[(6,[.sc pi,.sc pi,.sc pi,.own (.sc pi) 3 false []])],[]⟩ true .z .z))))
def LD:Ctr:=⟨⟨[.box false cR []],[lZ],1,[],[⟨some 3,false,false⟩]⟩,λx=>iw x⟩
def MA:Cx:=aB KV 185 LD
theorem Ev:Qq0 MA:=aj Ff (Qq2 QI Tryz.func185 (by kernel_rfl) amU (λx=>by kernel_rfl) rfl)
noncomputable def Jb:Cx:=cM MA 103 (mj MA Tryz.f103 Fz)
theorem Rq:Qq0 Jb:=bz Ev (fG Ev au Tryz.func103 (by kernel_rfl) (by kernel_rfl) _)
def am7:An:=.z
def Lj:Ctr:=⟨⟨[.d bT,.d gM,.d aX],[lZ,(.sc pi)],2,[],[⟨some 3,false,false⟩]⟩,λx=>eW x.1 x.2.1 x.2.2⟩
def Mi:Cx:=aB MA 111 Lj
theorem EW:Qq0 Mi:=aj Ev (Qq2 Rq Tryz.func111 (by kernel_rfl) am7 (λx=>by kernel_rfl) rfl)
noncomputable def Cy:Cx:=cM Mi 103 (mj Mi Tryz.f103 Fz)
theorem C7:Qq0 Cy:=bz EW (fG EW au Tryz.func103 (by kernel_rfl) (by kernel_rfl) _)
noncomputable def Cj:Cx:=cM Cy 179 (qT Cy Tryz.f179 BX)
theorem CW:Qq0 Cj:=bz C7 (jF C7 au Tryz.func179 (by kernel_rfl) (by kernel_rfl) _)
noncomputable def CG:Cx:=cM Cj 258 (mj Cj Tryz.f258 qA)
theorem C1:Qq0 CG:=bz CW (fG CW au Tryz.func258 (by kernel_rfl) (by kernel_rfl) _)
noncomputable def IZ:Cx:=cM CG 176 (qT CG Tryz.f176 Pf)
theorem PX:Qq0 IZ:=bz C1 (jF C1 au Tryz.func176 (by kernel_rfl) (by kernel_rfl) _)
noncomputable def IP:Cx:=cM IZ 187 agO
theorem Rc:Qq0 IP:=bz PX asM
def al9:An:=Qq1 13 (.j ⟨[8,12],[],[(12,c13)],[14]⟩ true (.s .z (.u (.l ⟨[8,12,131,132],[(133,.lf (.sc pi))],[(12,c13)],[]⟩ .z))) .z)
def Ly:Ctr:=⟨⟨[.d bT,.d gM,.d aX,.d (.sc pi)],[aX,(.slice ah),(.sc pi)],3,[],[⟨some 1870727804774333205280220053793449448177874923159704,false,false⟩,⟨some 3,false,false⟩,⟨none,true,true⟩,⟨some 3,false,false⟩,⟨some 3,false,false⟩,⟨some 422,false,false⟩]⟩,λx=>eN x.1 x.2.1 x.2.2.1 x.2.2.2⟩
def Wm:Cx:=aB Mi 112 Ly
theorem QV:Qq0 Wm:=aj EW (Qq2 Rc Tryz.func112 (by kernel_rfl) al9 (λx=>by kernel_rfl) rfl)
def aoa:An:=.z
def LG:Ctr:=⟨⟨[.d aC,.box false (.sc .str) []],[(.sc .bool)],1,[],[]⟩,λx=>qx x.1 x.2⟩
def XL:Cx:=aB Wm 102 LG
theorem RI:Qq0 XL:=aj QV (Qq2 QV Tryz.func102 (by kernel_rfl) aoa (λx=>by kernel_rfl) rfl)
end
end Go.Proofs.YtgghcmbaidihjaaGreatDoor
