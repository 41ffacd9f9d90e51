/- Laws for the row. No condition. -/
import Derived.Test.YtfhhiajfciblbaaGreatDoorExtT
namespace Go.Proofs.YtfhhiajfciblbaaGreatDoor
open Go.Sm
set_option maxRecDepth 100000
set_option linter.unusedSectionVars false
section
variable [Itr] [SortLaw]
def ajA:An:=.z
def IZ:Ctr:=⟨⟨[.d (.sc (.int .u64)),.d (.sc (.int .u64))],[(.sc (.int .u64)),(.sc (.int .u64))],2,[],[]⟩,λx=>wY x.1 x.2⟩
def Vr:Cx:=aD Ts 241 IZ
theorem My:Qq0 Vr:=am Oj (Qq2 Oj Tryz.func241 (by kernel_rfl) ajA (λx=>by kernel_rfl) rfl)
def ai7:An:=.z
def JY:Ctr:=⟨⟨[.d (.sc (.int .u64)),.d (.sc (.int .u64))],[(.sc (.int .u64)),(.sc (.int .u64))],2,[],[]⟩,λx=>zO x.1 x.2⟩
def SM:Cx:=aD Vr 209 JY
theorem Mn:Qq0 SM:=am My (Qq2 My Tryz.func209 (by kernel_rfl) ai7 (λx=>by kernel_rfl) rfl)
def ahy:An:=.s .z (.j ⟨[0,1],[],[],[]⟩ true .z (.s .z (.j ⟨[0,6,5],[],[],[]⟩ true .z (.s .z (.s .z (.j ⟨[],[(7,.lf (.own (.sc pi) 3 false []))],[],[8]⟩ true (.u (.l ⟨[],[(7,.lf (.own (.sc pi) 3 false [])),(8,.lf (.sc pi))],[],[]⟩ .z)) .z))))))
def JX:Ctr:=⟨⟨[.d (.slice (.sc pi)),.d (.sc pi)],[(.slice (.sc pi))],1,[],[⟨some 3,false,false⟩]⟩,λx=>qZ x.1 x.2⟩
def Wr:Cx:=aD SM 172 JX
theorem Od:Qq0 Wr:=am Mn (Qq2 Mn Tryz.func172 (by kernel_rfl) ahy (λx=>by kernel_rfl) rfl)
def ahc:An:=.z
def Jb:Ctr:=⟨⟨[.d (.sc pi)],[(.slice (.sc pi))],1,[],[⟨some 3,false,false⟩]⟩,λx=>oV x⟩
def Xl:Cx:=aD Wr 109 Jb
theorem O3:Qq0 Xl:=am Od (Qq2 Od Tryz.func109 (by kernel_rfl) ahc (λx=>by kernel_rfl) rfl)
def agJ:An:=.z
def IS:Ctr:=⟨⟨[.d (.slice aV)],[(.slice aV)],1,[],[⟨some 118,true,false⟩]⟩,λx=>gJ x⟩
theorem afQ:IS.sound Tryz.prog 118:=ww O3 aw Tryz.func118 (by kernel_rfl) rfl (an:=agJ) (λx=>(by kernel_rfl:IS.fn x=xA [.isn 0 false] Xl Tryz.f118 agJ IS.toSig x)) (by kernel_rfl) rfl
def XS:Cx:=aD Xl 118 IS
theorem NP:Qq0 XS:=am O3 afQ
def ahP:An:=.z
def If:Ctr:=⟨⟨[.d (.slice (.sc pi))],[(.slice (.sc pi))],1,[],[⟨some 3,false,false⟩]⟩,λx=>eM x⟩
theorem agu:If.sound Tryz.prog 119:=ww NP aw Tryz.func119 (by kernel_rfl) rfl (an:=ahP) (λx=>(by kernel_rfl:If.fn x=xA [.isn 0 false] XS Tryz.f119 ahP If.toSig x)) (by kernel_rfl) rfl
def WS:Cx:=aD XS 119 If
theorem K4:Qq0 WS:=am NP agu
def ahU:An:=.z
def II:Ctr:=⟨⟨[.d (.slice bX)],[(.slice bX)],1,[],[⟨some 114,true,false⟩]⟩,λx=>iv x⟩
theorem adF:II.sound Tryz.prog 120:=ww K4 aw Tryz.func120 (by kernel_rfl) rfl (an:=ahU) (λx=>(by kernel_rfl:II.fn x=xA [.isn 0 false] WS Tryz.f120 ahU II.toSig x)) (by kernel_rfl) rfl
def W3:Cx:=aD WS 120 II
theorem MM:Qq0 W3:=am K4 adF
def aj5:An:=.z
def JN:Ctr:=⟨⟨[.d (.slice (.slice (.sc pi)))],[(.slice (.slice (.sc pi)))],1,[],[⟨some 22,true,false⟩]⟩,λx=>oQ x⟩
theorem adC:JN.sound Tryz.prog 121:=ww MM aw Tryz.func121 (by kernel_rfl) rfl (an:=aj5) (λx=>(by kernel_rfl:JN.fn x=xA [.isn 0 false] W3 Tryz.f121 aj5 JN.toSig x)) (by kernel_rfl) rfl
def Ta:Cx:=aD W3 121 JN
theorem M8:Qq0 Ta:=am MM adC
def anV:An:=.s .z (.s (.gg [] [.p0 1 (some 0) 1870727804774333205280220053632888987722923590549622]) (.j ⟨[1,2],[],[(1,c28)],[]⟩ true (.s .z (.u (.l ⟨[1,2,15],[(14,.lf (.al 2)),(16,.lf (.sc pi))],[(1,c28)],[]⟩ (.s .z (.s .z (.j ⟨[1,2,15,16],[(14,.lf (.al 1))],[(1,[.pt aV 1870727804774333205280220053632888987722923590549622 true [1000001],.rep (.sc pi) true [1000001],.rep (.slice (.sc pi)) true [1000001],.rep (.sc pi) true [1000001],.rep (.sc pi) true [1000001],.sc pi,.sc pi,.sc pi,.sc pi,.sc pi,.sc pi,.sc pi,.sc pi,.sc .str])],[]⟩ true (.u (.s .z (.s .z (.s (.gg [] [.p0 4 (some 0) 1547425049178910481010655346]) (.j ⟨[1,2,3,4,14,15,16],[],[(4,c39)],[]⟩ true (.s .z (.u (.l ⟨[1,2,3,4,14,15,16,31],[(30,.lf (.al 2)),(32,.lf (.sc pi))],[(4,c39)],[]⟩ .z))) (.g [.pf 4 (some 0)])))))) .z)))))) (.s (.g [.pf 1 (some 0)]) (.s (.gg [] [.p0 1 (some 2) 360314358468706326]) (.j ⟨[1,2],[],[(1,c24)],[53,56,59,65]⟩ true (.s .z (.u (.l ⟨[1,2,70],[(69,.lf (.al 4)),(71,.lf (.sc pi))],[(1,c24)],[53,56,59,65]⟩ .z))) (.s (.g [.pf 1 (some 2)]) .z))))))
def Xv:Ctr:=⟨⟨[.d cS],[cS],1,[],[⟨some 1870727804774333205280220053632888987722923590549622,false,false⟩,⟨some 3,false,false⟩,⟨some 360314358468706326,false,false⟩,⟨some 3,false,false⟩,⟨some 3,false,false⟩]⟩,λx=>lV x⟩
def ae5:Cx:=aD Ta 64 Xv
theorem Q9:Qq0 ae5:=am M8 (Qq2 M8 Tryz.func64 (by kernel_rfl) anV (λx=>by kernel_rfl) rfl)
def ajw:An:=.z
def Jd:Ctr:=⟨⟨[],[(.mp (.sc pi) (.sc .fnc))],1,[],[⟨some 0,false,false⟩]⟩,λ_=>tL⟩
def V4:Cx:=aD ae5 160 Jd
theorem Oo:Qq0 V4:=am Q9 (Qq2 Q9 Tryz.func160 (by kernel_rfl) ajw (λx=>by kernel_rfl) rfl)
def ahF:An:=.z
def Jm:Ctr:=⟨⟨[.d (.sc pi)],[(.sc .bool)],1,[],[]⟩,λx=>vn x⟩
def Xu:Cx:=aD V4 159 Jm
theorem Lq:Qq0 Xu:=am Oo (Qq2 Oo Tryz.func159 (by kernel_rfl) ahF (λx=>by kernel_rfl) rfl)
def ag6:An:=.z
def I4:Ctr:=⟨⟨[.d (.sc pi)],[(.sc .bool)],1,[],[]⟩,λx=>qx x⟩
def Wl:Cx:=aD Xu 242 I4
theorem Ln:Qq0 Wl:=am Lq (Qq2 Lq Tryz.func242 (by kernel_rfl) ag6 (λx=>by kernel_rfl) rfl)
def aj0:An:=.z
def JL:Ctr:=⟨⟨[.d (.sc pi),.d (.sc pi)],[(.sc .bool)],1,[],[]⟩,λx=>rC x.1 x.2⟩
def VM:Cx:=aD Wl 211 JL
theorem Ls:Qq0 VM:=am Ln (Qq2 Ln Tryz.func211 (by kernel_rfl) aj0 (λx=>by kernel_rfl) rfl)
def ajG:An:=.z
def JH:Ctr:=⟨⟨[.d (.sc pi)],[(.sc .bool)],1,[],[]⟩,λx=>nJ x⟩
def XD:Cx:=aD VM 212 JH
theorem KI:Qq0 XD:=am Ls (Qq2 Ls Tryz.func212 (by kernel_rfl) ajG (λx=>by kernel_rfl) rfl)
def ahu:An:=Qq1 3 (.j ⟨[0,1,6],[(7,.lf (.sc pi))],[],[8]⟩ true (.u (.l ⟨[0,1,6],[(7,.lf (.sc pi)),(8,.lf (.sc pi))],[],[]⟩ .z)) .z)
def Ky:Ctr:=⟨⟨[.d (.slice (.sc pi)),.d (.sc pi)],[(.sc pi),(.sc .bool)],2,[],[]⟩,λx=>gf x.1 x.2⟩
def Tq:Cx:=aD XD 176 Ky
theorem Ny:Qq0 Tq:=am KI (Qq2 KI Tryz.func176 (by kernel_rfl) ahu (λx=>by kernel_rfl) rfl)
def ahq:An:=.s .z (.s .z (.j ⟨[6],[(5,.lf (.sc pi))],[],[]⟩ true .z .z))
def Io:Ctr:=⟨⟨[.d eW,.d (.sc pi)],[(.sc pi)],1,[],[]⟩,λx=>gx x.1 x.2⟩
def WZ:Cx:=aD Tq 122 Io
theorem Lk:Qq0 WZ:=am Ny (Qq2 Ny Tryz.func122 (by kernel_rfl) ahq (λx=>by kernel_rfl) rfl)
def ah3:An:=.z
def IV:Ctr:=⟨⟨[.d (.sc pi),.d (.sc pi)],[(.sc pi)],1,[],[]⟩,λx=>rM x.1 x.2⟩
theorem Ot:IV.sound Tryz.prog 201:=Qq2 Lk Tryz.func201 (by kernel_rfl) ah3 (λx=>by kernel_rfl) rfl
def Tp:Cx:=aD WZ 201 IV
theorem NW:Qq0 Tp:=am Lk Ot
def ahN:An:=.z
def JT:Ctr:=⟨⟨[.d (.sc pi),.d (.sc pi)],[(.sc pi)],1,[],[]⟩,λx=>rU x.1 x.2⟩
theorem KM:JT.sound Tryz.prog 202:=Qq2 NW Tryz.func202 (by kernel_rfl) ahN (λx=>by kernel_rfl) rfl
def SL:Cx:=aD Tp 202 JT
theorem K8:Qq0 SL:=am NW KM
def ahr:An:=.z
def IU:Ctr:=⟨⟨[.d (.sc pi),.d (.sc pi)],[(.sc pi)],1,[],[]⟩,λx=>rK x.1 x.2⟩
theorem Mq:IU.sound Tryz.prog 203:=Qq2 K8 Tryz.func203 (by kernel_rfl) ahr (λx=>by kernel_rfl) rfl
def W8:Cx:=aD SL 203 IU
theorem Pi:Qq0 W8:=am K8 Mq
def aog:An:=.z
def Td:Ctr:=⟨⟨[.d (.sc .bool)],[(.sc pi)],1,[],[]⟩,λx=>kr x⟩
def afs:Cx:=aD W8 75 Td
theorem Q2:Qq0 afs:=am Pi (Qq2 Pi Tryz.func75 (by kernel_rfl) aog (λx=>by kernel_rfl) rfl)
def aht:An:=.z
def Ib:Ctr:=⟨⟨[.d (.sc pi),.d (.sc pi)],[(.sc pi)],1,[],[]⟩,λx=>rD x.1 x.2⟩
theorem ML:Ib.sound Tryz.prog 204:=Qq2 Q2 Tryz.func204 (by kernel_rfl) aht (λx=>by kernel_rfl) rfl
def WR:Cx:=aD afs 204 Ib
theorem Ow:Qq0 WR:=am Q2 ML
def aip:An:=.z
def Ko:Ctr:=⟨⟨[.d (.sc pi),.d (.sc pi)],[(.sc pi)],1,[],[]⟩,λx=>rA x.1 x.2⟩
theorem OB:Ko.sound Tryz.prog 205:=Qq2 Ow Tryz.func205 (by kernel_rfl) aip (λx=>by kernel_rfl) rfl
def UH:Cx:=aD WR 205 Ko
theorem LA:Qq0 UH:=am Ow OB
def ajm:An:=.z
def IC:Ctr:=⟨⟨[.d (.sc pi),.d (.sc pi)],[(.sc pi)],1,[],[]⟩,λx=>sn x.1 x.2⟩
theorem LR:IC.sound Tryz.prog 206:=Qq2 LA Tryz.func206 (by kernel_rfl) ajm (λx=>by kernel_rfl) rfl
def Vy:Cx:=aD UH 206 IC
theorem Ns:Qq0 Vy:=am LA LR
def acR:DCtr:=⟨⟨[.d (.sc pi),.d (.sc pi)],[(.sc pi)],1,[],[]⟩,λf x=>aaX f x.1 x.2⟩
theorem alp:DCtr.sound Tryz.prog acR:=by
 intro f x r h;simp only[acR,aaX]at h;cases hb:Nat.beq f 201;rotate_left
 ·rw[hb]at h;rw[amb hb];exact Ot x r h
 rw[hb]at h;simp only[aax]at h;cases hb:Nat.beq f 202;rotate_left
 ·rw[hb]at h;rw[amb hb];exact KM x r h
 rw[hb]at h;simp only[aax]at h;cases hb:Nat.beq f 203;rotate_left
 ·rw[hb]at h;rw[amb hb];exact Mq x r h
 rw[hb]at h;simp only[aax]at h;cases hb:Nat.beq f 204;rotate_left
 ·rw[hb]at h;rw[amb hb];exact ML x r h
 rw[hb]at h;simp only[aax]at h;cases hb:Nat.beq f 205;rotate_left
 ·rw[hb]at h;rw[amb hb];exact OB x r h
 rw[hb]at h;simp only[aax]at h;cases hb:Nat.beq f 206;rotate_left
 ·rw[hb]at h;rw[amb hb];exact LR x r h
 rw[hb]at h;cases h
def Vp:Cx:=abP Vy acR false
theorem M0:Qq0 Vp:=Qm Ns alp
def qp:An:=.z
noncomputable def De:Cx:=dm Vp 110 (kL Vp Tryz.f110 qp)
theorem Cw:Qq0 De:=bL M0 (eA M0 aw Tryz.func110 (by kernel_rfl) (by kernel_rfl) _)
def tG:An:=.z
noncomputable def Dl:Cx:=dm De 101 (rR De Tryz.f101 tG [aR])
theorem Cd:Qq0 Dl:=bL Cw (lY Cw aw Tryz.func101 (by kernel_rfl) (by kernel_rfl) _ _)
def aiC:An:=.z
noncomputable def FM:Cx:=dm Dl 99 (rR Dl Tryz.f99 aiC [(.sc .bool)])
theorem E6:Qq0 FM:=bL Cd (lY Cd aw Tryz.func99 (by kernel_rfl) (by kernel_rfl) _ _)
def To:An:=.z
noncomputable def GQ:Cx:=dm FM 65 (qM FM Tryz.f65 To)
theorem Ea:Qq0 GQ:=bL E6 (jZ E6 aw Tryz.func65 (by kernel_rfl) (by kernel_rfl) _)
def Z4:An:=.z
noncomputable def Db:Cx:=dm GQ 114 (qM GQ Tryz.f114 Z4)
theorem Cf:Qq0 Db:=bL Ea (jZ Ea aw Tryz.func114 (by kernel_rfl) (by kernel_rfl) _)
def Nx:An:=.z
noncomputable def Dw:Cx:=dm Db 115 (qM Db Tryz.f115 Nx)
theorem Cu:Qq0 Dw:=bL Cf (jZ Cf aw Tryz.func115 (by kernel_rfl) (by kernel_rfl) _)
def T8:An:=.z
noncomputable def Fx:Cx:=dm Dw 47 (kL Dw Tryz.f47 T8)
theorem Ez:Qq0 Fx:=bL Cu (eA Cu aw Tryz.func47 (by kernel_rfl) (by kernel_rfl) _)
def aoU:An:=.s .z (.s (.g [.up 1 [1547425049178910481010655346,3]]) (.s .z (.s .z (.s (.s .z (.u (Qq1 7 (.s (.s .z (.s .z (.s (.g [.up 7 [3]]) .z))) (.s .z (.s .z (.s .z (.s .z (.s .z (.s (.s (.s .z (.s (.s .z (.g [.pa,.pa])) .z)) (.s .z (.s .z (.s .z (.g [.pa,.pa]))))) (.s .z (.s (.s .z (.s .z (.g [.pa,.pa]))) (.s .z (.s (.s .z (.s .z (.s (.k [0] [] []) .z))) (.s .z (.s .z (.s .z (.s (.s .z (.s (.s .z (.g [.pa,.pa])) .z)) .z)))))))))))))))))) (.s .z (.s .z (.g [.pa,.pa])))))))
noncomputable def DK:Cx:=dm Fx 100 (qM Fx Tryz.f100 aoU)
theorem Cv:Qq0 DK:=bL Ez (jZ Ez aw Tryz.func100 (by kernel_rfl) (by kernel_rfl) _)
def Fa:An:=.z
noncomputable def Rj:Cx:=dm DK 62 (qM DK Tryz.f62 Fa)
theorem WD:Qq0 Rj:=bL Cv (jZ Cv aw Tryz.func62 (by kernel_rfl) (by kernel_rfl) _)
def apc:An:=.u (Qq1 3 (.j ⟨[0,4],[],[(0,c22)],[5]⟩ false (.u (.l ⟨[0,4],[(5,.lf (.sc pi))],[(0,c22)],[]⟩ (.s .z (.u (.s (.u (.s .z (.s .z (.s .z (.s .z (.j ⟨[0,4,5],[(30,.lf (.sc .bool))],[(0,c19)],[]⟩ true .z .z)))))) .z))))) (.s .z (.s .z (.s .z (.u (.s .z (.s .z (.s .z (.s (.j ⟨[0,6],[],[(0,[.rep aR true [1000000],.rep (.sc pi) true [1000000],.rep (.sc pi) true [1000000],.rep aB true [1000000],.rep aB true [1000000],.rep (.sc .str) true [1000000],.rep (.sc .str) true [1000000],.rep (.sc .str) true [1000000],.sc pi,.sc pi,.sc pi,.own aV 1870727804774333205280220053632888987722923590549622 false [],.own (.sc pi) 3 false [],.rep (.slice (.sc pi)) true [1000000],.own (.sc pi) 3 false [],.own (.sc pi) 3 false [],.sc pi,.sc pi,.sc pi,.sc pi,.sc pi,.sc pi,.sc pi,.sc pi,.sc .str,.mp ah (.sc .bool)])],[]⟩ true .z .z) .z))))))))))
def Wf:Ctr:=⟨⟨[.box true dc [none,none,none,none,none,none,none,none,some 1870727804774333205280220053632888987722923590549622,some 3,none,some 3,some 3,some 0],.d (.sc pi)],[dc],0,[0],[⟨none,true,true⟩,⟨none,true,true⟩,⟨none,true,true⟩,⟨none,true,true⟩,⟨none,true,true⟩,⟨none,true,true⟩,⟨none,true,true⟩,⟨none,true,true⟩,⟨some 1870727804774333205280220053632888987722923590549622,false,false⟩,⟨some 3,false,false⟩,⟨none,true,true⟩,⟨some 3,false,false⟩,⟨some 3,false,false⟩,⟨some 0,false,false⟩]⟩,λx=>oB x.1 x.2⟩
def Vz:Cx:=aD Vy 48 Wf
theorem Gc:Qq0 Vz:=am Ns (Qq2 WD Tryz.func48 (by kernel_rfl) apc (λx=>by kernel_rfl) rfl)
noncomputable def Bk:Cx:=dm Vz 110 (kL Vz Tryz.f110 qp)
theorem Bm:Qq0 Bk:=bL Gc (eA Gc aw Tryz.func110 (by kernel_rfl) (by kernel_rfl) _)
noncomputable def Hh:Cx:=dm Bk 101 (rR Bk Tryz.f101 tG [aR])
theorem Oi:Qq0 Hh:=bL Bm (lY Bm aw Tryz.func101 (by kernel_rfl) (by kernel_rfl) _ _)
def ahw:An:=.s .z (.s .z (.j ⟨[0,1],[(5,.lf (.own (.sc pi) 3 false []))],[],[]⟩ true (.s .z (.u (.l ⟨[0,1,13],[(5,.lf (.own (.sc pi) 3 false [])),(14,.lf (.sc pi))],[],[]⟩ (.s .z (.s .z (.j ⟨[0,1,13,14],[(5,.lf (.own (.sc pi) 3 false []))],[],[]⟩ true .z .z)))))) .z))
def Ix:Ctr:=⟨⟨[.box false dc [],.d (.sc pi)],[(.slice (.sc pi))],1,[],[⟨some 3,false,false⟩]⟩,λx=>gP x.1 x.2⟩
def Jq:Cx:=aD Vz 111 Ix
theorem DD:Qq0 Jq:=am Gc (Qq2 Oi Tryz.func111 (by kernel_rfl) ahw (λx=>by kernel_rfl) rfl)
noncomputable def DF:Cx:=dm Jq 110 (kL Jq Tryz.f110 qp)
theorem Cm:Qq0 DF:=bL DD (eA DD aw Tryz.func110 (by kernel_rfl) (by kernel_rfl) _)
noncomputable def LB:Cx:=dm DF 101 (rR DF Tryz.f101 tG [aR])
theorem PF:Qq0 LB:=bL Cm (lY Cm aw Tryz.func101 (by kernel_rfl) (by kernel_rfl) _ _)
def anO:An:=.s .z (.s .z (.j ⟨[0],[(3,.lf (.own (.sc pi) 3 false []))],[],[]⟩ true (.s .z (.u (.l ⟨[0,14],[(3,.lf (.own (.sc pi) 3 false [])),(15,.lf (.sc pi))],[],[]⟩ (.s .z (.s .z (.j ⟨[0,14,15],[(3,.lf (.own (.sc pi) 3 false []))],[],[]⟩ true (.u (Qq1 4 (.j ⟨[0,3,4,14,15,5,6],[(7,.lf (.sc .bool))],[],[]⟩ true .z .z))) .z)))))) .z))
def Wj:Ctr:=⟨⟨[.box false dc []],[(.slice (.sc pi))],1,[],[⟨some 3,false,false⟩]⟩,λx=>i9 x⟩
def TK:Cx:=aD Jq 61 Wj
theorem Fq:Qq0 TK:=am DD (Qq2 PF Tryz.func61 (by kernel_rfl) anO (λx=>by kernel_rfl) rfl)
noncomputable def DI:Cx:=dm TK 110 (kL TK Tryz.f110 qp)
theorem CB:Qq0 DI:=bL Fq (eA Fq aw Tryz.func110 (by kernel_rfl) (by kernel_rfl) _)
noncomputable def Fp:Cx:=dm DI 65 (qM DI Tryz.f65 To)
theorem D7:Qq0 Fp:=bL CB (jZ CB aw Tryz.func65 (by kernel_rfl) (by kernel_rfl) _)
noncomputable def N8:Cx:=dm Fp 101 (rR Fp Tryz.f101 tG [aR])
theorem PX:Qq0 N8:=bL D7 (lY D7 aw Tryz.func101 (by kernel_rfl) (by kernel_rfl) _ _)
def apv:An:=.s .z (.s .z (.j ⟨[0],[(2,.lf (.sc pi))],[],[]⟩ true (.s .z (.u (.l ⟨[0,37],[(2,.lf (.sc pi)),(38,.lf (.sc pi))],[],[]⟩ (.s .z (.s .z (.j ⟨[0,37,38],[(2,.lf (.sc pi))],[],[]⟩ true .z .z)))))) .z))
def T0:Ctr:=⟨⟨[.box true dc [none,none,none,none,none,none,none,none,some 1870727804774333205280220053632888987722923590549622,some 3,none,some 3,some 3,some 0]],[dc],0,[0],[⟨none,true,false⟩,⟨none,true,false⟩,⟨none,true,false⟩,⟨none,true,false⟩,⟨none,true,false⟩,⟨none,true,false⟩,⟨none,true,false⟩,⟨none,true,false⟩,⟨some 1870727804774333205280220053632888987722923590549622,false,false⟩,⟨some 3,false,false⟩,⟨none,true,false⟩,⟨some 3,false,false⟩,⟨some 3,false,false⟩,⟨some 0,false,false⟩]⟩,λx=>ph x⟩
def abF:Cx:=aD TK 49 T0
theorem Rg:Qq0 abF:=am Fq (Qq2 PX Tryz.func49 (by kernel_rfl) apv (λx=>by kernel_rfl) rfl)
def aiw:An:=.s .z (.s .z (.j ⟨[0],[(3,.lf (.sc pi))],[],[]⟩ true (.s .z (.u (.l ⟨[10,11],[(3,.lf (.sc pi)),(12,.lf (.sc pi))],[],[]⟩ .z))) .z))
def I8:Ctr:=⟨⟨[.box false dc []],[(.sc pi)],1,[],[]⟩,λx=>qW x⟩
def Jz:Cx:=aD abF 175 I8
theorem DA:Qq0 Jz:=am Rg (Qq2 Rg Tryz.func175 (by kernel_rfl) aiw (λx=>by kernel_rfl) rfl)
noncomputable def Dj:Cx:=dm Jz 62 (qM Jz Tryz.f62 Fa)
theorem Ck:Qq0 Dj:=bL DA (jZ DA aw Tryz.func62 (by kernel_rfl) (by kernel_rfl) _)
noncomputable def A0:Cx:=dm Dj 110 (kL Dj Tryz.f110 qp)
theorem Bg:Qq0 A0:=bL Ck (eA Ck aw Tryz.func110 (by kernel_rfl) (by kernel_rfl) _)
noncomputable def ND:Cx:=dm A0 47 (kL A0 Tryz.f47 T8)
theorem P3:Qq0 ND:=bL Bg (eA Bg aw Tryz.func47 (by kernel_rfl) (by kernel_rfl) _)
def agM:An:=Qq1 3 (.s (.gg [.ug 0 (some 11) (some 1) aV [1547425049178910481010655346,3]] [.pa]) .z)
def H3:Ctr:=⟨⟨c36,[(.slice (.sc pi)),(.sc .bool),dc],2,[0],[⟨some 3,false,false⟩,⟨none,true,false⟩,⟨none,true,false⟩,⟨none,true,false⟩,⟨none,true,false⟩,⟨none,true,false⟩,⟨none,true,false⟩,⟨none,true,false⟩,⟨none,true,false⟩,⟨some 1870727804774333205280220053632888987722923590549622,false,false⟩,⟨some 3,false,false⟩,⟨some 360314358468706326,false,false⟩,⟨some 3,false,false⟩,⟨some 3,false,false⟩,⟨some 0,false,false⟩]⟩,λx=>ub x.1 x.2.1 x.2.2⟩
def JC:Cx:=aD Jz 116 H3
theorem Dz:Qq0 JC:=am DA (Qq2 P3 Tryz.func116 (by kernel_rfl) agM (λx=>by kernel_rfl) rfl)
noncomputable def C5:Cx:=dm JC 62 (qM JC Tryz.f62 Fa)
theorem Cr:Qq0 C5:=bL Dz (jZ Dz aw Tryz.func62 (by kernel_rfl) (by kernel_rfl) _)
noncomputable def Ay:Cx:=dm C5 115 (qM C5 Tryz.f115 Nx)
theorem Aq:Qq0 Ay:=bL Cr (jZ Cr aw Tryz.func115 (by kernel_rfl) (by kernel_rfl) _)
noncomputable def Ap:Cx:=dm Ay 110 (kL Ay Tryz.f110 qp)
theorem Ai:Qq0 Ap:=bL Aq (eA Aq aw Tryz.func110 (by kernel_rfl) (by kernel_rfl) _)
noncomputable def HM:Cx:=dm Ap 101 (rR Ap Tryz.f101 tG [aR])
theorem LI:Qq0 HM:=bL Ai (lY Ai aw Tryz.func101 (by kernel_rfl) (by kernel_rfl) _ _)
def aiS:An:=Qq1 3 (.s (.gg [.up 10 [1547425049178910481010655346,3]] [.pa]) (.s .z (.s (.s .z (.s (.s (.gg [.up 10 [1547425049178910481010655346,3]] [.pa]) (.s (.k [2000000] [.ug 0 (some 13) (some 3) (.slice (.sc pi)) [3]] [.pa]) .z)) .z)) (.s .z (.s (.gg [.up 10 [1547425049178910481010655346,3]] [.pa]) (.s .z (.s (.gg [.up 14 [1547425049178910481010655346,3],.ug 14 (some 0) none bX [3]] [.pa,.pa]) (.s (.gg [.up 14 [1547425049178910481010655346,3]] [.pa]) .z))))))))
def IG:Ctr:=⟨⟨[.box true dc [none,none,none,none,none,none,none,none,some 1870727804774333205280220053632888987722923590549622,some 3,some 360314358468706326,some 3,some 3,some 0],.d (.sc pi),.d (.sc pi),.d (.sc pi)],[(.slice (.sc pi)),(.sc .bool),dc],2,[0],[⟨some 3,false,false⟩,⟨none,true,false⟩,⟨none,true,false⟩,⟨none,true,false⟩,⟨none,true,false⟩,⟨none,true,false⟩,⟨none,true,false⟩,⟨none,true,false⟩,⟨none,true,false⟩,⟨some 1870727804774333205280220053632888987722923590549622,false,false⟩,⟨some 3,false,false⟩,⟨some 360314358468706326,false,false⟩,⟨some 3,false,false⟩,⟨some 3,false,false⟩,⟨some 0,false,false⟩]⟩,λx=>vo x.1 x.2.1 x.2.2.1 x.2.2.2⟩
def Kv:Cx:=aD JC 117 IG
theorem Dd:Qq0 Kv:=am Dz (Qq2 LI Tryz.func117 (by kernel_rfl) aiS (λx=>by kernel_rfl) rfl)
noncomputable def C8:Cx:=dm Kv 110 (kL Kv Tryz.f110 qp)
theorem CK:Qq0 C8:=bL Dd (eA Dd aw Tryz.func110 (by kernel_rfl) (by kernel_rfl) _)
noncomputable def CS:Cx:=dm C8 101 (rR C8 Tryz.f101 tG [aR])
theorem Cb:Qq0 CS:=bL CK (lY CK aw Tryz.func101 (by kernel_rfl) (by kernel_rfl) _ _)
noncomputable def GL:Cx:=dm CS 62 (qM CS Tryz.f62 Fa)
theorem ES:Qq0 GL:=bL Cb (jZ Cb aw Tryz.func62 (by kernel_rfl) (by kernel_rfl) _)
noncomputable def Dh:Cx:=dm GL 114 (qM GL Tryz.f114 Z4)
theorem Cc:Qq0 Dh:=bL ES (jZ ES aw Tryz.func114 (by kernel_rfl) (by kernel_rfl) _)
noncomputable def Ox:Cx:=dm Dh 115 (qM Dh Tryz.f115 Nx)
theorem P9:Qq0 Ox:=bL Cc (jZ Cc aw Tryz.func115 (by kernel_rfl) (by kernel_rfl) _)
def ao3:An:=Qq1 5 (.j ⟨[0,1,8,2,9],[(10,.lf (.sc .bool))],[(0,[.rep aR true [],.rep (.sc pi) true [],.rep (.sc pi) true [],.rep aB true [],.rep aB true [],.rep (.sc .str) true [],.rep (.sc .str) true [],.rep (.sc .str) true [],.sc pi,.sc pi,.sc pi,.ownk aV 1870727804774333205280220053632888987722923590549622 9,.own (.sc pi) 3 false [],.rep (.slice (.sc pi)) true [1000000],.own (.sc pi) 3 false [],.own (.sc pi) 3 false [],.sc pi,.sc pi,.sc pi,.sc pi,.sc pi,.sc pi,.sc pi,.sc pi,.sc .str,.mp ah (.sc .bool)])],[]⟩ false (.s .z (.u (.s .z (.s (.s .z (.gg [.up 8 [1547425049178910481010655346,3]] [.pa])) (.s .z (.s (.s .z (.s (.gg [.up 8 [1547425049178910481010655346,3]] [.pa]) .z)) (.s .z (.s .z (.s .z (.s .z (.s .z (.s (.s .z (.s (.gg [.up 8 [1547425049178910481010655346,3],.ug 8 (some 0) none bX [3]] [.pa,.pa]) (.gg [.ug 0 (some 13) (some 96) (.slice (.sc pi)) [3]] [.pr 0 (some 13)]))) (.s .z (.s .z (.s .z (.s .z (.s .z (.s (.gg [.up 8 [1547425049178910481010655346,3],.ug 8 (some 0) none bX [3]] [.pa,.pa]) (.s .z (.s (.s .z (.s .z (.gg [.up 8 [1547425049178910481010655346,3],.ug 8 (some 0) none bX [3]] [.pa,.pa]))) (.s .z (.s .z (.s .z (.s (.s .z (.s (.gg [.up 8 [1547425049178910481010655346,3]] [.pa]) .z)) (.s .z (.s (.s .z (.gg [.up 8 [1547425049178910481010655346,3],.ug 8 (some 0) none bX [3]] [.pa,.pa])) (.s .z (.s (.gg [.up 8 [1547425049178910481010655346,3]] [.pa]) (.j ⟨[0,1],[],[(0,c21)],[]⟩ true .z .z))))))))))))))))))))))))))))) (.j ⟨[0,1,10,8],[],[(0,c19)],[]⟩ true (.s .z (.s (.gg [.up 8 [1547425049178910481010655346,3]] [.pa]) .z)) .z))
def WB:Ctr:=⟨⟨c36,[(.slice (.sc pi)),(.sc .bool),dc],2,[0],[⟨some 3,false,false⟩,⟨none,true,true⟩,⟨none,true,true⟩,⟨none,true,true⟩,⟨none,true,true⟩,⟨none,true,true⟩,⟨none,true,true⟩,⟨none,true,true⟩,⟨none,true,true⟩,⟨some 1870727804774333205280220053632888987722923590549622,false,false⟩,⟨some 3,false,false⟩,⟨none,true,true⟩,⟨some 3,false,false⟩,⟨some 3,false,false⟩,⟨some 0,false,false⟩]⟩,λx=>tT x.1 x.2.1 x.2.2⟩
def aeB:Cx:=aD Kv 63 WB
theorem Q7:Qq0 aeB:=am Dd (Qq2 P9 Tryz.func63 (by kernel_rfl) ao3 (λx=>by kernel_rfl) rfl)
def agA:An:=.s .z (.s .z (.j ⟨[0],[(3,.lf (.own (.sc .str) 9 false []))],[],[]⟩ true (.s .z (.u (.l ⟨[6,7],[(3,.lf (.own (.sc .str) 9 false [])),(8,.lf (.sc pi))],[],[]⟩ .z))) .z))
def Kr:Ctr:=⟨⟨[.d (.slice aB)],[(.slice (.sc .str))],1,[],[⟨some 9,false,false⟩]⟩,λx=>zc x⟩
def TV:Cx:=aD aeB 156 Kr
theorem MH:Qq0 TV:=am Q7 (Qq2 Q7 Tryz.func156 (by kernel_rfl) agA (λx=>by kernel_rfl) rfl)
def aii:An:=.z
def Kj:Ctr:=⟨⟨[.d aB],[(.sc .bool)],1,[],[]⟩,λx=>zN x⟩
def XF:Cx:=aD TV 158 Kj
theorem O2:Qq0 XF:=am MH (Qq2 MH Tryz.func158 (by kernel_rfl) aii (λx=>by kernel_rfl) rfl)
def aoc:An:=.s .z (.j ⟨[0,1],[],[],[]⟩ false (.s .z (.u (.l ⟨[0,1,7],[(8,.lf (.sc pi))],[],[]⟩ .z))) .z)
def S7:Ctr:=⟨⟨[.d (.slice aB),.fn 158],[(.sc pi)],1,[],[]⟩,λx=>kw x.1⟩
def abG:Cx:=aD XF 44 S7
theorem QX:Qq0 abG:=am O2 (Qq2 O2 Tryz.func44 (by kernel_rfl) aoc (λx=>by kernel_rfl) rfl)
def agN:An:=.z
def Kh:Ctr:=⟨⟨[.d (.slice aB),.fn 158],[(.sc .bool)],1,[],[]⟩,λx=>jo x.1⟩
def W9:Cx:=aD abG 157 Kh
theorem Nv:Qq0 W9:=am QX (Qq2 QX Tryz.func157 (by kernel_rfl) agN (λx=>by kernel_rfl) rfl)
def apz:An:=Qq1 3 (.j ⟨[1,3],[],[],[]⟩ false (.s .z (.u (.l ⟨[1,3,56,57],[(58,.lf (.sc pi))],[],[]⟩ (.s .z (.s .z (.j ⟨[1,3,56,57,58],[],[],[]⟩ false (.u (.s .z (.s .z (.u (.l ⟨[1,3,5,56,57,58,63],[(64,.lf (.sc pi))],[],[]⟩ .z))))) .z)))))) (.j ⟨[1,3],[],[],[]⟩ false (.s .z (.u (.l ⟨[1,83],[(84,.lf (.sc pi))],[],[]⟩ .z))) .z))
def VF:Ctr:=⟨⟨[.d eW],[(.sc .bool)],1,[],[]⟩,λx=>Cp x⟩
def afx:Cx:=aD W9 96 VF
theorem Sd:Qq0 afx:=am Nv (Qq2 Nv Tryz.func96 (by kernel_rfl) apz (λx=>by kernel_rfl) rfl)
def aqr:An:=.s .z (.s .z (.j ⟨[1],[(3,.lf (.own mC 185 false []))],[],[]⟩ true (.s .z (.u (.l ⟨[1,8,9],[(3,.lf (.own mC 185 false [])),(10,.lf (.sc pi))],[],[]⟩ (.s .z (.s .z (.j ⟨[1,8,9,10],[(3,.lf (.own mC 185 false []))],[],[]⟩ true (.u (.s .z (.s .z (.j ⟨[1,3,4,5,8,9,10],[(6,.lf (.sc pi))],[],[]⟩ true .z .z)))) .z)))))) .z))
def Tm:Ctr:=⟨⟨[.d eW],[(.slice mC)],1,[],[⟨some 185,false,false⟩]⟩,λx=>Ff x⟩
def agm:Cx:=aD afx 97 Tm
theorem Rq:Qq0 agm:=am Sd (Qq2 Sd Tryz.func97 (by kernel_rfl) aqr (λx=>by kernel_rfl) rfl)
def aoV:An:=Qq1 7 (.j ⟨[7,8,12,3,4],[(10,.lf (.sc pi)),(11,.lf (.sc pi))],[],[]⟩ false (.s .z (.u (.j ⟨[3,4,7,8,10,12,94],[(95,.lf (.sc .bool))],[],[]⟩ true .z (.s .z (.j ⟨[3,4,7,8,10,12,94],[(100,.lf (.sc .bool))],[],[]⟩ true .z (.s .z (.j ⟨[3,4,7,8,10,12,94],[(107,.lf (.sc .bool))],[],[]⟩ true .z (.s .z (.s .z (.s .z (.s .z (.s .z (.j ⟨[3,7,8,10,12,94],[(127,.lf (.sc .bool))],[],[]⟩ true .z (.s .z (.j ⟨[3,7,8,10,12,94],[(133,.lf (.sc .bool))],[],[]⟩ true .z (.s .z (.j ⟨[3,7,8,10,12,94],[(139,.lf (.sc .bool))],[],[]⟩ true .z (.s .z (.s .z (.s .z (.s .z (.s .z (.j ⟨[3,7,8,10,12,94],[(149,.lf (.sc .bool))],[],[]⟩ true .z .z))))))))))))))))))))))) .z)
def Tv:Ctr:=⟨⟨[.d eW,.d mC,.d (.sc pi)],[(.sc .bool)],1,[],[]⟩,λx=>Hy x.1 x.2.1 x.2.2⟩
def abf:Cx:=aD agm 98 Tv
theorem Rk:Qq0 abf:=am Rq (Qq2 Rq Tryz.func98 (by kernel_rfl) aoV (λx=>by kernel_rfl) rfl)
def ap0:An:=Qq1 3 (.j ⟨[1],[],[],[]⟩ false (.s .z (.u (.l ⟨[1,15,16],[(17,.lf (.sc pi))],[],[]⟩ (.s .z (.s .z (.j ⟨[1,15,16,17],[],[],[]⟩ false (.u (.s .z (.s .z (.u (.l ⟨[1,5,15,16,17],[(6,.lf (.sc pi))],[],[]⟩ .z))))) .z)))))) .z)
def TW:Ctr:=⟨⟨[.d eW],[(.sc pi),(.sc pi)],2,[],[]⟩,λx=>yZ x⟩
def WW:Cx:=aD abf 41 TW
theorem FH:Qq0 WW:=am Rk (Qq2 Rk Tryz.func41 (by kernel_rfl) ap0 (λx=>by kernel_rfl) rfl)
noncomputable def Bd:Cx:=dm WW 110 (kL WW Tryz.f110 qp)
theorem Bq:Qq0 Bd:=bL FH (eA FH aw Tryz.func110 (by kernel_rfl) (by kernel_rfl) _)
noncomputable def AS:Cx:=dm Bd 101 (rR Bd Tryz.f101 tG [aR])
theorem Af:Qq0 AS:=bL Bq (lY Bq aw Tryz.func101 (by kernel_rfl) (by kernel_rfl) _ _)
noncomputable def CM:Cx:=dm AS 99 (rR AS Tryz.f99 aiC [(.sc .bool)])
theorem CI:Qq0 CM:=bL Af (lY Af aw Tryz.func99 (by kernel_rfl) (by kernel_rfl) _ _)
def anE:An:=Qq1 3 (.j ⟨[0,1],[],[],[]⟩ false (.s .z (.u (.l ⟨[0,1,71,72],[(73,.lf (.sc pi))],[],[]⟩ .z))) .z)
noncomputable def HQ:Cx:=dm CM 207 (rR CM Tryz.f207 anE [(.sc .bool)])
theorem Or:Qq0 HQ:=bL CI (lY CI aw Tryz.func207 (by kernel_rfl) (by kernel_rfl) _ _)
def ajg:An:=Qq1 3 (.j ⟨[0,3],[],[],[]⟩ false (.s .z (.u (.l ⟨[0,3,85,86],[(87,.lf (.sc pi))],[],[]⟩ .z))) (.j ⟨[0,3],[],[],[]⟩ false (.s .z (.u (.l ⟨[0,3,108,109],[(110,.lf (.sc pi))],[],[]⟩ .z))) (.j ⟨[0,3],[],[],[]⟩ false (.s .z (.u (.l ⟨[0,3,130],[(131,.lf (.sc pi))],[],[]⟩ .z))) .z)))
def J7:Ctr:=⟨⟨[.box false dc []],[(.sc .bool)],1,[],[]⟩,λx=>tH x⟩
def TH:Cx:=aD WW 170 J7
theorem Mi:Qq0 TH:=am FH (Qq2 Or Tryz.func170 (by kernel_rfl) ajg (λx=>by kernel_rfl) rfl)
def ah5:An:=.z
def JD:Ctr:=⟨⟨[.d (.sc pi),.d (.sc pi)],[(.sc .bool)],1,[],[]⟩,λx=>oJ x.1 x.2⟩
def Vk:Cx:=aD TH 169 JD
theorem Lt:Qq0 Vk:=am Mi (Qq2 Mi Tryz.func169 (by kernel_rfl) ah5 (λx=>by kernel_rfl) rfl)
def aiM:An:=.s .z (.j ⟨[0,1],[],[],[]⟩ false (.s .z (.u (.l ⟨[0,1,7],[(8,.lf (.sc pi))],[],[]⟩ .z))) .z)
def JR:Ctr:=⟨⟨[.d (.slice (.sc pi)),.d (.sc pi)],[(.sc pi)],1,[],[]⟩,λx=>rH x.1 x.2⟩
def Vf:Cx:=aD Vk 208 JR
theorem OF:Qq0 Vf:=am Lt (Qq2 Lt Tryz.func208 (by kernel_rfl) aiM (λx=>by kernel_rfl) rfl)
def ahS:An:=.z
def Iu:Ctr:=⟨⟨[.d (.slice (.sc pi)),.d (.sc pi)],[(.sc .bool)],1,[],[]⟩,λx=>pX x.1 x.2⟩
def J3:Cx:=aD Vf 171 Iu
theorem DJ:Qq0 J3:=am OF (Qq2 OF Tryz.func171 (by kernel_rfl) ahS (λx=>by kernel_rfl) rfl)
def H5:An:=.z
noncomputable def MU:Cx:=dm J3 46 (kL J3 Tryz.f46 H5)
theorem PN:Qq0 MU:=bL DJ (eA DJ aw Tryz.func46 (by kernel_rfl) (by kernel_rfl) _)
def ag5:An:=.z
def IQ:Ctr:=⟨⟨[.d eW,.d cS],[(.sc pi)],1,[],[]⟩,λx=>zU x.1 x.2⟩
def U9:Cx:=aD J3 108 IQ
theorem LD:Qq0 U9:=am DJ (Qq2 PN Tryz.func108 (by kernel_rfl) ag5 (λx=>by kernel_rfl) rfl)
def anl:An:=.z
def UO:Ctr:=⟨⟨[.d fP],[(.sc .bool)],1,[],[]⟩,λx=>sK x⟩
def abb:Cx:=aD U9 42 UO
theorem QK:Qq0 abb:=am LD (Qq2 LD Tryz.func42 (by kernel_rfl) anl (λx=>by kernel_rfl) rfl)
def aqm:An:=.z
def Xy:Ctr:=⟨⟨[.d eW,.d fP,.d cS],[(.sc pi)],1,[],[]⟩,λx=>uo x.1 x.2.1 x.2.2⟩
def UQ:Cx:=aD abb 56 Xy
theorem GF:Qq0 UQ:=am QK (Qq2 QK Tryz.func56 (by kernel_rfl) aqm (λx=>by kernel_rfl) rfl)
noncomputable def Dq:Cx:=dm UQ 110 (kL UQ Tryz.f110 qp)
theorem Cz:Qq0 Dq:=bL GF (eA GF aw Tryz.func110 (by kernel_rfl) (by kernel_rfl) _)
noncomputable def LT:Cx:=dm Dq 101 (rR Dq Tryz.f101 tG [aR])
theorem PY:Qq0 LT:=bL Cz (lY Cz aw Tryz.func101 (by kernel_rfl) (by kernel_rfl) _ _)
def ap6:An:=Qq1 3 (.j ⟨[0,2],[(4,.lf (.sc pi))],[],[3]⟩ false .z (.s .z (.s .z (.j ⟨[2,6,0,5],[],[(6,c42)],[]⟩ true .z .z))))
def V3:Ctr:=⟨⟨[.box false dc []],[rO],1,[],[⟨some 3,false,false⟩]⟩,λx=>qe x⟩
def U7:Cx:=aD UQ 57 V3
theorem GO:Qq0 U7:=am GF (Qq2 PY Tryz.func57 (by kernel_rfl) ap6 (λx=>by kernel_rfl) rfl)
noncomputable def Sx:Cx:=dm U7 46 (kL U7 Tryz.f46 H5)
theorem Ug:Qq0 Sx:=bL GO (eA GO aw Tryz.func46 (by kernel_rfl) (by kernel_rfl) _)
def aqk:An:=.z
def Vq:Ctr:=⟨⟨[.d eW,.d fP,.d cS],[rO,(.sc pi)],2,[],[⟨some 3,false,false⟩]⟩,λx=>vH x.1 x.2.1 x.2.2⟩
def Vm:Cx:=aD U7 18 Vq
theorem FC:Qq0 Vm:=am GO (Qq2 Ug Tryz.func18 (by kernel_rfl) aqk (λx=>by kernel_rfl) rfl)
noncomputable def Gz:Cx:=dm Vm 46 (kL Vm Tryz.f46 H5)
theorem ER:Qq0 Gz:=bL FC (eA FC aw Tryz.func46 (by kernel_rfl) (by kernel_rfl) _)
noncomputable def Fs:Cx:=dm Gz 62 (qM Gz Tryz.f62 Fa)
theorem E3:Qq0 Fs:=bL ER (jZ ER aw Tryz.func62 (by kernel_rfl) (by kernel_rfl) _)
noncomputable def C7:Cx:=dm Fs 110 (kL Fs Tryz.f110 qp)
theorem Co:Qq0 C7:=bL E3 (eA E3 aw Tryz.func110 (by kernel_rfl) (by kernel_rfl) _)
noncomputable def Qf:Cx:=dm C7 65 (qM C7 Tryz.f65 To)
theorem W5:Qq0 Qf:=bL Co (jZ Co aw Tryz.func65 (by kernel_rfl) (by kernel_rfl) _)
noncomputable def R4:Cx:=dm Qf 66 abp
theorem Ud:Qq0 R4:=bL W5 amm
def aoy:An:=Qq1 13 (.j ⟨[8,12],[],[(12,c18)],[14]⟩ true (.s .z (.u (.l ⟨[8,12,131,132],[(133,.lf (.sc pi))],[(12,c18)],[]⟩ .z))) .z)
def WC:Ctr:=⟨⟨[.d eW,.d fP,.d cS,.d (.sc pi)],[cS,(.slice ah),(.sc pi)],3,[],[⟨some 1870727804774333205280220053632888987722923590549622,false,false⟩,⟨some 3,false,false⟩,⟨none,true,true⟩,⟨some 3,false,false⟩,⟨some 3,false,false⟩,⟨some 153,false,false⟩]⟩,λx=>yV x.1 x.2.1 x.2.2.1 x.2.2.2⟩
def aeG:Cx:=aD Vm 24 WC
theorem Qt:Qq0 aeG:=am FC (Qq2 Ud Tryz.func24 (by kernel_rfl) aoy (λx=>by kernel_rfl) rfl)
def aqy:An:=.z
def UC:Ctr:=⟨⟨[.d aB,.box false (.sc .str) []],[(.sc .bool)],1,[],[]⟩,λx=>uy x.1 x.2⟩
def aaO:Cx:=aD aeG 45 UC
theorem Qu:Qq0 aaO:=am Qt (Qq2 Qt Tryz.func45 (by kernel_rfl) aqy (λx=>by kernel_rfl) rfl)
def Ys:An:=.s .z (.j ⟨[0,1],[],[],[]⟩ false (.s .z (.u (.l ⟨[0,1,7],[(8,.lf (.sc pi))],[],[]⟩ .z))) .z)
def EE:Ctr:=⟨⟨[.d (.slice aB),.clo 45 (.sc .str)],[(.sc pi)],1,[],[]⟩,λx=>jI x.1 x.2⟩
def Oy:Cx:=aD aaO 44 EE
theorem Ho:Qq0 Oy:=am Qu (Qq2 Qu Tryz.func44 (by kernel_rfl) Ys (λx=>by kernel_rfl) rfl)
def anu:An:=.z
def SJ:Ctr:=⟨⟨[.d (.sc .str),.d (.sc pi),.box false (.slice aB) []],[(.sc pi)],1,[],[]⟩,λx=>rJ x.1 x.2.1 x.2.2⟩
def Uw:Cx:=aD Oy 43 SJ
theorem Gk:Qq0 Uw:=am Ho (Qq2 Ho Tryz.func43 (by kernel_rfl) anu (λx=>by kernel_rfl) rfl)
noncomputable def FX:Cx:=dm Uw 46 (kL Uw Tryz.f46 H5)
theorem D8:Qq0 FX:=bL Gk (eA Gk aw Tryz.func46 (by kernel_rfl) (by kernel_rfl) _)
noncomputable def Q8:Cx:=dm FX 47 (kL FX Tryz.f47 T8)
theorem Xr:Qq0 Q8:=bL D8 (eA D8 aw Tryz.func47 (by kernel_rfl) (by kernel_rfl) _)
end
end Go.Proofs.YtfhhiajfciblbaaGreatDoor
