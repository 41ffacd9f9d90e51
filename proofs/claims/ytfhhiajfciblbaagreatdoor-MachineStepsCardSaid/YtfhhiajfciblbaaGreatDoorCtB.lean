/- Laws for the row. No condition. -/
import Derived.Test.YtfhhiajfciblbaaGreatDoorExtT
namespace Go.Proofs.YtfhhiajfciblbaaGreatDoor
open Go.Sm
set_option maxRecDepth 100000
set_option linter.unusedSectionVars false
section
variable [Itr] [SortLaw]
def acD:An:=.z
def Hb:Ctr:=⟨⟨[.d (.sc (.int .u64)),.d (.sc (.int .u64))],[(.sc (.int .u64)),(.sc (.int .u64))],2,[],[]⟩,fun x=>uW x.1 x.2⟩
def PZ:Cx:=aI Rl 241 Hb
theorem La:Qq0 PZ:=ai Lv (Qq2 Lv Tryz.func241 (by kernel_rfl) acD (fun x=>by kernel_rfl) rfl)
def aaj:An:=.z
def Fl:Ctr:=⟨⟨[.d (.sc (.int .u64)),.d (.sc (.int .u64))],[(.sc (.int .u64)),(.sc (.int .u64))],2,[],[]⟩,fun x=>xp x.1 x.2⟩
def OQ:Cx:=aI PZ 209 Fl
theorem HU:Qq0 OQ:=ai La (Qq2 La Tryz.func209 (by kernel_rfl) aaj (fun x=>by kernel_rfl) rfl)
def aca:An:=.s .z (.j ⟨[0,1],[],[],[]⟩ true .z (.s .z (.j ⟨[0,6,5],[],[],[]⟩ true .z (.s .z (.s .z (.j ⟨[],[(7,.lf (.own (.sc pi) 3 false []))],[],[8]⟩ true (.u (.l ⟨[],[(7,.lf (.own (.sc pi) 3 false [])),(8,.lf (.sc pi))],[],[]⟩ .z)) .z))))))
def FH:Ctr:=⟨⟨[.d (.slice (.sc pi)),.d (.sc pi)],[(.slice (.sc pi))],1,[],[⟨some 3,false,false⟩]⟩,fun x=>pW x.1 x.2⟩
def Ql:Cx:=aI OQ 172 FH
theorem JQ:Qq0 Ql:=ai HU (Qq2 HU Tryz.func172 (by kernel_rfl) aca (fun x=>by kernel_rfl) rfl)
def acM:An:=.z
def GK:Ctr:=⟨⟨[.d (.sc pi)],[(.slice (.sc pi))],1,[],[⟨some 3,false,false⟩]⟩,fun x=>gT x⟩
def Qo:Cx:=aI Ql 109 GK
theorem JA:Qq0 Qo:=ai JQ (Qq2 JQ Tryz.func109 (by kernel_rfl) acM (fun x=>by kernel_rfl) rfl)
def Z3:An:=.z
def GE:Ctr:=⟨⟨[.d (.slice ba)],[(.slice ba)],1,[],[⟨some 118,true,false⟩]⟩,fun x=>dV x⟩
theorem Yn:GE.sound Tryz.prog 118:=uR JA aq Tryz.func118 (by kernel_rfl) rfl (an:=Z3) (fun x=>(by kernel_rfl:GE.fn x=vo [.isn 0 false] Qo Tryz.f118 Z3 GE.toSig x)) (by kernel_rfl) rfl
def Sj:Cx:=aI Qo 118 GE
theorem IA:Qq0 Sj:=ai JA Yn
def acl:An:=.z
def Hi:Ctr:=⟨⟨[.d (.slice (.sc pi))],[(.slice (.sc pi))],1,[],[⟨some 3,false,false⟩]⟩,fun x=>dg x⟩
theorem YA:Hi.sound Tryz.prog 119:=uR IA aq Tryz.func119 (by kernel_rfl) rfl (an:=acl) (fun x=>(by kernel_rfl:Hi.fn x=vo [.isn 0 false] Sj Tryz.f119 acl Hi.toSig x)) (by kernel_rfl) rfl
def Rw:Cx:=aI Sj 119 Hi
theorem Jv:Qq0 Rw:=ai IA YA
def ZZ:An:=.z
def Ga:Ctr:=⟨⟨[.d (.slice cM)],[(.slice cM)],1,[],[⟨some 114,true,false⟩]⟩,fun x=>dc x⟩
theorem Yh:Ga.sound Tryz.prog 120:=uR Jv aq Tryz.func120 (by kernel_rfl) rfl (an:=ZZ) (fun x=>(by kernel_rfl:Ga.fn x=vo [.isn 0 false] Rw Tryz.f120 ZZ Ga.toSig x)) (by kernel_rfl) rfl
def RQ:Cx:=aI Rw 120 Ga
theorem Hs:Qq0 RQ:=ai Jv Yh
def aak:An:=.z
def Ge:Ctr:=⟨⟨[.d (.slice (.slice (.sc pi)))],[(.slice (.slice (.sc pi)))],1,[],[⟨some 22,true,false⟩]⟩,fun x=>jW x⟩
theorem VX:Ge.sound Tryz.prog 121:=uR Hs aq Tryz.func121 (by kernel_rfl) rfl (an:=aak) (fun x=>(by kernel_rfl:Ge.fn x=vo [.isn 0 false] RQ Tryz.f121 aak Ge.toSig x)) (by kernel_rfl) rfl
def PE:Cx:=aI RQ 121 Ge
theorem Iu:Qq0 PE:=ai Hs VX
def ahf:An:=.s .z (.s (.gg [] [.p0 1 (some 0) 1870727804774333205280220053632888987722923590549622]) (.j ⟨[1,2],[],[(1,c23)],[]⟩ true (.s .z (.u (.l ⟨[1,2,15],[(14,.lf (.al 2)),(16,.lf (.sc pi))],[(1,c23)],[]⟩ (.s .z (.s .z (.j ⟨[1,2,15,16],[(14,.lf (.al 1))],[(1,[.pt ba 1870727804774333205280220053632888987722923590549622 true [1000001],.rep (.sc pi) true [1000001],.rep (.slice (.sc pi)) true [1000001],.rep (.sc pi) true [1000001],.rep (.sc pi) true [1000001],.sc pi,.sc pi,.sc pi,.sc pi,.sc pi,.sc pi,.sc pi,.sc pi,.sc .str])],[]⟩ true (.u (.s .z (.s .z (.s (.gg [] [.p0 4 (some 0) 1547425049178910481010655346]) (.j ⟨[1,2,3,4,14,15,16],[],[(4,c35)],[]⟩ true (.s .z (.u (.l ⟨[1,2,3,4,14,15,16,31],[(30,.lf (.al 2)),(32,.lf (.sc pi))],[(4,c35)],[]⟩ .z))) (.g [.pf 4 (some 0)])))))) .z)))))) (.s (.g [.pf 1 (some 0)]) (.s (.gg [] [.p0 1 (some 2) 360314358468706326]) (.j ⟨[1,2],[],[(1,c19)],[53,56,59,65]⟩ true (.s .z (.u (.l ⟨[1,2,70],[(69,.lf (.al 4)),(71,.lf (.sc pi))],[(1,c19)],[53,56,59,65]⟩ .z))) (.s (.g [.pf 1 (some 2)]) .z))))))
def PR:Ctr:=⟨⟨[.d dp],[dp],1,[],[⟨some 1870727804774333205280220053632888987722923590549622,false,false⟩,⟨some 3,false,false⟩,⟨some 360314358468706326,false,false⟩,⟨some 3,false,false⟩,⟨some 3,false,false⟩]⟩,fun x=>im x⟩
def Xm:Cx:=aI PE 64 PR
theorem N4:Qq0 Xm:=ai Iu (Qq2 Iu Tryz.func64 (by kernel_rfl) ahf (fun x=>by kernel_rfl) rfl)
def acB:An:=.z
def Fz:Ctr:=⟨⟨[],[(.mp (.sc pi) (.sc .fnc))],1,[],[⟨some 0,false,false⟩]⟩,fun _=>ot ⟩
def Qu:Cx:=aI Xm 160 Fz
theorem Kr:Qq0 Qu:=ai N4 (Qq2 N4 Tryz.func160 (by kernel_rfl) acB (fun x=>by kernel_rfl) rfl)
def aar:An:=.z
def E5:Ctr:=⟨⟨[.d (.sc pi)],[(.sc .bool)],1,[],[]⟩,fun x=>qQ x⟩
def PM:Cx:=aI Qu 159 E5
theorem Jm:Qq0 PM:=ai Kr (Qq2 Kr Tryz.func159 (by kernel_rfl) aar (fun x=>by kernel_rfl) rfl)
def acr:An:=.z
def Hj:Ctr:=⟨⟨[.d (.sc pi)],[(.sc .bool)],1,[],[]⟩,fun x=>pv x⟩
def R5:Cx:=aI PM 242 Hj
theorem JL:Qq0 R5:=ai Jm (Qq2 Jm Tryz.func242 (by kernel_rfl) acr (fun x=>by kernel_rfl) rfl)
def abr:An:=.z
def Fo:Ctr:=⟨⟨[.d (.sc pi),.d (.sc pi)],[(.sc .bool)],1,[],[]⟩,fun x=>qB x.1 x.2⟩
def PJ:Cx:=aI R5 211 Fo
theorem Kk:Qq0 PJ:=ai JL (Qq2 JL Tryz.func211 (by kernel_rfl) abr (fun x=>by kernel_rfl) rfl)
def abm:An:=.z
def Fh:Ctr:=⟨⟨[.d (.sc pi)],[(.sc .bool)],1,[],[]⟩,fun x=>mK x⟩
def RL:Cx:=aI PJ 212 Fh
theorem Ke:Qq0 RL:=ai Kk (Qq2 Kk Tryz.func212 (by kernel_rfl) abm (fun x=>by kernel_rfl) rfl)
def aal:An:=Qq1 3 (.j ⟨[0,1,6],[(7,.lf (.sc pi))],[],[8]⟩ true (.u (.l ⟨[0,1,6],[(7,.lf (.sc pi)),(8,.lf (.sc pi))],[],[]⟩ .z)) .z)
def GA:Ctr:=⟨⟨[.d (.slice (.sc pi)),.d (.sc pi)],[(.sc pi),(.sc .bool)],2,[],[]⟩,fun x=>fY x.1 x.2⟩
def QT:Cx:=aI RL 176 GA
theorem Ir:Qq0 QT:=ai Ke (Qq2 Ke Tryz.func176 (by kernel_rfl) aal (fun x=>by kernel_rfl) rfl)
def abY:An:=.s .z (.s .z (.j ⟨[6],[(5,.lf (.sc pi))],[],[]⟩ true .z .z))
def F4:Ctr:=⟨⟨[.d eH,.d (.sc pi)],[(.sc pi)],1,[],[]⟩,fun x=>eB x.1 x.2⟩
def Pc:Cx:=aI QT 122 F4
theorem Kp:Qq0 Pc:=ai Ir (Qq2 Ir Tryz.func122 (by kernel_rfl) abY (fun x=>by kernel_rfl) rfl)
def acd:An:=.z
def FV:Ctr:=⟨⟨[.d (.sc pi),.d (.sc pi)],[(.sc pi)],1,[],[]⟩,fun x=>qF x.1 x.2⟩
theorem Ls:FV.sound Tryz.prog 201:=Qq2 Kp Tryz.func201 (by kernel_rfl) acd (fun x=>by kernel_rfl) rfl
def Se:Cx:=aI Pc 201 FV
theorem Ig:Qq0 Se:=ai Kp Ls
def aba:An:=.z
def Fg:Ctr:=⟨⟨[.d (.sc pi),.d (.sc pi)],[(.sc pi)],1,[],[]⟩,fun x=>qK x.1 x.2⟩
theorem Lj:Fg.sound Tryz.prog 202:=Qq2 Ig Tryz.func202 (by kernel_rfl) aba (fun x=>by kernel_rfl) rfl
def Rt:Cx:=aI Se 202 Fg
theorem JG:Qq0 Rt:=ai Ig Lj
def aam:An:=.z
def Fqw:Ctr:=⟨⟨[.d (.sc pi),.d (.sc pi)],[(.sc pi)],1,[],[]⟩,fun x=>qR x.1 x.2⟩
theorem II:Fqw.sound Tryz.prog 203:=Qq2 JG Tryz.func203 (by kernel_rfl) aam (fun x=>by kernel_rfl) rfl
def SF:Cx:=aI Rt 203 Fqw
theorem Iy:Qq0 SF:=ai JG II
def ahX:An:=.z
def Pm:Ctr:=⟨⟨[.d (.sc .bool)],[(.sc pi)],1,[],[]⟩,fun x=>gk x⟩
def Wf:Cx:=aI SF 75 Pm
theorem NE:Qq0 Wf:=ai Iy (Qq2 Iy Tryz.func75 (by kernel_rfl) ahX (fun x=>by kernel_rfl) rfl)
def abF:An:=.z
def F0:Ctr:=⟨⟨[.d (.sc pi),.d (.sc pi)],[(.sc pi)],1,[],[]⟩,fun x=>j6 x.1 x.2⟩
theorem Ku:F0.sound Tryz.prog 204:=Qq2 NE Tryz.func204 (by kernel_rfl) abF (fun x=>by kernel_rfl) rfl
def RY:Cx:=aI Wf 204 F0
theorem Hz:Qq0 RY:=ai NE Ku
def abU:An:=.z
def GX:Ctr:=⟨⟨[.d (.sc pi),.d (.sc pi)],[(.sc pi)],1,[],[]⟩,fun x=>jX x.1 x.2⟩
theorem IX:GX.sound Tryz.prog 205:=Qq2 Hz Tryz.func205 (by kernel_rfl) abU (fun x=>by kernel_rfl) rfl
def RS:Cx:=aI RY 205 GX
theorem Kj:Qq0 RS:=ai Hz IX
def abz:An:=.z
def GO:Ctr:=⟨⟨[.d (.sc pi),.d (.sc pi)],[(.sc pi)],1,[],[]⟩,fun x=>jY x.1 x.2⟩
theorem Is:GO.sound Tryz.prog 206:=Qq2 Kj Tryz.func206 (by kernel_rfl) abz (fun x=>by kernel_rfl) rfl
def R4:Cx:=aI RS 206 GO
theorem IU:Qq0 R4:=ai Kj Is
def Vq:DCtr:=⟨⟨[.d (.sc pi),.d (.sc pi)],[(.sc pi)],1,[],[]⟩,fun f x=>O2 f x.1 x.2⟩
theorem adp:DCtr.sound Tryz.prog Vq:=by
 intro f x r h
 simp only [Vq,O2] at h
 cases hb:Nat.beq f 201
 rotate_left
 ·rw [hb] at h; rw [Vb hb]; exact Ls x r h
 rw [hb] at h; simp only [no] at h
 cases hb:Nat.beq f 202
 rotate_left
 ·rw [hb] at h; rw [Vb hb]; exact Lj x r h
 rw [hb] at h; simp only [no] at h
 cases hb:Nat.beq f 203
 rotate_left
 ·rw [hb] at h; rw [Vb hb]; exact II x r h
 rw [hb] at h; simp only [no] at h
 cases hb:Nat.beq f 204
 rotate_left
 ·rw [hb] at h; rw [Vb hb]; exact Ku x r h
 rw [hb] at h; simp only [no] at h
 cases hb:Nat.beq f 205
 rotate_left
 ·rw [hb] at h; rw [Vb hb]; exact IX x r h
 rw [hb] at h; simp only [no] at h
 cases hb:Nat.beq f 206
 rotate_left
 ·rw [hb] at h; rw [Vb hb]; exact Is x r h
 rw [hb] at h; cases h
def Pg:Cx:=ahK R4 Vq false
theorem JK:Qq0 Pg:=afb IU adp
def oZ:An:=.z
noncomputable def AY:Cx:=cW Pg 110 (jR Pg Tryz.f110 oZ)
theorem zY:Qq0 AY:=bH JK (dZ JK aq Tryz.func110 (by kernel_rfl) (by kernel_rfl) _)
def rV:An:=.z
noncomputable def As:Cx:=cW AY 101 (qy AY Tryz.f101 rV [aP])
theorem z9:Qq0 As:=bH zY (ln zY aq Tryz.func101 (by kernel_rfl) (by kernel_rfl) _ _)
def acE:An:=.z
noncomputable def Dj:Cx:=cW As 99 (qy As Tryz.f99 acE [(.sc .bool)])
theorem Bo:Qq0 Dj:=bH z9 (ln z9 aq Tryz.func99 (by kernel_rfl) (by kernel_rfl) _ _)
def Qe:An:=.z
noncomputable def DJ:Cx:=cW Dj 65 (pC Dj Tryz.f65 Qe)
theorem Bz:Qq0 DJ:=bH Bo (ji Bo aq Tryz.func65 (by kernel_rfl) (by kernel_rfl) _)
def TW:An:=.z
noncomputable def Ai:Cx:=cW DJ 114 (pC DJ Tryz.f114 TW)
theorem Ac:Qq0 Ai:=bH Bz (ji Bz aq Tryz.func114 (by kernel_rfl) (by kernel_rfl) _)
def Ki:An:=.z
noncomputable def Bb:Cx:=cW Ai 115 (pC Ai Tryz.f115 Ki)
theorem zB:Qq0 Bb:=bH Ac (ji Ac aq Tryz.func115 (by kernel_rfl) (by kernel_rfl) _)
def Pw:An:=.z
noncomputable def Ds:Cx:=cW Bb 47 (jR Bb Tryz.f47 Pw)
theorem BH:Qq0 Ds:=bH zB (dZ zB aq Tryz.func47 (by kernel_rfl) (by kernel_rfl) _)
def ag3:An:=.s .z (.s (.g [.up 1 [1547425049178910481010655346,3]]) (.s .z (.s .z (.s (.s .z (.u (Qq1 7 (.s (.s .z (.s .z (.s (.g [.up 7 [3]]) .z))) (.s .z (.s .z (.s .z (.s .z (.s .z (.s (.s (.s .z (.s (.s .z (.g [.pa,.pa])) .z)) (.s .z (.s .z (.s .z (.g [.pa,.pa]))))) (.s .z (.s (.s .z (.s .z (.g [.pa,.pa]))) (.s .z (.s (.s .z (.s .z (.s (.k [0] [] []) .z))) (.s .z (.s .z (.s .z (.s (.s .z (.s (.s .z (.g [.pa,.pa])) .z)) .z)))))))))))))))))) (.s .z (.s .z (.g [.pa,.pa])))))))
noncomputable def AO:Cx:=cW Ds 100 (pC Ds Tryz.f100 ag3)
theorem zC:Qq0 AO:=bH BH (ji BH aq Tryz.func100 (by kernel_rfl) (by kernel_rfl) _)
def Bj:An:=.z
noncomputable def Nf:Cx:=cW AO 62 (pC AO Tryz.f62 Bj)
theorem Qn:Qq0 Nf:=bH zC (ji zC aq Tryz.func62 (by kernel_rfl) (by kernel_rfl) _)
def afP:An:=.u (Qq1 3 (.j ⟨[0,4],[],[(0,c17)],[5]⟩ false (.u (.l ⟨[0,4],[(5,.lf (.sc pi))],[(0,c17)],[]⟩ (.s .z (.u (.s (.u (.s .z (.s .z (.s .z (.s .z (.j ⟨[0,4,5],[(30,.lf (.sc .bool))],[(0,c14)],[]⟩ true .z .z)))))) .z))))) (.s .z (.s .z (.s .z (.u (.s .z (.s .z (.s .z (.s (.j ⟨[0,6],[],[(0,[.rep aP true [1000000],.rep (.sc pi) true [1000000],.rep (.sc pi) true [1000000],.rep aA true [1000000],.rep aA true [1000000],.rep (.sc .str) true [1000000],.rep (.sc .str) true [1000000],.rep (.sc .str) true [1000000],.sc pi,.sc pi,.sc pi,.own ba 1870727804774333205280220053632888987722923590549622 false [],.own (.sc pi) 3 false [],.rep (.slice (.sc pi)) true [1000000],.own (.sc pi) 3 false [],.own (.sc pi) 3 false [],.sc pi,.sc pi,.sc pi,.sc pi,.sc pi,.sc pi,.sc pi,.sc pi,.sc .str,.mp ae (.sc .bool)])],[]⟩ true .z .z) .z))))))))))
def RI:Ctr:=⟨⟨[.box true cR [none,none,none,none,none,none,none,none,some 1870727804774333205280220053632888987722923590549622,some 3,none,some 3,some 3,some 0],.d (.sc pi)],[cR],0,[0],[⟨none,true,true⟩,⟨none,true,true⟩,⟨none,true,true⟩,⟨none,true,true⟩,⟨none,true,true⟩,⟨none,true,true⟩,⟨none,true,true⟩,⟨none,true,true⟩,⟨some 1870727804774333205280220053632888987722923590549622,false,false⟩,⟨some 3,false,false⟩,⟨none,true,true⟩,⟨some 3,false,false⟩,⟨some 3,false,false⟩,⟨some 0,false,false⟩]⟩,fun x=>iJ x.1 x.2⟩
def QL:Cx:=aI R4 48 RI
theorem DN:Qq0 QL:=ai IU (Qq2 Qn Tryz.func48 (by kernel_rfl) afP (fun x=>by kernel_rfl) rfl)
noncomputable def yk:Cx:=cW QL 110 (jR QL Tryz.f110 oZ)
theorem xG:Qq0 yk:=bH DN (dZ DN aq Tryz.func110 (by kernel_rfl) (by kernel_rfl) _)
noncomputable def EC:Cx:=cW yk 101 (qy yk Tryz.f101 rV [aP])
theorem Lk:Qq0 EC:=bH xG (ln xG aq Tryz.func101 (by kernel_rfl) (by kernel_rfl) _ _)
def abS:An:=.s .z (.s .z (.j ⟨[0,1],[(5,.lf (.own (.sc pi) 3 false []))],[],[]⟩ true (.s .z (.u (.l ⟨[0,1,13],[(5,.lf (.own (.sc pi) 3 false [])),(14,.lf (.sc pi))],[],[]⟩ (.s .z (.s .z (.j ⟨[0,1,13,14],[(5,.lf (.own (.sc pi) 3 false []))],[],[]⟩ true .z .z)))))) .z))
def Fx:Ctr:=⟨⟨[.box false cR [],.d (.sc pi)],[(.slice (.sc pi))],1,[],[⟨some 3,false,false⟩]⟩,fun x=>du x.1 x.2⟩
def GT:Cx:=aI QL 111 Fx
theorem Ah:Qq0 GT:=ai DN (Qq2 Lk Tryz.func111 (by kernel_rfl) abS (fun x=>by kernel_rfl) rfl)
noncomputable def AI:Cx:=cW GT 110 (jR GT Tryz.f110 oZ)
theorem zX:Qq0 AI:=bH Ah (dZ Ah aq Tryz.func110 (by kernel_rfl) (by kernel_rfl) _)
noncomputable def H8:Cx:=cW AI 101 (qy AI Tryz.f101 rV [aP])
theorem LO:Qq0 H8:=bH zX (ln zX aq Tryz.func101 (by kernel_rfl) (by kernel_rfl) _ _)
def afQ:An:=.s .z (.s .z (.j ⟨[0],[(3,.lf (.own (.sc pi) 3 false []))],[],[]⟩ true (.s .z (.u (.l ⟨[0,14],[(3,.lf (.own (.sc pi) 3 false [])),(15,.lf (.sc pi))],[],[]⟩ (.s .z (.s .z (.j ⟨[0,14,15],[(3,.lf (.own (.sc pi) 3 false []))],[],[]⟩ true (.u (Qq1 4 (.j ⟨[0,3,4,14,15,5,6],[(7,.lf (.sc .bool))],[],[]⟩ true .z .z))) .z)))))) .z))
def Rf:Ctr:=⟨⟨[.box false cR []],[(.slice (.sc pi))],1,[],[⟨some 3,false,false⟩]⟩,fun x=>eQ x⟩
def OF:Cx:=aI GT 61 Rf
theorem Dr:Qq0 OF:=ai Ah (Qq2 LO Tryz.func61 (by kernel_rfl) afQ (fun x=>by kernel_rfl) rfl)
noncomputable def A9:Cx:=cW OF 110 (jR OF Tryz.f110 oZ)
theorem zG:Qq0 A9:=bH Dr (dZ Dr aq Tryz.func110 (by kernel_rfl) (by kernel_rfl) _)
noncomputable def CE:Cx:=cW A9 65 (pC A9 Tryz.f65 Qe)
theorem BY:Qq0 CE:=bH zG (ji zG aq Tryz.func65 (by kernel_rfl) (by kernel_rfl) _)
noncomputable def Lx:Cx:=cW CE 101 (qy CE Tryz.f101 rV [aP])
theorem LL:Qq0 Lx:=bH BY (ln BY aq Tryz.func101 (by kernel_rfl) (by kernel_rfl) _ _)
def agD:An:=.s .z (.s .z (.j ⟨[0],[(2,.lf (.sc pi))],[],[]⟩ true (.s .z (.u (.l ⟨[0,37],[(2,.lf (.sc pi)),(38,.lf (.sc pi))],[],[]⟩ (.s .z (.s .z (.j ⟨[0,37,38],[(2,.lf (.sc pi))],[],[]⟩ true .z .z)))))) .z))
def OM:Ctr:=⟨⟨[.box true cR [none,none,none,none,none,none,none,none,some 1870727804774333205280220053632888987722923590549622,some 3,none,some 3,some 3,some 0]],[cR],0,[0],[⟨none,true,false⟩,⟨none,true,false⟩,⟨none,true,false⟩,⟨none,true,false⟩,⟨none,true,false⟩,⟨none,true,false⟩,⟨none,true,false⟩,⟨none,true,false⟩,⟨some 1870727804774333205280220053632888987722923590549622,false,false⟩,⟨some 3,false,false⟩,⟨none,true,false⟩,⟨some 3,false,false⟩,⟨some 3,false,false⟩,⟨some 0,false,false⟩]⟩,fun x=>i8 x⟩
def X2:Cx:=aI OF 49 OM
theorem Nn:Qq0 X2:=ai Dr (Qq2 LL Tryz.func49 (by kernel_rfl) agD (fun x=>by kernel_rfl) rfl)
def aaf:An:=.s .z (.s .z (.j ⟨[0],[(3,.lf (.sc pi))],[],[]⟩ true (.s .z (.u (.l ⟨[10,11],[(3,.lf (.sc pi)),(12,.lf (.sc pi))],[],[]⟩ .z))) .z))
def Fm:Ctr:=⟨⟨[.box false cR []],[(.sc pi)],1,[],[]⟩,fun x=>kL x⟩
def Gz:Cx:=aI X2 175 Fm
theorem Az:Qq0 Gz:=ai Nn (Qq2 Nn Tryz.func175 (by kernel_rfl) aaf (fun x=>by kernel_rfl) rfl)
noncomputable def AM:Cx:=cW Gz 62 (pC Gz Tryz.f62 Bj)
theorem zT:Qq0 AM:=bH Az (ji Az aq Tryz.func62 (by kernel_rfl) (by kernel_rfl) _)
noncomputable def xV:Cx:=cW AM 110 (jR AM Tryz.f110 oZ)
theorem yN:Qq0 xV:=bH zT (dZ zT aq Tryz.func110 (by kernel_rfl) (by kernel_rfl) _)
noncomputable def HC:Cx:=cW xV 47 (jR xV Tryz.f47 Pw)
theorem LQ:Qq0 HC:=bH yN (dZ yN aq Tryz.func47 (by kernel_rfl) (by kernel_rfl) _)
def aaZ:An:=Qq1 3 (.s (.gg [.ug 0 (some 11) (some 1) ba [1547425049178910481010655346,3]] [.pa]) .z)
def Ff:Ctr:=⟨⟨c32,[(.slice (.sc pi)),(.sc .bool),cR],2,[0],[⟨some 3,false,false⟩,⟨none,true,false⟩,⟨none,true,false⟩,⟨none,true,false⟩,⟨none,true,false⟩,⟨none,true,false⟩,⟨none,true,false⟩,⟨none,true,false⟩,⟨none,true,false⟩,⟨some 1870727804774333205280220053632888987722923590549622,false,false⟩,⟨some 3,false,false⟩,⟨some 360314358468706326,false,false⟩,⟨some 3,false,false⟩,⟨some 3,false,false⟩,⟨some 0,false,false⟩]⟩,fun x=>ly x.1 x.2.1 x.2.2⟩
def GL:Cx:=aI Gz 116 Ff
theorem Ba:Qq0 GL:=ai Az (Qq2 LQ Tryz.func116 (by kernel_rfl) aaZ (fun x=>by kernel_rfl) rfl)
noncomputable def AH:Cx:=cW GL 62 (pC GL Tryz.f62 Bj)
theorem zH:Qq0 AH:=bH Ba (ji Ba aq Tryz.func62 (by kernel_rfl) (by kernel_rfl) _)
noncomputable def x9:Cx:=cW AH 115 (pC AH Tryz.f115 Ki)
theorem yL:Qq0 x9:=bH zH (ji zH aq Tryz.func115 (by kernel_rfl) (by kernel_rfl) _)
noncomputable def ye:Cx:=cW x9 110 (jR x9 Tryz.f110 oZ)
theorem yR:Qq0 ye:=bH yL (dZ yL aq Tryz.func110 (by kernel_rfl) (by kernel_rfl) _)
noncomputable def EA:Cx:=cW ye 101 (qy ye Tryz.f101 rV [aP])
theorem Km:Qq0 EA:=bH yR (ln yR aq Tryz.func101 (by kernel_rfl) (by kernel_rfl) _ _)
def Z9:An:=Qq1 3 (.s (.gg [.up 10 [1547425049178910481010655346,3]] [.pa]) (.s .z (.s (.s .z (.s (.s (.gg [.up 10 [1547425049178910481010655346,3]] [.pa]) (.s (.k [2000000] [.ug 0 (some 13) (some 3) (.slice (.sc pi)) [3]] [.pa]) .z)) .z)) (.s .z (.s (.gg [.up 10 [1547425049178910481010655346,3]] [.pa]) (.s .z (.s (.gg [.up 14 [1547425049178910481010655346,3],.ug 14 (some 0) none cM [3]] [.pa,.pa]) (.s (.gg [.up 14 [1547425049178910481010655346,3]] [.pa]) .z))))))))
def FL:Ctr:=⟨⟨[.box true cR [none,none,none,none,none,none,none,none,some 1870727804774333205280220053632888987722923590549622,some 3,some 360314358468706326,some 3,some 3,some 0],.d (.sc pi),.d (.sc pi),.d (.sc pi)],[(.slice (.sc pi)),(.sc .bool),cR],2,[0],[⟨some 3,false,false⟩,⟨none,true,false⟩,⟨none,true,false⟩,⟨none,true,false⟩,⟨none,true,false⟩,⟨none,true,false⟩,⟨none,true,false⟩,⟨none,true,false⟩,⟨none,true,false⟩,⟨some 1870727804774333205280220053632888987722923590549622,false,false⟩,⟨some 3,false,false⟩,⟨some 360314358468706326,false,false⟩,⟨some 3,false,false⟩,⟨some 3,false,false⟩,⟨some 0,false,false⟩]⟩,fun x=>ni x.1 x.2.1 x.2.2.1 x.2.2.2⟩
def G9:Cx:=aI GL 117 FL
theorem Al:Qq0 G9:=ai Ba (Qq2 Km Tryz.func117 (by kernel_rfl) Z9 (fun x=>by kernel_rfl) rfl)
noncomputable def A6:Cx:=cW G9 110 (jR G9 Tryz.f110 oZ)
theorem zM:Qq0 A6:=bH Al (dZ Al aq Tryz.func110 (by kernel_rfl) (by kernel_rfl) _)
noncomputable def Af:Cx:=cW A6 101 (qy A6 Tryz.f101 rV [aP])
theorem zF:Qq0 Af:=bH zM (ln zM aq Tryz.func101 (by kernel_rfl) (by kernel_rfl) _ _)
noncomputable def De:Cx:=cW Af 62 (pC Af Tryz.f62 Bj)
theorem BE:Qq0 De:=bH zF (ji zF aq Tryz.func62 (by kernel_rfl) (by kernel_rfl) _)
noncomputable def AP:Cx:=cW De 114 (pC De Tryz.f114 TW)
theorem zI:Qq0 AP:=bH BE (ji BE aq Tryz.func114 (by kernel_rfl) (by kernel_rfl) _)
noncomputable def JY:Cx:=cW AP 115 (pC AP Tryz.f115 Ki)
theorem LA:Qq0 JY:=bH zI (ji zI aq Tryz.func115 (by kernel_rfl) (by kernel_rfl) _)
def agp:An:=Qq1 5 (.j ⟨[0,1,8,2,9],[(10,.lf (.sc .bool))],[(0,[.rep aP true [],.rep (.sc pi) true [],.rep (.sc pi) true [],.rep aA true [],.rep aA true [],.rep (.sc .str) true [],.rep (.sc .str) true [],.rep (.sc .str) true [],.sc pi,.sc pi,.sc pi,.ownk ba 1870727804774333205280220053632888987722923590549622 9,.own (.sc pi) 3 false [],.rep (.slice (.sc pi)) true [1000000],.own (.sc pi) 3 false [],.own (.sc pi) 3 false [],.sc pi,.sc pi,.sc pi,.sc pi,.sc pi,.sc pi,.sc pi,.sc pi,.sc .str,.mp ae (.sc .bool)])],[]⟩ false (.s .z (.u (.s .z (.s (.s .z (.gg [.up 8 [1547425049178910481010655346,3]] [.pa])) (.s .z (.s (.s .z (.s (.gg [.up 8 [1547425049178910481010655346,3]] [.pa]) .z)) (.s .z (.s .z (.s .z (.s .z (.s .z (.s (.s .z (.s (.gg [.up 8 [1547425049178910481010655346,3],.ug 8 (some 0) none cM [3]] [.pa,.pa]) (.gg [.ug 0 (some 13) (some 96) (.slice (.sc pi)) [3]] [.pr 0 (some 13)]))) (.s .z (.s .z (.s .z (.s .z (.s .z (.s (.gg [.up 8 [1547425049178910481010655346,3],.ug 8 (some 0) none cM [3]] [.pa,.pa]) (.s .z (.s (.s .z (.s .z (.gg [.up 8 [1547425049178910481010655346,3],.ug 8 (some 0) none cM [3]] [.pa,.pa]))) (.s .z (.s .z (.s .z (.s (.s .z (.s (.gg [.up 8 [1547425049178910481010655346,3]] [.pa]) .z)) (.s .z (.s (.s .z (.gg [.up 8 [1547425049178910481010655346,3],.ug 8 (some 0) none cM [3]] [.pa,.pa])) (.s .z (.s (.gg [.up 8 [1547425049178910481010655346,3]] [.pa]) (.j ⟨[0,1],[],[(0,c16)],[]⟩ true .z .z))))))))))))))))))))))))))))) (.j ⟨[0,1,10,8],[],[(0,c14)],[]⟩ true (.s .z (.s (.gg [.up 8 [1547425049178910481010655346,3]] [.pa]) .z)) .z))
def Ps:Ctr:=⟨⟨c32,[(.slice (.sc pi)),(.sc .bool),cR],2,[0],[⟨some 3,false,false⟩,⟨none,true,true⟩,⟨none,true,true⟩,⟨none,true,true⟩,⟨none,true,true⟩,⟨none,true,true⟩,⟨none,true,true⟩,⟨none,true,true⟩,⟨none,true,true⟩,⟨some 1870727804774333205280220053632888987722923590549622,false,false⟩,⟨some 3,false,false⟩,⟨none,true,true⟩,⟨some 3,false,false⟩,⟨some 3,false,false⟩,⟨some 0,false,false⟩]⟩,fun x=>lA x.1 x.2.1 x.2.2⟩
def YU:Cx:=aI G9 63 Ps
theorem MQ:Qq0 YU:=ai Al (Qq2 LA Tryz.func63 (by kernel_rfl) agp (fun x=>by kernel_rfl) rfl)
def aaA:An:=.s .z (.s .z (.j ⟨[0],[(3,.lf (.own (.sc .str) 9 false []))],[],[]⟩ true (.s .z (.u (.l ⟨[6,7],[(3,.lf (.own (.sc .str) 9 false [])),(8,.lf (.sc pi))],[],[]⟩ .z))) .z))
def FU:Ctr:=⟨⟨[.d (.slice aA)],[(.slice (.sc .str))],1,[],[⟨some 9,false,false⟩]⟩,fun x=>sQ x⟩
def RE:Cx:=aI YU 156 FU
theorem Jg:Qq0 RE:=ai MQ (Qq2 MQ Tryz.func156 (by kernel_rfl) aaA (fun x=>by kernel_rfl) rfl)
def abv:An:=.z
def Gx:Ctr:=⟨⟨[.d aA],[(.sc .bool)],1,[],[]⟩,fun x=>sC x⟩
def O6:Cx:=aI RE 158 Gx
theorem H7:Qq0 O6:=ai Jg (Qq2 Jg Tryz.func158 (by kernel_rfl) abv (fun x=>by kernel_rfl) rfl)
def ahx:An:=.s .z (.j ⟨[0,1],[],[],[]⟩ false (.s .z (.u (.l ⟨[0,1,7],[(8,.lf (.sc pi))],[],[]⟩ .z))) .z)
def SD:Ctr:=⟨⟨[.d (.slice aA),.fn 158],[(.sc pi)],1,[],[]⟩,fun x=>fQ x.1⟩
def U6:Cx:=aI O6 44 SD
theorem NQ:Qq0 U6:=ai H7 (Qq2 H7 Tryz.func44 (by kernel_rfl) ahx (fun x=>by kernel_rfl) rfl)
def ab3:An:=.z
def Gu:Ctr:=⟨⟨[.d (.slice aA),.fn 158],[(.sc .bool)],1,[],[]⟩,fun x=>dy x.1⟩
def OB:Cx:=aI U6 157 Gu
theorem HP:Qq0 OB:=ai NQ (Qq2 NQ Tryz.func157 (by kernel_rfl) ab3 (fun x=>by kernel_rfl) rfl)
def afv:An:=Qq1 3 (.j ⟨[1,3],[],[],[]⟩ false (.s .z (.u (.l ⟨[1,3,56,57],[(58,.lf (.sc pi))],[],[]⟩ (.s .z (.s .z (.j ⟨[1,3,56,57,58],[],[],[]⟩ false (.u (.s .z (.s .z (.u (.l ⟨[1,3,5,56,57,58,63],[(64,.lf (.sc pi))],[],[]⟩ .z))))) .z)))))) (.j ⟨[1,3],[],[],[]⟩ false (.s .z (.u (.l ⟨[1,83],[(84,.lf (.sc pi))],[],[]⟩ .z))) .z))
def Ok:Ctr:=⟨⟨[.d eH],[(.sc .bool)],1,[],[]⟩,fun x=>rC x⟩
def Xi:Cx:=aI OB 96 Ok
theorem MV:Qq0 Xi:=ai HP (Qq2 HP Tryz.func96 (by kernel_rfl) afv (fun x=>by kernel_rfl) rfl)
def air:An:=.s .z (.s .z (.j ⟨[1],[(3,.lf (.own lU 185 false []))],[],[]⟩ true (.s .z (.u (.l ⟨[1,8,9],[(3,.lf (.own lU 185 false [])),(10,.lf (.sc pi))],[],[]⟩ (.s .z (.s .z (.j ⟨[1,8,9,10],[(3,.lf (.own lU 185 false []))],[],[]⟩ true (.u (.s .z (.s .z (.j ⟨[1,3,4,5,8,9,10],[(6,.lf (.sc pi))],[],[]⟩ true .z .z)))) .z)))))) .z))
def Sr:Ctr:=⟨⟨[.d eH],[(.slice lU)],1,[],[⟨some 185,false,false⟩]⟩,fun x=>ti x⟩
def VM:Cx:=aI Xi 97 Sr
theorem M3:Qq0 VM:=ai MV (Qq2 MV Tryz.func97 (by kernel_rfl) air (fun x=>by kernel_rfl) rfl)
def agJ:An:=Qq1 7 (.j ⟨[7,8,12,3,4],[(10,.lf (.sc pi)),(11,.lf (.sc pi))],[],[]⟩ false (.s .z (.u (.j ⟨[3,4,7,8,10,12,94],[(95,.lf (.sc .bool))],[],[]⟩ true .z (.s .z (.j ⟨[3,4,7,8,10,12,94],[(100,.lf (.sc .bool))],[],[]⟩ true .z (.s .z (.j ⟨[3,4,7,8,10,12,94],[(107,.lf (.sc .bool))],[],[]⟩ true .z (.s .z (.s .z (.s .z (.s .z (.s .z (.j ⟨[3,7,8,10,12,94],[(127,.lf (.sc .bool))],[],[]⟩ true .z (.s .z (.j ⟨[3,7,8,10,12,94],[(133,.lf (.sc .bool))],[],[]⟩ true .z (.s .z (.j ⟨[3,7,8,10,12,94],[(139,.lf (.sc .bool))],[],[]⟩ true .z (.s .z (.s .z (.s .z (.s .z (.s .z (.j ⟨[3,7,8,10,12,94],[(149,.lf (.sc .bool))],[],[]⟩ true .z .z))))))))))))))))))))))) .z)
def O9:Ctr:=⟨⟨[.d eH,.d lU,.d (.sc pi)],[(.sc .bool)],1,[],[]⟩,fun x=>vc x.1 x.2.1 x.2.2⟩
def Yd:Cx:=aI VM 98 O9
theorem MS:Qq0 Yd:=ai M3 (Qq2 M3 Tryz.func98 (by kernel_rfl) agJ (fun x=>by kernel_rfl) rfl)
def agU:An:=Qq1 3 (.j ⟨[1],[],[],[]⟩ false (.s .z (.u (.l ⟨[1,15,16],[(17,.lf (.sc pi))],[],[]⟩ (.s .z (.s .z (.j ⟨[1,15,16,17],[],[],[]⟩ false (.u (.s .z (.s .z (.u (.l ⟨[1,5,15,16,17],[(6,.lf (.sc pi))],[],[]⟩ .z))))) .z)))))) .z)
def RK:Ctr:=⟨⟨[.d eH],[(.sc pi),(.sc pi)],2,[],[]⟩,fun x=>oz x⟩
def Ou:Cx:=aI Yd 41 RK
theorem Dl:Qq0 Ou:=ai MS (Qq2 MS Tryz.func41 (by kernel_rfl) agU (fun x=>by kernel_rfl) rfl)
noncomputable def x6:Cx:=cW Ou 110 (jR Ou Tryz.f110 oZ)
theorem x5:Qq0 x6:=bH Dl (dZ Dl aq Tryz.func110 (by kernel_rfl) (by kernel_rfl) _)
noncomputable def ym:Cx:=cW x6 101 (qy x6 Tryz.f101 rV [aP])
theorem x8:Qq0 ym:=bH x5 (ln x5 aq Tryz.func101 (by kernel_rfl) (by kernel_rfl) _ _)
noncomputable def Bf:Cx:=cW ym 99 (qy ym Tryz.f99 acE [(.sc .bool)])
theorem Ad:Qq0 Bf:=bH x8 (ln x8 aq Tryz.func99 (by kernel_rfl) (by kernel_rfl) _ _)
def aih:An:=Qq1 3 (.j ⟨[0,1],[],[],[]⟩ false (.s .z (.u (.l ⟨[0,1,71,72],[(73,.lf (.sc pi))],[],[]⟩ .z))) .z)
noncomputable def DT:Cx:=cW Bf 207 (qy Bf Tryz.f207 aih [(.sc .bool)])
theorem KU:Qq0 DT:=bH Ad (ln Ad aq Tryz.func207 (by kernel_rfl) (by kernel_rfl) _ _)
def acW:An:=Qq1 3 (.j ⟨[0,3],[],[],[]⟩ false (.s .z (.u (.l ⟨[0,3,85,86],[(87,.lf (.sc pi))],[],[]⟩ .z))) (.j ⟨[0,3],[],[],[]⟩ false (.s .z (.u (.l ⟨[0,3,108,109],[(110,.lf (.sc pi))],[],[]⟩ .z))) (.j ⟨[0,3],[],[],[]⟩ false (.s .z (.u (.l ⟨[0,3,130],[(131,.lf (.sc pi))],[],[]⟩ .z))) .z)))
def Gk:Ctr:=⟨⟨[.box false cR []],[(.sc .bool)],1,[],[]⟩,fun x=>lu x⟩
def QH:Cx:=aI Ou 170 Gk
theorem Hv:Qq0 QH:=ai Dl (Qq2 KU Tryz.func170 (by kernel_rfl) acW (fun x=>by kernel_rfl) rfl)
def Z8:An:=.z
def Fk:Ctr:=⟨⟨[.d (.sc pi),.d (.sc pi)],[(.sc .bool)],1,[],[]⟩,fun x=>lD x.1 x.2⟩
def RH:Cx:=aI QH 169 Fk
theorem Jk:Qq0 RH:=ai Hv (Qq2 Hv Tryz.func169 (by kernel_rfl) Z8 (fun x=>by kernel_rfl) rfl)
def aaU:An:=.s .z (.j ⟨[0,1],[],[],[]⟩ false (.s .z (.u (.l ⟨[0,1,7],[(8,.lf (.sc pi))],[],[]⟩ .z))) .z)
def Ha:Ctr:=⟨⟨[.d (.slice (.sc pi)),.d (.sc pi)],[(.sc pi)],1,[],[]⟩,fun x=>mQ x.1 x.2⟩
def R8:Cx:=aI RH 208 Ha
theorem Lg:Qq0 R8:=ai Jk (Qq2 Jk Tryz.func208 (by kernel_rfl) aaU (fun x=>by kernel_rfl) rfl)
def aab:An:=.z
def FE:Ctr:=⟨⟨[.d (.slice (.sc pi)),.d (.sc pi)],[(.sc .bool)],1,[],[]⟩,fun x=>iw x.1 x.2⟩
def Fu:Cx:=aI R8 171 FE
theorem Aj:Qq0 Fu:=ai Lg (Qq2 Lg Tryz.func171 (by kernel_rfl) aab (fun x=>by kernel_rfl) rfl)
def FO:An:=.z
noncomputable def HJ:Cx:=cW Fu 46 (jR Fu Tryz.f46 FO)
theorem L3:Qq0 HJ:=bH Aj (dZ Aj aq Tryz.func46 (by kernel_rfl) (by kernel_rfl) _)
def acF:An:=.z
def G0:Ctr:=⟨⟨[.d eH,.d dp],[(.sc pi)],1,[],[]⟩,fun x=>pn x.1 x.2⟩
def Qa:Cx:=aI Fu 108 G0
theorem HS:Qq0 Qa:=ai Aj (Qq2 L3 Tryz.func108 (by kernel_rfl) acF (fun x=>by kernel_rfl) rfl)
def ahG:An:=.z
def Qi:Ctr:=⟨⟨[.d fW],[(.sc .bool)],1,[],[]⟩,fun x=>mr x⟩
def Vd:Cx:=aI Qa 42 Qi
theorem Mm:Qq0 Vd:=ai HS (Qq2 HS Tryz.func42 (by kernel_rfl) ahG (fun x=>by kernel_rfl) rfl)
def agE:An:=.z
def PQ:Ctr:=⟨⟨[.d eH,.d fW,.d dp],[(.sc pi)],1,[],[]⟩,fun x=>jI x.1 x.2.1 x.2.2⟩
def PU:Cx:=aI Vd 56 PQ
theorem Dm:Qq0 PU:=ai Mm (Qq2 Mm Tryz.func56 (by kernel_rfl) agE (fun x=>by kernel_rfl) rfl)
noncomputable def Av:Cx:=cW PU 110 (jR PU Tryz.f110 oZ)
theorem Ab:Qq0 Av:=bH Dm (dZ Dm aq Tryz.func110 (by kernel_rfl) (by kernel_rfl) _)
noncomputable def JB:Cx:=cW Av 101 (qy Av Tryz.f101 rV [aP])
theorem LS:Qq0 JB:=bH Ab (ln Ab aq Tryz.func101 (by kernel_rfl) (by kernel_rfl) _ _)
def ahq:An:=Qq1 3 (.j ⟨[0,2],[(4,.lf (.sc pi))],[],[3]⟩ false .z (.s .z (.s .z (.j ⟨[2,6,0,5],[],[(6,c38)],[]⟩ true .z .z))))
def Sc:Ctr:=⟨⟨[.box false cR []],[nP],1,[],[⟨some 3,false,false⟩]⟩,fun x=>ii x⟩
def Sn:Cx:=aI PU 57 Sc
theorem C8:Qq0 Sn:=ai Dm (Qq2 LS Tryz.func57 (by kernel_rfl) ahq (fun x=>by kernel_rfl) rfl)
noncomputable def Mg:Cx:=cW Sn 46 (jR Sn Tryz.f46 FO)
theorem Qs:Qq0 Mg:=bH C8 (dZ C8 aq Tryz.func46 (by kernel_rfl) (by kernel_rfl) _)
def ahP:An:=.z
def QQ:Ctr:=⟨⟨[.d eH,.d fW,.d dp],[nP,(.sc pi)],2,[],[⟨some 3,false,false⟩]⟩,fun x=>ml x.1 x.2.1 x.2.2⟩
def QK:Cx:=aI Sn 18 QQ
theorem CT:Qq0 QK:=ai C8 (Qq2 Qs Tryz.func18 (by kernel_rfl) ahP (fun x=>by kernel_rfl) rfl)
noncomputable def CN:Cx:=cW QK 46 (jR QK Tryz.f46 FO)
theorem Ce:Qq0 CN:=bH CT (dZ CT aq Tryz.func46 (by kernel_rfl) (by kernel_rfl) _)
noncomputable def Dv:Cx:=cW CN 62 (pC CN Tryz.f62 Bj)
theorem B0:Qq0 Dv:=bH Ce (ji Ce aq Tryz.func62 (by kernel_rfl) (by kernel_rfl) _)
noncomputable def Bc:Cx:=cW Dv 110 (jR Dv Tryz.f110 oZ)
theorem zJ:Qq0 Bc:=bH B0 (dZ B0 aq Tryz.func110 (by kernel_rfl) (by kernel_rfl) _)
noncomputable def ND:Cx:=cW Bc 65 (pC Bc Tryz.f65 Qe)
theorem Rb:Qq0 ND:=bH zJ (ji zJ aq Tryz.func65 (by kernel_rfl) (by kernel_rfl) _)
noncomputable def MT:Cx:=cW ND 66 W2
theorem Qj:Qq0 MT:=bH Rb aeQ
def afO:An:=Qq1 13 (.j ⟨[8,12],[],[(12,c13)],[14]⟩ true (.s .z (.u (.l ⟨[8,12,131,132],[(133,.lf (.sc pi))],[(12,c13)],[]⟩ .z))) .z)
def Sq:Ctr:=⟨⟨[.d eH,.d fW,.d dp,.d (.sc pi)],[dp,(.slice ae),(.sc pi)],3,[],[⟨some 1870727804774333205280220053632888987722923590549622,false,false⟩,⟨some 3,false,false⟩,⟨none,true,true⟩,⟨some 3,false,false⟩,⟨some 3,false,false⟩,⟨some 153,false,false⟩]⟩,fun x=>gX x.1 x.2.1 x.2.2.1 x.2.2.2⟩
def VP:Cx:=aI QK 24 Sq
theorem Nx:Qq0 VP:=ai CT (Qq2 Qj Tryz.func24 (by kernel_rfl) afO (fun x=>by kernel_rfl) rfl)
def ag7:An:=.z
def Rq:Ctr:=⟨⟨[.d aA,.box false (.sc .str) []],[(.sc .bool)],1,[],[]⟩,fun x=>oR x.1 x.2⟩
def Wv:Cx:=aI VP 45 Rq
theorem MD:Qq0 Wv:=ai Nx (Qq2 Nx Tryz.func45 (by kernel_rfl) ag7 (fun x=>by kernel_rfl) rfl)
def TL:An:=.s .z (.j ⟨[0,1],[],[],[]⟩ false (.s .z (.u (.l ⟨[0,1,7],[(8,.lf (.sc pi))],[],[]⟩ .z))) .z)
def Cv:Ctr:=⟨⟨[.d (.slice aA),.clo 45 (.sc .str)],[(.sc pi)],1,[],[]⟩,fun x=>fA x.1 x.2⟩
def JI:Cx:=aI Wv 44 Cv
theorem DQ:Qq0 JI:=ai MD (Qq2 MD Tryz.func44 (by kernel_rfl) TL (fun x=>by kernel_rfl) rfl)
def afY:An:=.z
def Pt:Ctr:=⟨⟨[.d (.sc .str),.d (.sc pi),.box false (.slice aA) []],[(.sc pi)],1,[],[]⟩,fun x=>lw x.1 x.2.1 x.2.2⟩
def R1:Cx:=aI JI 43 Pt
theorem Cw:Qq0 R1:=ai DQ (Qq2 DQ Tryz.func43 (by kernel_rfl) afY (fun x=>by kernel_rfl) rfl)
noncomputable def CS:Cx:=cW R1 46 (jR R1 Tryz.f46 FO)
theorem Ca:Qq0 CS:=bH Cw (dZ Cw aq Tryz.func46 (by kernel_rfl) (by kernel_rfl) _)
noncomputable def Of:Cx:=cW CS 47 (jR CS Tryz.f47 Pw)
theorem Pq:Qq0 Of:=bH Ca (dZ Ca aq Tryz.func47 (by kernel_rfl) (by kernel_rfl) _)
end
end Go.Proofs.YtfhhiajfciblbaaGreatDoor
