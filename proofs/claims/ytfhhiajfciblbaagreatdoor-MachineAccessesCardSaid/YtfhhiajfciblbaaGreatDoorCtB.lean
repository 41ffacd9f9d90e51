/- Laws for the row. No condition. -/
import Derived.Test.YtfhhiajfciblbaaGreatDoorExtT
namespace Go.Proofs.YtfhhiajfciblbaaGreatDoor
open Go.Sm
set_option maxRecDepth 100000
set_option linter.unusedSectionVars false
section
variable [Itr] [SortLaw]
def ac1:An:=.z
def Ia:Ctr:=⟨⟨[.d (.sc (.int .u64)),.d (.sc (.int .u64))],[(.sc (.int .u64)),(.sc (.int .u64))],2,[],[]⟩,fun x=>vx x.1 x.2⟩
def QM:Cx:=aI PP 241 Ia
theorem IG:Qq0 QM:=ai IZ (Qq2 IZ Tryz.func241 (by kernel_rfl) ac1 (fun x=>by kernel_rfl) rfl)
def adx:An:=.z
def Gg:Ctr:=⟨⟨[.d (.sc (.int .u64)),.d (.sc (.int .u64))],[(.sc (.int .u64)),(.sc (.int .u64))],2,[],[]⟩,fun x=>yj x.1 x.2⟩
def Tg:Cx:=aI QM 209 Gg
theorem KG:Qq0 Tg:=ai IG (Qq2 IG Tryz.func209 (by kernel_rfl) adx (fun x=>by kernel_rfl) rfl)
def aej:An:=.s .z (.j ⟨[0,1],[],[],[]⟩ true .z (.s .z (.j ⟨[0,6,5],[],[],[]⟩ true .z (.s .z (.s .z (.j ⟨[],[(7,.lf (.own (.sc pi) 3 false []))],[],[8]⟩ true (.u (.l ⟨[],[(7,.lf (.own (.sc pi) 3 false [])),(8,.lf (.sc pi))],[],[]⟩ .z)) .z))))))
def Hx:Ctr:=⟨⟨[.d (.slice (.sc pi)),.d (.sc pi)],[(.slice (.sc pi))],1,[],[⟨some 3,false,false⟩]⟩,fun x=>qG x.1 x.2⟩
def P7:Cx:=aI Tg 172 Hx
theorem JF:Qq0 P7:=ai KG (Qq2 KG Tryz.func172 (by kernel_rfl) aej (fun x=>by kernel_rfl) rfl)
def ady:An:=.z
def Hl:Ctr:=⟨⟨[.d (.sc pi)],[(.slice (.sc pi))],1,[],[⟨some 3,false,false⟩]⟩,fun x=>iG x⟩
def Qe:Cx:=aI P7 109 Hl
theorem Mw:Qq0 Qe:=ai JF (Qq2 JF Tryz.func109 (by kernel_rfl) ady (fun x=>by kernel_rfl) rfl)
def adn:An:=.z
def GM:Ctr:=⟨⟨[.d (.slice aV)],[(.slice aV)],1,[],[⟨some 118,true,false⟩]⟩,fun x=>ep x⟩
theorem X7:GM.sound Tryz.prog 118:=vA Mw au Tryz.func118 (by kernel_rfl) rfl (an:=adn) (fun x=>(by kernel_rfl:GM.fn x=vV [.isn 0 false] Qe Tryz.f118 adn GM.toSig x)) (by kernel_rfl) rfl
def Qf:Cx:=aI Qe 118 GM
theorem LK:Qq0 Qf:=ai Mw X7
def abB:An:=.z
def HJ:Ctr:=⟨⟨[.d (.slice (.sc pi))],[(.slice (.sc pi))],1,[],[⟨some 3,false,false⟩]⟩,fun x=>dt x⟩
theorem aak:HJ.sound Tryz.prog 119:=vA LK au Tryz.func119 (by kernel_rfl) rfl (an:=abB) (fun x=>(by kernel_rfl:HJ.fn x=vV [.isn 0 false] Qf Tryz.f119 abB HJ.toSig x)) (by kernel_rfl) rfl
def Sd:Cx:=aI Qf 119 HJ
theorem LQ:Qq0 Sd:=ai LK aak
def adt:An:=.z
def H8:Ctr:=⟨⟨[.d (.slice cN)],[(.slice cN)],1,[],[⟨some 114,true,false⟩]⟩,fun x=>dp x⟩
theorem aaZ:H8.sound Tryz.prog 120:=vA LQ au Tryz.func120 (by kernel_rfl) rfl (an:=adt) (fun x=>(by kernel_rfl:H8.fn x=vV [.isn 0 false] Sd Tryz.f120 adt H8.toSig x)) (by kernel_rfl) rfl
def Tu:Cx:=aI Sd 120 H8
theorem Km:Qq0 Tu:=ai LQ aaZ
def abI:An:=.z
def G3:Ctr:=⟨⟨[.d (.slice (.slice (.sc pi)))],[(.slice (.slice (.sc pi)))],1,[],[⟨some 22,true,false⟩]⟩,fun x=>kw x⟩
theorem Xx:G3.sound Tryz.prog 121:=vA Km au Tryz.func121 (by kernel_rfl) rfl (an:=abI) (fun x=>(by kernel_rfl:G3.fn x=vV [.isn 0 false] Tu Tryz.f121 abI G3.toSig x)) (by kernel_rfl) rfl
def TT:Cx:=aI Tu 121 G3
theorem IS:Qq0 TT:=ai Km Xx
def aiY:An:=.s .z (.s (.gg [] [.p0 1 (some 0) 1870727804774333205280220053632888987722923590549622]) (.j ⟨[1,2],[],[(1,c23)],[]⟩ true (.s .z (.u (.l ⟨[1,2,15],[(14,.lf (.al 2)),(16,.lf (.sc pi))],[(1,c23)],[]⟩ (.s .z (.s .z (.j ⟨[1,2,15,16],[(14,.lf (.al 1))],[(1,[.pt aV 1870727804774333205280220053632888987722923590549622 true [1000001],.rep (.sc pi) true [1000001],.rep (.slice (.sc pi)) true [1000001],.rep (.sc pi) true [1000001],.rep (.sc pi) true [1000001],.sc pi,.sc pi,.sc pi,.sc pi,.sc pi,.sc pi,.sc pi,.sc pi,.sc .str])],[]⟩ true (.u (.s .z (.s .z (.s (.gg [] [.p0 4 (some 0) 1547425049178910481010655346]) (.j ⟨[1,2,3,4,14,15,16],[],[(4,c36)],[]⟩ true (.s .z (.u (.l ⟨[1,2,3,4,14,15,16,31],[(30,.lf (.al 2)),(32,.lf (.sc pi))],[(4,c36)],[]⟩ .z))) (.g [.pf 4 (some 0)])))))) .z)))))) (.s (.g [.pf 1 (some 0)]) (.s (.gg [] [.p0 1 (some 2) 360314358468706326]) (.j ⟨[1,2],[],[(1,c19)],[53,56,59,65]⟩ true (.s .z (.u (.l ⟨[1,2,70],[(69,.lf (.al 4)),(71,.lf (.sc pi))],[(1,c19)],[53,56,59,65]⟩ .z))) (.s (.g [.pf 1 (some 2)]) .z))))))
def SM:Ctr:=⟨⟨[.d dA],[dA],1,[],[⟨some 1870727804774333205280220053632888987722923590549622,false,false⟩,⟨some 3,false,false⟩,⟨some 360314358468706326,false,false⟩,⟨some 3,false,false⟩,⟨some 3,false,false⟩]⟩,fun x=>iO x⟩
def Yw:Cx:=aI TT 64 SM
theorem Nx:Qq0 Yw:=ai IS (Qq2 IS Tryz.func64 (by kernel_rfl) aiY (fun x=>by kernel_rfl) rfl)
def abu:An:=.z
def GR:Ctr:=⟨⟨[],[(.mp (.sc pi) (.sc .fnc))],1,[],[⟨some 0,false,false⟩]⟩,fun _=>oL ⟩
def PJ:Cx:=aI Yw 160 GR
theorem Jp:Qq0 PJ:=ai Nx (Qq2 Nx Tryz.func160 (by kernel_rfl) abu (fun x=>by kernel_rfl) rfl)
def abN:An:=.z
def Ii:Ctr:=⟨⟨[.d (.sc pi)],[(.sc .bool)],1,[],[]⟩,fun x=>qY x⟩
def Qv:Cx:=aI PJ 159 Ii
theorem Jf:Qq0 Qv:=ai Jp (Qq2 Jp Tryz.func159 (by kernel_rfl) abN (fun x=>by kernel_rfl) rfl)
def ael:An:=.z
def FY:Ctr:=⟨⟨[.d (.sc pi)],[(.sc .bool)],1,[],[]⟩,fun x=>pT x⟩
def RL:Cx:=aI Qv 242 FY
theorem Mi:Qq0 RL:=ai Jf (Qq2 Jf Tryz.func242 (by kernel_rfl) ael (fun x=>by kernel_rfl) rfl)
def ab8:An:=.z
def GY:Ctr:=⟨⟨[.d (.sc pi),.d (.sc pi)],[(.sc .bool)],1,[],[]⟩,fun x=>rh x.1 x.2⟩
def Qg:Cx:=aI RL 211 GY
theorem LE:Qq0 Qg:=ai Mi (Qq2 Mi Tryz.func211 (by kernel_rfl) ab8 (fun x=>by kernel_rfl) rfl)
def ad5:An:=.z
def HO:Ctr:=⟨⟨[.d (.sc pi)],[(.sc .bool)],1,[],[]⟩,fun x=>nB x⟩
def Sv:Cx:=aI Qg 212 HO
theorem Kh:Qq0 Sv:=ai LE (Qq2 LE Tryz.func212 (by kernel_rfl) ad5 (fun x=>by kernel_rfl) rfl)
def abK:An:=Qq1 3 (.j ⟨[0,1,6],[(7,.lf (.sc pi))],[],[8]⟩ true (.u (.l ⟨[0,1,6],[(7,.lf (.sc pi)),(8,.lf (.sc pi))],[],[]⟩ .z)) .z)
def Gi:Ctr:=⟨⟨[.d (.slice (.sc pi)),.d (.sc pi)],[(.sc pi),(.sc .bool)],2,[],[]⟩,fun x=>gf x.1 x.2⟩
def T3:Cx:=aI Sv 176 Gi
theorem Jv:Qq0 T3:=ai Kh (Qq2 Kh Tryz.func176 (by kernel_rfl) abK (fun x=>by kernel_rfl) rfl)
def aeb:An:=.s .z (.s .z (.j ⟨[6],[(5,.lf (.sc pi))],[],[]⟩ true .z .z))
def GP:Ctr:=⟨⟨[.d eX,.d (.sc pi)],[(.sc pi)],1,[],[]⟩,fun x=>eM x.1 x.2⟩
def Ps:Cx:=aI T3 122 GP
theorem Ju:Qq0 Ps:=ai Jv (Qq2 Jv Tryz.func122 (by kernel_rfl) aeb (fun x=>by kernel_rfl) rfl)
def abH:An:=.z
def Hw:Ctr:=⟨⟨[.d (.sc pi),.d (.sc pi)],[(.sc pi)],1,[],[]⟩,fun x=>qS x.1 x.2⟩
theorem KJ:Hw.sound Tryz.prog 201:=Qq2 Ju Tryz.func201 (by kernel_rfl) abH (fun x=>by kernel_rfl) rfl
def Tp:Cx:=aI Ps 201 Hw
theorem LB:Qq0 Tp:=ai Ju KJ
def adY:An:=.z
def HR:Ctr:=⟨⟨[.d (.sc pi),.d (.sc pi)],[(.sc pi)],1,[],[]⟩,fun x=>qZ x.1 x.2⟩
theorem Lh:HR.sound Tryz.prog 202:=Qq2 LB Tryz.func202 (by kernel_rfl) adY (fun x=>by kernel_rfl) rfl
def R2:Cx:=aI Tp 202 HR
theorem JS:Qq0 R2:=ai LB Lh
def adA:An:=.z
def Im:Ctr:=⟨⟨[.d (.sc pi),.d (.sc pi)],[(.sc pi)],1,[],[]⟩,fun x=>rq x.1 x.2⟩
theorem Kt:Im.sound Tryz.prog 203:=Qq2 JS Tryz.func203 (by kernel_rfl) adA (fun x=>by kernel_rfl) rfl
def Te:Cx:=aI R2 203 Im
theorem LN:Qq0 Te:=ai JS Kt
def ai2:An:=.z
def SY:Ctr:=⟨⟨[.d (.sc .bool)],[(.sc pi)],1,[],[]⟩,fun x=>gF x⟩
def Wh:Cx:=aI Te 75 SY
theorem ND:Qq0 Wh:=ai LN (Qq2 LN Tryz.func75 (by kernel_rfl) ai2 (fun x=>by kernel_rfl) rfl)
def abw:An:=.z
def G4:Ctr:=⟨⟨[.d (.sc pi),.d (.sc pi)],[(.sc pi)],1,[],[]⟩,fun x=>kB x.1 x.2⟩
theorem JE:G4.sound Tryz.prog 204:=Qq2 ND Tryz.func204 (by kernel_rfl) abw (fun x=>by kernel_rfl) rfl
def Py:Cx:=aI Wh 204 G4
theorem Ln:Qq0 Py:=ai ND JE
def abJ:An:=.z
def HE:Ctr:=⟨⟨[.d (.sc pi),.d (.sc pi)],[(.sc pi)],1,[],[]⟩,fun x=>kN x.1 x.2⟩
theorem Lz:HE.sound Tryz.prog 205:=Qq2 Ln Tryz.func205 (by kernel_rfl) abJ (fun x=>by kernel_rfl) rfl
def S6:Cx:=aI Py 205 HE
theorem JY:Qq0 S6:=ai Ln Lz
def acF:An:=.z
def F9:Ctr:=⟨⟨[.d (.sc pi),.d (.sc pi)],[(.sc pi)],1,[],[]⟩,fun x=>ku x.1 x.2⟩
theorem J8:F9.sound Tryz.prog 206:=Qq2 JY Tryz.func206 (by kernel_rfl) acF (fun x=>by kernel_rfl) rfl
def Qp:Cx:=aI S6 206 F9
theorem LM:Qq0 Qp:=ai JY J8
def Yo:DCtr:=⟨⟨[.d (.sc pi),.d (.sc pi)],[(.sc pi)],1,[],[]⟩,fun f x=>Rr f x.1 x.2⟩
theorem aeJ:DCtr.sound Tryz.prog Yo:=by
 intro f x r h
 simp only [Yo,Rr] at h
 cases hb:Nat.beq f 201
 rotate_left
 ·rw [hb] at h; rw [Wo hb]; exact KJ x r h
 rw [hb] at h; simp only [no] at h
 cases hb:Nat.beq f 202
 rotate_left
 ·rw [hb] at h; rw [Wo hb]; exact Lh x r h
 rw [hb] at h; simp only [no] at h
 cases hb:Nat.beq f 203
 rotate_left
 ·rw [hb] at h; rw [Wo hb]; exact Kt x r h
 rw [hb] at h; simp only [no] at h
 cases hb:Nat.beq f 204
 rotate_left
 ·rw [hb] at h; rw [Wo hb]; exact JE x r h
 rw [hb] at h; simp only [no] at h
 cases hb:Nat.beq f 205
 rotate_left
 ·rw [hb] at h; rw [Wo hb]; exact Lz x r h
 rw [hb] at h; simp only [no] at h
 cases hb:Nat.beq f 206
 rotate_left
 ·rw [hb] at h; rw [Wo hb]; exact J8 x r h
 rw [hb] at h; cases h
def QY:Cx:=aiG Qp Yo false
theorem IC:Qq0 QY:=agy LM aeJ
def pL:An:=.z
noncomputable def B5:Cx:=da QY 110 (kM QY Tryz.f110 pL)
theorem AJ:Qq0 B5:=bN IC (eC IC au Tryz.func110 (by kernel_rfl) (by kernel_rfl) _)
def sG:An:=.z
noncomputable def A4:Cx:=da B5 101 (rl B5 Tryz.f101 sG [aP])
theorem AQ:Qq0 A4:=bN AJ (lU AJ au Tryz.func101 (by kernel_rfl) (by kernel_rfl) _ _)
def ad7:An:=.z
noncomputable def Ey:Cx:=da A4 99 (rl A4 Tryz.f99 ad7 [(.sc .bool)])
theorem Da:Qq0 Ey:=bN AQ (lU AQ au Tryz.func99 (by kernel_rfl) (by kernel_rfl) _ _)
def R1:An:=.z
noncomputable def Dr:Cx:=da Ey 65 (qb Ey Tryz.f65 R1)
theorem Dc:Qq0 Dr:=bN Da (jW Da au Tryz.func65 (by kernel_rfl) (by kernel_rfl) _)
def VH:An:=.z
noncomputable def BK:Cx:=da Dr 114 (qb Dr Tryz.f114 VH)
theorem AA:Qq0 BK:=bN Dc (jW Dc au Tryz.func114 (by kernel_rfl) (by kernel_rfl) _)
def IA:An:=.z
noncomputable def BE:Cx:=da BK 115 (qb BK Tryz.f115 IA)
theorem A0:Qq0 BE:=bN AA (jW AA au Tryz.func115 (by kernel_rfl) (by kernel_rfl) _)
def Q7:An:=.z
noncomputable def Eh:Cx:=da BE 47 (kM BE Tryz.f47 Q7)
theorem B8:Qq0 Eh:=bN A0 (eC A0 au Tryz.func47 (by kernel_rfl) (by kernel_rfl) _)
def ahT:An:=.s .z (.s (.g [.up 1 [1547425049178910481010655346,3]]) (.s .z (.s .z (.s (.s .z (.u (Qq1 7 (.s (.s .z (.s .z (.s (.g [.up 7 [3]]) .z))) (.s .z (.s .z (.s .z (.s .z (.s .z (.s (.s (.s .z (.s (.s .z (.g [.pa,.pa])) .z)) (.s .z (.s .z (.s .z (.g [.pa,.pa]))))) (.s .z (.s (.s .z (.s .z (.g [.pa,.pa]))) (.s .z (.s (.s .z (.s .z (.s (.k [0] [] []) .z))) (.s .z (.s .z (.s .z (.s (.s .z (.s (.s .z (.g [.pa,.pa])) .z)) .z)))))))))))))))))) (.s .z (.s .z (.g [.pa,.pa])))))))
noncomputable def BP:Cx:=da Eh 100 (qb Eh Tryz.f100 ahT)
theorem AN:Qq0 BP:=bN B8 (jW B8 au Tryz.func100 (by kernel_rfl) (by kernel_rfl) _)
def Cd:An:=.z
noncomputable def Nk:Cx:=da BP 62 (qb BP Tryz.f62 Cd)
theorem Sw:Qq0 Nk:=bN AN (jW AN au Tryz.func62 (by kernel_rfl) (by kernel_rfl) _)
def ahr:An:=.u (Qq1 3 (.j ⟨[0,4],[],[(0,c17)],[5]⟩ false (.u (.l ⟨[0,4],[(5,.lf (.sc pi))],[(0,c17)],[]⟩ (.s .z (.u (.s (.u (.s .z (.s .z (.s .z (.s .z (.j ⟨[0,4,5],[(30,.lf (.sc .bool))],[(0,c14)],[]⟩ true .z .z)))))) .z))))) (.s .z (.s .z (.s .z (.u (.s .z (.s .z (.s .z (.s (.j ⟨[0,6],[],[(0,[.rep aP true [1000000],.rep (.sc pi) true [1000000],.rep (.sc pi) true [1000000],.rep az true [1000000],.rep az true [1000000],.rep (.sc .str) true [1000000],.rep (.sc .str) true [1000000],.rep (.sc .str) true [1000000],.sc pi,.sc pi,.sc pi,.own aV 1870727804774333205280220053632888987722923590549622 false [],.own (.sc pi) 3 false [],.rep (.slice (.sc pi)) true [1000000],.own (.sc pi) 3 false [],.own (.sc pi) 3 false [],.sc pi,.sc pi,.sc pi,.sc pi,.sc pi,.sc pi,.sc pi,.sc pi,.sc .str,.mp ae (.sc .bool)])],[]⟩ true .z .z) .z))))))))))
def TS:Ctr:=⟨⟨[.box true cV [none,none,none,none,none,none,none,none,some 1870727804774333205280220053632888987722923590549622,some 3,none,some 3,some 3,some 0],.d (.sc pi)],[cV],0,[0],[⟨none,true,true⟩,⟨none,true,true⟩,⟨none,true,true⟩,⟨none,true,true⟩,⟨none,true,true⟩,⟨none,true,true⟩,⟨none,true,true⟩,⟨none,true,true⟩,⟨some 1870727804774333205280220053632888987722923590549622,false,false⟩,⟨some 3,false,false⟩,⟨none,true,true⟩,⟨some 3,false,false⟩,⟨some 3,false,false⟩,⟨some 0,false,false⟩]⟩,fun x=>i7 x.1 x.2⟩
def PK:Cx:=aI Qp 48 TS
theorem Dx:Qq0 PK:=ai LM (Qq2 Sw Tryz.func48 (by kernel_rfl) ahr (fun x=>by kernel_rfl) rfl)
noncomputable def y6:Cx:=da PK 110 (kM PK Tryz.f110 pL)
theorem zp:Qq0 y6:=bN Dx (eC Dx au Tryz.func110 (by kernel_rfl) (by kernel_rfl) _)
noncomputable def Fc:Cx:=da y6 101 (rl y6 Tryz.f101 sG [aP])
theorem JD:Qq0 Fc:=bN zp (lU zp au Tryz.func101 (by kernel_rfl) (by kernel_rfl) _ _)
def abU:An:=.s .z (.s .z (.j ⟨[0,1],[(5,.lf (.own (.sc pi) 3 false []))],[],[]⟩ true (.s .z (.u (.l ⟨[0,1,13],[(5,.lf (.own (.sc pi) 3 false [])),(14,.lf (.sc pi))],[],[]⟩ (.s .z (.s .z (.j ⟨[0,1,13,14],[(5,.lf (.own (.sc pi) 3 false []))],[],[]⟩ true .z .z)))))) .z))
def Ih:Ctr:=⟨⟨[.box false cV [],.d (.sc pi)],[(.slice (.sc pi))],1,[],[⟨some 3,false,false⟩]⟩,fun x=>dG x.1 x.2⟩
def Gj:Cx:=aI PK 111 Ih
theorem Bz:Qq0 Gj:=ai Dx (Qq2 JD Tryz.func111 (by kernel_rfl) abU (fun x=>by kernel_rfl) rfl)
noncomputable def Bu:Cx:=da Gj 110 (kM Gj Tryz.f110 pL)
theorem At:Qq0 Bu:=bN Bz (eC Bz au Tryz.func110 (by kernel_rfl) (by kernel_rfl) _)
noncomputable def Jl:Cx:=da Bu 101 (rl Bu Tryz.f101 sG [aP])
theorem ME:Qq0 Jl:=bN At (lU At au Tryz.func101 (by kernel_rfl) (by kernel_rfl) _ _)
def ahW:An:=.s .z (.s .z (.j ⟨[0],[(3,.lf (.own (.sc pi) 3 false []))],[],[]⟩ true (.s .z (.u (.l ⟨[0,14],[(3,.lf (.own (.sc pi) 3 false [])),(15,.lf (.sc pi))],[],[]⟩ (.s .z (.s .z (.j ⟨[0,14,15],[(3,.lf (.own (.sc pi) 3 false []))],[],[]⟩ true (.u (Qq1 4 (.j ⟨[0,3,4,14,15,5,6],[(7,.lf (.sc .bool))],[],[]⟩ true .z .z))) .z)))))) .z))
def TK:Ctr:=⟨⟨[.box false cV []],[(.slice (.sc pi))],1,[],[⟨some 3,false,false⟩]⟩,fun x=>fh x⟩
def Po:Cx:=aI Gj 61 TK
theorem EK:Qq0 Po:=ai Bz (Qq2 ME Tryz.func61 (by kernel_rfl) ahW (fun x=>by kernel_rfl) rfl)
noncomputable def BD:Cx:=da Po 110 (kM Po Tryz.f110 pL)
theorem AR:Qq0 BD:=bN EK (eC EK au Tryz.func110 (by kernel_rfl) (by kernel_rfl) _)
noncomputable def EB:Cx:=da BD 65 (qb BD Tryz.f65 R1)
theorem Cu:Qq0 EB:=bN AR (jW AR au Tryz.func65 (by kernel_rfl) (by kernel_rfl) _)
noncomputable def Ls:Cx:=da EB 101 (rl EB Tryz.f101 sG [aP])
theorem MG:Qq0 Ls:=bN Cu (lU Cu au Tryz.func101 (by kernel_rfl) (by kernel_rfl) _ _)
def ajT:An:=.s .z (.s .z (.j ⟨[0],[(2,.lf (.sc pi))],[],[]⟩ true (.s .z (.u (.l ⟨[0,37],[(2,.lf (.sc pi)),(38,.lf (.sc pi))],[],[]⟩ (.s .z (.s .z (.j ⟨[0,37,38],[(2,.lf (.sc pi))],[],[]⟩ true .z .z)))))) .z))
def Pu:Ctr:=⟨⟨[.box true cV [none,none,none,none,none,none,none,none,some 1870727804774333205280220053632888987722923590549622,some 3,none,some 3,some 3,some 0]],[cV],0,[0],[⟨none,true,false⟩,⟨none,true,false⟩,⟨none,true,false⟩,⟨none,true,false⟩,⟨none,true,false⟩,⟨none,true,false⟩,⟨none,true,false⟩,⟨none,true,false⟩,⟨some 1870727804774333205280220053632888987722923590549622,false,false⟩,⟨some 3,false,false⟩,⟨none,true,false⟩,⟨some 3,false,false⟩,⟨some 3,false,false⟩,⟨some 0,false,false⟩]⟩,fun x=>jA x⟩
def Z5:Cx:=aI Po 49 Pu
theorem NG:Qq0 Z5:=ai EK (Qq2 MG Tryz.func49 (by kernel_rfl) ajT (fun x=>by kernel_rfl) rfl)
def adr:An:=.s .z (.s .z (.j ⟨[0],[(3,.lf (.sc pi))],[],[]⟩ true (.s .z (.u (.l ⟨[10,11],[(3,.lf (.sc pi)),(12,.lf (.sc pi))],[],[]⟩ .z))) .z))
def H0:Ctr:=⟨⟨[.box false cV []],[(.sc pi)],1,[],[]⟩,fun x=>lc x⟩
def Ic:Cx:=aI Z5 175 H0
theorem BH:Qq0 Ic:=ai NG (Qq2 NG Tryz.func175 (by kernel_rfl) adr (fun x=>by kernel_rfl) rfl)
noncomputable def BU:Cx:=da Ic 62 (qb Ic Tryz.f62 Cd)
theorem AH:Qq0 BU:=bN BH (jW BH au Tryz.func62 (by kernel_rfl) (by kernel_rfl) _)
noncomputable def zk:Cx:=da BU 110 (kM BU Tryz.f110 pL)
theorem yM:Qq0 zk:=bN AH (eC AH au Tryz.func110 (by kernel_rfl) (by kernel_rfl) _)
noncomputable def Mu:Cx:=da zk 47 (kM zk Tryz.f47 Q7)
theorem MK:Qq0 Mu:=bN yM (eC yM au Tryz.func47 (by kernel_rfl) (by kernel_rfl) _)
def adL:An:=Qq1 3 (.s (.gg [.ug 0 (some 11) (some 1) aV [1547425049178910481010655346,3]] [.pa]) .z)
def GJ:Ctr:=⟨⟨c33,[(.slice (.sc pi)),(.sc .bool),cV],2,[0],[⟨some 3,false,false⟩,⟨none,true,false⟩,⟨none,true,false⟩,⟨none,true,false⟩,⟨none,true,false⟩,⟨none,true,false⟩,⟨none,true,false⟩,⟨none,true,false⟩,⟨none,true,false⟩,⟨some 1870727804774333205280220053632888987722923590549622,false,false⟩,⟨some 3,false,false⟩,⟨some 360314358468706326,false,false⟩,⟨some 3,false,false⟩,⟨some 3,false,false⟩,⟨some 0,false,false⟩]⟩,fun x=>mb x.1 x.2.1 x.2.2⟩
def GX:Cx:=aI Ic 116 GJ
theorem BX:Qq0 GX:=ai BH (Qq2 MK Tryz.func116 (by kernel_rfl) adL (fun x=>by kernel_rfl) rfl)
noncomputable def BZ:Cx:=da GX 62 (qb GX Tryz.f62 Cd)
theorem Au:Qq0 BZ:=bN BX (jW BX au Tryz.func62 (by kernel_rfl) (by kernel_rfl) _)
noncomputable def zi:Cx:=da BZ 115 (qb BZ Tryz.f115 IA)
theorem ze:Qq0 zi:=bN Au (jW Au au Tryz.func115 (by kernel_rfl) (by kernel_rfl) _)
noncomputable def zh:Cx:=da zi 110 (kM zi Tryz.f110 pL)
theorem zB:Qq0 zh:=bN ze (eC ze au Tryz.func110 (by kernel_rfl) (by kernel_rfl) _)
noncomputable def Fi:Cx:=da zh 101 (rl zh Tryz.f101 sG [aP])
theorem JN:Qq0 Fi:=bN zB (lU zB au Tryz.func101 (by kernel_rfl) (by kernel_rfl) _ _)
def abv:An:=Qq1 3 (.s (.gg [.up 10 [1547425049178910481010655346,3]] [.pa]) (.s .z (.s (.s .z (.s (.s (.gg [.up 10 [1547425049178910481010655346,3]] [.pa]) (.s (.k [2000000] [.ug 0 (some 13) (some 3) (.slice (.sc pi)) [3]] [.pa]) .z)) .z)) (.s .z (.s (.gg [.up 10 [1547425049178910481010655346,3]] [.pa]) (.s .z (.s (.gg [.up 14 [1547425049178910481010655346,3],.ug 14 (some 0) none cN [3]] [.pa,.pa]) (.s (.gg [.up 14 [1547425049178910481010655346,3]] [.pa]) .z))))))))
def H3:Ctr:=⟨⟨[.box true cV [none,none,none,none,none,none,none,none,some 1870727804774333205280220053632888987722923590549622,some 3,some 360314358468706326,some 3,some 3,some 0],.d (.sc pi),.d (.sc pi),.d (.sc pi)],[(.slice (.sc pi)),(.sc .bool),cV],2,[0],[⟨some 3,false,false⟩,⟨none,true,false⟩,⟨none,true,false⟩,⟨none,true,false⟩,⟨none,true,false⟩,⟨none,true,false⟩,⟨none,true,false⟩,⟨none,true,false⟩,⟨none,true,false⟩,⟨some 1870727804774333205280220053632888987722923590549622,false,false⟩,⟨some 3,false,false⟩,⟨some 360314358468706326,false,false⟩,⟨some 3,false,false⟩,⟨some 3,false,false⟩,⟨some 0,false,false⟩]⟩,fun x=>nu x.1 x.2.1 x.2.2.1 x.2.2.2⟩
def HP:Cx:=aI GX 117 H3
theorem BM:Qq0 HP:=ai BX (Qq2 JN Tryz.func117 (by kernel_rfl) abv (fun x=>by kernel_rfl) rfl)
noncomputable def Bl:Cx:=da HP 110 (kM HP Tryz.f110 pL)
theorem AC:Qq0 Bl:=bN BM (eC BM au Tryz.func110 (by kernel_rfl) (by kernel_rfl) _)
noncomputable def Be:Cx:=da Bl 101 (rl Bl Tryz.f101 sG [aP])
theorem AW:Qq0 Be:=bN AC (lU AC au Tryz.func101 (by kernel_rfl) (by kernel_rfl) _ _)
noncomputable def Ea:Cx:=da Be 62 (qb Be Tryz.f62 Cd)
theorem CB:Qq0 Ea:=bN AW (jW AW au Tryz.func62 (by kernel_rfl) (by kernel_rfl) _)
noncomputable def Bm:Cx:=da Ea 114 (qb Ea Tryz.f114 VH)
theorem AK:Qq0 Bm:=bN CB (jW CB au Tryz.func114 (by kernel_rfl) (by kernel_rfl) _)
noncomputable def Lm:Cx:=da Bm 115 (qb Bm Tryz.f115 IA)
theorem MN:Qq0 Lm:=bN AK (jW AK au Tryz.func115 (by kernel_rfl) (by kernel_rfl) _)
def aip:An:=Qq1 5 (.j ⟨[0,1,8,2,9],[(10,.lf (.sc .bool))],[(0,[.rep aP true [],.rep (.sc pi) true [],.rep (.sc pi) true [],.rep az true [],.rep az true [],.rep (.sc .str) true [],.rep (.sc .str) true [],.rep (.sc .str) true [],.sc pi,.sc pi,.sc pi,.ownk aV 1870727804774333205280220053632888987722923590549622 9,.own (.sc pi) 3 false [],.rep (.slice (.sc pi)) true [1000000],.own (.sc pi) 3 false [],.own (.sc pi) 3 false [],.sc pi,.sc pi,.sc pi,.sc pi,.sc pi,.sc pi,.sc pi,.sc pi,.sc .str,.mp ae (.sc .bool)])],[]⟩ false (.s .z (.u (.s .z (.s (.s .z (.gg [.up 8 [1547425049178910481010655346,3]] [.pa])) (.s .z (.s (.s .z (.s (.gg [.up 8 [1547425049178910481010655346,3]] [.pa]) .z)) (.s .z (.s .z (.s .z (.s .z (.s .z (.s (.s .z (.s (.gg [.up 8 [1547425049178910481010655346,3],.ug 8 (some 0) none cN [3]] [.pa,.pa]) (.gg [.ug 0 (some 13) (some 96) (.slice (.sc pi)) [3]] [.pr 0 (some 13)]))) (.s .z (.s .z (.s .z (.s .z (.s .z (.s (.gg [.up 8 [1547425049178910481010655346,3],.ug 8 (some 0) none cN [3]] [.pa,.pa]) (.s .z (.s (.s .z (.s .z (.gg [.up 8 [1547425049178910481010655346,3],.ug 8 (some 0) none cN [3]] [.pa,.pa]))) (.s .z (.s .z (.s .z (.s (.s .z (.s (.gg [.up 8 [1547425049178910481010655346,3]] [.pa]) .z)) (.s .z (.s (.s .z (.gg [.up 8 [1547425049178910481010655346,3],.ug 8 (some 0) none cN [3]] [.pa,.pa])) (.s .z (.s (.gg [.up 8 [1547425049178910481010655346,3]] [.pa]) (.j ⟨[0,1],[],[(0,c16)],[]⟩ true .z .z))))))))))))))))))))))))))))) (.j ⟨[0,1,10,8],[],[(0,c14)],[]⟩ true (.s .z (.s (.gg [.up 8 [1547425049178910481010655346,3]] [.pa]) .z)) .z))
def SA:Ctr:=⟨⟨c33,[(.slice (.sc pi)),(.sc .bool),cV],2,[0],[⟨some 3,false,false⟩,⟨none,true,true⟩,⟨none,true,true⟩,⟨none,true,true⟩,⟨none,true,true⟩,⟨none,true,true⟩,⟨none,true,true⟩,⟨none,true,true⟩,⟨none,true,true⟩,⟨some 1870727804774333205280220053632888987722923590549622,false,false⟩,⟨some 3,false,false⟩,⟨none,true,true⟩,⟨some 3,false,false⟩,⟨some 3,false,false⟩,⟨some 0,false,false⟩]⟩,fun x=>mc x.1 x.2.1 x.2.2⟩
def WG:Cx:=aI HP 63 SA
theorem Pk:Qq0 WG:=ai BM (Qq2 MN Tryz.func63 (by kernel_rfl) aip (fun x=>by kernel_rfl) rfl)
def ado:An:=.s .z (.s .z (.j ⟨[0],[(3,.lf (.own (.sc .str) 9 false []))],[],[]⟩ true (.s .z (.u (.l ⟨[6,7],[(3,.lf (.own (.sc .str) 9 false [])),(8,.lf (.sc pi))],[],[]⟩ .z))) .z))
def F0:Ctr:=⟨⟨[.d (.slice az)],[(.slice (.sc .str))],1,[],[⟨some 9,false,false⟩]⟩,fun x=>tZ x⟩
def TM:Cx:=aI WG 156 F0
theorem LO:Qq0 TM:=ai Pk (Qq2 Pk Tryz.func156 (by kernel_rfl) ado (fun x=>by kernel_rfl) rfl)
def acW:An:=.z
def Gu:Ctr:=⟨⟨[.d az],[(.sc .bool)],1,[],[]⟩,fun x=>tq x⟩
def SP:Cx:=aI TM 158 Gu
theorem KD:Qq0 SP:=ai LO (Qq2 LO Tryz.func158 (by kernel_rfl) acW (fun x=>by kernel_rfl) rfl)
def aiK:An:=.s .z (.j ⟨[0,1],[],[],[]⟩ false (.s .z (.u (.l ⟨[0,1,7],[(8,.lf (.sc pi))],[],[]⟩ .z))) .z)
def TZ:Ctr:=⟨⟨[.d (.slice az),.fn 158],[(.sc pi)],1,[],[]⟩,fun x=>gd x.1⟩
def XR:Cx:=aI SP 44 TZ
theorem NI:Qq0 XR:=ai KD (Qq2 KD Tryz.func44 (by kernel_rfl) aiK (fun x=>by kernel_rfl) rfl)
def ad0:An:=.z
def GO:Ctr:=⟨⟨[.d (.slice az),.fn 158],[(.sc .bool)],1,[],[]⟩,fun x=>dK x.1⟩
def Qn:Cx:=aI XR 157 GO
theorem LV:Qq0 Qn:=ai NI (Qq2 NI Tryz.func157 (by kernel_rfl) ad0 (fun x=>by kernel_rfl) rfl)
def aiF:An:=Qq1 3 (.j ⟨[1,3],[],[],[]⟩ false (.s .z (.u (.l ⟨[1,3,56,57],[(58,.lf (.sc pi))],[],[]⟩ (.s .z (.s .z (.j ⟨[1,3,56,57,58],[],[],[]⟩ false (.u (.s .z (.s .z (.u (.l ⟨[1,3,5,56,57,58,63],[(64,.lf (.sc pi))],[],[]⟩ .z))))) .z)))))) (.j ⟨[1,3],[],[],[]⟩ false (.s .z (.u (.l ⟨[1,83],[(84,.lf (.sc pi))],[],[]⟩ .z))) .z))
def SR:Ctr:=⟨⟨[.d eX],[(.sc .bool)],1,[],[]⟩,fun x=>sn x⟩
def Wg:Cx:=aI Qn 96 SR
theorem Nb:Qq0 Wg:=ai LV (Qq2 LV Tryz.func96 (by kernel_rfl) aiF (fun x=>by kernel_rfl) rfl)
def ag8:An:=.s .z (.s .z (.j ⟨[1],[(3,.lf (.own mz 185 false []))],[],[]⟩ true (.s .z (.u (.l ⟨[1,8,9],[(3,.lf (.own mz 185 false [])),(10,.lf (.sc pi))],[],[]⟩ (.s .z (.s .z (.j ⟨[1,8,9,10],[(3,.lf (.own mz 185 false []))],[],[]⟩ true (.u (.s .z (.s .z (.j ⟨[1,3,4,5,8,9,10],[(6,.lf (.sc pi))],[],[]⟩ true .z .z)))) .z)))))) .z))
def Q1:Ctr:=⟨⟨[.d eX],[(.slice mz)],1,[],[⟨some 185,false,false⟩]⟩,fun x=>tX x⟩
def ZW:Cx:=aI Wg 97 Q1
theorem OL:Qq0 ZW:=ai Nb (Qq2 Nb Tryz.func97 (by kernel_rfl) ag8 (fun x=>by kernel_rfl) rfl)
def ajm:An:=Qq1 7 (.j ⟨[7,8,12,3,4],[(10,.lf (.sc pi)),(11,.lf (.sc pi))],[],[]⟩ false (.s .z (.u (.j ⟨[3,4,7,8,10,12,94],[(95,.lf (.sc .bool))],[],[]⟩ true .z (.s .z (.j ⟨[3,4,7,8,10,12,94],[(100,.lf (.sc .bool))],[],[]⟩ true .z (.s .z (.j ⟨[3,4,7,8,10,12,94],[(107,.lf (.sc .bool))],[],[]⟩ true .z (.s .z (.s .z (.s .z (.s .z (.s .z (.j ⟨[3,7,8,10,12,94],[(127,.lf (.sc .bool))],[],[]⟩ true .z (.s .z (.j ⟨[3,7,8,10,12,94],[(133,.lf (.sc .bool))],[],[]⟩ true .z (.s .z (.j ⟨[3,7,8,10,12,94],[(139,.lf (.sc .bool))],[],[]⟩ true .z (.s .z (.s .z (.s .z (.s .z (.s .z (.j ⟨[3,7,8,10,12,94],[(149,.lf (.sc .bool))],[],[]⟩ true .z .z))))))))))))))))))))))) .z)
def Q2:Ctr:=⟨⟨[.d eX,.d mz,.d (.sc pi)],[(.sc .bool)],1,[],[]⟩,fun x=>vH x.1 x.2.1 x.2.2⟩
def aa8:Cx:=aI ZW 98 Q2
theorem OK:Qq0 aa8:=ai OL (Qq2 OL Tryz.func98 (by kernel_rfl) ajm (fun x=>by kernel_rfl) rfl)
def ah1:An:=Qq1 3 (.j ⟨[1],[],[],[]⟩ false (.s .z (.u (.l ⟨[1,15,16],[(17,.lf (.sc pi))],[],[]⟩ (.s .z (.s .z (.j ⟨[1,15,16,17],[],[],[]⟩ false (.u (.s .z (.s .z (.u (.l ⟨[1,5,15,16,17],[(6,.lf (.sc pi))],[],[]⟩ .z))))) .z)))))) .z)
def Qq:Ctr:=⟨⟨[.d eX],[(.sc pi),(.sc pi)],2,[],[]⟩,fun x=>pd x⟩
def T1:Cx:=aI aa8 41 Qq
theorem DU:Qq0 T1:=ai OK (Qq2 OK Tryz.func41 (by kernel_rfl) ah1 (fun x=>by kernel_rfl) rfl)
noncomputable def yT:Cx:=da T1 110 (kM T1 Tryz.f110 pL)
theorem yD:Qq0 yT:=bN DU (eC DU au Tryz.func110 (by kernel_rfl) (by kernel_rfl) _)
noncomputable def zK:Cx:=da yT 101 (rl yT Tryz.f101 sG [aP])
theorem y4:Qq0 zK:=bN yD (lU yD au Tryz.func101 (by kernel_rfl) (by kernel_rfl) _ _)
noncomputable def A6:Cx:=da zK 99 (rl zK Tryz.f99 ad7 [(.sc .bool)])
theorem A2:Qq0 A6:=bN y4 (lU y4 au Tryz.func99 (by kernel_rfl) (by kernel_rfl) _ _)
def ahi:An:=Qq1 3 (.j ⟨[0,1],[],[],[]⟩ false (.s .z (.u (.l ⟨[0,1,71,72],[(73,.lf (.sc pi))],[],[]⟩ .z))) .z)
noncomputable def Fu:Cx:=da A6 207 (rl A6 Tryz.f207 ahi [(.sc .bool)])
theorem JR:Qq0 Fu:=bN A2 (lU A2 au Tryz.func207 (by kernel_rfl) (by kernel_rfl) _ _)
def acd:An:=Qq1 3 (.j ⟨[0,3],[],[],[]⟩ false (.s .z (.u (.l ⟨[0,3,85,86],[(87,.lf (.sc pi))],[],[]⟩ .z))) (.j ⟨[0,3],[],[],[]⟩ false (.s .z (.u (.l ⟨[0,3,108,109],[(110,.lf (.sc pi))],[],[]⟩ .z))) (.j ⟨[0,3],[],[],[]⟩ false (.s .z (.u (.l ⟨[0,3,130],[(131,.lf (.sc pi))],[],[]⟩ .z))) .z)))
def Gz:Ctr:=⟨⟨[.box false cV []],[(.sc .bool)],1,[],[]⟩,fun x=>mf x⟩
def Tw:Cx:=aI T1 170 Gz
theorem I8:Qq0 Tw:=ai DU (Qq2 JR Tryz.func170 (by kernel_rfl) acd (fun x=>by kernel_rfl) rfl)
def acE:An:=.z
def Hj:Ctr:=⟨⟨[.d (.sc pi),.d (.sc pi)],[(.sc .bool)],1,[],[]⟩,fun x=>jR x.1 x.2⟩
def Tv:Cx:=aI Tw 169 Hj
theorem Mh:Qq0 Tv:=ai I8 (Qq2 I8 Tryz.func169 (by kernel_rfl) acE (fun x=>by kernel_rfl) rfl)
def acH:An:=.s .z (.j ⟨[0,1],[],[],[]⟩ false (.s .z (.u (.l ⟨[0,1,7],[(8,.lf (.sc pi))],[],[]⟩ .z))) .z)
def Hb:Ctr:=⟨⟨[.d (.slice (.sc pi)),.d (.sc pi)],[(.sc pi)],1,[],[]⟩,fun x=>nY x.1 x.2⟩
def Tr:Cx:=aI Tv 208 Hb
theorem Lt:Qq0 Tr:=ai Mh (Qq2 Mh Tryz.func208 (by kernel_rfl) acH (fun x=>by kernel_rfl) rfl)
def abY:An:=.z
def HY:Ctr:=⟨⟨[.d (.slice (.sc pi)),.d (.sc pi)],[(.sc .bool)],1,[],[]⟩,fun x=>iU x.1 x.2⟩
def If:Cx:=aI Tr 171 HY
theorem BB:Qq0 If:=ai Lt (Qq2 Lt Tryz.func171 (by kernel_rfl) abY (fun x=>by kernel_rfl) rfl)
def Hy:An:=.z
noncomputable def JH:Cx:=da If 46 (kM If Tryz.f46 Hy)
theorem MS:Qq0 JH:=bN BB (eC BB au Tryz.func46 (by kernel_rfl) (by kernel_rfl) _)
def ac9:An:=.z
def HC:Ctr:=⟨⟨[.d eX,.d dA],[(.sc pi)],1,[],[]⟩,fun x=>gA x.1 x.2⟩
def TU:Cx:=aI If 108 HC
theorem KZ:Qq0 TU:=ai BB (Qq2 MS Tryz.func108 (by kernel_rfl) ac9 (fun x=>by kernel_rfl) rfl)
def ahh:An:=.z
def Qh:Ctr:=⟨⟨[.d fQ],[(.sc .bool)],1,[],[]⟩,fun x=>mX x⟩
def YE:Cx:=aI TU 42 Qh
theorem Na:Qq0 YE:=ai KZ (Qq2 KZ Tryz.func42 (by kernel_rfl) ahh (fun x=>by kernel_rfl) rfl)
def aj1:An:=.z
def Pq:Ctr:=⟨⟨[.d eX,.d fQ,.d dA],[(.sc pi)],1,[],[]⟩,fun x=>dO x.1 x.2.1 x.2.2⟩
def TN:Cx:=aI YE 56 Pq
theorem Er:Qq0 TN:=ai Na (Qq2 Na Tryz.func56 (by kernel_rfl) aj1 (fun x=>by kernel_rfl) rfl)
noncomputable def BO:Cx:=da TN 110 (kM TN Tryz.f110 pL)
theorem AL:Qq0 BO:=bN Er (eC Er au Tryz.func110 (by kernel_rfl) (by kernel_rfl) _)
noncomputable def JT:Cx:=da BO 101 (rl BO Tryz.f101 sG [aP])
theorem MJ:Qq0 JT:=bN AL (lU AL au Tryz.func101 (by kernel_rfl) (by kernel_rfl) _ _)
def ahn:An:=Qq1 3 (.j ⟨[0,2],[(4,.lf (.sc pi))],[],[3]⟩ false .z (.s .z (.s .z (.j ⟨[2,6,0,5],[],[(6,c39)],[]⟩ true .z .z))))
def TQ:Ctr:=⟨⟨[.box false cV []],[oz],1,[],[⟨some 3,false,false⟩]⟩,fun x=>iK x⟩
def SN:Cx:=aI TN 57 TQ
theorem EL:Qq0 SN:=ai Er (Qq2 MJ Tryz.func57 (by kernel_rfl) ahn (fun x=>by kernel_rfl) rfl)
noncomputable def Nz:Cx:=da SN 46 (kM SN Tryz.f46 Hy)
theorem QN:Qq0 Nz:=bN EL (eC EL au Tryz.func46 (by kernel_rfl) (by kernel_rfl) _)
def aib:An:=.z
def Qm:Ctr:=⟨⟨[.d eX,.d fQ,.d dA],[oz,(.sc pi)],2,[],[⟨some 3,false,false⟩]⟩,fun x=>eA x.1 x.2.1 x.2.2⟩
def Qx:Cx:=aI SN 18 Qm
theorem EG:Qq0 Qx:=ai EL (Qq2 QN Tryz.func18 (by kernel_rfl) aib (fun x=>by kernel_rfl) rfl)
noncomputable def Dq:Cx:=da Qx 46 (kM Qx Tryz.f46 Hy)
theorem CT:Qq0 Dq:=bN EG (eC EG au Tryz.func46 (by kernel_rfl) (by kernel_rfl) _)
noncomputable def DS:Cx:=da Dq 62 (qb Dq Tryz.f62 Cd)
theorem C8:Qq0 DS:=bN CT (jW CT au Tryz.func62 (by kernel_rfl) (by kernel_rfl) _)
noncomputable def Ba:Cx:=da DS 110 (kM DS Tryz.f110 pL)
theorem Az:Qq0 Ba:=bN C8 (eC C8 au Tryz.func110 (by kernel_rfl) (by kernel_rfl) _)
noncomputable def OZ:Cx:=da Ba 65 (qb Ba Tryz.f65 R1)
theorem PH:Qq0 OZ:=bN Az (jW Az au Tryz.func65 (by kernel_rfl) (by kernel_rfl) _)
noncomputable def Pg:Cx:=da OZ 66 Yp
theorem SV:Qq0 Pg:=bN PH afC
def ah3:An:=Qq1 13 (.j ⟨[8,12],[],[(12,c13)],[14]⟩ true (.s .z (.u (.l ⟨[8,12,131,132],[(133,.lf (.sc pi))],[(12,c13)],[]⟩ .z))) .z)
def TH:Ctr:=⟨⟨[.d eX,.d fQ,.d dA,.d (.sc pi)],[dA,(.slice ae),(.sc pi)],3,[],[⟨some 1870727804774333205280220053632888987722923590549622,false,false⟩,⟨some 3,false,false⟩,⟨none,true,true⟩,⟨some 3,false,false⟩,⟨some 3,false,false⟩,⟨some 153,false,false⟩]⟩,fun x=>gB x.1 x.2.1 x.2.2.1 x.2.2.2⟩
def aaD:Cx:=aI Qx 24 TH
theorem NA:Qq0 aaD:=ai EG (Qq2 SV Tryz.func24 (by kernel_rfl) ah3 (fun x=>by kernel_rfl) rfl)
def ajy:An:=.z
def P9:Ctr:=⟨⟨[.d az,.box false (.sc .str) []],[(.sc .bool)],1,[],[]⟩,fun x=>pF x.1 x.2⟩
def Ws:Cx:=aI aaD 45 P9
theorem Nl:Qq0 Ws:=ai NA (Qq2 NA Tryz.func45 (by kernel_rfl) ajy (fun x=>by kernel_rfl) rfl)
def Wd:An:=.s .z (.j ⟨[0,1],[],[],[]⟩ false (.s .z (.u (.l ⟨[0,1,7],[(8,.lf (.sc pi))],[],[]⟩ .z))) .z)
def Dg:Ctr:=⟨⟨[.d (.slice az),.clo 45 (.sc .str)],[(.sc pi)],1,[],[]⟩,fun x=>fU x.1 x.2⟩
def Kq:Cx:=aI Ws 44 Dg
theorem FJ:Qq0 Kq:=ai Nl (Qq2 Nl Tryz.func44 (by kernel_rfl) Wd (fun x=>by kernel_rfl) rfl)
def ahl:An:=.z
def Tq:Ctr:=⟨⟨[.d (.sc .str),.d (.sc pi),.box false (.slice az) []],[(.sc pi)],1,[],[]⟩,fun x=>mj x.1 x.2.1 x.2.2⟩
def Tx:Cx:=aI Kq 43 Tq
theorem DA:Qq0 Tx:=ai FJ (Qq2 FJ Tryz.func43 (by kernel_rfl) ahl (fun x=>by kernel_rfl) rfl)
noncomputable def Ev:Cx:=da Tx 46 (kM Tx Tryz.f46 Hy)
theorem CR:Qq0 Ev:=bN DA (eC DA au Tryz.func46 (by kernel_rfl) (by kernel_rfl) _)
noncomputable def Oi:Cx:=da Ev 47 (kM Ev Tryz.f47 Q7)
theorem QG:Qq0 Oi:=bN CR (eC CR au Tryz.func47 (by kernel_rfl) (by kernel_rfl) _)
end
end Go.Proofs.YtfhhiajfciblbaaGreatDoor
