/-
  The functions of the program compute what their Lean functions say. No condition.
-/
import Derived.Test.YtfhhiajfciblbaaGreatDoorExtT
namespace Go.Proofs.YtfhhiajfciblbaaGreatDoor
open Go.Sm
set_option maxRecDepth 100000
set_option linter.unusedSectionVars false
section
variable [Itr] [SortLaw]
def XA:An:=.z
def CT:Ctr:=⟨⟨[.d (.sc (.int .u64)), .d (.sc (.int .u64))],[(.sc (.int .u64)),(.sc (.int .u64))],2,[],[]⟩,fun x=>r0 x.1 x.2⟩
theorem UW:CT.sound Tryz.prog 241:=am Fs aw Tryz.func241 (by kernel_rfl) (an:=XA) (fun x=>(by kernel_rfl:CT.fn x=aJ OI Tryz.f241 XA CT.toSig x)) rfl
def Ot:Cx:=aC OI 241 CT
theorem E6:Ot.ok Tryz.prog:=ak Fs UW
def Yt:An:=.z
def Ec:Ctr:=⟨⟨[.d (.sc (.int .u64)), .d (.sc (.int .u64))],[(.sc (.int .u64)),(.sc (.int .u64))],2,[],[]⟩,fun x=>va x.1 x.2⟩
theorem TB:Ec.sound Tryz.prog 209:=am E6 aw Tryz.func209 (by kernel_rfl) (an:=Yt) (fun x=>(by kernel_rfl:Ec.fn x=aJ Ot Tryz.f209 Yt Ec.toSig x)) rfl
def MU:Cx:=aC Ot 209 Ec
theorem HU:MU.ok Tryz.prog:=ak E6 TB
def Yk:An:=.s .z (.j ⟨[0,1],[],[],[]⟩ true .z (.s .z (.j ⟨[0,6,5],[],[],[]⟩ true .z (.s .z (.s .z (.j ⟨[],[(7, .lf (.own (.sc (.int .i64)) 3 false []))],[],[8]⟩ true (.u (.l ⟨[],[(7, .lf (.own (.sc (.int .i64)) 3 false [])),(8, .lf (.sc (.int .i64)))],[],[]⟩ .z)) .z))))))
def Cq:Ctr:=⟨⟨[.d (.slice (.sc (.int .i64))), .d (.sc (.int .i64))],[(.slice (.sc (.int .i64)))],1,[],[⟨some 3,false,false⟩]⟩,fun x=>nG x.1 x.2⟩
theorem RO:Cq.sound Tryz.prog 172:=am HU aw Tryz.func172 (by kernel_rfl) (an:=Yk) (fun x=>(by kernel_rfl:Cq.fn x=aJ MU Tryz.f172 Yk Cq.toSig x)) rfl
def OC:Cx:=aC MU 172 Cq
theorem Fj:OC.ok Tryz.prog:=ak HU RO
def Yf:An:=.z
def C4:Ctr:=⟨⟨[.d (.sc (.int .i64))],[(.slice (.sc (.int .i64)))],1,[],[⟨some 3,false,false⟩]⟩,fun x=>lM x⟩
theorem Tm:C4.sound Tryz.prog 109:=am Fj aw Tryz.func109 (by kernel_rfl) (an:=Yf) (fun x=>(by kernel_rfl:C4.fn x=aJ OC Tryz.f109 Yf C4.toSig x)) rfl
def L4:Cx:=aC OC 109 C4
theorem FP:L4.ok Tryz.prog:=ak Fj Tm
def Yu:An:=.z
def Dn:Ctr:=⟨⟨[.d (.slice aV)],[(.slice aV)],1,[],[⟨some 118,true,false⟩]⟩,fun x=>dA x⟩
theorem TE:Dn.sound Tryz.prog 118:=sr FP aw Tryz.func118 (by kernel_rfl) rfl (an:=Yu) (fun x=>(by kernel_rfl:Dn.fn x=sZ [.isn 0 false] L4 Tryz.f118 Yu Dn.toSig x)) (by kernel_rfl) rfl
def MW:Cx:=aC L4 118 Dn
theorem Fu:MW.ok Tryz.prog:=ak FP TE
def Xc:An:=.z
def CS:Ctr:=⟨⟨[.d (.slice (.sc (.int .i64)))],[(.slice (.sc (.int .i64)))],1,[],[⟨some 3,false,false⟩]⟩,fun x=>cG x⟩
theorem Vj:CS.sound Tryz.prog 119:=sr Fu aw Tryz.func119 (by kernel_rfl) rfl (an:=Xc) (fun x=>(by kernel_rfl:CS.fn x=sZ [.isn 0 false] MW Tryz.f119 Xc CS.toSig x)) (by kernel_rfl) rfl
def MY:Cx:=aC MW 119 CS
theorem Hc:MY.ok Tryz.prog:=ak Fu Vj
def Vv:An:=.z
def C6:Ctr:=⟨⟨[.d (.slice cN)],[(.slice cN)],1,[],[⟨some 114,true,false⟩]⟩,fun x=>cI x⟩
theorem Ro:C6.sound Tryz.prog 120:=sr Hc aw Tryz.func120 (by kernel_rfl) rfl (an:=Vv) (fun x=>(by kernel_rfl:C6.fn x=sZ [.isn 0 false] MY Tryz.f120 Vv C6.toSig x)) (by kernel_rfl) rfl
def MM:Cx:=aC MY 120 C6
theorem HO:MM.ok Tryz.prog:=ak Hc Ro
def Wv:An:=.z
def D0:Ctr:=⟨⟨[.d (.slice (.slice (.sc (.int .i64))))],[(.slice (.slice (.sc (.int .i64))))],1,[],[⟨some 22,true,false⟩]⟩,fun x=>iq x⟩
theorem Uw:D0.sound Tryz.prog 121:=sr HO aw Tryz.func121 (by kernel_rfl) rfl (an:=Wv) (fun x=>(by kernel_rfl:D0.fn x=sZ [.isn 0 false] MM Tryz.f121 Wv D0.toSig x)) (by kernel_rfl) rfl
def LD:Cx:=aC MM 121 D0
theorem Fi:LD.ok Tryz.prog:=ak HO Uw
def adB:An:=.s .z (.s (.gg [] [.p0 1 (some 0) 1870727804774333205280220053632888987722923590549622]) (.j ⟨[1,2],[],[(1,[.pt aV 1870727804774333205280220053632888987722923590549622 true [], .rep (.sc (.int .i64)) true [], .rep (.slice (.sc (.int .i64))) true [], .rep (.sc (.int .i64)) true [], .rep (.sc (.int .i64)) true [], .sc (.int .i64), .sc (.int .i64), .sc (.int .i64), .sc (.int .i64), .sc (.int .i64), .sc (.int .i64), .sc (.int .i64), .sc (.int .i64), .sc .str])],[]⟩ true (.s .z (.u (.l ⟨[1,2,15],[(14, .lf (.al 2)),(16, .lf (.sc (.int .i64)))],[(1,[.pt aV 1870727804774333205280220053632888987722923590549622 true [], .rep (.sc (.int .i64)) true [], .rep (.slice (.sc (.int .i64))) true [], .rep (.sc (.int .i64)) true [], .rep (.sc (.int .i64)) true [], .sc (.int .i64), .sc (.int .i64), .sc (.int .i64), .sc (.int .i64), .sc (.int .i64), .sc (.int .i64), .sc (.int .i64), .sc (.int .i64), .sc .str])],[]⟩ (.s .z (.s .z (.j ⟨[1,2,15,16],[(14, .lf (.al 1))],[(1,[.pt aV 1870727804774333205280220053632888987722923590549622 true [1000001], .rep (.sc (.int .i64)) true [1000001], .rep (.slice (.sc (.int .i64))) true [1000001], .rep (.sc (.int .i64)) true [1000001], .rep (.sc (.int .i64)) true [1000001], .sc (.int .i64), .sc (.int .i64), .sc (.int .i64), .sc (.int .i64), .sc (.int .i64), .sc (.int .i64), .sc (.int .i64), .sc (.int .i64), .sc .str])],[]⟩ true (.u (.s .z (.s .z (.s (.gg [] [.p0 4 (some 0) 1547425049178910481010655346]) (.j ⟨[1,2,3,4,14,15,16],[],[(4,[.pt cN 1547425049178910481010655346 true [14], .own (.sc (.int .i64)) 3 false [], .sc (.int .i64), .sc .bool])],[]⟩ true (.s .z (.u (.l ⟨[1,2,3,4,14,15,16,31],[(30, .lf (.al 2)),(32, .lf (.sc (.int .i64)))],[(4,[.pt cN 1547425049178910481010655346 true [14], .own (.sc (.int .i64)) 3 false [], .sc (.int .i64), .sc .bool])],[]⟩ .z))) (.g [.pf 4 (some 0)])))))) .z)))))) (.s (.g [.pf 1 (some 0)]) (.s (.gg [] [.p0 1 (some 2) 360314358468706326]) (.j ⟨[1,2],[],[(1,[.own aV 1870727804774333205280220053632888987722923590549622 false [], .own (.sc (.int .i64)) 3 false [], .pt (.slice (.sc (.int .i64))) 360314358468706326 true [1000001], .own (.sc (.int .i64)) 3 false [], .own (.sc (.int .i64)) 3 false [], .sc (.int .i64), .sc (.int .i64), .sc (.int .i64), .sc (.int .i64), .sc (.int .i64), .sc (.int .i64), .sc (.int .i64), .sc (.int .i64), .sc .str])],[53,56,59,65]⟩ true (.s .z (.u (.l ⟨[1,2,70],[(69, .lf (.al 4)),(71, .lf (.sc (.int .i64)))],[(1,[.own aV 1870727804774333205280220053632888987722923590549622 false [], .own (.sc (.int .i64)) 3 false [], .pt (.slice (.sc (.int .i64))) 360314358468706326 true [1000001], .own (.sc (.int .i64)) 3 false [], .own (.sc (.int .i64)) 3 false [], .sc (.int .i64), .sc (.int .i64), .sc (.int .i64), .sc (.int .i64), .sc (.int .i64), .sc (.int .i64), .sc (.int .i64), .sc (.int .i64), .sc .str])],[53,56,59,65]⟩ .z))) (.s (.g [.pf 1 (some 2)]) .z))))))
def OM:Ctr:=⟨⟨[.d de],[de],1,[],[⟨some 1870727804774333205280220053632888987722923590549622,false,false⟩,⟨some 3,false,false⟩,⟨some 360314358468706326,false,false⟩,⟨some 3,false,false⟩,⟨some 3,false,false⟩]⟩,fun x=>ga x⟩
theorem Zf:OM.sound Tryz.prog 64:=am Fi aw Tryz.func64 (by kernel_rfl) (an:=adB) (fun x=>(by kernel_rfl:OM.fn x=aJ LD Tryz.f64 adB OM.toSig x)) rfl
def Tt:Cx:=aC LD 64 OM
theorem Kg:Tt.ok Tryz.prog:=ak Fi Zf
def VX:An:=.z
def C1:Ctr:=⟨⟨[],[(.mp (.sc (.int .i64)) (.sc .fnc))],1,[],[⟨some 0,false,false⟩]⟩,fun _=>lZ ⟩
theorem Sg:C1.sound Tryz.prog 160:=am Kg aw Tryz.func160 (by kernel_rfl) (an:=VX) (fun x=>(by kernel_rfl:C1.fn x=aJ Tt Tryz.f160 VX C1.toSig x)) rfl
def N1:Cx:=aC Tt 160 C1
theorem FY:N1.ok Tryz.prog:=ak Kg Sg
def Wi:An:=.z
def Da:Ctr:=⟨⟨[.d (.sc (.int .i64))],[(.sc .bool)],1,[],[]⟩,fun x=>nU x⟩
theorem Ua:Da.sound Tryz.prog 159:=am FY aw Tryz.func159 (by kernel_rfl) (an:=Wi) (fun x=>(by kernel_rfl:Da.fn x=aJ N1 Tryz.f159 Wi Da.toSig x)) rfl
def LB:Cx:=aC N1 159 Da
theorem ES:LB.ok Tryz.prog:=ak FY Ua
def V3:An:=.z
def Er:Ctr:=⟨⟨[.d (.sc (.int .i64))],[(.sc .bool)],1,[],[]⟩,fun x=>mU x⟩
theorem SQ:Er.sound Tryz.prog 242:=am ES aw Tryz.func242 (by kernel_rfl) (an:=V3) (fun x=>(by kernel_rfl:Er.fn x=aJ LB Tryz.f242 V3 Er.toSig x)) rfl
def Lz:Cx:=aC LB 242 Er
theorem Ie:Lz.ok Tryz.prog:=ak ES SQ
def XK:An:=.z
def DM:Ctr:=⟨⟨[.d (.sc (.int .i64)), .d (.sc (.int .i64))],[(.sc .bool)],1,[],[]⟩,fun x=>nT x.1 x.2⟩
theorem SB:DM.sound Tryz.prog 211:=am Ie aw Tryz.func211 (by kernel_rfl) (an:=XK) (fun x=>(by kernel_rfl:DM.fn x=aJ Lz Tryz.f211 XK DM.toSig x)) rfl
def Le:Cx:=aC Lz 211 DM
theorem Hb:Le.ok Tryz.prog:=ak Ie SB
def WB:An:=.z
def En:Ctr:=⟨⟨[.d (.sc (.int .i64))],[(.sc .bool)],1,[],[]⟩,fun x=>kI x⟩
theorem Vi:En.sound Tryz.prog 212:=am Hb aw Tryz.func212 (by kernel_rfl) (an:=WB) (fun x=>(by kernel_rfl:En.fn x=aJ Le Tryz.f212 WB En.toSig x)) rfl
def Me:Cx:=aC Le 212 En
theorem GB:Me.ok Tryz.prog:=ak Hb Vi
def WF:An:=.s .z (.s .z (.s .z (.j ⟨[0,1,6],[(7, .lf (.sc (.int .i64)))],[],[8]⟩ true (.u (.l ⟨[0,1,6],[(7, .lf (.sc (.int .i64))),(8, .lf (.sc (.int .i64)))],[],[]⟩ .z)) .z)))
def DE:Ctr:=⟨⟨[.d (.slice (.sc (.int .i64))), .d (.sc (.int .i64))],[(.sc (.int .i64)),(.sc .bool)],2,[],[]⟩,fun x=>eT x.1 x.2⟩
theorem Uq:DE.sound Tryz.prog 176:=am GB aw Tryz.func176 (by kernel_rfl) (an:=WF) (fun x=>(by kernel_rfl:DE.fn x=aJ Me Tryz.f176 WF DE.toSig x)) rfl
def KX:Cx:=aC Me 176 DE
theorem Fh:KX.ok Tryz.prog:=ak GB Uq
def VR:An:=.s .z (.s .z (.j ⟨[6],[(5, .lf (.sc (.int .i64)))],[],[]⟩ true .z .z))
def CB:Ctr:=⟨⟨[.d dX, .d (.sc (.int .i64))],[(.sc (.int .i64))],1,[],[]⟩,fun x=>dQ x.1 x.2⟩
theorem Ry:CB.sound Tryz.prog 122:=am Fh aw Tryz.func122 (by kernel_rfl) (an:=VR) (fun x=>(by kernel_rfl:CB.fn x=aJ KX Tryz.f122 VR CB.toSig x)) rfl
def My:Cx:=aC KX 122 CB
theorem EV:My.ok Tryz.prog:=ak Fh Ry
def X9:An:=.z
def DU:Ctr:=⟨⟨[.d (.sc (.int .i64)), .d (.sc (.int .i64))],[(.sc (.int .i64))],1,[],[]⟩,fun x=>oy x.1 x.2⟩
theorem GX:DU.sound Tryz.prog 201:=am EV aw Tryz.func201 (by kernel_rfl) (an:=X9) (fun x=>(by kernel_rfl:DU.fn x=aJ My Tryz.f201 X9 DU.toSig x)) rfl
def Mf:Cx:=aC My 201 DU
theorem Fe:Mf.ok Tryz.prog:=ak EV GX
def VQ:An:=.z
def Dw:Ctr:=⟨⟨[.d (.sc (.int .i64)), .d (.sc (.int .i64))],[(.sc (.int .i64))],1,[],[]⟩,fun x=>oC x.1 x.2⟩
theorem FM:Dw.sound Tryz.prog 202:=am Fe aw Tryz.func202 (by kernel_rfl) (an:=VQ) (fun x=>(by kernel_rfl:Dw.fn x=aJ Mf Tryz.f202 VQ Dw.toSig x)) rfl
def MD:Cx:=aC Mf 202 Dw
theorem Fx:MD.ok Tryz.prog:=ak Fe FM
def Xv:An:=.z
def Ea:Ctr:=⟨⟨[.d (.sc (.int .i64)), .d (.sc (.int .i64))],[(.sc (.int .i64))],1,[],[]⟩,fun x=>oh x.1 x.2⟩
theorem Fp:Ea.sound Tryz.prog 203:=am Fx aw Tryz.func203 (by kernel_rfl) (an:=Xv) (fun x=>(by kernel_rfl:Ea.fn x=aJ MD Tryz.f203 Xv Ea.toSig x)) rfl
def Mg:Cx:=aC MD 203 Ea
theorem HR:Mg.ok Tryz.prog:=ak Fx Fp
def acx:An:=.z
def Oa:Ctr:=⟨⟨[.d (.sc .bool)],[(.sc (.int .i64))],1,[],[]⟩,fun x=>gc x⟩
theorem Zm:Oa.sound Tryz.prog 75:=am HR aw Tryz.func75 (by kernel_rfl) (an:=acx) (fun x=>(by kernel_rfl:Oa.fn x=aJ Mg Tryz.f75 acx Oa.toSig x)) rfl
def Q6:Cx:=aC Mg 75 Oa
theorem Jk:Q6.ok Tryz.prog:=ak HR Zm
def X7:An:=.z
def CF:Ctr:=⟨⟨[.d (.sc (.int .i64)), .d (.sc (.int .i64))],[(.sc (.int .i64))],1,[],[]⟩,fun x=>iw x.1 x.2⟩
theorem Hi:CF.sound Tryz.prog 204:=am Jk aw Tryz.func204 (by kernel_rfl) (an:=X7) (fun x=>(by kernel_rfl:CF.fn x=aJ Q6 Tryz.f204 X7 CF.toSig x)) rfl
def L3:Cx:=aC Q6 204 CF
theorem Fw:L3.ok Tryz.prog:=ak Jk Hi
def XD:An:=.z
def DZ:Ctr:=⟨⟨[.d (.sc (.int .i64)), .d (.sc (.int .i64))],[(.sc (.int .i64))],1,[],[]⟩,fun x=>iA x.1 x.2⟩
theorem Gr:DZ.sound Tryz.prog 205:=am Fw aw Tryz.func205 (by kernel_rfl) (an:=XD) (fun x=>(by kernel_rfl:DZ.fn x=aJ L3 Tryz.f205 XD DZ.toSig x)) rfl
def Mh:Cx:=aC L3 205 DZ
theorem FJ:Mh.ok Tryz.prog:=ak Fw Gr
def X3:An:=.z
def CX:Ctr:=⟨⟨[.d (.sc (.int .i64)), .d (.sc (.int .i64))],[(.sc (.int .i64))],1,[],[]⟩,fun x=>iC x.1 x.2⟩
theorem EA:CX.sound Tryz.prog 206:=am FJ aw Tryz.func206 (by kernel_rfl) (an:=X3) (fun x=>(by kernel_rfl:CX.fn x=aJ Mh Tryz.f206 X3 CX.toSig x)) rfl
def LF:Cx:=aC Mh 206 CX
theorem E5:LF.ok Tryz.prog:=ak FJ EA
def Ti:DCtr:=⟨⟨[.d (.sc (.int .i64)), .d (.sc (.int .i64))],[(.sc (.int .i64))],1,[],[]⟩,fun f x=>Mm f x.1 x.2⟩
theorem ZH:DCtr.sound Tryz.prog Ti:=by
 intro f x r h
 simp only [Ti,Mm] at h
 cases hb:Nat.beq f 201
 rotate_left
 ·rw [hb] at h; rw [Nat.eq_of_beq_eq_true hb]; exact GX x r h
 rw [hb] at h; simp only [cond_false] at h
 cases hb:Nat.beq f 202
 rotate_left
 ·rw [hb] at h; rw [Nat.eq_of_beq_eq_true hb]; exact FM x r h
 rw [hb] at h; simp only [cond_false] at h
 cases hb:Nat.beq f 203
 rotate_left
 ·rw [hb] at h; rw [Nat.eq_of_beq_eq_true hb]; exact Fp x r h
 rw [hb] at h; simp only [cond_false] at h
 cases hb:Nat.beq f 204
 rotate_left
 ·rw [hb] at h; rw [Nat.eq_of_beq_eq_true hb]; exact Hi x r h
 rw [hb] at h; simp only [cond_false] at h
 cases hb:Nat.beq f 205
 rotate_left
 ·rw [hb] at h; rw [Nat.eq_of_beq_eq_true hb]; exact Gr x r h
 rw [hb] at h; simp only [cond_false] at h
 cases hb:Nat.beq f 206
 rotate_left
 ·rw [hb] at h; rw [Nat.eq_of_beq_eq_true hb]; exact EA x r h
 rw [hb] at h; cases h
def LG:Cx:=adu LF Ti false
theorem ED:LG.ok Tryz.prog:=ZB E5 ZH
def mK:An:=.z
noncomputable def xT:Cx:=cM LG 110 (jS LG Tryz.f110 mK)
theorem xv:xT.ok Tryz.prog:=bG ED (ek ED aw Tryz.func110 (by kernel_rfl) (by kernel_rfl) _)
def pT:An:=.z
noncomputable def yb:Cx:=cM xT 101 (pb xT Tryz.f101 pT [aM])
theorem xH:yb.ok Tryz.prog:=bG xv (kp xv aw Tryz.func101 (by kernel_rfl) (by kernel_rfl) _ _)
def Ys:An:=.z
noncomputable def AW:Cx:=cM yb 99 (pb yb Tryz.f99 Ys [(.sc .bool)])
theorem zc:AW.ok Tryz.prog:=bG xH (kp xH aw Tryz.func99 (by kernel_rfl) (by kernel_rfl) _ _)
def KM:An:=.z
noncomputable def A0:Cx:=cM AW 65 (mZ AW Tryz.f65 KM)
theorem y6:A0.ok Tryz.prog:=bG zc (gR zc aw Tryz.func65 (by kernel_rfl) (by kernel_rfl) _)
def P3:An:=.z
noncomputable def yA:Cx:=cM A0 114 (mZ A0 Tryz.f114 P3)
theorem xK:yA.ok Tryz.prog:=bG y6 (gR y6 aw Tryz.func114 (by kernel_rfl) (by kernel_rfl) _)
def FZ:An:=.z
noncomputable def xS:Cx:=cM yA 115 (mZ yA Tryz.f115 FZ)
theorem xP:xS.ok Tryz.prog:=bG xK (gR xK aw Tryz.func115 (by kernel_rfl) (by kernel_rfl) _)
def Nz:An:=.z
noncomputable def Bg:Cx:=cM xS 47 (jS xS Tryz.f47 Nz)
theorem zn:Bg.ok Tryz.prog:=bG xP (ek xP aw Tryz.func47 (by kernel_rfl) (by kernel_rfl) _)
def acO:An:=.s .z (.s (.g [.up 1 [1547425049178910481010655346,3]]) (.s .z (.s .z (.s (.s .z (.u (.s .z (.s .z (.s .z (.s .z (.s .z (.s .z (.s .z (.s (.s .z (.s .z (.s (.g [.up 7 [3]]) .z))) (.s .z (.s .z (.s .z (.s .z (.s .z (.s (.s (.s .z (.s (.s .z (.g [.pa, .pa])) .z)) (.s .z (.s .z (.s .z (.g [.pa, .pa]))))) (.s .z (.s (.s .z (.s .z (.g [.pa, .pa]))) (.s .z (.s (.s .z (.s .z (.s (.k [0] [] []) .z))) (.s .z (.s .z (.s .z (.s (.s .z (.s (.s .z (.g [.pa, .pa])) .z)) .z)))))))))))))))))))))))) (.s .z (.s .z (.g [.pa, .pa])))))))
noncomputable def yE:Cx:=cM Bg 100 (mZ Bg Tryz.f100 acO)
theorem xC:yE.ok Tryz.prog:=bG zn (gR zn aw Tryz.func100 (by kernel_rfl) (by kernel_rfl) _)
def zO:An:=.z
noncomputable def I9:Cx:=cM yE 62 (mZ yE Tryz.f62 zO)
theorem KT:I9.ok Tryz.prog:=bG xC (gR xC aw Tryz.func62 (by kernel_rfl) (by kernel_rfl) _)
def acs:An:=.u (.s .z (.s .z (.s .z (.j ⟨[0,4],[],[(0,[.rep aM true [], .rep (.sc (.int .i64)) true [], .rep (.sc (.int .i64)) true [], .rep au true [], .rep au true [], .rep (.sc .str) true [], .rep (.sc .str) true [], .rep (.sc .str) true [], .sc (.int .i64), .sc (.int .i64), .sc (.int .i64), .ownk aV 1870727804774333205280220053632888987722923590549622 9, .own (.sc (.int .i64)) 3 false [], .rep (.slice (.sc (.int .i64))) true [], .own (.sc (.int .i64)) 3 false [], .own (.sc (.int .i64)) 3 false [], .sc (.int .i64), .sc (.int .i64), .sc (.int .i64), .sc (.int .i64), .sc (.int .i64), .sc (.int .i64), .sc (.int .i64), .sc (.int .i64), .sc .str, .mp ae (.sc .bool)])],[5]⟩ false (.u (.l ⟨[0,4],[(5, .lf (.sc (.int .i64)))],[(0,[.rep aM true [], .rep (.sc (.int .i64)) true [], .rep (.sc (.int .i64)) true [], .rep au true [], .rep au true [], .rep (.sc .str) true [], .rep (.sc .str) true [], .rep (.sc .str) true [], .sc (.int .i64), .sc (.int .i64), .sc (.int .i64), .ownk aV 1870727804774333205280220053632888987722923590549622 9, .own (.sc (.int .i64)) 3 false [], .rep (.slice (.sc (.int .i64))) true [], .own (.sc (.int .i64)) 3 false [], .own (.sc (.int .i64)) 3 false [], .sc (.int .i64), .sc (.int .i64), .sc (.int .i64), .sc (.int .i64), .sc (.int .i64), .sc (.int .i64), .sc (.int .i64), .sc (.int .i64), .sc .str, .mp ae (.sc .bool)])],[]⟩ (.s .z (.u (.s (.u (.s .z (.s .z (.s .z (.s .z (.j ⟨[0,4,5],[(30, .lf (.sc .bool))],[(0,[.rep aM true [1000000], .rep (.sc (.int .i64)) true [1000000], .rep (.sc (.int .i64)) true [1000000], .rep au true [1000000], .rep au true [1000000], .rep (.sc .str) true [1000000], .rep (.sc .str) true [1000000], .rep (.sc .str) true [1000000], .sc (.int .i64), .sc (.int .i64), .sc (.int .i64), .ownk aV 1870727804774333205280220053632888987722923590549622 9, .own (.sc (.int .i64)) 3 false [], .rep (.slice (.sc (.int .i64))) true [1000000], .own (.sc (.int .i64)) 3 false [], .own (.sc (.int .i64)) 3 false [], .sc (.int .i64), .sc (.int .i64), .sc (.int .i64), .sc (.int .i64), .sc (.int .i64), .sc (.int .i64), .sc (.int .i64), .sc (.int .i64), .sc .str, .mp ae (.sc .bool)])],[]⟩ true .z .z)))))) .z))))) (.s .z (.s .z (.s .z (.u (.s .z (.s .z (.s .z (.s (.j ⟨[0,6],[],[(0,[.rep aM true [1000000], .rep (.sc (.int .i64)) true [1000000], .rep (.sc (.int .i64)) true [1000000], .rep au true [1000000], .rep au true [1000000], .rep (.sc .str) true [1000000], .rep (.sc .str) true [1000000], .rep (.sc .str) true [1000000], .sc (.int .i64), .sc (.int .i64), .sc (.int .i64), .own aV 1870727804774333205280220053632888987722923590549622 false [], .own (.sc (.int .i64)) 3 false [], .rep (.slice (.sc (.int .i64))) true [1000000], .own (.sc (.int .i64)) 3 false [], .own (.sc (.int .i64)) 3 false [], .sc (.int .i64), .sc (.int .i64), .sc (.int .i64), .sc (.int .i64), .sc (.int .i64), .sc (.int .i64), .sc (.int .i64), .sc (.int .i64), .sc .str, .mp ae (.sc .bool)])],[]⟩ true .z .z) .z))))))))))))
def Lo:Ctr:=⟨⟨[.box true cx [none,none,none,none,none,none,none,none,some 1870727804774333205280220053632888987722923590549622,some 3,none,some 3,some 3,some 0], .d (.sc (.int .i64))],[cx],0,[0],[⟨none,true,true⟩,⟨none,true,true⟩,⟨none,true,true⟩,⟨none,true,true⟩,⟨none,true,true⟩,⟨none,true,true⟩,⟨none,true,true⟩,⟨none,true,true⟩,⟨some 1870727804774333205280220053632888987722923590549622,false,false⟩,⟨some 3,false,false⟩,⟨none,true,true⟩,⟨some 3,false,false⟩,⟨some 3,false,false⟩,⟨some 0,false,false⟩]⟩,fun x=>gu x.1 x.2⟩
theorem aaA:Lo.sound Tryz.prog 48:=am KT aw Tryz.func48 (by kernel_rfl) (an:=acs) (fun x=>(by kernel_rfl:Lo.fn x=aJ I9 Tryz.f48 acs Lo.toSig x)) rfl
def Lq:Cx:=aC LF 48 Lo
theorem A9:Lq.ok Tryz.prog:=ak E5 aaA
noncomputable def vT:Cx:=cM Lq 110 (jS Lq Tryz.f110 mK)
theorem vE:vT.ok Tryz.prog:=bG A9 (ek A9 aw Tryz.func110 (by kernel_rfl) (by kernel_rfl) _)
noncomputable def BA:Cx:=cM vT 101 (pb vT Tryz.f101 pT [aM])
theorem Gi:BA.ok Tryz.prog:=bG vE (kp vE aw Tryz.func101 (by kernel_rfl) (by kernel_rfl) _ _)
def Xq:An:=.s .z (.s .z (.j ⟨[0,1],[(5, .lf (.own (.sc (.int .i64)) 3 false []))],[],[]⟩ true (.s .z (.u (.l ⟨[0,1,13],[(5, .lf (.own (.sc (.int .i64)) 3 false [])),(14, .lf (.sc (.int .i64)))],[],[]⟩ (.s .z (.s .z (.j ⟨[0,1,13,14],[(5, .lf (.own (.sc (.int .i64)) 3 false []))],[],[]⟩ true .z .z)))))) .z))
def DD:Ctr:=⟨⟨[.box false cx [], .d (.sc (.int .i64))],[(.slice (.sc (.int .i64)))],1,[],[⟨some 3,false,false⟩]⟩,fun x=>dz x.1 x.2⟩
theorem RA:DD.sound Tryz.prog 111:=am Gi aw Tryz.func111 (by kernel_rfl) (an:=Xq) (fun x=>(by kernel_rfl:DD.fn x=aJ BA Tryz.f111 Xq DD.toSig x)) rfl
def CJ:Cx:=aC Lq 111 DD
theorem yR:CJ.ok Tryz.prog:=ak A9 RA
noncomputable def yw:Cx:=cM CJ 110 (jS CJ Tryz.f110 mK)
theorem xy:yw.ok Tryz.prog:=bG yR (ek yR aw Tryz.func110 (by kernel_rfl) (by kernel_rfl) _)
noncomputable def Ga:Cx:=cM yw 101 (pb yw Tryz.f101 pT [aM])
theorem Is:Ga.ok Tryz.prog:=bG xy (kp xy aw Tryz.func101 (by kernel_rfl) (by kernel_rfl) _ _)
def abm:An:=.s .z (.s .z (.j ⟨[0],[(3, .lf (.own (.sc (.int .i64)) 3 false []))],[],[]⟩ true (.s .z (.u (.l ⟨[0,14],[(3, .lf (.own (.sc (.int .i64)) 3 false [])),(15, .lf (.sc (.int .i64)))],[],[]⟩ (.s .z (.s .z (.j ⟨[0,14,15],[(3, .lf (.own (.sc (.int .i64)) 3 false []))],[],[]⟩ true (.u (.s .z (.s .z (.s .z (.s .z (.j ⟨[0,3,4,14,15,5,6],[(7, .lf (.sc .bool))],[],[]⟩ true .z .z)))))) .z)))))) .z))
def Lk:Ctr:=⟨⟨[.box false cx []],[(.slice (.sc (.int .i64)))],1,[],[⟨some 3,false,false⟩]⟩,fun x=>d7 x⟩
theorem aao:Lk.sound Tryz.prog 61:=am Is aw Tryz.func61 (by kernel_rfl) (an:=abm) (fun x=>(by kernel_rfl:Lk.fn x=aJ Ga Tryz.f61 abm Lk.toSig x)) rfl
def OB:Cx:=aC CJ 61 Lk
theorem Aq:OB.ok Tryz.prog:=ak yR aao
noncomputable def yP:Cx:=cM OB 110 (jS OB Tryz.f110 mK)
theorem xE:yP.ok Tryz.prog:=bG Aq (ek Aq aw Tryz.func110 (by kernel_rfl) (by kernel_rfl) _)
noncomputable def Bf:Cx:=cM yP 65 (mZ yP Tryz.f65 KM)
theorem za:Bf.ok Tryz.prog:=bG xE (gR xE aw Tryz.func65 (by kernel_rfl) (by kernel_rfl) _)
noncomputable def If:Cx:=cM Bf 101 (pb Bf Tryz.f101 pT [aM])
theorem Im:If.ok Tryz.prog:=bG za (kp za aw Tryz.func101 (by kernel_rfl) (by kernel_rfl) _ _)
def acq:An:=.s .z (.s .z (.j ⟨[0],[(2, .lf (.sc (.int .i64)))],[],[]⟩ true (.s .z (.u (.l ⟨[0,37],[(2, .lf (.sc (.int .i64))),(38, .lf (.sc (.int .i64)))],[],[]⟩ (.s .z (.s .z (.j ⟨[0,37,38],[(2, .lf (.sc (.int .i64)))],[],[]⟩ true .z .z)))))) .z))
def M7:Ctr:=⟨⟨[.box true cx [none,none,none,none,none,none,none,none,some 1870727804774333205280220053632888987722923590549622,some 3,none,some 3,some 3,some 0]],[cx],0,[0],[⟨none,true,false⟩,⟨none,true,false⟩,⟨none,true,false⟩,⟨none,true,false⟩,⟨none,true,false⟩,⟨none,true,false⟩,⟨none,true,false⟩,⟨none,true,false⟩,⟨some 1870727804774333205280220053632888987722923590549622,false,false⟩,⟨some 3,false,false⟩,⟨none,true,false⟩,⟨some 3,false,false⟩,⟨some 3,false,false⟩,⟨some 0,false,false⟩]⟩,fun x=>gJ x⟩
theorem ZP:M7.sound Tryz.prog 49:=am Im aw Tryz.func49 (by kernel_rfl) (an:=acq) (fun x=>(by kernel_rfl:M7.fn x=aJ If Tryz.f49 acq M7.toSig x)) rfl
def Ut:Cx:=aC OB 49 M7
theorem JK:Ut.ok Tryz.prog:=ak Aq ZP
def XV:An:=.s .z (.s .z (.j ⟨[0],[(3, .lf (.sc (.int .i64)))],[],[]⟩ true (.s .z (.u (.l ⟨[10,11],[(3, .lf (.sc (.int .i64))),(12, .lf (.sc (.int .i64)))],[],[]⟩ .z))) .z))
def C8:Ctr:=⟨⟨[.box false cx []],[(.sc (.int .i64))],1,[],[]⟩,fun x=>na x⟩
theorem Te:C8.sound Tryz.prog 175:=am JK aw Tryz.func175 (by kernel_rfl) (an:=XV) (fun x=>(by kernel_rfl:C8.fn x=aJ Ut Tryz.f175 XV C8.toSig x)) rfl
def CQ:Cx:=aC Ut 175 C8
theorem x9:CQ.ok Tryz.prog:=ak JK Te
noncomputable def yF:Cx:=cM CQ 62 (mZ CQ Tryz.f62 zO)
theorem xp:yF.ok Tryz.prog:=bG x9 (gR x9 aw Tryz.func62 (by kernel_rfl) (by kernel_rfl) _)
noncomputable def vo:Cx:=cM yF 110 (jS yF Tryz.f110 mK)
theorem vS:vo.ok Tryz.prog:=bG xp (ek xp aw Tryz.func110 (by kernel_rfl) (by kernel_rfl) _)
noncomputable def GT:Cx:=cM vo 47 (jS vo Tryz.f47 Nz)
theorem Ip:GT.ok Tryz.prog:=bG vS (ek vS aw Tryz.func47 (by kernel_rfl) (by kernel_rfl) _)
def WH:An:=.s .z (.s .z (.s .z (.s (.gg [.ug 0 (some 11) (some 1) aV [1547425049178910481010655346,3]] [.pa]) .z)))
def Dg:Ctr:=⟨⟨[.box true cx [none,none,none,none,none,none,none,none,some 1870727804774333205280220053632888987722923590549622,some 3,some 360314358468706326,some 3,some 3,some 0], .d (.sc (.int .i64)), .d (.sc (.int .i64))],[(.slice (.sc (.int .i64))),(.sc .bool),cx],2,[0],[⟨some 3,false,false⟩,⟨none,true,false⟩,⟨none,true,false⟩,⟨none,true,false⟩,⟨none,true,false⟩,⟨none,true,false⟩,⟨none,true,false⟩,⟨none,true,false⟩,⟨none,true,false⟩,⟨some 1870727804774333205280220053632888987722923590549622,false,false⟩,⟨some 3,false,false⟩,⟨some 360314358468706326,false,false⟩,⟨some 3,false,false⟩,⟨some 3,false,false⟩,⟨some 0,false,false⟩]⟩,fun x=>pR x.1 x.2.1 x.2.2⟩
theorem Vb:Dg.sound Tryz.prog 116:=am Ip aw Tryz.func116 (by kernel_rfl) (an:=WH) (fun x=>(by kernel_rfl:Dg.fn x=aJ GT Tryz.f116 WH Dg.toSig x)) rfl
def CM:Cx:=aC CQ 116 Dg
theorem yd:CM.ok Tryz.prog:=ak x9 Vb
noncomputable def yf:Cx:=cM CM 62 (mZ CM Tryz.f62 zO)
theorem xj:yf.ok Tryz.prog:=bG yd (gR yd aw Tryz.func62 (by kernel_rfl) (by kernel_rfl) _)
noncomputable def wk:Cx:=cM yf 115 (mZ yf Tryz.f115 FZ)
theorem vn:wk.ok Tryz.prog:=bG xj (gR xj aw Tryz.func115 (by kernel_rfl) (by kernel_rfl) _)
noncomputable def vx:Cx:=cM wk 110 (jS wk Tryz.f110 mK)
theorem vJ:vx.ok Tryz.prog:=bG vn (ek vn aw Tryz.func110 (by kernel_rfl) (by kernel_rfl) _)
noncomputable def BN:Cx:=cM vx 101 (pb vx Tryz.f101 pT [aM])
theorem FO:BN.ok Tryz.prog:=bG vJ (kp vJ aw Tryz.func101 (by kernel_rfl) (by kernel_rfl) _ _)
def Xi:An:=.s .z (.s .z (.s .z (.s (.gg [.up 10 [1547425049178910481010655346,3]] [.pa]) (.s .z (.s (.s .z (.s (.s (.gg [.up 10 [1547425049178910481010655346,3]] [.pa]) (.s (.k [2000000] [.ug 0 (some 13) (some 3) (.slice (.sc (.int .i64))) [3]] [.pa]) .z)) .z)) (.s .z (.s (.gg [.up 10 [1547425049178910481010655346,3]] [.pa]) (.s .z (.s (.gg [.up 14 [1547425049178910481010655346,3], .ug 14 (some 0) none cN [3]] [.pa, .pa]) (.s (.gg [.up 14 [1547425049178910481010655346,3]] [.pa]) .z))))))))))
def DO:Ctr:=⟨⟨[.box true cx [none,none,none,none,none,none,none,none,some 1870727804774333205280220053632888987722923590549622,some 3,some 360314358468706326,some 3,some 3,some 0], .d (.sc (.int .i64)), .d (.sc (.int .i64)), .d (.sc (.int .i64))],[(.slice (.sc (.int .i64))),(.sc .bool),cx],2,[0],[⟨some 3,false,false⟩,⟨none,true,false⟩,⟨none,true,false⟩,⟨none,true,false⟩,⟨none,true,false⟩,⟨none,true,false⟩,⟨none,true,false⟩,⟨none,true,false⟩,⟨none,true,false⟩,⟨some 1870727804774333205280220053632888987722923590549622,false,false⟩,⟨some 3,false,false⟩,⟨some 360314358468706326,false,false⟩,⟨some 3,false,false⟩,⟨some 3,false,false⟩,⟨some 0,false,false⟩]⟩,fun x=>qW x.1 x.2.1 x.2.2.1 x.2.2.2⟩
theorem Vu:DO.sound Tryz.prog 117:=am FO aw Tryz.func117 (by kernel_rfl) (an:=Xi) (fun x=>(by kernel_rfl:DO.fn x=aJ BN Tryz.f117 Xi DO.toSig x)) rfl
def DC:Cx:=aC CM 117 DO
theorem ya:DC.ok Tryz.prog:=ak yd Vu
noncomputable def xZ:Cx:=cM DC 110 (jS DC Tryz.f110 mK)
theorem xJ:xZ.ok Tryz.prog:=bG ya (ek ya aw Tryz.func110 (by kernel_rfl) (by kernel_rfl) _)
noncomputable def yQ:Cx:=cM xZ 101 (pb xZ Tryz.f101 pT [aM])
theorem xx:yQ.ok Tryz.prog:=bG xJ (kp xJ aw Tryz.func101 (by kernel_rfl) (by kernel_rfl) _ _)
noncomputable def Be:Cx:=cM yQ 62 (mZ yQ Tryz.f62 zO)
theorem zy:Be.ok Tryz.prog:=bG xx (gR xx aw Tryz.func62 (by kernel_rfl) (by kernel_rfl) _)
noncomputable def yI:Cx:=cM Be 114 (mZ Be Tryz.f114 P3)
theorem xB:yI.ok Tryz.prog:=bG zy (gR zy aw Tryz.func114 (by kernel_rfl) (by kernel_rfl) _)
noncomputable def Ft:Cx:=cM yI 115 (mZ yI Tryz.f115 FZ)
theorem II:Ft.ok Tryz.prog:=bG xB (gR xB aw Tryz.func115 (by kernel_rfl) (by kernel_rfl) _)
def ac7:An:=.s .z (.s .z (.s .z (.s .z (.s .z (.j ⟨[0,1,8,2,9],[(10, .lf (.sc .bool))],[(0,[.rep aM true [], .rep (.sc (.int .i64)) true [], .rep (.sc (.int .i64)) true [], .rep au true [], .rep au true [], .rep (.sc .str) true [], .rep (.sc .str) true [], .rep (.sc .str) true [], .sc (.int .i64), .sc (.int .i64), .sc (.int .i64), .ownk aV 1870727804774333205280220053632888987722923590549622 9, .own (.sc (.int .i64)) 3 false [], .rep (.slice (.sc (.int .i64))) true [1000000], .own (.sc (.int .i64)) 3 false [], .own (.sc (.int .i64)) 3 false [], .sc (.int .i64), .sc (.int .i64), .sc (.int .i64), .sc (.int .i64), .sc (.int .i64), .sc (.int .i64), .sc (.int .i64), .sc (.int .i64), .sc .str, .mp ae (.sc .bool)])],[]⟩ false (.s .z (.u (.s .z (.s (.s .z (.gg [.up 8 [1547425049178910481010655346,3]] [.pa])) (.s .z (.s (.s .z (.s (.gg [.up 8 [1547425049178910481010655346,3]] [.pa]) .z)) (.s .z (.s .z (.s .z (.s .z (.s .z (.s (.s .z (.s (.gg [.up 8 [1547425049178910481010655346,3], .ug 8 (some 0) none cN [3]] [.pa, .pa]) (.gg [.ug 0 (some 13) (some 96) (.slice (.sc (.int .i64))) [3]] [.pr 0 (some 13)]))) (.s .z (.s .z (.s .z (.s .z (.s .z (.s (.gg [.up 8 [1547425049178910481010655346,3], .ug 8 (some 0) none cN [3]] [.pa, .pa]) (.s .z (.s (.s .z (.s .z (.gg [.up 8 [1547425049178910481010655346,3], .ug 8 (some 0) none cN [3]] [.pa, .pa]))) (.s .z (.s .z (.s .z (.s (.s .z (.s (.gg [.up 8 [1547425049178910481010655346,3]] [.pa]) .z)) (.s .z (.s (.s .z (.gg [.up 8 [1547425049178910481010655346,3], .ug 8 (some 0) none cN [3]] [.pa, .pa])) (.s .z (.s (.gg [.up 8 [1547425049178910481010655346,3]] [.pa]) (.j ⟨[0,1],[],[(0,[.rep aM true [], .rep (.sc (.int .i64)) true [], .rep (.sc (.int .i64)) true [], .rep au true [], .rep au true [], .rep (.sc .str) true [], .rep (.sc .str) true [], .rep (.sc .str) true [], .sc (.int .i64), .sc (.int .i64), .sc (.int .i64), .own aV 1870727804774333205280220053632888987722923590549622 false [], .own (.sc (.int .i64)) 3 false [], .own (.slice (.sc (.int .i64))) 360314358468706326 false [], .own (.sc (.int .i64)) 3 false [], .own (.sc (.int .i64)) 3 false [], .sc (.int .i64), .sc (.int .i64), .sc (.int .i64), .sc (.int .i64), .sc (.int .i64), .sc (.int .i64), .sc (.int .i64), .sc (.int .i64), .sc .str, .mp ae (.sc .bool)])],[]⟩ true .z .z))))))))))))))))))))))))))))) (.j ⟨[0,1,10,8],[],[(0,[.rep aM true [1000000], .rep (.sc (.int .i64)) true [1000000], .rep (.sc (.int .i64)) true [1000000], .rep au true [1000000], .rep au true [1000000], .rep (.sc .str) true [1000000], .rep (.sc .str) true [1000000], .rep (.sc .str) true [1000000], .sc (.int .i64), .sc (.int .i64), .sc (.int .i64), .ownk aV 1870727804774333205280220053632888987722923590549622 9, .own (.sc (.int .i64)) 3 false [], .rep (.slice (.sc (.int .i64))) true [1000000], .own (.sc (.int .i64)) 3 false [], .own (.sc (.int .i64)) 3 false [], .sc (.int .i64), .sc (.int .i64), .sc (.int .i64), .sc (.int .i64), .sc (.int .i64), .sc (.int .i64), .sc (.int .i64), .sc (.int .i64), .sc .str, .mp ae (.sc .bool)])],[]⟩ true (.s .z (.s (.gg [.up 8 [1547425049178910481010655346,3]] [.pa]) .z)) .z))))))
def LN:Ctr:=⟨⟨[.box true cx [none,none,none,none,none,none,none,none,some 1870727804774333205280220053632888987722923590549622,some 3,some 360314358468706326,some 3,some 3,some 0], .d (.sc (.int .i64)), .d (.sc (.int .i64))],[(.slice (.sc (.int .i64))),(.sc .bool),cx],2,[0],[⟨some 3,false,false⟩,⟨none,true,true⟩,⟨none,true,true⟩,⟨none,true,true⟩,⟨none,true,true⟩,⟨none,true,true⟩,⟨none,true,true⟩,⟨none,true,true⟩,⟨none,true,true⟩,⟨some 1870727804774333205280220053632888987722923590549622,false,false⟩,⟨some 3,false,false⟩,⟨none,true,true⟩,⟨some 3,false,false⟩,⟨some 3,false,false⟩,⟨some 0,false,false⟩]⟩,fun x=>pP x.1 x.2.1 x.2.2⟩
theorem aaE:LN.sound Tryz.prog 63:=am II aw Tryz.func63 (by kernel_rfl) (an:=ac7) (fun x=>(by kernel_rfl:LN.fn x=aJ Ft Tryz.f63 ac7 LN.toSig x)) rfl
def Tg:Cx:=aC DC 63 LN
theorem JY:Tg.ok Tryz.prog:=ak ya aaE
def VG:An:=.s .z (.s .z (.j ⟨[0],[(3, .lf (.own (.sc .str) 9 false []))],[],[]⟩ true (.s .z (.u (.l ⟨[6,7],[(3, .lf (.own (.sc .str) 9 false [])),(8, .lf (.sc (.int .i64)))],[],[]⟩ .z))) .z))
def Dc:Ctr:=⟨⟨[.d (.slice au)],[(.slice (.sc .str))],1,[],[⟨some 9,false,false⟩]⟩,fun x=>qy x⟩
theorem RI:Dc.sound Tryz.prog 156:=am JY aw Tryz.func156 (by kernel_rfl) (an:=VG) (fun x=>(by kernel_rfl:Dc.fn x=aJ Tg Tryz.f156 VG Dc.toSig x)) rfl
def Or:Cx:=aC Tg 156 Dc
theorem G1:Or.ok Tryz.prog:=ak JY RI
def XX:An:=.z
def CW:Ctr:=⟨⟨[.d au],[(.sc .bool)],1,[],[]⟩,fun x=>qj x⟩
theorem Va:CW.sound Tryz.prog 158:=am G1 aw Tryz.func158 (by kernel_rfl) (an:=XX) (fun x=>(by kernel_rfl:CW.fn x=aJ Or Tryz.f158 XX CW.toSig x)) rfl
def M3:Cx:=aC Or 158 CW
theorem F5:M3.ok Tryz.prog:=ak G1 Va
def adC:An:=.s .z (.j ⟨[0,1],[],[],[]⟩ false (.s .z (.u (.l ⟨[0,1,7],[(8, .lf (.sc (.int .i64)))],[],[]⟩ .z))) .z)
def Lr:Ctr:=⟨⟨[.d (.slice au), .fn 158],[(.sc (.int .i64))],1,[],[]⟩,fun x=>eO x.1⟩
theorem aaG:Lr.sound Tryz.prog 44:=am F5 aw Tryz.func44 (by kernel_rfl) (an:=adC) (fun x=>(by kernel_rfl:Lr.fn x=aJ M3 Tryz.f44 adC Lr.toSig x)) rfl
def TK:Cx:=aC M3 44 Lr
theorem JE:TK.ok Tryz.prog:=ak F5 aaG
def WM:An:=.z
def Ei:Ctr:=⟨⟨[.d (.slice au), .fn 158],[(.sc .bool)],1,[],[]⟩,fun x=>cU x.1⟩
theorem Ui:Ei.sound Tryz.prog 157:=am JE aw Tryz.func157 (by kernel_rfl) (an:=WM) (fun x=>(by kernel_rfl:Ei.fn x=aJ TK Tryz.f157 WM Ei.toSig x)) rfl
def Nf:Cx:=aC TK 157 Ei
theorem Gz:Nf.ok Tryz.prog:=ak JE Ui
def adH:An:=.s .z (.s .z (.s .z (.j ⟨[1,3],[],[],[]⟩ false (.s .z (.u (.l ⟨[1,3,56,57],[(58, .lf (.sc (.int .i64)))],[],[]⟩ (.s .z (.s .z (.j ⟨[1,3,56,57,58],[],[],[]⟩ false (.u (.s .z (.s .z (.u (.l ⟨[1,3,5,56,57,58,63],[(64, .lf (.sc (.int .i64)))],[],[]⟩ .z))))) .z)))))) (.j ⟨[1,3],[],[],[]⟩ false (.s .z (.u (.l ⟨[1,83],[(84, .lf (.sc (.int .i64)))],[],[]⟩ .z))) .z))))
def Ma:Ctr:=⟨⟨[.d dX],[(.sc .bool)],1,[],[]⟩,fun x=>pq x⟩
theorem ZR:Ma.sound Tryz.prog 96:=am Gz aw Tryz.func96 (by kernel_rfl) (an:=adH) (fun x=>(by kernel_rfl:Ma.fn x=aJ Nf Tryz.f96 adH Ma.toSig x)) rfl
def Tk:Cx:=aC Nf 96 Ma
theorem JF:Tk.ok Tryz.prog:=ak Gz ZR
def ab8:An:=.s .z (.s .z (.j ⟨[1],[(3, .lf (.own jX 185 false []))],[],[]⟩ true (.s .z (.u (.l ⟨[1,8,9],[(3, .lf (.own jX 185 false [])),(10, .lf (.sc (.int .i64)))],[],[]⟩ (.s .z (.s .z (.j ⟨[1,8,9,10],[(3, .lf (.own jX 185 false []))],[],[]⟩ true (.u (.s .z (.s .z (.j ⟨[1,3,4,5,8,9,10],[(6, .lf (.sc (.int .i64)))],[],[]⟩ true .z .z)))) .z)))))) .z))
def LS:Ctr:=⟨⟨[.d dX],[(.slice jX)],1,[],[⟨some 185,false,false⟩]⟩,fun x=>qC x⟩
theorem YR:LS.sound Tryz.prog 97:=am JF aw Tryz.func97 (by kernel_rfl) (an:=ab8) (fun x=>(by kernel_rfl:LS.fn x=aJ Tk Tryz.f97 ab8 LS.toSig x)) rfl
def Tr:Cx:=aC Tk 97 LS
theorem Js:Tr.ok Tryz.prog:=ak JF YR
def abw:An:=.s .z (.s .z (.s .z (.s .z (.s .z (.s .z (.s .z (.j ⟨[7,8,12,3,4],[(10, .lf (.sc (.int .i64))),(11, .lf (.sc (.int .i64)))],[],[]⟩ false (.s .z (.u (.j ⟨[3,4,7,8,10,12,94],[(95, .lf (.sc .bool))],[],[]⟩ true .z (.s .z (.j ⟨[3,4,7,8,10,12,94],[(100, .lf (.sc .bool))],[],[]⟩ true .z (.s .z (.j ⟨[3,4,7,8,10,12,94],[(107, .lf (.sc .bool))],[],[]⟩ true .z (.s .z (.s .z (.s .z (.s .z (.s .z (.j ⟨[3,7,8,10,12,94],[(127, .lf (.sc .bool))],[],[]⟩ true .z (.s .z (.j ⟨[3,7,8,10,12,94],[(133, .lf (.sc .bool))],[],[]⟩ true .z (.s .z (.j ⟨[3,7,8,10,12,94],[(139, .lf (.sc .bool))],[],[]⟩ true .z (.s .z (.s .z (.s .z (.s .z (.s .z (.j ⟨[3,7,8,10,12,94],[(149, .lf (.sc .bool))],[],[]⟩ true .z .z))))))))))))))))))))))) .z)))))))
def M6:Ctr:=⟨⟨[.d dX, .d jX, .d (.sc (.int .i64))],[(.sc .bool)],1,[],[]⟩,fun x=>sD x.1 x.2.1 x.2.2⟩
theorem Zo:M6.sound Tryz.prog 98:=am Js aw Tryz.func98 (by kernel_rfl) (an:=abw) (fun x=>(by kernel_rfl:M6.fn x=aJ Tr Tryz.f98 abw M6.toSig x)) rfl
def Sz:Cx:=aC Tr 98 M6
theorem Kw:Sz.ok Tryz.prog:=ak Js Zo
def ady:An:=.s .z (.s .z (.s .z (.j ⟨[1],[],[],[]⟩ false (.s .z (.u (.l ⟨[1,15,16],[(17, .lf (.sc (.int .i64)))],[],[]⟩ (.s .z (.s .z (.j ⟨[1,15,16,17],[],[],[]⟩ false (.u (.s .z (.s .z (.u (.l ⟨[1,5,15,16,17],[(6, .lf (.sc (.int .i64)))],[],[]⟩ .z))))) .z)))))) .z)))
def LH:Ctr:=⟨⟨[.d dX],[(.sc (.int .i64)),(.sc (.int .i64))],2,[],[]⟩,fun x=>mf x⟩
theorem Zn:LH.sound Tryz.prog 41:=am Kw aw Tryz.func41 (by kernel_rfl) (an:=ady) (fun x=>(by kernel_rfl:LH.fn x=aJ Sz Tryz.f41 ady LH.toSig x)) rfl
def NM:Cx:=aC Sz 41 LH
theorem Aj:NM.ok Tryz.prog:=ak Kw Zn
noncomputable def wy:Cx:=cM NM 110 (jS NM Tryz.f110 mK)
theorem wu:wy.ok Tryz.prog:=bG Aj (ek Aj aw Tryz.func110 (by kernel_rfl) (by kernel_rfl) _)
noncomputable def vC:Cx:=cM wy 101 (pb wy Tryz.f101 pT [aM])
theorem vm:vC.ok Tryz.prog:=bG wu (kp wu aw Tryz.func101 (by kernel_rfl) (by kernel_rfl) _ _)
noncomputable def yB:Cx:=cM vC 99 (pb vC Tryz.f99 Ys [(.sc .bool)])
theorem xF:yB.ok Tryz.prog:=bG vm (kp vm aw Tryz.func99 (by kernel_rfl) (by kernel_rfl) _ _)
def acd:An:=.s .z (.s .z (.s .z (.j ⟨[0,1],[],[],[]⟩ false (.s .z (.u (.l ⟨[0,1,71,72],[(73, .lf (.sc (.int .i64)))],[],[]⟩ .z))) .z)))
noncomputable def B2:Cx:=cM yB 207 (pb yB Tryz.f207 acd [(.sc .bool)])
theorem FB:B2.ok Tryz.prog:=bG xF (kp xF aw Tryz.func207 (by kernel_rfl) (by kernel_rfl) _ _)
def Wk:An:=.s .z (.s .z (.s .z (.j ⟨[0,3],[],[],[]⟩ false (.s .z (.u (.l ⟨[0,3,85,86],[(87, .lf (.sc (.int .i64)))],[],[]⟩ .z))) (.j ⟨[0,3],[],[],[]⟩ false (.s .z (.u (.l ⟨[0,3,108,109],[(110, .lf (.sc (.int .i64)))],[],[]⟩ .z))) (.j ⟨[0,3],[],[],[]⟩ false (.s .z (.u (.l ⟨[0,3,130],[(131, .lf (.sc (.int .i64)))],[],[]⟩ .z))) .z)))))
def Dz:Ctr:=⟨⟨[.box false cx []],[(.sc .bool)],1,[],[]⟩,fun x=>pC x⟩
theorem Un:Dz.sound Tryz.prog 170:=am FB aw Tryz.func170 (by kernel_rfl) (an:=Wk) (fun x=>(by kernel_rfl:Dz.fn x=aJ B2 Tryz.f170 Wk Dz.toSig x)) rfl
def M4:Cx:=aC NM 170 Dz
theorem Gv:M4.ok Tryz.prog:=ak Aj Un
def Wz:An:=.z
def Cs:Ctr:=⟨⟨[.d (.sc (.int .i64)), .d (.sc (.int .i64))],[(.sc .bool)],1,[],[]⟩,fun x=>lH x.1 x.2⟩
theorem RN:Cs.sound Tryz.prog 169:=am Gv aw Tryz.func169 (by kernel_rfl) (an:=Wz) (fun x=>(by kernel_rfl:Cs.fn x=aJ M4 Tryz.f169 Wz Cs.toSig x)) rfl
def L6:Cx:=aC M4 169 Cs
theorem HF:L6.ok Tryz.prog:=ak Gv RN
def WL:An:=.s .z (.j ⟨[0,1],[],[],[]⟩ false (.s .z (.u (.l ⟨[0,1,7],[(8, .lf (.sc (.int .i64)))],[],[]⟩ .z))) .z)
def CV:Ctr:=⟨⟨[.d (.slice (.sc (.int .i64))), .d (.sc (.int .i64))],[(.sc (.int .i64))],1,[],[]⟩,fun x=>ol x.1 x.2⟩
theorem UK:CV.sound Tryz.prog 208:=am HF aw Tryz.func208 (by kernel_rfl) (an:=WL) (fun x=>(by kernel_rfl:CV.fn x=aJ L6 Tryz.f208 WL CV.toSig x)) rfl
def ND:Cx:=aC L6 208 CV
theorem FN:ND.ok Tryz.prog:=ak HF UK
def VL:An:=.z
def Dp:Ctr:=⟨⟨[.d (.slice (.sc (.int .i64))), .d (.sc (.int .i64))],[(.sc .bool)],1,[],[]⟩,fun x=>mz x.1 x.2⟩
theorem Uc:Dp.sound Tryz.prog 171:=am FN aw Tryz.func171 (by kernel_rfl) (an:=VL) (fun x=>(by kernel_rfl:Dp.fn x=aJ ND Tryz.f171 VL Dp.toSig x)) rfl
def Ee:Cx:=aC ND 171 Dp
theorem yN:Ee.ok Tryz.prog:=ak FN Uc
def Dh:An:=.z
noncomputable def FK:Cx:=cM Ee 46 (jS Ee Tryz.f46 Dh)
theorem In:FK.ok Tryz.prog:=bG yN (ek yN aw Tryz.func46 (by kernel_rfl) (by kernel_rfl) _)
def VM:An:=.z
def DY:Ctr:=⟨⟨[.d dX, .d de],[(.sc (.int .i64))],1,[],[]⟩,fun x=>u9 x.1 x.2⟩
theorem RQ:DY.sound Tryz.prog 108:=am In aw Tryz.func108 (by kernel_rfl) (an:=VM) (fun x=>(by kernel_rfl:DY.fn x=aJ FK Tryz.f108 VM DY.toSig x)) rfl
def Ov:Cx:=aC Ee 108 DY
theorem GY:Ov.ok Tryz.prog:=ak yN RQ
def aa1:An:=.z
def L2:Ctr:=⟨⟨[.d eR],[(.sc .bool)],1,[],[]⟩,fun x=>kD x⟩
theorem Z0:L2.sound Tryz.prog 42:=am GY aw Tryz.func42 (by kernel_rfl) (an:=aa1) (fun x=>(by kernel_rfl:L2.fn x=aJ Ov Tryz.f42 aa1 L2.toSig x)) rfl
def SH:Cx:=aC Ov 42 L2
theorem Kf:SH.ok Tryz.prog:=ak GY Z0
def ac9:An:=.z
def M1:Ctr:=⟨⟨[.d dX, .d eR, .d de],[(.sc (.int .i64))],1,[],[]⟩,fun x=>qm x.1 x.2.1 x.2.2⟩
theorem Zi:M1.sound Tryz.prog 56:=am Kf aw Tryz.func56 (by kernel_rfl) (an:=ac9) (fun x=>(by kernel_rfl:M1.fn x=aJ SH Tryz.f56 ac9 M1.toSig x)) rfl
def Mt:Cx:=aC SH 56 M1
theorem Ay:Mt.ok Tryz.prog:=ak Kf Zi
noncomputable def xU:Cx:=cM Mt 110 (jS Mt Tryz.f110 mK)
theorem xk:xU.ok Tryz.prog:=bG Ay (ek Ay aw Tryz.func110 (by kernel_rfl) (by kernel_rfl) _)
noncomputable def GF:Cx:=cM xU 101 (pb xU Tryz.f101 pT [aM])
theorem IM:GF.ok Tryz.prog:=bG xk (kp xk aw Tryz.func101 (by kernel_rfl) (by kernel_rfl) _ _)
def ac8:An:=.s .z (.s .z (.s .z (.j ⟨[0,2],[(4, .lf (.sc (.int .i64)))],[],[3]⟩ false .z (.s .z (.s .z (.j ⟨[2,6,0,5],[],[(6,[.sc (.int .i64), .sc (.int .i64), .sc (.int .i64), .own (.sc (.int .i64)) 3 false []])],[]⟩ true .z .z))))))
def N3:Ctr:=⟨⟨[.box false cx []],[oc],1,[],[⟨some 3,false,false⟩]⟩,fun x=>mG x⟩
theorem ZM:N3.sound Tryz.prog 57:=am IM aw Tryz.func57 (by kernel_rfl) (an:=ac8) (fun x=>(by kernel_rfl:N3.fn x=aJ GF Tryz.f57 ac8 N3.toSig x)) rfl
def OD:Cx:=aC Mt 57 N3
theorem AU:OD.ok Tryz.prog:=ak Ay ZM
noncomputable def Jd:Cx:=cM OD 46 (jS OD Tryz.f46 Dh)
theorem Oj:Jd.ok Tryz.prog:=bG AU (ek AU aw Tryz.func46 (by kernel_rfl) (by kernel_rfl) _)
def adc:An:=.z
def OJ:Ctr:=⟨⟨[.d dX, .d eR, .d de],[oc,(.sc (.int .i64))],2,[],[⟨some 3,false,false⟩]⟩,fun x=>qN x.1 x.2.1 x.2.2⟩
theorem aap:OJ.sound Tryz.prog 18:=am Oj aw Tryz.func18 (by kernel_rfl) (an:=adc) (fun x=>(by kernel_rfl:OJ.fn x=aJ Jd Tryz.f18 adc OJ.toSig x)) rfl
def Ms:Cx:=aC OD 18 OJ
theorem A5:Ms.ok Tryz.prog:=ak AU aap
noncomputable def Ba:Cx:=cM Ms 46 (jS Ms Tryz.f46 Dh)
theorem yV:Ba.ok Tryz.prog:=bG A5 (ek A5 aw Tryz.func46 (by kernel_rfl) (by kernel_rfl) _)
noncomputable def Ap:Cx:=cM Ba 62 (mZ Ba Tryz.f62 zO)
theorem zN:Ap.ok Tryz.prog:=bG yV (gR yV aw Tryz.func62 (by kernel_rfl) (by kernel_rfl) _)
noncomputable def yu:Cx:=cM Ap 110 (jS Ap Tryz.f110 mK)
theorem xN:yu.ok Tryz.prog:=bG zN (ek zN aw Tryz.func110 (by kernel_rfl) (by kernel_rfl) _)
noncomputable def Kh:Cx:=cM yu 65 (mZ yu Tryz.f65 KM)
theorem Mj:Kh.ok Tryz.prog:=bG xN (gR xN aw Tryz.func65 (by kernel_rfl) (by kernel_rfl) _)
noncomputable def JV:Cx:=cM Kh 66 R4
theorem N8:JV.ok Tryz.prog:=bG Mj Zj
def abd:An:=.s .z (.s .z (.s .z (.s .z (.s .z (.s .z (.s .z (.s .z (.s .z (.s .z (.s .z (.s .z (.s .z (.j ⟨[8,12],[],[(12,[.rep aM true [1000012], .rep (.sc (.int .i64)) true [1000012], .rep (.sc (.int .i64)) true [1000012], .rep au true [1000012], .rep au true [1000012], .rep (.sc .str) true [1000012], .rep (.sc .str) true [1000012], .rep (.sc .str) true [1000012], .sc (.int .i64), .sc (.int .i64), .sc (.int .i64), .own aV 1870727804774333205280220053632888987722923590549622 false [], .own (.sc (.int .i64)) 3 false [], .rep (.slice (.sc (.int .i64))) true [1000012], .own (.sc (.int .i64)) 3 false [], .own (.sc (.int .i64)) 3 false [], .sc (.int .i64), .sc (.int .i64), .sc (.int .i64), .sc (.int .i64), .sc (.int .i64), .sc (.int .i64), .sc (.int .i64), .sc (.int .i64), .sc .str, .mp ae (.sc .bool)])],[14]⟩ true (.s .z (.u (.l ⟨[8,12,131,132],[(133, .lf (.sc (.int .i64)))],[(12,[.rep aM true [1000012], .rep (.sc (.int .i64)) true [1000012], .rep (.sc (.int .i64)) true [1000012], .rep au true [1000012], .rep au true [1000012], .rep (.sc .str) true [1000012], .rep (.sc .str) true [1000012], .rep (.sc .str) true [1000012], .sc (.int .i64), .sc (.int .i64), .sc (.int .i64), .own aV 1870727804774333205280220053632888987722923590549622 false [], .own (.sc (.int .i64)) 3 false [], .rep (.slice (.sc (.int .i64))) true [1000012], .own (.sc (.int .i64)) 3 false [], .own (.sc (.int .i64)) 3 false [], .sc (.int .i64), .sc (.int .i64), .sc (.int .i64), .sc (.int .i64), .sc (.int .i64), .sc (.int .i64), .sc (.int .i64), .sc (.int .i64), .sc .str, .mp ae (.sc .bool)])],[]⟩ .z))) .z)))))))))))))
def KU:Ctr:=⟨⟨[.d dX, .d eR, .d de, .d (.sc (.int .i64))],[de,(.slice ae),(.sc (.int .i64))],3,[],[⟨some 1870727804774333205280220053632888987722923590549622,false,false⟩,⟨some 3,false,false⟩,⟨none,true,true⟩,⟨some 3,false,false⟩,⟨some 3,false,false⟩,⟨some 153,false,false⟩]⟩,fun x=>uW x.1 x.2.1 x.2.2.1 x.2.2.2⟩
theorem aay:KU.sound Tryz.prog 24:=am N8 aw Tryz.func24 (by kernel_rfl) (an:=abd) (fun x=>(by kernel_rfl:KU.fn x=aJ JV Tryz.f24 abd KU.toSig x)) rfl
def QO:Cx:=aC Ms 24 KU
theorem JP:QO.ok Tryz.prog:=ak A5 aay
def acF:An:=.z
def Na:Ctr:=⟨⟨[.d au, .box false (.sc .str) []],[(.sc .bool)],1,[],[]⟩,fun x=>mA x.1 x.2⟩
theorem ZQ:Na.sound Tryz.prog 45:=am JP aw Tryz.func45 (by kernel_rfl) (an:=acF) (fun x=>(by kernel_rfl:Na.fn x=aJ QO Tryz.f45 acF Na.toSig x)) rfl
def Ur:Cx:=aC QO 45 Na
theorem IU:Ur.ok Tryz.prog:=ak JP ZQ
def OU:An:=.s .z (.j ⟨[0,1],[],[],[]⟩ false (.s .z (.u (.l ⟨[0,1,7],[(8, .lf (.sc (.int .i64)))],[],[]⟩ .z))) .z)
def zB:Ctr:=⟨⟨[.d (.slice au), .clo 45 (.sc .str)],[(.sc (.int .i64))],1,[],[]⟩,fun x=>eH x.1 x.2⟩
theorem Qo:zB.sound Tryz.prog 44:=am IU aw Tryz.func44 (by kernel_rfl) (an:=OU) (fun x=>(by kernel_rfl:zB.fn x=aJ Ur Tryz.f44 OU zB.toSig x)) rfl
def Ia:Cx:=aC Ur 44 zB
theorem Cj:Ia.ok Tryz.prog:=ak IU Qo
def adJ:An:=.z
def MG:Ctr:=⟨⟨[.d (.sc .str), .d (.sc (.int .i64)), .box false (.slice au) []],[(.sc (.int .i64))],1,[],[]⟩,fun x=>jI x.1 x.2.1 x.2.2⟩
theorem Y3:MG.sound Tryz.prog 43:=am Cj aw Tryz.func43 (by kernel_rfl) (an:=adJ) (fun x=>(by kernel_rfl:MG.fn x=aJ Ia Tryz.f43 adJ MG.toSig x)) rfl
def LI:Cx:=aC Ia 43 MG
theorem AA:LI.ok Tryz.prog:=ak Cj Y3
noncomputable def Bo:Cx:=cM LI 46 (jS LI Tryz.f46 Dh)
theorem yS:Bo.ok Tryz.prog:=bG AA (ek AA aw Tryz.func46 (by kernel_rfl) (by kernel_rfl) _)
noncomputable def JJ:Cx:=cM Bo 47 (jS Bo Tryz.f47 Nz)
theorem Nw:JJ.ok Tryz.prog:=bG yS (ek yS aw Tryz.func47 (by kernel_rfl) (by kernel_rfl) _)
end
end Go.Proofs.YtfhhiajfciblbaaGreatDoor
