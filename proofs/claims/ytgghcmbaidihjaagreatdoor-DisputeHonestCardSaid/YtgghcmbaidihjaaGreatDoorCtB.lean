/- Laws for the row. No condition. -/
import Derived.Test.YtgghcmbaidihjaaGreatDoorExtT
namespace Go.Proofs.YtgghcmbaidihjaaGreatDoor
open Go.Sm
set_option maxRecDepth 100000
set_option linter.unusedSectionVars false
section
variable [Itr]  [Yc:GCx] [SortLaw]
def ahT:An:=.z
def Iq:Ctr:=⟨⟨[.d aw,.d aw],[(.sc pi)],1,[],[]⟩,λx=>oc x.1 x.2⟩
def RV:Cx:=aA S5 285 Iq
theorem ND:Qq0 RV:=ao Nw (Qq2 Nw Tryz.func285 (by kernel_rfl) ahT (λx=>by kernel_rfl) rfl)
def afY:An:=.s .z (.u (.l ⟨[0,1,2,3],[(8,.lf (.sc pi))],[(0,[.ownk aw 217 0])],[]⟩ (.s .z (.j ⟨[0,1,2,3,8],[],[(0,[.ownk aw 217 0])],[]⟩ true (.u (.s .z (.u (.l ⟨[0,1,2,3,8],[(9,.lf (.sc pi))],[(0,[.ownk aw 217 0])],[]⟩ .z)))) .z))))
def JF:Ctr:=⟨⟨[.prt aw 217,.d (.sc pi),.d (.sc pi),.fn 285],[(.slice aw)],0,[13952],[⟨some 4194304,false,false⟩]⟩,λx=>dF x.1 x.2.1 x.2.2.1⟩
def R5:Cx:=aA RV 350 JF
theorem OA:Qq0 R5:=ao ND (Qq2 ND Tryz.func350 (by kernel_rfl) afY (λx=>by kernel_rfl) rfl)
def afq:An:=.s .z (.s .z (.j ⟨[0,1,2,6],[(7,.lf (.sc pi))],[(0,[.ownk aw 217 0])],[8]⟩ true (.u (.l ⟨[0,1,2,6],[(7,.lf (.sc pi)),(8,.lf (.sc pi))],[(0,[.ownk aw 217 0])],[]⟩ .z)) (.s .z (.u (.l ⟨[0,1,2],[(6,.lf (.sc pi))],[],[]⟩ (.s .z (.u (.s .z (.j ⟨[0,1,2,6],[(7,.lf (.sc pi))],[],[8]⟩ true (.u (.l ⟨[0,1,2,6],[(7,.lf (.sc pi)),(8,.lf (.sc pi))],[],[]⟩ .z)) (.j ⟨[0,1,2,6,7],[],[],[]⟩ true .z .z))))))))))
def I9:Ctr:=⟨⟨[.prt aw 217,.d (.sc pi),.fn 285],[(.slice aw)],0,[13952],[⟨some 4194304,false,false⟩]⟩,λx=>eX x.1 x.2.1⟩
def VZ:Cx:=aA R5 323 I9
theorem Lm:Qq0 VZ:=ao OA (Qq2 OA Tryz.func323 (by kernel_rfl) afq (λx=>by kernel_rfl) rfl)
def aiP:An:=.z
def Iw:Ctr:=⟨⟨[.prt aw 217,.fn 285],[(.slice aw)],0,[13952],[⟨some 4194304,false,false⟩]⟩,λx=>di x.1⟩
def R8:Cx:=aA VZ 284 Iw
theorem Or:Qq0 R8:=ao Lm (Qq2 Lm Tryz.func284 (by kernel_rfl) aiP (λx=>by kernel_rfl) rfl)
def ah3:An:=.z
def Je:Ctr:=⟨⟨[.d (.sc (.int .u64)),.d (.sc (.int .u64))],[(.sc (.int .u64)),(.sc (.int .u64))],2,[],[]⟩,λx=>vD x.1 x.2⟩
def Ry:Cx:=aA R8 362 Je
theorem NG:Qq0 Ry:=ao Or (Qq2 Or Tryz.func362 (by kernel_rfl) ah3 (λx=>by kernel_rfl) rfl)
def aiw:An:=.z
def HR:Ctr:=⟨⟨[.d (.sc (.int .u64)),.d (.sc (.int .u64))],[(.sc (.int .u64)),(.sc (.int .u64))],2,[],[]⟩,λx=>zc x.1 x.2⟩
def V8:Cx:=aA Ry 340 HR
theorem Nt:Qq0 V8:=ao NG (Qq2 NG Tryz.func340 (by kernel_rfl) aiw (λx=>by kernel_rfl) rfl)
def ahO:An:=.s .z (.j ⟨[0,1],[],[],[]⟩ true .z (.s .z (.j ⟨[0,6,5],[],[],[]⟩ true .z (.s .z (.s .z (.j ⟨[],[(7,.lf (.own (.sc pi) 3 false []))],[],[8]⟩ true (.u (.l ⟨[],[(7,.lf (.own (.sc pi) 3 false [])),(8,.lf (.sc pi))],[],[]⟩ .z)) .z))))))
def Hu:Ctr:=⟨⟨[.d (.slice (.sc pi)),.d (.sc pi)],[(.slice (.sc pi))],1,[],[⟨some 3,false,false⟩]⟩,λx=>pB x.1 x.2⟩
def SP:Cx:=aA V8 320 Hu
theorem Lz:Qq0 SP:=ao Nt (Qq2 Nt Tryz.func320 (by kernel_rfl) ahO (λx=>by kernel_rfl) rfl)
def af7:An:=.z
def I4:Ctr:=⟨⟨[.d (.sc pi)],[(.slice (.sc pi))],1,[],[⟨some 3,false,false⟩]⟩,λx=>gu x⟩
def Vl:Cx:=aA SP 262 I4
theorem KT:Qq0 Vl:=ao Lz (Qq2 Lz Tryz.func262 (by kernel_rfl) af7 (λx=>by kernel_rfl) rfl)
def afn:An:=.z
def II:Ctr:=⟨⟨[.d (.slice aR)],[(.slice aR)],1,[],[⟨some 152,true,false⟩]⟩,λx=>dV x⟩
theorem acA:II.sound Tryz.prog 253:=wl KT i4 Tryz.func253 (by kernel_rfl) rfl (an:=afn) (λx=>(by kernel_rfl:II.fn x=wu [.isn 0 false] Vl Tryz.f253 afn II.toSig x)) (by kernel_rfl) rfl
def Wi:Cx:=aA Vl 253 II
theorem JZ:Qq0 Wi:=ao KT acA
def ahG:An:=.z
def IM:Ctr:=⟨⟨[.d (.slice (.sc pi))],[(.slice (.sc pi))],1,[],[⟨some 3,false,false⟩]⟩,λx=>cx x⟩
theorem aap:IM.sound Tryz.prog 127:=wl JZ i4 Tryz.func127 (by kernel_rfl) rfl (an:=ahG) (λx=>(by kernel_rfl:IM.fn x=wu [.isn 0 false] Wi Tryz.f127 ahG IM.toSig x)) (by kernel_rfl) rfl
def Sn:Cx:=aA Wi 127 IM
theorem Ni:Qq0 Sn:=ao JZ aap
def agt:An:=.z
def HJ:Ctr:=⟨⟨[.d (.slice bV)],[(.slice bV)],1,[],[⟨some 148,true,false⟩]⟩,λx=>cX x⟩
theorem acg:HJ.sound Tryz.prog 254:=wl Ni i4 Tryz.func254 (by kernel_rfl) rfl (an:=agt) (λx=>(by kernel_rfl:HJ.fn x=wu [.isn 0 false] Sn Tryz.f254 agt HJ.toSig x)) (by kernel_rfl) rfl
def SL:Cx:=aA Sn 254 HJ
theorem Kw:Qq0 SL:=ao Ni acg
def afR:An:=.z
def Hp:Ctr:=⟨⟨[.d (.slice (.slice (.sc pi)))],[(.slice (.slice (.sc pi)))],1,[],[⟨some 23,true,false⟩]⟩,λx=>i6 x⟩
theorem aeI:Hp.sound Tryz.prog 255:=wl Kw i4 Tryz.func255 (by kernel_rfl) rfl (an:=afR) (λx=>(by kernel_rfl:Hp.fn x=wu [.isn 0 false] SL Tryz.f255 afR Hp.toSig x)) (by kernel_rfl) rfl
def Sy:Cx:=aA SL 255 Hp
theorem ME:Qq0 Sy:=ao Kw aeI
def afM:An:=.s .z (.s (.gg [] [.p0 1 (some 0) 1870727804774333205280220053793449448177874923159704]) (.j ⟨[1,2],[],[(1,c18)],[]⟩ true (.s .z (.u (.l ⟨[1,2,15],[(14,.lf (.al 2)),(16,.lf (.sc pi))],[(1,c18)],[]⟩ (.s .z (.s .z (.j ⟨[1,2,15,16],[(14,.lf (.al 1))],[(1,[.pt aR 1870727804774333205280220053793449448177874923159704 true [1000001],.rep (.sc pi) true [1000001],.rep (.slice (.sc pi)) true [1000001],.rep (.sc pi) true [1000001],.rep (.sc pi) true [1000001],.sc pi,.sc pi,.sc pi,.sc pi,.sc pi,.sc pi,.sc pi,.sc pi,.sc .str])],[]⟩ true (.u (.s .z (.s .z (.s (.gg [] [.p0 4 (some 0) 1547425049178947864405999764]) (.j ⟨[1,2,3,4,14,15,16],[],[(4,c25)],[]⟩ true (.s .z (.u (.l ⟨[1,2,3,4,14,15,16,31],[(30,.lf (.al 2)),(32,.lf (.sc pi))],[(4,c25)],[]⟩ .z))) (.g [.pf 4 (some 0)])))))) .z)))))) (.s (.g [.pf 1 (some 0)]) (.s (.gg [] [.p0 1 (some 2) 360315457980334103]) (.j ⟨[1,2],[],[(1,c17)],[53,56,59,65]⟩ true (.s .z (.u (.l ⟨[1,2,70],[(69,.lf (.al 4)),(71,.lf (.sc pi))],[(1,c17)],[53,56,59,65]⟩ .z))) (.s (.g [.pf 1 (some 2)]) .z))))))
def HO:Ctr:=⟨⟨[.d bj],[bj],1,[],[⟨some 1870727804774333205280220053793449448177874923159704,false,false⟩,⟨some 3,false,false⟩,⟨some 360315457980334103,false,false⟩,⟨some 3,false,false⟩,⟨some 3,false,false⟩]⟩,λx=>gI x⟩
def VA:Cx:=aA Sy 174 HO
theorem NK:Qq0 VA:=ao ME (Qq2 ME Tryz.func174 (by kernel_rfl) afM (λx=>by kernel_rfl) rfl)
def ahi:An:=.z
def Ik:Ctr:=⟨⟨[],[(.mp (.sc pi) (.sc .fnc))],1,[],[⟨some 0,false,false⟩]⟩,λ_=>nE⟩
def Wa:Cx:=aA VA 261 Ik
theorem MN:Qq0 Wa:=ao NK (Qq2 NK Tryz.func261 (by kernel_rfl) ahi (λx=>by kernel_rfl) rfl)
def ai2:An:=.z
def Jp:Ctr:=⟨⟨[.d (.sc pi)],[(.sc .bool)],1,[],[]⟩,λx=>pT x⟩
def T1:Cx:=aA Wa 256 Jp
theorem Nj:Qq0 T1:=ao MN (Qq2 MN Tryz.func256 (by kernel_rfl) ai2 (λx=>by kernel_rfl) rfl)
def ahU:An:=.z
def JK:Ctr:=⟨⟨[.d (.sc pi)],[(.sc .bool)],1,[],[]⟩,λx=>oO x⟩
def Ve:Cx:=aA T1 360 JK
theorem NX:Qq0 Ve:=ao Nj (Qq2 Nj Tryz.func360 (by kernel_rfl) ahU (λx=>by kernel_rfl) rfl)
def aih:An:=.z
def H1:Ctr:=⟨⟨[.d (.sc pi),.d (.sc pi)],[(.sc .bool)],1,[],[]⟩,λx=>qc x.1 x.2⟩
def Tt:Cx:=aA Ve 338 H1
theorem N1:Qq0 Tt:=ao NX (Qq2 NX Tryz.func338 (by kernel_rfl) aih (λx=>by kernel_rfl) rfl)
def af0:An:=.z
def Jy:Ctr:=⟨⟨[.d (.sc pi)],[(.sc .bool)],1,[],[]⟩,λx=>mi x⟩
def Uu:Cx:=aA Tt 339 Jy
theorem LH:Qq0 Uu:=ao N1 (Qq2 N1 Tryz.func339 (by kernel_rfl) af0 (λx=>by kernel_rfl) rfl)
def aii:An:=Qq1 3 (.j ⟨[0,1,6],[(7,.lf (.sc pi))],[],[8]⟩ true (.u (.l ⟨[0,1,6],[(7,.lf (.sc pi)),(8,.lf (.sc pi))],[],[]⟩ .z)) .z)
def H4:Ctr:=⟨⟨[.d (.slice (.sc pi)),.d (.sc pi)],[(.sc pi),(.sc .bool)],2,[],[]⟩,λx=>fN x.1 x.2⟩
def R4:Cx:=aA Uu 313 H4
theorem OJ:Qq0 R4:=ao LH (Qq2 LH Tryz.func313 (by kernel_rfl) aii (λx=>by kernel_rfl) rfl)
def aiN:An:=.s .z (.s .z (.j ⟨[6],[(5,.lf (.sc pi))],[],[]⟩ true .z .z))
def Ji:Ctr:=⟨⟨[.d co,.d (.sc pi)],[(.sc pi)],1,[],[]⟩,λx=>dE x.1 x.2⟩
def VV:Cx:=aA R4 257 Ji
theorem Ly:Qq0 VV:=ao OJ (Qq2 OJ Tryz.func257 (by kernel_rfl) aiN (λx=>by kernel_rfl) rfl)
def afN:An:=.z
def Hj:Ctr:=⟨⟨[.d (.sc pi),.d (.sc pi)],[(.sc pi)],1,[],[]⟩,λx=>qe x.1 x.2⟩
theorem Nn:Hj.sound Tryz.prog 314:=Qq2 Ly Tryz.func314 (by kernel_rfl) afN (λx=>by kernel_rfl) rfl
def Ur:Cx:=aA VV 314 Hj
theorem J9:Qq0 Ur:=ao Ly Nn
def afi:An:=.z
def Ip:Ctr:=⟨⟨[.d (.sc pi),.d (.sc pi)],[(.sc pi)],1,[],[]⟩,λx=>qi x.1 x.2⟩
theorem J3:Ip.sound Tryz.prog 315:=Qq2 J9 Tryz.func315 (by kernel_rfl) afi (λx=>by kernel_rfl) rfl
def Sz:Cx:=aA Ur 315 Ip
theorem NV:Qq0 Sz:=ao J9 J3
def ahI:An:=.z
def Jw:Ctr:=⟨⟨[.d (.sc pi),.d (.sc pi)],[(.sc pi)],1,[],[]⟩,λx=>qg x.1 x.2⟩
theorem Ln:Jw.sound Tryz.prog 316:=Qq2 NV Tryz.func316 (by kernel_rfl) ahI (λx=>by kernel_rfl) rfl
def Vj:Cx:=aA Sz 316 Jw
theorem Mh:Qq0 Vj:=ao NV Ln
def aoZ:An:=.z
def R6:Ctr:=⟨⟨[.d (.sc .bool)],[(.sc pi)],1,[],[]⟩,λx=>eG x⟩
def ab4:Cx:=aA Vj 92 R6
theorem PD:Qq0 ab4:=ao Mh (Qq2 Mh Tryz.func92 (by kernel_rfl) aoZ (λx=>by kernel_rfl) rfl)
def aiB:An:=.z
def Iv:Ctr:=⟨⟨[.d (.sc pi),.d (.sc pi)],[(.sc pi)],1,[],[]⟩,λx=>i7 x.1 x.2⟩
theorem Lc:Iv.sound Tryz.prog 317:=Qq2 PD Tryz.func317 (by kernel_rfl) aiB (λx=>by kernel_rfl) rfl
def RH:Cx:=aA ab4 317 Iv
theorem Lp:Qq0 RH:=ao PD Lc
def ahZ:An:=.z
def Id:Ctr:=⟨⟨[.d (.sc pi),.d (.sc pi)],[(.sc pi)],1,[],[]⟩,λx=>jg x.1 x.2⟩
theorem Nr:Id.sound Tryz.prog 318:=Qq2 Lp Tryz.func318 (by kernel_rfl) ahZ (λx=>by kernel_rfl) rfl
def US:Cx:=aA RH 318 Id
theorem Kf:Qq0 US:=ao Lp Nr
def agE:An:=.z
def H8:Ctr:=⟨⟨[.d (.sc pi),.d (.sc pi)],[(.sc pi)],1,[],[]⟩,λx=>jd x.1 x.2⟩
theorem J2:H8.sound Tryz.prog 319:=Qq2 Kf Tryz.func319 (by kernel_rfl) agE (λx=>by kernel_rfl) rfl
def VC:Cx:=aA US 319 H8
theorem LJ:Qq0 VC:=ao Kf J2
def aee:DCtr:=⟨⟨[.d (.sc pi),.d (.sc pi)],[(.sc pi)],1,[],[]⟩,λf x=>UF f x.1 x.2⟩
theorem alz:DCtr.sound Tryz.prog aee:=by
 intro f x r h;simp only[aee,UF]at h;cases hb:Nat.beq f 314;rotate_left
 ·rw[hb]at h;rw[f9 hb];exact Nn x r h
 rw[hb]at h;simp only[Zr]at h;cases hb:Nat.beq f 315;rotate_left
 ·rw[hb]at h;rw[f9 hb];exact J3 x r h
 rw[hb]at h;simp only[Zr]at h;cases hb:Nat.beq f 316;rotate_left
 ·rw[hb]at h;rw[f9 hb];exact Ln x r h
 rw[hb]at h;simp only[Zr]at h;cases hb:Nat.beq f 317;rotate_left
 ·rw[hb]at h;rw[f9 hb];exact Lc x r h
 rw[hb]at h;simp only[Zr]at h;cases hb:Nat.beq f 318;rotate_left
 ·rw[hb]at h;rw[f9 hb];exact Nr x r h
 rw[hb]at h;simp only[Zr]at h;cases hb:Nat.beq f 319;rotate_left
 ·rw[hb]at h;rw[f9 hb];exact J2 x r h
 rw[hb]at h;cases h
def Lk:Cx:=ZJ VC aee false
theorem GZ:Qq0 Lk:=PT LJ alz
def oA:An:=.z
noncomputable def A5:Cx:=cK Lk 258 (lx Lk Tryz.f258 oA)
theorem A2:Qq0 A5:=bA GZ (fD GZ i4 Tryz.func258 (by kernel_rfl) (by kernel_rfl) _)
def sB:An:=.z
noncomputable def zE:Cx:=cK A5 178 (pZ A5 Tryz.f178 sB [aZ])
theorem Al:Qq0 zE:=bA A2 (jX A2 i4 Tryz.func178 (by kernel_rfl) (by kernel_rfl) _ _)
def W3:An:=.z
noncomputable def zm:Cx:=cK zE 175 (pZ zE Tryz.f175 W3 [(.sc .bool)])
theorem AP:Qq0 zm:=bA Al (jX Al i4 Tryz.func175 (by kernel_rfl) (by kernel_rfl) _ _)
def MX:An:=.z
noncomputable def Bb:Cx:=cK zm 176 (pp zm Tryz.f176 MX)
theorem zt:Qq0 Bb:=bA AP (iE AP i4 Tryz.func176 (by kernel_rfl) (by kernel_rfl) _)
def WY:An:=.z
noncomputable def AC:Cx:=cK Bb 259 (pp Bb Tryz.f259 WY)
theorem zP:Qq0 AC:=bA zt (iE zt i4 Tryz.func259 (by kernel_rfl) (by kernel_rfl) _)
def Ns:An:=.z
noncomputable def AE:Cx:=cK AC 260 (pp AC Tryz.f260 Ns)
theorem zJ:Qq0 AE:=bA zP (iE zP i4 Tryz.func260 (by kernel_rfl) (by kernel_rfl) _)
def M5:An:=.z
noncomputable def AL:Cx:=cK AE 104 (lx AE Tryz.f104 M5)
theorem zG:Qq0 AL:=bA zJ (fD zJ i4 Tryz.func104 (by kernel_rfl) (by kernel_rfl) _)
def an5:An:=.s .z (.s (.g [.up 1 [1547425049178947864405999764,3]]) (.s .z (.s .z (.s (.s .z (.u (Qq1 7 (.s (.s .z (.s .z (.s (.g [.up 7 [3]]) .z))) (.s .z (.s .z (.s .z (.s .z (.s .z (.s (.s (.s .z (.s (.s .z (.g [.pa,.pa])) .z)) (.s .z (.s .z (.s .z (.g [.pa,.pa]))))) (.s .z (.s (.s .z (.s .z (.g [.pa,.pa]))) (.s .z (.s (.s .z (.s .z (.s (.k [0] [] []) .z))) (.s .z (.s .z (.s .z (.s (.s .z (.s (.s .z (.g [.pa,.pa])) .z)) .z)))))))))))))))))) (.s .z (.s .z (.g [.pa,.pa])))))))
noncomputable def Bl:Cx:=cK AL 177 (pp AL Tryz.f177 an5)
theorem zu:Qq0 Bl:=bA zG (iE zG i4 Tryz.func177 (by kernel_rfl) (by kernel_rfl) _)
def zT:An:=.z
noncomputable def Gi:Cx:=cK Bl 179 (pp Bl Tryz.f179 zT)
theorem MV:Qq0 Gi:=bA zu (iE zu i4 Tryz.func179 (by kernel_rfl) (by kernel_rfl) _)
def aiq:An:=.u (Qq1 3 (.j ⟨[0,4],[],[(0,c16)],[5]⟩ false (.u (.l ⟨[0,4],[(5,.lf (.sc pi))],[(0,c16)],[]⟩ (.s .z (.u (.s (.u (.s .z (.s .z (.s .z (.s .z (.j ⟨[0,4,5],[(30,.lf (.sc .bool))],[(0,c14)],[]⟩ true .z .z)))))) .z))))) (.s .z (.s .z (.s .z (.u (.s .z (.s .z (.s .z (.s (.j ⟨[0,6],[],[(0,[.rep aZ true [1000000],.rep (.sc pi) true [1000000],.rep (.sc pi) true [1000000],.rep aw true [1000000],.rep aw true [1000000],.rep (.sc .str) true [1000000],.rep (.sc .str) true [1000000],.rep (.sc .str) true [1000000],.sc pi,.sc pi,.sc pi,.own aR 1870727804774333205280220053793449448177874923159704 false [],.own (.sc pi) 3 false [],.rep (.slice (.sc pi)) true [1000000],.own (.sc pi) 3 false [],.own (.sc pi) 3 false [],.sc pi,.sc pi,.sc pi,.sc pi,.sc pi,.sc pi,.sc pi,.sc pi,.sc .str,.mp af (.sc .bool)])],[]⟩ true .z .z) .z))))))))))
def IH:Ctr:=⟨⟨[.box true cH [none,none,none,none,none,none,none,none,some 1870727804774333205280220053793449448177874923159704,some 3,none,some 3,some 3,some 0],.d (.sc pi)],[cH],0,[0],[⟨none,true,true⟩,⟨none,true,true⟩,⟨none,true,true⟩,⟨none,true,true⟩,⟨none,true,true⟩,⟨none,true,true⟩,⟨none,true,true⟩,⟨none,true,true⟩,⟨some 1870727804774333205280220053793449448177874923159704,false,false⟩,⟨some 3,false,false⟩,⟨none,true,true⟩,⟨some 3,false,false⟩,⟨some 3,false,false⟩,⟨some 0,false,false⟩]⟩,λx=>gX x.1 x.2⟩
def HV:Cx:=aA VC 105 IH
theorem CU:Qq0 HV:=ao LJ (Qq2 MV Tryz.func105 (by kernel_rfl) aiq (λx=>by kernel_rfl) rfl)
noncomputable def Av:Cx:=cK HV 258 (lx HV Tryz.f258 oA)
theorem zx:Qq0 Av:=bA CU (fD CU i4 Tryz.func258 (by kernel_rfl) (by kernel_rfl) _)
noncomputable def GY:Cx:=cK Av 178 (pZ Av Tryz.f178 sB [aZ])
theorem K3:Qq0 GY:=bA zx (jX zx i4 Tryz.func178 (by kernel_rfl) (by kernel_rfl) _ _)
def aiM:An:=.s .z (.s .z (.j ⟨[0,1],[(5,.lf (.own (.sc pi) 3 false []))],[],[]⟩ true (.s .z (.u (.l ⟨[0,1,13],[(5,.lf (.own (.sc pi) 3 false [])),(14,.lf (.sc pi))],[],[]⟩ (.s .z (.s .z (.j ⟨[0,1,13,14],[(5,.lf (.own (.sc pi) 3 false []))],[],[]⟩ true .z .z)))))) .z))
def Hi:Ctr:=⟨⟨[.box false cH [],.d (.sc pi)],[(.slice (.sc pi))],1,[],[⟨some 3,false,false⟩]⟩,λx=>dv x.1 x.2⟩
def Ir:Cx:=aA HV 182 Hi
theorem Cu:Qq0 Ir:=ao CU (Qq2 K3 Tryz.func182 (by kernel_rfl) aiM (λx=>by kernel_rfl) rfl)
noncomputable def zk:Cx:=cK Ir 258 (lx Ir Tryz.f258 oA)
theorem zq:Qq0 zk:=bA Cu (fD Cu i4 Tryz.func258 (by kernel_rfl) (by kernel_rfl) _)
noncomputable def F9:Cx:=cK zk 178 (pZ zk Tryz.f178 sB [aZ])
theorem Mt:Qq0 F9:=bA zq (jX zq i4 Tryz.func178 (by kernel_rfl) (by kernel_rfl) _ _)
def ah4:An:=.s .z (.s .z (.j ⟨[0],[(3,.lf (.own (.sc pi) 3 false []))],[],[]⟩ true (.s .z (.u (.l ⟨[0,14],[(3,.lf (.own (.sc pi) 3 false [])),(15,.lf (.sc pi))],[],[]⟩ (.s .z (.s .z (.j ⟨[0,14,15],[(3,.lf (.own (.sc pi) 3 false []))],[],[]⟩ true (.u (Qq1 4 (.j ⟨[0,3,4,14,15,5,6],[(7,.lf (.sc .bool))],[],[]⟩ true .z .z))) .z)))))) .z))
def Jt:Ctr:=⟨⟨[.box false cH []],[(.slice (.sc pi))],1,[],[⟨some 3,false,false⟩]⟩,λx=>eO x⟩
def Ic:Cx:=aA Ir 109 Jt
theorem CZ:Qq0 Ic:=ao Cu (Qq2 Mt Tryz.func109 (by kernel_rfl) ah4 (λx=>by kernel_rfl) rfl)
noncomputable def Az:Cx:=cK Ic 258 (lx Ic Tryz.f258 oA)
theorem AY:Qq0 Az:=bA CZ (fD CZ i4 Tryz.func258 (by kernel_rfl) (by kernel_rfl) _)
noncomputable def Ac:Cx:=cK Az 176 (pp Az Tryz.f176 MX)
theorem Bc:Qq0 Ac:=bA AY (iE AY i4 Tryz.func176 (by kernel_rfl) (by kernel_rfl) _)
noncomputable def Gk:Cx:=cK Ac 178 (pZ Ac Tryz.f178 sB [aZ])
theorem Ox:Qq0 Gk:=bA Bc (jX Bc i4 Tryz.func178 (by kernel_rfl) (by kernel_rfl) _ _)
def ahq:An:=.s .z (.s .z (.j ⟨[0],[(2,.lf (.sc pi))],[],[]⟩ true (.s .z (.u (.l ⟨[0,37],[(2,.lf (.sc pi)),(38,.lf (.sc pi))],[],[]⟩ (.s .z (.s .z (.j ⟨[0,37,38],[(2,.lf (.sc pi))],[],[]⟩ true .z .z)))))) .z))
def JN:Ctr:=⟨⟨[.box true cH [none,none,none,none,none,none,none,none,some 1870727804774333205280220053793449448177874923159704,some 3,none,some 3,some 3,some 0]],[cH],0,[0],[⟨none,true,false⟩,⟨none,true,false⟩,⟨none,true,false⟩,⟨none,true,false⟩,⟨none,true,false⟩,⟨none,true,false⟩,⟨none,true,false⟩,⟨none,true,false⟩,⟨some 1870727804774333205280220053793449448177874923159704,false,false⟩,⟨some 3,false,false⟩,⟨none,true,false⟩,⟨some 3,false,false⟩,⟨some 3,false,false⟩,⟨some 0,false,false⟩]⟩,λx=>iy x⟩
def RU:Cx:=aA Ic 106 JN
theorem Nx:Qq0 RU:=ao CZ (Qq2 Ox Tryz.func106 (by kernel_rfl) ahq (λx=>by kernel_rfl) rfl)
def aiV:An:=.s .z (.s .z (.j ⟨[0],[(3,.lf (.sc pi))],[],[]⟩ true (.s .z (.u (.l ⟨[10,11],[(3,.lf (.sc pi)),(12,.lf (.sc pi))],[],[]⟩ .z))) .z))
def IK:Ctr:=⟨⟨[.box false cH []],[(.sc pi)],1,[],[]⟩,λx=>jy x⟩
def HD:Cx:=aA RU 181 IK
theorem C5:Qq0 HD:=ao Nx (Qq2 Nx Tryz.func181 (by kernel_rfl) aiV (λx=>by kernel_rfl) rfl)
noncomputable def Bj:Cx:=cK HD 179 (pp HD Tryz.f179 zT)
theorem zV:Qq0 Bj:=bA C5 (iE C5 i4 Tryz.func179 (by kernel_rfl) (by kernel_rfl) _)
noncomputable def Ag:Cx:=cK Bj 258 (lx Bj Tryz.f258 oA)
theorem Bf:Qq0 Ag:=bA zV (fD zV i4 Tryz.func258 (by kernel_rfl) (by kernel_rfl) _)
noncomputable def GM:Cx:=cK Ag 104 (lx Ag Tryz.f104 M5)
theorem MP:Qq0 GM:=bA Bf (fD Bf i4 Tryz.func104 (by kernel_rfl) (by kernel_rfl) _)
def aia:An:=Qq1 3 (.s (.gg [.ug 0 (some 11) (some 1) aR [1547425049178947864405999764,3]] [.pa]) .z)
def HM:Ctr:=⟨⟨c24,[(.slice (.sc pi)),(.sc .bool),cH],2,[0],[⟨some 3,false,false⟩,⟨none,true,false⟩,⟨none,true,false⟩,⟨none,true,false⟩,⟨none,true,false⟩,⟨none,true,false⟩,⟨none,true,false⟩,⟨none,true,false⟩,⟨none,true,false⟩,⟨some 1870727804774333205280220053793449448177874923159704,false,false⟩,⟨some 3,false,false⟩,⟨some 360315457980334103,false,false⟩,⟨some 3,false,false⟩,⟨some 3,false,false⟩,⟨some 0,false,false⟩]⟩,λx=>kv x.1 x.2.1 x.2.2⟩
def Jn:Cx:=aA HD 263 HM
theorem CV:Qq0 Jn:=ao C5 (Qq2 MP Tryz.func263 (by kernel_rfl) aia (λx=>by kernel_rfl) rfl)
noncomputable def AT:Cx:=cK Jn 179 (pp Jn Tryz.f179 zT)
theorem Ae:Qq0 AT:=bA CV (iE CV i4 Tryz.func179 (by kernel_rfl) (by kernel_rfl) _)
noncomputable def A8:Cx:=cK AT 260 (pp AT Tryz.f260 Ns)
theorem Ap:Qq0 A8:=bA Ae (iE Ae i4 Tryz.func260 (by kernel_rfl) (by kernel_rfl) _)
noncomputable def zz:Cx:=cK A8 258 (lx A8 Tryz.f258 oA)
theorem Bh:Qq0 zz:=bA Ap (fD Ap i4 Tryz.func258 (by kernel_rfl) (by kernel_rfl) _)
noncomputable def GR:Cx:=cK zz 178 (pZ zz Tryz.f178 sB [aZ])
theorem Oe:Qq0 GR:=bA Bh (jX Bh i4 Tryz.func178 (by kernel_rfl) (by kernel_rfl) _ _)
def aiW:An:=Qq1 3 (.s (.gg [.up 10 [1547425049178947864405999764,3]] [.pa]) (.s .z (.s (.s .z (.s (.s (.gg [.up 10 [1547425049178947864405999764,3]] [.pa]) (.s (.k [2000000] [.ug 0 (some 13) (some 3) (.slice (.sc pi)) [3]] [.pa]) .z)) .z)) (.s .z (.s (.gg [.up 10 [1547425049178947864405999764,3]] [.pa]) (.s .z (.s (.gg [.up 14 [1547425049178947864405999764,3],.ug 14 (some 0) none bV [3]] [.pa,.pa]) (.s (.gg [.up 14 [1547425049178947864405999764,3]] [.pa]) .z))))))))
def IG:Ctr:=⟨⟨[.box true cH [none,none,none,none,none,none,none,none,some 1870727804774333205280220053793449448177874923159704,some 3,some 360315457980334103,some 3,some 3,some 0],.d (.sc pi),.d (.sc pi),.d (.sc pi)],[(.slice (.sc pi)),(.sc .bool),cH],2,[0],[⟨some 3,false,false⟩,⟨none,true,false⟩,⟨none,true,false⟩,⟨none,true,false⟩,⟨none,true,false⟩,⟨none,true,false⟩,⟨none,true,false⟩,⟨none,true,false⟩,⟨none,true,false⟩,⟨some 1870727804774333205280220053793449448177874923159704,false,false⟩,⟨some 3,false,false⟩,⟨some 360315457980334103,false,false⟩,⟨some 3,false,false⟩,⟨some 3,false,false⟩,⟨some 0,false,false⟩]⟩,λx=>l7 x.1 x.2.1 x.2.2.1 x.2.2.2⟩
def Ho:Cx:=aA Jn 264 IG
theorem CH:Qq0 Ho:=ao CV (Qq2 Oe Tryz.func264 (by kernel_rfl) aiW (λx=>by kernel_rfl) rfl)
noncomputable def zO:Cx:=cK Ho 258 (lx Ho Tryz.f258 oA)
theorem zH:Qq0 zO:=bA CH (fD CH i4 Tryz.func258 (by kernel_rfl) (by kernel_rfl) _)
noncomputable def zX:Cx:=cK zO 178 (pZ zO Tryz.f178 sB [aZ])
theorem zN:Qq0 zX:=bA zH (jX zH i4 Tryz.func178 (by kernel_rfl) (by kernel_rfl) _ _)
noncomputable def A6:Cx:=cK zX 179 (pp zX Tryz.f179 zT)
theorem As:Qq0 A6:=bA zN (iE zN i4 Tryz.func179 (by kernel_rfl) (by kernel_rfl) _)
noncomputable def AS:Cx:=cK A6 259 (pp A6 Tryz.f259 WY)
theorem zK:Qq0 AS:=bA As (iE As i4 Tryz.func259 (by kernel_rfl) (by kernel_rfl) _)
noncomputable def GK:Cx:=cK AS 260 (pp AS Tryz.f260 Ns)
theorem M2:Qq0 GK:=bA zK (iE zK i4 Tryz.func260 (by kernel_rfl) (by kernel_rfl) _)
def agI:An:=Qq1 5 (.j ⟨[0,1,8,2,9],[(10,.lf (.sc .bool))],[(0,[.rep aZ true [],.rep (.sc pi) true [],.rep (.sc pi) true [],.rep aw true [],.rep aw true [],.rep (.sc .str) true [],.rep (.sc .str) true [],.rep (.sc .str) true [],.sc pi,.sc pi,.sc pi,.ownk aR 1870727804774333205280220053793449448177874923159704 9,.own (.sc pi) 3 false [],.rep (.slice (.sc pi)) true [1000000],.own (.sc pi) 3 false [],.own (.sc pi) 3 false [],.sc pi,.sc pi,.sc pi,.sc pi,.sc pi,.sc pi,.sc pi,.sc pi,.sc .str,.mp af (.sc .bool)])],[]⟩ false (.s .z (.u (.s .z (.s (.s .z (.gg [.up 8 [1547425049178947864405999764,3]] [.pa])) (.s .z (.s (.s .z (.s (.gg [.up 8 [1547425049178947864405999764,3]] [.pa]) .z)) (.s .z (.s .z (.s .z (.s .z (.s .z (.s (.s .z (.s (.gg [.up 8 [1547425049178947864405999764,3],.ug 8 (some 0) none bV [3]] [.pa,.pa]) (.gg [.ug 0 (some 13) (some 96) (.slice (.sc pi)) [3]] [.pr 0 (some 13)]))) (.s .z (.s .z (.s .z (.s .z (.s .z (.s (.gg [.up 8 [1547425049178947864405999764,3],.ug 8 (some 0) none bV [3]] [.pa,.pa]) (.s .z (.s (.s .z (.s .z (.gg [.up 8 [1547425049178947864405999764,3],.ug 8 (some 0) none bV [3]] [.pa,.pa]))) (.s .z (.s .z (.s .z (.s (.s .z (.s (.gg [.up 8 [1547425049178947864405999764,3]] [.pa]) .z)) (.s .z (.s (.s .z (.gg [.up 8 [1547425049178947864405999764,3],.ug 8 (some 0) none bV [3]] [.pa,.pa])) (.s .z (.s (.gg [.up 8 [1547425049178947864405999764,3]] [.pa]) (.j ⟨[0,1],[],[(0,c15)],[]⟩ true .z .z))))))))))))))))))))))))))))) (.j ⟨[0,1,10,8],[],[(0,c14)],[]⟩ true (.s .z (.s (.gg [.up 8 [1547425049178947864405999764,3]] [.pa]) .z)) .z))
def IN:Ctr:=⟨⟨c24,[(.slice (.sc pi)),(.sc .bool),cH],2,[0],[⟨some 3,false,false⟩,⟨none,true,true⟩,⟨none,true,true⟩,⟨none,true,true⟩,⟨none,true,true⟩,⟨none,true,true⟩,⟨none,true,true⟩,⟨none,true,true⟩,⟨none,true,true⟩,⟨some 1870727804774333205280220053793449448177874923159704,false,false⟩,⟨some 3,false,false⟩,⟨none,true,true⟩,⟨some 3,false,false⟩,⟨some 3,false,false⟩,⟨some 0,false,false⟩]⟩,λx=>kb x.1 x.2.1 x.2.2⟩
def Vg:Cx:=aA Ho 186 IN
theorem Ma:Qq0 Vg:=ao CH (Qq2 M2 Tryz.func186 (by kernel_rfl) agI (λx=>by kernel_rfl) rfl)
def agu:An:=.s .z (.s .z (.j ⟨[0],[(3,.lf (.own (.sc .str) 9 false []))],[],[]⟩ true (.s .z (.u (.l ⟨[6,7],[(3,.lf (.own (.sc .str) 9 false [])),(8,.lf (.sc pi))],[],[]⟩ .z))) .z))
def HH:Ctr:=⟨⟨[.d (.slice aw)],[(.slice (.sc .str))],1,[],[⟨some 9,false,false⟩]⟩,λx=>uc x⟩
def Ub:Cx:=aA Vg 250 HH
theorem N5:Qq0 Ub:=ao Ma (Qq2 Ma Tryz.func250 (by kernel_rfl) agu (λx=>by kernel_rfl) rfl)
def aho:An:=.z
def HL:Ctr:=⟨⟨[.d aw],[(.sc .bool)],1,[],[]⟩,λx=>tp x⟩
def U0:Cx:=aA Ub 252 HL
theorem Lb:Qq0 U0:=ao N5 (Qq2 N5 Tryz.func252 (by kernel_rfl) aho (λx=>by kernel_rfl) rfl)
def af9:An:=.s .z (.j ⟨[0,1],[],[],[]⟩ false (.s .z (.u (.l ⟨[0,1,7],[(8,.lf (.sc pi))],[],[]⟩ .z))) .z)
def Jz:Ctr:=⟨⟨[.d (.slice aw),.fn 252],[(.sc pi)],1,[],[]⟩,λx=>fM x.1⟩
def Ta:Cx:=aA U0 101 Jz
theorem Mf:Qq0 Ta:=ao Lb (Qq2 Lb Tryz.func101 (by kernel_rfl) af9 (λx=>by kernel_rfl) rfl)
def agB:An:=.z
def Ix:Ctr:=⟨⟨[.d (.slice aw),.fn 252],[(.sc .bool)],1,[],[]⟩,λx=>dy x.1⟩
def VF:Cx:=aA Ta 251 Ix
theorem Nv:Qq0 VF:=ao Mf (Qq2 Mf Tryz.func251 (by kernel_rfl) agB (λx=>by kernel_rfl) rfl)
def afy:An:=Qq1 3 (.j ⟨[1,3],[],[],[]⟩ false (.s .z (.u (.l ⟨[1,3,56,57],[(58,.lf (.sc pi))],[],[]⟩ (.s .z (.s .z (.j ⟨[1,3,56,57,58],[],[],[]⟩ false (.u (.s .z (.s .z (.u (.l ⟨[1,3,5,56,57,58,63],[(64,.lf (.sc pi))],[],[]⟩ .z))))) .z)))))) (.j ⟨[1,3],[],[],[]⟩ false (.s .z (.u (.l ⟨[1,83],[(84,.lf (.sc pi))],[],[]⟩ .z))) .z))
def H6:Ctr:=⟨⟨[.d co],[(.sc .bool)],1,[],[]⟩,λx=>rU x⟩
def Sc:Cx:=aA VF 171 H6
theorem Mx:Qq0 Sc:=ao Nv (Qq2 Nv Tryz.func171 (by kernel_rfl) afy (λx=>by kernel_rfl) rfl)
def agW:An:=.s .z (.s .z (.j ⟨[1],[(3,.lf (.own kI 320 false []))],[],[]⟩ true (.s .z (.u (.l ⟨[1,8,9],[(3,.lf (.own kI 320 false [])),(10,.lf (.sc pi))],[],[]⟩ (.s .z (.s .z (.j ⟨[1,8,9,10],[(3,.lf (.own kI 320 false []))],[],[]⟩ true (.u (.s .z (.s .z (.j ⟨[1,3,4,5,8,9,10],[(6,.lf (.sc pi))],[],[]⟩ true .z .z)))) .z)))))) .z))
def Is:Ctr:=⟨⟨[.d co],[(.slice kI)],1,[],[⟨some 320,false,false⟩]⟩,λx=>tP x⟩
def U9:Cx:=aA Sc 172 Is
theorem NL:Qq0 U9:=ao Mx (Qq2 Mx Tryz.func172 (by kernel_rfl) agW (λx=>by kernel_rfl) rfl)
def ahF:An:=Qq1 7 (.j ⟨[7,8,12,3,4],[(10,.lf (.sc pi)),(11,.lf (.sc pi))],[],[]⟩ false (.s .z (.u (.j ⟨[3,4,7,8,10,12,94],[(95,.lf (.sc .bool))],[],[]⟩ true .z (.s .z (.j ⟨[3,4,7,8,10,12,94],[(100,.lf (.sc .bool))],[],[]⟩ true .z (.s .z (.j ⟨[3,4,7,8,10,12,94],[(107,.lf (.sc .bool))],[],[]⟩ true .z (.s .z (.s .z (.s .z (.s .z (.s .z (.j ⟨[3,7,8,10,12,94],[(127,.lf (.sc .bool))],[],[]⟩ true .z (.s .z (.j ⟨[3,7,8,10,12,94],[(133,.lf (.sc .bool))],[],[]⟩ true .z (.s .z (.j ⟨[3,7,8,10,12,94],[(139,.lf (.sc .bool))],[],[]⟩ true .z (.s .z (.s .z (.s .z (.s .z (.s .z (.j ⟨[3,7,8,10,12,94],[(149,.lf (.sc .bool))],[],[]⟩ true .z .z))))))))))))))))))))))) .z)
def IQ:Ctr:=⟨⟨[.d co,.d kI,.d (.sc pi)],[(.sc .bool)],1,[],[]⟩,λx=>wm x.1 x.2.1 x.2.2⟩
def Vb:Cx:=aA U9 173 IQ
theorem N3:Qq0 Vb:=ao NL (Qq2 NL Tryz.func173 (by kernel_rfl) ahF (λx=>by kernel_rfl) rfl)
def amL:An:=Qq1 3 (.j ⟨[1],[],[],[]⟩ false (.s .z (.u (.l ⟨[1,15,16],[(17,.lf (.sc pi))],[],[]⟩ (.s .z (.s .z (.j ⟨[1,15,16,17],[],[],[]⟩ false (.u (.s .z (.s .z (.u (.l ⟨[1,5,15,16,17],[(6,.lf (.sc pi))],[],[]⟩ .z))))) .z)))))) .z)
def So:Ctr:=⟨⟨[.d co],[(.sc pi),(.sc pi)],2,[],[]⟩,λx=>lX x⟩
def RX:Cx:=aA Vb 98 So
theorem EC:Qq0 RX:=ao N3 (Qq2 N3 Tryz.func98 (by kernel_rfl) amL (λx=>by kernel_rfl) rfl)
noncomputable def zj:Cx:=cK RX 258 (lx RX Tryz.f258 oA)
theorem zS:Qq0 zj:=bA EC (fD EC i4 Tryz.func258 (by kernel_rfl) (by kernel_rfl) _)
noncomputable def Bi:Cx:=cK zj 178 (pZ zj Tryz.f178 sB [aZ])
theorem Am:Qq0 Bi:=bA zS (jX zS i4 Tryz.func178 (by kernel_rfl) (by kernel_rfl) _ _)
noncomputable def Af:Cx:=cK Bi 175 (pZ Bi Tryz.f175 W3 [(.sc .bool)])
theorem AB:Qq0 Af:=bA Am (jX Am i4 Tryz.func175 (by kernel_rfl) (by kernel_rfl) _ _)
def anJ:An:=Qq1 3 (.j ⟨[0,1],[],[],[]⟩ false (.s .z (.u (.l ⟨[0,1,71,72],[(73,.lf (.sc pi))],[],[]⟩ .z))) .z)
noncomputable def G6:Cx:=cK Af 180 (pZ Af Tryz.f180 anJ [(.sc .bool)])
theorem Oj:Qq0 G6:=bA AB (jX AB i4 Tryz.func180 (by kernel_rfl) (by kernel_rfl) _ _)
def agl:An:=Qq1 3 (.j ⟨[0,3],[],[],[]⟩ false (.s .z (.u (.l ⟨[0,3,85,86],[(87,.lf (.sc pi))],[],[]⟩ .z))) (.j ⟨[0,3],[],[],[]⟩ false (.s .z (.u (.l ⟨[0,3,108,109],[(110,.lf (.sc pi))],[],[]⟩ .z))) (.j ⟨[0,3],[],[],[]⟩ false (.s .z (.u (.l ⟨[0,3,130],[(131,.lf (.sc pi))],[],[]⟩ .z))) .z)))
def Jj:Ctr:=⟨⟨[.box false cH []],[(.sc .bool)],1,[],[]⟩,λx=>kr x⟩
def Uv:Cx:=aA RX 108 Jj
theorem Oi:Qq0 Uv:=ao EC (Qq2 Oj Tryz.func108 (by kernel_rfl) agl (λx=>by kernel_rfl) rfl)
def ag2:An:=.z
def JH:Ctr:=⟨⟨[.d (.sc pi),.d (.sc pi)],[(.sc .bool)],1,[],[]⟩,λx=>iC x.1 x.2⟩
def TR:Cx:=aA Uv 107 JH
theorem Ol:Qq0 TR:=ao Oi (Qq2 Oi Tryz.func107 (by kernel_rfl) ag2 (λx=>by kernel_rfl) rfl)
def aha:An:=.s .z (.j ⟨[0,1],[],[],[]⟩ false (.s .z (.u (.l ⟨[0,1,7],[(8,.lf (.sc pi))],[],[]⟩ .z))) .z)
def JA:Ctr:=⟨⟨[.d (.slice (.sc pi)),.d (.sc pi)],[(.sc pi)],1,[],[]⟩,λx=>lY x.1 x.2⟩
def U3:Cx:=aA TR 183 JA
theorem Ko:Qq0 U3:=ao Ol (Qq2 Ol Tryz.func183 (by kernel_rfl) aha (λx=>by kernel_rfl) rfl)
def aiY:An:=.z
def HW:Ctr:=⟨⟨[.d (.slice (.sc pi)),.d (.sc pi)],[(.sc .bool)],1,[],[]⟩,λx=>gR x.1 x.2⟩
def IB:Cx:=aA U3 110 HW
theorem CF:Qq0 IB:=ao Ko (Qq2 Ko Tryz.func110 (by kernel_rfl) aiY (λx=>by kernel_rfl) rfl)
def Eh:An:=.z
noncomputable def J0:Cx:=cK IB 103 (lx IB Tryz.f103 Eh)
theorem O3:Qq0 J0:=bA CF (fD CF i4 Tryz.func103 (by kernel_rfl) (by kernel_rfl) _)
def apo:An:=.z
def Wd:Ctr:=⟨⟨[.d co,.d bj],[(.sc pi)],1,[],[]⟩,λx=>fw x.1 x.2⟩
def YQ:Cx:=aA IB 46 Wd
theorem Rg:Qq0 YQ:=ao CF (Qq2 O3 Tryz.func46 (by kernel_rfl) apo (λx=>by kernel_rfl) rfl)
def anf:An:=.z
def Sd:Ctr:=⟨⟨[.d ga],[(.sc .bool)],1,[],[]⟩,λx=>lm x⟩
def acT:Cx:=aA YQ 99 Sd
theorem PA:Qq0 acT:=ao Rg (Qq2 Rg Tryz.func99 (by kernel_rfl) anf (λx=>by kernel_rfl) rfl)
def ahw:An:=.z
def ID:Ctr:=⟨⟨[.d co,.d ga,.d bj],[(.sc pi)],1,[],[]⟩,λx=>fT x.1 x.2.1 x.2.2⟩
def HB:Cx:=aA acT 184 ID
theorem Dd:Qq0 HB:=ao PA (Qq2 PA Tryz.func184 (by kernel_rfl) ahw (λx=>by kernel_rfl) rfl)
noncomputable def A1:Cx:=cK HB 258 (lx HB Tryz.f258 oA)
theorem AH:Qq0 A1:=bA Dd (fD Dd i4 Tryz.func258 (by kernel_rfl) (by kernel_rfl) _)
noncomputable def Hc:Cx:=cK A1 178 (pZ A1 Tryz.f178 sB [aZ])
theorem Mv:Qq0 Hc:=bA AH (jX AH i4 Tryz.func178 (by kernel_rfl) (by kernel_rfl) _ _)
def af8:An:=Qq1 3 (.j ⟨[0,2],[(4,.lf (.sc pi))],[],[3]⟩ false .z (.s .z (.s .z (.j ⟨[2,6,0,5],[],[(6,[.sc pi,.sc pi,.sc pi,.own (.sc pi) 3 false []])],[]⟩ true .z .z))))
def H5:Ctr:=⟨⟨[.box false cH []],[kn],1,[],[⟨some 3,false,false⟩]⟩,λx=>gG x⟩
def JR:Cx:=aA HB 185 H5
theorem C8:Qq0 JR:=ao Dd (Qq2 Mv Tryz.func185 (by kernel_rfl) af8 (λx=>by kernel_rfl) rfl)
noncomputable def Gs:Cx:=cK JR 103 (lx JR Tryz.f103 Eh)
theorem M4:Qq0 Gs:=bA C8 (fD C8 i4 Tryz.func103 (by kernel_rfl) (by kernel_rfl) _)
def aiG:An:=.z
def I5:Ctr:=⟨⟨[.d co,.d ga,.d bj],[kn,(.sc pi)],2,[],[⟨some 3,false,false⟩]⟩,λx=>fh x.1 x.2.1 x.2.2⟩
def Jf:Cx:=aA JR 111 I5
theorem Cp:Qq0 Jf:=ao C8 (Qq2 M4 Tryz.func111 (by kernel_rfl) aiG (λx=>by kernel_rfl) rfl)
noncomputable def zD:Cx:=cK Jf 103 (lx Jf Tryz.f103 Eh)
theorem zL:Qq0 zD:=bA Cp (fD Cp i4 Tryz.func103 (by kernel_rfl) (by kernel_rfl) _)
noncomputable def Ax:Cx:=cK zD 179 (pp zD Tryz.f179 zT)
theorem AJ:Qq0 Ax:=bA zL (iE zL i4 Tryz.func179 (by kernel_rfl) (by kernel_rfl) _)
noncomputable def zW:Cx:=cK Ax 258 (lx Ax Tryz.f258 oA)
theorem A9:Qq0 zW:=bA AJ (fD AJ i4 Tryz.func258 (by kernel_rfl) (by kernel_rfl) _)
noncomputable def Ha:Cx:=cK zW 176 (pp zW Tryz.f176 MX)
theorem Ow:Qq0 Ha:=bA A9 (iE A9 i4 Tryz.func176 (by kernel_rfl) (by kernel_rfl) _)
noncomputable def Gp:Cx:=cK Ha 187 acn
theorem LE:Qq0 Gp:=bA Ow akW
def af3:An:=Qq1 13 (.j ⟨[8,12],[],[(12,c13)],[14]⟩ true (.s .z (.u (.l ⟨[8,12,131,132],[(133,.lf (.sc pi))],[(12,c13)],[]⟩ .z))) .z)
def Hr:Ctr:=⟨⟨[.d co,.d ga,.d bj,.d (.sc pi)],[bj,(.slice af),(.sc pi)],3,[],[⟨some 1870727804774333205280220053793449448177874923159704,false,false⟩,⟨some 3,false,false⟩,⟨none,true,true⟩,⟨some 3,false,false⟩,⟨some 3,false,false⟩,⟨some 422,false,false⟩]⟩,λx=>fE x.1 x.2.1 x.2.2.1 x.2.2.2⟩
def Vs:Cx:=aA Jf 112 Hr
theorem OG:Qq0 Vs:=ao Cp (Qq2 LE Tryz.func112 (by kernel_rfl) af3 (λx=>by kernel_rfl) rfl)
def agU:An:=.z
def IU:Ctr:=⟨⟨[.d aw,.box false (.sc .str) []],[(.sc .bool)],1,[],[]⟩,λx=>ov x.1 x.2⟩
def ST:Cx:=aA Vs 102 IU
theorem J5:Qq0 ST:=ao OG (Qq2 OG Tryz.func102 (by kernel_rfl) agU (λx=>by kernel_rfl) rfl)
end
end Go.Proofs.YtgghcmbaidihjaaGreatDoor
