/- Laws for the row. No condition. -/
import Derived.Test.YtfhhiajfciblbaaGreatDoorCtB
namespace Go.Proofs.YtfhhiajfciblbaaGreatDoor
open Go.Sm
set_option maxRecDepth 100000
set_option linter.unusedSectionVars false
section
variable [Itr] [SortLaw]
def ahn:An:=Qq1 6 (.j ⟨[3,6,10,11],[],[(11,c16)],[]⟩ true (.s .z (.u (.l ⟨[3,6,10,11,43,44],[(45,.lf (.sc pi))],[(11,c16)],[]⟩ .z))) (.j ⟨[3,6,11,10],[],[(11,c12)],[]⟩ true (.s .z (.u (.l ⟨[3,6,10,11,68,69],[(70,.lf (.sc pi))],[(11,c12)],[]⟩ .z))) (.j ⟨[3,6,11],[],[(11,c12)],[]⟩ true (.s .z (.u (.l ⟨[3,6,11,91],[(92,.lf (.sc pi))],[(11,c12)],[]⟩ .z))) .z)))
def Qq:Ctr:=⟨⟨[.d eH,.d fW,.d (.slice aA)],[dp,(.sc pi)],2,[],[⟨some 1870727804774333205280220053632888987722923590549622,false,false⟩,⟨some 3,false,false⟩,⟨none,true,true⟩,⟨some 3,false,false⟩,⟨some 3,false,false⟩]⟩,fun x=>pA x.1 x.2.1 x.2.2⟩
def Wr:Cx:=aI R1 12 Qq
theorem Nl:Qq0 Wr:=ai Cw (Qq2 Pq Tryz.func12 (by kernel_rfl) ahn (fun x=>by kernel_rfl) rfl)
def aix:An:=Qq1 3 (.j ⟨[1,2,3],[],[(3,c22)],[]⟩ true (.s .z (.u (.l ⟨[1,2,3],[(4,.lf (.sc pi))],[(3,c22)],[]⟩ (.s .z (.j ⟨[1,2,3,4],[],[(3,[.own aE 1870727804774333205280220053689557385530553472647298 false [],.rep (.sc pi) true [1000003],.rep (.slice (.sc pi)) true [1000003],.rep (.sc pi) true [1000003],.rep (.sc pi) true [1000003],.sc pi,.sc pi,.sc pi,.sc pi,.sc pi,.sc pi,.sc pi,.sc pi,.sc .str])],[]⟩ true (.u (.s .z (.s .z (.j ⟨[1,2,3,4,6,5],[],[(6,c36)],[]⟩ true (.s .z (.u (.l ⟨[1,2,3,4,5,6],[(7,.lf (.sc pi))],[(6,c36)],[]⟩ .z))) .z)))) .z))))) (.s .z (.s .z (.j ⟨[1,2,3],[],[(3,c18)],[]⟩ true (.s .z (.u (.l ⟨[1,2,3],[(8,.lf (.sc pi))],[(3,c18)],[]⟩ .z))) .z))))
def Sy:Ctr:=⟨⟨[.d bQ],[bQ],1,[],[⟨some 1870727804774333205280220053689557385530553472647298,false,false⟩,⟨some 3,false,false⟩,⟨some 360314358468706326,false,false⟩,⟨some 3,false,false⟩,⟨some 3,false,false⟩]⟩,fun x=>eM x⟩
def X3:Cx:=aI Wr 58 Sy
theorem Mh:Qq0 X3:=ai Nl (Qq2 Nl Tryz.func58 (by kernel_rfl) aix (fun x=>by kernel_rfl) rfl)
def abQ:An:=.z
def Gl:Ctr:=⟨⟨c45,[aP],1,[],[]⟩,fun x=>bU x.1 x.2⟩
def O8:Cx:=aI X3 104 Gl
theorem Jz:Qq0 O8:=ai Mh (Qq2 Mh Tryz.func104 (by kernel_rfl) abQ (fun x=>by kernel_rfl) rfl)
def acO:An:=.z
def GQ:Ctr:=⟨⟨[.d (.sc pi)],[(.sc .bool)],1,[],[]⟩,fun x=>mD x⟩
def PT:Cx:=aI O8 166 GQ
theorem J4:Qq0 PT:=ai Jz (Qq2 Jz Tryz.func166 (by kernel_rfl) acO (fun x=>by kernel_rfl) rfl)
def acm:An:=.z
def GP:Ctr:=⟨⟨[.d aP,.d (.sc pi)],[(.sc .bool)],1,[],[]⟩,fun x=>f0 x.1 x.2⟩
def Ro:Cx:=aI PT 105 GP
theorem Ib:Qq0 Ro:=ai J4 (Qq2 J4 Tryz.func105 (by kernel_rfl) acm (fun x=>by kernel_rfl) rfl)
def acJ:An:=.s .z (.s .z (.u (Qq1 3 (.s (.j ⟨[0,4],[],[(0,c15)],[]⟩ true .z .z) .z))))
def FT:Ctr:=⟨⟨c33,[aV],0,[0],[⟨none,true,true⟩,⟨none,true,true⟩,⟨none,true,true⟩,⟨none,true,true⟩,⟨none,true,true⟩,⟨none,true,true⟩,⟨none,true,true⟩,⟨none,true,true⟩,⟨some 1870727804774333205280220053689557385530553472647298,false,false⟩,⟨some 3,false,false⟩,⟨some 360314358468706326,false,false⟩,⟨some 3,false,false⟩,⟨some 3,false,false⟩,⟨some 149,false,false⟩]⟩,fun x=>gb x.1 x.2.1 x.2.2⟩
def OW:Cx:=aI Ro 106 FT
theorem IG:Qq0 OW:=ai Ib (Qq2 Ib Tryz.func106 (by kernel_rfl) acJ (fun x=>by kernel_rfl) rfl)
def aa4:An:=.s .z (.s .z (.j ⟨[1,2],[(5,.lf (.sc pi))],[],[]⟩ true (.u (.l ⟨[1,2],[(5,.lf (.sc pi))],[],[]⟩ .z)) .z))
def FW:Ctr:=⟨⟨[.d bw,.d (.sc pi)],[(.sc pi)],1,[],[]⟩,fun x=>fT x.1 x.2⟩
def SL:Cx:=aI OW 132 FW
theorem KI:Qq0 SL:=ai IG (Qq2 IG Tryz.func132 (by kernel_rfl) aa4 (fun x=>by kernel_rfl) rfl)
def aiz:An:=.z
def Q0:Ctr:=⟨⟨c31,[aV],0,[0],[⟨none,true,false⟩,⟨none,true,false⟩,⟨none,true,false⟩,⟨none,true,false⟩,⟨none,true,false⟩,⟨none,true,false⟩,⟨none,true,false⟩,⟨none,true,false⟩,⟨some 1870727804774333205280220053689557385530553472647298,false,false⟩,⟨some 3,false,false⟩,⟨some 360314358468706326,false,false⟩,⟨some 3,false,false⟩,⟨some 3,false,false⟩,⟨some 149,false,false⟩]⟩,fun x=>bS x.1 x.2.1 x.2.2⟩
def Xk:Cx:=aI SL 70 Q0
theorem MN:Qq0 Xk:=ai KI (Qq2 KI Tryz.func70 (by kernel_rfl) aiz (fun x=>by kernel_rfl) rfl)
def ab8:An:=.s .z (.s .z (.s (.k [2000000] [.ug 0 (some 11) (some 1) aE [1547425049178923675150188670,3]] [.pa]) .z))
def E9:Ctr:=⟨⟨c31,[(.sc .bool),aV],1,[0],[⟨none,true,false⟩,⟨none,true,false⟩,⟨none,true,false⟩,⟨none,true,false⟩,⟨none,true,false⟩,⟨none,true,false⟩,⟨none,true,false⟩,⟨none,true,false⟩,⟨some 1870727804774333205280220053689557385530553472647298,false,false⟩,⟨some 3,false,false⟩,⟨some 360314358468706326,false,false⟩,⟨some 3,false,false⟩,⟨some 3,false,false⟩,⟨some 149,false,false⟩]⟩,fun x=>eX x.1 x.2.1 x.2.2⟩
def Sg:Cx:=aI Xk 126 E9
theorem Ll:Qq0 Sg:=ai MN (Qq2 MN Tryz.func126 (by kernel_rfl) ab8 (fun x=>by kernel_rfl) rfl)
def ac3:An:=.s .z (.s (.g [.ug 0 (some 11) (some 1) aE [1547425049178923675150188670,3]]) (.s (.s .z (.s (.s .z (.g [.pa])) .z)) (Qq1 3 (.g [.pa]))))
def EW:Ctr:=⟨⟨c34,[(.sc pi),(.sc .bool),aV],2,[0],[⟨none,true,false⟩,⟨none,true,false⟩,⟨none,true,false⟩,⟨none,true,false⟩,⟨none,true,false⟩,⟨none,true,false⟩,⟨none,true,false⟩,⟨none,true,false⟩,⟨some 1870727804774333205280220053689557385530553472647298,false,false⟩,⟨some 3,false,false⟩,⟨some 360314358468706326,false,false⟩,⟨some 3,false,false⟩,⟨some 3,false,false⟩,⟨some 149,false,false⟩]⟩,fun x=>cC x.1 x.2⟩
def Pj:Cx:=aI Sg 127 EW
theorem HB:Qq0 Pj:=ai Ll (Qq2 Ll Tryz.func127 (by kernel_rfl) ac3 (fun x=>by kernel_rfl) rfl)
def aaK:An:=.s (.g [.ug 0 (some 11) (some 1) aE [1547425049178923675150188670,3]]) (.gg [] [.pa])
def E4:Ctr:=⟨⟨c31,[aV],0,[0],[⟨none,true,false⟩,⟨none,true,false⟩,⟨none,true,false⟩,⟨none,true,false⟩,⟨none,true,false⟩,⟨none,true,false⟩,⟨none,true,false⟩,⟨none,true,false⟩,⟨some 1870727804774333205280220053689557385530553472647298,false,false⟩,⟨some 3,false,false⟩,⟨some 360314358468706326,false,false⟩,⟨some 3,false,false⟩,⟨some 3,false,false⟩,⟨some 149,false,false⟩]⟩,fun x=>gu x.1 x.2.1 x.2.2⟩
def Si:Cx:=aI Pj 167 E4
theorem KG:Qq0 Si:=ai HB (Qq2 HB Tryz.func167 (by kernel_rfl) aaK (fun x=>by kernel_rfl) rfl)
def aa0:An:=.s (.g [.ug 0 (some 11) (some 1) aE [1547425049178923675150188670,3]]) (.gg [] [.pa])
def GN:Ctr:=⟨⟨c34,[aV],0,[0],[⟨none,true,false⟩,⟨none,true,false⟩,⟨none,true,false⟩,⟨none,true,false⟩,⟨none,true,false⟩,⟨none,true,false⟩,⟨none,true,false⟩,⟨none,true,false⟩,⟨some 1870727804774333205280220053689557385530553472647298,false,false⟩,⟨some 3,false,false⟩,⟨some 360314358468706326,false,false⟩,⟨some 3,false,false⟩,⟨some 3,false,false⟩,⟨some 149,false,false⟩]⟩,fun x=>bB x.1 x.2⟩
def SA:Cx:=aI Si 131 GN
theorem I3:Qq0 SA:=ai KG (Qq2 KG Tryz.func131 (by kernel_rfl) aa0 (fun x=>by kernel_rfl) rfl)
def ahj:An:=.z
def Sx:Ctr:=⟨⟨[.d (.sc .bool)],[(.sc pi)],1,[],[]⟩,fun x=>d8 x⟩
def ZA:Cx:=aI SA 78 Sx
theorem MG:Qq0 ZA:=ai I3 (Qq2 I3 Tryz.func78 (by kernel_rfl) ahj (fun x=>by kernel_rfl) rfl)
def aaw:An:=Qq1 5 (.j ⟨[0,2,1,7,9],[(11,.lf (.sc pi))],[],[]⟩ true .z .z)
def FG:Ctr:=⟨⟨c31,[(.sc .bool),aV],1,[0],[⟨none,true,false⟩,⟨none,true,false⟩,⟨none,true,false⟩,⟨none,true,false⟩,⟨none,true,false⟩,⟨none,true,false⟩,⟨none,true,false⟩,⟨none,true,false⟩,⟨some 1870727804774333205280220053689557385530553472647298,false,false⟩,⟨some 3,false,false⟩,⟨some 360314358468706326,false,false⟩,⟨some 3,false,false⟩,⟨some 3,false,false⟩,⟨some 149,false,false⟩]⟩,fun x=>jZ x.1 x.2.1 x.2.2⟩
def Gf:Cx:=aI ZA 168 FG
theorem AC:Qq0 Gf:=ai MG (Qq2 MG Tryz.func168 (by kernel_rfl) aaw (fun x=>by kernel_rfl) rfl)
def IF:An:=.z
noncomputable def yp:Cx:=cW Gf 130 (jR Gf Tryz.f130 IF)
theorem yM:Qq0 yp:=bH AC (dZ AC aq Tryz.func130 (by kernel_rfl) (by kernel_rfl) _)
def Rg:An:=.z
noncomputable def Jt:Cx:=cW yp 53 (jR yp Tryz.f53 Rg)
theorem LY:Qq0 Jt:=bH yM (dZ yM aq Tryz.func53 (by kernel_rfl) (by kernel_rfl) _)
def ach:An:=.s .z (.j ⟨[0,2,4],[],[(0,c15)],[]⟩ false (.s .z (.u (.j ⟨[0,2,4,16],[(23,.lf (.sc .bool))],[],[]⟩ true .z (.s (.s .z (.j ⟨[0,2,4],[(7,.lf (.sc pi))],[],[]⟩ true .z (.j ⟨[0,2,4],[(7,.lf (.sc pi))],[],[]⟩ true .z .z))) (.s .z (.s (.s .z (.s .z (.gg [.ug 0 (some 11) (some 2) aE [1547425049178923675150188670,3],.uh 0 11 0 cg [3]] [.pa,.pa]))) (Qq1 5 (.s (.s .z (.s .z (.s (.k [2000000] [.ug 0 (some 11) (some 2) aE [1547425049178923675150188670,3]] [.pa]) .z))) (.s .z (.s (.s (.g [.ug 0 (some 11) (some 2) aE [1547425049178923675150188670,3]]) (.s (.gg [] [.pa]) .z)) .z)))))))))) .z)
def Hg:Ctr:=⟨⟨c33,[(.sc .bool),aV],1,[0],[⟨none,true,true⟩,⟨none,true,true⟩,⟨none,true,true⟩,⟨none,true,true⟩,⟨none,true,true⟩,⟨none,true,true⟩,⟨none,true,true⟩,⟨none,true,true⟩,⟨some 1870727804774333205280220053689557385530553472647298,false,false⟩,⟨some 3,false,false⟩,⟨some 360314358468706326,false,false⟩,⟨some 3,false,false⟩,⟨some 3,false,false⟩,⟨some 149,false,false⟩]⟩,fun x=>fP x.1 x.2.1 x.2.2⟩
def Rn:Cx:=aI Gf 107 Hg
theorem KJ:Qq0 Rn:=ai AC (Qq2 LY Tryz.func107 (by kernel_rfl) ach (fun x=>by kernel_rfl) rfl)
def afS:An:=.s .z (.u (.l ⟨[0,1],[(4,.lf (.sc pi))],[(0,c15)],[]⟩ .z))
def RB:Ctr:=⟨⟨c34,[aV],0,[0],[⟨none,true,true⟩,⟨none,true,true⟩,⟨none,true,true⟩,⟨none,true,true⟩,⟨none,true,true⟩,⟨none,true,true⟩,⟨none,true,true⟩,⟨none,true,true⟩,⟨some 1870727804774333205280220053689557385530553472647298,false,false⟩,⟨some 3,false,false⟩,⟨some 360314358468706326,false,false⟩,⟨some 3,false,false⟩,⟨some 3,false,false⟩,⟨some 149,false,false⟩]⟩,fun x=>fe x.1 x.2⟩
def WK:Cx:=aI Rn 54 RB
theorem Nc:Qq0 WK:=ai KJ (Qq2 KJ Tryz.func54 (by kernel_rfl) afS (fun x=>by kernel_rfl) rfl)
def acV:An:=.s .z (.s .z (.j ⟨[0],[(3,.lf (.own (.sc .str) 9 false []))],[],[]⟩ true (.s .z (.u (.l ⟨[0],[(3,.lf (.own (.sc .str) 9 false [])),(4,.lf (.sc pi))],[],[]⟩ .z))) .z))
def GW:Ctr:=⟨⟨[.d (.slice aA)],[(.slice (.sc .str))],1,[],[⟨some 9,false,false⟩]⟩,fun x=>di x⟩
def Pk:Cx:=aI WK 162 GW
theorem JN:Qq0 Pk:=ai Nc (Qq2 Nc Tryz.func162 (by kernel_rfl) acV (fun x=>by kernel_rfl) rfl)
def acg:An:=.s .z (.j ⟨[0],[],[],[]⟩ false (.s .z (.u (.l ⟨[0],[(3,.lf (.sc pi))],[],[]⟩ .z))) .z)
def Gg:Ctr:=⟨⟨[.d (.slice (.sc .str))],[(.sc .bool)],1,[],[]⟩,fun x=>dA x⟩
def Oh:Cx:=aI Pk 161 Gg
theorem HQ:Qq0 Oh:=ai JN (Qq2 JN Tryz.func161 (by kernel_rfl) acg (fun x=>by kernel_rfl) rfl)
def abX:An:=Qq1 3 (.j ⟨[1,3],[],[],[]⟩ false (.s .z (.u (.l ⟨[1,3],[(4,.lf (.sc pi))],[],[]⟩ (.s .z (.j ⟨[1,3,4],[],[],[]⟩ false (.u (.s .z (.j ⟨[1,3,4],[(5,.lf (.sc pi))],[],[]⟩ true .z .z))) .z))))) (.j ⟨[1],[],[],[]⟩ false (.s .z (.u (.l ⟨[1],[(6,.lf (.sc pi))],[],[]⟩ .z))) .z))
def GZ:Ctr:=⟨⟨[.d bw],[(.sc .bool)],1,[],[]⟩,fun x=>kS x⟩
def PF:Cx:=aI Oh 102 GZ
theorem JV:Qq0 PF:=ai HQ (Qq2 HQ Tryz.func102 (by kernel_rfl) abX (fun x=>by kernel_rfl) rfl)
def aau:An:=.s .z (.s .z (.j ⟨[1,2],[(5,.lf (.sc pi))],[],[]⟩ true (.s .z (.u (.l ⟨[1,2],[(5,.lf (.sc pi)),(6,.lf (.sc pi))],[],[]⟩ (.s .z (.j ⟨[1,2,6],[(5,.lf (.sc pi))],[],[]⟩ true .z .z))))) .z))
def F8:Ctr:=⟨⟨[.d bw,.d (.sc pi)],[(.sc pi)],1,[],[]⟩,fun x=>nN x.1 x.2⟩
def PW:Cx:=aI PF 163 F8
theorem Lp:Qq0 PW:=ai JV (Qq2 JV Tryz.func163 (by kernel_rfl) aau (fun x=>by kernel_rfl) rfl)
def abp:An:=.z
def EV:Ctr:=⟨⟨[.d (.sc pi)],[(.sc pi)],1,[],[]⟩,fun x=>jk x⟩
def OP:Cx:=aI PW 164 EV
theorem HZ:Qq0 OP:=ai Lp (Qq2 Lp Tryz.func164 (by kernel_rfl) abp (fun x=>by kernel_rfl) rfl)
def aa2:An:=.z
def Gy:Ctr:=⟨⟨[.d (.sc pi),.d (.sc pi),.d (.sc pi)],[(.sc .bool)],1,[],[]⟩,fun x=>bG x.1 x.2.1 x.2.2⟩
def P4:Cx:=aI OP 165 Gy
theorem HR:Qq0 P4:=ai HZ (Qq2 HZ Tryz.func165 (by kernel_rfl) aa2 (fun x=>by kernel_rfl) rfl)
def acP:An:=Qq1 5 (.j ⟨[1,2,5,6],[(7,.lf (.sc pi))],[],[]⟩ true .z (.s .z (.s .z (.s .z (.j ⟨[2,5,6,7,9],[],[],[]⟩ false (.s .z (.u (.j ⟨[2,5,6,7,9,107],[(108,.lf (.sc .bool))],[],[]⟩ true .z (.s .z (.j ⟨[2,5,6,7,9,107],[(116,.lf (.sc .bool))],[],[]⟩ true .z (.s .z (.j ⟨[2,5,6,9,107],[(129,.lf (.sc .bool))],[],[]⟩ true .z (.s .z (.s .z (.s .z (.s .z (.s .z (.j ⟨[2,5,9,107],[(155,.lf (.sc .bool))],[],[]⟩ true .z (.s .z (.s .z (.s .z (.s .z (.s .z (.j ⟨[2,5,9,107],[(189,.lf (.sc .bool))],[],[]⟩ true .z .z))))))))))))))))))) .z)))))
def Gr:Ctr:=⟨⟨[.d bw,.d (.sc pi)],[(.sc .bool)],1,[],[]⟩,fun x=>l8 x.1 x.2⟩
def Qd:Cx:=aI P4 103 Gr
theorem Ih:Qq0 Qd:=ai HR (Qq2 HR Tryz.func103 (by kernel_rfl) acP (fun x=>by kernel_rfl) rfl)
def aic:An:=Qq1 3 (.j ⟨[1],[],[],[]⟩ false (.s .z (.u (.l ⟨[1],[(4,.lf (.sc pi))],[],[]⟩ .z))) .z)
def On:Ctr:=⟨⟨[.d bw],[(.sc pi),(.sc pi)],2,[],[]⟩,fun x=>gv x⟩
def YY:Cx:=aI Qd 50 On
theorem M8:Qq0 YY:=ai Ih (Qq2 Ih Tryz.func50 (by kernel_rfl) aic (fun x=>by kernel_rfl) rfl)
def afz:An:=.z
def Sf:Ctr:=⟨⟨[.d fW],[(.sc .bool)],1,[],[]⟩,fun x=>iF x⟩
def X4:Cx:=aI YY 51 Sf
theorem ML:Qq0 X4:=ai M8 (Qq2 M8 Tryz.func51 (by kernel_rfl) afz (fun x=>by kernel_rfl) rfl)
def agQ:An:=.s .z (.j ⟨[0,1],[],[],[]⟩ false (.s .z (.u (.l ⟨[0,1],[(6,.lf (.sc pi))],[],[]⟩ .z))) .z)
def OA:Ctr:=⟨⟨[.d (.slice aA),.d (.sc .str)],[(.sc pi),(.sc .bool)],2,[],[]⟩,fun x=>jP x.1 x.2⟩
def X5:Cx:=aI X4 52 OA
theorem Oc:Qq0 X5:=ai ML (Qq2 ML Tryz.func52 (by kernel_rfl) agQ (fun x=>by kernel_rfl) rfl)
def acI:An:=.s .z (.s .z (.j ⟨[0,1],[(5,.lf (.own (.sc pi) 3 false []))],[],[]⟩ true (.s .z (.u (.l ⟨[0,1],[(5,.lf (.own (.sc pi) 3 false [])),(6,.lf (.sc pi))],[],[]⟩ (.s .z (.j ⟨[0,1,6],[(5,.lf (.own (.sc pi) 3 false []))],[],[]⟩ true .z .z))))) .z))
def He:Ctr:=⟨⟨c45,[(.slice (.sc pi))],1,[],[⟨some 3,false,false⟩]⟩,fun x=>dC x.1 x.2⟩
def Ss:Cx:=aI X5 113 He
theorem KH:Qq0 Ss:=ai Oc (Qq2 Oc Tryz.func113 (by kernel_rfl) acI (fun x=>by kernel_rfl) rfl)
def acn:An:=.z
def Fv:Ctr:=⟨⟨c45,[(.sc .bool)],1,[],[]⟩,fun x=>iW x.1 x.2⟩
def Rc:Cx:=aI Ss 125 Fv
theorem KP:Qq0 Rc:=ai KH (Qq2 KH Tryz.func125 (by kernel_rfl) acn (fun x=>by kernel_rfl) rfl)
def afN:An:=.s .z (.s .z (.j ⟨[0],[(3,.lf (.own (.sc pi) 3 false []))],[],[]⟩ true (.s .z (.u (.l ⟨[0],[(3,.lf (.own (.sc pi) 3 false [])),(4,.lf (.sc pi))],[],[]⟩ (.s .z (.j ⟨[0,4],[(3,.lf (.own (.sc pi) 3 false []))],[],[]⟩ true .z .z))))) .z))
def QZ:Ctr:=⟨⟨[.box false aV []],[(.slice (.sc pi))],1,[],[⟨some 3,false,false⟩]⟩,fun x=>ep x⟩
def V5:Cx:=aI Rc 67 QZ
theorem NL:Qq0 V5:=ai KP (Qq2 KP Tryz.func67 (by kernel_rfl) afN (fun x=>by kernel_rfl) rfl)
def agw:An:=Qq1 4 (.j ⟨[0],[(2,.lf (.sc pi))],[],[]⟩ true (.s .z (.u (.l ⟨[0],[(2,.lf (.sc pi)),(3,.lf (.sc pi))],[],[]⟩ (.s .z (.j ⟨[0,3],[(2,.lf (.sc pi))],[],[]⟩ true .z .z))))) .z)
def QE:Ctr:=⟨⟨[.box true aV [none,none,none,none,none,none,none,none,some 1870727804774333205280220053689557385530553472647298,some 3,some 360314358468706326,some 3,some 3,some 149]],[aV],0,[0],[⟨none,true,false⟩,⟨none,true,false⟩,⟨none,true,false⟩,⟨none,true,false⟩,⟨none,true,false⟩,⟨none,true,false⟩,⟨none,true,false⟩,⟨none,true,false⟩,⟨some 1870727804774333205280220053689557385530553472647298,false,false⟩,⟨some 3,false,false⟩,⟨some 360314358468706326,false,false⟩,⟨some 3,false,false⟩,⟨some 3,false,false⟩,⟨some 149,false,false⟩]⟩,fun x=>fN x⟩
def PK:Cx:=aI V5 55 QE
theorem C7:Qq0 PK:=ai NL (Qq2 NL Tryz.func55 (by kernel_rfl) agw (fun x=>by kernel_rfl) rfl)
noncomputable def Mc:Cx:=cW PK 53 (jR PK Tryz.f53 Rg)
theorem RO:Qq0 Mc:=bH C7 (dZ C7 aq Tryz.func53 (by kernel_rfl) (by kernel_rfl) _)
def aip:An:=Qq1 6 (.j ⟨[2,3,6,10],[],[(10,c15)],[]⟩ true (.s .z (.u (.l ⟨[2,3,6,10],[(11,.lf (.sc pi))],[(10,c15)],[]⟩ (.s .z (.j ⟨[2,3,6,10,11],[],[(10,c11)],[]⟩ true (.u (.s .z (.j ⟨[2,3,6,10,11,13],[(12,.lf (.sc pi))],[],[]⟩ true .z .z))) .z))))) (.j ⟨[3,6,10,2],[],[(10,c11)],[]⟩ true (.s .z (.u (.l ⟨[2,3,6,10],[(14,.lf (.sc pi))],[(10,c11)],[]⟩ .z))) (.s .z (.j ⟨[3,6,10],[],[(10,c11)],[]⟩ true (.s .z (.u (.l ⟨[3,6,10],[(17,.lf (.sc pi))],[(10,c11)],[]⟩ .z))) .z))))
def Ov:Ctr:=⟨⟨[.d bw,.d fW,.d (.slice aA)],[bQ,(.sc pi)],2,[],[⟨some 1870727804774333205280220053689557385530553472647298,false,false⟩,⟨some 3,false,false⟩,⟨some 360314358468706326,false,false⟩,⟨some 3,false,false⟩,⟨some 3,false,false⟩]⟩,fun x=>lC x.1 x.2.1 x.2.2⟩
def WJ:Cx:=aI PK 14 Ov
theorem Nh:Qq0 WJ:=ai C7 (Qq2 RO Tryz.func14 (by kernel_rfl) aip (fun x=>by kernel_rfl) rfl)
def aaV:An:=Qq1 3 (.j ⟨[2,3,4],[],[],[]⟩ false (.s .z (.u (.l ⟨[2,3,4],[(7,.lf (.sc pi))],[],[]⟩ .z))) .z)
def E7:Ctr:=⟨⟨[.d bw,.d aE,.d (.sc .bool)],[(.sc .bool)],1,[],[]⟩,fun x=>lr x.1 x.2.1 x.2.2⟩
def O4:Cx:=aI WJ 210 E7
theorem IQ:Qq0 O4:=ai Nh (Qq2 Nh Tryz.func210 (by kernel_rfl) aaV (fun x=>by kernel_rfl) rfl)
def aaS:An:=.s .z (.s .z (.j ⟨[2,3],[],[],[]⟩ false (.s .z (.u (.l ⟨[2,3],[(5,.lf (.sc pi))],[],[]⟩ .z))) (.j ⟨[2,3],[],[],[]⟩ false (.s .z (.u (.l ⟨[2,3],[(6,.lf (.sc pi))],[],[]⟩ .z))) (.s .z (.j ⟨[2,3],[(7,.lf (.sc pi))],[],[]⟩ false (.s .z (.u (.l ⟨[2,3],[(7,.lf (.sc pi)),(8,.lf (.sc pi))],[],[]⟩ (.s .z (.j ⟨[2,3,8],[(7,.lf (.sc pi))],[],[]⟩ false .z .z))))) .z)))))
def Gb:Ctr:=⟨⟨[.d bw,.d bQ],[(.sc .bool)],1,[],[]⟩,fun x=>lb x.1 x.2⟩
def QA:Cx:=aI O4 173 Gb
theorem Jn:Qq0 QA:=ai IQ (Qq2 IQ Tryz.func173 (by kernel_rfl) aaS (fun x=>by kernel_rfl) rfl)
def abZ:An:=.s .z (.j ⟨[0,1],[],[],[]⟩ false (.s .z (.u (.l ⟨[0,1],[(5,.lf (.sc pi))],[],[]⟩ .z))) .z)
def ES:Ctr:=⟨⟨[.d (.slice (.sc pi)),.d (.sc pi)],[(.sc .bool)],1,[],[]⟩,fun x=>nQ x.1 x.2⟩
def P1:Cx:=aI QA 174 ES
theorem IP:Qq0 P1:=ai Jn (Qq2 Jn Tryz.func174 (by kernel_rfl) abZ (fun x=>by kernel_rfl) rfl)
def aaT:An:=.z
def Gj:Ctr:=⟨⟨[.d bw,.d bQ],[(.sc pi)],1,[],[]⟩,fun x=>lB x.1 x.2⟩
def Rm:Cx:=aI P1 112 Gj
theorem Id:Qq0 Rm:=ai IP (Qq2 IP Tryz.func112 (by kernel_rfl) aaT (fun x=>by kernel_rfl) rfl)
def ahL:An:=.z
def PS:Ctr:=⟨⟨[.d bw,.d fW,.d bQ],[(.sc pi)],1,[],[]⟩,fun x=>fS x.1 x.2.1 x.2.2⟩
def XK:Cx:=aI Rm 59 PS
theorem MU:Qq0 XK:=ai Id (Qq2 Id Tryz.func59 (by kernel_rfl) ahL (fun x=>by kernel_rfl) rfl)
def agV:An:=Qq1 3 (.j ⟨[0,2,3,4],[],[],[]⟩ false (.s .z (.s (.s .z (.j ⟨[2,5],[],[(5,c38)],[3]⟩ true (.s .z (.u (.l ⟨[2,3,5],[(6,.lf (.sc pi))],[(5,c38)],[]⟩ .z))) .z)) .z)) (.j ⟨[0,2],[(4,.lf (.sc pi))],[],[3]⟩ true .z (.s .z (.s .z (.s .z (.j ⟨[2,8,0,9],[],[(8,c38)],[]⟩ true (.s .z (.u (.s .z (.s (.s .z (.s .z (.s .z (.u (.l ⟨[2,8,9],[(10,.lf (.sc pi))],[(8,c38)],[]⟩ .z))))) (.s .z (.s (.s .z (.s .z (.s (.s .z (.s .z (.s .z (.u (.l ⟨[2,8,11],[(12,.lf (.sc pi))],[(8,c38)],[]⟩ .z))))) .z))) .z)))))) .z))))))
def PN:Ctr:=⟨⟨[.box false aV []],[fF],1,[],[⟨some 3,false,false⟩]⟩,fun x=>eI x⟩
def Zp:Cx:=aI XK 60 PN
theorem MP:Qq0 Zp:=ai MU (Qq2 MU Tryz.func60 (by kernel_rfl) agV (fun x=>by kernel_rfl) rfl)
def aia:An:=.z
def Pe:Ctr:=⟨⟨[.d (.sc pi)],[aK],1,[],[]⟩,fun x=>gz x⟩
def Og:Cx:=aI Zp 69 Pe
theorem DE:Qq0 Og:=ai MP (Qq2 MP Tryz.func69 (by kernel_rfl) aia (fun x=>by kernel_rfl) rfl)
noncomputable def Hp:Cx:=cW Og 53 (jR Og Tryz.f53 Rg)
theorem LC:Qq0 Hp:=bH DE (dZ DE aq Tryz.func53 (by kernel_rfl) (by kernel_rfl) _)
def abt:An:=Qq1 3 (.j ⟨[0,1,2,9],[(10,.lf (.sc pi))],[],[]⟩ true (.s .z (.u (.l ⟨[0,1,2,9],[(10,.lf (.sc pi)),(11,.lf (.sc pi))],[],[]⟩ (.s .z (.j ⟨[0,1,2,9,11],[(10,.lf (.sc pi))],[],[]⟩ true .z .z))))) .z)
def FI:Ctr:=⟨⟨c31,[(.slice (.sc pi)),(.slice aK),(.sc .bool),aV],3,[0],[⟨some 3,false,false⟩,⟨some 149,false,false⟩,⟨none,true,false⟩,⟨none,true,false⟩,⟨none,true,false⟩,⟨none,true,false⟩,⟨none,true,false⟩,⟨none,true,false⟩,⟨none,true,false⟩,⟨none,true,false⟩,⟨some 1870727804774333205280220053689557385530553472647298,false,false⟩,⟨some 3,false,false⟩,⟨some 360314358468706326,false,false⟩,⟨some 3,false,false⟩,⟨some 3,false,false⟩,⟨some 149,false,false⟩]⟩,fun x=>i5 x.1 x.2.1 x.2.2⟩
def GF:Cx:=aI Og 128 FI
theorem A4:Qq0 GF:=ai DE (Qq2 LC Tryz.func128 (by kernel_rfl) abt (fun x=>by kernel_rfl) rfl)
noncomputable def yS:Cx:=cW GF 130 (jR GF Tryz.f130 IF)
theorem xU:Qq0 yS:=bH A4 (dZ A4 aq Tryz.func130 (by kernel_rfl) (by kernel_rfl) _)
def agB:An:=.z
noncomputable def D4:Cx:=cW yS 104 (qy yS Tryz.f104 agB [aP])
theorem Lh:Qq0 D4:=bH xU (ln xU aq Tryz.func104 (by kernel_rfl) (by kernel_rfl) _ _)
def aai:An:=Qq1 4 (.s (.s .z (.s (.s .z (.s (.gg [.ug 0 (some 13) (some 3) (.slice (.sc pi)) [3]] [.pa]) .z)) .z)) (.s .z (.s .z (.s (.gg [.ug 0 (some 11) (some 14) aE [1547425049178923675150188670,3],.uh 0 11 0 cg [3]] [.pa,.pa]) .z))))
def EY:Ctr:=⟨⟨[.box true aV [none,none,none,none,none,none,none,none,some 1870727804774333205280220053689557385530553472647298,some 3,some 360314358468706326,some 3,some 3,some 149],.d (.sc pi),.d (.sc pi),.d (.sc pi)],[(.slice (.sc pi)),(.slice aK),(.sc .bool),aV],3,[0],[⟨some 3,false,false⟩,⟨some 149,false,false⟩,⟨none,true,false⟩,⟨none,true,false⟩,⟨none,true,false⟩,⟨none,true,false⟩,⟨none,true,false⟩,⟨none,true,false⟩,⟨none,true,false⟩,⟨none,true,false⟩,⟨some 1870727804774333205280220053689557385530553472647298,false,false⟩,⟨some 3,false,false⟩,⟨some 360314358468706326,false,false⟩,⟨some 3,false,false⟩,⟨some 3,false,false⟩,⟨some 149,false,false⟩]⟩,fun x=>jo x.1 x.2.1 x.2.2.1 x.2.2.2⟩
def Fw:Cx:=aI GF 129 EY
theorem Aq:Qq0 Fw:=ai A4 (Qq2 Lh Tryz.func129 (by kernel_rfl) aai (fun x=>by kernel_rfl) rfl)
noncomputable def H0:Cx:=cW Fw 130 (jR Fw Tryz.f130 IF)
theorem LB:Qq0 H0:=bH Aq (dZ Aq aq Tryz.func130 (by kernel_rfl) (by kernel_rfl) _)
def agz:An:=Qq1 6 (.j ⟨[0,1,10,2,9],[(11,.lf (.own aK 149 false [])),(12,.lf (.sc .bool))],[(0,c15)],[]⟩ false (.s .z (.u (.s .z (.s .z (.s .z (.s .z (.s .z (.s .z (.s .z (.s .z (.s .z (.s (.s .z (.s (.gg [.ug 0 (some 11) (some 1) aE [1547425049178923675150188670,3],.uh 0 11 0 cg [3]] [.pa,.pa]) (.gg [.ug 0 (some 13) (some 101) (.slice (.sc pi)) [3]] [.pa]))) (.s .z (.s .z (.s .z (.s .z (.s .z (.s (.gg [.ug 0 (some 11) (some 1) aE [1547425049178923675150188670,3],.uh 0 11 0 cg [3]] [.pa,.pa]) (.s .z (.s (.s .z (.s .z (.gg [.ug 0 (some 11) (some 1) aE [1547425049178923675150188670,3],.uh 0 11 0 cg [3]] [.pa,.pa]))) (.s .z (.s .z (.s .z (.s .z (.s .z (.s (.s .z (.gg [.ug 0 (some 11) (some 1) aE [1547425049178923675150188670,3],.uh 0 11 0 cg [3]] [.pa,.pa])) (.s (.gg [.ug 0 (some 11) (some 1) aE [1547425049178923675150188670,3]] [.pa]) (.j ⟨[0,1],[],[(0,c15)],[]⟩ true .z .z)))))))))))))))))))))))))))) (.j ⟨[0,10,11,12,1],[],[(0,[.rep aP true [1000000],.rep (.sc pi) true [1000000],.rep (.sc pi) true [1000000],.rep aA true [1000000],.rep aA true [1000000],.rep (.sc .str) true [1000000],.rep (.sc .str) true [1000000],.rep (.sc .str) true [1000000],.sc pi,.sc pi,.sc pi,.own aE 1870727804774333205280220053689557385530553472647298 false [],.own (.sc pi) 3 false [],.own (.slice (.sc pi)) 360314358468706326 false [],.own (.sc pi) 3 false [],.own (.sc pi) 3 false [],.sc pi,.sc pi,.sc pi,.sc pi,.sc pi,.sc pi,.sc pi,.sc pi,.sc .str,.own aK 149 false []])],[]⟩ true .z .z))
def Q4:Ctr:=⟨⟨c31,[(.slice (.sc pi)),(.slice aK),(.sc .bool),aV],3,[0],[⟨some 3,false,false⟩,⟨some 149,false,false⟩,⟨none,true,true⟩,⟨none,true,true⟩,⟨none,true,true⟩,⟨none,true,true⟩,⟨none,true,true⟩,⟨none,true,true⟩,⟨none,true,true⟩,⟨none,true,true⟩,⟨some 1870727804774333205280220053689557385530553472647298,false,false⟩,⟨some 3,false,false⟩,⟨some 360314358468706326,false,false⟩,⟨some 3,false,false⟩,⟨some 3,false,false⟩,⟨some 149,false,false⟩]⟩,fun x=>iA x.1 x.2.1 x.2.2⟩
def Vk:Cx:=aI Fw 68 Q4
theorem N7:Qq0 Vk:=ai Aq (Qq2 LB Tryz.func68 (by kernel_rfl) agz (fun x=>by kernel_rfl) rfl)
def aao:An:=.z
def F7:Ctr:=⟨⟨[.d aK,.d aK],[(.sc .bool)],1,[],[]⟩,fun x=>iI x.1 x.2⟩
def PP:Cx:=aI Vk 133 F7
theorem IH:Qq0 PP:=ai N7 (Qq2 N7 Tryz.func133 (by kernel_rfl) aao (fun x=>by kernel_rfl) rfl)
def ahd:An:=.s .z (.s .z (.j ⟨[0],[(3,.lf (.own aK 149 false []))],[],[]⟩ true (.s .z (.u (.l ⟨[0],[(3,.lf (.own aK 149 false [])),(4,.lf (.sc pi))],[],[]⟩ (.s .z (.j ⟨[0,4],[(3,.lf (.own aK 149 false []))],[],[]⟩ true (.u (.s .z (.j ⟨[0,3,4],[(5,.lf (.sc pi))],[],[]⟩ true (.u (.l ⟨[0,3,4],[(5,.lf (.sc pi))],[],[]⟩ .z)) .z))) .z))))) .z))
def Qf:Ctr:=⟨⟨[.d (.slice aK)],[(.slice aK)],1,[],[⟨some 149,false,false⟩]⟩,fun x=>eN x⟩
def Zx:Cx:=aI PP 71 Qf
theorem NM:Qq0 Zx:=ai IH (Qq2 IH Tryz.func71 (by kernel_rfl) ahd (fun x=>by kernel_rfl) rfl)
end
end Go.Proofs.YtfhhiajfciblbaaGreatDoor
