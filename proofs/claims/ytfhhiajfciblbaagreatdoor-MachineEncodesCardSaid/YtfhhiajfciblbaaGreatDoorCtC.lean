/- Laws for the row. No condition. -/
import Derived.Test.YtfhhiajfciblbaaGreatDoorCtB
namespace Go.Proofs.YtfhhiajfciblbaaGreatDoor
open Go.Sm
set_option maxRecDepth 100000
set_option linter.unusedSectionVars false
section
variable [Itr] [SortLaw]
def aoa:An:=Qq1 6 (.j ⟨[3,6,10,11],[],[(11,c21)],[]⟩ true (.s .z (.u (.l ⟨[3,6,10,11,43,44],[(45,.lf (.sc pi))],[(11,c21)],[]⟩ .z))) (.j ⟨[3,6,11,10],[],[(11,c17)],[]⟩ true (.s .z (.u (.l ⟨[3,6,10,11,68,69],[(70,.lf (.sc pi))],[(11,c17)],[]⟩ .z))) (.j ⟨[3,6,11],[],[(11,c17)],[]⟩ true (.s .z (.u (.l ⟨[3,6,11,91],[(92,.lf (.sc pi))],[(11,c17)],[]⟩ .z))) .z)))
def WQ:Ctr:=⟨⟨[.d eW,.d fP,.d (.slice aB)],[cS,(.sc pi)],2,[],[⟨some 1870727804774333205280220053632888987722923590549622,false,false⟩,⟨some 3,false,false⟩,⟨none,true,true⟩,⟨some 3,false,false⟩,⟨some 3,false,false⟩]⟩,λx=>zE x.1 x.2.1 x.2.2⟩
def abk:Cx:=aD Uw 12 WQ
theorem Rw:Qq0 abk:=am Gk (Qq2 Xr Tryz.func12 (by kernel_rfl) aoa (λx=>by kernel_rfl) rfl)
def aou:An:=Qq1 3 (.j ⟨[1,2,3],[],[(3,c27)],[]⟩ true (.s .z (.u (.l ⟨[1,2,3],[(4,.lf (.sc pi))],[(3,c27)],[]⟩ (.s .z (.j ⟨[1,2,3,4],[],[(3,[.own aG 1870727804774333205280220053689557385530553472647298 false [],.rep (.sc pi) true [1000003],.rep (.slice (.sc pi)) true [1000003],.rep (.sc pi) true [1000003],.rep (.sc pi) true [1000003],.sc pi,.sc pi,.sc pi,.sc pi,.sc pi,.sc pi,.sc pi,.sc pi,.sc .str])],[]⟩ true (.u (.s .z (.s .z (.j ⟨[1,2,3,4,6,5],[],[(6,c40)],[]⟩ true (.s .z (.u (.l ⟨[1,2,3,4,5,6],[(7,.lf (.sc pi))],[(6,c40)],[]⟩ .z))) .z)))) .z))))) (.s .z (.s .z (.j ⟨[1,2,3],[],[(3,c23)],[]⟩ true (.s .z (.u (.l ⟨[1,2,3],[(8,.lf (.sc pi))],[(3,c23)],[]⟩ .z))) .z))))
def U8:Ctr:=⟨⟨[.d br],[br],1,[],[⟨some 1870727804774333205280220053689557385530553472647298,false,false⟩,⟨some 3,false,false⟩,⟨some 360314358468706326,false,false⟩,⟨some 3,false,false⟩,⟨some 3,false,false⟩]⟩,λx=>eu x⟩
def aez:Cx:=aD abk 58 U8
theorem Qx:Qq0 aez:=am Rw (Qq2 Rw Tryz.func58 (by kernel_rfl) aou (λx=>by kernel_rfl) rfl)
def ag3:An:=.z
def JF:Ctr:=⟨⟨c48,[aR],1,[],[]⟩,λx=>cg x.1 x.2⟩
def WL:Cx:=aD aez 104 JF
theorem Pg:Qq0 WL:=am Qx (Qq2 Qx Tryz.func104 (by kernel_rfl) ag3 (λx=>by kernel_rfl) rfl)
def aiz:An:=.z
def Ir:Ctr:=⟨⟨[.d (.sc pi)],[(.sc .bool)],1,[],[]⟩,λx=>nE x⟩
def UD:Cx:=aD WL 166 Ir
theorem LZ:Qq0 UD:=am Pg (Qq2 Pg Tryz.func166 (by kernel_rfl) aiz (λx=>by kernel_rfl) rfl)
def aiq:An:=.z
def IL:Ctr:=⟨⟨[.d aR,.d (.sc pi)],[(.sc .bool)],1,[],[]⟩,λx=>gk x.1 x.2⟩
def Wn:Cx:=aD UD 105 IL
theorem Nq:Qq0 Wn:=am LZ (Qq2 LZ Tryz.func105 (by kernel_rfl) aiq (λx=>by kernel_rfl) rfl)
def agQ:An:=.s .z (.s .z (.u (Qq1 3 (.s (.j ⟨[0,4],[],[(0,c20)],[]⟩ true .z .z) .z))))
def Kk:Ctr:=⟨⟨c37,[aU],0,[0],[⟨none,true,true⟩,⟨none,true,true⟩,⟨none,true,true⟩,⟨none,true,true⟩,⟨none,true,true⟩,⟨none,true,true⟩,⟨none,true,true⟩,⟨none,true,true⟩,⟨some 1870727804774333205280220053689557385530553472647298,false,false⟩,⟨some 3,false,false⟩,⟨some 360314358468706326,false,false⟩,⟨some 3,false,false⟩,⟨some 3,false,false⟩,⟨some 149,false,false⟩]⟩,λx=>gu x.1 x.2.1 x.2.2⟩
def SU:Cx:=aD Wn 106 Kk
theorem Lu:Qq0 SU:=am Nq (Qq2 Nq Tryz.func106 (by kernel_rfl) agQ (λx=>by kernel_rfl) rfl)
def ah7:An:=.s .z (.s .z (.j ⟨[1,2],[(5,.lf (.sc pi))],[],[]⟩ true (.u (.l ⟨[1,2],[(5,.lf (.sc pi))],[],[]⟩ .z)) .z))
def Jl:Ctr:=⟨⟨[.d bB,.d (.sc pi)],[(.sc pi)],1,[],[]⟩,λx=>ga x.1 x.2⟩
def TF:Cx:=aD SU 132 Jl
theorem O6:Qq0 TF:=am Lu (Qq2 Lu Tryz.func132 (by kernel_rfl) ah7 (λx=>by kernel_rfl) rfl)
def anW:An:=.z
def XN:Ctr:=⟨⟨c35,[aU],0,[0],[⟨none,true,false⟩,⟨none,true,false⟩,⟨none,true,false⟩,⟨none,true,false⟩,⟨none,true,false⟩,⟨none,true,false⟩,⟨none,true,false⟩,⟨none,true,false⟩,⟨some 1870727804774333205280220053689557385530553472647298,false,false⟩,⟨some 3,false,false⟩,⟨some 360314358468706326,false,false⟩,⟨some 3,false,false⟩,⟨some 3,false,false⟩,⟨some 149,false,false⟩]⟩,λx=>bZ x.1 x.2.1 x.2.2⟩
def aeS:Cx:=aD TF 70 XN
theorem Ra:Qq0 aeS:=am O6 (Qq2 O6 Tryz.func70 (by kernel_rfl) anW (λx=>by kernel_rfl) rfl)
def ah1:An:=.s .z (.s .z (.s (.k [2000000] [.ug 0 (some 11) (some 1) aG [1547425049178923675150188670,3]] [.pa]) .z))
def Iy:Ctr:=⟨⟨c35,[(.sc .bool),aU],1,[0],[⟨none,true,false⟩,⟨none,true,false⟩,⟨none,true,false⟩,⟨none,true,false⟩,⟨none,true,false⟩,⟨none,true,false⟩,⟨none,true,false⟩,⟨none,true,false⟩,⟨some 1870727804774333205280220053689557385530553472647298,false,false⟩,⟨some 3,false,false⟩,⟨some 360314358468706326,false,false⟩,⟨some 3,false,false⟩,⟨some 3,false,false⟩,⟨some 149,false,false⟩]⟩,λx=>fp x.1 x.2.1 x.2.2⟩
def SO:Cx:=aD aeS 126 Iy
theorem NR:Qq0 SO:=am Ra (Qq2 Ra Tryz.func126 (by kernel_rfl) ah1 (λx=>by kernel_rfl) rfl)
def ajT:An:=.s .z (.s (.g [.ug 0 (some 11) (some 1) aG [1547425049178923675150188670,3]]) (.s (.s .z (.s (.s .z (.g [.pa])) .z)) (Qq1 3 (.g [.pa]))))
def Je:Ctr:=⟨⟨c38,[(.sc pi),(.sc .bool),aU],2,[0],[⟨none,true,false⟩,⟨none,true,false⟩,⟨none,true,false⟩,⟨none,true,false⟩,⟨none,true,false⟩,⟨none,true,false⟩,⟨none,true,false⟩,⟨none,true,false⟩,⟨some 1870727804774333205280220053689557385530553472647298,false,false⟩,⟨some 3,false,false⟩,⟨some 360314358468706326,false,false⟩,⟨some 3,false,false⟩,⟨some 3,false,false⟩,⟨some 149,false,false⟩]⟩,λx=>cO x.1 x.2⟩
def U5:Cx:=aD SO 127 Je
theorem K3:Qq0 U5:=am NR (Qq2 NR Tryz.func127 (by kernel_rfl) ajT (λx=>by kernel_rfl) rfl)
def ajE:An:=.s (.g [.ug 0 (some 11) (some 1) aG [1547425049178923675150188670,3]]) (.gg [] [.pa])
def JA:Ctr:=⟨⟨c35,[aU],0,[0],[⟨none,true,false⟩,⟨none,true,false⟩,⟨none,true,false⟩,⟨none,true,false⟩,⟨none,true,false⟩,⟨none,true,false⟩,⟨none,true,false⟩,⟨none,true,false⟩,⟨some 1870727804774333205280220053689557385530553472647298,false,false⟩,⟨some 3,false,false⟩,⟨some 360314358468706326,false,false⟩,⟨some 3,false,false⟩,⟨some 3,false,false⟩,⟨some 149,false,false⟩]⟩,λx=>gN x.1 x.2.1 x.2.2⟩
def V9:Cx:=aD U5 167 JA
theorem Nz:Qq0 V9:=am K3 (Qq2 K3 Tryz.func167 (by kernel_rfl) ajE (λx=>by kernel_rfl) rfl)
def aib:An:=.s (.g [.ug 0 (some 11) (some 1) aG [1547425049178923675150188670,3]]) (.gg [] [.pa])
def Jr:Ctr:=⟨⟨c38,[aU],0,[0],[⟨none,true,false⟩,⟨none,true,false⟩,⟨none,true,false⟩,⟨none,true,false⟩,⟨none,true,false⟩,⟨none,true,false⟩,⟨none,true,false⟩,⟨none,true,false⟩,⟨some 1870727804774333205280220053689557385530553472647298,false,false⟩,⟨some 3,false,false⟩,⟨some 360314358468706326,false,false⟩,⟨some 3,false,false⟩,⟨some 3,false,false⟩,⟨some 149,false,false⟩]⟩,λx=>bF x.1 x.2⟩
def Xx:Cx:=aD V9 131 Jr
theorem LF:Qq0 Xx:=am Nz (Qq2 Nz Tryz.func131 (by kernel_rfl) aib (λx=>by kernel_rfl) rfl)
def anS:An:=.z
def WN:Ctr:=⟨⟨[.d (.sc .bool)],[(.sc pi)],1,[],[]⟩,λx=>dv x⟩
def aew:Cx:=aD Xx 78 WN
theorem Qw:Qq0 aew:=am LF (Qq2 LF Tryz.func78 (by kernel_rfl) anS (λx=>by kernel_rfl) rfl)
def aka:An:=Qq1 5 (.j ⟨[0,2,1,7,9],[(11,.lf (.sc pi))],[],[]⟩ true .z .z)
def JM:Ctr:=⟨⟨c35,[(.sc .bool),aU],1,[0],[⟨none,true,false⟩,⟨none,true,false⟩,⟨none,true,false⟩,⟨none,true,false⟩,⟨none,true,false⟩,⟨none,true,false⟩,⟨none,true,false⟩,⟨none,true,false⟩,⟨some 1870727804774333205280220053689557385530553472647298,false,false⟩,⟨some 3,false,false⟩,⟨some 360314358468706326,false,false⟩,⟨some 3,false,false⟩,⟨some 3,false,false⟩,⟨some 149,false,false⟩]⟩,λx=>kP x.1 x.2.1 x.2.2⟩
def Jv:Cx:=aD aew 168 JM
theorem CN:Qq0 Jv:=am Qw (Qq2 Qw Tryz.func168 (by kernel_rfl) aka (λx=>by kernel_rfl) rfl)
def OG:An:=.z
noncomputable def AN:Cx:=dm Jv 130 (kL Jv Tryz.f130 OG)
theorem Ae:Qq0 AN:=bL CN (eA CN aw Tryz.func130 (by kernel_rfl) (by kernel_rfl) _)
def Ul:An:=.z
noncomputable def L3:Cx:=dm AN 53 (kL AN Tryz.f53 Ul)
theorem P6:Qq0 L3:=bL Ae (eA Ae aw Tryz.func53 (by kernel_rfl) (by kernel_rfl) _)
def ag7:An:=.s .z (.j ⟨[0,2,4],[],[(0,c20)],[]⟩ false (.s .z (.u (.j ⟨[0,2,4,16],[(23,.lf (.sc .bool))],[],[]⟩ true .z (.s (.s .z (.j ⟨[0,2,4],[(7,.lf (.sc pi))],[],[]⟩ true .z (.j ⟨[0,2,4],[(7,.lf (.sc pi))],[],[]⟩ true .z .z))) (.s .z (.s (.s .z (.s .z (.gg [.ug 0 (some 11) (some 2) aG [1547425049178923675150188670,3],.uh 0 11 0 cG [3]] [.pa,.pa]))) (Qq1 5 (.s (.s .z (.s .z (.s (.k [2000000] [.ug 0 (some 11) (some 2) aG [1547425049178923675150188670,3]] [.pa]) .z))) (.s .z (.s (.s (.g [.ug 0 (some 11) (some 2) aG [1547425049178923675150188670,3]]) (.s (.gg [] [.pa]) .z)) .z)))))))))) .z)
def I5:Ctr:=⟨⟨c37,[(.sc .bool),aU],1,[0],[⟨none,true,true⟩,⟨none,true,true⟩,⟨none,true,true⟩,⟨none,true,true⟩,⟨none,true,true⟩,⟨none,true,true⟩,⟨none,true,true⟩,⟨none,true,true⟩,⟨some 1870727804774333205280220053689557385530553472647298,false,false⟩,⟨some 3,false,false⟩,⟨some 360314358468706326,false,false⟩,⟨some 3,false,false⟩,⟨some 3,false,false⟩,⟨some 149,false,false⟩]⟩,λx=>f0 x.1 x.2.1 x.2.2⟩
def Va:Cx:=aD Jv 107 I5
theorem MP:Qq0 Va:=am CN (Qq2 P6 Tryz.func107 (by kernel_rfl) ag7 (λx=>by kernel_rfl) rfl)
def aqs:An:=.s .z (.u (.l ⟨[0,1],[(4,.lf (.sc pi))],[(0,c20)],[]⟩ .z))
def SP:Ctr:=⟨⟨c38,[aU],0,[0],[⟨none,true,true⟩,⟨none,true,true⟩,⟨none,true,true⟩,⟨none,true,true⟩,⟨none,true,true⟩,⟨none,true,true⟩,⟨none,true,true⟩,⟨none,true,true⟩,⟨some 1870727804774333205280220053689557385530553472647298,false,false⟩,⟨some 3,false,false⟩,⟨some 360314358468706326,false,false⟩,⟨some 3,false,false⟩,⟨some 3,false,false⟩,⟨some 149,false,false⟩]⟩,λx=>fL x.1 x.2⟩
def aeJ:Cx:=aD Va 54 SP
theorem Sc:Qq0 aeJ:=am MP (Qq2 MP Tryz.func54 (by kernel_rfl) aqs (λx=>by kernel_rfl) rfl)
def ajl:An:=.s .z (.s .z (.j ⟨[0],[(3,.lf (.own (.sc .str) 9 false []))],[],[]⟩ true (.s .z (.u (.l ⟨[0],[(3,.lf (.own (.sc .str) 9 false [])),(4,.lf (.sc pi))],[],[]⟩ .z))) .z))
def JV:Ctr:=⟨⟨[.d (.slice aB)],[(.slice (.sc .str))],1,[],[⟨some 9,false,false⟩]⟩,λx=>dt x⟩
def S6:Cx:=aD aeJ 162 JV
theorem Nt:Qq0 S6:=am Sc (Qq2 Sc Tryz.func162 (by kernel_rfl) ajl (λx=>by kernel_rfl) rfl)
def agL:An:=.s .z (.j ⟨[0],[],[],[]⟩ false (.s .z (.u (.l ⟨[0],[(3,.lf (.sc pi))],[],[]⟩ .z))) .z)
def Kg:Ctr:=⟨⟨[.d (.slice (.sc .str))],[(.sc .bool)],1,[],[]⟩,λx=>dI x⟩
def Wm:Cx:=aD S6 161 Kg
theorem KT:Qq0 Wm:=am Nt (Qq2 Nt Tryz.func161 (by kernel_rfl) agL (λx=>by kernel_rfl) rfl)
def ajf:An:=Qq1 3 (.j ⟨[1,3],[],[],[]⟩ false (.s .z (.u (.l ⟨[1,3],[(4,.lf (.sc pi))],[],[]⟩ (.s .z (.j ⟨[1,3,4],[],[],[]⟩ false (.u (.s .z (.j ⟨[1,3,4],[(5,.lf (.sc pi))],[],[]⟩ true .z .z))) .z))))) (.j ⟨[1],[],[],[]⟩ false (.s .z (.u (.l ⟨[1],[(6,.lf (.sc pi))],[],[]⟩ .z))) .z))
def I7:Ctr:=⟨⟨[.d bB],[(.sc .bool)],1,[],[]⟩,λx=>lC x⟩
def Xc:Cx:=aD Wm 102 I7
theorem LU:Qq0 Xc:=am KT (Qq2 KT Tryz.func102 (by kernel_rfl) ajf (λx=>by kernel_rfl) rfl)
def agC:An:=.s .z (.s .z (.j ⟨[1,2],[(5,.lf (.sc pi))],[],[]⟩ true (.s .z (.u (.l ⟨[1,2],[(5,.lf (.sc pi)),(6,.lf (.sc pi))],[],[]⟩ (.s .z (.j ⟨[1,2,6],[(5,.lf (.sc pi))],[],[]⟩ true .z .z))))) .z))
def H4:Ctr:=⟨⟨[.d bB,.d (.sc pi)],[(.sc pi)],1,[],[]⟩,λx=>oP x.1 x.2⟩
def SG:Cx:=aD Xc 163 H4
theorem M5:Qq0 SG:=am LU (Qq2 LU Tryz.func163 (by kernel_rfl) agC (λx=>by kernel_rfl) rfl)
def aiQ:An:=.z
def Js:Ctr:=⟨⟨[.d (.sc pi)],[(.sc pi)],1,[],[]⟩,λx=>jY x⟩
def W6:Cx:=aD SG 164 Js
theorem OQ:Qq0 W6:=am M5 (Qq2 M5 Tryz.func164 (by kernel_rfl) aiQ (λx=>by kernel_rfl) rfl)
def ah6:An:=.z
def Ik:Ctr:=⟨⟨[.d (.sc pi),.d (.sc pi),.d (.sc pi)],[(.sc .bool)],1,[],[]⟩,λx=>bJ x.1 x.2.1 x.2.2⟩
def WO:Cx:=aD W6 165 Ik
theorem Mm:Qq0 WO:=am OQ (Qq2 OQ Tryz.func165 (by kernel_rfl) ah6 (λx=>by kernel_rfl) rfl)
def ah9:An:=Qq1 5 (.j ⟨[1,2,5,6],[(7,.lf (.sc pi))],[],[]⟩ true .z (.s .z (.s .z (.s .z (.j ⟨[2,5,6,7,9],[],[],[]⟩ false (.s .z (.u (.j ⟨[2,5,6,7,9,107],[(108,.lf (.sc .bool))],[],[]⟩ true .z (.s .z (.j ⟨[2,5,6,7,9,107],[(116,.lf (.sc .bool))],[],[]⟩ true .z (.s .z (.j ⟨[2,5,6,9,107],[(129,.lf (.sc .bool))],[],[]⟩ true .z (.s .z (.s .z (.s .z (.s .z (.s .z (.j ⟨[2,5,9,107],[(155,.lf (.sc .bool))],[],[]⟩ true .z (.s .z (.s .z (.s .z (.s .z (.s .z (.j ⟨[2,5,9,107],[(189,.lf (.sc .bool))],[],[]⟩ true .z .z))))))))))))))))))) .z)))))
def JU:Ctr:=⟨⟨[.d bB,.d (.sc pi)],[(.sc .bool)],1,[],[]⟩,λx=>mK x.1 x.2⟩
def V5:Cx:=aD WO 103 JU
theorem Ov:Qq0 V5:=am Mm (Qq2 Mm Tryz.func103 (by kernel_rfl) ah9 (λx=>by kernel_rfl) rfl)
def apP:An:=Qq1 3 (.j ⟨[1],[],[],[]⟩ false (.s .z (.u (.l ⟨[1],[(4,.lf (.sc pi))],[],[]⟩ .z))) .z)
def SX:Ctr:=⟨⟨[.d bB],[(.sc pi),(.sc pi)],2,[],[]⟩,λx=>gK x⟩
def aeO:Cx:=aD V5 50 SX
theorem Ri:Qq0 aeO:=am Ov (Qq2 Ov Tryz.func50 (by kernel_rfl) apP (λx=>by kernel_rfl) rfl)
def ano:An:=.z
def TR:Ctr:=⟨⟨[.d fP],[(.sc .bool)],1,[],[]⟩,λx=>jb x⟩
def abO:Cx:=aD aeO 51 TR
theorem RL:Qq0 abO:=am Ri (Qq2 Ri Tryz.func51 (by kernel_rfl) ano (λx=>by kernel_rfl) rfl)
def aqD:An:=.s .z (.j ⟨[0,1],[],[],[]⟩ false (.s .z (.u (.l ⟨[0,1],[(6,.lf (.sc pi))],[],[]⟩ .z))) .z)
def Xg:Ctr:=⟨⟨[.d (.slice aB),.d (.sc .str)],[(.sc pi),(.sc .bool)],2,[],[]⟩,λx=>ky x.1 x.2⟩
def abg:Cx:=aD abO 52 Xg
theorem R5:Qq0 abg:=am RL (Qq2 RL Tryz.func52 (by kernel_rfl) aqD (λx=>by kernel_rfl) rfl)
def aiV:An:=.s .z (.s .z (.j ⟨[0,1],[(5,.lf (.own (.sc pi) 3 false []))],[],[]⟩ true (.s .z (.u (.l ⟨[0,1],[(5,.lf (.own (.sc pi) 3 false [])),(6,.lf (.sc pi))],[],[]⟩ (.s .z (.j ⟨[0,1,6],[(5,.lf (.own (.sc pi) 3 false []))],[],[]⟩ true .z .z))))) .z))
def JG:Ctr:=⟨⟨c48,[(.slice (.sc pi))],1,[],[⟨some 3,false,false⟩]⟩,λx=>dK x.1 x.2⟩
def WG:Cx:=aD abg 113 JG
theorem Lx:Qq0 WG:=am R5 (Qq2 R5 Tryz.func113 (by kernel_rfl) aiV (λx=>by kernel_rfl) rfl)
def ahd:An:=.z
def J5:Ctr:=⟨⟨c48,[(.sc .bool)],1,[],[]⟩,λx=>jz x.1 x.2⟩
def Vl:Cx:=aD WG 125 J5
theorem OV:Qq0 Vl:=am Lx (Qq2 Lx Tryz.func125 (by kernel_rfl) ahd (λx=>by kernel_rfl) rfl)
def apC:An:=.s .z (.s .z (.j ⟨[0],[(3,.lf (.own (.sc pi) 3 false []))],[],[]⟩ true (.s .z (.u (.l ⟨[0],[(3,.lf (.own (.sc pi) 3 false [])),(4,.lf (.sc pi))],[],[]⟩ (.s .z (.j ⟨[0,4],[(3,.lf (.own (.sc pi) 3 false []))],[],[]⟩ true .z .z))))) .z))
def TZ:Ctr:=⟨⟨[.box false aU []],[(.slice (.sc pi))],1,[],[⟨some 3,false,false⟩]⟩,λx=>eO x⟩
def abX:Cx:=aD Vl 67 TZ
theorem Rh:Qq0 abX:=am OV (Qq2 OV Tryz.func67 (by kernel_rfl) apC (λx=>by kernel_rfl) rfl)
def aqM:An:=Qq1 4 (.j ⟨[0],[(2,.lf (.sc pi))],[],[]⟩ true (.s .z (.u (.l ⟨[0],[(2,.lf (.sc pi)),(3,.lf (.sc pi))],[],[]⟩ (.s .z (.j ⟨[0,3],[(2,.lf (.sc pi))],[],[]⟩ true .z .z))))) .z)
def VX:Ctr:=⟨⟨[.box true aU [none,none,none,none,none,none,none,none,some 1870727804774333205280220053689557385530553472647298,some 3,some 360314358468706326,some 3,some 3,some 149]],[aU],0,[0],[⟨none,true,false⟩,⟨none,true,false⟩,⟨none,true,false⟩,⟨none,true,false⟩,⟨none,true,false⟩,⟨none,true,false⟩,⟨none,true,false⟩,⟨none,true,false⟩,⟨some 1870727804774333205280220053689557385530553472647298,false,false⟩,⟨some 3,false,false⟩,⟨some 360314358468706326,false,false⟩,⟨some 3,false,false⟩,⟨some 3,false,false⟩,⟨some 149,false,false⟩]⟩,λx=>fY x⟩
def XJ:Cx:=aD abX 55 VX
theorem Gf:Qq0 XJ:=am Rh (Qq2 Rh Tryz.func55 (by kernel_rfl) aqM (λx=>by kernel_rfl) rfl)
noncomputable def RY:Cx:=dm XJ 53 (kL XJ Tryz.f53 Ul)
theorem Uo:Qq0 RY:=bL Gf (eA Gf aw Tryz.func53 (by kernel_rfl) (by kernel_rfl) _)
def an0:An:=Qq1 6 (.j ⟨[2,3,6,10],[],[(10,c20)],[]⟩ true (.s .z (.u (.l ⟨[2,3,6,10],[(11,.lf (.sc pi))],[(10,c20)],[]⟩ (.s .z (.j ⟨[2,3,6,10,11],[],[(10,c16)],[]⟩ true (.u (.s .z (.j ⟨[2,3,6,10,11,13],[(12,.lf (.sc pi))],[],[]⟩ true .z .z))) .z))))) (.j ⟨[3,6,10,2],[],[(10,c16)],[]⟩ true (.s .z (.u (.l ⟨[2,3,6,10],[(14,.lf (.sc pi))],[(10,c16)],[]⟩ .z))) (.s .z (.j ⟨[3,6,10],[],[(10,c16)],[]⟩ true (.s .z (.u (.l ⟨[3,6,10],[(17,.lf (.sc pi))],[(10,c16)],[]⟩ .z))) .z))))
def Uv:Ctr:=⟨⟨[.d bB,.d fP,.d (.slice aB)],[br,(.sc pi)],2,[],[⟨some 1870727804774333205280220053689557385530553472647298,false,false⟩,⟨some 3,false,false⟩,⟨some 360314358468706326,false,false⟩,⟨some 3,false,false⟩,⟨some 3,false,false⟩]⟩,λx=>ma x.1 x.2.1 x.2.2⟩
def ab3:Cx:=aD XJ 14 Uv
theorem Q6:Qq0 ab3:=am Gf (Qq2 Uo Tryz.func14 (by kernel_rfl) an0 (λx=>by kernel_rfl) rfl)
def ais:An:=Qq1 3 (.j ⟨[2,3,4],[],[],[]⟩ false (.s .z (.u (.l ⟨[2,3,4],[(7,.lf (.sc pi))],[],[]⟩ .z))) .z)
def Jk:Ctr:=⟨⟨[.d bB,.d aG,.d (.sc .bool)],[(.sc .bool)],1,[],[]⟩,λx=>me x.1 x.2.1 x.2.2⟩
def XH:Cx:=aD ab3 210 Jk
theorem M7:Qq0 XH:=am Q6 (Qq2 Q6 Tryz.func210 (by kernel_rfl) ais (λx=>by kernel_rfl) rfl)
def agz:An:=.s .z (.s .z (.j ⟨[2,3],[],[],[]⟩ false (.s .z (.u (.l ⟨[2,3],[(5,.lf (.sc pi))],[],[]⟩ .z))) (.j ⟨[2,3],[],[],[]⟩ false (.s .z (.u (.l ⟨[2,3],[(6,.lf (.sc pi))],[],[]⟩ .z))) (.s .z (.j ⟨[2,3],[(7,.lf (.sc pi))],[],[]⟩ false (.s .z (.u (.l ⟨[2,3],[(7,.lf (.sc pi)),(8,.lf (.sc pi))],[],[]⟩ (.s .z (.j ⟨[2,3,8],[(7,.lf (.sc pi))],[],[]⟩ false .z .z))))) .z)))))
def JZ:Ctr:=⟨⟨[.d bB,.d br],[(.sc .bool)],1,[],[]⟩,λx=>lK x.1 x.2⟩
def Up:Cx:=aD XH 173 JZ
theorem Np:Qq0 Up:=am M7 (Qq2 M7 Tryz.func173 (by kernel_rfl) agz (λx=>by kernel_rfl) rfl)
def ajX:An:=.s .z (.j ⟨[0,1],[],[],[]⟩ false (.s .z (.u (.l ⟨[0,1],[(5,.lf (.sc pi))],[],[]⟩ .z))) .z)
def Jt:Ctr:=⟨⟨[.d (.slice (.sc pi)),.d (.sc pi)],[(.sc .bool)],1,[],[]⟩,λx=>oF x.1 x.2⟩
def XO:Cx:=aD Up 174 Jt
theorem LS:Qq0 XO:=am Np (Qq2 Np Tryz.func174 (by kernel_rfl) ajX (λx=>by kernel_rfl) rfl)
def ajJ:An:=.z
def Ic:Ctr:=⟨⟨[.d bB,.d br],[(.sc pi)],1,[],[]⟩,λx=>gO x.1 x.2⟩
def Wk:Cx:=aD XO 112 Ic
theorem Ml:Qq0 Wk:=am LS (Qq2 LS Tryz.func112 (by kernel_rfl) ajJ (λx=>by kernel_rfl) rfl)
def aoh:An:=.z
def Xs:Ctr:=⟨⟨[.d bB,.d fP,.d br],[(.sc pi)],1,[],[]⟩,λx=>dG x.1 x.2.1 x.2.2⟩
def afm:Cx:=aD Wk 59 Xs
theorem RK:Qq0 afm:=am Ml (Qq2 Ml Tryz.func59 (by kernel_rfl) aoh (λx=>by kernel_rfl) rfl)
def anD:An:=Qq1 3 (.j ⟨[0,2,3,4],[],[],[]⟩ false (.s .z (.s (.s .z (.j ⟨[2,5],[],[(5,c42)],[3]⟩ true (.s .z (.u (.l ⟨[2,3,5],[(6,.lf (.sc pi))],[(5,c42)],[]⟩ .z))) .z)) .z)) (.j ⟨[0,2],[(4,.lf (.sc pi))],[],[3]⟩ true .z (.s .z (.s .z (.s .z (.j ⟨[2,8,0,9],[],[(8,c42)],[]⟩ true (.s .z (.u (.s .z (.s (.s .z (.s .z (.s .z (.u (.l ⟨[2,8,9],[(10,.lf (.sc pi))],[(8,c42)],[]⟩ .z))))) (.s .z (.s (.s .z (.s .z (.s (.s .z (.s .z (.s .z (.u (.l ⟨[2,8,11],[(12,.lf (.sc pi))],[(8,c42)],[]⟩ .z))))) .z))) .z)))))) .z))))))
def TO:Ctr:=⟨⟨[.box false aU []],[nL],1,[],[⟨some 3,false,false⟩]⟩,λx=>eU x⟩
def ab6:Cx:=aD afm 60 TO
theorem RC:Qq0 ab6:=am RK (Qq2 RK Tryz.func60 (by kernel_rfl) anD (λx=>by kernel_rfl) rfl)
def apJ:An:=.z
def Ua:Ctr:=⟨⟨[.d (.sc pi)],[aQ],1,[],[]⟩,λx=>gM x⟩
def TB:Cx:=aD ab6 69 Ua
theorem FO:Qq0 TB:=am RC (Qq2 RC Tryz.func69 (by kernel_rfl) apJ (λx=>by kernel_rfl) rfl)
noncomputable def Pb:Cx:=dm TB 53 (kL TB Tryz.f53 Ul)
theorem PS:Qq0 Pb:=bL FO (eA FO aw Tryz.func53 (by kernel_rfl) (by kernel_rfl) _)
def aia:An:=Qq1 3 (.j ⟨[0,1,2,9],[(10,.lf (.sc pi))],[],[]⟩ true (.s .z (.u (.l ⟨[0,1,2,9],[(10,.lf (.sc pi)),(11,.lf (.sc pi))],[],[]⟩ (.s .z (.j ⟨[0,1,2,9,11],[(10,.lf (.sc pi))],[],[]⟩ true .z .z))))) .z)
def IT:Ctr:=⟨⟨c35,[(.slice (.sc pi)),(.slice aQ),(.sc .bool),aU],3,[0],[⟨some 3,false,false⟩,⟨some 149,false,false⟩,⟨none,true,false⟩,⟨none,true,false⟩,⟨none,true,false⟩,⟨none,true,false⟩,⟨none,true,false⟩,⟨none,true,false⟩,⟨none,true,false⟩,⟨none,true,false⟩,⟨some 1870727804774333205280220053689557385530553472647298,false,false⟩,⟨some 3,false,false⟩,⟨some 360314358468706326,false,false⟩,⟨some 3,false,false⟩,⟨some 3,false,false⟩,⟨some 149,false,false⟩]⟩,λx=>jp x.1 x.2.1 x.2.2⟩
def Jo:Cx:=aD TB 128 IT
theorem DL:Qq0 Jo:=am FO (Qq2 PS Tryz.func128 (by kernel_rfl) aia (λx=>by kernel_rfl) rfl)
noncomputable def AL:Cx:=dm Jo 130 (kL Jo Tryz.f130 OG)
theorem AO:Qq0 AL:=bL DL (eA DL aw Tryz.func130 (by kernel_rfl) (by kernel_rfl) _)
def aoB:An:=.z
noncomputable def Hi:Cx:=dm AL 104 (rR AL Tryz.f104 aoB [aR])
theorem Lv:Qq0 Hi:=bL AO (lY AO aw Tryz.func104 (by kernel_rfl) (by kernel_rfl) _ _)
def ah0:An:=Qq1 4 (.s (.s .z (.s (.s .z (.s (.gg [.ug 0 (some 13) (some 3) (.slice (.sc pi)) [3]] [.pa]) .z)) .z)) (.s .z (.s .z (.s (.gg [.ug 0 (some 11) (some 14) aG [1547425049178923675150188670,3],.uh 0 11 0 cG [3]] [.pa,.pa]) .z))))
def I2:Ctr:=⟨⟨[.box true aU [none,none,none,none,none,none,none,none,some 1870727804774333205280220053689557385530553472647298,some 3,some 360314358468706326,some 3,some 3,some 149],.d (.sc pi),.d (.sc pi),.d (.sc pi)],[(.slice (.sc pi)),(.slice aQ),(.sc .bool),aU],3,[0],[⟨some 3,false,false⟩,⟨some 149,false,false⟩,⟨none,true,false⟩,⟨none,true,false⟩,⟨none,true,false⟩,⟨none,true,false⟩,⟨none,true,false⟩,⟨none,true,false⟩,⟨none,true,false⟩,⟨none,true,false⟩,⟨some 1870727804774333205280220053689557385530553472647298,false,false⟩,⟨some 3,false,false⟩,⟨some 360314358468706326,false,false⟩,⟨some 3,false,false⟩,⟨some 3,false,false⟩,⟨some 149,false,false⟩]⟩,λx=>jP x.1 x.2.1 x.2.2.1 x.2.2.2⟩
def KC:Cx:=aD Jo 129 I2
theorem DB:Qq0 KC:=am DL (Qq2 Lv Tryz.func129 (by kernel_rfl) ah0 (λx=>by kernel_rfl) rfl)
noncomputable def N7:Cx:=dm KC 130 (kL KC Tryz.f130 OG)
theorem PJ:Qq0 N7:=bL DB (eA DB aw Tryz.func130 (by kernel_rfl) (by kernel_rfl) _)
def aqx:An:=Qq1 6 (.j ⟨[0,1,10,2,9],[(11,.lf (.own aQ 149 false [])),(12,.lf (.sc .bool))],[(0,c20)],[]⟩ false (.s .z (.u (.s .z (.s .z (.s .z (.s .z (.s .z (.s .z (.s .z (.s .z (.s .z (.s (.s .z (.s (.gg [.ug 0 (some 11) (some 1) aG [1547425049178923675150188670,3],.uh 0 11 0 cG [3]] [.pa,.pa]) (.gg [.ug 0 (some 13) (some 101) (.slice (.sc pi)) [3]] [.pa]))) (.s .z (.s .z (.s .z (.s .z (.s .z (.s (.gg [.ug 0 (some 11) (some 1) aG [1547425049178923675150188670,3],.uh 0 11 0 cG [3]] [.pa,.pa]) (.s .z (.s (.s .z (.s .z (.gg [.ug 0 (some 11) (some 1) aG [1547425049178923675150188670,3],.uh 0 11 0 cG [3]] [.pa,.pa]))) (.s .z (.s .z (.s .z (.s .z (.s .z (.s (.s .z (.gg [.ug 0 (some 11) (some 1) aG [1547425049178923675150188670,3],.uh 0 11 0 cG [3]] [.pa,.pa])) (.s (.gg [.ug 0 (some 11) (some 1) aG [1547425049178923675150188670,3]] [.pa]) (.j ⟨[0,1],[],[(0,c20)],[]⟩ true .z .z)))))))))))))))))))))))))))) (.j ⟨[0,10,11,12,1],[],[(0,[.rep aR true [1000000],.rep (.sc pi) true [1000000],.rep (.sc pi) true [1000000],.rep aB true [1000000],.rep aB true [1000000],.rep (.sc .str) true [1000000],.rep (.sc .str) true [1000000],.rep (.sc .str) true [1000000],.sc pi,.sc pi,.sc pi,.own aG 1870727804774333205280220053689557385530553472647298 false [],.own (.sc pi) 3 false [],.own (.slice (.sc pi)) 360314358468706326 false [],.own (.sc pi) 3 false [],.own (.sc pi) 3 false [],.sc pi,.sc pi,.sc pi,.sc pi,.sc pi,.sc pi,.sc pi,.sc pi,.sc .str,.own aQ 149 false []])],[]⟩ true .z .z))
def Tz:Ctr:=⟨⟨c35,[(.slice (.sc pi)),(.slice aQ),(.sc .bool),aU],3,[0],[⟨some 3,false,false⟩,⟨some 149,false,false⟩,⟨none,true,true⟩,⟨none,true,true⟩,⟨none,true,true⟩,⟨none,true,true⟩,⟨none,true,true⟩,⟨none,true,true⟩,⟨none,true,true⟩,⟨none,true,true⟩,⟨some 1870727804774333205280220053689557385530553472647298,false,false⟩,⟨some 3,false,false⟩,⟨some 360314358468706326,false,false⟩,⟨some 3,false,false⟩,⟨some 3,false,false⟩,⟨some 149,false,false⟩]⟩,λx=>iX x.1 x.2.1 x.2.2⟩
def abU:Cx:=aD KC 68 Tz
theorem RI:Qq0 abU:=am DB (Qq2 PJ Tryz.func68 (by kernel_rfl) aqx (λx=>by kernel_rfl) rfl)
def ahD:An:=.z
def H8:Ctr:=⟨⟨[.d aQ,.d aQ],[(.sc .bool)],1,[],[]⟩,λx=>jd x.1 x.2⟩
def Wt:Cx:=aD abU 133 H8
theorem On:Qq0 Wt:=am RI (Qq2 RI Tryz.func133 (by kernel_rfl) ahD (λx=>by kernel_rfl) rfl)
def aoN:An:=.s .z (.s .z (.j ⟨[0],[(3,.lf (.own aQ 149 false []))],[],[]⟩ true (.s .z (.u (.l ⟨[0],[(3,.lf (.own aQ 149 false [])),(4,.lf (.sc pi))],[],[]⟩ (.s .z (.j ⟨[0,4],[(3,.lf (.own aQ 149 false []))],[],[]⟩ true (.u (.s .z (.j ⟨[0,3,4],[(5,.lf (.sc pi))],[],[]⟩ true (.u (.l ⟨[0,3,4],[(5,.lf (.sc pi))],[],[]⟩ .z)) .z))) .z))))) .z))
def UG:Ctr:=⟨⟨[.d (.slice aQ)],[(.slice aQ)],1,[],[⟨some 149,false,false⟩]⟩,λx=>fe x⟩
def acC:Cx:=aD Wt 71 UG
theorem QC:Qq0 acC:=am On (Qq2 On Tryz.func71 (by kernel_rfl) aoN (λx=>by kernel_rfl) rfl)
end
end Go.Proofs.YtfhhiajfciblbaaGreatDoor
