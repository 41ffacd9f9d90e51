/- Laws for the row. No condition. -/
import Derived.Test.YtfhhiajfciblbaaGreatDoorCtB
namespace Go.Proofs.YtfhhiajfciblbaaGreatDoor
open Go.Sm
set_option maxRecDepth 100000
set_option linter.unusedSectionVars false
section
variable [Itr] [SortLaw]
def ah6:An:=Qq1 6 (.j ⟨[3,6,10,11],[],[(11,c16)],[]⟩ true (.s .z (.u (.l ⟨[3,6,10,11,43,44],[(45,.lf (.sc pi))],[(11,c16)],[]⟩ .z))) (.j ⟨[3,6,11,10],[],[(11,c12)],[]⟩ true (.s .z (.u (.l ⟨[3,6,10,11,68,69],[(70,.lf (.sc pi))],[(11,c12)],[]⟩ .z))) (.j ⟨[3,6,11],[],[(11,c12)],[]⟩ true (.s .z (.u (.l ⟨[3,6,11,91],[(92,.lf (.sc pi))],[(11,c12)],[]⟩ .z))) .z)))
def P5:Ctr:=⟨⟨[.d eX,.d fQ,.d (.slice az)],[dA,(.sc pi)],2,[],[⟨some 1870727804774333205280220053632888987722923590549622,false,false⟩,⟨some 3,false,false⟩,⟨none,true,true⟩,⟨some 3,false,false⟩,⟨some 3,false,false⟩]⟩,fun x=>pZ x.1 x.2.1 x.2.2⟩
def aaV:Cx:=aI Tx 12 P5
theorem NU:Qq0 aaV:=ai DA (Qq2 QG Tryz.func12 (by kernel_rfl) ah6 (fun x=>by kernel_rfl) rfl)
def ahg:An:=Qq1 3 (.j ⟨[1,2,3],[],[(3,c22)],[]⟩ true (.s .z (.u (.l ⟨[1,2,3],[(4,.lf (.sc pi))],[(3,c22)],[]⟩ (.s .z (.j ⟨[1,2,3,4],[],[(3,[.own aG 1870727804774333205280220053689557385530553472647298 false [],.rep (.sc pi) true [1000003],.rep (.slice (.sc pi)) true [1000003],.rep (.sc pi) true [1000003],.rep (.sc pi) true [1000003],.sc pi,.sc pi,.sc pi,.sc pi,.sc pi,.sc pi,.sc pi,.sc pi,.sc .str])],[]⟩ true (.u (.s .z (.s .z (.j ⟨[1,2,3,4,6,5],[],[(6,c37)],[]⟩ true (.s .z (.u (.l ⟨[1,2,3,4,5,6],[(7,.lf (.sc pi))],[(6,c37)],[]⟩ .z))) .z)))) .z))))) (.s .z (.s .z (.j ⟨[1,2,3],[],[(3,c18)],[]⟩ true (.s .z (.u (.l ⟨[1,2,3],[(8,.lf (.sc pi))],[(3,c18)],[]⟩ .z))) .z))))
def QE:Ctr:=⟨⟨[.d ce],[ce],1,[],[⟨some 1870727804774333205280220053689557385530553472647298,false,false⟩,⟨some 3,false,false⟩,⟨some 360314358468706326,false,false⟩,⟨some 3,false,false⟩,⟨some 3,false,false⟩]⟩,fun x=>fe x⟩
def XK:Cx:=aI aaV 58 QE
theorem Oy:Qq0 XK:=ai NU (Qq2 NU Tryz.func58 (by kernel_rfl) ahg (fun x=>by kernel_rfl) rfl)
def acm:An:=.z
def GA:Ctr:=⟨⟨c46,[aP],1,[],[]⟩,fun x=>bW x.1 x.2⟩
def SG:Cx:=aI XK 104 GA
theorem I0:Qq0 SG:=ai Oy (Qq2 Oy Tryz.func104 (by kernel_rfl) acm (fun x=>by kernel_rfl) rfl)
def adl:An:=.z
def Ht:Ctr:=⟨⟨[.d (.sc pi)],[(.sc .bool)],1,[],[]⟩,fun x=>nO x⟩
def SL:Cx:=aI SG 166 Ht
theorem JQ:Qq0 SL:=ai I0 (Qq2 I0 Tryz.func166 (by kernel_rfl) adl (fun x=>by kernel_rfl) rfl)
def acx:An:=.z
def GV:Ctr:=⟨⟨[.d aP,.d (.sc pi)],[(.sc .bool)],1,[],[]⟩,fun x=>go x.1 x.2⟩
def P3:Cx:=aI SL 105 GV
theorem IN:Qq0 P3:=ai JQ (Qq2 JQ Tryz.func105 (by kernel_rfl) acx (fun x=>by kernel_rfl) rfl)
def adm:An:=.s .z (.s .z (.u (Qq1 3 (.s (.j ⟨[0,4],[],[(0,c15)],[]⟩ true .z .z) .z))))
def Ge:Ctr:=⟨⟨c34,[aX],0,[0],[⟨none,true,true⟩,⟨none,true,true⟩,⟨none,true,true⟩,⟨none,true,true⟩,⟨none,true,true⟩,⟨none,true,true⟩,⟨none,true,true⟩,⟨none,true,true⟩,⟨some 1870727804774333205280220053689557385530553472647298,false,false⟩,⟨some 3,false,false⟩,⟨some 360314358468706326,false,false⟩,⟨some 3,false,false⟩,⟨some 3,false,false⟩,⟨some 149,false,false⟩]⟩,fun x=>gu x.1 x.2.1 x.2.2⟩
def Qc:Cx:=aI P3 106 Ge
theorem KS:Qq0 Qc:=ai IN (Qq2 IN Tryz.func106 (by kernel_rfl) adm (fun x=>by kernel_rfl) rfl)
def acQ:An:=.s .z (.s .z (.j ⟨[1,2],[(5,.lf (.sc pi))],[],[]⟩ true (.u (.l ⟨[1,2],[(5,.lf (.sc pi))],[],[]⟩ .z)) .z))
def Hk:Ctr:=⟨⟨[.d bB,.d (.sc pi)],[(.sc pi)],1,[],[]⟩,fun x=>ge x.1 x.2⟩
def S8:Cx:=aI Qc 132 Hk
theorem Lu:Qq0 S8:=ai KS (Qq2 KS Tryz.func132 (by kernel_rfl) acQ (fun x=>by kernel_rfl) rfl)
def ahO:An:=.z
def Sn:Ctr:=⟨⟨c32,[aX],0,[0],[⟨none,true,false⟩,⟨none,true,false⟩,⟨none,true,false⟩,⟨none,true,false⟩,⟨none,true,false⟩,⟨none,true,false⟩,⟨none,true,false⟩,⟨none,true,false⟩,⟨some 1870727804774333205280220053689557385530553472647298,false,false⟩,⟨some 3,false,false⟩,⟨some 360314358468706326,false,false⟩,⟨some 3,false,false⟩,⟨some 3,false,false⟩,⟨some 149,false,false⟩]⟩,fun x=>bV x.1 x.2.1 x.2.2⟩
def Xv:Cx:=aI S8 70 Sn
theorem Pl:Qq0 Xv:=ai Lu (Qq2 Lu Tryz.func70 (by kernel_rfl) ahO (fun x=>by kernel_rfl) rfl)
def adM:An:=.s .z (.s .z (.s (.k [2000000] [.ug 0 (some 11) (some 1) aG [1547425049178923675150188670,3]] [.pa]) .z))
def FZ:Ctr:=⟨⟨c32,[(.sc .bool),aX],1,[0],[⟨none,true,false⟩,⟨none,true,false⟩,⟨none,true,false⟩,⟨none,true,false⟩,⟨none,true,false⟩,⟨none,true,false⟩,⟨none,true,false⟩,⟨none,true,false⟩,⟨some 1870727804774333205280220053689557385530553472647298,false,false⟩,⟨some 3,false,false⟩,⟨some 360314358468706326,false,false⟩,⟨some 3,false,false⟩,⟨some 3,false,false⟩,⟨some 149,false,false⟩]⟩,fun x=>fB x.1 x.2.1 x.2.2⟩
def Q3:Cx:=aI Xv 126 FZ
theorem JO:Qq0 Q3:=ai Pl (Qq2 Pl Tryz.func126 (by kernel_rfl) adM (fun x=>by kernel_rfl) rfl)
def aby:An:=.s .z (.s (.g [.ug 0 (some 11) (some 1) aG [1547425049178923675150188670,3]]) (.s (.s .z (.s (.s .z (.g [.pa])) .z)) (Qq1 3 (.g [.pa]))))
def In:Ctr:=⟨⟨c35,[(.sc pi),(.sc .bool),aX],2,[0],[⟨none,true,false⟩,⟨none,true,false⟩,⟨none,true,false⟩,⟨none,true,false⟩,⟨none,true,false⟩,⟨none,true,false⟩,⟨none,true,false⟩,⟨none,true,false⟩,⟨some 1870727804774333205280220053689557385530553472647298,false,false⟩,⟨some 3,false,false⟩,⟨some 360314358468706326,false,false⟩,⟨some 3,false,false⟩,⟨some 3,false,false⟩,⟨some 149,false,false⟩]⟩,fun x=>cG x.1 x.2⟩
def PO:Cx:=aI Q3 127 In
theorem IY:Qq0 PO:=ai JO (Qq2 JO Tryz.func127 (by kernel_rfl) aby (fun x=>by kernel_rfl) rfl)
def adk:An:=.s (.g [.ug 0 (some 11) (some 1) aG [1547425049178923675150188670,3]]) (.gg [] [.pa])
def GI:Ctr:=⟨⟨c32,[aX],0,[0],[⟨none,true,false⟩,⟨none,true,false⟩,⟨none,true,false⟩,⟨none,true,false⟩,⟨none,true,false⟩,⟨none,true,false⟩,⟨none,true,false⟩,⟨none,true,false⟩,⟨some 1870727804774333205280220053689557385530553472647298,false,false⟩,⟨some 3,false,false⟩,⟨some 360314358468706326,false,false⟩,⟨some 3,false,false⟩,⟨some 3,false,false⟩,⟨some 149,false,false⟩]⟩,fun x=>gS x.1 x.2.1 x.2.2⟩
def Rb:Cx:=aI PO 167 GI
theorem Mo:Qq0 Rb:=ai IY (Qq2 IY Tryz.func167 (by kernel_rfl) adk (fun x=>by kernel_rfl) rfl)
def acR:An:=.s (.g [.ug 0 (some 11) (some 1) aG [1547425049178923675150188670,3]]) (.gg [] [.pa])
def Gy:Ctr:=⟨⟨c35,[aX],0,[0],[⟨none,true,false⟩,⟨none,true,false⟩,⟨none,true,false⟩,⟨none,true,false⟩,⟨none,true,false⟩,⟨none,true,false⟩,⟨none,true,false⟩,⟨none,true,false⟩,⟨some 1870727804774333205280220053689557385530553472647298,false,false⟩,⟨some 3,false,false⟩,⟨some 360314358468706326,false,false⟩,⟨some 3,false,false⟩,⟨some 3,false,false⟩,⟨some 149,false,false⟩]⟩,fun x=>bH x.1 x.2⟩
def Sq:Cx:=aI Rb 131 Gy
theorem KB:Qq0 Sq:=ai Mo (Qq2 Mo Tryz.func131 (by kernel_rfl) acR (fun x=>by kernel_rfl) rfl)
def aim:An:=.z
def SO:Ctr:=⟨⟨[.d (.sc .bool)],[(.sc pi)],1,[],[]⟩,fun x=>eE x⟩
def aaw:Cx:=aI Sq 78 SO
theorem NK:Qq0 aaw:=ai KB (Qq2 KB Tryz.func78 (by kernel_rfl) aim (fun x=>by kernel_rfl) rfl)
def adp:An:=Qq1 5 (.j ⟨[0,2,1,7,9],[(11,.lf (.sc pi))],[],[]⟩ true .z .z)
def H2:Ctr:=⟨⟨c32,[(.sc .bool),aX],1,[0],[⟨none,true,false⟩,⟨none,true,false⟩,⟨none,true,false⟩,⟨none,true,false⟩,⟨none,true,false⟩,⟨none,true,false⟩,⟨none,true,false⟩,⟨none,true,false⟩,⟨some 1870727804774333205280220053689557385530553472647298,false,false⟩,⟨some 3,false,false⟩,⟨some 360314358468706326,false,false⟩,⟨some 3,false,false⟩,⟨some 3,false,false⟩,⟨some 149,false,false⟩]⟩,fun x=>kp x.1 x.2.1 x.2.2⟩
def GE:Cx:=aI aaw 168 H2
theorem BG:Qq0 GE:=ai NK (Qq2 NK Tryz.func168 (by kernel_rfl) adp (fun x=>by kernel_rfl) rfl)
def L5:An:=.z
noncomputable def zd:Cx:=da GE 130 (kM GE Tryz.f130 L5)
theorem yV:Qq0 zd:=bN BG (eC BG au Tryz.func130 (by kernel_rfl) (by kernel_rfl) _)
def PY:An:=.z
noncomputable def Is:Cx:=da zd 53 (kM zd Tryz.f53 PY)
theorem M6:Qq0 Is:=bN yV (eC yV au Tryz.func53 (by kernel_rfl) (by kernel_rfl) _)
def abR:An:=.s .z (.j ⟨[0,2,4],[],[(0,c15)],[]⟩ false (.s .z (.u (.j ⟨[0,2,4,16],[(23,.lf (.sc .bool))],[],[]⟩ true .z (.s (.s .z (.j ⟨[0,2,4],[(7,.lf (.sc pi))],[],[]⟩ true .z (.j ⟨[0,2,4],[(7,.lf (.sc pi))],[],[]⟩ true .z .z))) (.s .z (.s (.s .z (.s .z (.gg [.ug 0 (some 11) (some 2) aG [1547425049178923675150188670,3],.uh 0 11 0 co [3]] [.pa,.pa]))) (Qq1 5 (.s (.s .z (.s .z (.s (.k [2000000] [.ug 0 (some 11) (some 2) aG [1547425049178923675150188670,3]] [.pa]) .z))) (.s .z (.s (.s (.g [.ug 0 (some 11) (some 2) aG [1547425049178923675150188670,3]]) (.s (.gg [] [.pa]) .z)) .z)))))))))) .z)
def H9:Ctr:=⟨⟨c34,[(.sc .bool),aX],1,[0],[⟨none,true,true⟩,⟨none,true,true⟩,⟨none,true,true⟩,⟨none,true,true⟩,⟨none,true,true⟩,⟨none,true,true⟩,⟨none,true,true⟩,⟨none,true,true⟩,⟨some 1870727804774333205280220053689557385530553472647298,false,false⟩,⟨some 3,false,false⟩,⟨some 360314358468706326,false,false⟩,⟨some 3,false,false⟩,⟨some 3,false,false⟩,⟨some 149,false,false⟩]⟩,fun x=>ga x.1 x.2.1 x.2.2⟩
def RV:Cx:=aI GE 107 H9
theorem LG:Qq0 RV:=ai BG (Qq2 M6 Tryz.func107 (by kernel_rfl) abR (fun x=>by kernel_rfl) rfl)
def aiX:An:=.s .z (.u (.l ⟨[0,1],[(4,.lf (.sc pi))],[(0,c15)],[]⟩ .z))
def QA:Ctr:=⟨⟨c35,[aX],0,[0],[⟨none,true,true⟩,⟨none,true,true⟩,⟨none,true,true⟩,⟨none,true,true⟩,⟨none,true,true⟩,⟨none,true,true⟩,⟨none,true,true⟩,⟨none,true,true⟩,⟨some 1870727804774333205280220053689557385530553472647298,false,false⟩,⟨some 3,false,false⟩,⟨some 360314358468706326,false,false⟩,⟨some 3,false,false⟩,⟨some 3,false,false⟩,⟨some 149,false,false⟩]⟩,fun x=>fT x.1 x.2⟩
def Zl:Cx:=aI RV 54 QA
theorem Oq:Qq0 Zl:=ai LG (Qq2 LG Tryz.func54 (by kernel_rfl) aiX (fun x=>by kernel_rfl) rfl)
def acb:An:=.s .z (.s .z (.j ⟨[0],[(3,.lf (.own (.sc .str) 9 false []))],[],[]⟩ true (.s .z (.u (.l ⟨[0],[(3,.lf (.own (.sc .str) 9 false [])),(4,.lf (.sc pi))],[],[]⟩ .z))) .z))
def G7:Ctr:=⟨⟨[.d (.slice az)],[(.slice (.sc .str))],1,[],[⟨some 9,false,false⟩]⟩,fun x=>dw x⟩
def RB:Cx:=aI Zl 162 G7
theorem Mj:Qq0 RB:=ai Oq (Qq2 Oq Tryz.func162 (by kernel_rfl) acb (fun x=>by kernel_rfl) rfl)
def abx:An:=.s .z (.j ⟨[0],[],[],[]⟩ false (.s .z (.u (.l ⟨[0],[(3,.lf (.sc pi))],[],[]⟩ .z))) .z)
def H5:Ctr:=⟨⟨[.d (.slice (.sc .str))],[(.sc .bool)],1,[],[]⟩,fun x=>dN x⟩
def R7:Cx:=aI RB 161 H5
theorem KP:Qq0 R7:=ai Mj (Qq2 Mj Tryz.func161 (by kernel_rfl) abx (fun x=>by kernel_rfl) rfl)
def ab5:An:=Qq1 3 (.j ⟨[1,3],[],[],[]⟩ false (.s .z (.u (.l ⟨[1,3],[(4,.lf (.sc pi))],[],[]⟩ (.s .z (.j ⟨[1,3,4],[],[],[]⟩ false (.u (.s .z (.j ⟨[1,3,4],[(5,.lf (.sc pi))],[],[]⟩ true .z .z))) .z))))) (.j ⟨[1],[],[],[]⟩ false (.s .z (.u (.l ⟨[1],[(6,.lf (.sc pi))],[],[]⟩ .z))) .z))
def Hn:Ctr:=⟨⟨[.d bB],[(.sc .bool)],1,[],[]⟩,fun x=>lw x⟩
def P4:Cx:=aI R7 102 Hn
theorem L8:Qq0 P4:=ai KP (Qq2 KP Tryz.func102 (by kernel_rfl) ab5 (fun x=>by kernel_rfl) rfl)
def acZ:An:=.s .z (.s .z (.j ⟨[1,2],[(5,.lf (.sc pi))],[],[]⟩ true (.s .z (.u (.l ⟨[1,2],[(5,.lf (.sc pi)),(6,.lf (.sc pi))],[],[]⟩ (.s .z (.j ⟨[1,2,6],[(5,.lf (.sc pi))],[],[]⟩ true .z .z))))) .z))
def G2:Ctr:=⟨⟨[.d bB,.d (.sc pi)],[(.sc pi)],1,[],[]⟩,fun x=>oA x.1 x.2⟩
def R3:Cx:=aI P4 163 G2
theorem IV:Qq0 R3:=ai L8 (Qq2 L8 Tryz.func163 (by kernel_rfl) acZ (fun x=>by kernel_rfl) rfl)
def acM:An:=.z
def F7:Ctr:=⟨⟨[.d (.sc pi)],[(.sc pi)],1,[],[]⟩,fun x=>jS x⟩
def Rd:Cx:=aI R3 164 F7
theorem L1:Qq0 Rd:=ai IV (Qq2 IV Tryz.func164 (by kernel_rfl) acM (fun x=>by kernel_rfl) rfl)
def abG:An:=.z
def Gl:Ctr:=⟨⟨[.d (.sc pi),.d (.sc pi),.d (.sc pi)],[(.sc .bool)],1,[],[]⟩,fun x=>bL x.1 x.2.1 x.2.2⟩
def RG:Cx:=aI Rd 165 Gl
theorem Mt:Qq0 RG:=ai L1 (Qq2 L1 Tryz.func165 (by kernel_rfl) abG (fun x=>by kernel_rfl) rfl)
def abA:An:=Qq1 5 (.j ⟨[1,2,5,6],[(7,.lf (.sc pi))],[],[]⟩ true .z (.s .z (.s .z (.s .z (.j ⟨[2,5,6,7,9],[],[],[]⟩ false (.s .z (.u (.j ⟨[2,5,6,7,9,107],[(108,.lf (.sc .bool))],[],[]⟩ true .z (.s .z (.j ⟨[2,5,6,7,9,107],[(116,.lf (.sc .bool))],[],[]⟩ true .z (.s .z (.j ⟨[2,5,6,9,107],[(129,.lf (.sc .bool))],[],[]⟩ true .z (.s .z (.s .z (.s .z (.s .z (.s .z (.j ⟨[2,5,9,107],[(155,.lf (.sc .bool))],[],[]⟩ true .z (.s .z (.s .z (.s .z (.s .z (.s .z (.j ⟨[2,5,9,107],[(189,.lf (.sc .bool))],[],[]⟩ true .z .z))))))))))))))))))) .z)))))
def Il:Ctr:=⟨⟨[.d bB,.d (.sc pi)],[(.sc .bool)],1,[],[]⟩,fun x=>mJ x.1 x.2⟩
def RU:Cx:=aI RG 103 Il
theorem KX:Qq0 RU:=ai Mt (Qq2 Mt Tryz.func103 (by kernel_rfl) abA (fun x=>by kernel_rfl) rfl)
def ajd:An:=Qq1 3 (.j ⟨[1],[],[],[]⟩ false (.s .z (.u (.l ⟨[1],[(4,.lf (.sc pi))],[],[]⟩ .z))) .z)
def Rv:Ctr:=⟨⟨[.d bB],[(.sc pi),(.sc pi)],2,[],[]⟩,fun x=>gQ x⟩
def ZH:Cx:=aI RU 50 Rv
theorem Ol:Qq0 ZH:=ai KX (Qq2 KX Tryz.func50 (by kernel_rfl) ajd (fun x=>by kernel_rfl) rfl)
def ajc:An:=.z
def SQ:Ctr:=⟨⟨[.d fQ],[(.sc .bool)],1,[],[]⟩,fun x=>i8 x⟩
def aam:Cx:=aI ZH 51 SQ
theorem Pe:Qq0 aam:=ai Ol (Qq2 Ol Tryz.func51 (by kernel_rfl) ajc (fun x=>by kernel_rfl) rfl)
def aic:An:=.s .z (.j ⟨[0,1],[],[],[]⟩ false (.s .z (.u (.l ⟨[0,1],[(6,.lf (.sc pi))],[],[]⟩ .z))) .z)
def PN:Ctr:=⟨⟨[.d (.slice az),.d (.sc .str)],[(.sc pi),(.sc .bool)],2,[],[]⟩,fun x=>kh x.1 x.2⟩
def Xc:Cx:=aI aam 52 PN
theorem NT:Qq0 Xc:=ai Pe (Qq2 Pe Tryz.func52 (by kernel_rfl) aic (fun x=>by kernel_rfl) rfl)
def acI:An:=.s .z (.s .z (.j ⟨[0,1],[(5,.lf (.own (.sc pi) 3 false []))],[],[]⟩ true (.s .z (.u (.l ⟨[0,1],[(5,.lf (.own (.sc pi) 3 false [])),(6,.lf (.sc pi))],[],[]⟩ (.s .z (.j ⟨[0,1,6],[(5,.lf (.own (.sc pi) 3 false []))],[],[]⟩ true .z .z))))) .z))
def Ib:Ctr:=⟨⟨c46,[(.slice (.sc pi))],1,[],[⟨some 3,false,false⟩]⟩,fun x=>dP x.1 x.2⟩
def Ss:Cx:=aI Xc 113 Ib
theorem Ko:Qq0 Ss:=ai NT (Qq2 NT Tryz.func113 (by kernel_rfl) acI (fun x=>by kernel_rfl) rfl)
def adR:An:=.z
def Gp:Ctr:=⟨⟨c46,[(.sc .bool)],1,[],[]⟩,fun x=>jo x.1 x.2⟩
def Pz:Cx:=aI Ss 125 Gp
theorem KR:Qq0 Pz:=ai Ko (Qq2 Ko Tryz.func125 (by kernel_rfl) adR (fun x=>by kernel_rfl) rfl)
def ahL:An:=.s .z (.s .z (.j ⟨[0],[(3,.lf (.own (.sc pi) 3 false []))],[],[]⟩ true (.s .z (.u (.l ⟨[0],[(3,.lf (.own (.sc pi) 3 false [])),(4,.lf (.sc pi))],[],[]⟩ (.s .z (.j ⟨[0,4],[(3,.lf (.own (.sc pi) 3 false []))],[],[]⟩ true .z .z))))) .z))
def Ts:Ctr:=⟨⟨[.box false aX []],[(.slice (.sc pi))],1,[],[⟨some 3,false,false⟩]⟩,fun x=>eJ x⟩
def YY:Cx:=aI Pz 67 Ts
theorem NB:Qq0 YY:=ai KR (Qq2 KR Tryz.func67 (by kernel_rfl) ahL (fun x=>by kernel_rfl) rfl)
def ahC:An:=Qq1 4 (.j ⟨[0],[(2,.lf (.sc pi))],[],[]⟩ true (.s .z (.u (.l ⟨[0],[(2,.lf (.sc pi)),(3,.lf (.sc pi))],[],[]⟩ (.s .z (.j ⟨[0,3],[(2,.lf (.sc pi))],[],[]⟩ true .z .z))))) .z)
def Q0:Ctr:=⟨⟨[.box true aX [none,none,none,none,none,none,none,none,some 1870727804774333205280220053689557385530553472647298,some 3,some 360314358468706326,some 3,some 3,some 149]],[aX],0,[0],[⟨none,true,false⟩,⟨none,true,false⟩,⟨none,true,false⟩,⟨none,true,false⟩,⟨none,true,false⟩,⟨none,true,false⟩,⟨none,true,false⟩,⟨none,true,false⟩,⟨some 1870727804774333205280220053689557385530553472647298,false,false⟩,⟨some 3,false,false⟩,⟨some 360314358468706326,false,false⟩,⟨some 3,false,false⟩,⟨some 3,false,false⟩,⟨some 149,false,false⟩]⟩,fun x=>f8 x⟩
def S3:Cx:=aI YY 55 Q0
theorem D4:Qq0 S3:=ai NB (Qq2 NB Tryz.func55 (by kernel_rfl) ahC (fun x=>by kernel_rfl) rfl)
noncomputable def OC:Cx:=da S3 53 (kM S3 Tryz.f53 PY)
theorem Su:Qq0 OC:=bN D4 (eC D4 au Tryz.func53 (by kernel_rfl) (by kernel_rfl) _)
def ajA:An:=Qq1 6 (.j ⟨[2,3,6,10],[],[(10,c15)],[]⟩ true (.s .z (.u (.l ⟨[2,3,6,10],[(11,.lf (.sc pi))],[(10,c15)],[]⟩ (.s .z (.j ⟨[2,3,6,10,11],[],[(10,c11)],[]⟩ true (.u (.s .z (.j ⟨[2,3,6,10,11,13],[(12,.lf (.sc pi))],[],[]⟩ true .z .z))) .z))))) (.j ⟨[3,6,10,2],[],[(10,c11)],[]⟩ true (.s .z (.u (.l ⟨[2,3,6,10],[(14,.lf (.sc pi))],[(10,c11)],[]⟩ .z))) (.s .z (.j ⟨[3,6,10],[],[(10,c11)],[]⟩ true (.s .z (.u (.l ⟨[3,6,10],[(17,.lf (.sc pi))],[(10,c11)],[]⟩ .z))) .z))))
def PR:Ctr:=⟨⟨[.d bB,.d fQ,.d (.slice az)],[ce,(.sc pi)],2,[],[⟨some 1870727804774333205280220053689557385530553472647298,false,false⟩,⟨some 3,false,false⟩,⟨some 360314358468706326,false,false⟩,⟨some 3,false,false⟩,⟨some 3,false,false⟩]⟩,fun x=>lW x.1 x.2.1 x.2.2⟩
def XY:Cx:=aI S3 14 PR
theorem Pc:Qq0 XY:=ai D4 (Qq2 Su Tryz.func14 (by kernel_rfl) ajA (fun x=>by kernel_rfl) rfl)
def ab6:An:=Qq1 3 (.j ⟨[2,3,4],[],[],[]⟩ false (.s .z (.u (.l ⟨[2,3,4],[(7,.lf (.sc pi))],[],[]⟩ .z))) .z)
def Gk:Ctr:=⟨⟨[.d bB,.d aG,.d (.sc .bool)],[(.sc .bool)],1,[],[]⟩,fun x=>lZ x.1 x.2.1 x.2.2⟩
def Ra:Cx:=aI XY 210 Gk
theorem Ji:Qq0 Ra:=ai Pc (Qq2 Pc Tryz.func210 (by kernel_rfl) ab6 (fun x=>by kernel_rfl) rfl)
def acL:An:=.s .z (.s .z (.j ⟨[2,3],[],[],[]⟩ false (.s .z (.u (.l ⟨[2,3],[(5,.lf (.sc pi))],[],[]⟩ .z))) (.j ⟨[2,3],[],[],[]⟩ false (.s .z (.u (.l ⟨[2,3],[(6,.lf (.sc pi))],[],[]⟩ .z))) (.s .z (.j ⟨[2,3],[(7,.lf (.sc pi))],[],[]⟩ false (.s .z (.u (.l ⟨[2,3],[(7,.lf (.sc pi)),(8,.lf (.sc pi))],[],[]⟩ (.s .z (.j ⟨[2,3,8],[(7,.lf (.sc pi))],[],[]⟩ false .z .z))))) .z)))))
def Hp:Ctr:=⟨⟨[.d bB,.d ce],[(.sc .bool)],1,[],[]⟩,fun x=>lG x.1 x.2⟩
def PL:Cx:=aI Ra 173 Hp
theorem LA:Qq0 PL:=ai Ji (Qq2 Ji Tryz.func173 (by kernel_rfl) acL (fun x=>by kernel_rfl) rfl)
def aeh:An:=.s .z (.j ⟨[0,1],[],[],[]⟩ false (.s .z (.u (.l ⟨[0,1],[(5,.lf (.sc pi))],[],[]⟩ .z))) .z)
def G6:Ctr:=⟨⟨[.d (.slice (.sc pi)),.d (.sc pi)],[(.sc .bool)],1,[],[]⟩,fun x=>oy x.1 x.2⟩
def Pv:Cx:=aI PL 174 G6
theorem I7:Qq0 Pv:=ai LA (Qq2 LA Tryz.func174 (by kernel_rfl) aeh (fun x=>by kernel_rfl) rfl)
def aed:An:=.z
def HT:Ctr:=⟨⟨[.d bB,.d ce],[(.sc pi)],1,[],[]⟩,fun x=>ma x.1 x.2⟩
def Qk:Cx:=aI Pv 112 HT
theorem KW:Qq0 Qk:=ai I7 (Qq2 I7 Tryz.func112 (by kernel_rfl) aed (fun x=>by kernel_rfl) rfl)
def ai1:An:=.z
def PT:Ctr:=⟨⟨[.d bB,.d fQ,.d ce],[(.sc pi)],1,[],[]⟩,fun x=>eY x.1 x.2.1 x.2.2⟩
def aaf:Cx:=aI Qk 59 PT
theorem On:Qq0 aaf:=ai KW (Qq2 KW Tryz.func59 (by kernel_rfl) ai1 (fun x=>by kernel_rfl) rfl)
def aiM:An:=Qq1 3 (.j ⟨[0,2,3,4],[],[],[]⟩ false (.s .z (.s (.s .z (.j ⟨[2,5],[],[(5,c39)],[3]⟩ true (.s .z (.u (.l ⟨[2,3,5],[(6,.lf (.sc pi))],[(5,c39)],[]⟩ .z))) .z)) .z)) (.j ⟨[0,2],[(4,.lf (.sc pi))],[],[3]⟩ true .z (.s .z (.s .z (.s .z (.j ⟨[2,8,0,9],[],[(8,c39)],[]⟩ true (.s .z (.u (.s .z (.s (.s .z (.s .z (.s .z (.u (.l ⟨[2,8,9],[(10,.lf (.sc pi))],[(8,c39)],[]⟩ .z))))) (.s .z (.s (.s .z (.s .z (.s (.s .z (.s .z (.s .z (.u (.l ⟨[2,8,11],[(12,.lf (.sc pi))],[(8,c39)],[]⟩ .z))))) .z))) .z)))))) .z))))))
def Sx:Ctr:=⟨⟨[.box false aX []],[f6],1,[],[⟨some 3,false,false⟩]⟩,fun x=>eU x⟩
def XV:Cx:=aI aaf 60 Sx
theorem OT:Qq0 XV:=ai On (Qq2 On Tryz.func60 (by kernel_rfl) aiM (fun x=>by kernel_rfl) rfl)
def ajb:An:=.z
def R5:Ctr:=⟨⟨[.d (.sc pi)],[aL],1,[],[]⟩,fun x=>gL x⟩
def TO:Cx:=aI XV 69 R5
theorem DF:Qq0 TO:=ai OT (Qq2 OT Tryz.func69 (by kernel_rfl) ajb (fun x=>by kernel_rfl) rfl)
noncomputable def LJ:Cx:=da TO 53 (kM TO Tryz.f53 PY)
theorem MQ:Qq0 LJ:=bN DF (eC DF au Tryz.func53 (by kernel_rfl) (by kernel_rfl) _)
def ac6:An:=Qq1 3 (.j ⟨[0,1,2,9],[(10,.lf (.sc pi))],[],[]⟩ true (.s .z (.u (.l ⟨[0,1,2,9],[(10,.lf (.sc pi)),(11,.lf (.sc pi))],[],[]⟩ (.s .z (.j ⟨[0,1,2,9,11],[(10,.lf (.sc pi))],[],[]⟩ true .z .z))))) .z)
def GD:Ctr:=⟨⟨c32,[(.slice (.sc pi)),(.slice aL),(.sc .bool),aX],3,[0],[⟨some 3,false,false⟩,⟨some 149,false,false⟩,⟨none,true,false⟩,⟨none,true,false⟩,⟨none,true,false⟩,⟨none,true,false⟩,⟨none,true,false⟩,⟨none,true,false⟩,⟨none,true,false⟩,⟨none,true,false⟩,⟨some 1870727804774333205280220053689557385530553472647298,false,false⟩,⟨some 3,false,false⟩,⟨some 360314358468706326,false,false⟩,⟨some 3,false,false⟩,⟨some 3,false,false⟩,⟨some 149,false,false⟩]⟩,fun x=>jv x.1 x.2.1 x.2.2⟩
def Ig:Cx:=aI TO 128 GD
theorem Bd:Qq0 Ig:=ai DF (Qq2 MQ Tryz.func128 (by kernel_rfl) ac6 (fun x=>by kernel_rfl) rfl)
noncomputable def yO:Cx:=da Ig 130 (kM Ig Tryz.f130 L5)
theorem yv:Qq0 yO:=bN Bd (eC Bd au Tryz.func130 (by kernel_rfl) (by kernel_rfl) _)
def ahq:An:=.z
noncomputable def FA:Cx:=da yO 104 (rl yO Tryz.f104 ahq [aP])
theorem Jy:Qq0 FA:=bN yv (lU yv au Tryz.func104 (by kernel_rfl) (by kernel_rfl) _ _)
def abL:An:=Qq1 4 (.s (.s .z (.s (.s .z (.s (.gg [.ug 0 (some 13) (some 3) (.slice (.sc pi)) [3]] [.pa]) .z)) .z)) (.s .z (.s .z (.s (.gg [.ug 0 (some 11) (some 14) aG [1547425049178923675150188670,3],.uh 0 11 0 co [3]] [.pa,.pa]) .z))))
def G0:Ctr:=⟨⟨[.box true aX [none,none,none,none,none,none,none,none,some 1870727804774333205280220053689557385530553472647298,some 3,some 360314358468706326,some 3,some 3,some 149],.d (.sc pi),.d (.sc pi),.d (.sc pi)],[(.slice (.sc pi)),(.slice aL),(.sc .bool),aX],3,[0],[⟨some 3,false,false⟩,⟨some 149,false,false⟩,⟨none,true,false⟩,⟨none,true,false⟩,⟨none,true,false⟩,⟨none,true,false⟩,⟨none,true,false⟩,⟨none,true,false⟩,⟨none,true,false⟩,⟨none,true,false⟩,⟨some 1870727804774333205280220053689557385530553472647298,false,false⟩,⟨some 3,false,false⟩,⟨some 360314358468706326,false,false⟩,⟨some 3,false,false⟩,⟨some 3,false,false⟩,⟨some 149,false,false⟩]⟩,fun x=>jX x.1 x.2.1 x.2.2.1 x.2.2.2⟩
def Hg:Cx:=aI Ig 129 G0
theorem Bp:Qq0 Hg:=ai Bd (Qq2 Jy Tryz.func129 (by kernel_rfl) abL (fun x=>by kernel_rfl) rfl)
noncomputable def Lq:Cx:=da Hg 130 (kM Hg Tryz.f130 L5)
theorem M8:Qq0 Lq:=bN Bp (eC Bp au Tryz.func130 (by kernel_rfl) (by kernel_rfl) _)
def ajD:An:=Qq1 6 (.j ⟨[0,1,10,2,9],[(11,.lf (.own aL 149 false [])),(12,.lf (.sc .bool))],[(0,c15)],[]⟩ false (.s .z (.u (.s .z (.s .z (.s .z (.s .z (.s .z (.s .z (.s .z (.s .z (.s .z (.s (.s .z (.s (.gg [.ug 0 (some 11) (some 1) aG [1547425049178923675150188670,3],.uh 0 11 0 co [3]] [.pa,.pa]) (.gg [.ug 0 (some 13) (some 101) (.slice (.sc pi)) [3]] [.pa]))) (.s .z (.s .z (.s .z (.s .z (.s .z (.s (.gg [.ug 0 (some 11) (some 1) aG [1547425049178923675150188670,3],.uh 0 11 0 co [3]] [.pa,.pa]) (.s .z (.s (.s .z (.s .z (.gg [.ug 0 (some 11) (some 1) aG [1547425049178923675150188670,3],.uh 0 11 0 co [3]] [.pa,.pa]))) (.s .z (.s .z (.s .z (.s .z (.s .z (.s (.s .z (.gg [.ug 0 (some 11) (some 1) aG [1547425049178923675150188670,3],.uh 0 11 0 co [3]] [.pa,.pa])) (.s (.gg [.ug 0 (some 11) (some 1) aG [1547425049178923675150188670,3]] [.pa]) (.j ⟨[0,1],[],[(0,c15)],[]⟩ true .z .z)))))))))))))))))))))))))))) (.j ⟨[0,10,11,12,1],[],[(0,[.rep aP true [1000000],.rep (.sc pi) true [1000000],.rep (.sc pi) true [1000000],.rep az true [1000000],.rep az true [1000000],.rep (.sc .str) true [1000000],.rep (.sc .str) true [1000000],.rep (.sc .str) true [1000000],.sc pi,.sc pi,.sc pi,.own aG 1870727804774333205280220053689557385530553472647298 false [],.own (.sc pi) 3 false [],.own (.slice (.sc pi)) 360314358468706326 false [],.own (.sc pi) 3 false [],.own (.sc pi) 3 false [],.sc pi,.sc pi,.sc pi,.sc pi,.sc pi,.sc pi,.sc pi,.sc pi,.sc .str,.own aL 149 false []])],[]⟩ true .z .z))
def Rl:Ctr:=⟨⟨c32,[(.slice (.sc pi)),(.slice aL),(.sc .bool),aX],3,[0],[⟨some 3,false,false⟩,⟨some 149,false,false⟩,⟨none,true,true⟩,⟨none,true,true⟩,⟨none,true,true⟩,⟨none,true,true⟩,⟨none,true,true⟩,⟨none,true,true⟩,⟨none,true,true⟩,⟨none,true,true⟩,⟨some 1870727804774333205280220053689557385530553472647298,false,false⟩,⟨some 3,false,false⟩,⟨some 360314358468706326,false,false⟩,⟨some 3,false,false⟩,⟨some 3,false,false⟩,⟨some 149,false,false⟩]⟩,fun x=>iX x.1 x.2.1 x.2.2⟩
def Wv:Cx:=aI Hg 68 Rl
theorem OQ:Qq0 Wv:=ai Bp (Qq2 M8 Tryz.func68 (by kernel_rfl) ajD (fun x=>by kernel_rfl) rfl)
def adf:An:=.z
def H1:Ctr:=⟨⟨[.d aL,.d aL],[(.sc .bool)],1,[],[]⟩,fun x=>i9 x.1 x.2⟩
def QV:Cx:=aI Wv 133 H1
theorem J4:Qq0 QV:=ai OQ (Qq2 OQ Tryz.func133 (by kernel_rfl) adf (fun x=>by kernel_rfl) rfl)
def ahf:An:=.s .z (.s .z (.j ⟨[0],[(3,.lf (.own aL 149 false []))],[],[]⟩ true (.s .z (.u (.l ⟨[0],[(3,.lf (.own aL 149 false [])),(4,.lf (.sc pi))],[],[]⟩ (.s .z (.j ⟨[0,4],[(3,.lf (.own aL 149 false []))],[],[]⟩ true (.u (.s .z (.j ⟨[0,3,4],[(5,.lf (.sc pi))],[],[]⟩ true (.u (.l ⟨[0,3,4],[(5,.lf (.sc pi))],[],[]⟩ .z)) .z))) .z))))) .z))
def RZ:Ctr:=⟨⟨[.d (.slice aL)],[(.slice aL)],1,[],[⟨some 149,false,false⟩]⟩,fun x=>fg x⟩
def Zi:Cx:=aI QV 71 RZ
theorem Ov:Qq0 Zi:=ai J4 (Qq2 J4 Tryz.func71 (by kernel_rfl) ahf (fun x=>by kernel_rfl) rfl)
end
end Go.Proofs.YtfhhiajfciblbaaGreatDoor
