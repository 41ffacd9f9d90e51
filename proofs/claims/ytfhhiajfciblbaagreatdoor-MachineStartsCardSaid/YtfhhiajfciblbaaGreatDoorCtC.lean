/-
  The functions of the program compute what their Lean functions say. No condition.
-/
import Derived.Test.YtfhhiajfciblbaaGreatDoorCtB
namespace Go.Proofs.YtfhhiajfciblbaaGreatDoor
open Go.Sm
set_option maxRecDepth 100000
set_option linter.unusedSectionVars false
section
variable [Itr] [SortLaw]
def abh:An:=.s .z (.s .z (.s .z (.s .z (.s .z (.s .z (.j ⟨[3,6,10,11],[],[(11,[.rep aM true [], .rep (.sc (.int .i64)) true [], .rep (.sc (.int .i64)) true [], .rep au true [], .rep au true [], .rep (.sc .str) true [], .rep (.sc .str) true [], .rep (.sc .str) true [], .sc (.int .i64), .sc (.int .i64), .sc (.int .i64), .own aV 1870727804774333205280220053632888987722923590549622 false [], .own (.sc (.int .i64)) 3 false [], .own (.slice (.sc (.int .i64))) 360314358468706326 false [], .own (.sc (.int .i64)) 3 false [], .own (.sc (.int .i64)) 3 false [], .sc (.int .i64), .sc (.int .i64), .sc (.int .i64), .sc (.int .i64), .sc (.int .i64), .sc (.int .i64), .sc (.int .i64), .sc (.int .i64), .sc .str, .mp ae (.sc .bool)])],[]⟩ true (.s .z (.u (.l ⟨[3,6,10,11,43,44],[(45, .lf (.sc (.int .i64)))],[(11,[.rep aM true [], .rep (.sc (.int .i64)) true [], .rep (.sc (.int .i64)) true [], .rep au true [], .rep au true [], .rep (.sc .str) true [], .rep (.sc .str) true [], .rep (.sc .str) true [], .sc (.int .i64), .sc (.int .i64), .sc (.int .i64), .own aV 1870727804774333205280220053632888987722923590549622 false [], .own (.sc (.int .i64)) 3 false [], .own (.slice (.sc (.int .i64))) 360314358468706326 false [], .own (.sc (.int .i64)) 3 false [], .own (.sc (.int .i64)) 3 false [], .sc (.int .i64), .sc (.int .i64), .sc (.int .i64), .sc (.int .i64), .sc (.int .i64), .sc (.int .i64), .sc (.int .i64), .sc (.int .i64), .sc .str, .mp ae (.sc .bool)])],[]⟩ .z))) (.j ⟨[3,6,11,10],[],[(11,[.rep aM true [1000011], .rep (.sc (.int .i64)) true [1000011], .rep (.sc (.int .i64)) true [1000011], .rep au true [1000011], .rep au true [1000011], .rep (.sc .str) true [1000011], .rep (.sc .str) true [1000011], .rep (.sc .str) true [1000011], .sc (.int .i64), .sc (.int .i64), .sc (.int .i64), .own aV 1870727804774333205280220053632888987722923590549622 false [], .own (.sc (.int .i64)) 3 false [], .own (.slice (.sc (.int .i64))) 360314358468706326 false [], .own (.sc (.int .i64)) 3 false [], .own (.sc (.int .i64)) 3 false [], .sc (.int .i64), .sc (.int .i64), .sc (.int .i64), .sc (.int .i64), .sc (.int .i64), .sc (.int .i64), .sc (.int .i64), .sc (.int .i64), .sc .str, .mp ae (.sc .bool)])],[]⟩ true (.s .z (.u (.l ⟨[3,6,10,11,68,69],[(70, .lf (.sc (.int .i64)))],[(11,[.rep aM true [1000011], .rep (.sc (.int .i64)) true [1000011], .rep (.sc (.int .i64)) true [1000011], .rep au true [1000011], .rep au true [1000011], .rep (.sc .str) true [1000011], .rep (.sc .str) true [1000011], .rep (.sc .str) true [1000011], .sc (.int .i64), .sc (.int .i64), .sc (.int .i64), .own aV 1870727804774333205280220053632888987722923590549622 false [], .own (.sc (.int .i64)) 3 false [], .own (.slice (.sc (.int .i64))) 360314358468706326 false [], .own (.sc (.int .i64)) 3 false [], .own (.sc (.int .i64)) 3 false [], .sc (.int .i64), .sc (.int .i64), .sc (.int .i64), .sc (.int .i64), .sc (.int .i64), .sc (.int .i64), .sc (.int .i64), .sc (.int .i64), .sc .str, .mp ae (.sc .bool)])],[]⟩ .z))) (.j ⟨[3,6,11],[],[(11,[.rep aM true [1000011], .rep (.sc (.int .i64)) true [1000011], .rep (.sc (.int .i64)) true [1000011], .rep au true [1000011], .rep au true [1000011], .rep (.sc .str) true [1000011], .rep (.sc .str) true [1000011], .rep (.sc .str) true [1000011], .sc (.int .i64), .sc (.int .i64), .sc (.int .i64), .own aV 1870727804774333205280220053632888987722923590549622 false [], .own (.sc (.int .i64)) 3 false [], .own (.slice (.sc (.int .i64))) 360314358468706326 false [], .own (.sc (.int .i64)) 3 false [], .own (.sc (.int .i64)) 3 false [], .sc (.int .i64), .sc (.int .i64), .sc (.int .i64), .sc (.int .i64), .sc (.int .i64), .sc (.int .i64), .sc (.int .i64), .sc (.int .i64), .sc .str, .mp ae (.sc .bool)])],[]⟩ true (.s .z (.u (.l ⟨[3,6,11,91],[(92, .lf (.sc (.int .i64)))],[(11,[.rep aM true [1000011], .rep (.sc (.int .i64)) true [1000011], .rep (.sc (.int .i64)) true [1000011], .rep au true [1000011], .rep au true [1000011], .rep (.sc .str) true [1000011], .rep (.sc .str) true [1000011], .rep (.sc .str) true [1000011], .sc (.int .i64), .sc (.int .i64), .sc (.int .i64), .own aV 1870727804774333205280220053632888987722923590549622 false [], .own (.sc (.int .i64)) 3 false [], .own (.slice (.sc (.int .i64))) 360314358468706326 false [], .own (.sc (.int .i64)) 3 false [], .own (.sc (.int .i64)) 3 false [], .sc (.int .i64), .sc (.int .i64), .sc (.int .i64), .sc (.int .i64), .sc (.int .i64), .sc (.int .i64), .sc (.int .i64), .sc (.int .i64), .sc .str, .mp ae (.sc .bool)])],[]⟩ .z))) .z))))))))
def KN:Ctr:=⟨⟨[.d dX, .d eR, .d (.slice au)],[de,(.sc (.int .i64))],2,[],[⟨some 1870727804774333205280220053632888987722923590549622,false,false⟩,⟨some 3,false,false⟩,⟨none,true,true⟩,⟨some 3,false,false⟩,⟨some 3,false,false⟩]⟩,fun x=>lm x.1 x.2.1 x.2.2⟩
theorem Zy:KN.sound Tryz.prog 12:=am Nw aw Tryz.func12 (by kernel_rfl) (an:=abh) (fun x=>(by kernel_rfl:KN.fn x=aJ JJ Tryz.f12 abh KN.toSig x)) rfl
def U4:Cx:=aC LI 12 KN
theorem JX:U4.ok Tryz.prog:=ak AA Zy
def abc:An:=.s .z (.s .z (.s .z (.j ⟨[1,2,3],[],[(3,[.own aN 1870727804774333205280220053689557385530553472647298 false [], .rep (.sc (.int .i64)) true [], .rep (.slice (.sc (.int .i64))) true [], .rep (.sc (.int .i64)) true [], .rep (.sc (.int .i64)) true [], .sc (.int .i64), .sc (.int .i64), .sc (.int .i64), .sc (.int .i64), .sc (.int .i64), .sc (.int .i64), .sc (.int .i64), .sc (.int .i64), .sc .str])],[]⟩ true (.s .z (.u (.l ⟨[1,2,3],[(4, .lf (.sc (.int .i64)))],[(3,[.own aN 1870727804774333205280220053689557385530553472647298 false [], .rep (.sc (.int .i64)) true [], .rep (.slice (.sc (.int .i64))) true [], .rep (.sc (.int .i64)) true [], .rep (.sc (.int .i64)) true [], .sc (.int .i64), .sc (.int .i64), .sc (.int .i64), .sc (.int .i64), .sc (.int .i64), .sc (.int .i64), .sc (.int .i64), .sc (.int .i64), .sc .str])],[]⟩ (.s .z (.j ⟨[1,2,3,4],[],[(3,[.own aN 1870727804774333205280220053689557385530553472647298 false [], .rep (.sc (.int .i64)) true [1000003], .rep (.slice (.sc (.int .i64))) true [1000003], .rep (.sc (.int .i64)) true [1000003], .rep (.sc (.int .i64)) true [1000003], .sc (.int .i64), .sc (.int .i64), .sc (.int .i64), .sc (.int .i64), .sc (.int .i64), .sc (.int .i64), .sc (.int .i64), .sc (.int .i64), .sc .str])],[]⟩ true (.u (.s .z (.s .z (.j ⟨[1,2,3,4,6,5],[],[(6,[.own cZ 1547425049178923675150188670 false [], .own (.sc (.int .i64)) 3 false [], .sc (.int .i64), .sc .bool])],[]⟩ true (.s .z (.u (.l ⟨[1,2,3,4,5,6],[(7, .lf (.sc (.int .i64)))],[(6,[.own cZ 1547425049178923675150188670 false [], .own (.sc (.int .i64)) 3 false [], .sc (.int .i64), .sc .bool])],[]⟩ .z))) .z)))) .z))))) (.s .z (.s .z (.j ⟨[1,2,3],[],[(3,[.own aN 1870727804774333205280220053689557385530553472647298 false [], .own (.sc (.int .i64)) 3 false [], .own (.slice (.sc (.int .i64))) 360314358468706326 false [], .rep (.sc (.int .i64)) true [1000003], .rep (.sc (.int .i64)) true [1000003], .sc (.int .i64), .sc (.int .i64), .sc (.int .i64), .sc (.int .i64), .sc (.int .i64), .sc (.int .i64), .sc (.int .i64), .sc (.int .i64), .sc .str])],[]⟩ true (.s .z (.u (.l ⟨[1,2,3],[(8, .lf (.sc (.int .i64)))],[(3,[.own aN 1870727804774333205280220053689557385530553472647298 false [], .own (.sc (.int .i64)) 3 false [], .own (.slice (.sc (.int .i64))) 360314358468706326 false [], .rep (.sc (.int .i64)) true [1000003], .rep (.sc (.int .i64)) true [1000003], .sc (.int .i64), .sc (.int .i64), .sc (.int .i64), .sc (.int .i64), .sc (.int .i64), .sc (.int .i64), .sc (.int .i64), .sc (.int .i64), .sc .str])],[]⟩ .z))) .z))))))
def Oc:Ctr:=⟨⟨[.d dc],[dc],1,[],[⟨some 1870727804774333205280220053689557385530553472647298,false,false⟩,⟨some 3,false,false⟩,⟨some 360314358468706326,false,false⟩,⟨some 3,false,false⟩,⟨some 3,false,false⟩]⟩,fun x=>ip x⟩
theorem Zd:Oc.sound Tryz.prog 58:=am JX aw Tryz.func58 (by kernel_rfl) (an:=abc) (fun x=>(by kernel_rfl:Oc.fn x=aJ U4 Tryz.f58 abc Oc.toSig x)) rfl
def UP:Cx:=aC U4 58 Oc
theorem Jc:UP.ok Tryz.prog:=ak JX Zd
def Yy:An:=.z
def Du:Ctr:=⟨⟨[.box false aU [], .d (.sc (.int .i64))],[aM],1,[],[]⟩,fun x=>co x.1 x.2⟩
theorem TR:Du.sound Tryz.prog 104:=am Jc aw Tryz.func104 (by kernel_rfl) (an:=Yy) (fun x=>(by kernel_rfl:Du.fn x=aJ UP Tryz.f104 Yy Du.toSig x)) rfl
def Lw:Cx:=aC UP 104 Du
theorem H5:Lw.ok Tryz.prog:=ak Jc TR
def Yb:An:=.z
def CL:Ctr:=⟨⟨[.d (.sc (.int .i64))],[(.sc .bool)],1,[],[]⟩,fun x=>ld x⟩
theorem Sw:CL.sound Tryz.prog 166:=am H5 aw Tryz.func166 (by kernel_rfl) (an:=Yb) (fun x=>(by kernel_rfl:CL.fn x=aJ Lw Tryz.f166 Yb CL.toSig x)) rfl
def K8:Cx:=aC Lw 166 CL
theorem H9:K8.ok Tryz.prog:=ak H5 Sw
def WP:An:=.z
def DB:Ctr:=⟨⟨[.d aM, .d (.sc (.int .i64))],[(.sc .bool)],1,[],[]⟩,fun x=>gt x.1 x.2⟩
theorem RR:DB.sound Tryz.prog 105:=am H9 aw Tryz.func105 (by kernel_rfl) (an:=WP) (fun x=>(by kernel_rfl:DB.fn x=aJ K8 Tryz.f105 WP DB.toSig x)) rfl
def Oq:Cx:=aC K8 105 DB
theorem G7:Oq.ok Tryz.prog:=ak H9 RR
def VW:An:=.s .z (.s .z (.u (.s .z (.s .z (.s .z (.s (.j ⟨[0,4],[],[(0,[.rep aM true [], .rep (.sc (.int .i64)) true [], .rep (.sc (.int .i64)) true [], .rep au true [], .rep au true [], .rep (.sc .str) true [], .rep (.sc .str) true [], .rep (.sc .str) true [], .sc (.int .i64), .sc (.int .i64), .sc (.int .i64), .own aN 1870727804774333205280220053689557385530553472647298 false [], .own (.sc (.int .i64)) 3 false [], .own (.slice (.sc (.int .i64))) 360314358468706326 false [], .own (.sc (.int .i64)) 3 false [], .own (.sc (.int .i64)) 3 false [], .sc (.int .i64), .sc (.int .i64), .sc (.int .i64), .sc (.int .i64), .sc (.int .i64), .sc (.int .i64), .sc (.int .i64), .sc (.int .i64), .sc .str, .own bI 149 false []])],[]⟩ true .z .z) .z))))))
def Eo:Ctr:=⟨⟨[.box true aU [none,none,none,none,none,none,none,none,some 1870727804774333205280220053689557385530553472647298,some 3,some 360314358468706326,some 3,some 3,some 149], .d aM, .d (.sc (.int .i64))],[aU],0,[0],[⟨none,true,true⟩,⟨none,true,true⟩,⟨none,true,true⟩,⟨none,true,true⟩,⟨none,true,true⟩,⟨none,true,true⟩,⟨none,true,true⟩,⟨none,true,true⟩,⟨some 1870727804774333205280220053689557385530553472647298,false,false⟩,⟨some 3,false,false⟩,⟨some 360314358468706326,false,false⟩,⟨some 3,false,false⟩,⟨some 3,false,false⟩,⟨some 149,false,false⟩]⟩,fun x=>eW x.1 x.2.1 x.2.2⟩
theorem UB:Eo.sound Tryz.prog 106:=am G7 aw Tryz.func106 (by kernel_rfl) (an:=VW) (fun x=>(by kernel_rfl:Eo.fn x=aJ Oq Tryz.f106 VW Eo.toSig x)) rfl
def Mn:Cx:=aC Oq 106 Eo
theorem GH:Mn.ok Tryz.prog:=ak G7 UB
def XI:An:=.s .z (.s .z (.j ⟨[1,2],[(5, .lf (.sc (.int .i64)))],[],[]⟩ true (.u (.l ⟨[1,2],[(5, .lf (.sc (.int .i64)))],[],[]⟩ .z)) .z))
def DL:Ctr:=⟨⟨[.d bC, .d (.sc (.int .i64))],[(.sc (.int .i64))],1,[],[]⟩,fun x=>f5 x.1 x.2⟩
theorem SX:DL.sound Tryz.prog 132:=am GH aw Tryz.func132 (by kernel_rfl) (an:=XI) (fun x=>(by kernel_rfl:DL.fn x=aJ Mn Tryz.f132 XI DL.toSig x)) rfl
def L5:Cx:=aC Mn 132 DL
theorem Ik:L5.ok Tryz.prog:=ak GH SX
def adk:An:=.z
def LK:Ctr:=⟨⟨[.box true aU [none,none,none,none,none,none,none,none,some 1870727804774333205280220053689557385530553472647298,some 3,some 360314358468706326,some 3,some 3,some 149], .d (.sc (.int .i64)), .d (.sc (.int .i64))],[aU],0,[0],[⟨none,true,false⟩,⟨none,true,false⟩,⟨none,true,false⟩,⟨none,true,false⟩,⟨none,true,false⟩,⟨none,true,false⟩,⟨none,true,false⟩,⟨none,true,false⟩,⟨some 1870727804774333205280220053689557385530553472647298,false,false⟩,⟨some 3,false,false⟩,⟨some 360314358468706326,false,false⟩,⟨some 3,false,false⟩,⟨some 3,false,false⟩,⟨some 149,false,false⟩]⟩,fun x=>bJ x.1 x.2.1 x.2.2⟩
theorem aae:LK.sound Tryz.prog 70:=am Ik aw Tryz.func70 (by kernel_rfl) (an:=adk) (fun x=>(by kernel_rfl:LK.fn x=aJ L5 Tryz.f70 adk LK.toSig x)) rfl
def Vh:Cx:=aC L5 70 LK
theorem JR:Vh.ok Tryz.prog:=ak Ik aae
def Wl:An:=.s .z (.s .z (.s (.k [2000000] [.ug 0 (some 11) (some 1) aN [1547425049178923675150188670,3]] [.pa]) .z))
def CD:Ctr:=⟨⟨[.box true aU [none,none,none,none,none,none,none,none,some 1870727804774333205280220053689557385530553472647298,some 3,some 360314358468706326,some 3,some 3,some 149], .d (.sc (.int .i64)), .d (.sc (.int .i64))],[(.sc .bool),aU],1,[0],[⟨none,true,false⟩,⟨none,true,false⟩,⟨none,true,false⟩,⟨none,true,false⟩,⟨none,true,false⟩,⟨none,true,false⟩,⟨none,true,false⟩,⟨none,true,false⟩,⟨some 1870727804774333205280220053689557385530553472647298,false,false⟩,⟨some 3,false,false⟩,⟨some 360314358468706326,false,false⟩,⟨some 3,false,false⟩,⟨some 3,false,false⟩,⟨some 149,false,false⟩]⟩,fun x=>fq x.1 x.2.1 x.2.2⟩
theorem UG:CD.sound Tryz.prog 126:=am JR aw Tryz.func126 (by kernel_rfl) (an:=Wl) (fun x=>(by kernel_rfl:CD.fn x=aJ Vh Tryz.f126 Wl CD.toSig x)) rfl
def MN:Cx:=aC Vh 126 CD
theorem FA:MN.ok Tryz.prog:=ak JR UG
def WN:An:=.s .z (.s (.g [.ug 0 (some 11) (some 1) aN [1547425049178923675150188670,3]]) (.s (.s .z (.s (.s .z (.g [.pa])) .z)) (.s .z (.s .z (.s .z (.g [.pa]))))))
def Dx:Ctr:=⟨⟨[.box true aU [none,none,none,none,none,none,none,none,some 1870727804774333205280220053689557385530553472647298,some 3,some 360314358468706326,some 3,some 3,some 149], .d (.sc (.int .i64))],[(.sc (.int .i64)),(.sc .bool),aU],2,[0],[⟨none,true,false⟩,⟨none,true,false⟩,⟨none,true,false⟩,⟨none,true,false⟩,⟨none,true,false⟩,⟨none,true,false⟩,⟨none,true,false⟩,⟨none,true,false⟩,⟨some 1870727804774333205280220053689557385530553472647298,false,false⟩,⟨some 3,false,false⟩,⟨some 360314358468706326,false,false⟩,⟨some 3,false,false⟩,⟨some 3,false,false⟩,⟨some 149,false,false⟩]⟩,fun x=>dg x.1 x.2⟩
theorem Uj:Dx.sound Tryz.prog 127:=am FA aw Tryz.func127 (by kernel_rfl) (an:=WN) (fun x=>(by kernel_rfl:Dx.fn x=aJ MN Tryz.f127 WN Dx.toSig x)) rfl
def NG:Cx:=aC MN 127 Dx
theorem Hm:NG.ok Tryz.prog:=ak FA Uj
def Yl:An:=.s (.g [.ug 0 (some 11) (some 1) aN [1547425049178923675150188670,3]]) (.gg [] [.pa])
def Dl:Ctr:=⟨⟨[.box true aU [none,none,none,none,none,none,none,none,some 1870727804774333205280220053689557385530553472647298,some 3,some 360314358468706326,some 3,some 3,some 149], .d (.sc (.int .i64)), .d (.sc (.int .i64))],[aU],0,[0],[⟨none,true,false⟩,⟨none,true,false⟩,⟨none,true,false⟩,⟨none,true,false⟩,⟨none,true,false⟩,⟨none,true,false⟩,⟨none,true,false⟩,⟨none,true,false⟩,⟨some 1870727804774333205280220053689557385530553472647298,false,false⟩,⟨some 3,false,false⟩,⟨some 360314358468706326,false,false⟩,⟨some 3,false,false⟩,⟨some 3,false,false⟩,⟨some 149,false,false⟩]⟩,fun x=>fi x.1 x.2.1 x.2.2⟩
theorem So:Dl.sound Tryz.prog 167:=am Hm aw Tryz.func167 (by kernel_rfl) (an:=Yl) (fun x=>(by kernel_rfl:Dl.fn x=aJ NG Tryz.f167 Yl Dl.toSig x)) rfl
def Nr:Cx:=aC NG 167 Dl
theorem G4:Nr.ok Tryz.prog:=ak Hm So
def VF:An:=.s (.g [.ug 0 (some 11) (some 1) aN [1547425049178923675150188670,3]]) (.gg [] [.pa])
def DX:Ctr:=⟨⟨[.box true aU [none,none,none,none,none,none,none,none,some 1870727804774333205280220053689557385530553472647298,some 3,some 360314358468706326,some 3,some 3,some 149], .d (.sc (.int .i64))],[aU],0,[0],[⟨none,true,false⟩,⟨none,true,false⟩,⟨none,true,false⟩,⟨none,true,false⟩,⟨none,true,false⟩,⟨none,true,false⟩,⟨none,true,false⟩,⟨none,true,false⟩,⟨some 1870727804774333205280220053689557385530553472647298,false,false⟩,⟨some 3,false,false⟩,⟨some 360314358468706326,false,false⟩,⟨some 3,false,false⟩,⟨some 3,false,false⟩,⟨some 149,false,false⟩]⟩,fun x=>bW x.1 x.2⟩
theorem Vd:DX.sound Tryz.prog 131:=am G4 aw Tryz.func131 (by kernel_rfl) (an:=VF) (fun x=>(by kernel_rfl:DX.fn x=aJ Nr Tryz.f131 VF DX.toSig x)) rfl
def Lj:Cx:=aC Nr 131 DX
theorem GI:Lj.ok Tryz.prog:=ak G4 Vd
def acU:An:=.z
def Ni:Ctr:=⟨⟨[.d (.sc .bool)],[(.sc (.int .i64))],1,[],[]⟩,fun x=>dK x⟩
theorem YC:Ni.sound Tryz.prog 78:=am GI aw Tryz.func78 (by kernel_rfl) (an:=acU) (fun x=>(by kernel_rfl:Ni.fn x=aJ Lj Tryz.f78 acU Ni.toSig x)) rfl
def RX:Cx:=aC Lj 78 Ni
theorem I2:RX.ok Tryz.prog:=ak GI YC
def VU:An:=.s .z (.s .z (.s .z (.s .z (.s .z (.j ⟨[0,2,1,7,9],[(11, .lf (.sc (.int .i64)))],[],[]⟩ true .z .z)))))
def CR:Ctr:=⟨⟨[.box true aU [none,none,none,none,none,none,none,none,some 1870727804774333205280220053689557385530553472647298,some 3,some 360314358468706326,some 3,some 3,some 149], .d (.sc (.int .i64)), .d (.sc (.int .i64))],[(.sc .bool),aU],1,[0],[⟨none,true,false⟩,⟨none,true,false⟩,⟨none,true,false⟩,⟨none,true,false⟩,⟨none,true,false⟩,⟨none,true,false⟩,⟨none,true,false⟩,⟨none,true,false⟩,⟨some 1870727804774333205280220053689557385530553472647298,false,false⟩,⟨some 3,false,false⟩,⟨some 360314358468706326,false,false⟩,⟨some 3,false,false⟩,⟨some 3,false,false⟩,⟨some 149,false,false⟩]⟩,fun x=>iG x.1 x.2.1 x.2.2⟩
theorem Uf:CR.sound Tryz.prog 168:=am I2 aw Tryz.func168 (by kernel_rfl) (an:=VU) (fun x=>(by kernel_rfl:CR.fn x=aJ RX Tryz.f168 VU CR.toSig x)) rfl
def DG:Cx:=aC RX 168 CR
theorem yk:DG.ok Tryz.prog:=ak I2 Uf
def abV:An:=.z
noncomputable def vF:Cx:=cM DG 130 (jS DG Tryz.f130 abV)
theorem wx:vF.ok Tryz.prog:=bG yk (ek yk aw Tryz.func130 (by kernel_rfl) (by kernel_rfl) _)
def Xm:An:=.z
noncomputable def GZ:Cx:=cM vF 53 (jS vF Tryz.f53 Xm)
theorem IQ:GZ.ok Tryz.prog:=bG wx (ek wx aw Tryz.func53 (by kernel_rfl) (by kernel_rfl) _)
def VT:An:=.s .z (.j ⟨[0,2,4],[],[(0,[.rep aM true [], .rep (.sc (.int .i64)) true [], .rep (.sc (.int .i64)) true [], .rep au true [], .rep au true [], .rep (.sc .str) true [], .rep (.sc .str) true [], .rep (.sc .str) true [], .sc (.int .i64), .sc (.int .i64), .sc (.int .i64), .own aN 1870727804774333205280220053689557385530553472647298 false [], .own (.sc (.int .i64)) 3 false [], .own (.slice (.sc (.int .i64))) 360314358468706326 false [], .own (.sc (.int .i64)) 3 false [], .own (.sc (.int .i64)) 3 false [], .sc (.int .i64), .sc (.int .i64), .sc (.int .i64), .sc (.int .i64), .sc (.int .i64), .sc (.int .i64), .sc (.int .i64), .sc (.int .i64), .sc .str, .own bI 149 false []])],[]⟩ false (.s .z (.u (.j ⟨[0,2,4,16],[(23, .lf (.sc .bool))],[],[]⟩ true .z (.s (.s .z (.j ⟨[0,2,4],[(7, .lf (.sc (.int .i64)))],[],[]⟩ true .z (.j ⟨[0,2,4],[(7, .lf (.sc (.int .i64)))],[],[]⟩ true .z .z))) (.s .z (.s (.s .z (.s .z (.gg [.ug 0 (some 11) (some 2) aN [1547425049178923675150188670,3], .uh 0 11 0 cZ [3]] [.pa, .pa]))) (.s .z (.s .z (.s .z (.s .z (.s .z (.s (.s .z (.s .z (.s (.k [2000000] [.ug 0 (some 11) (some 2) aN [1547425049178923675150188670,3]] [.pa]) .z))) (.s .z (.s (.s (.g [.ug 0 (some 11) (some 2) aN [1547425049178923675150188670,3]]) (.s (.gg [] [.pa]) .z)) .z)))))))))))))) .z)
def CG:Ctr:=⟨⟨[.box true aU [none,none,none,none,none,none,none,none,some 1870727804774333205280220053689557385530553472647298,some 3,some 360314358468706326,some 3,some 3,some 149], .d aM, .d (.sc (.int .i64))],[(.sc .bool),aU],1,[0],[⟨none,true,true⟩,⟨none,true,true⟩,⟨none,true,true⟩,⟨none,true,true⟩,⟨none,true,true⟩,⟨none,true,true⟩,⟨none,true,true⟩,⟨none,true,true⟩,⟨some 1870727804774333205280220053689557385530553472647298,false,false⟩,⟨some 3,false,false⟩,⟨some 360314358468706326,false,false⟩,⟨some 3,false,false⟩,⟨some 3,false,false⟩,⟨some 149,false,false⟩]⟩,fun x=>eL x.1 x.2.1 x.2.2⟩
theorem S9:CG.sound Tryz.prog 107:=am IQ aw Tryz.func107 (by kernel_rfl) (an:=VT) (fun x=>(by kernel_rfl:CG.fn x=aJ GZ Tryz.f107 VT CG.toSig x)) rfl
def LU:Cx:=aC DG 107 CG
theorem E9:LU.ok Tryz.prog:=ak yk S9
def adh:An:=.s .z (.u (.l ⟨[0,1],[(4, .lf (.sc (.int .i64)))],[(0,[.rep aM true [], .rep (.sc (.int .i64)) true [], .rep (.sc (.int .i64)) true [], .rep au true [], .rep au true [], .rep (.sc .str) true [], .rep (.sc .str) true [], .rep (.sc .str) true [], .sc (.int .i64), .sc (.int .i64), .sc (.int .i64), .own aN 1870727804774333205280220053689557385530553472647298 false [], .own (.sc (.int .i64)) 3 false [], .own (.slice (.sc (.int .i64))) 360314358468706326 false [], .own (.sc (.int .i64)) 3 false [], .own (.sc (.int .i64)) 3 false [], .sc (.int .i64), .sc (.int .i64), .sc (.int .i64), .sc (.int .i64), .sc (.int .i64), .sc (.int .i64), .sc (.int .i64), .sc (.int .i64), .sc .str, .own bI 149 false []])],[]⟩ .z))
def N4:Ctr:=⟨⟨[.box true aU [none,none,none,none,none,none,none,none,some 1870727804774333205280220053689557385530553472647298,some 3,some 360314358468706326,some 3,some 3,some 149], .d (.sc (.int .i64))],[aU],0,[0],[⟨none,true,true⟩,⟨none,true,true⟩,⟨none,true,true⟩,⟨none,true,true⟩,⟨none,true,true⟩,⟨none,true,true⟩,⟨none,true,true⟩,⟨none,true,true⟩,⟨some 1870727804774333205280220053689557385530553472647298,false,false⟩,⟨some 3,false,false⟩,⟨some 360314358468706326,false,false⟩,⟨some 3,false,false⟩,⟨some 3,false,false⟩,⟨some 149,false,false⟩]⟩,fun x=>fT x.1 x.2⟩
theorem aaC:N4.sound Tryz.prog 54:=am E9 aw Tryz.func54 (by kernel_rfl) (an:=adh) (fun x=>(by kernel_rfl:N4.fn x=aJ LU Tryz.f54 adh N4.toSig x)) rfl
def Vp:Cx:=aC LU 54 N4
theorem J1:Vp.ok Tryz.prog:=ak E9 aaC
def WT:An:=.s .z (.s .z (.j ⟨[0],[(3, .lf (.own (.sc .str) 9 false []))],[],[]⟩ true (.s .z (.u (.l ⟨[0],[(3, .lf (.own (.sc .str) 9 false [])),(4, .lf (.sc (.int .i64)))],[],[]⟩ .z))) .z))
def C2:Ctr:=⟨⟨[.d (.slice au)],[(.slice (.sc .str))],1,[],[⟨some 9,false,false⟩]⟩,fun x=>cJ x⟩
theorem Rp:C2.sound Tryz.prog 162:=am J1 aw Tryz.func162 (by kernel_rfl) (an:=WT) (fun x=>(by kernel_rfl:C2.fn x=aJ Vp Tryz.f162 WT C2.toSig x)) rfl
def N0:Cx:=aC Vp 162 C2
theorem F4:N0.ok Tryz.prog:=ak J1 Rp
def XC:An:=.s .z (.j ⟨[0],[],[],[]⟩ false (.s .z (.u (.l ⟨[0],[(3, .lf (.sc (.int .i64)))],[],[]⟩ .z))) .z)
def DH:Ctr:=⟨⟨[.d (.slice (.sc .str))],[(.sc .bool)],1,[],[]⟩,fun x=>cX x⟩
theorem Sx:DH.sound Tryz.prog 161:=am F4 aw Tryz.func161 (by kernel_rfl) (an:=XC) (fun x=>(by kernel_rfl:DH.fn x=aJ N0 Tryz.f161 XC DH.toSig x)) rfl
def OH:Cx:=aC N0 161 DH
theorem Fb:OH.ok Tryz.prog:=ak F4 Sx
def WR:An:=.s .z (.s .z (.s .z (.j ⟨[1,3],[],[],[]⟩ false (.s .z (.u (.l ⟨[1,3],[(4, .lf (.sc (.int .i64)))],[],[]⟩ (.s .z (.j ⟨[1,3,4],[],[],[]⟩ false (.u (.s .z (.j ⟨[1,3,4],[(5, .lf (.sc (.int .i64)))],[],[]⟩ true .z .z))) .z))))) (.j ⟨[1],[],[],[]⟩ false (.s .z (.u (.l ⟨[1],[(6, .lf (.sc (.int .i64)))],[],[]⟩ .z))) .z))))
def DJ:Ctr:=⟨⟨[.d bC],[(.sc .bool)],1,[],[]⟩,fun x=>jf x⟩
theorem QZ:DJ.sound Tryz.prog 102:=am Fb aw Tryz.func102 (by kernel_rfl) (an:=WR) (fun x=>(by kernel_rfl:DJ.fn x=aJ OH Tryz.f102 WR DJ.toSig x)) rfl
def Oy:Cx:=aC OH 102 DJ
theorem F6:Oy.ok Tryz.prog:=ak Fb QZ
def X0:An:=.s .z (.s .z (.j ⟨[1,2],[(5, .lf (.sc (.int .i64)))],[],[]⟩ true (.s .z (.u (.l ⟨[1,2],[(5, .lf (.sc (.int .i64))),(6, .lf (.sc (.int .i64)))],[],[]⟩ (.s .z (.j ⟨[1,2,6],[(5, .lf (.sc (.int .i64)))],[],[]⟩ true .z .z))))) .z))
def Dt:Ctr:=⟨⟨[.d bC, .d (.sc (.int .i64))],[(.sc (.int .i64))],1,[],[]⟩,fun x=>lD x.1 x.2⟩
theorem UQ:Dt.sound Tryz.prog 163:=am F6 aw Tryz.func163 (by kernel_rfl) (an:=X0) (fun x=>(by kernel_rfl:Dt.fn x=aJ Oy Tryz.f163 X0 Dt.toSig x)) rfl
def LO:Cx:=aC Oy 163 Dt
theorem Ih:LO.ok Tryz.prog:=ak F6 UQ
def VI:An:=.z
def Dj:Ctr:=⟨⟨[.d (.sc (.int .i64))],[(.sc (.int .i64))],1,[],[]⟩,fun x=>gV x⟩
theorem TG:Dj.sound Tryz.prog 164:=am Ih aw Tryz.func164 (by kernel_rfl) (an:=VI) (fun x=>(by kernel_rfl:Dj.fn x=aJ LO Tryz.f164 VI Dj.toSig x)) rfl
def OK:Cx:=aC LO 164 Dj
theorem FC:OK.ok Tryz.prog:=ak Ih TG
def Yo:An:=.z
def Dd:Ctr:=⟨⟨[.d (.sc (.int .i64)), .d (.sc (.int .i64)), .d (.sc (.int .i64))],[(.sc .bool)],1,[],[]⟩,fun x=>br x.1 x.2.1 x.2.2⟩
theorem TT:Dd.sound Tryz.prog 165:=am FC aw Tryz.func165 (by kernel_rfl) (an:=Yo) (fun x=>(by kernel_rfl:Dd.fn x=aJ OK Tryz.f165 Yo Dd.toSig x)) rfl
def Mp:Cx:=aC OK 165 Dd
theorem Fg:Mp.ok Tryz.prog:=ak FC TT
def V5:An:=.s .z (.s .z (.s .z (.s .z (.s .z (.j ⟨[1,2,5,6],[(7, .lf (.sc (.int .i64)))],[],[]⟩ true .z (.s .z (.s .z (.s .z (.j ⟨[2,5,6,7,9],[],[],[]⟩ false (.s .z (.u (.j ⟨[2,5,6,7,9,107],[(108, .lf (.sc .bool))],[],[]⟩ true .z (.s .z (.j ⟨[2,5,6,7,9,107],[(116, .lf (.sc .bool))],[],[]⟩ true .z (.s .z (.j ⟨[2,5,6,9,107],[(129, .lf (.sc .bool))],[],[]⟩ true .z (.s .z (.s .z (.s .z (.s .z (.s .z (.j ⟨[2,5,9,107],[(155, .lf (.sc .bool))],[],[]⟩ true .z (.s .z (.s .z (.s .z (.s .z (.s .z (.j ⟨[2,5,9,107],[(189, .lf (.sc .bool))],[],[]⟩ true .z .z))))))))))))))))))) .z)))))))))
def Es:Ctr:=⟨⟨[.d bC, .d (.sc (.int .i64))],[(.sc .bool)],1,[],[]⟩,fun x=>j8 x.1 x.2⟩
theorem UU:Es.sound Tryz.prog 103:=am Fg aw Tryz.func103 (by kernel_rfl) (an:=V5) (fun x=>(by kernel_rfl:Es.fn x=aJ Mp Tryz.f103 V5 Es.toSig x)) rfl
def Nm:Cx:=aC Mp 103 Es
theorem EH:Nm.ok Tryz.prog:=ak Fg UU
def abC:An:=.s .z (.s .z (.s .z (.j ⟨[1],[],[],[]⟩ false (.s .z (.u (.l ⟨[1],[(4, .lf (.sc (.int .i64)))],[],[]⟩ .z))) .z)))
def K9:Ctr:=⟨⟨[.d bC],[(.sc (.int .i64)),(.sc (.int .i64))],2,[],[]⟩,fun x=>gM x⟩
theorem Yz:K9.sound Tryz.prog 50:=am EH aw Tryz.func50 (by kernel_rfl) (an:=abC) (fun x=>(by kernel_rfl:K9.fn x=aJ Nm Tryz.f50 abC K9.toSig x)) rfl
def Rj:Cx:=aC Nm 50 K9
theorem Jx:Rj.ok Tryz.prog:=ak EH Yz
def acT:An:=.z
def LJ:Ctr:=⟨⟨[.d eR],[(.sc .bool)],1,[],[]⟩,fun x=>jl x⟩
theorem aab:LJ.sound Tryz.prog 51:=am Jx aw Tryz.func51 (by kernel_rfl) (an:=acT) (fun x=>(by kernel_rfl:LJ.fn x=aJ Rj Tryz.f51 acT LJ.toSig x)) rfl
def Q1:Cx:=aC Rj 51 LJ
theorem J4:Q1.ok Tryz.prog:=ak Jx aab
def abv:An:=.s .z (.j ⟨[0,1],[],[],[]⟩ false (.s .z (.u (.l ⟨[0,1],[(6, .lf (.sc (.int .i64)))],[],[]⟩ .z))) .z)
def Nb:Ctr:=⟨⟨[.d (.slice au), .d (.sc .str)],[(.sc (.int .i64)),(.sc .bool)],2,[],[]⟩,fun x=>im x.1 x.2⟩
theorem Zh:Nb.sound Tryz.prog 52:=am J4 aw Tryz.func52 (by kernel_rfl) (an:=abv) (fun x=>(by kernel_rfl:Nb.fn x=aJ Q1 Tryz.f52 abv Nb.toSig x)) rfl
def Rw:Cx:=aC Q1 52 Nb
theorem Ky:Rw.ok Tryz.prog:=ak J4 Zh
def V6:An:=.s .z (.s .z (.j ⟨[0,1],[(5, .lf (.own (.sc (.int .i64)) 3 false []))],[],[]⟩ true (.s .z (.u (.l ⟨[0,1],[(5, .lf (.own (.sc (.int .i64)) 3 false [])),(6, .lf (.sc (.int .i64)))],[],[]⟩ (.s .z (.j ⟨[0,1,6],[(5, .lf (.own (.sc (.int .i64)) 3 false []))],[],[]⟩ true .z .z))))) .z))
def DW:Ctr:=⟨⟨[.box false aU [], .d (.sc (.int .i64))],[(.slice (.sc (.int .i64)))],1,[],[⟨some 3,false,false⟩]⟩,fun x=>e7 x.1 x.2⟩
theorem T9:DW.sound Tryz.prog 113:=am Ky aw Tryz.func113 (by kernel_rfl) (an:=V6) (fun x=>(by kernel_rfl:DW.fn x=aJ Rw Tryz.f113 V6 DW.toSig x)) rfl
def Lt:Cx:=aC Rw 113 DW
theorem FE:Lt.ok Tryz.prog:=ak Ky T9
def XW:An:=.z
def Cy:Ctr:=⟨⟨[.box false aU [], .d (.sc (.int .i64))],[(.sc .bool)],1,[],[]⟩,fun x=>gD x.1 x.2⟩
theorem Sj:Cy.sound Tryz.prog 125:=am FE aw Tryz.func125 (by kernel_rfl) (an:=XW) (fun x=>(by kernel_rfl:Cy.fn x=aJ Lt Tryz.f125 XW Cy.toSig x)) rfl
def Mw:Cx:=aC Lt 125 Cy
theorem Gm:Mw.ok Tryz.prog:=ak FE Sj
def abB:An:=.s .z (.s .z (.j ⟨[0],[(3, .lf (.own (.sc (.int .i64)) 3 false []))],[],[]⟩ true (.s .z (.u (.l ⟨[0],[(3, .lf (.own (.sc (.int .i64)) 3 false [])),(4, .lf (.sc (.int .i64)))],[],[]⟩ (.s .z (.j ⟨[0,4],[(3, .lf (.own (.sc (.int .i64)) 3 false []))],[],[]⟩ true .z .z))))) .z))
def OL:Ctr:=⟨⟨[.box false aU []],[(.slice (.sc (.int .i64)))],1,[],[⟨some 3,false,false⟩]⟩,fun x=>iy x⟩
theorem YT:OL.sound Tryz.prog 67:=am Gm aw Tryz.func67 (by kernel_rfl) (an:=abB) (fun x=>(by kernel_rfl:OL.fn x=aJ Mw Tryz.f67 abB OL.toSig x)) rfl
def QX:Cx:=aC Mw 67 OL
theorem KD:QX.ok Tryz.prog:=ak Gm YT
def adE:An:=.s .z (.s .z (.s .z (.s .z (.j ⟨[0],[(2, .lf (.sc (.int .i64)))],[],[]⟩ true (.s .z (.u (.l ⟨[0],[(2, .lf (.sc (.int .i64))),(3, .lf (.sc (.int .i64)))],[],[]⟩ (.s .z (.j ⟨[0,3],[(2, .lf (.sc (.int .i64)))],[],[]⟩ true .z .z))))) .z))))
def OF:Ctr:=⟨⟨[.box true aU [none,none,none,none,none,none,none,none,some 1870727804774333205280220053689557385530553472647298,some 3,some 360314358468706326,some 3,some 3,some 149]],[aU],0,[0],[⟨none,true,false⟩,⟨none,true,false⟩,⟨none,true,false⟩,⟨none,true,false⟩,⟨none,true,false⟩,⟨none,true,false⟩,⟨none,true,false⟩,⟨none,true,false⟩,⟨some 1870727804774333205280220053689557385530553472647298,false,false⟩,⟨some 3,false,false⟩,⟨some 360314358468706326,false,false⟩,⟨some 3,false,false⟩,⟨some 3,false,false⟩,⟨some 149,false,false⟩]⟩,fun x=>gn x⟩
theorem aam:OF.sound Tryz.prog 55:=am KD aw Tryz.func55 (by kernel_rfl) (an:=adE) (fun x=>(by kernel_rfl:OF.fn x=aJ QX Tryz.f55 adE OF.toSig x)) rfl
def NS:Cx:=aC QX 55 OF
theorem A4:NS.ok Tryz.prog:=ak KD aam
noncomputable def I4:Cx:=cM NS 53 (jS NS Tryz.f53 Xm)
theorem L9:I4.ok Tryz.prog:=bG A4 (ek A4 aw Tryz.func53 (by kernel_rfl) (by kernel_rfl) _)
def acm:An:=.s .z (.s .z (.s .z (.s .z (.s .z (.s .z (.j ⟨[2,3,6,10],[],[(10,[.rep aM true [], .rep (.sc (.int .i64)) true [], .rep (.sc (.int .i64)) true [], .rep au true [], .rep au true [], .rep (.sc .str) true [], .rep (.sc .str) true [], .rep (.sc .str) true [], .sc (.int .i64), .sc (.int .i64), .sc (.int .i64), .own aN 1870727804774333205280220053689557385530553472647298 false [], .own (.sc (.int .i64)) 3 false [], .own (.slice (.sc (.int .i64))) 360314358468706326 false [], .own (.sc (.int .i64)) 3 false [], .own (.sc (.int .i64)) 3 false [], .sc (.int .i64), .sc (.int .i64), .sc (.int .i64), .sc (.int .i64), .sc (.int .i64), .sc (.int .i64), .sc (.int .i64), .sc (.int .i64), .sc .str, .own bI 149 false []])],[]⟩ true (.s .z (.u (.l ⟨[2,3,6,10],[(11, .lf (.sc (.int .i64)))],[(10,[.rep aM true [], .rep (.sc (.int .i64)) true [], .rep (.sc (.int .i64)) true [], .rep au true [], .rep au true [], .rep (.sc .str) true [], .rep (.sc .str) true [], .rep (.sc .str) true [], .sc (.int .i64), .sc (.int .i64), .sc (.int .i64), .own aN 1870727804774333205280220053689557385530553472647298 false [], .own (.sc (.int .i64)) 3 false [], .own (.slice (.sc (.int .i64))) 360314358468706326 false [], .own (.sc (.int .i64)) 3 false [], .own (.sc (.int .i64)) 3 false [], .sc (.int .i64), .sc (.int .i64), .sc (.int .i64), .sc (.int .i64), .sc (.int .i64), .sc (.int .i64), .sc (.int .i64), .sc (.int .i64), .sc .str, .own bI 149 false []])],[]⟩ (.s .z (.j ⟨[2,3,6,10,11],[],[(10,[.rep aM true [1000010], .rep (.sc (.int .i64)) true [1000010], .rep (.sc (.int .i64)) true [1000010], .rep au true [1000010], .rep au true [1000010], .rep (.sc .str) true [1000010], .rep (.sc .str) true [1000010], .rep (.sc .str) true [1000010], .sc (.int .i64), .sc (.int .i64), .sc (.int .i64), .own aN 1870727804774333205280220053689557385530553472647298 false [], .own (.sc (.int .i64)) 3 false [], .own (.slice (.sc (.int .i64))) 360314358468706326 false [], .own (.sc (.int .i64)) 3 false [], .own (.sc (.int .i64)) 3 false [], .sc (.int .i64), .sc (.int .i64), .sc (.int .i64), .sc (.int .i64), .sc (.int .i64), .sc (.int .i64), .sc (.int .i64), .sc (.int .i64), .sc .str, .own bI 149 false []])],[]⟩ true (.u (.s .z (.j ⟨[2,3,6,10,11,13],[(12, .lf (.sc (.int .i64)))],[],[]⟩ true .z .z))) .z))))) (.j ⟨[3,6,10,2],[],[(10,[.rep aM true [1000010], .rep (.sc (.int .i64)) true [1000010], .rep (.sc (.int .i64)) true [1000010], .rep au true [1000010], .rep au true [1000010], .rep (.sc .str) true [1000010], .rep (.sc .str) true [1000010], .rep (.sc .str) true [1000010], .sc (.int .i64), .sc (.int .i64), .sc (.int .i64), .own aN 1870727804774333205280220053689557385530553472647298 false [], .own (.sc (.int .i64)) 3 false [], .own (.slice (.sc (.int .i64))) 360314358468706326 false [], .own (.sc (.int .i64)) 3 false [], .own (.sc (.int .i64)) 3 false [], .sc (.int .i64), .sc (.int .i64), .sc (.int .i64), .sc (.int .i64), .sc (.int .i64), .sc (.int .i64), .sc (.int .i64), .sc (.int .i64), .sc .str, .own bI 149 false []])],[]⟩ true (.s .z (.u (.l ⟨[2,3,6,10],[(14, .lf (.sc (.int .i64)))],[(10,[.rep aM true [1000010], .rep (.sc (.int .i64)) true [1000010], .rep (.sc (.int .i64)) true [1000010], .rep au true [1000010], .rep au true [1000010], .rep (.sc .str) true [1000010], .rep (.sc .str) true [1000010], .rep (.sc .str) true [1000010], .sc (.int .i64), .sc (.int .i64), .sc (.int .i64), .own aN 1870727804774333205280220053689557385530553472647298 false [], .own (.sc (.int .i64)) 3 false [], .own (.slice (.sc (.int .i64))) 360314358468706326 false [], .own (.sc (.int .i64)) 3 false [], .own (.sc (.int .i64)) 3 false [], .sc (.int .i64), .sc (.int .i64), .sc (.int .i64), .sc (.int .i64), .sc (.int .i64), .sc (.int .i64), .sc (.int .i64), .sc (.int .i64), .sc .str, .own bI 149 false []])],[]⟩ .z))) (.s .z (.j ⟨[3,6,10],[],[(10,[.rep aM true [1000010], .rep (.sc (.int .i64)) true [1000010], .rep (.sc (.int .i64)) true [1000010], .rep au true [1000010], .rep au true [1000010], .rep (.sc .str) true [1000010], .rep (.sc .str) true [1000010], .rep (.sc .str) true [1000010], .sc (.int .i64), .sc (.int .i64), .sc (.int .i64), .own aN 1870727804774333205280220053689557385530553472647298 false [], .own (.sc (.int .i64)) 3 false [], .own (.slice (.sc (.int .i64))) 360314358468706326 false [], .own (.sc (.int .i64)) 3 false [], .own (.sc (.int .i64)) 3 false [], .sc (.int .i64), .sc (.int .i64), .sc (.int .i64), .sc (.int .i64), .sc (.int .i64), .sc (.int .i64), .sc (.int .i64), .sc (.int .i64), .sc .str, .own bI 149 false []])],[]⟩ true (.s .z (.u (.l ⟨[3,6,10],[(17, .lf (.sc (.int .i64)))],[(10,[.rep aM true [1000010], .rep (.sc (.int .i64)) true [1000010], .rep (.sc (.int .i64)) true [1000010], .rep au true [1000010], .rep au true [1000010], .rep (.sc .str) true [1000010], .rep (.sc .str) true [1000010], .rep (.sc .str) true [1000010], .sc (.int .i64), .sc (.int .i64), .sc (.int .i64), .own aN 1870727804774333205280220053689557385530553472647298 false [], .own (.sc (.int .i64)) 3 false [], .own (.slice (.sc (.int .i64))) 360314358468706326 false [], .own (.sc (.int .i64)) 3 false [], .own (.sc (.int .i64)) 3 false [], .sc (.int .i64), .sc (.int .i64), .sc (.int .i64), .sc (.int .i64), .sc (.int .i64), .sc (.int .i64), .sc (.int .i64), .sc (.int .i64), .sc .str, .own bI 149 false []])],[]⟩ .z))) .z)))))))))
def K6:Ctr:=⟨⟨[.d bC, .d eR, .d (.slice au)],[dc,(.sc (.int .i64))],2,[],[⟨some 1870727804774333205280220053689557385530553472647298,false,false⟩,⟨some 3,false,false⟩,⟨some 360314358468706326,false,false⟩,⟨some 3,false,false⟩,⟨some 3,false,false⟩]⟩,fun x=>jE x.1 x.2.1 x.2.2⟩
theorem Z6:K6.sound Tryz.prog 14:=am L9 aw Tryz.func14 (by kernel_rfl) (an:=acm) (fun x=>(by kernel_rfl:K6.fn x=aJ I4 Tryz.f14 acm K6.toSig x)) rfl
def T8:Cx:=aC NS 14 K6
theorem Jy:T8.ok Tryz.prog:=ak A4 Z6
def adM:An:=.s .z (.j ⟨[1],[(0, .lf (.sc (.int .i64)))],[],[]⟩ true .z .z)
def NH:Ctr:=⟨⟨[.d (.sc (.int .i64)), .d (.sc (.int .i64))],[(.sc (.int .i64))],1,[],[]⟩,fun x=>aZ x.1 x.2⟩
theorem YO:NH.sound Tryz.prog 11:=am Jy aw Tryz.func11 (by kernel_rfl) (an:=adM) (fun x=>(by kernel_rfl:NH.fn x=aJ T8 Tryz.f11 adM NH.toSig x)) rfl
def TL:Cx:=aC T8 11 NH
theorem JM:TL.ok Tryz.prog:=ak Jy YO
def an9:An:=.z
def X4:Ctr:=⟨⟨[.d (.sc (.int .i64))],[eR],1,[],[]⟩,fun x=>iZ x⟩
theorem abo:X4.sound Tryz.prog 9:=am JM aw Tryz.func9 (by kernel_rfl) (an:=an9) (fun x=>(by kernel_rfl:X4.fn x=aJ TL Tryz.f9 an9 X4.toSig x)) rfl
def cx9:Cx:=aC TL 9 X4
theorem PG:cx9.ok Tryz.prog:=ak JM abo
def ab4:An:=.s .z (.s .z (.j ⟨[1,2],[(5, .lf (.own au 101 false []))],[],[]⟩ true (.s .z (.u (.l ⟨[1,2],[(5, .lf (.own au 101 false [])),(6, .lf (.sc (.int .i64)))],[],[]⟩ (.s .z (.j ⟨[1,2,6],[(5, .lf (.own au 101 false []))],[],[]⟩ true (.u (.s .z (.s .z (.j ⟨[1,2,5,6,7,8],[],[(8,[.sc .str, .sc (.int .i64)])],[]⟩ true .z (.j ⟨[1,2,5,6,8,7],[],[(8,[.sc .str, .sc (.int .i64)])],[]⟩ true .z .z))))) .z))))) .z))
def LL:Ctr:=⟨⟨[.d bC, .d (.slice (.sc (.int .i64)))],[(.slice au)],1,[],[⟨some 101,false,false⟩]⟩,fun x=>jK x.1 x.2⟩
theorem aat:LL.sound Tryz.prog 10:=am PG aw Tryz.func10 (by kernel_rfl) (an:=ab4) (fun x=>(by kernel_rfl:LL.fn x=aJ cx9 Tryz.f10 ab4 LL.toSig x)) rfl
def SZ:Cx:=aC cx9 10 LL
theorem Jl:SZ.ok Tryz.prog:=ak PG aat
def acW:An:=.s .z (.s .z (.j ⟨[2,3,1],[],[(3,[.own aN 130 true [], .rep (.sc (.int .i64)) true [], .rep (.slice (.sc (.int .i64))) true [], .rep (.sc (.int .i64)) true [], .rep (.sc (.int .i64)) true [], .sc (.int .i64), .sc (.int .i64), .sc (.int .i64), .sc (.int .i64), .sc (.int .i64), .sc (.int .i64), .sc (.int .i64), .sc (.int .i64), .sc .str])],[]⟩ true (.s .z (.u (.l ⟨[1,2,3],[(4, .lf (.sc (.int .i64)))],[(3,[.own aN 130 true [], .rep (.sc (.int .i64)) true [], .rep (.slice (.sc (.int .i64))) true [], .rep (.sc (.int .i64)) true [], .rep (.sc (.int .i64)) true [], .sc (.int .i64), .sc (.int .i64), .sc (.int .i64), .sc (.int .i64), .sc (.int .i64), .sc (.int .i64), .sc (.int .i64), .sc (.int .i64), .sc .str])],[]⟩ (.s .z (.j ⟨[1,2,3,4],[],[(3,[.own aN 130 true [1000003], .rep (.sc (.int .i64)) true [1000003], .rep (.slice (.sc (.int .i64))) true [1000003], .rep (.sc (.int .i64)) true [1000003], .rep (.sc (.int .i64)) true [1000003], .sc (.int .i64), .sc (.int .i64), .sc (.int .i64), .sc (.int .i64), .sc (.int .i64), .sc (.int .i64), .sc (.int .i64), .sc (.int .i64), .sc .str])],[]⟩ true (.u (.s .z (.j ⟨[1,2,3,4,5],[],[(5,[.own cZ 126 true [], .rep (.sc (.int .i64)) true [], .sc (.int .i64), .sc .bool])],[]⟩ true (.s .z (.u (.l ⟨[1,2,3,4,5],[(6, .lf (.sc (.int .i64)))],[(5,[.own cZ 126 true [], .rep (.sc (.int .i64)) true [], .sc (.int .i64), .sc .bool])],[]⟩ .z))) .z))) .z))))) .z))
def MX:Ctr:=⟨⟨[.d de],[dc],1,[],[⟨some 130,true,true⟩,⟨none,true,true⟩,⟨none,true,true⟩,⟨none,true,true⟩,⟨none,true,true⟩]⟩,fun x=>jH x⟩
theorem ZT:MX.sound Tryz.prog 16:=am Jl aw Tryz.func16 (by kernel_rfl) (an:=acW) (fun x=>(by kernel_rfl:MX.fn x=aJ SZ Tryz.f16 acW MX.toSig x)) rfl
def QW:Cx:=aC SZ 16 MX
theorem IV:QW.ok Tryz.prog:=ak Jl ZT
def abg:An:=.s .z (.s .z (.j ⟨[0,1],[],[],[]⟩ false (.s .z (.u (.l ⟨[0,1],[(5, .lf (.sc (.int .i64)))],[],[]⟩ .z))) .z))
def KJ:Ctr:=⟨⟨[.d (.slice (.sc (.int .i64))), .d (.slice (.sc (.int .i64)))],[(.sc .bool)],1,[],[]⟩,fun x=>cB x.1 x.2⟩
theorem Zt:KJ.sound Tryz.prog 30:=am IV aw Tryz.func30 (by kernel_rfl) (an:=abg) (fun x=>(by kernel_rfl:KJ.fn x=aJ QW Tryz.f30 abg KJ.toSig x)) rfl
def SA:Cx:=aC QW 30 KJ
theorem Jm:SA.ok Tryz.prog:=ak IV Zt
def abk:An:=.s .z (.s .z (.j ⟨[2,3],[],[],[]⟩ false (.s .z (.u (.l ⟨[2,3],[(5, .lf (.sc (.int .i64)))],[],[]⟩ (.s .z (.j ⟨[2,3,5],[],[],[]⟩ false (.u (.s .z (.s .z (.s .z (.s .z (.u (.l ⟨[2,3,5,6,7],[(8, .lf (.sc (.int .i64)))],[],[]⟩ .z))))))) .z))))) (.j ⟨[2,3],[],[],[]⟩ false (.s .z (.u (.l ⟨[2,3],[(9, .lf (.sc (.int .i64)))],[],[]⟩ .z))) .z)))
def Of:Ctr:=⟨⟨[.d dc, .d dc],[(.sc .bool)],1,[],[]⟩,fun x=>j9 x.1 x.2⟩
theorem ZE:Of.sound Tryz.prog 15:=am Jm aw Tryz.func15 (by kernel_rfl) (an:=abk) (fun x=>(by kernel_rfl:Of.fn x=aJ SA Tryz.f15 abk Of.toSig x)) rfl
def UY:Cx:=aC SA 15 Of
theorem JL:UY.ok Tryz.prog:=ak Jm ZE
def an8:An:=.s .z (.s .z (.s .z (.s .z (.s .z (.j ⟨[6,7,1,2,8,9],[],[(7,[.own aM 99 false [], .own (.sc (.int .i64)) 3 false [], .own (.sc (.int .i64)) 3 false [], .own au 101 false [], .own au 101 false [], .own (.sc .str) 9 false [], .own (.sc .str) 9 false [], .own (.sc .str) 9 false []])],[]⟩ true (.s .z (.u (.s .z (.s .z (.s .z (.s .z (.s .z (.s .z (.s .z (.s .z (.s .z (.s .z (.s .z (.s .z (.s .z (.s .z (.s .z (.s .z (.s .z (.s .z (.s .z (.s .z (.s .z (.s .z (.j ⟨[6,7],[],[(7,[.own aM 99 false [], .own (.sc (.int .i64)) 3 false [], .own (.sc (.int .i64)) 3 false [], .own au 101 false [], .own au 101 false [], .own (.sc .str) 9 false [], .own (.sc .str) 9 false [], .own (.sc .str) 9 false []])],[]⟩ true (.s .z (.u (.l ⟨[6,7],[(10, .lf (.sc (.int .i64)))],[(7,[.own aM 99 false [], .own (.sc (.int .i64)) 3 false [], .own (.sc (.int .i64)) 3 false [], .own au 101 false [], .own au 101 false [], .own (.sc .str) 9 false [], .own (.sc .str) 9 false [], .own (.sc .str) 9 false []])],[]⟩ .z))) .z))))))))))))))))))))))))) .z)))))
def Xz:Ctr:=⟨⟨[.d bC, .d (.sc (.int .i64)), .d (.sc (.int .i64))],[bC],1,[],[⟨some 99,false,false⟩,⟨some 3,false,false⟩,⟨some 3,false,false⟩,⟨some 101,false,false⟩,⟨some 101,false,false⟩,⟨some 9,false,false⟩,⟨some 9,false,false⟩,⟨some 9,false,false⟩]⟩,fun x=>j5 x.1 x.2.1 x.2.2⟩
theorem aaW:Xz.sound Tryz.prog 8:=am JL aw Tryz.func8 (by kernel_rfl) (an:=an8) (fun x=>(by kernel_rfl:Xz.fn x=aJ UY Tryz.f8 an8 Xz.toSig x)) rfl
def cx8:Cx:=aC UY 8 Xz
theorem Qf:cx8.ok Tryz.prog:=ak JL aaW
def acV:An:=.z
def KW:Ctr:=⟨⟨[.d (.slice (.sc (.int .i64))), .d (.sc (.int .i64)), .d (.sc (.int .i64))],[(.sc (.int .i64))],1,[],[]⟩,fun x=>hU x.1 x.2.1 x.2.2⟩
theorem YK:KW.sound Tryz.prog 23:=am Qf aw Tryz.func23 (by kernel_rfl) (an:=acV) (fun x=>(by kernel_rfl:KW.fn x=aJ cx8 Tryz.f23 acV KW.toSig x)) rfl
def Tq:Cx:=aC cx8 23 KW
theorem JH:Tq.ok Tryz.prog:=ak Qf YK
def W9:An:=.z
def zK (k_:Nat):Ctr:=⟨⟨[.d (.sc (.int .i64))],[(.sc .str)],1,[],[]⟩,fun x=>jd k_ x⟩
def Xs:Ctr:=⟨⟨[.d (.sc (.int .i64))],[(.sc .str)],1,[],[]⟩,fun x=>da x⟩
theorem BZ : ∀ k,(zK k).sound Tryz.prog 194
 | 0=>fun x r h=>by
  have h1:none=some r:=h
  cases h1
 | k+1=>am (ak JH (BZ k)) aw Tryz.func194 (by kernel_rfl) (an:=W9) (fun x=>(by kernel_rfl:(zK (k+1)).fn x=aJ (aC Tq 194 (zK k)) Tryz.f194 W9 (zK (k+1)).toSig x)) rfl
theorem S5:Xs.sound Tryz.prog 194:=BZ 64
def Ny:Cx:=aC Tq 194 Xs
theorem GU:Ny.ok Tryz.prog:=ak JH S5
def Vz:An:=.z
def Ed:Ctr:=⟨⟨[.d (.sc (.int .i64))],[(.sc .str)],1,[],[]⟩,fun x=>cK x⟩
theorem Ve:Ed.sound Tryz.prog 155:=am GU aw Tryz.func155 (by kernel_rfl) (an:=Vz) (fun x=>(by kernel_rfl:Ed.fn x=aJ Ny Tryz.f155 Vz Ed.toSig x)) rfl
def OA:Cx:=aC Ny 155 Ed
theorem GV:OA.ok Tryz.prog:=ak GU Ve
def XJ:An:=.s .z (.s .z (.j ⟨[1],[(5, .lf (.own (.sc (.int .u8)) 1048581 false []))],[],[]⟩ true (.s .z (.u (.l ⟨[1],[(5, .lf (.own (.sc (.int .u8)) 1048581 false [])),(6, .lf (.sc (.int .i64)))],[],[]⟩ (.s .z (.j ⟨[1,6],[(5, .lf (.own (.sc (.int .u8)) 1048581 false []))],[],[]⟩ true .z .z))))) .z))
def CE:Ctr:=⟨⟨[.d (.sc .str), .d (.sc (.int .i64))],[(.sc .str)],1,[],[]⟩,fun x=>oK x.1 x.2⟩
theorem Vg:CE.sound Tryz.prog 200:=am GV aw Tryz.func200 (by kernel_rfl) (an:=XJ) (fun x=>(by kernel_rfl:CE.fn x=aJ OA Tryz.f200 XJ CE.toSig x)) rfl
def Om:Cx:=aC OA 200 CE
theorem Gy:Om.ok Tryz.prog:=ak GV Vg
def Wh:An:=.z
def CN:Ctr:=⟨⟨[.d (.sc .str), .d (.sc .str), .d (.sc (.int .i64)), .d (.sc .str)],[bR],1,[],[]⟩,fun x=>rk x.1 x.2.1 x.2.2.1 x.2.2.2⟩
theorem UV:CN.sound Tryz.prog 199:=am Gy aw Tryz.func199 (by kernel_rfl) (an:=Wh) (fun x=>(by kernel_rfl:CN.fn x=aJ Om Tryz.f199 Wh CN.toSig x)) rfl
def Ns:Cx:=aC Om 199 CN
theorem H4:Ns.ok Tryz.prog:=ak Gy UV
def Wu:An:=.s .z (.s .z (.j ⟨[0,1],[(5, .lf (.own bR 132 false []))],[],[]⟩ true (.s .z (.u (.l ⟨[0,1],[(5, .lf (.own bR 132 false [])),(6, .lf (.sc (.int .i64)))],[],[]⟩ .z))) .z))
def Ej:Ctr:=⟨⟨[.d (.sc (.int .i64)), .d (.slice (.arr 3 .str))],[(.slice bR)],1,[],[⟨some 132,false,false⟩]⟩,fun x=>cf x.1 x.2⟩
theorem Vq:Ej.sound Tryz.prog 154:=am H4 aw Tryz.func154 (by kernel_rfl) (an:=Wu) (fun x=>(by kernel_rfl:Ej.fn x=aJ Ns Tryz.f154 Wu Ej.toSig x)) rfl
def LR:Cx:=aC Ns 154 Ej
theorem HN:LR.ok Tryz.prog:=ak H4 Vq
def Xe:An:=.z
def D8:Ctr:=⟨⟨[.d (.sc (.int .i64)), .d (.sc (.int .i64)), .d (.sc (.int .i64))],[(.slice bR)],1,[],[⟨some 132,false,false⟩]⟩,fun x=>bT x.1 x.2.1 x.2.2⟩
theorem QU:D8.sound Tryz.prog 153:=am HN aw Tryz.func153 (by kernel_rfl) (an:=Xe) (fun x=>(by kernel_rfl:D8.fn x=aJ LR Tryz.f153 Xe D8.toSig x)) rfl
def MP:Cx:=aC LR 153 D8
theorem GR:MP.ok Tryz.prog:=ak HN QU
def ac0:An:=.s .z (.j ⟨[1,2,0],[],[],[]⟩ false (.s .z (.u (.j ⟨[0,1,2,7],[(8, .lf (.sc .bool))],[],[]⟩ true .z .z))) .z)
def K5:Ctr:=⟨⟨[.d (.sc (.int .i64)), .d (.sc (.int .i64)), .d (.sc (.int .i64))],[(.slice bR)],1,[],[⟨some 132,false,false⟩]⟩,fun x=>bS x.1 x.2.1 x.2.2⟩
theorem aaa:K5.sound Tryz.prog 94:=am GR aw Tryz.func94 (by kernel_rfl) (an:=ac0) (fun x=>(by kernel_rfl:K5.fn x=aJ MP Tryz.f94 ac0 K5.toSig x)) rfl
def Ud:Cx:=aC MP 94 K5
theorem Kv:Ud.ok Tryz.prog:=ak GR aaa
def acp:An:=.s .z (.s .z (.j ⟨[0,1],[(5, .lf (.own bR 132 false []))],[],[]⟩ true (.s .z (.u (.l ⟨[0,1],[(5, .lf (.own bR 132 false [])),(6, .lf (.sc (.int .i64)))],[],[]⟩ (.s .z (.j ⟨[0,1,6],[(5, .lf (.own bR 132 false []))],[],[]⟩ true (.u (.s .z (.j ⟨[0,1,5,6],[(7, .lf (.sc (.int .i64)))],[],[]⟩ true .z .z))) .z))))) .z))
def KY:Ctr:=⟨⟨[.d (.slice bR), .d (.sc (.int .i64))],[(.slice bR)],1,[],[⟨some 132,false,false⟩]⟩,fun x=>ly x.1 x.2⟩
theorem Zx:KY.sound Tryz.prog 95:=am Kv aw Tryz.func95 (by kernel_rfl) (an:=acp) (fun x=>(by kernel_rfl:KY.fn x=aJ Ud Tryz.f95 acp KY.toSig x)) rfl
def T2:Cx:=aC Ud 95 KY
theorem I0:T2.ok Tryz.prog:=ak Kv Zx
def adg:An:=.s .z (.s .z (.s .z (.j ⟨[0],[(3, .lf (.own bR 132 false []))],[],[4]⟩ true (.s .z (.u (.l ⟨[0],[(3, .lf (.own bR 132 false [])),(4, .lf (.sc .bool)),(5, .lf (.sc (.int .i64)))],[],[]⟩ (.s .z (.j ⟨[0,5],[(3, .lf (.own bR 132 false [])),(4, .lf (.sc .bool))],[],[]⟩ true .z .z))))) .z)))
def Nq:Ctr:=⟨⟨[.d (.slice (.sc (.int .i64)))],[(.slice bR)],1,[],[⟨some 132,false,false⟩]⟩,fun x=>iu x⟩
theorem Y0:Nq.sound Tryz.prog 40:=am I0 aw Tryz.func40 (by kernel_rfl) (an:=adg) (fun x=>(by kernel_rfl:Nq.fn x=aJ T2 Tryz.f40 adg Nq.toSig x)) rfl
def RY:Cx:=aC T2 40 Nq
theorem Jz:RY.ok Tryz.prog:=ak I0 Y0
def WU:An:=.z
def DN:Ctr:=⟨⟨[.d (.sc .str), .d (.sc (.int .i64))],[(.sc .bool)],1,[],[]⟩,fun x=>gr x.1 x.2⟩
theorem RT:DN.sound Tryz.prog 231:=am Jz aw Tryz.func231 (by kernel_rfl) (an:=WU) (fun x=>(by kernel_rfl:DN.fn x=aJ RY Tryz.f231 WU DN.toSig x)) rfl
def LY:Cx:=aC RY 231 DN
theorem EE:LY.ok Tryz.prog:=ak Jz RT
def Vy:An:=.z
def Eh:Ctr:=⟨⟨[.d (.sc .str), .d (.sc (.int .i64))],[(.sc .bool)],1,[],[]⟩,fun x=>fj x.1 x.2⟩
theorem Um:Eh.sound Tryz.prog 233:=am EE aw Tryz.func233 (by kernel_rfl) (an:=Vy) (fun x=>(by kernel_rfl:Eh.fn x=aJ LY Tryz.f233 Vy Eh.toSig x)) rfl
def NV:Cx:=aC LY 233 Eh
theorem Ez:NV.ok Tryz.prog:=ak EE Um
def Vw:An:=.s .z (.s .z (.s .z (.j ⟨[1,0],[(5, .lf (.sc (.int .i64)))],[],[]⟩ true (.u (.l ⟨[0,1],[(5, .lf (.sc (.int .i64)))],[],[]⟩ .z)) .z)))
def DI:Ctr:=⟨⟨[.d (.sc .str), .d (.sc (.int .i64))],[(.sc (.int .i64))],1,[],[]⟩,fun x=>mD x.1 x.2⟩
theorem S3:DI.sound Tryz.prog 232:=am Ez aw Tryz.func232 (by kernel_rfl) (an:=Vw) (fun x=>(by kernel_rfl:DI.fn x=aJ NV Tryz.f232 Vw DI.toSig x)) rfl
def ON:Cx:=aC NV 232 DI
theorem HB:ON.ok Tryz.prog:=ak Ez S3
def XM:An:=.s .z (.s .z (.j ⟨[0,3],[],[],[]⟩ false (.s .z (.u (.l ⟨[0,3],[(4, .lf (.sc (.int .i64)))],[],[]⟩ .z))) .z))
def Eb:Ctr:=⟨⟨[.d (.sc (.int .u8))],[(.sc .bool)],1,[],[]⟩,fun x=>qo x⟩
theorem Vc:Eb.sound Tryz.prog 234:=am HB aw Tryz.func234 (by kernel_rfl) (an:=XM) (fun x=>(by kernel_rfl:Eb.fn x=aJ ON Tryz.f234 XM Eb.toSig x)) rfl
def MZ:Cx:=aC ON 234 Eb
theorem Ib:MZ.ok Tryz.prog:=ak HB Vc
def Wd:An:=.s .z (.s .z (.s .z (.j ⟨[0,1],[],[],[]⟩ false (.s .z (.s (.s .z (.j ⟨[1,0],[(5, .lf (.sc (.int .i64)))],[],[]⟩ true (.u (.l ⟨[0,1],[(5, .lf (.sc (.int .i64)))],[],[]⟩ .z)) .z)) .z)) .z)))
def Cp:Ctr:=⟨⟨[.d (.sc .str), .d (.sc (.int .i64))],[(.sc (.int .i64))],1,[],[]⟩,fun x=>qr x.1 x.2⟩
theorem Q8:Cp.sound Tryz.prog 186:=am Ib aw Tryz.func186 (by kernel_rfl) (an:=Wd) (fun x=>(by kernel_rfl:Cp.fn x=aJ MZ Tryz.f186 Wd Cp.toSig x)) rfl
def N5:Cx:=aC MZ 186 Cp
theorem GC:N5.ok Tryz.prog:=ak Ib Q8
end
end Go.Proofs.YtfhhiajfciblbaaGreatDoor
