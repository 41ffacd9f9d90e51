/- Laws for the row. No condition. -/
import Derived.Test.YtfhhiajfciblbaaGreatDoorCtD
namespace Go.Proofs.YtfhhiajfciblbaaGreatDoor
open Go.Sm
set_option maxRecDepth 100000
set_option linter.unusedSectionVars false
section
variable [Itr] [SortLaw]
def aap:An:=.s .z (.s .z (.u (Qq1 4 (.j ⟨[0,3,5],[(40,.lf (.sc .bool))],[],[]⟩ true .z (.s (.k [] [] []) .z)))))
def Cl (k_:Nat):Ctr:=⟨⟨c40,[bh],0,[0],[⟨some 99,false,false⟩,⟨some 3,false,false⟩,⟨some 3,false,false⟩,⟨none,true,true⟩,⟨none,true,true⟩,⟨none,true,true⟩,⟨none,true,true⟩,⟨none,true,true⟩,⟨some 9,false,false⟩]⟩,fun x=>cQ k_ x.1 x.2⟩
def abH:Ctr:=⟨⟨c40,[bh],0,[0],[⟨some 99,false,false⟩,⟨some 3,false,false⟩,⟨some 3,false,false⟩,⟨none,true,true⟩,⟨none,true,true⟩,⟨none,true,true⟩,⟨none,true,true⟩,⟨none,true,true⟩,⟨some 9,false,false⟩]⟩,fun x=>ce x.1 x.2⟩
theorem EM : ∀ k,(Cl k).sound Tryz.prog 197
 | 0=>fun x r h=>by
  have h1:none=some r:=h
  cases h1
 | k+1=>aj (ai MO (EM k)) aq Tryz.func197 (by kernel_rfl) (an:=aap) (fun x=>(by kernel_rfl:(Cl (k+1)).fn x=aL (aI YP 197 (Cl k)) Tryz.f197 aap (Cl (k+1)).toSig x)) rfl
theorem Ze:abH.sound Tryz.prog 197:=EM 64
def BT:Cx:=aI YP 197 abH
theorem wZ:Qq0 BT:=ai MO Ze
def agO:An:=.s .z (.s .z (.u (.l ⟨[0,3],[(4,.lf (.sc pi))],[(0,c29)],[]⟩ .z)))
def uM (k_:Nat):Ctr:=⟨⟨c40,[bh],0,[0],[⟨some 99,false,false⟩,⟨some 3,false,false⟩,⟨some 3,false,false⟩,⟨none,true,true⟩,⟨none,true,true⟩,⟨none,true,true⟩,⟨none,true,true⟩,⟨none,true,true⟩,⟨some 9,false,false⟩]⟩,fun x=>cy k_ x.1 x.2⟩
def ah0:Ctr:=⟨⟨c40,[bh],0,[0],[⟨some 99,false,false⟩,⟨some 3,false,false⟩,⟨some 3,false,false⟩,⟨none,true,true⟩,⟨none,true,true⟩,⟨none,true,true⟩,⟨none,true,true⟩,⟨none,true,true⟩,⟨some 9,false,false⟩]⟩,fun x=>kC x.1 x.2⟩
def acY:An:=Qq1 6 (.j ⟨[0,3,5,4],[],[(0,c27)],[]⟩ true .z .z)
def yg (k:Nat):Ctr:=⟨⟨c40,[bh],0,[0],[⟨some 99,false,false⟩,⟨some 3,false,false⟩,⟨some 3,false,false⟩,⟨none,true,true⟩,⟨none,true,true⟩,⟨none,true,true⟩,⟨none,true,true⟩,⟨none,true,true⟩,⟨some 9,false,false⟩]⟩,fun x=>dL ( cy k) x.1 x.2⟩
theorem Ea (k:Nat) (h:(uM k).sound Tryz.prog 92):(yg k).sound Tryz.prog 198:=aj (ai wZ h) aq Tryz.func198 (by kernel_rfl) (an:=acY) (fun x=>(by kernel_rfl:(yg k).fn x=aL (aI BT 92 (uM k)) Tryz.f198 acY (yg k).toSig x)) rfl
def aas:An:=Qq1 3 (.u (.s .z (.s .z (.s .z (.s (.s .z (.k [] [] [])) (.j ⟨[0,3,4,12],[(53,.lf (.sc .bool))],[],[]⟩ true .z (.s .z (.s .z (.s (.k [] [] []) (.s .z (.s (.k [] [] []) (.s .z (.s .z (.s .z (.s (.k [0,1000000] [] []) (.s .z (.s (.k [] [] []) (.s .z (.s (.k [] [] []) (.s .z (.s (.k [0,1000000] [] []) (.s .z (.s .z (.s .z (.s .z (.s .z (.s (.s .z (.k [] [] [])) (.s .z (.s (.k [0,1000000] [] []) (.s .z (.s (.s .z (.s (.k [] [] []) .z)) .z)))))))))))))))))))))))))))))))
def Cr (k:Nat):Ctr:=⟨⟨c40,[bh],0,[0],[⟨some 99,false,false⟩,⟨some 3,false,false⟩,⟨some 3,false,false⟩,⟨none,true,true⟩,⟨none,true,true⟩,⟨none,true,true⟩,⟨none,true,true⟩,⟨none,true,true⟩,⟨some 9,false,false⟩]⟩,fun x=>cP ( cy k) x.1 x.2⟩
theorem TS (k:Nat) (h:(uM k).sound Tryz.prog 92):(Cr k).sound Tryz.prog 152:=aj (ai (ai wZ h) (Ea k h)) aq Tryz.func152 (by kernel_rfl) (an:=aas) (fun x=>(by kernel_rfl:(Cr k).fn x=aL (aI (aI BT 92 (uM k)) 198 (yg k)) Tryz.f152 aas (Cr k).toSig x)) rfl
theorem xe : ∀ k,(uM k).sound Tryz.prog 92
 | 0=>fun x r h=>by
  have h1:none=some r:=h
  cases h1
 | k+1=>aj (ai (ai (ai wZ (xe k)) (Ea k (xe k))) (TS k (xe k))) aq Tryz.func92 (by kernel_rfl) (an:=agO) (fun x=>(by kernel_rfl:(uM (k+1)).fn x=aL (aI (aI (aI BT 92 (uM k)) 198 (yg k)) 152 (Cr k)) Tryz.f92 agO (uM (k+1)).toSig x)) rfl
theorem adI:ah0.sound Tryz.prog 92:=xe 64
def VT:Cx:=aI BT 92 ah0
theorem Mz:Qq0 VT:=ai wZ adI
def aby:An:=.s .z (.s .z (.j ⟨[0,3],[(5,.lf (.sc pi))],[],[]⟩ true (.u (.l ⟨[0,3],[(5,.lf (.sc pi))],[],[]⟩ .z)) .z))
def GJ:Ctr:=⟨⟨[.d (.slice aA),.d aA],[(.slice aA)],1,[],[⟨some 101,false,false⟩]⟩,fun x=>kD x.1 x.2⟩
def Or:Cx:=aI VT 150 GJ
theorem Jp:Qq0 Or:=ai Mz (Qq2 Mz Tryz.func150 (by kernel_rfl) aby (fun x=>by kernel_rfl) rfl)
def afU:An:=.s .z (.s .z (.j ⟨[1,4,5,0],[],[(5,c30)],[]⟩ true (.s .z (.u (.l ⟨[0,1,4,5],[(6,.lf (.sc pi))],[(5,c30)],[]⟩ (.s .z (.j ⟨[0,1,4,5,6],[],[(5,c30)],[]⟩ true (.u (.s .z (.s .z (.u (Qq1 3 (.s (.s .z (.u (.l ⟨[0,1,4,5,6,7],[(10,.lf (.sc pi))],[(5,c30)],[]⟩ .z))) .z)))))) .z))))) .z))
def QP:Ctr:=⟨⟨[.d (.slice cp),.d (.sc .str)],[bw],1,[],[⟨some 99,false,false⟩,⟨some 3,false,false⟩,⟨some 3,false,false⟩,⟨some 101,false,false⟩,⟨some 101,false,false⟩,⟨some 9,false,false⟩,⟨some 9,false,false⟩,⟨some 9,false,false⟩]⟩,fun x=>kU x.1 x.2⟩
def Xb:Cx:=aI Or 90 QP
theorem NI:Qq0 Xb:=ai Jp (Qq2 Jp Tryz.func90 (by kernel_rfl) afU (fun x=>by kernel_rfl) rfl)
def afF:An:=Qq1 6 (.j ⟨[4,11],[],[(11,c28)],[6]⟩ true (.s .z (.u (.l ⟨[4,6,11],[(12,.lf (.sc pi))],[(11,c28)],[]⟩ (.s .z (.j ⟨[4,6,11,12],[],[(11,c26)],[]⟩ true (.u (.s .z (.s .z (.s .z (.s .z (.s .z (.s .z (.j ⟨[4,6,11,12],[],[(11,c26)],[]⟩ true .z .z)))))))) .z))))) .z)
def O7:Ctr:=⟨⟨[.d (.slice cp),.d (.sc .str)],[bw,(.sc pi)],2,[],[⟨some 99,false,false⟩,⟨some 3,false,false⟩,⟨some 3,false,false⟩,⟨none,false,true⟩,⟨none,false,true⟩,⟨none,false,true⟩,⟨none,false,true⟩,⟨none,false,true⟩]⟩,fun x=>gP x.1 x.2⟩
def VK:Cx:=aI Xb 39 O7
theorem Mu:Qq0 VK:=ai NI (Qq2 NI Tryz.func39 (by kernel_rfl) afF (fun x=>by kernel_rfl) rfl)
def an7:An:=.z
def ct7:Ctr:=⟨⟨[.d (.slice (.sc pi))],[bw],1,[],[⟨some 99,false,false⟩,⟨some 3,false,false⟩,⟨some 3,false,false⟩,⟨none,false,true⟩,⟨none,false,true⟩,⟨none,false,true⟩,⟨none,false,true⟩,⟨none,false,true⟩]⟩,fun x=>jB x⟩
def cx7:Cx:=aI VK 7 ct7
theorem T2:Qq0 cx7:=ai Mu (Qq2 Mu Tryz.func7 (by kernel_rfl) an7 (fun x=>by kernel_rfl) rfl)
def ahH:An:=.z
def Qz:Ctr:=⟨⟨[.d bw],[eH],1,[],[⟨none,true,false⟩,⟨none,true,false⟩,⟨none,true,false⟩,⟨none,true,false⟩,⟨none,true,false⟩,⟨none,true,false⟩,⟨none,true,false⟩,⟨none,true,false⟩]⟩,fun x=>fG x⟩
def Wl:Cx:=aI cx7 13 Qz
theorem NC:Qq0 Wl:=ai T2 (Qq2 T2 Tryz.func13 (by kernel_rfl) ahH (fun x=>by kernel_rfl) rfl)
def afG:An:=Qq1 3 (.j ⟨[2,4,3],[],[(4,c24)],[]⟩ true (.s .z (.u (.l ⟨[2,3,4],[(5,.lf (.sc pi))],[(4,c24)],[]⟩ (.s .z (.j ⟨[2,3,4,5],[],[(4,[.own ba 118 false [1000003,1000004],.own (.sc pi) 3 false [],.own (.slice (.sc pi)) 360314358468706326 false [],.own (.sc pi) 3 false [],.own (.sc pi) 3 false [],.sc pi,.sc pi,.sc pi,.sc pi,.sc pi,.sc pi,.sc pi,.sc pi,.sc .str])],[]⟩ true (.u (.s .z (.j ⟨[2,3,4,5,6],[],[(6,c37)],[]⟩ true (.s .z (.u (.l ⟨[2,3,4,5,6],[(7,.lf (.sc pi))],[(6,c37)],[]⟩ .z))) .z))) .z))))) .z)
def OY:Ctr:=⟨⟨[.d bQ],[dp],1,[],[⟨some 118,false,true⟩,⟨some 3,false,false⟩,⟨some 360314358468706326,false,false⟩,⟨some 3,false,false⟩,⟨some 3,false,false⟩]⟩,fun x=>kw x⟩
def Yu:Cx:=aI Wl 19 OY
theorem Nt:Qq0 Yu:=ai NC (Qq2 NC Tryz.func19 (by kernel_rfl) afG (fun x=>by kernel_rfl) rfl)
def af7:An:=.z
def SB:Ctr:=⟨⟨[.d nP],[fF],1,[],[⟨none,true,false⟩]⟩,fun x=>om x⟩
def Xq:Cx:=aI Yu 22 SB
theorem NY:Qq0 Xq:=ai Nt (Qq2 Nt Tryz.func22 (by kernel_rfl) af7 (fun x=>by kernel_rfl) rfl)
def age:An:=.z
def RD:Ctr:=⟨⟨[.d fF,.d fF],[(.sc .bool)],1,[],[]⟩,fun x=>iX x.1 x.2⟩
def WU:Cx:=aI Xq 21 RD
theorem NJ:Qq0 WU:=ai NY (Qq2 NY Tryz.func21 (by kernel_rfl) age (fun x=>by kernel_rfl) rfl)
def agt:An:=.s .z (.s .z (.j ⟨[0],[(3,.lf (.own aK 149 false []))],[],[]⟩ true (.s .z (.u (.l ⟨[0],[(3,.lf (.own aK 149 false [])),(4,.lf (.sc pi))],[],[]⟩ .z))) .z))
def QM:Ctr:=⟨⟨[.d (.slice ae)],[(.slice aK)],1,[],[⟨some 149,false,false⟩]⟩,fun x=>jf x⟩
def YM:Cx:=aI WU 27 QM
theorem NU:Qq0 YM:=ai NJ (Qq2 NJ Tryz.func27 (by kernel_rfl) agt (fun x=>by kernel_rfl) rfl)
def ain:An:=.s .z (.s .z (.j ⟨[0,1],[],[],[]⟩ false (.s .z (.u (.l ⟨[0,1],[(5,.lf (.sc pi))],[],[]⟩ .z))) .z))
def OU:Ctr:=⟨⟨[.d (.slice aK),.d (.slice aK)],[(.sc .bool)],1,[],[]⟩,fun x=>gC x.1 x.2⟩
def Vz:Cx:=aI YM 26 OU
theorem MB:Qq0 Vz:=ai NU (Qq2 NU Tryz.func26 (by kernel_rfl) ain (fun x=>by kernel_rfl) rfl)
def af2:An:=Qq1 10 (.j ⟨[5,4],[],[(5,c21)],[]⟩ false (.s .z (.u (.l ⟨[4,5],[(9,.lf (.sc pi))],[(5,c21)],[]⟩ .z))) .z)
def OH:Ctr:=⟨⟨[],[(.sc .bool)],1,[],[]⟩,fun _=>oa ⟩
def afW:Cx:=aI Vz 17 OH
theorem aed:Qq0 afW:=ai MB (Qq2 MB Tryz.func17 (by kernel_rfl) af2 (fun x=>by kernel_rfl) rfl)
def an4:An:=Qq1 4 (.j ⟨[13,3,4,11,12],[],[(13,c20)],[14]⟩ false (.s .z (.u (.l ⟨[3,4,11,12,13],[(14,.lf (.sc pi)),(15,.lf (.sc pi))],[(13,c20)],[]⟩ (.s .z (.j ⟨[3,4,11,12,13,15],[(14,.lf (.sc pi))],[(13,c20)],[]⟩ false (.u (.s .z (.s .z (.s .z (.s .z (.s .z (.j ⟨[3,4,11,12,13,15,20],[(21,.lf (.own (.sc pi) 3 false []))],[],[]⟩ true .z (.j ⟨[3,4,11,12,13,15,20],[],[],[21]⟩ false (.s .z (.u (.l ⟨[3,4,11,12,13,15,20,21],[(22,.lf (.sc pi))],[],[]⟩ .z))) .z)))))))) .z))))) .z)
def ct4:Ctr:=⟨⟨[.d (.slice (.sc pi)),.d (.slice (.sc pi)),.d (.sc pi),.d (.slice (.sc pi)),.d (.sc pi)],[(.sc .bool)],1,[],[]⟩,fun x=>jV x.1 x.2.1 x.2.2.1 x.2.2.2.1 x.2.2.2.2⟩
theorem aiw:ct4.sound Tryz.prog 4:=Qq2 aed Tryz.func4 (by kernel_rfl) an4 (fun x=>by kernel_rfl) rfl
end
end Go.Proofs.YtfhhiajfciblbaaGreatDoor
