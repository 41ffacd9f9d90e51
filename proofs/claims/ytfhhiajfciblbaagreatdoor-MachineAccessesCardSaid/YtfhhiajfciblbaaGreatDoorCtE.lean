/- Laws for the row. No condition. -/
import Derived.Test.YtfhhiajfciblbaaGreatDoorCtD
namespace Go.Proofs.YtfhhiajfciblbaaGreatDoor
open Go.Sm
set_option maxRecDepth 100000
set_option linter.unusedSectionVars false
section
variable [Itr] [SortLaw]
def abk:An:=.s .z (.s .z (.u (Qq1 4 (.j ⟨[0,3,5],[(40,.lf (.sc .bool))],[],[]⟩ true .z (.s (.k [] [] []) .z)))))
def B9 (k_:Nat):Ctr:=⟨⟨c41,[bo],0,[0],[⟨some 99,false,false⟩,⟨some 3,false,false⟩,⟨some 3,false,false⟩,⟨none,true,true⟩,⟨none,true,true⟩,⟨none,true,true⟩,⟨none,true,true⟩,⟨none,true,true⟩,⟨some 9,false,false⟩]⟩,fun x=>cS k_ x.1 x.2⟩
def adO:Ctr:=⟨⟨c41,[bo],0,[0],[⟨some 99,false,false⟩,⟨some 3,false,false⟩,⟨some 3,false,false⟩,⟨none,true,true⟩,⟨none,true,true⟩,⟨none,true,true⟩,⟨none,true,true⟩,⟨none,true,true⟩,⟨some 9,false,false⟩]⟩,fun x=>cg x.1 x.2⟩
theorem Fv : ∀ k,(B9 k).sound Tryz.prog 197
 | 0=>fun x r h=>by
  have h1:none=some r:=h
  cases h1
 | k+1=>aj (ai NP (Fv k)) au Tryz.func197 (by kernel_rfl) (an:=abk) (fun x=>(by kernel_rfl:(B9 (k+1)).fn x=aM (aI WI 197 (B9 k)) Tryz.f197 abk (B9 (k+1)).toSig x)) rfl
theorem Zf:adO.sound Tryz.prog 197:=Fv 64
def Cl:Cx:=aI WI 197 adO
theorem xR:Qq0 Cl:=ai NP Zf
def aiZ:An:=.s .z (.s .z (.u (.l ⟨[0,3],[(4,.lf (.sc pi))],[(0,c30)],[]⟩ .z)))
def vd (k_:Nat):Ctr:=⟨⟨c41,[bo],0,[0],[⟨some 99,false,false⟩,⟨some 3,false,false⟩,⟨some 3,false,false⟩,⟨none,true,true⟩,⟨none,true,true⟩,⟨none,true,true⟩,⟨none,true,true⟩,⟨none,true,true⟩,⟨some 9,false,false⟩]⟩,fun x=>cA k_ x.1 x.2⟩
def ahK:Ctr:=⟨⟨c41,[bo],0,[0],[⟨some 99,false,false⟩,⟨some 3,false,false⟩,⟨some 3,false,false⟩,⟨none,true,true⟩,⟨none,true,true⟩,⟨none,true,true⟩,⟨none,true,true⟩,⟨none,true,true⟩,⟨some 9,false,false⟩]⟩,fun x=>kV x.1 x.2⟩
def abE:An:=Qq1 6 (.j ⟨[0,3,5,4],[],[(0,c28)],[]⟩ true .z .z)
def y5 (k:Nat):Ctr:=⟨⟨c41,[bo],0,[0],[⟨some 99,false,false⟩,⟨some 3,false,false⟩,⟨some 3,false,false⟩,⟨none,true,true⟩,⟨none,true,true⟩,⟨none,true,true⟩,⟨none,true,true⟩,⟨none,true,true⟩,⟨some 9,false,false⟩]⟩,fun x=>dZ ( cA k) x.1 x.2⟩
theorem E0 (k:Nat) (h:(vd k).sound Tryz.prog 92):(y5 k).sound Tryz.prog 198:=aj (ai xR h) au Tryz.func198 (by kernel_rfl) (an:=abE) (fun x=>(by kernel_rfl:(y5 k).fn x=aM (aI Cl 92 (vd k)) Tryz.f198 abE (y5 k).toSig x)) rfl
def abS:An:=Qq1 3 (.u (.s .z (.s .z (.s .z (.s (.s .z (.k [] [] [])) (.j ⟨[0,3,4,12],[(53,.lf (.sc .bool))],[],[]⟩ true .z (.s .z (.s .z (.s (.k [] [] []) (.s .z (.s (.k [] [] []) (.s .z (.s .z (.s .z (.s (.k [0,1000000] [] []) (.s .z (.s (.k [] [] []) (.s .z (.s (.k [] [] []) (.s .z (.s (.k [0,1000000] [] []) (.s .z (.s .z (.s .z (.s .z (.s .z (.s (.s .z (.k [] [] [])) (.s .z (.s (.k [0,1000000] [] []) (.s .z (.s (.s .z (.s (.k [] [] []) .z)) .z)))))))))))))))))))))))))))))))
def Cz (k:Nat):Ctr:=⟨⟨c41,[bo],0,[0],[⟨some 99,false,false⟩,⟨some 3,false,false⟩,⟨some 3,false,false⟩,⟨none,true,true⟩,⟨none,true,true⟩,⟨none,true,true⟩,⟨none,true,true⟩,⟨none,true,true⟩,⟨some 9,false,false⟩]⟩,fun x=>cQ ( cA k) x.1 x.2⟩
theorem UJ (k:Nat) (h:(vd k).sound Tryz.prog 92):(Cz k).sound Tryz.prog 152:=aj (ai (ai xR h) (E0 k h)) au Tryz.func152 (by kernel_rfl) (an:=abS) (fun x=>(by kernel_rfl:(Cz k).fn x=aM (aI (aI Cl 92 (vd k)) 198 (y5 k)) Tryz.f152 abS (Cz k).toSig x)) rfl
theorem xV : ∀ k,(vd k).sound Tryz.prog 92
 | 0=>fun x r h=>by
  have h1:none=some r:=h
  cases h1
 | k+1=>aj (ai (ai (ai xR (xV k)) (E0 k (xV k))) (UJ k (xV k))) au Tryz.func92 (by kernel_rfl) (an:=aiZ) (fun x=>(by kernel_rfl:(vd (k+1)).fn x=aM (aI (aI (aI Cl 92 (vd k)) 198 (y5 k)) 152 (Cz k)) Tryz.f92 aiZ (vd (k+1)).toSig x)) rfl
theorem afA:ahK.sound Tryz.prog 92:=xV 64
def XG:Cx:=aI Cl 92 ahK
theorem Pd:Qq0 XG:=ai xR afA
def acs:An:=.s .z (.s .z (.j ⟨[0,3],[(5,.lf (.sc pi))],[],[]⟩ true (.u (.l ⟨[0,3],[(5,.lf (.sc pi))],[],[]⟩ .z)) .z))
def Hi:Ctr:=⟨⟨[.d (.slice az),.d az],[(.slice az)],1,[],[⟨some 101,false,false⟩]⟩,fun x=>lb x.1 x.2⟩
def Q5:Cx:=aI XG 150 Hi
theorem KC:Qq0 Q5:=ai Pd (Qq2 Pd Tryz.func150 (by kernel_rfl) acs (fun x=>by kernel_rfl) rfl)
def ahR:An:=.s .z (.s .z (.j ⟨[1,4,5,0],[],[(5,c31)],[]⟩ true (.s .z (.u (.l ⟨[0,1,4,5],[(6,.lf (.sc pi))],[(5,c31)],[]⟩ (.s .z (.j ⟨[0,1,4,5,6],[],[(5,c31)],[]⟩ true (.u (.s .z (.s .z (.u (Qq1 3 (.s (.s .z (.u (.l ⟨[0,1,4,5,6,7],[(10,.lf (.sc pi))],[(5,c31)],[]⟩ .z))) .z)))))) .z))))) .z))
def Re:Ctr:=⟨⟨[.d (.slice cu),.d (.sc .str)],[bB],1,[],[⟨some 99,false,false⟩,⟨some 3,false,false⟩,⟨some 3,false,false⟩,⟨some 101,false,false⟩,⟨some 101,false,false⟩,⟨some 9,false,false⟩,⟨some 9,false,false⟩,⟨some 9,false,false⟩]⟩,fun x=>lv x.1 x.2⟩
def ZJ:Cx:=aI Q5 90 Re
theorem N2:Qq0 ZJ:=ai KC (Qq2 KC Tryz.func90 (by kernel_rfl) ahR (fun x=>by kernel_rfl) rfl)
def aii:An:=Qq1 6 (.j ⟨[4,11],[],[(11,c29)],[6]⟩ true (.s .z (.u (.l ⟨[4,6,11],[(12,.lf (.sc pi))],[(11,c29)],[]⟩ (.s .z (.j ⟨[4,6,11,12],[],[(11,c27)],[]⟩ true (.u (.s .z (.s .z (.s .z (.s .z (.s .z (.s .z (.j ⟨[4,6,11,12],[],[(11,c27)],[]⟩ true .z .z)))))))) .z))))) .z)
def Rj:Ctr:=⟨⟨[.d (.slice cu),.d (.sc .str)],[bB,(.sc pi)],2,[],[⟨some 99,false,false⟩,⟨some 3,false,false⟩,⟨some 3,false,false⟩,⟨none,false,true⟩,⟨none,false,true⟩,⟨none,false,true⟩,⟨none,false,true⟩,⟨none,false,true⟩]⟩,fun x=>iy x.1 x.2⟩
def W2:Cx:=aI ZJ 39 Rj
theorem NQ:Qq0 W2:=ai N2 (Qq2 N2 Tryz.func39 (by kernel_rfl) aii (fun x=>by kernel_rfl) rfl)
def an7:An:=.z
def ct7:Ctr:=⟨⟨[.d (.slice (.sc pi))],[bB],1,[],[⟨some 99,false,false⟩,⟨some 3,false,false⟩,⟨some 3,false,false⟩,⟨none,false,true⟩,⟨none,false,true⟩,⟨none,false,true⟩,⟨none,false,true⟩,⟨none,false,true⟩]⟩,fun x=>jO x⟩
def cx7:Cx:=aI W2 7 ct7
theorem Vu:Qq0 cx7:=ai NQ (Qq2 NQ Tryz.func7 (by kernel_rfl) an7 (fun x=>by kernel_rfl) rfl)
def ahy:An:=.z
def QO:Ctr:=⟨⟨[.d bB],[eX],1,[],[⟨none,true,false⟩,⟨none,true,false⟩,⟨none,true,false⟩,⟨none,true,false⟩,⟨none,true,false⟩,⟨none,true,false⟩,⟨none,true,false⟩,⟨none,true,false⟩]⟩,fun x=>kD x⟩
def aae:Cx:=aI cx7 13 QO
theorem N6:Qq0 aae:=ai Vu (Qq2 Vu Tryz.func13 (by kernel_rfl) ahy (fun x=>by kernel_rfl) rfl)
def aiV:An:=Qq1 3 (.j ⟨[2,4,3],[],[(4,c25)],[]⟩ true (.s .z (.u (.l ⟨[2,3,4],[(5,.lf (.sc pi))],[(4,c25)],[]⟩ (.s .z (.j ⟨[2,3,4,5],[],[(4,[.own aV 118 false [1000003,1000004],.own (.sc pi) 3 false [],.own (.slice (.sc pi)) 360314358468706326 false [],.own (.sc pi) 3 false [],.own (.sc pi) 3 false [],.sc pi,.sc pi,.sc pi,.sc pi,.sc pi,.sc pi,.sc pi,.sc pi,.sc .str])],[]⟩ true (.u (.s .z (.j ⟨[2,3,4,5,6],[],[(6,c38)],[]⟩ true (.s .z (.u (.l ⟨[2,3,4,5,6],[(7,.lf (.sc pi))],[(6,c38)],[]⟩ .z))) .z))) .z))))) .z)
def Sy:Ctr:=⟨⟨[.d ce],[dA],1,[],[⟨some 118,false,true⟩,⟨some 3,false,false⟩,⟨some 360314358468706326,false,false⟩,⟨some 3,false,false⟩,⟨some 3,false,false⟩]⟩,fun x=>lr x⟩
def Ye:Cx:=aI aae 19 Sy
theorem Ow:Qq0 Ye:=ai N6 (Qq2 N6 Tryz.func19 (by kernel_rfl) aiV (fun x=>by kernel_rfl) rfl)
def ahD:An:=Qq1 10 (.j ⟨[5,4],[],[(5,c21)],[]⟩ false (.s .z (.u (.l ⟨[4,5],[(9,.lf (.sc pi))],[(5,c21)],[]⟩ .z))) .z)
def Pw:Ctr:=⟨⟨[],[(.sc .bool)],1,[],[]⟩,fun _=>mn ⟩
def WR:Cx:=aI Ye 17 Pw
theorem Nw:Qq0 WR:=ai Ow (Qq2 Ow Tryz.func17 (by kernel_rfl) ahD (fun x=>by kernel_rfl) rfl)
def aiy:An:=.s .z (.j ⟨[0,1,2,3],[],[],[]⟩ false (.s .z (.u (.l ⟨[0,1,2,3],[(9,.lf (.sc pi))],[],[]⟩ .z))) .z)
def QP:Ctr:=⟨⟨[.d (.slice ae),.d (.sc pi),.d (.sc pi),.d (.sc .bool)],[(.sc .bool)],1,[],[]⟩,fun x=>fP x.1 x.2.1 x.2.2.1 x.2.2.2⟩
def aax:Cx:=aI WR 31 QP
theorem NX:Qq0 aax:=ai Nw (Qq2 Nw Tryz.func31 (by kernel_rfl) aiy (fun x=>by kernel_rfl) rfl)
def ahB:An:=.s .z (.s .z (.j ⟨[0,1,2,3],[],[],[]⟩ false (.s .z (.u (.l ⟨[0,1,2,3],[(9,.lf (.sc pi))],[],[]⟩ .z))) .z))
def QK:Ctr:=⟨⟨[.d (.slice ae),.d (.sc pi),.d (.slice (.sc pi)),.d (.slice (.sc pi))],[(.sc .bool)],1,[],[]⟩,fun x=>iL x.1 x.2.1 x.2.2.1 x.2.2.2⟩
def aaY:Cx:=aI aax 29 QK
theorem NZ:Qq0 aaY:=ai NX (Qq2 NX Tryz.func29 (by kernel_rfl) ahB (fun x=>by kernel_rfl) rfl)
def ahp:An:=.s .z (.s .z (.j ⟨[0,1],[],[],[]⟩ false (.s .z (.u (.l ⟨[0,1],[(5,.lf (.sc pi))],[],[]⟩ .z))) .z))
def PX:Ctr:=⟨⟨[.d (.slice (.sc pi)),.d (.slice (.sc pi))],[(.sc .bool)],1,[],[]⟩,fun x=>dF x.1 x.2⟩
def YP:Cx:=aI aaY 30 PX
theorem OJ:Qq0 YP:=ai NZ (Qq2 NZ Tryz.func30 (by kernel_rfl) ahp (fun x=>by kernel_rfl) rfl)
def ahZ:An:=.s .z (.s .z (.j ⟨[0],[(3,.lf (.own aL 149 false []))],[],[]⟩ true (.s .z (.u (.l ⟨[0],[(3,.lf (.own aL 149 false [])),(4,.lf (.sc pi))],[],[]⟩ .z))) .z))
def QU:Ctr:=⟨⟨[.d (.slice ae)],[(.slice aL)],1,[],[⟨some 149,false,false⟩]⟩,fun x=>gO x⟩
def YQ:Cx:=aI YP 27 QU
theorem O4:Qq0 YQ:=ai OJ (Qq2 OJ Tryz.func27 (by kernel_rfl) ahZ (fun x=>by kernel_rfl) rfl)
def aig:An:=.s .z (.s .z (.j ⟨[0,1],[],[],[]⟩ false (.s .z (.u (.l ⟨[0,1],[(5,.lf (.sc pi))],[],[]⟩ .z))) .z))
def SB:Ctr:=⟨⟨[.d (.slice aL),.d (.slice aL)],[(.sc .bool)],1,[],[]⟩,fun x=>gT x.1 x.2⟩
def Yu:Cx:=aI YQ 26 SB
theorem Od:Qq0 Yu:=ai O4 (Qq2 O4 Tryz.func26 (by kernel_rfl) aig (fun x=>by kernel_rfl) rfl)
def ahM:An:=.z
def Se:Ctr:=⟨⟨[.d oz],[f6],1,[],[⟨none,true,false⟩]⟩,fun x=>ml x⟩
def aay:Cx:=aI Yu 22 Se
theorem Ns:Qq0 aay:=ai Od (Qq2 Od Tryz.func22 (by kernel_rfl) ahM (fun x=>by kernel_rfl) rfl)
def ail:An:=.z
def S4:Ctr:=⟨⟨[.d f6,.d f6],[(.sc .bool)],1,[],[]⟩,fun x=>jp x.1 x.2⟩
def ai5:Cx:=aI aay 21 S4
theorem afJ:Qq0 ai5:=ai Ns (Qq2 Ns Tryz.func21 (by kernel_rfl) ail (fun x=>by kernel_rfl) rfl)
def an5:An:=Qq1 11 (.j ⟨[5,14,15,16,19,20,21],[],[],[]⟩ false (.s .z (.u (.l ⟨[5,14,15,16,19,20,21],[(23,.lf (.sc pi))],[],[]⟩ .z))) (.s .z (.j ⟨[5,14,15,19,20,21,24],[],[(24,c24)],[]⟩ true (.s .z (.u (.l ⟨[5,14,15,19,20,21,24],[(25,.lf (.sc pi))],[(24,c24)],[]⟩ (.s .z (.j ⟨[5,14,15,19,20,21,24,25],[],[(24,c24)],[]⟩ true .z .z))))) (.j ⟨[14,15,19,20,21,24,5],[],[(24,c24)],[]⟩ true (.s .z (.u (.l ⟨[5,14,15,19,20,21,24],[(26,.lf (.sc pi))],[(24,c24)],[]⟩ (.s .z (.j ⟨[5,14,15,19,20,21,24,26],[],[(24,c24)],[]⟩ true .z .z))))) .z))))
def ct5:Ctr:=⟨⟨[.d (.slice (.sc pi)),.d (.slice (.sc pi)),.d (.sc pi),.d (.slice (.sc pi)),.d (.sc pi),.d (.sc pi)],[(.sc .bool)],1,[],[]⟩,fun x=>jd x.1 x.2.1 x.2.2.1 x.2.2.2.1 x.2.2.2.2.1 x.2.2.2.2.2⟩
theorem aji:ct5.sound Tryz.prog 5:=Qq2 afJ Tryz.func5 (by kernel_rfl) an5 (fun x=>by kernel_rfl) rfl
end
end Go.Proofs.YtfhhiajfciblbaaGreatDoor
