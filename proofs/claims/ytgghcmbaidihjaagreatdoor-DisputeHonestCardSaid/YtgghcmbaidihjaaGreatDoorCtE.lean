/- Laws for the row. No condition. -/
import Derived.Test.YtgghcmbaidihjaaGreatDoorCtD
namespace Go.Proofs.YtgghcmbaidihjaaGreatDoor
open Go.Sm
set_option maxRecDepth 100000
set_option linter.unusedSectionVars false
section
variable [Itr] [SortLaw]
section
variable [Yc:GCx]
noncomputable def adj:Cx:=cK BV 129 (NJ BV Tryz.f129 .z)
theorem QM:Qq0 adj:=bA uS (BA uS i4 Tryz.func129 (by kernel_rfl) (by kernel_rfl) _)
noncomputable def adN:Cx:=cK adj 130 (NJ adj Tryz.f130 .z)
theorem Ri:Qq0 adN:=bA QM (BA QM i4 Tryz.func130 (by kernel_rfl) (by kernel_rfl) _)
noncomputable def ang:Cx:=(cK adN 131 (lx adN Tryz.f131 .z)).wr
theorem alj:Qq0 ang:=Cx.wr_ok (bA Ri (fD Ri i4 Tryz.func131 (by kernel_rfl) (by kernel_rfl) _))
noncomputable def adI:Cx:=cK BV 205 (NJ BV Tryz.f205 .z)
theorem QZ:Qq0 adI:=bA uS (BA uS i4 Tryz.func205 (by kernel_rfl) (by kernel_rfl) _)
noncomputable def ZN:Cx:=cK adI 207 (NJ adI Tryz.f207 .z)
theorem Pz:Qq0 ZN:=bA QZ (BA QZ i4 Tryz.func207 (by kernel_rfl) (by kernel_rfl) _)
noncomputable def aoM:Cx:=(cK ZN 131 (lx ZN Tryz.f131 .z)).wr
theorem aj3:Qq0 aoM:=Cx.wr_ok (bA Pz (fD Pz i4 Tryz.func131 (by kernel_rfl) (by kernel_rfl) _))
end
instance gcx0:GCx:=⟨0,[],λ_ h=>(by cases h),λ_ h=>(by cases h),DF⟩
abbrev sr:Sp:=.sc pi
def spS:List Sp:=[.rep aR true [],.rep (.sc pi) true [],.rep (.slice (.sc pi)) true [],.rep (.sc pi) true [],.rep (.sc pi) true [],sr,sr,sr,sr,sr,sr,sr,sr,.sc .str]
def anA:An:=.s .z (.u (.l ⟨[0,1,2,3,4],[(6,.lf sr)],[(1,spS),(8001152,[.own (.sc pi) 3 false []]),(8000192,[sr])],[]⟩ .z))
noncomputable def cxA:Cx:=UD ang 204 Tryz.f204 anA
theorem ao9:Qq0 cxA:=Rh rfl (λY=>alj (Yc:=Y)) i4 Tryz.func204 (by kernel_rfl) (by kernel_rfl) _
def anB:An:=.s .z (.u (.l ⟨[0,1,2,3,4],[(6,.lf sr)],[(1,spS),(8000896,spS),(8000960,[sr]),(8001856,[.own bj 57 true []]),(8001472,[sr,.sc .str,sr,sr,sr,sr,.ar 16 (.int .u8),.own rG 361 true [],.own (.sc pi) 3 false [],.own (.slice af) 238 true [],.rep aw true []]),(8000192,[.rep (.sc pi) true []])],[]⟩ .z))
def anK:An:=.s (.k [8,9,10] [] []) .z
def anR:An:=.s .z (.s .z (.s (.s .z (.s anK .z)) (Qq1 4 (.s (.s .z (.u (.s (.s (.k [11,12,15] [] []) .z) (.u (.s (.s .z (.s anK .z)) .z))))) (.s .z (.s .z (.s .z anK)))))))
noncomputable def cxB:Cx:=UD aoM 204 Tryz.f204 anB
theorem am9:Qq0 cxB:=Rh rfl (λY=>aj3 (Yc:=Y)) i4 Tryz.func204 (by kernel_rfl) (by kernel_rfl) _
def RE:Ctr:=⟨⟨[.d co,.d ga,.d (.slice aw),.d (.sc pi)],[(.slice (.sc pi)),(.sc pi)],2,[],[⟨some 3,false,false⟩]⟩,λx=>rR x.1 x.2.1 x.2.2.1 x.2.2.2⟩
theorem ajh:RE.sound Tryz.prog 58:=am ao9 i4 Tryz.func58 (by kernel_rfl) (an:=.z) (λx=>(by kernel_rfl:RE.fn x=aG cxA Tryz.f58 .z RE.toSig x)) rfl
def anw:Cx:=aA BV 58 RE
theorem ajo:Qq0 anw:=ao uS ajh
def I6:Ctr:=⟨⟨[.d co,.d ga,.d (.slice aw),.d (.slice (.sc pi))],[(.slice bj),yz,(.sc pi)],3,[],[⟨none,true,true⟩,⟨none,true,true⟩,⟨none,true,true⟩,⟨none,true,true⟩,⟨none,true,true⟩]⟩,λx=>uF x.1 x.2.1 x.2.2.1 x.2.2.2⟩
def UO:Cx:=aA anw 132 I6
theorem Mi:Qq0 UO:=ao ajo (Qq2 am9 Tryz.func132 (by kernel_rfl) anR (λx=>by kernel_rfl) rfl)
def aoW:An:=.z
def VG:Ctr:=⟨⟨[.d co,.d ga,.d (.slice aw),.d (.slice (.sc pi))],[yz,(.sc pi)],2,[],[⟨none,true,true⟩,⟨none,true,true⟩,⟨none,true,true⟩,⟨none,true,true⟩]⟩,λx=>vM x.1 x.2.1 x.2.2.1 x.2.2.2⟩
def ad7:Cx:=aA UO 59 VG
theorem P3:Qq0 ad7:=ao Mi (Qq2 Mi Tryz.func59 (by kernel_rfl) aoW (λx=>by kernel_rfl) rfl)
def aon:An:=.z
def T4:Ctr:=⟨⟨[.d co,.d ga,.d (.slice aw),.d (.slice (.sc pi))],[(.slice bj),(.sc pi)],2,[],[⟨none,true,true⟩]⟩,λx=>rP x.1 x.2.1 x.2.2.1 x.2.2.2⟩
def aaZ:Cx:=aA ad7 60 T4
theorem Qb:Qq0 aaZ:=ao P3 (Qq2 P3 Tryz.func60 (by kernel_rfl) aon (λx=>by kernel_rfl) rfl)
def amm:An:=.z
def Vp:Ctr:=⟨⟨[.d co,.d pv],[uI,(.slice bj),(.sc pi)],3,[],[⟨none,true,true⟩]⟩,λx=>pA x.1 x.2⟩
def adU:Cx:=aA aaZ 22 Vp
theorem PX:Qq0 adU:=ao Qb (Qq2 Qb Tryz.func22 (by kernel_rfl) amm (λx=>by kernel_rfl) rfl)
def amj:An:=Qq1 4 (.j ⟨[4,8,10],[],[(10,c31)],[]⟩ true (.s .z (.u (.l ⟨[4,8,10,24,25],[(26,.lf (.sc pi))],[(10,c31)],[]⟩ .z))) .z)
def Uz:Ctr:=⟨⟨[.d co,.d pv],[bE,(.slice bj),(.sc pi)],3,[],[⟨some 32,false,false⟩,⟨none,true,true⟩]⟩,λx=>nT x.1 x.2⟩
def aeM:Cx:=aA adU 10 Uz
theorem Q2:Qq0 aeM:=ao PX (Qq2 PX Tryz.func10 (by kernel_rfl) amj (λx=>by kernel_rfl) rfl)
def ao1:An:=.z
def Sx:Ctr:=⟨⟨[.d co,.d pv,.d bj,.d (.sc pi)],[(.ext 0)],1,[],[]⟩,λx=>oN x.1 x.2.1 x.2.2.1 x.2.2.2⟩
def adA:Cx:=aA aeM 49 Sx
theorem Pn:Qq0 adA:=ao Q2 (Qq2 Q2 Tryz.func49 (by kernel_rfl) ao1 (λx=>by kernel_rfl) rfl)
def anF:An:=Qq1 3 (.j ⟨[3,6,7,8,10,11,12],[],[],[]⟩ false .z .z)
def U4:Ctr:=⟨⟨[.d co,.d pv,.d bj,.d (.sc pi),.d bE,.d bE],[(.arr 2 .bool),(.sc pi)],2,[],[]⟩,λx=>iN x.1 x.2.1 x.2.2.1 x.2.2.2.1 x.2.2.2.2.1 x.2.2.2.2.2⟩
def ac6:Cx:=aA adA 18 U4
theorem Pk:Qq0 ac6:=ao Pn (Qq2 Pn Tryz.func18 (by kernel_rfl) anF (λx=>by kernel_rfl) rfl)
def aoi:An:=.z
def Vu:Ctr:=⟨⟨[],[(.sc .bool)],1,[],[]⟩,λ_=>gf⟩
def an0:Cx:=aA ac6 21 Vu
theorem ajr:Qq0 an0:=ao Pk (Qq2 Pk Tryz.func21 (by kernel_rfl) aoi (λx=>by kernel_rfl) rfl)
def an4:An:=Qq1 6 (.j ⟨[3,4,11,13,14,18,15],[],[],[]⟩ false (.s .z (.u (.l ⟨[3,4,11,13,14,15,18],[(20,.lf (.sc pi))],[],[]⟩ .z))) (.s .z (.s .z (.s .z (.s .z (.s .z (.j ⟨[11,13,14,21,22,25,18],[],[(25,[.rep aR false [18],.rep (.sc pi) false [18],.rep (.slice (.sc pi)) false [18],.rep (.sc pi) false [18],.rep (.sc pi) false [18],.sc pi,.sc pi,.sc pi,.sc pi,.sc pi,.sc pi,.sc pi,.sc pi,.sc .str])],[]⟩ true .z .z)))))))
def ct4:Ctr:=⟨⟨[.d (.sc pi),.d (.sc pi),.d (.sc pi),.d (.sc pi),.d (.sc pi)],[(.sc .bool)],1,[],[]⟩,λx=>iQ x.1 x.2.1 x.2.2.1 x.2.2.2.1 x.2.2.2.2⟩
theorem aoq:ct4.sound Tryz.prog 4:=Qq2 ajr Tryz.func4 (by kernel_rfl) an4 (λx=>by kernel_rfl) rfl
end
end Go.Proofs.YtgghcmbaidihjaaGreatDoor
