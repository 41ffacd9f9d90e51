/- Laws for the row. No condition. -/
import Derived.Test.YtgghcmbaidihjaaGreatDoorCtB
namespace Go.Proofs.YtgghcmbaidihjaaGreatDoor
open Go.Sm
set_option maxRecDepth 100000
set_option linter.unusedSectionVars false
section
variable [Itr]  [Yc:GCx] [SortLaw]
def Pp:An:=.s .z (.j ⟨[0,1],[],[],[]⟩ false (.s .z (.u (.l ⟨[0,1,7],[(8,.lf (.sc pi))],[],[]⟩ .z))) .z)
def BN:Ctr:=⟨⟨[.d (.slice aw),.clo 102 (.sc .str)],[(.sc pi)],1,[],[]⟩,λx=>fe x.1 x.2⟩
def FR:Cx:=aA ST 101 BN
theorem Dx:Qq0 FR:=ao J5 (Qq2 J5 Tryz.func101 (by kernel_rfl) Pp (λx=>by kernel_rfl) rfl)
def afh:An:=.z
def I1:Ctr:=⟨⟨[.d (.sc .str),.d (.sc pi),.box false (.slice aw) []],[(.sc pi)],1,[],[]⟩,λx=>kf x.1 x.2.1 x.2.2⟩
def Io:Cx:=aA FR 100 I1
theorem CW:Qq0 Io:=ao Dx (Qq2 Dx Tryz.func100 (by kernel_rfl) afh (λx=>by kernel_rfl) rfl)
noncomputable def CI:Cx:=cK Io 103 (lx Io Tryz.f103 Eh)
theorem Ca:Qq0 CI:=bA CW (fD CW i4 Tryz.func103 (by kernel_rfl) (by kernel_rfl) _)
noncomputable def KJ:Cx:=cK CI 104 (lx CI Tryz.f104 M5)
theorem O6:Qq0 KJ:=bA Ca (fD Ca i4 Tryz.func104 (by kernel_rfl) (by kernel_rfl) _)
def anp:An:=Qq1 6 (.j ⟨[3,6,10,11],[],[(11,c15)],[]⟩ true (.s .z (.u (.l ⟨[3,6,10,11,43,44],[(45,.lf (.sc pi))],[(11,c15)],[]⟩ .z))) (.j ⟨[3,6,11,10],[],[(11,c12)],[]⟩ true (.s .z (.u (.l ⟨[3,6,10,11,68,69],[(70,.lf (.sc pi))],[(11,c12)],[]⟩ .z))) (.j ⟨[3,6,11],[],[(11,c12)],[]⟩ true (.s .z (.u (.l ⟨[3,6,11,91],[(92,.lf (.sc pi))],[(11,c12)],[]⟩ .z))) .z)))
def U2:Ctr:=⟨⟨[.d co,.d ga,.d (.slice aw)],[bj,(.sc pi)],2,[],[⟨some 1870727804774333205280220053793449448177874923159704,false,false⟩,⟨some 3,false,false⟩,⟨none,true,true⟩,⟨some 3,false,false⟩,⟨some 3,false,false⟩]⟩,λx=>iS x.1 x.2.1 x.2.2⟩
def ady:Cx:=aA Io 45 U2
theorem QJ:Qq0 ady:=ao CW (Qq2 O6 Tryz.func45 (by kernel_rfl) anp (λx=>by kernel_rfl) rfl)
def agn:An:=.s .z (.u (.s .z (.j ⟨[0],[(3,.lf (.sc (.int .u64))),(4,.lf (.sc (.int .u8)))],[],[]⟩ true .z (.s .z (.s .z (.j ⟨[3,4],[(5,.lf (.sc pi))],[],[]⟩ true (.u (.l ⟨[3,4],[(5,.lf (.sc pi))],[],[]⟩ .z)) (.s .z (.j ⟨[3,4,5],[(6,.lf (.own (.sc (.int .u8)) 5 false []))],[],[]⟩ true (.s .z (.u (.l ⟨[3,4],[(6,.lf (.own (.sc (.int .u8)) 5 false [])),(7,.lf (.sc pi))],[],[]⟩ .z))) .z))))))))
def JG:Ctr:=⟨⟨[.d (.sc pi)],[(.slice (.sc (.int .u8)))],1,[],[⟨some 5,false,false⟩]⟩,λx=>kB x⟩
def VJ:Cx:=aA ady 167 JG
theorem JV:Qq0 VJ:=ao QJ (Qq2 QJ Tryz.func167 (by kernel_rfl) agn (λx=>by kernel_rfl) rfl)
def an3:An:=.s .z (.s .z (.j ⟨[0],[(3,.lf (.own (.sc (.int .u8)) 5 false []))],[],[]⟩ true (.s .z (.u (.l ⟨[9,10],[(3,.lf (.own (.sc (.int .u8)) 5 false [])),(11,.lf (.sc pi))],[],[]⟩ .z))) .z))
def Vw:Ctr:=⟨⟨[.d (.slice (.sc pi))],[(.slice (.sc (.int .u8)))],1,[],[⟨some 5,false,false⟩]⟩,λx=>nO x⟩
def aeC:Cx:=aA VJ 89 Vw
theorem P4:Qq0 aeC:=ao JV (Qq2 JV Tryz.func89 (by kernel_rfl) an3 (λx=>by kernel_rfl) rfl)
def api:An:=.z
def U5:Ctr:=⟨⟨[.d (.sc .str)],[(.slice (.sc (.int .u8)))],1,[],[⟨some 5,false,false⟩]⟩,λx=>qC x⟩
def aeY:Cx:=aA aeC 87 U5
theorem P1:Qq0 aeY:=ao P4 (Qq2 P4 Tryz.func87 (by kernel_rfl) api (λx=>by kernel_rfl) rfl)
def apu:An:=.s .z (.s .z (.j ⟨[0],[(3,.lf (.own (.sc (.int .u8)) 5 false []))],[],[]⟩ true (.s .z (.u (.l ⟨[9,10],[(3,.lf (.own (.sc (.int .u8)) 5 false [])),(11,.lf (.sc pi))],[],[]⟩ .z))) .z))
def Rr:Ctr:=⟨⟨[.d (.slice (.sc .str))],[(.slice (.sc (.int .u8)))],1,[],[⟨some 5,false,false⟩]⟩,λx=>qm x⟩
def aeX:Cx:=aA aeY 90 Rr
theorem QC:Qq0 aeX:=ao P1 (Qq2 P1 Tryz.func90 (by kernel_rfl) apu (λx=>by kernel_rfl) rfl)
def anq:An:=.z
def TO:Ctr:=⟨⟨[.d (.slice (.sc pi)),.box true (.slice (.sc (.int .u8))) [some 5]],[(.slice (.sc (.int .u8)))],0,[1],[⟨some 5,false,false⟩]⟩,λx=>dm x.1 x.2⟩
def acU:Cx:=aA aeX 91 TO
theorem QX:Qq0 acU:=ao QC (Qq2 QC Tryz.func91 (by kernel_rfl) anq (λx=>by kernel_rfl) rfl)
def aoU:An:=Qq1 4 (.j ⟨[1,3,4],[],[(3,c33)],[]⟩ true (.s .z (.u (.l ⟨[1,3,4,46,47],[(48,.lf (.sc pi))],[(3,c33)],[]⟩ (.s .z (.s .z (.j ⟨[1,3,4,46,47,48],[],[(3,c33)],[]⟩ true (.u (.s .z (.s .z (.j ⟨[1,3,4,6,46,47,48],[],[(3,c33)],[]⟩ true (.s .z (.u (.l ⟨[1,3,4,6,46,47,48,64,65],[(66,.lf (.sc pi))],[(3,c33)],[]⟩ .z))) .z)))) .z)))))) (.s .z (.j ⟨[1,3,4],[],[(3,c33)],[]⟩ true (.s .z (.u (.l ⟨[1,3,4,89,90],[(91,.lf (.sc pi))],[(3,c33)],[]⟩ .z))) .z)))
def Sv:Ctr:=⟨⟨[.d bj],[(.slice (.sc (.int .u8)))],1,[],[⟨some 5,false,false⟩]⟩,λx=>nV x⟩
theorem alZ:Sv.sound Tryz.prog 42:=am (Cx.wr_ok QX) i4 Tryz.func42 (by kernel_rfl) (an:=aoU) (λx=>(by kernel_rfl:Sv.fn x=aG acU.wr Tryz.f42 aoU Sv.toSig x)) rfl
def ad3:Cx:=aA acU 42 Sv
theorem PL:Qq0 ad3:=ao QX alZ
def aou:An:=.z
def Wh:Ctr:=⟨⟨[],[mq],1,[],[]⟩,λ_=>yv⟩
def aaE:Cx:=aA ad3 85 Wh
theorem QE:Qq0 aaE:=ao PL (Qq2 PL Tryz.func85 (by kernel_rfl) aou (λx=>by kernel_rfl) rfl)
def afS:An:=.z
def Im:Ctr:=⟨⟨[.d (.sc (.int .u32)),.d (.sc pi)],[(.sc (.int .u32))],1,[],[]⟩,λx=>bK x.1 x.2⟩
def V9:Cx:=aA aaE 312 Im
theorem NN:Qq0 V9:=ao QE (Qq2 QE Tryz.func312 (by kernel_rfl) afS (λx=>by kernel_rfl) rfl)
def afd:An:=.s .z (.s .z (.j ⟨[2,3,0],[],[(3,[.ar 64 (.int .u32)])],[]⟩ true (.s .z (.u (.l ⟨[0,2,3],[(11,.lf (.sc pi))],[(3,[.ar 64 (.int .u32)])],[]⟩ (.s .z (.s .z (.j ⟨[0,2,3,11],[],[(3,[.ar 64 (.int .u32)])],[]⟩ true (.u (.s .z (.s (.s .z (.s (.j ⟨[0,2,3,11,4],[],[(3,[.ar 64 (.int .u32)])],[]⟩ true (.s .z (.u (.l ⟨[0,2,3,4,11,22,23],[(24,.lf (.sc pi))],[(3,[.ar 64 (.int .u32)])],[]⟩ .z))) .z) .z)) .z))) .z)))))) .z))
def Ht:Ctr:=⟨⟨[.d (.slice (.sc (.int .u8)))],[(.arr 64 (.int .u32))],1,[],[]⟩,λx=>mr x⟩
def UQ:Cx:=aA V9 245 Ht
theorem LN:Qq0 UQ:=ao NN (Qq2 NN Tryz.func245 (by kernel_rfl) afd (λx=>by kernel_rfl) rfl)
def ai6:An:=.z
def HF:Ctr:=⟨⟨[.d (.sc (.int .u32)),.d (.sc pi),.d (.sc pi),.d (.sc pi)],[(.sc (.int .u32))],1,[],[]⟩,λx=>oT x.1 x.2.1 x.2.2.1 x.2.2.2⟩
def Uh:Cx:=aA UQ 246 HF
theorem Oc:Qq0 Uh:=ao LN (Qq2 LN Tryz.func246 (by kernel_rfl) ai6 (λx=>by kernel_rfl) rfl)
def ahP:An:=Qq1 3 (.j ⟨[2,4,6,7,5],[],[(6,[.ar 4 (.int .u32)]),(7,[.ar 4 (.int .u32)])],[]⟩ true (.s .z (.u (.l ⟨[2,4,5,6,7,21],[(22,.lf (.sc pi))],[(6,[.ar 4 (.int .u32)]),(7,[.ar 4 (.int .u32)])],[]⟩ .z))) (.j ⟨[2,4,6,7],[],[(2,[.ar 8 (.int .u32)])],[]⟩ true (.s .z (.u (.l ⟨[2,4,6,7],[(94,.lf (.sc pi))],[(2,[.ar 8 (.int .u32)])],[]⟩ .z))) .z))
def HP:Ctr:=⟨⟨[.d (.arr 8 (.int .u32)),.d (.slice (.sc (.int .u8)))],[(.arr 8 (.int .u32))],1,[],[]⟩,λx=>jT x.1 x.2⟩
def TZ:Cx:=aA Uh 166 HP
theorem NH:Qq0 TZ:=ao Oc (Qq2 Oc Tryz.func166 (by kernel_rfl) ahP (λx=>by kernel_rfl) rfl)
def anx:An:=.s .z (.j ⟨[2,4],[],[(2,[.ar 8 (.int .u32),.ar 64 (.int .u8),.sc (.int .u64)])],[1]⟩ true (.u (.l ⟨[2,4],[(1,.lf (.sc .str))],[(2,[.ar 8 (.int .u32),.ar 64 (.int .u8),.sc (.int .u64)])],[]⟩ .z)) .z)
def Uq:Ctr:=⟨⟨[.d mq,.d (.sc .str)],[mq],1,[],[]⟩,λx=>gz x.1 x.2⟩
def ZI:Cx:=aA TZ 86 Uq
theorem QY:Qq0 ZI:=ao NH (Qq2 NH Tryz.func86 (by kernel_rfl) anx (λx=>by kernel_rfl) rfl)
def aml:An:=Qq1 3 (.j ⟨[1,2,3],[(4,.lf (.own (.sc (.int .u8)) 5 false []))],[],[]⟩ true (.u (.l ⟨[1,2,3],[(4,.lf (.own (.sc (.int .u8)) 5 false []))],[],[]⟩ .z)) (.j ⟨[1,2,3],[(4,.lf (.own (.sc (.int .u8)) 5 false []))],[],[]⟩ true (.s .z (.u (.l ⟨[1,2,3],[(4,.lf (.own (.sc (.int .u8)) 5 false [])),(23,.lf (.sc pi))],[],[]⟩ .z))) (.s .z (.s .z (.j ⟨[2,6,1],[],[(6,[.ar 32 (.int .u8)])],[]⟩ true (.s .z (.u (.l ⟨[1,2,6],[(40,.lf (.sc pi))],[(6,[.ar 32 (.int .u8)])],[]⟩ .z))) .z)))))
def VK:Ctr:=⟨⟨[.d mq],[(.arr 32 (.int .u8))],1,[],[]⟩,λx=>mP x⟩
def Zv:Cx:=aA ZI 88 VK
theorem PK:Qq0 Zv:=ao QY (Qq2 QY Tryz.func88 (by kernel_rfl) aml (λx=>by kernel_rfl) rfl)
def apr:An:=.s .z (.s .z (.j ⟨[4,5,1],[],[(5,[.ar 8 (.int .u32),.ar 64 (.int .u8),.sc (.int .u64)])],[]⟩ true (.s .z (.u (.l ⟨[4,5,15,16],[(17,.lf (.sc pi))],[(5,[.ar 8 (.int .u32),.ar 64 (.int .u8),.sc (.int .u64)])],[]⟩ .z))) .z))
def To:Ctr:=⟨⟨[.d (.sc pi),.d (.slice (.sc .str))],[(.arr 16 (.int .u8))],1,[],[]⟩,λx=>jn x.1 x.2⟩
def adY:Cx:=aA Zv 41 To
theorem Qw:Qq0 adY:=ao PK (Qq2 PK Tryz.func41 (by kernel_rfl) apr (λx=>by kernel_rfl) rfl)
def am5:An:=.z
def S9:Ctr:=⟨⟨[.d bj],[(.arr 16 (.int .u8))],1,[],[]⟩,λx=>cS x⟩
def acD:Cx:=aA adY 14 S9
theorem Qf:Qq0 acD:=ao Qw (Qq2 Qw Tryz.func14 (by kernel_rfl) am5 (λx=>by kernel_rfl) rfl)
def aoR:An:=.s .z (.s .z (.j ⟨[0,1],[],[],[]⟩ false (.s .z (.u (.l ⟨[0,1,12],[(13,.lf (.sc pi))],[],[]⟩ .z))) .z))
def Ru:Ctr:=⟨⟨[.d (.slice (.sc pi)),.d (.slice (.sc pi))],[(.sc .bool)],1,[],[]⟩,λx=>dD x.1 x.2⟩
def abq:Cx:=aA acD 62 Ru
theorem PB:Qq0 abq:=ao Qf (Qq2 Qf Tryz.func62 (by kernel_rfl) aoR (λx=>by kernel_rfl) rfl)
def anL:An:=.z
def UR:Ctr:=⟨⟨[.d bV,.d bV],[(.sc .bool)],1,[],[]⟩,λx=>od x.1 x.2⟩
theorem PG:UR.sound Tryz.prog 61:=Qq2 PB Tryz.func61 (by kernel_rfl) anL (λx=>by kernel_rfl) rfl
def abS:Cx:=aA abq 61 UR
theorem Rc:Qq0 abS:=ao PB PG
def ZU:DCtr:=⟨⟨[.d bV,.d bV],[(.sc .bool)],1,[],[]⟩,λf x=>Sr f x.1 x.2⟩
theorem alm:DCtr.sound Tryz.prog ZU:=by
 intro f x r h;simp only[ZU,Sr]at h;cases hb:Nat.beq f 61;rotate_left
 ·rw[hb]at h;rw[f9 hb];exact PG x r h
 rw[hb]at h;cases h
def apc:An:=.s .z (.s .z (.j ⟨[0,1,2],[],[],[]⟩ false (.s .z (.u (.l ⟨[1,2,15,16],[(17,.lf (.sc pi))],[],[]⟩ .z))) .z))
def RC:Ctr:=⟨⟨[.d (.slice bV),.d (.slice bV),.d (.sc .fnc)],[(.sc .bool)],1,[],[]⟩,λx=>bU x.1 x.2.1 x.2.2⟩
def afP:Cx:=ZJ abS ZU true
theorem abE:Qq0 afP:=PT Rc alm
def Zu:Cx:=aA abS 64 RC
theorem Rl:Qq0 Zu:=ao Rc (Qq2 abE Tryz.func64 (by kernel_rfl) apc (λx=>by kernel_rfl) rfl)
def amn:An:=.z
def VP:Ctr:=⟨⟨[.d aR,.d aR,.box false (.sc .fnc) []],[(.sc .bool)],1,[],[]⟩,λx=>og x.1 x.2.1 x.2.2⟩
def aeW:Cx:=aA Zu 63 VP
theorem Qh:Qq0 aeW:=ao Rl (Qq2 Rl Tryz.func63 (by kernel_rfl) amn (λx=>by kernel_rfl) rfl)
def ao5:An:=.s .z (.s .z (.j ⟨[0,1,2],[],[],[]⟩ false (.s .z (.u (.l ⟨[1,2,15,16],[(17,.lf (.sc pi))],[],[]⟩ .z))) .z))
def Vm:Ctr:=⟨⟨[.d (.slice aR),.d (.slice aR),.clo 63 (.sc .fnc)],[(.sc .bool)],1,[],[]⟩,λx=>bS x.1 x.2.1 x.2.2⟩
def aeP:Cx:=aA aeW 65 Vm
theorem Qd:Qq0 aeP:=ao Qh (Qq2 Qh Tryz.func65 (by kernel_rfl) ao5 (λx=>by kernel_rfl) rfl)
def aow:An:=.s .z (.s .z (.j ⟨[0,1,2],[],[],[]⟩ false (.s .z (.u (.l ⟨[1,2,15,16],[(17,.lf (.sc pi))],[],[]⟩ .z))) .z))
def Sh:Ctr:=⟨⟨[.d (.slice (.slice (.sc pi))),.d (.slice (.slice (.sc pi))),.fn 62],[(.sc .bool)],1,[],[]⟩,λx=>fZ x.1 x.2.1⟩
def adG:Cx:=aA aeP 66 Sh
theorem Rm:Qq0 adG:=ao Qd (Qq2 Qd Tryz.func66 (by kernel_rfl) aow (λx=>by kernel_rfl) rfl)
def aoc:An:=.z
def VD:Ctr:=⟨⟨[.d bj,.d bj],[(.sc .bool)],1,[],[]⟩,λx=>lk x.1 x.2⟩
def aed:Cx:=aA adG 23 VD
theorem Qv:Qq0 aed:=ao Rm (Qq2 Rm Tryz.func23 (by kernel_rfl) aoc (λx=>by kernel_rfl) rfl)
def amf:An:=.s .z (.j ⟨[1],[(0,.lf (.sc pi))],[],[]⟩ true .z .z)
def SA:Ctr:=⟨⟨[.d (.sc pi),.d (.sc pi)],[(.sc pi)],1,[],[]⟩,λx=>bF x.1 x.2⟩
def aab:Cx:=aA aed 17 SA
theorem PE:Qq0 aab:=ao Qv (Qq2 Qv Tryz.func17 (by kernel_rfl) amf (λx=>by kernel_rfl) rfl)
def am0:An:=.z
def Sf:Ctr:=⟨⟨[.d (.sc pi)],[ga],1,[],[]⟩,λx=>lR x⟩
def abd:Cx:=aA aab 38 Sf
theorem QO:Qq0 abd:=ao PE (Qq2 PE Tryz.func38 (by kernel_rfl) am0 (λx=>by kernel_rfl) rfl)
def afU:An:=.z
def Jx:Ctr:=⟨⟨[.d (.slice (.sc pi)),.d (.sc pi),.d (.sc pi)],[(.sc pi)],1,[],[]⟩,λx=>eS x.1 x.2.1 x.2.2⟩
def SV:Cx:=aA abd 160 Jx
theorem Lg:Qq0 SV:=ao QO (Qq2 QO Tryz.func160 (by kernel_rfl) afU (λx=>by kernel_rfl) rfl)
def agS:An:=.z
def D8(k_:Nat):Ctr:=⟨⟨[.d (.sc pi)],[(.sc .str)],1,[],[]⟩,λx=>ju k_ x⟩
def ag8:Ctr:=⟨⟨[.d (.sc pi)],[(.sc .str)],1,[],[]⟩,λx=>dK x⟩
theorem Ga:∀k,(D8 k).sound Tryz.prog 304
 |0=>λx r h=>by have h1:none=some r:=h;cases h1
 |k+1=>am (ao Lg (Ga k)) i4 Tryz.func304 (by kernel_rfl) (an:=agS) (λx=>(by kernel_rfl:(D8 (k+1)).fn x=aG (aA SV 304 (D8 k)) Tryz.f304 agS (D8 (k+1)).toSig x)) rfl
theorem abk:ag8.sound Tryz.prog 304:=Ga 64
def UY:Cx:=aA SV 304 ag8
theorem LL:Qq0 UY:=ao Lg abk
def aiy:An:=.z
def JB:Ctr:=⟨⟨[.d (.sc pi)],[(.sc .str)],1,[],[]⟩,λx=>de x⟩
def SR:Cx:=aA UY 240 JB
theorem LS:Qq0 SR:=ao LL (Qq2 LL Tryz.func240 (by kernel_rfl) aiy (λx=>by kernel_rfl) rfl)
def ait:An:=.s .z (.s .z (.j ⟨[1],[(5,.lf (.own (.sc (.int .u8)) 1048581 false []))],[],[]⟩ true (.s .z (.u (.l ⟨[1],[(5,.lf (.own (.sc (.int .u8)) 1048581 false [])),(6,.lf (.sc pi))],[],[]⟩ (.s .z (.j ⟨[1,6],[(5,.lf (.own (.sc (.int .u8)) 1048581 false []))],[],[]⟩ true .z .z))))) .z))
def IX:Ctr:=⟨⟨[.d (.sc .str),.d (.sc pi)],[(.sc .str)],1,[],[]⟩,λx=>qT x.1 x.2⟩
def R2:Cx:=aA SR 310 IX
theorem Nz:Qq0 R2:=ao LS (Qq2 LS Tryz.func310 (by kernel_rfl) ait (λx=>by kernel_rfl) rfl)
def ahE:An:=.z
def JC:Ctr:=⟨⟨[.d (.sc .str),.d (.sc .str),.d (.sc pi),.d (.sc .str)],[bW],1,[],[]⟩,λx=>uG x.1 x.2.1 x.2.2.1 x.2.2.2⟩
def Wc:Cx:=aA R2 309 JC
theorem NF:Qq0 Wc:=ao Nz (Qq2 Nz Tryz.func309 (by kernel_rfl) ahE (λx=>by kernel_rfl) rfl)
def ahk:An:=.s .z (.s .z (.j ⟨[0,1],[(5,.lf (.own bW 297 false []))],[],[]⟩ true (.s .z (.u (.l ⟨[0,1],[(5,.lf (.own bW 297 false [])),(6,.lf (.sc pi))],[],[]⟩ .z))) .z))
def Ie:Ctr:=⟨⟨[.d (.sc pi),.d (.slice (.arr 3 .str))],[(.slice bW)],1,[],[⟨some 297,false,false⟩]⟩,λx=>cy x.1 x.2⟩
def SD:Cx:=aA Wc 239 Ie
theorem J7:Qq0 SD:=ao NF (Qq2 NF Tryz.func239 (by kernel_rfl) ahk (λx=>by kernel_rfl) rfl)
def ahr:An:=.z
def JL:Ctr:=⟨⟨[.d (.sc pi),.d (.sc pi),.d (.sc pi)],[(.slice bW)],1,[],[⟨some 297,false,false⟩]⟩,λx=>cf x.1 x.2.1 x.2.2⟩
def Vq:Cx:=aA SD 238 JL
theorem Kp:Qq0 Vq:=ao J7 (Qq2 J7 Tryz.func238 (by kernel_rfl) ahr (λx=>by kernel_rfl) rfl)
def af4:An:=.s .z (.j ⟨[1,2,0],[],[],[]⟩ false (.s .z (.u (.j ⟨[0,1,2,7],[(8,.lf (.sc .bool))],[],[]⟩ true .z .z))) .z)
def Jg:Ctr:=⟨⟨[.d (.sc pi),.d (.sc pi),.d (.sc pi)],[(.slice bW)],1,[],[⟨some 297,false,false⟩]⟩,λx=>dH x.1 x.2.1 x.2.2⟩
def Td:Cx:=aA Vq 161 Jg
theorem M8:Qq0 Td:=ao Kp (Qq2 Kp Tryz.func161 (by kernel_rfl) af4 (λx=>by kernel_rfl) rfl)
def ah1:An:=.s .z (.s .z (.j ⟨[0,1],[(5,.lf (.own bW 297 false []))],[],[]⟩ true (.s .z (.u (.l ⟨[0,1],[(5,.lf (.own bW 297 false [])),(6,.lf (.sc pi))],[],[]⟩ (.s .z (.j ⟨[0,1,6],[(5,.lf (.own bW 297 false []))],[],[]⟩ true (.u (.s .z (.j ⟨[0,1,5,6],[(7,.lf (.sc pi))],[],[]⟩ true .z .z))) .z))))) .z))
def IE:Ctr:=⟨⟨[.d (.slice bW),.d (.sc pi)],[(.slice bW)],1,[],[⟨some 297,false,false⟩]⟩,λx=>qW x.1 x.2⟩
def T2:Cx:=aA Td 162 IE
theorem Kh:Qq0 T2:=ao M8 (Qq2 M8 Tryz.func162 (by kernel_rfl) ah1 (λx=>by kernel_rfl) rfl)
def aps:An:=Qq1 3 (.j ⟨[0],[(3,.lf (.own bW 297 false []))],[],[4]⟩ true (.s .z (.u (.l ⟨[0],[(3,.lf (.own bW 297 false [])),(4,.lf (.sc .bool)),(5,.lf (.sc pi))],[],[]⟩ (.s .z (.j ⟨[0,5],[(3,.lf (.own bW 297 false [])),(4,.lf (.sc .bool))],[],[]⟩ true .z .z))))) .z)
def UI:Ctr:=⟨⟨[.d (.slice (.sc pi))],[(.slice bW)],1,[],[⟨some 297,false,false⟩]⟩,λx=>cW x⟩
def adC:Cx:=aA T2 81 UI
theorem Q8:Qq0 adC:=ao Kh (Qq2 Kh Tryz.func81 (by kernel_rfl) aps (λx=>by kernel_rfl) rfl)
def aiQ:An:=.z
def Hz:Ctr:=⟨⟨[.d (.sc .str),.d (.sc pi)],[(.sc .bool)],1,[],[]⟩,λx=>gV x.1 x.2⟩
def S6:Cx:=aA adC 329 Hz
theorem Lh:Qq0 S6:=ao Q8 (Qq2 Q8 Tryz.func329 (by kernel_rfl) aiQ (λx=>by kernel_rfl) rfl)
def afZ:An:=.z
def JJ:Ctr:=⟨⟨[.d (.sc .str),.d (.sc pi)],[(.sc .bool)],1,[],[]⟩,λx=>gj x.1 x.2⟩
def Si:Cx:=aA S6 331 JJ
theorem Me:Qq0 Si:=ao Lh (Qq2 Lh Tryz.func331 (by kernel_rfl) afZ (λx=>by kernel_rfl) rfl)
def ahc:An:=Qq1 3 (.j ⟨[1,0],[(5,.lf (.sc pi))],[],[]⟩ true (.u (.l ⟨[0,1],[(5,.lf (.sc pi))],[],[]⟩ .z)) .z)
def I2:Ctr:=⟨⟨[.d (.sc .str),.d (.sc pi)],[(.sc pi)],1,[],[]⟩,λx=>oo x.1 x.2⟩
def Ul:Cx:=aA Si 330 I2
theorem Ll:Qq0 Ul:=ao Me (Qq2 Me Tryz.func330 (by kernel_rfl) ahc (λx=>by kernel_rfl) rfl)
def afB:An:=.s .z (.s .z (.j ⟨[0,3],[],[],[]⟩ false (.s .z (.u (.l ⟨[0,3],[(4,.lf (.sc pi))],[],[]⟩ .z))) .z))
def Hw:Ctr:=⟨⟨[.d (.sc (.int .u8))],[(.sc .bool)],1,[],[]⟩,λx=>tF x⟩
def TG:Cx:=aA Ul 332 Hw
theorem Mr:Qq0 TG:=ao Ll (Qq2 Ll Tryz.func332 (by kernel_rfl) afB (λx=>by kernel_rfl) rfl)
def agb:An:=Qq1 3 (.j ⟨[0,1],[],[],[]⟩ false (.s .z (.s (.s .z (.j ⟨[1,0],[(5,.lf (.sc pi))],[],[]⟩ true (.u (.l ⟨[0,1],[(5,.lf (.sc pi))],[],[]⟩ .z)) .z)) .z)) .z)
def IA:Ctr:=⟨⟨[.d (.sc .str),.d (.sc pi)],[(.sc pi)],1,[],[]⟩,λx=>tC x.1 x.2⟩
def Vx:Cx:=aA TG 296 IA
theorem Lq:Qq0 Vx:=ao Mr (Qq2 Mr Tryz.func296 (by kernel_rfl) agb (λx=>by kernel_rfl) rfl)
def aiC:An:=Qq1 3 (.j ⟨[0],[(4,.lf (.own bd 387 false [])),(5,.lf (.sc pi))],[],[]⟩ false (.u (.l ⟨[0],[(4,.lf (.own bd 387 false [])),(5,.lf (.sc pi))],[],[]⟩ .z)) .z)
def JO:Ctr:=⟨⟨[.d (.sc .str)],[(.slice bd),(.sc pi)],2,[],[⟨some 387,false,false⟩]⟩,λx=>tH x⟩
def Vi:Cx:=aA Vx 231 JO
theorem NT:Qq0 Vi:=ao Lq (Qq2 Lq Tryz.func231 (by kernel_rfl) aiC (λx=>by kernel_rfl) rfl)
def aiu:An:=.z
def Ig:Ctr:=⟨⟨[.box false aE []],[(.sc .str)],1,[],[]⟩,λx=>bG x⟩
def UU:Cx:=aA Vi 297 Ig
theorem Ny:Qq0 UU:=ao NT (Qq2 NT Tryz.func297 (by kernel_rfl) aiu (λx=>by kernel_rfl) rfl)
def aim:An:=.z
def Hx:Ctr:=⟨⟨[],[(.slice (.sc .str))],1,[],[⟨some 9,false,false⟩]⟩,λ_=>gT⟩
def Tn:Cx:=aA UU 298 Hx
theorem L4:Qq0 Tn:=ao Ny (Qq2 Ny Tryz.func298 (by kernel_rfl) aim (λx=>by kernel_rfl) rfl)
def agX:An:=.z
def HS:Ctr:=⟨⟨[],[(.slice (.sc .str))],1,[],[⟨some 9,false,false⟩]⟩,λ_=>rZ⟩
def RS:Cx:=aA Tn 356 HS
theorem K4:Qq0 RS:=ao L4 (Qq2 L4 Tryz.func356 (by kernel_rfl) agX (λx=>by kernel_rfl) rfl)
def aga:An:=.s .z (.j ⟨[0,1],[],[],[]⟩ false (.s .z (.u (.l ⟨[0,1],[(5,.lf (.sc pi))],[],[]⟩ .z))) .z)
def HX:Ctr:=⟨⟨[.d (.slice (.sc .str)),.d (.sc .str)],[(.sc .bool)],1,[],[]⟩,λx=>gA x.1 x.2⟩
def Um:Cx:=aA RS 293 HX
theorem Kk:Qq0 Um:=ao K4 (Qq2 K4 Tryz.func293 (by kernel_rfl) aga (λx=>by kernel_rfl) rfl)
def ahD:An:=.z
def HK:Ctr:=⟨⟨[.d (.sc .str)],[(.sc .bool)],1,[],[]⟩,λx=>qZ x⟩
def VW:Cx:=aA Um 333 HK
theorem Mk:Qq0 VW:=ao Kk (Qq2 Kk Tryz.func333 (by kernel_rfl) ahD (λx=>by kernel_rfl) rfl)
def agc:An:=.z
def HY:Ctr:=⟨⟨c34,[(.sc .str),aE],1,[0],[⟨some 387,false,false⟩]⟩,λx=>cL x⟩
def UZ:Cx:=aA VW 299 HY
theorem Mc:Qq0 UZ:=ao Mk (Qq2 Mk Tryz.func299 (by kernel_rfl) agc (λx=>by kernel_rfl) rfl)
def agf:An:=.z
def Jl:Ctr:=⟨⟨c32,[(.sc .bool),aE],1,[0],[⟨some 387,false,false⟩]⟩,λx=>cI x.1 x.2⟩
def T6:Cx:=aA UZ 334 Jl
theorem MU:Qq0 T6:=ao Mc (Qq2 Mc Tryz.func334 (by kernel_rfl) agf (λx=>by kernel_rfl) rfl)
def ah8:An:=.z
def Ja:Ctr:=⟨⟨c32,[aE],0,[0],[⟨some 387,false,false⟩]⟩,λx=>bH x.1 x.2⟩
def Tf:Cx:=aA T6 300 Ja
theorem LK:Qq0 Tf:=ao MU (Qq2 MU Tryz.func300 (by kernel_rfl) ah8 (λx=>by kernel_rfl) rfl)
def ahH:An:=.s .z (.s .z (.j ⟨[0],[(3,.lf (.sc pi))],[],[]⟩ true (.s .z (.u (.l ⟨[0],[(3,.lf (.sc pi)),(4,.lf (.sc pi))],[],[]⟩ .z))) .z))
def I8:Ctr:=⟨⟨[.d (.sc .str)],[(.sc pi)],1,[],[]⟩,λx=>sC x⟩
def Vo:Cx:=aA Tf 335 I8
theorem J8:Qq0 Vo:=ao LK (Qq2 LK Tryz.func335 (by kernel_rfl) ahH (λx=>by kernel_rfl) rfl)
def ags:An:=.z
def JM:Ctr:=⟨⟨[.box true aE [some 387],.d (.sc pi),.d (.sc pi)],[(.sc pi),aE],1,[0],[⟨some 387,false,false⟩]⟩,λx=>cw x.1 x.2.1 x.2.2⟩
def UM:Cx:=aA Vo 302 JM
theorem NP:Qq0 UM:=ao J8 (Qq2 J8 Tryz.func302 (by kernel_rfl) ags (λx=>by kernel_rfl) rfl)
def afC:An:=.z
def Jc:Ctr:=⟨⟨c34,[(.sc pi),aE],1,[0],[⟨some 387,false,false⟩]⟩,λx=>iL x⟩
def Tq:Cx:=aA UM 301 Jc
theorem Ms:Qq0 Tq:=ao NP (Qq2 NP Tryz.func301 (by kernel_rfl) afC (λx=>by kernel_rfl) rfl)
def ag1:An:=.z
def Jk:Ctr:=⟨⟨c34,[(.sc .str),aE],1,[0],[⟨some 387,false,false⟩]⟩,λx=>dO x⟩
def RZ:Cx:=aA Tq 375 Jk
theorem M6:Qq0 RZ:=ao Ms (Qq2 Ms Tryz.func375 (by kernel_rfl) ag1 (λx=>by kernel_rfl) rfl)
def ai1:An:=.s .z (.s .z (.j ⟨[0,2,3],[],[(0,c28),(3,c30)],[]⟩ true (.s .z (.s (.s .z (.k [0,1000000] [] [])) .z)) .z))
def Jd:Ctr:=⟨⟨c34,[bu,aE],1,[0],[⟨some 293,false,true⟩,⟨some 387,false,false⟩]⟩,λx=>iV x⟩
def By:Cx:=aA RZ 382 Jd
theorem uD:Qq0 By:=ao M6 (Qq2 M6 Tryz.func382 (by kernel_rfl) ai1 (λx=>by kernel_rfl) rfl)
def ahp:An:=Qq1 4 (.j ⟨[0,2,3],[],[(0,c28)],[4]⟩ false (.s .z (.u (.l ⟨[0,2,3,4],[(5,.lf (.sc pi))],[(0,c28)],[]⟩ (.s .z (.s (.u (.s .z (.s (.s (.k [0,1000000] [] []) .z) .z))) .z))))) .z)
def oH(k_:Nat):Ctr:=⟨⟨c34,[bu,aE],1,[0],[⟨none,false,true⟩,⟨some 387,false,false⟩]⟩,λx=>dh k_ x⟩
def agQ:Ctr:=⟨⟨c34,[bu,aE],1,[0],[⟨none,false,true⟩,⟨some 387,false,false⟩]⟩,λx=>dY x⟩
def agG:An:=.z
def xz(k:Nat):Ctr:=⟨⟨c34,[bu,aE],1,[0],[⟨none,false,true⟩,⟨some 387,false,false⟩]⟩,λx=>jD (dh k) x⟩
theorem At(k:Nat)(h:(oH k).sound Tryz.prog 373):(xz k).sound Tryz.prog 385:=am (ao uD h) i4 Tryz.func385 (by kernel_rfl) (an:=agG) (λx=>(by kernel_rfl:(xz k).fn x=aG (aA By 373 (oH k)) Tryz.f385 agG (xz k).toSig x)) rfl
def aiA:An:=.s .z (.s .z (.j ⟨[0,2,3],[],[(0,c28),(3,c27)],[]⟩ true (.u (.l ⟨[0,2,3],[],[(0,c28),(3,c27)],[]⟩ (.s .z (.u (.k [0,1000000] [] []))))) .z))
def AZ(k:Nat):Ctr:=⟨⟨c34,[bu,aE],1,[0],[⟨none,false,true⟩,⟨some 387,false,false⟩]⟩,λx=>jG (dh k) x⟩
theorem Gn(k:Nat)(h:(oH k).sound Tryz.prog 373):(AZ k).sound Tryz.prog 384:=am (ao (ao uD h) (At k h)) i4 Tryz.func384 (by kernel_rfl) (an:=aiA) (λx=>(by kernel_rfl:(AZ k).fn x=aG (aA (aA By 373 (oH k)) 385 (xz k)) Tryz.f384 aiA (AZ k).toSig x)) rfl
def aiS:An:=.s .z (.s .z (.j ⟨[0,2,3],[],[(0,c28),(3,c27)],[]⟩ true (.u (.l ⟨[0,2,3],[],[(0,c28),(3,c27)],[]⟩ (.s .z (.u (.s .z (.j ⟨[0,2,3],[(4,.lf (.sc pi))],[],[]⟩ true .z (.s .z (.k [0,1000000] [] [])))))))) .z))
def DL(k:Nat):Ctr:=⟨⟨c34,[bu,aE],1,[0],[⟨none,false,true⟩,⟨some 387,false,false⟩]⟩,λx=>jR (dh k) x⟩
theorem X3(k:Nat)(h:(oH k).sound Tryz.prog 373):(DL k).sound Tryz.prog 381:=am (ao (ao (ao uD h) (At k h)) (Gn k h)) i4 Tryz.func381 (by kernel_rfl) (an:=aiS) (λx=>(by kernel_rfl:(DL k).fn x=aG (aA (aA (aA By 373 (oH k)) 385 (xz k)) 384 (AZ k)) Tryz.f381 aiS (DL k).toSig x)) rfl
theorem sf:∀k,(oH k).sound Tryz.prog 373
 |0=>λx r h=>by have h1:none=some r:=h;cases h1
 |k+1=>am (ao (ao (ao (ao uD (sf k)) (At k (sf k))) (Gn k (sf k))) (X3 k (sf k))) i4 Tryz.func373 (by kernel_rfl) (an:=ahp) (λx=>(by kernel_rfl:(oH (k+1)).fn x=aG (aA (aA (aA (aA By 373 (oH k)) 385 (xz k)) 384 (AZ k)) 381 (DL k)) Tryz.f373 ahp (oH (k+1)).toSig x)) rfl
theorem ado:agQ.sound Tryz.prog 373:=sf 64
def VL:Cx:=aA By 373 agQ
theorem Nb:Qq0 VL:=ao uD ado
def afK:An:=.s .z (.s (.s .z (.s (.s .z (.s .z (.s (.k [0,1000000] [] []) .z))) .z)) (.s .z (.s (.k [0,1000000] [] []) (.s .z (.s (.k [0,1000000] [] []) .z)))))
def In:Ctr:=⟨⟨c32,[bu,aE],1,[0],[⟨some 293,false,true⟩,⟨some 387,false,false⟩]⟩,λx=>mt x.1 x.2⟩
def UA:Cx:=aA VL 374 In
theorem Og:Qq0 UA:=ao Nb (Qq2 Nb Tryz.func374 (by kernel_rfl) afK (λx=>by kernel_rfl) rfl)
def afG:An:=.s .z (.s .z (.j ⟨[0,1,4],[(5,.lf (.sc pi))],[],[]⟩ true (.u (.l ⟨[0,1,4],[(5,.lf (.sc pi))],[],[]⟩ .z)) (Qq1 3 (.j ⟨[0,4,6,5],[],[(0,c28),(6,c30)],[]⟩ true (.s .z (.u (.j ⟨[0,4,6,33],[(34,.lf (.sc .bool))],[],[]⟩ true .z (.s .z (.j ⟨[0,4,6,33],[(42,.lf (.sc .bool))],[],[]⟩ true .z (.s (.s .z (.k [0,1000000] [] [])) (.j ⟨[0,4,6,33],[(55,.lf (.sc .bool))],[],[]⟩ true .z (.s (.s .z (.k [0,1000000] [] [])) (.s .z (.s .z (.s .z (.s .z (.s .z (.s .z (.s .z (.s .z (.s .z (.s (.k [0,1000000] [] []) .z)))))))))))))))))) .z))))
def Hk:Ctr:=⟨⟨c32,[bu,aE],1,[0],[⟨some 293,false,true⟩,⟨some 387,false,false⟩]⟩,λx=>mo x.1 x.2⟩
def Ec:Cx:=aA UA 358 Hk
theorem yf:Qq0 Ec:=ao Og (Qq2 Og Tryz.func358 (by kernel_rfl) afG (λx=>by kernel_rfl) rfl)
def ai4:An:=Qq1 3 (.j ⟨[0,2,3],[],[(0,c28),(3,c30)],[]⟩ true (.u (.l ⟨[0,2,3],[],[(0,c28),(3,c30)],[]⟩ (.s .z (.u (.k [0,1000000] [] []))))) .z)
def sd(k_:Nat):Ctr:=⟨⟨c34,[bu,aE],1,[0],[⟨none,false,true⟩,⟨some 387,false,false⟩]⟩,λx=>dQ k_ x⟩
def afO:Ctr:=⟨⟨c34,[bu,aE],1,[0],[⟨none,false,true⟩,⟨some 387,false,false⟩]⟩,λx=>mQ x⟩
def afp:An:=Qq1 3 (.j ⟨[0,4,5,1],[],[(5,c30)],[]⟩ true .z (.s (.k [0,1000000] [] []) (.s (.k [0,1000000] [] []) (.j ⟨[0,4,5],[],[(0,c28),(5,[.sc pi,.sc .str,.sc pi,.own .node 293 false [1000005]])],[]⟩ true (.s (.k [0,1000000,3000004,3000005] [] []) (.s (.k [0,1000000] [] []) .z)) .z))))
def AR(k:Nat):Ctr:=⟨⟨c32,[bu,aE],1,[0],[⟨some 293,false,true⟩,⟨some 387,false,false⟩]⟩,λx=>my (dQ k) x.1 x.2⟩
theorem GW(k:Nat)(h:(sd k).sound Tryz.prog 303):(AR k).sound Tryz.prog 357:=am (ao yf h) i4 Tryz.func357 (by kernel_rfl) (an:=afp) (λx=>(by kernel_rfl:(AR k).fn x=aG (aA Ec 303 (sd k)) Tryz.f357 afp (AR k).toSig x)) rfl
def agR:An:=.z
def D7(k:Nat):Ctr:=⟨⟨c34,[bu,aE],1,[0],[⟨some 293,false,true⟩,⟨some 387,false,false⟩]⟩,λx=>m9 (dQ k) x⟩
theorem Yz(k:Nat)(h:(sd k).sound Tryz.prog 303):(D7 k).sound Tryz.prog 336:=am (ao (ao yf h) (GW k h)) i4 Tryz.func336 (by kernel_rfl) (an:=agR) (λx=>(by kernel_rfl:(D7 k).fn x=aG (aA (aA Ec 303 (sd k)) 357 (AR k)) Tryz.f336 agR (D7 k).toSig x)) rfl
theorem we:∀k,(sd k).sound Tryz.prog 303
 |0=>λx r h=>by have h1:none=some r:=h;cases h1
 |k+1=>am (ao (ao (ao yf (we k)) (GW k (we k))) (Yz k (we k))) i4 Tryz.func303 (by kernel_rfl) (an:=ai4) (λx=>(by kernel_rfl:(sd (k+1)).fn x=aG (aA (aA (aA Ec 303 (sd k)) 357 (AR k)) 336 (D7 k)) Tryz.f303 ai4 (sd (k+1)).toSig x)) rfl
theorem Zp:afO.sound Tryz.prog 303:=we 64
def Tw:Cx:=aA Ec 303 afO
theorem Oz:Qq0 Tw:=ao yf Zp
def ahg:An:=Qq1 3 (.j ⟨[0,2,3],[(4,.lf (.sc pi))],[],[]⟩ true (.u (.l ⟨[0,2,3],[(4,.lf (.sc pi))],[],[]⟩ .z)) (.s .z (.s .z (.s .z (.j ⟨[0,2,5,4],[],[(0,c28),(5,c30)],[]⟩ false (.s .z (.u (.s .z (.s .z (.s .z (.s .z (.s .z (.s (.s .z (.j ⟨[0,2,5],[],[(0,c28),(5,c30)],[]⟩ true (.u (.l ⟨[0,2,5],[],[(0,c28),(5,c30)],[]⟩ .z)) .z)) (.j ⟨[0,2,5,38],[(84,.lf (.sc .bool))],[],[]⟩ true .z (.s (.s (.k [0,1000000] [] []) .z) .z)))))))))) .z)))))
def JS:Ctr:=⟨⟨c34,[bu,aE],1,[0],[⟨some 293,false,true⟩,⟨some 387,false,false⟩]⟩,λx=>oj x⟩
def Vy:Cx:=aA Tw 232 JS
theorem NQ:Qq0 Vy:=ao Oz (Qq2 Oz Tryz.func232 (by kernel_rfl) ahg (λx=>by kernel_rfl) rfl)
def afJ:An:=.s .z (.s .z (.j ⟨[1],[(3,.lf (.sc pi))],[],[]⟩ true (.s .z (.u (.l ⟨[1],[(3,.lf (.sc pi)),(4,.lf (.sc pi))],[],[]⟩ .z))) .z))
def Dz(k_:Nat):Ctr:=⟨⟨[.d bu],[(.sc pi)],1,[],[]⟩,λx=>kA k_ x⟩
def afc:Ctr:=⟨⟨[.d bu],[(.sc pi)],1,[],[]⟩,λx=>sL x⟩
theorem GI:∀k,(Dz k).sound Tryz.prog 233
 |0=>λx r h=>by have h1:none=some r:=h;cases h1
 |k+1=>am (ao NQ (GI k)) i4 Tryz.func233 (by kernel_rfl) (an:=afJ) (λx=>(by kernel_rfl:(Dz (k+1)).fn x=aG (aA Vy 233 (Dz k)) Tryz.f233 afJ (Dz (k+1)).toSig x)) rfl
theorem abM:afc.sound Tryz.prog 233:=GI 64
def Tg:Cx:=aA Vy 233 afc
theorem ML:Qq0 Tg:=ao NQ abM
def aiJ:An:=.s .z (.j ⟨[1],[],[],[]⟩ false (.s .z (.u (.j ⟨[4],[(5,.lf (.sc .bool))],[],[]⟩ true .z (.s .z (.j ⟨[4],[(9,.lf (.sc .bool))],[],[]⟩ true .z .z))))) .z)
def Jq:Ctr:=⟨⟨[.d bu],[(.sc pi)],1,[],[]⟩,λx=>sa x⟩
def Jh:Cx:=aA Tg 383 Jq
theorem CT:Qq0 Jh:=ao ML (Qq2 ML Tryz.func383 (by kernel_rfl) aiJ (λx=>by kernel_rfl) rfl)
def ahj:An:=.s .z (.j ⟨[1],[],[],[]⟩ false (.s .z (.u (Qq1 4 (.j ⟨[1,6],[(17,.lf (.sc .bool))],[],[]⟩ true .z .z)))) .z)
def xv(k_:Nat):Ctr:=⟨⟨[.d bu],[(.sc .str)],1,[],[]⟩,λx=>iI k_ x⟩
def ahh:Ctr:=⟨⟨[.d bu],[(.sc .str)],1,[],[]⟩,λx=>eL x⟩
def afV:An:=.z
def Dk(k:Nat):Ctr:=⟨⟨[.d bu,.d (.sc pi)],[(.sc .str)],1,[],[]⟩,λx=>ce (iI k) x.1 x.2⟩
theorem Yp(k:Nat)(h:(xv k).sound Tryz.prog 359):(Dk k).sound Tryz.prog 376:=am (ao CT h) i4 Tryz.func376 (by kernel_rfl) (an:=afV) (λx=>(by kernel_rfl:(Dk k).fn x=aG (aA Jh 359 (xv k)) Tryz.f376 afV (Dk k).toSig x)) rfl
theorem zQ:∀k,(xv k).sound Tryz.prog 359
 |0=>λx r h=>by have h1:none=some r:=h;cases h1
 |k+1=>am (ao (ao CT (zQ k)) (Yp k (zQ k))) i4 Tryz.func359 (by kernel_rfl) (an:=ahj) (λx=>(by kernel_rfl:(xv (k+1)).fn x=aG (aA (aA Jh 359 (xv k)) 376 (Dk k)) Tryz.f359 ahj (xv (k+1)).toSig x)) rfl
theorem aeE:ahh.sound Tryz.prog 359:=zQ 64
def Jm:Cx:=aA Jh 359 ahh
theorem Da:Qq0 Jm:=ao CT aeE
def ahA:An:=.s .z (.s .z (.j ⟨[1],[(3,.lf (.sc .str))],[],[]⟩ true (.s .z (.u (.l ⟨[1],[(3,.lf (.sc .str)),(4,.lf (.sc pi))],[],[]⟩ .z))) .z))
def xk(k_:Nat):Ctr:=⟨⟨[.d bu],[(.sc .str)],1,[],[]⟩,λx=>iB k_ x⟩
def aid:Ctr:=⟨⟨[.d bu],[(.sc .str)],1,[],[]⟩,λx=>tD x⟩
def afl:An:=.s .z (.s .z (.s (.s .z (.u (Qq1 7 (.s (.s .z (.j ⟨[3],[(4,.lf (.sc .str))],[],[]⟩ true .z .z)) .z)))) (.s .z (.j ⟨[1,5,3],[],[],[]⟩ false (.s .z (.u (.j ⟨[1,3,5,78],[(79,.lf (.sc .bool))],[],[]⟩ true .z (.s .z (.j ⟨[1,3,5,78],[(90,.lf (.sc .bool))],[],[]⟩ true .z .z))))) .z))))
def DN(k:Nat):Ctr:=⟨⟨[.d bu],[(.sc .str)],1,[],[]⟩,λx=>tG (iB k) x⟩
theorem XQ(k:Nat)(h:(xk k).sound Tryz.prog 305):(DN k).sound Tryz.prog 337:=am (ao Da h) i4 Tryz.func337 (by kernel_rfl) (an:=afl) (λx=>(by kernel_rfl:(DN k).fn x=aG (aA Jm 305 (xk k)) Tryz.f337 afl (DN k).toSig x)) rfl
theorem Ak:∀k,(xk k).sound Tryz.prog 305
 |0=>λx r h=>by have h1:none=some r:=h;cases h1
 |k+1=>am (ao (ao Da (Ak k)) (XQ k (Ak k))) i4 Tryz.func305 (by kernel_rfl) (an:=ahA) (λx=>(by kernel_rfl:(xk (k+1)).fn x=aG (aA (aA Jm 305 (xk k)) 337 (DN k)) Tryz.f305 ahA (xk (k+1)).toSig x)) rfl
theorem ae1:aid.sound Tryz.prog 305:=Ak 64
def Tp:Cx:=aA Jm 305 aid
theorem L1:Qq0 Tp:=ao Da ae1
def aij:An:=.s .z (.s .z (.j ⟨[1],[(3,.lf (.sc .str))],[],[]⟩ false (.s .z (.u (Qq1 4 (.j ⟨[1,3,15],[(34,.lf (.sc .bool))],[],[]⟩ true .z (.s .z (.s .z (.s (.s .z (.j ⟨[1],[(3,.lf (.sc .str))],[],[]⟩ true (.s .z (.u (.l ⟨[1],[(3,.lf (.sc .str)),(4,.lf (.sc pi))],[],[]⟩ .z))) .z)) .z))))))) .z))
def Hv:Ctr:=⟨⟨[.d bu],[(.sc .str)],1,[],[]⟩,λx=>tE x⟩
def RW:Cx:=aA Tp 234 Hv
theorem Oq:Qq0 RW:=ao L1 (Qq2 L1 Tryz.func234 (by kernel_rfl) aij (λx=>by kernel_rfl) rfl)
def agp:An:=Qq1 5 (.s (.s .z (.s (.s (.s .z (.s (.s (.k [2] [] []) .z) .z)) (.s (.k [2] [] []) .z)) .z)) (.s (.s .z (.s (.s (.k [2] [] []) .z) .z)) .z))
def HQ:Ctr:=⟨⟨[.d (.sc .str)],[bu,(.sc pi),(.sc pi)],3,[],[⟨some 293,false,true⟩]⟩,λx=>gd x⟩
def VO:Cx:=aA RW 154 HQ
theorem Nc:Qq0 VO:=ao Oq (Qq2 Oq Tryz.func154 (by kernel_rfl) agp (λx=>by kernel_rfl) rfl)
end
end Go.Proofs.YtgghcmbaidihjaaGreatDoor
