/-
  The functions of the program compute what their Lean functions say. No condition.
-/
import Derived.Test.YtfhhiajfciblbaaGreatDoorCtC
namespace Go.Proofs.YtfhhiajfciblbaaGreatDoor
open Go.Sm
set_option maxRecDepth 100000
set_option linter.unusedSectionVars false
section
variable [Itr] [SortLaw]
def Xk:An:=.s .z (.s .z (.s .z (.j ⟨[0],[(4, .lf (.own ba 240 false [])),(5, .lf (.sc (.int .i64)))],[],[]⟩ false (.u (.l ⟨[0],[(4, .lf (.own ba 240 false [])),(5, .lf (.sc (.int .i64)))],[],[]⟩ .z)) .z)))
def DS:Ctr:=⟨⟨[.d (.sc .str)],[(.slice ba),(.sc (.int .i64))],2,[],[⟨some 240,false,false⟩]⟩,fun x=>qq x⟩
theorem Sc:DS.sound Tryz.prog 146:=am GC aw Tryz.func146 (by kernel_rfl) (an:=Xk) (fun x=>(by kernel_rfl:DS.fn x=aJ N5 Tryz.f146 Xk DS.toSig x)) rfl
def N2:Cx:=aC N5 146 DS
theorem F9:N2.ok Tryz.prog:=ak GC Sc
def W8:An:=.z
def Ew:Ctr:=⟨⟨[.box false aB []],[(.sc .str)],1,[],[]⟩,fun x=>bF x⟩
theorem Vl:Ew.sound Tryz.prog 187:=am F9 aw Tryz.func187 (by kernel_rfl) (an:=W8) (fun x=>(by kernel_rfl:Ew.fn x=aJ N2 Tryz.f187 W8 Ew.toSig x)) rfl
def Nt:Cx:=aC N2 187 Ew
theorem FL:Nt.ok Tryz.prog:=ak F9 Vl
def Yi:An:=.z
def Eg:Ctr:=⟨⟨[],[(.slice (.sc .str))],1,[],[⟨some 9,false,false⟩]⟩,fun _=>gv ⟩
theorem U3:Eg.sound Tryz.prog 188:=am FL aw Tryz.func188 (by kernel_rfl) (an:=Yi) (fun x=>(by kernel_rfl:Eg.fn x=aJ Nt Tryz.f188 Yi Eg.toSig x)) rfl
def Ld:Cx:=aC Nt 188 Eg
theorem Hr:Ld.ok Tryz.prog:=ak FL U3
def Yg:An:=.z
def Db:Ctr:=⟨⟨[],[(.slice (.sc .str))],1,[],[⟨some 9,false,false⟩]⟩,fun _=>pM ⟩
theorem QR:Db.sound Tryz.prog 249:=am Hr aw Tryz.func249 (by kernel_rfl) (an:=Yg) (fun x=>(by kernel_rfl:Db.fn x=aJ Ld Tryz.f249 Yg Db.toSig x)) rfl
def KV:Cx:=aC Ld 249 Db
theorem Gx:KV.ok Tryz.prog:=ak Hr QR
def XR:An:=.s .z (.j ⟨[0,1],[],[],[]⟩ false (.s .z (.u (.l ⟨[0,1],[(5, .lf (.sc (.int .i64)))],[],[]⟩ .z))) .z)
def Ev:Ctr:=⟨⟨[.d (.slice (.sc .str)), .d (.sc .str)],[(.sc .bool)],1,[],[]⟩,fun x=>ee x.1 x.2⟩
theorem R6:Ev.sound Tryz.prog 183:=am Gx aw Tryz.func183 (by kernel_rfl) (an:=XR) (fun x=>(by kernel_rfl:Ev.fn x=aJ KV Tryz.f183 XR Ev.toSig x)) rfl
def Od:Cx:=aC KV 183 Ev
theorem F0:Od.ok Tryz.prog:=ak Gx R6
def Ye:An:=.z
def D1:Ctr:=⟨⟨[.d (.sc .str)],[(.sc .bool)],1,[],[]⟩,fun x=>oL x⟩
theorem Sn:D1.sound Tryz.prog 235:=am F0 aw Tryz.func235 (by kernel_rfl) (an:=Ye) (fun x=>(by kernel_rfl:D1.fn x=aJ Od Tryz.f235 Ye D1.toSig x)) rfl
def Mx:Cx:=aC Od 235 D1
theorem GK:Mx.ok Tryz.prog:=ak F0 Sn
def Xj:An:=.z
def C0:Ctr:=⟨⟨[.box true aB [some 240]],[(.sc .str),aB],1,[0],[⟨some 240,false,false⟩]⟩,fun x=>cA x⟩
theorem UT:C0.sound Tryz.prog 189:=am GK aw Tryz.func189 (by kernel_rfl) (an:=Xj) (fun x=>(by kernel_rfl:C0.fn x=aJ Mx Tryz.f189 Xj C0.toSig x)) rfl
def LZ:Cx:=aC Mx 189 C0
theorem Hp:LZ.ok Tryz.prog:=ak GK UT
def VK:An:=.z
def D7:Ctr:=⟨⟨[.box true aB [some 240], .d (.sc .str)],[(.sc .bool),aB],1,[0],[⟨some 240,false,false⟩]⟩,fun x=>cy x.1 x.2⟩
theorem Ss:D7.sound Tryz.prog 236:=am Hp aw Tryz.func236 (by kernel_rfl) (an:=VK) (fun x=>(by kernel_rfl:D7.fn x=aJ LZ Tryz.f236 VK D7.toSig x)) rfl
def MB:Cx:=aC LZ 236 D7
theorem FV:MB.ok Tryz.prog:=ak Hp Ss
def VZ:An:=.z
def DT:Ctr:=⟨⟨[.box true aB [some 240], .d (.sc .str)],[aB],0,[0],[⟨some 240,false,false⟩]⟩,fun x=>bE x.1 x.2⟩
theorem UH:DT.sound Tryz.prog 190:=am FV aw Tryz.func190 (by kernel_rfl) (an:=VZ) (fun x=>(by kernel_rfl:DT.fn x=aJ MB Tryz.f190 VZ DT.toSig x)) rfl
def Oe:Cx:=aC MB 190 DT
theorem HY:Oe.ok Tryz.prog:=ak FV UH
def X2:An:=.s .z (.s .z (.j ⟨[0],[(3, .lf (.sc (.int .i64)))],[],[]⟩ true (.s .z (.u (.l ⟨[0],[(3, .lf (.sc (.int .i64))),(4, .lf (.sc (.int .i64)))],[],[]⟩ .z))) .z))
def DK:Ctr:=⟨⟨[.d (.sc .str)],[(.sc (.int .i64))],1,[],[]⟩,fun x=>pD x⟩
theorem S6:DK.sound Tryz.prog 237:=am HY aw Tryz.func237 (by kernel_rfl) (an:=X2) (fun x=>(by kernel_rfl:DK.fn x=aJ Oe Tryz.f237 X2 DK.toSig x)) rfl
def ML:Cx:=aC Oe 237 DK
theorem G3:ML.ok Tryz.prog:=ak HY S6
def Ym:An:=.z
def Cu:Ctr:=⟨⟨[.box true aB [some 240], .d (.sc (.int .i64)), .d (.sc (.int .i64))],[(.sc (.int .i64)),aB],1,[0],[⟨some 240,false,false⟩]⟩,fun x=>ce x.1 x.2.1 x.2.2⟩
theorem RB:Cu.sound Tryz.prog 192:=am G3 aw Tryz.func192 (by kernel_rfl) (an:=Ym) (fun x=>(by kernel_rfl:Cu.fn x=aJ ML Tryz.f192 Ym Cu.toSig x)) rfl
def NT:Cx:=aC ML 192 Cu
theorem GL:NT.ok Tryz.prog:=ak G3 RB
def Wt:An:=.z
def DA:Ctr:=⟨⟨[.box true aB [some 240]],[(.sc (.int .i64)),aB],1,[0],[⟨some 240,false,false⟩]⟩,fun x=>ij x⟩
theorem Ul:DA.sound Tryz.prog 191:=am GL aw Tryz.func191 (by kernel_rfl) (an:=Wt) (fun x=>(by kernel_rfl:DA.fn x=aJ NT Tryz.f191 Wt DA.toSig x)) rfl
def NA:Cx:=aC NT 191 DA
theorem Gp:NA.ok Tryz.prog:=ak GL Ul
def VN:An:=.z
def Ds:Ctr:=⟨⟨[.box true aB [some 240]],[(.sc .str),aB],1,[0],[⟨some 240,false,false⟩]⟩,fun x=>dt x⟩
theorem UN:Ds.sound Tryz.prog 256:=am Gp aw Tryz.func256 (by kernel_rfl) (an:=VN) (fun x=>(by kernel_rfl:Ds.fn x=aJ NA Tryz.f256 VN Ds.toSig x)) rfl
def Nv:Cx:=aC NA 256 Ds
theorem EB:Nv.ok Tryz.prog:=ak Gp UN
def Vx:An:=.s .z (.s .z (.j ⟨[0,2,3],[],[(0,[.sc .str, .own ba 240 false [], .sc (.int .i64), .sc .bool, .sc .bool]),(3,[.sc (.int .i64), .sc .str, .sc (.int .i64), .own .node 169 false []])],[]⟩ true (.s .z (.s (.s .z (.k [0,1000000] [] [])) .z)) .z))
def C5:Ctr:=⟨⟨[.box true aB [some 240]],[bk,aB],1,[0],[⟨some 169,false,true⟩,⟨some 240,false,false⟩]⟩,fun x=>ir x⟩
theorem UJ:C5.sound Tryz.prog 259:=am EB aw Tryz.func259 (by kernel_rfl) (an:=Vx) (fun x=>(by kernel_rfl:C5.fn x=aJ Nv Tryz.f259 Vx C5.toSig x)) rfl
def wG:Cx:=aC Nv 259 C5
theorem ry:wG.ok Tryz.prog:=ak EB UJ
def WX:An:=.s .z (.s .z (.s .z (.s .z (.j ⟨[0,2,3],[],[(0,[.sc .str, .own ba 240 false [], .sc (.int .i64), .sc .bool, .sc .bool])],[4]⟩ false (.s .z (.u (.l ⟨[0,2,3,4],[(5, .lf (.sc (.int .i64)))],[(0,[.sc .str, .own ba 240 false [], .sc (.int .i64), .sc .bool, .sc .bool])],[]⟩ (.s .z (.s (.u (.s .z (.s (.s (.k [0,1000000] [] []) .z) .z))) .z))))) .z))))
def mQ (k_:Nat):Ctr:=⟨⟨[.box true aB [some 240]],[bk,aB],1,[0],[⟨none,false,true⟩,⟨some 240,false,false⟩]⟩,fun x=>cL k_ x⟩
def VH:Ctr:=⟨⟨[.box true aB [some 240]],[bk,aB],1,[0],[⟨none,false,true⟩,⟨some 240,false,false⟩]⟩,fun x=>dF x⟩
def Wn:An:=.z
def tU (k:Nat):Ctr:=⟨⟨[.box true aB [some 240]],[bk,aB],1,[0],[⟨none,false,true⟩,⟨some 240,false,false⟩]⟩,fun x=>i6 ( cL k) x⟩
theorem vK (k:Nat) (h:(mQ k).sound Tryz.prog 254):(tU k).sound Tryz.prog 262:=am (ak ry h) aw Tryz.func262 (by kernel_rfl) (an:=Wn) (fun x=>(by kernel_rfl:(tU k).fn x=aJ (aC wG 254 (mQ k)) Tryz.f262 Wn (tU k).toSig x)) rfl
def X8:An:=.s .z (.s .z (.j ⟨[0,2,3],[],[(0,[.sc .str, .own ba 240 false [], .sc (.int .i64), .sc .bool, .sc .bool]),(3,[.sc (.int .i64), .sc .str, .sc (.int .i64), .rep .node false [1000003]])],[]⟩ true (.u (.l ⟨[0,2,3],[],[(0,[.sc .str, .own ba 240 false [], .sc (.int .i64), .sc .bool, .sc .bool]),(3,[.sc (.int .i64), .sc .str, .sc (.int .i64), .rep .node false [1000003]])],[]⟩ (.s .z (.u (.k [0,1000000] [] []))))) .z))
def vz (k:Nat):Ctr:=⟨⟨[.box true aB [some 240]],[bk,aB],1,[0],[⟨none,false,true⟩,⟨some 240,false,false⟩]⟩,fun x=>iY ( cL k) x⟩
theorem BH (k:Nat) (h:(mQ k).sound Tryz.prog 254):(vz k).sound Tryz.prog 261:=am (ak (ak ry h) (vK k h)) aw Tryz.func261 (by kernel_rfl) (an:=X8) (fun x=>(by kernel_rfl:(vz k).fn x=aJ (aC (aC wG 254 (mQ k)) 262 (tU k)) Tryz.f261 X8 (vz k).toSig x)) rfl
def VB:An:=.s .z (.s .z (.j ⟨[0,2,3],[],[(0,[.sc .str, .own ba 240 false [], .sc (.int .i64), .sc .bool, .sc .bool]),(3,[.sc (.int .i64), .sc .str, .sc (.int .i64), .rep .node false [1000003]])],[]⟩ true (.u (.l ⟨[0,2,3],[],[(0,[.sc .str, .own ba 240 false [], .sc (.int .i64), .sc .bool, .sc .bool]),(3,[.sc (.int .i64), .sc .str, .sc (.int .i64), .rep .node false [1000003]])],[]⟩ (.s .z (.u (.s .z (.j ⟨[0,2,3],[(4, .lf (.sc (.int .i64)))],[],[]⟩ true .z (.s .z (.k [0,1000000] [] [])))))))) .z))
def zM (k:Nat):Ctr:=⟨⟨[.box true aB [some 240]],[bk,aB],1,[0],[⟨none,false,true⟩,⟨some 240,false,false⟩]⟩,fun x=>jr ( cL k) x⟩
theorem O5 (k:Nat) (h:(mQ k).sound Tryz.prog 254):(zM k).sound Tryz.prog 258:=am (ak (ak (ak ry h) (vK k h)) (BH k h)) aw Tryz.func258 (by kernel_rfl) (an:=VB) (fun x=>(by kernel_rfl:(zM k).fn x=aJ (aC (aC (aC wG 254 (mQ k)) 262 (tU k)) 261 (vz k)) Tryz.f258 VB (zM k).toSig x)) rfl
theorem pL : ∀ k,(mQ k).sound Tryz.prog 254
 | 0=>fun x r h=>by
  have h1:none=some r:=h
  cases h1
 | k+1=>am (ak (ak (ak (ak ry (pL k)) (vK k (pL k))) (BH k (pL k))) (O5 k (pL k))) aw Tryz.func254 (by kernel_rfl) (an:=WX) (fun x=>(by kernel_rfl:(mQ (k+1)).fn x=aJ (aC (aC (aC (aC wG 254 (mQ k)) 262 (tU k)) 261 (vz k)) 258 (zM k)) Tryz.f254 WX (mQ (k+1)).toSig x)) rfl
theorem Rx:VH.sound Tryz.prog 254:=pL 64
def Ll:Cx:=aC wG 254 VH
theorem Gs:Ll.ok Tryz.prog:=ak ry Rx
def WE:An:=.s .z (.s (.s .z (.s (.s .z (.s .z (.s (.k [0,1000000] [] []) .z))) .z)) (.s .z (.s (.k [0,1000000] [] []) (.s .z (.s (.k [0,1000000] [] []) .z)))))
def CZ:Ctr:=⟨⟨[.box true aB [some 240], .d (.sc .str)],[bk,aB],1,[0],[⟨some 169,false,true⟩,⟨some 240,false,false⟩]⟩,fun x=>li x.1 x.2⟩
theorem UZ:CZ.sound Tryz.prog 255:=am Gs aw Tryz.func255 (by kernel_rfl) (an:=WE) (fun x=>(by kernel_rfl:CZ.fn x=aJ Ll Tryz.f255 WE CZ.toSig x)) rfl
def Nk:Cx:=aC Ll 255 CZ
theorem Gf:Nk.ok Tryz.prog:=ak Gs UZ
def Ww:An:=.s .z (.s .z (.j ⟨[0,1,4],[(5, .lf (.sc (.int .i64)))],[],[]⟩ true (.u (.l ⟨[0,1,4],[(5, .lf (.sc (.int .i64)))],[],[]⟩ .z)) (.s .z (.s .z (.s .z (.j ⟨[0,4,6,5],[],[(0,[.sc .str, .own ba 240 false [], .sc (.int .i64), .sc .bool, .sc .bool]),(6,[.sc (.int .i64), .sc .str, .sc (.int .i64), .own .node 169 false []])],[]⟩ true (.s .z (.u (.j ⟨[0,4,6,33],[(34, .lf (.sc .bool))],[],[]⟩ true .z (.s .z (.j ⟨[0,4,6,33],[(42, .lf (.sc .bool))],[],[]⟩ true .z (.s (.s .z (.k [0,1000000] [] [])) (.j ⟨[0,4,6,33],[(55, .lf (.sc .bool))],[],[]⟩ true .z (.s (.s .z (.k [0,1000000] [] [])) (.s .z (.s .z (.s .z (.s .z (.s .z (.s .z (.s .z (.s .z (.s .z (.s (.k [0,1000000] [] []) .z)))))))))))))))))) .z))))))
def CI:Ctr:=⟨⟨[.box true aB [some 240], .d (.sc .str)],[bk,aB],1,[0],[⟨some 169,false,true⟩,⟨some 240,false,false⟩]⟩,fun x=>lh x.1 x.2⟩
theorem U6:CI.sound Tryz.prog 251:=am Gf aw Tryz.func251 (by kernel_rfl) (an:=Ww) (fun x=>(by kernel_rfl:CI.fn x=aJ Nk Tryz.f251 Ww CI.toSig x)) rfl
def zb:Cx:=aC Nk 251 CI
theorem uG:zb.ok Tryz.prog:=ak Gf U6
def Xg:An:=.s .z (.s .z (.s .z (.j ⟨[0,2,3],[],[(0,[.sc .str, .own ba 240 false [], .sc (.int .i64), .sc .bool, .sc .bool]),(3,[.sc (.int .i64), .sc .str, .sc (.int .i64), .own .node 169 false []])],[]⟩ true (.u (.l ⟨[0,2,3],[],[(0,[.sc .str, .own ba 240 false [], .sc (.int .i64), .sc .bool, .sc .bool]),(3,[.sc (.int .i64), .sc .str, .sc (.int .i64), .own .node 169 false []])],[]⟩ (.s .z (.u (.k [0,1000000] [] []))))) .z)))
def pF (k_:Nat):Ctr:=⟨⟨[.box true aB [some 240]],[bk,aB],1,[0],[⟨none,false,true⟩,⟨some 240,false,false⟩]⟩,fun x=>dv k_ x⟩
def X6:Ctr:=⟨⟨[.box true aB [some 240]],[bk,aB],1,[0],[⟨none,false,true⟩,⟨some 240,false,false⟩]⟩,fun x=>lG x⟩
def Wf:An:=.s .z (.s .z (.s .z (.j ⟨[0,4,5,1],[],[(5,[.sc (.int .i64), .sc .str, .sc (.int .i64), .own .node 169 false []])],[]⟩ true .z (.s (.k [0,1000000] [] []) (.s (.k [0,1000000] [] []) (.j ⟨[0,4,5],[],[(0,[.sc .str, .own ba 240 false [], .sc (.int .i64), .sc .bool, .sc .bool]),(5,[.sc (.int .i64), .sc .str, .sc (.int .i64), .own .node 169 false [1000005]])],[]⟩ true (.s (.k [0,1000000,3000004,3000005] [] []) (.s (.k [0,1000000] [] []) .z)) .z))))))
def vM (k:Nat):Ctr:=⟨⟨[.box true aB [some 240], .d (.sc .str)],[bk,aB],1,[0],[⟨some 169,false,true⟩,⟨some 240,false,false⟩]⟩,fun x=>lk ( dv k) x.1 x.2⟩
theorem B5 (k:Nat) (h:(pF k).sound Tryz.prog 193):(vM k).sound Tryz.prog 250:=am (ak uG h) aw Tryz.func250 (by kernel_rfl) (an:=Wf) (fun x=>(by kernel_rfl:(vM k).fn x=aJ (aC zb 193 (pF k)) Tryz.f250 Wf (vM k).toSig x)) rfl
def XL:An:=.z
def yZ (k:Nat):Ctr:=⟨⟨[.box true aB [some 240]],[bk,aB],1,[0],[⟨some 169,false,true⟩,⟨some 240,false,false⟩]⟩,fun x=>lX ( dv k) x⟩
theorem Pi (k:Nat) (h:(pF k).sound Tryz.prog 193):(yZ k).sound Tryz.prog 238:=am (ak (ak uG h) (B5 k h)) aw Tryz.func238 (by kernel_rfl) (an:=XL) (fun x=>(by kernel_rfl:(yZ k).fn x=aJ (aC (aC zb 193 (pF k)) 250 (vM k)) Tryz.f238 XL (yZ k).toSig x)) rfl
theorem sf : ∀ k,(pF k).sound Tryz.prog 193
 | 0=>fun x r h=>by
  have h1:none=some r:=h
  cases h1
 | k+1=>am (ak (ak (ak uG (sf k)) (B5 k (sf k))) (Pi k (sf k))) aw Tryz.func193 (by kernel_rfl) (an:=Xg) (fun x=>(by kernel_rfl:(pF (k+1)).fn x=aJ (aC (aC (aC zb 193 (pF k)) 250 (vM k)) 238 (yZ k)) Tryz.f193 Xg (pF (k+1)).toSig x)) rfl
theorem Td:X6.sound Tryz.prog 193:=sf 64
def Lx:Cx:=aC zb 193 X6
theorem Hv:Lx.ok Tryz.prog:=ak uG Td
def WG:An:=.s .z (.s .z (.s .z (.j ⟨[0,2,3],[(4, .lf (.sc (.int .i64)))],[],[]⟩ true (.u (.l ⟨[0,2,3],[(4, .lf (.sc (.int .i64)))],[],[]⟩ .z)) (.s .z (.s .z (.s .z (.j ⟨[0,2,5,4],[],[(0,[.sc .str, .own ba 240 false [], .sc (.int .i64), .sc .bool, .sc .bool]),(5,[.sc (.int .i64), .sc .str, .sc (.int .i64), .own .node 169 false []])],[]⟩ false (.s .z (.u (.s .z (.s .z (.s .z (.s .z (.s .z (.s (.s .z (.j ⟨[0,2,5],[],[(0,[.sc .str, .own ba 240 false [], .sc (.int .i64), .sc .bool, .sc .bool]),(5,[.sc (.int .i64), .sc .str, .sc (.int .i64), .own .node 169 false []])],[]⟩ true (.u (.l ⟨[0,2,5],[],[(0,[.sc .str, .own ba 240 false [], .sc (.int .i64), .sc .bool, .sc .bool]),(5,[.sc (.int .i64), .sc .str, .sc (.int .i64), .own .node 169 false []])],[]⟩ .z)) .z)) (.j ⟨[0,2,5,38],[(84, .lf (.sc .bool))],[],[]⟩ true .z (.s (.s (.k [0,1000000] [] []) .z) .z)))))))))) .z)))))))
def D2:Ctr:=⟨⟨[.box true aB [some 240]],[bk,aB],1,[0],[⟨some 169,false,true⟩,⟨some 240,false,false⟩]⟩,fun x=>mw x⟩
theorem Rh:D2.sound Tryz.prog 147:=am Hv aw Tryz.func147 (by kernel_rfl) (an:=WG) (fun x=>(by kernel_rfl:D2.fn x=aJ Lx Tryz.f147 WG D2.toSig x)) rfl
def Nc:Cx:=aC Lx 147 D2
theorem EL:Nc.ok Tryz.prog:=ak Hv Rh
def Yp:An:=.s .z (.s .z (.j ⟨[1],[(3, .lf (.sc (.int .i64)))],[],[]⟩ true (.s .z (.u (.l ⟨[1],[(3, .lf (.sc (.int .i64))),(4, .lf (.sc (.int .i64)))],[],[]⟩ .z))) .z))
def z9 (k_:Nat):Ctr:=⟨⟨[.d bk],[(.sc (.int .i64))],1,[],[]⟩,fun x=>jY k_ x⟩
def Wr:Ctr:=⟨⟨[.d bk],[(.sc (.int .i64))],1,[],[]⟩,fun x=>pG x⟩
theorem BL : ∀ k,(z9 k).sound Tryz.prog 148
 | 0=>fun x r h=>by
  have h1:none=some r:=h
  cases h1
 | k+1=>am (ak EL (BL k)) aw Tryz.func148 (by kernel_rfl) (an:=Yp) (fun x=>(by kernel_rfl:(z9 (k+1)).fn x=aJ (aC Nc 148 (z9 k)) Tryz.f148 Yp (z9 (k+1)).toSig x)) rfl
theorem TJ:Wr.sound Tryz.prog 148:=BL 64
def Nn:Cx:=aC Nc 148 Wr
theorem He:Nn.ok Tryz.prog:=ak EL TJ
def WY:An:=.s .z (.j ⟨[1],[],[],[]⟩ false (.s .z (.u (.j ⟨[4],[(5, .lf (.sc .bool))],[],[]⟩ true .z (.s .z (.j ⟨[4],[(9, .lf (.sc .bool))],[],[]⟩ true .z .z))))) .z)
def Ep:Ctr:=⟨⟨[.d bk],[(.sc (.int .i64))],1,[],[]⟩,fun x=>pQ x⟩
theorem QT:Ep.sound Tryz.prog 260:=am He aw Tryz.func260 (by kernel_rfl) (an:=WY) (fun x=>(by kernel_rfl:Ep.fn x=aJ Nn Tryz.f260 WY Ep.toSig x)) rfl
def Eu:Cx:=aC Nn 260 Ep
theorem yK:Eu.ok Tryz.prog:=ak He QT
def Wx:An:=.s .z (.j ⟨[1],[],[],[]⟩ false (.s .z (.u (.s .z (.s .z (.s .z (.s .z (.j ⟨[1,6],[(17, .lf (.sc .bool))],[],[]⟩ true .z .z))))))) .z)
def tW (k_:Nat):Ctr:=⟨⟨[.d bk],[(.sc .str)],1,[],[]⟩,fun x=>hM k_ x⟩
def VS:Ctr:=⟨⟨[.d bk],[(.sc .str)],1,[],[]⟩,fun x=>dY x⟩
def Xw:An:=.z
def zw (k:Nat):Ctr:=⟨⟨[.d bk, .d (.sc (.int .i64))],[(.sc .str)],1,[],[]⟩,fun x=>bQ ( hM k) x.1 x.2⟩
theorem QC (k:Nat) (h:(tW k).sound Tryz.prog 252):(zw k).sound Tryz.prog 257:=am (ak yK h) aw Tryz.func257 (by kernel_rfl) (an:=Xw) (fun x=>(by kernel_rfl:(zw k).fn x=aJ (aC Eu 252 (tW k)) Tryz.f257 Xw (zw k).toSig x)) rfl
theorem vB : ∀ k,(tW k).sound Tryz.prog 252
 | 0=>fun x r h=>by
  have h1:none=some r:=h
  cases h1
 | k+1=>am (ak (ak yK (vB k)) (QC k (vB k))) aw Tryz.func252 (by kernel_rfl) (an:=Wx) (fun x=>(by kernel_rfl:(tW (k+1)).fn x=aJ (aC (aC Eu 252 (tW k)) 257 (zw k)) Tryz.f252 Wx (tW (k+1)).toSig x)) rfl
theorem S4:VS.sound Tryz.prog 252:=vB 64
def CH:Cx:=aC Eu 252 VS
theorem xX:CH.ok Tryz.prog:=ak yK S4
def XH:An:=.s .z (.s .z (.j ⟨[1],[(3, .lf (.sc .str))],[],[]⟩ true (.s .z (.u (.l ⟨[1],[(3, .lf (.sc .str)),(4, .lf (.sc (.int .i64)))],[],[]⟩ .z))) .z))
def ua (k_:Nat):Ctr:=⟨⟨[.d bk],[(.sc .str)],1,[],[]⟩,fun x=>hY k_ x⟩
def VA:Ctr:=⟨⟨[.d bk],[(.sc .str)],1,[],[]⟩,fun x=>qt x⟩
def XP:An:=.s .z (.s .z (.s (.s .z (.u (.s .z (.s .z (.s .z (.s .z (.s .z (.s .z (.s .z (.s (.s .z (.j ⟨[3],[(4, .lf (.sc .str))],[],[]⟩ true .z .z)) .z)))))))))) (.s .z (.j ⟨[1,5,3],[],[],[]⟩ false (.s .z (.u (.j ⟨[1,3,5,78],[(79, .lf (.sc .bool))],[],[]⟩ true .z (.s .z (.j ⟨[1,3,5,78],[(90, .lf (.sc .bool))],[],[]⟩ true .z .z))))) .z))))
def zt (k:Nat):Ctr:=⟨⟨[.d bk],[(.sc .str)],1,[],[]⟩,fun x=>qp ( hY k) x⟩
theorem QD (k:Nat) (h:(ua k).sound Tryz.prog 195):(zt k).sound Tryz.prog 239:=am (ak xX h) aw Tryz.func239 (by kernel_rfl) (an:=XP) (fun x=>(by kernel_rfl:(zt k).fn x=aJ (aC CH 195 (ua k)) Tryz.f239 XP (zt k).toSig x)) rfl
theorem vV : ∀ k,(ua k).sound Tryz.prog 195
 | 0=>fun x r h=>by
  have h1:none=some r:=h
  cases h1
 | k+1=>am (ak (ak xX (vV k)) (QD k (vV k))) aw Tryz.func195 (by kernel_rfl) (an:=XH) (fun x=>(by kernel_rfl:(ua (k+1)).fn x=aJ (aC (aC CH 195 (ua k)) 239 (zt k)) Tryz.f195 XH (ua (k+1)).toSig x)) rfl
theorem QS:VA.sound Tryz.prog 195:=vV 64
def KP:Cx:=aC CH 195 VA
theorem E2:KP.ok Tryz.prog:=ak xX QS
def W6:An:=.s .z (.s .z (.j ⟨[1],[(3, .lf (.sc .str))],[],[]⟩ false (.s .z (.u (.s .z (.s .z (.s .z (.s .z (.j ⟨[1,3,15],[(34, .lf (.sc .bool))],[],[]⟩ true .z (.s .z (.s .z (.s (.s .z (.j ⟨[1],[(3, .lf (.sc .str))],[],[]⟩ true (.s .z (.u (.l ⟨[1],[(3, .lf (.sc .str)),(4, .lf (.sc (.int .i64)))],[],[]⟩ .z))) .z)) .z)))))))))) .z))
def Cv:Ctr:=⟨⟨[.d bk],[(.sc .str)],1,[],[]⟩,fun x=>qn x⟩
theorem Ri:Cv.sound Tryz.prog 149:=am E2 aw Tryz.func149 (by kernel_rfl) (an:=W6) (fun x=>(by kernel_rfl:Cv.fn x=aJ KP Tryz.f149 W6 Cv.toSig x)) rfl
def K3:Cx:=aC KP 149 Cv
theorem H8:K3.ok Tryz.prog:=ak E2 Ri
def abX:An:=.s .z (.s .z (.s .z (.s .z (.s .z (.s (.s .z (.s (.s (.s .z (.s (.s (.k [2] [] []) .z) .z)) (.s (.k [2] [] []) .z)) .z)) (.s (.s .z (.s (.s (.k [2] [] []) .z) .z)) .z))))))
def Nx:Ctr:=⟨⟨[.d (.sc .str)],[bk,(.sc (.int .i64)),(.sc (.int .i64))],3,[],[⟨some 169,false,true⟩]⟩,fun x=>db x⟩
theorem aaw:Nx.sound Tryz.prog 88:=am H8 aw Tryz.func88 (by kernel_rfl) (an:=abX) (fun x=>(by kernel_rfl:Nx.fn x=aJ K3 Tryz.f88 abX Nx.toSig x)) rfl
def TX:Cx:=aC K3 88 Nx
theorem I1:TX.ok Tryz.prog:=ak H8 aaw
def acB:An:=.s .z (.j ⟨[0,1],[],[],[]⟩ false (.s .z (.u (.l ⟨[0,1],[(5, .lf (.sc (.int .i64)))],[],[]⟩ .z))) .z)
def Oi:Ctr:=⟨⟨[.d (.slice bR), .d (.sc .str)],[(.sc (.int .i64))],1,[],[]⟩,fun x=>bB x.1 x.2⟩
theorem YX:Oi.sound Tryz.prog 89:=am I1 aw Tryz.func89 (by kernel_rfl) (an:=acB) (fun x=>(by kernel_rfl:Oi.fn x=aJ TX Tryz.f89 acB Oi.toSig x)) rfl
def Ug:Cx:=aC TX 89 Oi
theorem Jg:Ug.ok Tryz.prog:=ak I1 YX
def W7:An:=.s .z (.s .z (.j ⟨[1],[(3, .lf (.own (.sc .str) 9 false []))],[],[]⟩ true (.s .z (.u (.l ⟨[1],[(3, .lf (.own (.sc .str) 9 false [])),(4, .lf (.sc (.int .i64)))],[],[]⟩ (.s .z (.j ⟨[1,4],[(3, .lf (.own (.sc .str) 9 false []))],[],[]⟩ true .z .z))))) .z))
def DQ:Ctr:=⟨⟨[.d bk],[(.slice (.sc .str))],1,[],[⟨some 9,false,false⟩]⟩,fun x=>eV x⟩
theorem R0:DQ.sound Tryz.prog 228:=am Jg aw Tryz.func228 (by kernel_rfl) (an:=W7) (fun x=>(by kernel_rfl:DQ.fn x=aJ Ug Tryz.f228 W7 DQ.toSig x)) rfl
def OE:Cx:=aC Ug 228 DQ
theorem ET:OE.ok Tryz.prog:=ak Jg R0
def V7:An:=.s .z (.s .z (.s .z (.s .z (.s .z (.s .z (.j ⟨[],[],[],[8]⟩ false (.s .z (.u (.l ⟨[8],[(9, .lf (.sc (.int .i64)))],[],[]⟩ .z))) .z))))))
def Do:Ctr:=⟨⟨[.d (.slice bR), .d (.sc (.int .i64))],[(.sc (.int .i64))],1,[],[]⟩,fun x=>fp x.1 x.2⟩
theorem R9:Do.sound Tryz.prog 181:=am ET aw Tryz.func181 (by kernel_rfl) (an:=V7) (fun x=>(by kernel_rfl:Do.fn x=aJ OE Tryz.f181 V7 Do.toSig x)) rfl
def Mz:Cx:=aC OE 181 Do
theorem F7:Mz.ok Tryz.prog:=ak ET R9
def Yr:An:=.z
def Cw:Ctr:=⟨⟨[.d (.sc .str)],[bk],1,[],[⟨some 169,false,true⟩]⟩,fun x=>dZ x⟩
theorem Vr:Cw.sound Tryz.prog 185:=am F7 aw Tryz.func185 (by kernel_rfl) (an:=Yr) (fun x=>(by kernel_rfl:Cw.fn x=aJ Mz Tryz.f185 Yr Cw.toSig x)) rfl
def MH:Cx:=aC Mz 185 Cw
theorem EK:MH.ok Tryz.prog:=ak F7 Vr
def Wb:An:=.s .z (.j ⟨[0],[],[],[]⟩ false (.s .z (.u (.s .z (.s .z (.s .z (.s .z (.j ⟨[3],[(8, .lf (.sc .bool))],[],[]⟩ true .z (.s .z (.j ⟨[3],[(11, .lf (.sc .bool))],[],[]⟩ true .z (.s .z (.j ⟨[3],[(14, .lf (.sc .bool))],[],[]⟩ true .z (.s .z (.j ⟨[3],[(17, .lf (.sc .bool))],[],[]⟩ true .z .z))))))))))))) .z)
def Ex:Ctr:=⟨⟨[.d (.sc (.int .i64))],[(.sc (.int .i64))],1,[],[]⟩,fun x=>kZ x⟩
theorem Q3:Ex.sound Tryz.prog 229:=am EK aw Tryz.func229 (by kernel_rfl) (an:=Wb) (fun x=>(by kernel_rfl:Ex.fn x=aJ MH Tryz.f229 Wb Ex.toSig x)) rfl
def LE:Cx:=aC MH 229 Ex
theorem Fq:LE.ok Tryz.prog:=ak EK Q3
def Xo:An:=.s .z (.j ⟨[0],[],[],[]⟩ false (.s .z (.u (.l ⟨[0],[(4, .lf (.sc (.int .i64)))],[],[]⟩ .z))) .z)
def D3:Ctr:=⟨⟨[.d (.sc .str)],[(.sc .str),(.sc .str)],2,[],[]⟩,fun x=>rj x⟩
theorem Rg:D3.sound Tryz.prog 230:=am Fq aw Tryz.func230 (by kernel_rfl) (an:=Xo) (fun x=>(by kernel_rfl:D3.fn x=aJ LE Tryz.f230 Xo D3.toSig x)) rfl
def Mr:Cx:=aC LE 230 D3
theorem Ge:Mr.ok Tryz.prog:=ak Fq Rg
def WV:An:=.s .z (.s .z (.j ⟨[1],[(3, .lf (.own eD 276 false []))],[],[]⟩ true .z (.j ⟨[1],[(3, .lf (.own eD 276 false []))],[],[]⟩ true (.s .z (.u (.l ⟨[1],[(3, .lf (.own eD 276 false [])),(6, .lf (.sc (.int .i64)))],[],[]⟩ .z))) .z)))
def Ac (k_:Nat):Ctr:=⟨⟨[.d bk],[(.slice eD)],1,[],[⟨some 276,false,false⟩]⟩,fun x=>jQ k_ x⟩
def WA:Ctr:=⟨⟨[.d bk],[(.slice eD)],1,[],[⟨some 276,false,false⟩]⟩,fun x=>eE x⟩
theorem BY : ∀ k,(Ac k).sound Tryz.prog 184
 | 0=>fun x r h=>by
  have h1:none=some r:=h
  cases h1
 | k+1=>am (ak Ge (BY k)) aw Tryz.func184 (by kernel_rfl) (an:=WV) (fun x=>(by kernel_rfl:(Ac (k+1)).fn x=aJ (aC Mr 184 (Ac k)) Tryz.f184 WV (Ac (k+1)).toSig x)) rfl
theorem U7:WA.sound Tryz.prog 184:=BY 64
def NK:Cx:=aC Mr 184 WA
theorem E4:NK.ok Tryz.prog:=ak Ge U7
def Xl:An:=.s .z (.s .z (.j ⟨[0,5],[],[],[]⟩ false (.s .z (.u (.l ⟨[0,5],[(6, .lf (.sc (.int .i64)))],[],[]⟩ .z))) (.j ⟨[0,5],[],[],[]⟩ false (.s .z (.u (.l ⟨[0,5],[(7, .lf (.sc (.int .i64)))],[],[]⟩ .z))) (.j ⟨[0],[],[],[5]⟩ false (.s .z (.u (.l ⟨[0,5],[(8, .lf (.sc (.int .i64)))],[],[]⟩ .z))) .z))))
def Dy:Ctr:=⟨⟨[.d (.slice bR), .d (.sc (.int .i64))],[(.sc (.int .i64))],1,[],[]⟩,fun x=>je x.1 x.2⟩
theorem T4:Dy.sound Tryz.prog 182:=am E4 aw Tryz.func182 (by kernel_rfl) (an:=Xl) (fun x=>(by kernel_rfl:Dy.fn x=aJ NK Tryz.f182 Xl Dy.toSig x)) rfl
def Mb:Cx:=aC NK 182 Dy
theorem GG:Mb.ok Tryz.prog:=ak E4 T4
def Wg:An:=.s .z (.s .z (.s .z (.j ⟨[0,1],[(5, .lf (.sc (.int .i64)))],[],[]⟩ true (.u (.l ⟨[0,1],[(5, .lf (.sc (.int .i64)))],[],[]⟩ .z)) .z)))
def C3:Ctr:=⟨⟨[.d (.slice (.sc .str)), .d (.sc .str)],[(.slice (.sc .str))],1,[],[⟨none,true,true⟩]⟩,fun x=>jb x.1 x.2⟩
theorem TF:C3.sound Tryz.prog 144:=am GG aw Tryz.func144 (by kernel_rfl) (an:=Wg) (fun x=>(by kernel_rfl:C3.fn x=aJ Mb Tryz.f144 Wg C3.toSig x)) rfl
def Ly:Cx:=aC Mb 144 C3
theorem Fc:Ly.ok Tryz.prog:=ak GG TF
def WS:An:=.s .z (.s .z (.s .z (.j ⟨[0,2],[(7, .lf (.rep (.sc .str) false []))],[],[8]⟩ true (.s .z (.u (.l ⟨[0,2],[(7, .lf (.rep (.sc .str) false [])),(8, .lf (.own (.sc .str) 9 false [])),(9, .lf (.sc (.int .i64)))],[],[]⟩ (.s .z (.j ⟨[0,2,9],[(7, .lf (.rep (.sc .str) false [])),(8, .lf (.own (.sc .str) 9 false []))],[],[]⟩ true (.u (.s .z (.s .z (.s .z (.s .z (.u (.l ⟨[0,2,9,11],[(7, .lf (.rep (.sc .str) false [])),(8, .lf (.own (.sc .str) 9 false [])),(12, .lf (.sc (.int .i64)))],[],[]⟩ (.s .z (.j ⟨[0,2,9,11,12],[(7, .lf (.rep (.sc .str) false [])),(8, .lf (.own (.sc .str) 9 false []))],[],[]⟩ true .z .z))))))))) .z))))) .z)))
def Dq:Ctr:=⟨⟨[.d (.slice bR), .d (.sc .str), .d (.sc .bool)],[(.slice (.sc .str))],1,[],[⟨none,false,true⟩]⟩,fun x=>fO x.1 x.2.1 x.2.2⟩
theorem Tw:Dq.sound Tryz.prog 145:=am Fc aw Tryz.func145 (by kernel_rfl) (an:=WS) (fun x=>(by kernel_rfl:Dq.fn x=aJ Ly Tryz.f145 WS Dq.toSig x)) rfl
def ME:Cx:=aC Ly 145 Dq
theorem G5:ME.ok Tryz.prog:=ak Fc Tw
def VO:An:=.s .z (.s .z (.j ⟨[0],[],[],[]⟩ false (.s .z (.u (.l ⟨[0],[(4, .lf (.sc (.int .i64)))],[],[]⟩ .z))) (.j ⟨[0],[],[],[]⟩ false (.s .z (.u (.l ⟨[0],[(6, .lf (.sc (.int .i64)))],[],[]⟩ .z))) (.j ⟨[0],[],[],[]⟩ false (.s .z (.u (.l ⟨[0],[(8, .lf (.sc (.int .i64)))],[],[]⟩ .z))) .z))))
def D6:Ctr:=⟨⟨[.d (.slice bR)],[(.sc (.int .i64)),(.sc (.int .i64))],2,[],[]⟩,fun x=>jJ x⟩
theorem Uu:D6.sound Tryz.prog 143:=am G5 aw Tryz.func143 (by kernel_rfl) (an:=VO) (fun x=>(by kernel_rfl:D6.fn x=aJ ME Tryz.f143 VO D6.toSig x)) rfl
def Mv:Cx:=aC ME 143 D6
theorem EM:Mv.ok Tryz.prog:=ak G5 Uu
def ab2:An:=.s .z (.s .z (.s .z (.s .z (.s .z (.s .z (.j ⟨[0,8],[(9, .lf (.own bR 132 false []))],[],[]⟩ true (.s .z (.u (.l ⟨[0,8],[(9, .lf (.own bR 132 false [])),(10, .lf (.sc (.int .i64)))],[],[]⟩ .z))) .z))))))
def NC:Ctr:=⟨⟨[.d (.slice bR), .d (.sc .str)],[(.slice bR),(.sc (.int .i64))],2,[],[⟨some 132,false,false⟩]⟩,fun x=>jD x.1 x.2⟩
theorem ZX:NC.sound Tryz.prog 87:=am EM aw Tryz.func87 (by kernel_rfl) (an:=ab2) (fun x=>(by kernel_rfl:NC.fn x=aJ Mv Tryz.f87 ab2 NC.toSig x)) rfl
def SV:Cx:=aC Mv 87 NC
theorem JG:SV.ok Tryz.prog:=ak EM ZX
def ab5:An:=.z
def M5:Ctr:=⟨⟨[.box true aX [some 99,some 3,some 3,none,none,none,none,none,some 9], .d (.sc (.int .i64)), .d (.sc (.int .i64)), .d (.sc (.int .i64))],[aX],0,[0],[⟨some 99,false,false⟩,⟨some 3,false,false⟩,⟨some 3,false,false⟩,⟨none,true,false⟩,⟨none,true,false⟩,⟨none,true,false⟩,⟨none,true,false⟩,⟨none,true,false⟩,⟨some 9,false,false⟩]⟩,fun x=>ay x.1 x.2.1 x.2.2.1 x.2.2.2⟩
theorem YI:M5.sound Tryz.prog 93:=am JG aw Tryz.func93 (by kernel_rfl) (an:=ab5) (fun x=>(by kernel_rfl:M5.fn x=aJ SV Tryz.f93 ab5 M5.toSig x)) rfl
def Tf:Cx:=aC SV 93 M5
theorem Kt:Tf.ok Tryz.prog:=ak JG YI
def Wc:An:=.s .z (.j ⟨[0,1],[],[],[]⟩ false (.s .z (.u (.l ⟨[0,1],[(5, .lf (.sc (.int .i64)))],[],[]⟩ .z))) .z)
def CP:Ctr:=⟨⟨[.d (.slice (.sc .str)), .d (.sc .str)],[(.sc (.int .i64))],1,[],[]⟩,fun x=>bD x.1 x.2⟩
theorem U0:CP.sound Tryz.prog 196:=am Kt aw Tryz.func196 (by kernel_rfl) (an:=Wc) (fun x=>(by kernel_rfl:CP.fn x=aJ Tf Tryz.f196 Wc CP.toSig x)) rfl
def Ou:Cx:=aC Tf 196 CP
theorem Fa:Ou.ok Tryz.prog:=ak Kt U0
def WC:An:=.s .z (.j ⟨[0,1],[],[(0,[.own aM 99 false [], .own (.sc (.int .i64)) 3 false [], .own (.sc (.int .i64)) 3 false [], .rep au true [], .rep au true [], .rep (.sc .str) true [], .rep (.sc .str) true [], .rep (.sc .str) true [], .own (.sc .str) 9 false [], .sc (.int .i64)])],[]⟩ true .z .z)
def DP:Ctr:=⟨⟨[.box true aX [some 99,some 3,some 3,none,none,none,none,none,some 9], .d (.sc .str)],[(.sc (.int .i64)),aX],1,[0],[⟨some 99,false,false⟩,⟨some 3,false,false⟩,⟨some 3,false,false⟩,⟨none,true,true⟩,⟨none,true,true⟩,⟨none,true,true⟩,⟨none,true,true⟩,⟨none,true,true⟩,⟨some 9,false,false⟩]⟩,fun x=>bO x.1 x.2⟩
theorem Q9:DP.sound Tryz.prog 151:=am Fa aw Tryz.func151 (by kernel_rfl) (an:=WC) (fun x=>(by kernel_rfl:DP.fn x=aJ Ou Tryz.f151 WC DP.toSig x)) rfl
def Oz:Cx:=aC Ou 151 DP
theorem Hf:Oz.ok Tryz.prog:=ak Fa Q9
def adf:An:=.s .z (.j ⟨[0,3],[],[(0,[.own aM 99 false [], .own (.sc (.int .i64)) 3 false [], .own (.sc (.int .i64)) 3 false [], .rep au true [], .rep au true [], .rep (.sc .str) true [], .rep (.sc .str) true [], .rep (.sc .str) true [], .own (.sc .str) 9 false [], .sc (.int .i64)])],[]⟩ true .z (.s .z (.u (.l ⟨[0,3],[(4, .lf (.sc (.int .i64)))],[(0,[.own aM 99 false [], .own (.sc (.int .i64)) 3 false [], .own (.sc (.int .i64)) 3 false [], .rep au true [1000000], .rep au true [1000000], .rep (.sc .str) true [1000000], .rep (.sc .str) true [1000000], .rep (.sc .str) true [1000000], .own (.sc .str) 9 false [], .sc (.int .i64)])],[]⟩ .z))))
def CA (k_:Nat):Ctr:=⟨⟨[.box true aX [some 99,some 3,some 3,none,none,none,none,none,some 9], .d bk],[aX],0,[0],[⟨some 99,false,false⟩,⟨some 3,false,false⟩,⟨some 3,false,false⟩,⟨none,true,true⟩,⟨none,true,true⟩,⟨none,true,true⟩,⟨none,true,true⟩,⟨none,true,true⟩,⟨some 9,false,false⟩]⟩,fun x=>bZ k_ x.1 x.2⟩
def abT:Ctr:=⟨⟨[.box true aX [some 99,some 3,some 3,none,none,none,none,none,some 9], .d bk],[aX],0,[0],[⟨some 99,false,false⟩,⟨some 3,false,false⟩,⟨some 3,false,false⟩,⟨none,true,true⟩,⟨none,true,true⟩,⟨none,true,true⟩,⟨none,true,true⟩,⟨none,true,true⟩,⟨some 9,false,false⟩]⟩,fun x=>jA x.1 x.2⟩
theorem EG : ∀ k,(CA k).sound Tryz.prog 91
 | 0=>fun x r h=>by
  have h1:none=some r:=h
  cases h1
 | k+1=>am (ak Hf (EG k)) aw Tryz.func91 (by kernel_rfl) (an:=adf) (fun x=>(by kernel_rfl:(CA (k+1)).fn x=aJ (aC Oz 91 (CA k)) Tryz.f91 adf (CA (k+1)).toSig x)) rfl
theorem aaL:abT.sound Tryz.prog 91:=EG 64
def Tu:Cx:=aC Oz 91 abT
theorem Kr:Tu.ok Tryz.prog:=ak Hf aaL
def Xt:An:=.s .z (.s .z (.u (.s .z (.s .z (.s .z (.s .z (.j ⟨[0,3,5],[(40, .lf (.sc .bool))],[],[]⟩ true .z (.s (.k [] [] []) .z))))))))
def yU (k_:Nat):Ctr:=⟨⟨[.box true aX [some 99,some 3,some 3,none,none,none,none,none,some 9], .d bk],[aX],0,[0],[⟨some 99,false,false⟩,⟨some 3,false,false⟩,⟨some 3,false,false⟩,⟨none,true,true⟩,⟨none,true,true⟩,⟨none,true,true⟩,⟨none,true,true⟩,⟨none,true,true⟩,⟨some 9,false,false⟩]⟩,fun x=>cu k_ x.1 x.2⟩
def Yc:Ctr:=⟨⟨[.box true aX [some 99,some 3,some 3,none,none,none,none,none,some 9], .d bk],[aX],0,[0],[⟨some 99,false,false⟩,⟨some 3,false,false⟩,⟨some 3,false,false⟩,⟨none,true,true⟩,⟨none,true,true⟩,⟨none,true,true⟩,⟨none,true,true⟩,⟨none,true,true⟩,⟨some 9,false,false⟩]⟩,fun x=>bN x.1 x.2⟩
theorem BE : ∀ k,(yU k).sound Tryz.prog 197
 | 0=>fun x r h=>by
  have h1:none=some r:=h
  cases h1
 | k+1=>am (ak Kr (BE k)) aw Tryz.func197 (by kernel_rfl) (an:=Xt) (fun x=>(by kernel_rfl:(yU (k+1)).fn x=aJ (aC Tu 197 (yU k)) Tryz.f197 Xt (yU (k+1)).toSig x)) rfl
theorem Su:Yc.sound Tryz.prog 197:=BE 64
def yX:Cx:=aC Tu 197 Yc
theorem uO:yX.ok Tryz.prog:=ak Kr Su
def acQ:An:=.s .z (.s .z (.u (.l ⟨[0,3],[(4, .lf (.sc (.int .i64)))],[(0,[.own aM 99 false [], .own (.sc (.int .i64)) 3 false [], .own (.sc (.int .i64)) 3 false [], .rep au true [], .rep au true [], .rep (.sc .str) true [], .rep (.sc .str) true [], .rep (.sc .str) true [], .own (.sc .str) 9 false [], .sc (.int .i64)])],[]⟩ .z)))
def rT (k_:Nat):Ctr:=⟨⟨[.box true aX [some 99,some 3,some 3,none,none,none,none,none,some 9], .d bk],[aX],0,[0],[⟨some 99,false,false⟩,⟨some 3,false,false⟩,⟨some 3,false,false⟩,⟨none,true,true⟩,⟨none,true,true⟩,⟨none,true,true⟩,⟨none,true,true⟩,⟨none,true,true⟩,⟨some 9,false,false⟩]⟩,fun x=>bX k_ x.1 x.2⟩
def abU:Ctr:=⟨⟨[.box true aX [some 99,some 3,some 3,none,none,none,none,none,some 9], .d bk],[aX],0,[0],[⟨some 99,false,false⟩,⟨some 3,false,false⟩,⟨some 3,false,false⟩,⟨none,true,true⟩,⟨none,true,true⟩,⟨none,true,true⟩,⟨none,true,true⟩,⟨none,true,true⟩,⟨some 9,false,false⟩]⟩,fun x=>iW x.1 x.2⟩
def Yv:An:=.s .z (.s .z (.s .z (.s .z (.s .z (.s .z (.j ⟨[0,3,5,4],[],[(0,[.own aM 99 false [], .own (.sc (.int .i64)) 3 false [], .own (.sc (.int .i64)) 3 false [], .rep au true [1000000], .rep au true [1000000], .rep (.sc .str) true [1000000], .rep (.sc .str) true [1000000], .rep (.sc .str) true [1000000], .own (.sc .str) 9 false [], .sc (.int .i64)])],[]⟩ true .z .z))))))
def vD (k:Nat):Ctr:=⟨⟨[.box true aX [some 99,some 3,some 3,none,none,none,none,none,some 9], .d bk],[aX],0,[0],[⟨some 99,false,false⟩,⟨some 3,false,false⟩,⟨some 3,false,false⟩,⟨none,true,true⟩,⟨none,true,true⟩,⟨none,true,true⟩,⟨none,true,true⟩,⟨none,true,true⟩,⟨some 9,false,false⟩]⟩,fun x=>du ( bX k) x.1 x.2⟩
theorem BB (k:Nat) (h:(rT k).sound Tryz.prog 92):(vD k).sound Tryz.prog 198:=am (ak uO h) aw Tryz.func198 (by kernel_rfl) (an:=Yv) (fun x=>(by kernel_rfl:(vD k).fn x=aJ (aC yX 92 (rT k)) Tryz.f198 Yv (vD k).toSig x)) rfl
def WQ:An:=.s .z (.s .z (.s .z (.u (.s .z (.s .z (.s .z (.s (.s .z (.k [] [] [])) (.j ⟨[0,3,4,12],[(53, .lf (.sc .bool))],[],[]⟩ true .z (.s .z (.s .z (.s (.k [] [] []) (.s .z (.s (.k [] [] []) (.s .z (.s .z (.s .z (.s (.k [0,1000000] [] []) (.s .z (.s (.k [] [] []) (.s .z (.s (.k [] [] []) (.s .z (.s (.k [0,1000000] [] []) (.s .z (.s .z (.s .z (.s .z (.s .z (.s (.s .z (.k [] [] [])) (.s .z (.s (.k [0,1000000] [] []) (.s .z (.s (.s .z (.s (.k [] [] []) .z)) .z)))))))))))))))))))))))))))))))))
def y7 (k:Nat):Ctr:=⟨⟨[.box true aX [some 99,some 3,some 3,none,none,none,none,none,some 9], .d bk],[aX],0,[0],[⟨some 99,false,false⟩,⟨some 3,false,false⟩,⟨some 3,false,false⟩,⟨none,true,true⟩,⟨none,true,true⟩,⟨none,true,true⟩,⟨none,true,true⟩,⟨none,true,true⟩,⟨some 9,false,false⟩]⟩,fun x=>cw ( bX k) x.1 x.2⟩
theorem QF (k:Nat) (h:(rT k).sound Tryz.prog 92):(y7 k).sound Tryz.prog 152:=am (ak (ak uO h) (BB k h)) aw Tryz.func152 (by kernel_rfl) (an:=WQ) (fun x=>(by kernel_rfl:(y7 k).fn x=aJ (aC (aC yX 92 (rT k)) 198 (vD k)) Tryz.f152 WQ (y7 k).toSig x)) rfl
theorem ui : ∀ k,(rT k).sound Tryz.prog 92
 | 0=>fun x r h=>by
  have h1:none=some r:=h
  cases h1
 | k+1=>am (ak (ak (ak uO (ui k)) (BB k (ui k))) (QF k (ui k))) aw Tryz.func92 (by kernel_rfl) (an:=acQ) (fun x=>(by kernel_rfl:(rT (k+1)).fn x=aJ (aC (aC (aC yX 92 (rT k)) 198 (vD k)) 152 (y7 k)) Tryz.f92 acQ (rT (k+1)).toSig x)) rfl
theorem YL:abU.sound Tryz.prog 92:=ui 64
def Rq:Cx:=aC yX 92 abU
theorem J2:Rq.ok Tryz.prog:=ak uO YL
def Yj:An:=.s .z (.s .z (.j ⟨[0,3],[(5, .lf (.sc (.int .i64)))],[],[]⟩ true (.u (.l ⟨[0,3],[(5, .lf (.sc (.int .i64)))],[],[]⟩ .z)) .z))
def CK:Ctr:=⟨⟨[.d (.slice au), .d au],[(.slice au)],1,[],[⟨some 101,false,false⟩]⟩,fun x=>iX x.1 x.2⟩
theorem RD:CK.sound Tryz.prog 150:=am J2 aw Tryz.func150 (by kernel_rfl) (an:=Yj) (fun x=>(by kernel_rfl:CK.fn x=aJ Rq Tryz.f150 Yj CK.toSig x)) rfl
def Oo:Cx:=aC Rq 150 CK
theorem HS:Oo.ok Tryz.prog:=ak J2 RD
def ab1:An:=.s .z (.s .z (.j ⟨[1,4,5,0],[],[(5,[.own aM 99 false [], .own (.sc (.int .i64)) 3 false [], .own (.sc (.int .i64)) 3 false [], .own au 101 false [], .own au 101 false [], .own (.sc .str) 9 false [], .own (.sc .str) 9 false [], .own (.sc .str) 9 false []])],[]⟩ true (.s .z (.u (.l ⟨[0,1,4,5],[(6, .lf (.sc (.int .i64)))],[(5,[.own aM 99 false [], .own (.sc (.int .i64)) 3 false [], .own (.sc (.int .i64)) 3 false [], .own au 101 false [], .own au 101 false [], .own (.sc .str) 9 false [], .own (.sc .str) 9 false [], .own (.sc .str) 9 false []])],[]⟩ (.s .z (.j ⟨[0,1,4,5,6],[],[(5,[.own aM 99 false [], .own (.sc (.int .i64)) 3 false [], .own (.sc (.int .i64)) 3 false [], .own au 101 false [], .own au 101 false [], .own (.sc .str) 9 false [], .own (.sc .str) 9 false [], .own (.sc .str) 9 false []])],[]⟩ true (.u (.s .z (.s .z (.u (.s .z (.s .z (.s .z (.s (.s .z (.u (.l ⟨[0,1,4,5,6,7],[(10, .lf (.sc (.int .i64)))],[(5,[.own aM 99 false [], .own (.sc (.int .i64)) 3 false [], .own (.sc (.int .i64)) 3 false [], .own au 101 false [], .own au 101 false [], .own (.sc .str) 9 false [], .own (.sc .str) 9 false [], .own (.sc .str) 9 false []])],[]⟩ .z))) .z)))))))) .z))))) .z))
def Ok:Ctr:=⟨⟨[.d (.slice bR), .d (.sc .str)],[bC],1,[],[⟨some 99,false,false⟩,⟨some 3,false,false⟩,⟨some 3,false,false⟩,⟨some 101,false,false⟩,⟨some 101,false,false⟩,⟨some 9,false,false⟩,⟨some 9,false,false⟩,⟨some 9,false,false⟩]⟩,fun x=>ji x.1 x.2⟩
theorem aav:Ok.sound Tryz.prog 90:=am HS aw Tryz.func90 (by kernel_rfl) (an:=ab1) (fun x=>(by kernel_rfl:Ok.fn x=aJ Oo Tryz.f90 ab1 Ok.toSig x)) rfl
def Vt:Cx:=aC Oo 90 Ok
theorem KG:Vt.ok Tryz.prog:=ak HS aav
def adt:An:=.s .z (.s .z (.s .z (.s .z (.s .z (.s .z (.j ⟨[4,11],[],[(11,[.own aM 99 false [], .own (.sc (.int .i64)) 3 false [], .own (.sc (.int .i64)) 3 false [], .rep au false [], .rep au false [], .rep (.sc .str) false [], .rep (.sc .str) false [], .rep (.sc .str) false [], .own (.sc .str) 9 false [], .sc (.int .i64)])],[6]⟩ true (.s .z (.u (.l ⟨[4,6,11],[(12, .lf (.sc (.int .i64)))],[(11,[.own aM 99 false [], .own (.sc (.int .i64)) 3 false [], .own (.sc (.int .i64)) 3 false [], .rep au false [], .rep au false [], .rep (.sc .str) false [], .rep (.sc .str) false [], .rep (.sc .str) false [], .own (.sc .str) 9 false [], .sc (.int .i64)])],[]⟩ (.s .z (.j ⟨[4,6,11,12],[],[(11,[.own aM 99 false [], .own (.sc (.int .i64)) 3 false [], .own (.sc (.int .i64)) 3 false [], .rep au false [1000011], .rep au false [1000011], .rep (.sc .str) false [1000011], .rep (.sc .str) false [1000011], .rep (.sc .str) false [1000011], .own (.sc .str) 9 false [], .sc (.int .i64)])],[]⟩ true (.u (.s .z (.s .z (.s .z (.s .z (.s .z (.s .z (.j ⟨[4,6,11,12],[],[(11,[.own aM 99 false [], .own (.sc (.int .i64)) 3 false [], .own (.sc (.int .i64)) 3 false [], .rep au false [1000011], .rep au false [1000011], .rep (.sc .str) false [1000011], .rep (.sc .str) false [1000011], .rep (.sc .str) false [1000011], .own (.sc .str) 9 false [], .sc (.int .i64)])],[]⟩ true .z .z)))))))) .z))))) .z))))))
def Ol:Ctr:=⟨⟨[.d (.slice bR), .d (.sc .str)],[bC,(.sc (.int .i64))],2,[],[⟨some 99,false,false⟩,⟨some 3,false,false⟩,⟨some 3,false,false⟩,⟨none,false,true⟩,⟨none,false,true⟩,⟨none,false,true⟩,⟨none,false,true⟩,⟨none,false,true⟩]⟩,fun x=>fQ x.1 x.2⟩
theorem ZF:Ol.sound Tryz.prog 39:=am KG aw Tryz.func39 (by kernel_rfl) (an:=adt) (fun x=>(by kernel_rfl:Ol.fn x=aJ Vt Tryz.f39 adt Ol.toSig x)) rfl
def Uo:Cx:=aC Vt 39 Ol
theorem Ja:Uo.ok Tryz.prog:=ak KG ZF
def an7:An:=.z
def XQ:Ctr:=⟨⟨[.d (.slice (.sc (.int .i64)))],[bC],1,[],[⟨some 99,false,false⟩,⟨some 3,false,false⟩,⟨some 3,false,false⟩,⟨none,false,true⟩,⟨none,false,true⟩,⟨none,false,true⟩,⟨none,false,true⟩,⟨none,false,true⟩]⟩,fun x=>gW x⟩
theorem abb:XQ.sound Tryz.prog 7:=am Ja aw Tryz.func7 (by kernel_rfl) (an:=an7) (fun x=>(by kernel_rfl:XQ.fn x=aJ Uo Tryz.f7 an7 XQ.toSig x)) rfl
def cx7:Cx:=aC Uo 7 XQ
theorem PZ:cx7.ok Tryz.prog:=ak Ja abb
def adG:An:=.z
def Mo:Ctr:=⟨⟨[.d bC],[dX],1,[],[⟨none,true,false⟩,⟨none,true,false⟩,⟨none,true,false⟩,⟨none,true,false⟩,⟨none,true,false⟩,⟨none,true,false⟩,⟨none,true,false⟩,⟨none,true,false⟩]⟩,fun x=>iI x⟩
theorem aal:Mo.sound Tryz.prog 13:=am PZ aw Tryz.func13 (by kernel_rfl) (an:=adG) (fun x=>(by kernel_rfl:Mo.fn x=aJ cx7 Tryz.f13 adG Mo.toSig x)) rfl
def UI:Cx:=aC cx7 13 Mo
theorem Ki:UI.ok Tryz.prog:=ak PZ aal
def aa0:An:=.s .z (.s .z (.s .z (.s .z (.s .z (.s .z (.s .z (.s .z (.s .z (.s .z (.j ⟨[5,4],[],[(5,[.own aV 1870727804774333205280220053632888987722923590549622 false [], .own (.sc (.int .i64)) 3 false [], .rep (.slice (.sc (.int .i64))) false [1000004,1000005], .own (.sc (.int .i64)) 3 false [], .own (.sc (.int .i64)) 3 false [], .sc (.int .i64), .sc (.int .i64), .sc (.int .i64), .sc (.int .i64), .sc (.int .i64), .sc (.int .i64), .sc (.int .i64), .sc (.int .i64), .sc .str])],[]⟩ false (.s .z (.u (.l ⟨[4,5],[(9, .lf (.sc (.int .i64)))],[(5,[.own aV 1870727804774333205280220053632888987722923590549622 false [], .own (.sc (.int .i64)) 3 false [], .rep (.slice (.sc (.int .i64))) false [1000004,1000005], .own (.sc (.int .i64)) 3 false [], .own (.sc (.int .i64)) 3 false [], .sc (.int .i64), .sc (.int .i64), .sc (.int .i64), .sc (.int .i64), .sc (.int .i64), .sc (.int .i64), .sc (.int .i64), .sc (.int .i64), .sc .str])],[]⟩ .z))) .z))))))))))
def LC:Ctr:=⟨⟨[],[(.sc .bool)],1,[],[]⟩,fun _=>mb ⟩
theorem YB:LC.sound Tryz.prog 17:=am Ki aw Tryz.func17 (by kernel_rfl) (an:=aa0) (fun x=>(by kernel_rfl:LC.fn x=aJ UI Tryz.f17 aa0 LC.toSig x)) rfl
def adq:Cx:=aC UI 17 LC
theorem aaf:adq.ok Tryz.prog:=ak Ki YB
def an3:An:=.s .z (.s .z (.s .z (.s .z (.s .z (.j ⟨[1,4,13],[],[],[15,16]⟩ false (.s .z (.u (.l ⟨[1,4,13,15,16],[(17, .lf (.sc (.int .i64)))],[],[]⟩ (.s .z (.j ⟨[1,4,13,15,16,17],[],[],[]⟩ false (.u (.s .z (.u (.l ⟨[1,4,13,15,16,17],[(18, .lf (.sc (.int .i64)))],[],[]⟩ (.s .z (.j ⟨[1,4,13,15,16,17,18],[],[],[]⟩ false (.u (.s .z (.j ⟨[1,4,13,15,16,17,18],[(19, .lf (.own au 101 false []))],[],[]⟩ true .z .z))) .z)))))) .z))))) .z)))))
def ct3:Ctr:=⟨⟨[.d (.slice (.sc (.int .i64))), .d (.slice (.sc (.int .i64))), .d (.sc (.int .i64)), .d (.sc (.int .i64)), .d (.sc (.int .i64)), .d eR],[(.sc .bool)],1,[],[]⟩,fun x=>ib x.1 x.2.1 x.2.2.1 x.2.2.2.1 x.2.2.2.2.1 x.2.2.2.2.2⟩
theorem ac1:ct3.sound Tryz.prog 3:=am aaf aw Tryz.func3 (by kernel_rfl) (an:=an3) (fun x=>(by kernel_rfl:ct3.fn x=aJ adq Tryz.f3 an3 ct3.toSig x)) rfl
end
end Go.Proofs.YtfhhiajfciblbaaGreatDoor
