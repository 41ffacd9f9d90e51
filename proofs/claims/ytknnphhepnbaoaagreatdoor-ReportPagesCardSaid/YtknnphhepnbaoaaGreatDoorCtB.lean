/-
  The functions of the program compute what their Lean functions say. No condition.
-/
import Derived.Test.YtknnphhepnbaoaaGreatDoorCtA
namespace Go.Proofs.YtknnphhepnbaoaaGreatDoor
open Go.Sm
set_option maxRecDepth 100000
set_option linter.unusedSectionVars false
section
variable [Itr] [Vars]
def an13:An:=.s .z (.s .z (.j ⟨[0,2,3],[],[(3,[.sc (.int .i64), .sc .str, .own (.slice T_api_Name) 77 false [], .own (.sc (.int .i64)) 3 false [], .sc (.int .i64), .own (.sc (.int .u32)) 78 false [], .own (.sc (.int .u32)) 78 false []])],[]⟩ true .z (.j ⟨[0,2,3],[],[(3,[.sc (.int .i64), .sc .str, .own (.slice T_api_Name) 77 false [1000003], .own (.sc (.int .i64)) 3 false [], .sc (.int .i64), .own (.sc (.int .u32)) 78 false [], .own (.sc (.int .u32)) 78 false []])],[]⟩ true (.s .z (.s (.s .z (.u (.l ⟨[0,2,3],[(4, .lf (.sc (.int .i64)))],[(3,[.sc (.int .i64), .sc .str, .own (.slice T_api_Name) 77 false [1000003], .own (.sc (.int .i64)) 3 false [], .sc (.int .i64), .own (.sc (.int .u32)) 78 false [], .own (.sc (.int .u32)) 78 false []])],[]⟩ (.s .z (.j ⟨[0,2,3,4],[],[(3,[.sc (.int .i64), .sc .str, .own (.slice T_api_Name) 77 false [1000003], .own (.sc (.int .i64)) 3 false [], .sc (.int .i64), .own (.sc (.int .u32)) 78 false [], .own (.sc (.int .u32)) 78 false []])],[]⟩ true (.u (.s .z (.j ⟨[0,2,3,4],[(5, .lf (.own T_api_Name 76 false []))],[],[]⟩ true (.s .z (.u (.l ⟨[0,2,3,4],[(5, .lf (.own T_api_Name 76 false [])),(6, .lf (.sc (.int .i64)))],[],[]⟩ .z))) (.s .z (.j ⟨[0,2,3,4,5],[(7, .lf (.sc .bool))],[],[]⟩ true (.s .z (.u (.l ⟨[0,2,3,4,5],[(7, .lf (.sc .bool)),(8, .lf (.sc (.int .i64)))],[],[]⟩ .z))) .z))))) .z))))) .z)) (.j ⟨[0,2,3],[],[(3,[.sc (.int .i64), .sc .str, .own (.slice T_api_Name) 77 false [1000003], .own (.sc (.int .i64)) 3 false [], .sc (.int .i64), .rep (.sc (.int .u32)) false [1000003], .rep (.sc (.int .u32)) false [1000003]])],[]⟩ true .z (.j ⟨[2,3,0],[],[(3,[.sc (.int .i64), .sc .str, .own (.slice T_api_Name) 77 false [1000003], .own (.sc (.int .i64)) 3 false [], .sc (.int .i64), .rep (.sc (.int .u32)) false [1000003], .rep (.sc (.int .u32)) false [1000003]])],[]⟩ true (.s .z (.s (.j ⟨[2,3,0],[],[(3,[.sc (.int .i64), .sc .str, .own (.slice T_api_Name) 77 false [1000003], .own (.sc (.int .i64)) 3 false [], .sc (.int .i64), .rep (.sc (.int .u32)) false [1000003], .rep (.sc (.int .u32)) false [1000003]])],[]⟩ true (.s .z (.u (.l ⟨[0,2,3],[(10, .lf (.sc (.int .i64)))],[(3,[.sc (.int .i64), .sc .str, .own (.slice T_api_Name) 77 false [1000003], .own (.sc (.int .i64)) 3 false [], .sc (.int .i64), .rep (.sc (.int .u32)) false [1000003], .rep (.sc (.int .u32)) false [1000003]])],[]⟩ .z))) .z) .z)) .z)))))
def ct13:Ctr:=⟨⟨[.d (.slice (.sc (.int .i64)))],[T_api_Verdict],1,[],[⟨some 77,false,true⟩,⟨some 3,false,false⟩,⟨none,false,true⟩,⟨none,false,true⟩]⟩,fun x=>culpritref37_Made x⟩
theorem ct13_ok:ct13.sound Tryz.prog 13:=fn_sound cx41_ok mixed Tryz.func13 (by kernel_rfl) (an:=an13) (fun x=>(by kernel_rfl:ct13.fn x=semF cx41 Tryz.f13 an13 ct13.toSig x)) rfl
def cx13:Cx:=addC cx41 13 ct13
theorem cx13_ok:cx13.ok Tryz.prog:=addC_ok cx41_ok ct13_ok
def an29:An:=.s .z (.s .z (.j ⟨[0,1],[(5, .lf (.own T_api_Verdict 44 false []))],[],[]⟩ true (.s .z (.u (.l ⟨[0,1],[(5, .lf (.own T_api_Verdict 44 false [])),(6, .lf (.sc (.int .i64)))],[],[]⟩ .z))) .z))
def ct29:Ctr:=⟨⟨[.d (.slice (.sc (.int .i64))), .d (.sc (.int .i64))],[(.slice T_api_Verdict)],1,[],[⟨some 44,false,true⟩]⟩,fun x=>culpritlaw37_verdicts x.1 x.2⟩
theorem ct29_ok:ct29.sound Tryz.prog 29:=fn_sound cx13_ok mixed Tryz.func29 (by kernel_rfl) (an:=an29) (fun x=>(by kernel_rfl:ct29.fn x=semF cx13 Tryz.f29 an29 ct29.toSig x)) rfl
def cx29:Cx:=addC cx13 29 ct29
theorem cx29_ok:cx29.ok Tryz.prog:=addC_ok cx13_ok ct29_ok
def an24:An:=.s .z (.s .z (.s .z (.s .z (.s .z (.j ⟨[3,6,1,7],[],[(3,[.sc (.int .i64), .sc .str, .own (.slice T_api_Name) 77 true [], .own (.sc (.int .i64)) 3 false [], .sc (.int .i64), .rep (.sc (.int .u32)) true [], .rep (.sc (.int .u32)) true []])],[8]⟩ true .z .z)))))
def ct24:Ctr:=⟨⟨[.d T_api_Verdict, .d (.sc (.int .i64)), .d (.sc (.int .i64))],[T_api_Verdict],1,[],[⟨some 77,true,true⟩,⟨some 3,false,false⟩,⟨none,true,true⟩,⟨none,true,true⟩]⟩,fun x=>culpritref37_Spoilt x.1 x.2.1 x.2.2⟩
theorem ct24_ok:ct24.sound Tryz.prog 24:=fn_sound cx29_ok mixed Tryz.func24 (by kernel_rfl) (an:=an24) (fun x=>(by kernel_rfl:ct24.fn x=semF cx29 Tryz.f24 an24 ct24.toSig x)) rfl
def cx24:Cx:=addC cx29 24 ct24
theorem cx24_ok:cx24.ok Tryz.prog:=addC_ok cx29_ok ct24_ok
def ct30:Ctr:=CPage report_Print
theorem ct30_ok:ct30.sound Tryz.prog 30:=page_ok ct14_ok
def cx30:Cx:=addC cx24 30 ct30
theorem cx30_ok:cx30.ok Tryz.prog:=addC_ok cx24_ok ct30_ok
def an110:An:=.s .z (.s .z (.j ⟨[0],[],[],[]⟩ false (.s .z (.u (.l ⟨[0],[(3, .lf (.sc (.int .i64)))],[],[]⟩ .z))) .z))
def ct110:Ctr:=⟨⟨[.d (.sc .str)],[(.sc .bool)],1,[],[]⟩,fun x=>culpritref20_Named x⟩
theorem ct110_ok:ct110.sound Tryz.prog 110:=fn_sound cx30_ok mixed Tryz.func110 (by kernel_rfl) (an:=an110) (fun x=>(by kernel_rfl:ct110.fn x=semF cx30 Tryz.f110 an110 ct110.toSig x)) rfl
def cx110:Cx:=addC cx30 110 ct110
theorem cx110_ok:cx110.ok Tryz.prog:=addC_ok cx30_ok ct110_ok
def an111:An:=.z
def ct111:Ctr:=⟨⟨[.d T_api_Ratio],[(.sc (.int .i64))],1,[],[]⟩,fun x=>culpritref05_Valid x⟩
theorem ct111_ok:ct111.sound Tryz.prog 111:=fn_sound cx110_ok mixed Tryz.func111 (by kernel_rfl) (an:=an111) (fun x=>(by kernel_rfl:ct111.fn x=semF cx110 Tryz.f111 an111 ct111.toSig x)) rfl
def cx111:Cx:=addC cx110 111 ct111
theorem cx111_ok:cx111.ok Tryz.prog:=addC_ok cx110_ok ct111_ok
def an112:An:=.s .z (.j ⟨[0],[],[],[]⟩ false (.s .z (.u (.l ⟨[0],[(3, .lf (.sc (.int .i64)))],[],[]⟩ .z))) .z)
def ct112:Ctr:=⟨⟨[.d (.slice (.sc (.int .i64)))],[(.sc .bool)],1,[],[]⟩,fun x=>culpritref37_word x⟩
theorem ct112_ok:ct112.sound Tryz.prog 112:=fn_sound cx111_ok mixed Tryz.func112 (by kernel_rfl) (an:=an112) (fun x=>(by kernel_rfl:ct112.fn x=semF cx111 Tryz.f112 an112 ct112.toSig x)) rfl
def cx112:Cx:=addC cx111 112 ct112
theorem cx112_ok:cx112.ok Tryz.prog:=addC_ok cx111_ok ct112_ok
def an114:An:=.z
def ct114:Ctr:=⟨⟨[],[T_api_Ratio],1,[],[⟨some 78,false,false⟩,⟨some 78,false,false⟩]⟩,fun _=>culpritref17_One ⟩
theorem ct114_ok:ct114.sound Tryz.prog 114:=fn_sound cx112_ok mixed Tryz.func114 (by kernel_rfl) (an:=an114) (fun x=>(by kernel_rfl:ct114.fn x=semF cx112 Tryz.f114 an114 ct114.toSig x)) rfl
def cx114:Cx:=addC cx112 114 ct114
theorem cx114_ok:cx114.ok Tryz.prog:=addC_ok cx112_ok ct114_ok
def an154:An:=.z
def ct154:Ctr:=⟨⟨[.d T_api_Ratio],[(.slice (.sc (.int .u32)))],1,[],[⟨none,true,true⟩]⟩,fun x=>culpritref05_Den x⟩
theorem ct154_ok:ct154.sound Tryz.prog 154:=fn_sound cx114_ok mixed Tryz.func154 (by kernel_rfl) (an:=an154) (fun x=>(by kernel_rfl:ct154.fn x=semF cx114 Tryz.f154 an154 ct154.toSig x)) rfl
def cx154:Cx:=addC cx114 154 ct154
theorem cx154_ok:cx154.ok Tryz.prog:=addC_ok cx114_ok ct154_ok
def an153:An:=.s .z (.s .z (.j ⟨[0,1],[(5, .lf (.own (.sc (.int .u32)) 78 false []))],[],[]⟩ true (.s .z (.u (.l ⟨[0,1],[(5, .lf (.own (.sc (.int .u32)) 78 false [])),(6, .lf (.sc (.int .i64)))],[],[]⟩ (.s .z (.j ⟨[0,1,6],[(5, .lf (.own (.sc (.int .u32)) 78 false []))],[],[]⟩ true (.u (.s .z (.s .z (.u (.l ⟨[0,1,6],[(5, .lf (.own (.sc (.int .u32)) 78 false [])),(7, .lf (.sc (.int .u64))),(8, .lf (.sc (.int .i64)))],[],[]⟩ .z))))) .z))))) .z))
def ct153:Ctr:=⟨⟨[.d (.slice (.sc (.int .u32))), .d (.slice (.sc (.int .u32)))],[(.slice (.sc (.int .u32)))],1,[],[⟨some 78,false,false⟩]⟩,fun x=>culpritref05_Times x.1 x.2⟩
theorem ct153_ok:ct153.sound Tryz.prog 153:=fn_sound cx154_ok mixed Tryz.func153 (by kernel_rfl) (an:=an153) (fun x=>(by kernel_rfl:ct153.fn x=semF cx154 Tryz.f153 an153 ct153.toSig x)) rfl
def cx153:Cx:=addC cx154 153 ct153
theorem cx153_ok:cx153.ok Tryz.prog:=addC_ok cx154_ok ct153_ok
def an113:An:=.z
def ct113:Ctr:=⟨⟨[.d T_api_Ratio, .d T_api_Ratio],[(.sc (.int .i64))],1,[],[]⟩,fun x=>culpritref05_Order x.1 x.2⟩
theorem ct113_ok:ct113.sound Tryz.prog 113:=fn_sound cx153_ok mixed Tryz.func113 (by kernel_rfl) (an:=an113) (fun x=>(by kernel_rfl:ct113.fn x=semF cx153 Tryz.f113 an113 ct113.toSig x)) rfl
def cx113:Cx:=addC cx153 113 ct113
theorem cx113_ok:cx113.ok Tryz.prog:=addC_ok cx153_ok ct113_ok
def an155:An:=.z
def ct155:Ctr:=⟨⟨[.d T_api_Name],[(.sc .bool)],1,[],[]⟩,fun x=>culpritref22_IsName x⟩
theorem ct155_ok:ct155.sound Tryz.prog 155:=fn_sound cx113_ok mixed Tryz.func155 (by kernel_rfl) (an:=an155) (fun x=>(by kernel_rfl:ct155.fn x=semF cx113 Tryz.f155 an155 ct155.toSig x)) rfl
def cx155:Cx:=addC cx113 155 ct155
theorem cx155_ok:cx155.ok Tryz.prog:=addC_ok cx113_ok ct155_ok
def an156:An:=.z
def ct156:Ctr:=⟨⟨[.d T_api_Name, .d T_api_Name],[(.sc .bool)],1,[],[]⟩,fun x=>culpritref22_Less x.1 x.2⟩
theorem ct156_ok:ct156.sound Tryz.prog 156:=fn_sound cx155_ok mixed Tryz.func156 (by kernel_rfl) (an:=an156) (fun x=>(by kernel_rfl:ct156.fn x=semF cx155 Tryz.f156 an156 ct156.toSig x)) rfl
def cx156:Cx:=addC cx155 156 ct156
theorem cx156_ok:cx156.ok Tryz.prog:=addC_ok cx155_ok ct156_ok
def an115:An:=.s .z (.j ⟨[0],[],[],[]⟩ false (.s .z (.u (.l ⟨[0],[(3, .lf (.sc (.int .i64)))],[],[]⟩ .z))) .z)
def ct115:Ctr:=⟨⟨[.d (.slice T_api_Name)],[(.sc .bool)],1,[],[]⟩,fun x=>culpritref37_rising x⟩
theorem ct115_ok:ct115.sound Tryz.prog 115:=fn_sound cx156_ok mixed Tryz.func115 (by kernel_rfl) (an:=an115) (fun x=>(by kernel_rfl:ct115.fn x=semF cx156 Tryz.f115 an115 ct115.toSig x)) rfl
def cx115:Cx:=addC cx156 115 ct115
theorem cx115_ok:cx115.ok Tryz.prog:=addC_ok cx156_ok ct115_ok
def an57:An:=.s .z (.s .z (.s .z (.j ⟨[1],[],[],[]⟩ false (.s .z (.u (.l ⟨[1],[(3, .lf (.sc (.int .i64)))],[],[]⟩ (.s .z (.j ⟨[1,3],[],[],[]⟩ false (.u (.s .z (.s .z (.u (.l ⟨[1,3],[(4, .lf (.sc (.int .i64)))],[],[]⟩ .z))))) .z))))) .z)))
def ct57:Ctr:=⟨⟨[.d T_api_Verdict],[(.sc .bool)],1,[],[]⟩,fun x=>culpritref37_Proper x⟩
theorem ct57_ok:ct57.sound Tryz.prog 57:=fn_sound cx115_ok mixed Tryz.func57 (by kernel_rfl) (an:=an57) (fun x=>(by kernel_rfl:ct57.fn x=semF cx115 Tryz.f57 an57 ct57.toSig x)) rfl
def cx57:Cx:=addC cx115 57 ct57
theorem cx57_ok:cx57.ok Tryz.prog:=addC_ok cx115_ok ct57_ok
def an71:An:=.z
def ctk71 (k_:Nat):Ctr:=⟨⟨[.d (.sc (.int .i64))],[(.sc .str)],1,[],[]⟩,fun x=>culpritref20_Decimal_rec k_ x⟩
def ct71:Ctr:=⟨⟨[.d (.sc (.int .i64))],[(.sc .str)],1,[],[]⟩,fun x=>culpritref20_Decimal x⟩
theorem ctk71_ok : ∀ k,(ctk71 k).sound Tryz.prog 71
 | 0=>fun x r h=>by
  have h1:none=some r:=h
  cases h1
 | k+1=>fn_sound (addC_ok cx57_ok (ctk71_ok k)) mixed Tryz.func71 (by kernel_rfl) (an:=an71) (fun x=>(by kernel_rfl:(ctk71 (k+1)).fn x=semF (addC cx57 71 (ctk71 k)) Tryz.f71 an71 (ctk71 (k+1)).toSig x)) rfl
theorem ct71_ok:ct71.sound Tryz.prog 71:=ctk71_ok 64
def cx71:Cx:=addC cx57 71 ct71
theorem cx71_ok:cx71.ok Tryz.prog:=addC_ok cx57_ok ct71_ok
def an58:An:=.z
def ct58:Ctr:=⟨⟨[.d (.sc (.int .i64)), .d (.sc (.int .i64))],[(.sc .str)],1,[],[]⟩,fun x=>culpritref37_ends x.1 x.2⟩
theorem ct58_ok:ct58.sound Tryz.prog 58:=fn_sound cx71_ok mixed Tryz.func58 (by kernel_rfl) (an:=an58) (fun x=>(by kernel_rfl:ct58.fn x=semF cx71 Tryz.f58 an58 ct58.toSig x)) rfl
def cx58:Cx:=addC cx71 58 ct58
theorem cx58_ok:cx58.ok Tryz.prog:=addC_ok cx71_ok ct58_ok
def an78:An:=.z
def ct78:Ctr:=⟨⟨[.d T_api_Name],[(.sc .str)],1,[],[]⟩,fun x=>culpritref37_Name x⟩
theorem ct78_ok:ct78.sound Tryz.prog 78:=fn_sound cx58_ok mixed Tryz.func78 (by kernel_rfl) (an:=an78) (fun x=>(by kernel_rfl:ct78.fn x=semF cx58 Tryz.f78 an78 ct78.toSig x)) rfl
def cx78:Cx:=addC cx58 78 ct78
theorem cx78_ok:cx78.ok Tryz.prog:=addC_ok cx58_ok ct78_ok
def an73:An:=.s .z (.s .z (.j ⟨[0],[(3, .lf (.own (.sc .str) 9 false []))],[],[]⟩ true (.s .z (.u (.l ⟨[0],[(3, .lf (.own (.sc .str) 9 false [])),(4, .lf (.sc (.int .i64)))],[],[]⟩ .z))) .z))
def ct73:Ctr:=⟨⟨[.d (.slice T_api_Name)],[(.slice (.sc .str))],1,[],[⟨some 9,false,false⟩]⟩,fun x=>culpritref37_names x⟩
theorem ct73_ok:ct73.sound Tryz.prog 73:=fn_sound cx78_ok mixed Tryz.func73 (by kernel_rfl) (an:=an73) (fun x=>(by kernel_rfl:ct73.fn x=semF cx78 Tryz.f73 an73 ct73.toSig x)) rfl
def cx73:Cx:=addC cx78 73 ct73
theorem cx73_ok:cx73.ok Tryz.prog:=addC_ok cx78_ok ct73_ok
def an79:An:=.s .z (.s .z (.j ⟨[0],[(3, .lf (.sc .str))],[],[]⟩ true (.s .z (.u (.l ⟨[0],[(3, .lf (.sc .str)),(4, .lf (.sc (.int .i64)))],[],[]⟩ (.s .z (.j ⟨[0,4],[(3, .lf (.sc .str))],[],[]⟩ true (.u (.j ⟨[0,4],[(3, .lf (.sc .str))],[],[]⟩ true .z (.j ⟨[0,4],[(3, .lf (.sc .str))],[],[]⟩ true .z .z))) .z))))) .z))
def ct79:Ctr:=⟨⟨[.d (.slice (.sc .str))],[(.sc .str)],1,[],[]⟩,fun x=>culpritref37_List x⟩
theorem ct79_ok:ct79.sound Tryz.prog 79:=fn_sound cx73_ok mixed Tryz.func79 (by kernel_rfl) (an:=an79) (fun x=>(by kernel_rfl:ct79.fn x=semF cx73 Tryz.f79 an79 ct79.toSig x)) rfl
def cx79:Cx:=addC cx73 79 ct79
theorem cx79_ok:cx79.ok Tryz.prog:=addC_ok cx73_ok ct79_ok
def an59:An:=.z
def ct59:Ctr:=⟨⟨[.d (.slice T_api_Name)],[(.sc .str)],1,[],[]⟩,fun x=>culpritref37_set x⟩
theorem ct59_ok:ct59.sound Tryz.prog 59:=fn_sound cx79_ok mixed Tryz.func59 (by kernel_rfl) (an:=an59) (fun x=>(by kernel_rfl:ct59.fn x=semF cx79 Tryz.f59 an59 ct59.toSig x)) rfl
def cx59:Cx:=addC cx79 59 ct59
theorem cx59_ok:cx59.ok Tryz.prog:=addC_ok cx79_ok ct59_ok
def an159:An:=.s .z (.s .z (.s .z (.j ⟨[0],[(4, .lf (.own (.sc (.int .u32)) 78 false [])),(5, .lf (.sc (.int .u64)))],[],[]⟩ true (.s .z (.u (.l ⟨[0],[(4, .lf (.own (.sc (.int .u32)) 78 false [])),(5, .lf (.sc (.int .u64))),(6, .lf (.sc (.int .i64)))],[],[]⟩ .z))) .z)))
def ct159:Ctr:=⟨⟨[.d (.slice (.sc (.int .u32)))],[(.slice (.sc (.int .u32))),(.sc (.int .i64))],2,[],[⟨some 78,false,false⟩]⟩,fun x=>culpritref05_tenth x⟩
theorem ct159_ok:ct159.sound Tryz.prog 159:=fn_sound cx59_ok mixed Tryz.func159 (by kernel_rfl) (an:=an159) (fun x=>(by kernel_rfl:ct159.fn x=semF cx59 Tryz.f159 an159 ct159.toSig x)) rfl
def cx159:Cx:=addC cx59 159 ct159
theorem cx159_ok:cx159.ok Tryz.prog:=addC_ok cx59_ok ct159_ok
def an122:An:=.s .z (.s .z (.s .z (.s .z (.j ⟨[],[(3, .lf (.sc .str))],[],[4]⟩ true (.u (.l ⟨[],[(3, .lf (.sc .str)),(4, .lf (.own (.sc (.int .u32)) 78 false []))],[],[]⟩ .z)) .z))))
def ct122:Ctr:=⟨⟨[.d (.slice (.sc (.int .u32)))],[(.sc .str)],1,[],[]⟩,fun x=>culpritref05_Decimal x⟩
theorem ct122_ok:ct122.sound Tryz.prog 122:=fn_sound cx159_ok mixed Tryz.func122 (by kernel_rfl) (an:=an122) (fun x=>(by kernel_rfl:ct122.fn x=semF cx159 Tryz.f122 an122 ct122.toSig x)) rfl
def cx122:Cx:=addC cx159 122 ct122
theorem cx122_ok:cx122.ok Tryz.prog:=addC_ok cx159_ok ct122_ok
def an74:An:=.z
def ct74:Ctr:=⟨⟨[.d T_api_Ratio],[(.sc .str),(.sc (.int .i64))],2,[],[]⟩,fun x=>culpritref05_Print x⟩
theorem ct74_ok:ct74.sound Tryz.prog 74:=fn_sound cx122_ok mixed Tryz.func74 (by kernel_rfl) (an:=an74) (fun x=>(by kernel_rfl:ct74.fn x=semF cx122 Tryz.f74 an74 ct74.toSig x)) rfl
def cx74:Cx:=addC cx122 74 ct74
theorem cx74_ok:cx74.ok Tryz.prog:=addC_ok cx122_ok ct74_ok
def an60:An:=.z
def ct60:Ctr:=⟨⟨[.d T_api_Ratio],[(.sc .str)],1,[],[]⟩,fun x=>culpritref37_measure x⟩
theorem ct60_ok:ct60.sound Tryz.prog 60:=fn_sound cx74_ok mixed Tryz.func60 (by kernel_rfl) (an:=an60) (fun x=>(by kernel_rfl:ct60.fn x=semF cx74 Tryz.f60 an60 ct60.toSig x)) rfl
def cx60:Cx:=addC cx74 60 ct60
theorem cx60_ok:cx60.ok Tryz.prog:=addC_ok cx74_ok ct60_ok
def an75:An:=.s .z (.s .z (.j ⟨[0],[(3, .lf (.own (.sc .str) 9 false []))],[],[]⟩ true (.s .z (.u (.l ⟨[0],[(3, .lf (.own (.sc .str) 9 false [])),(4, .lf (.sc (.int .i64)))],[],[]⟩ .z))) .z))
def ct75:Ctr:=⟨⟨[.d (.slice (.sc (.int .i64)))],[(.slice (.sc .str))],1,[],[⟨some 9,false,false⟩]⟩,fun x=>culpritref37_numbers x⟩
theorem ct75_ok:ct75.sound Tryz.prog 75:=fn_sound cx60_ok mixed Tryz.func75 (by kernel_rfl) (an:=an75) (fun x=>(by kernel_rfl:ct75.fn x=semF cx60 Tryz.f75 an75 ct75.toSig x)) rfl
def cx75:Cx:=addC cx60 75 ct75
theorem cx75_ok:cx75.ok Tryz.prog:=addC_ok cx60_ok ct75_ok
def an61:An:=.z
def ct61:Ctr:=⟨⟨[.d (.slice (.sc (.int .i64)))],[(.sc .str)],1,[],[]⟩,fun x=>culpritref37_choices x⟩
theorem ct61_ok:ct61.sound Tryz.prog 61:=fn_sound cx75_ok mixed Tryz.func61 (by kernel_rfl) (an:=an61) (fun x=>(by kernel_rfl:ct61.fn x=semF cx75 Tryz.f61 an61 ct61.toSig x)) rfl
def cx61:Cx:=addC cx75 61 ct61
theorem cx61_ok:cx61.ok Tryz.prog:=addC_ok cx75_ok ct61_ok
def an20:An:=.s .z (.s .z (.s .z (.j ⟨[1],[(4, .lf (.own (.sc .str) 9 false []))],[],[]⟩ true (.s .z (.u (.l ⟨[1],[(4, .lf (.own (.sc .str) 9 false [])),(5, .lf (.sc (.int .i64)))],[],[]⟩ .z))) (.j ⟨[1],[(4, .lf (.own (.sc .str) 9 false []))],[],[]⟩ true .z (.j ⟨[1],[(4, .lf (.own (.sc .str) 9 false []))],[],[]⟩ true .z .z)))))
def ct20:Ctr:=⟨⟨[.d T_api_Verdict],[(.slice (.sc .str)),(.sc (.int .i64))],2,[],[⟨some 9,false,false⟩]⟩,fun x=>culpritref37_Print x⟩
theorem ct20_ok:ct20.sound Tryz.prog 20:=fn_sound cx61_ok mixed Tryz.func20 (by kernel_rfl) (an:=an20) (fun x=>(by kernel_rfl:ct20.fn x=semF cx61 Tryz.f20 an20 ct20.toSig x)) rfl
def cx20:Cx:=addC cx61 20 ct20
theorem cx20_ok:cx20.ok Tryz.prog:=addC_ok cx61_ok ct20_ok
def an31:An:=.s .z (.s .z (.s .z (.j ⟨[0],[(4, .lf (.sc .str))],[],[]⟩ false (.s .z (.u (.l ⟨[0],[(4, .lf (.sc .str)),(5, .lf (.sc (.int .i64)))],[],[]⟩ (.s .z (.j ⟨[0,5],[(4, .lf (.sc .str))],[],[]⟩ false (.u (.s .z (.s .z (.j ⟨[0,5],[(4, .lf (.sc .str))],[],[6]⟩ true (.s .z (.u (.l ⟨[0,5,6],[(4, .lf (.sc .str)),(8, .lf (.sc (.int .i64)))],[],[]⟩ .z))) .z)))) .z))))) .z)))
def ct31:Ctr:=⟨⟨[.d (.slice T_api_Verdict)],[(.sc .str),(.sc (.int .i64))],2,[],[]⟩,fun x=>culpritref37_Page x⟩
theorem ct31_ok:ct31.sound Tryz.prog 31:=fn_sound cx20_ok mixed Tryz.func31 (by kernel_rfl) (an:=an31) (fun x=>(by kernel_rfl:ct31.fn x=semF cx20 Tryz.f31 an31 ct31.toSig x)) rfl
def cx31:Cx:=addC cx20 31 ct31
theorem cx31_ok:cx31.ok Tryz.prog:=addC_ok cx20_ok ct31_ok
def an32:An:=.z
def ct32:Ctr:=⟨⟨[.d (.sc .str), .d (.sc (.int .i64))],[(.sc .str)],1,[],[]⟩,fun x=>culpritref01_Short x.1 x.2⟩
theorem ct32_ok:ct32.sound Tryz.prog 32:=fn_sound cx31_ok mixed Tryz.func32 (by kernel_rfl) (an:=an32) (fun x=>(by kernel_rfl:ct32.fn x=semF cx31 Tryz.f32 an32 ct32.toSig x)) rfl
def cx32:Cx:=addC cx31 32 ct32
theorem cx32_ok:cx32.ok Tryz.prog:=addC_ok cx31_ok ct32_ok
def an33:An:=.s .z (.s .z (.s .z (.s .z (.s .z (.s .z (.j ⟨[7,8],[(5, .lf (.own (.slice (.sc .str)) 46 false [])),(6, .lf (.own (.sc .str) 9 false []))],[],[]⟩ true (.s .z (.u (.l ⟨[7,8,28,29],[(5, .lf (.own (.slice (.sc .str)) 46 false [])),(6, .lf (.own (.sc .str) 9 false [])),(30, .lf (.sc (.int .i64)))],[],[]⟩ (.s .z (.s .z (.j ⟨[7,8,28,29,30],[(5, .lf (.own (.slice (.sc .str)) 46 false [])),(6, .lf (.own (.sc .str) 9 false []))],[],[]⟩ true .z .z)))))) (.s .z (.j ⟨[11],[(5, .lf (.own (.slice (.sc .str)) 46 false []))],[],[6]⟩ true .z (.s .z (.s .z (.j ⟨[5,11],[(12, .lf (.own T_api_Verdict 44 false []))],[],[]⟩ false (.s .z (.u (.l ⟨[5,11,64,65],[(12, .lf (.own T_api_Verdict 44 false [])),(66, .lf (.sc (.int .i64)))],[],[]⟩ .z))) .z)))))))))))
def ct33:Ctr:=⟨⟨[.d (.sc .str)],[(.slice T_api_Verdict),(.sc (.int .i64)),(.sc (.int .i64))],3,[],[⟨some 44,false,true⟩]⟩,fun x=>report_Read x⟩
theorem ct33_ok:ct33.sound Tryz.prog 33:=fn_sound cx32_ok mixed Tryz.func33 (by kernel_rfl) (an:=an33) (fun x=>(by kernel_rfl:ct33.fn x=semF cx32 Tryz.f33 an33 ct33.toSig x)) rfl
def cx33:Cx:=addC cx32 33 ct33
theorem cx33_ok:cx33.ok Tryz.prog:=addC_ok cx32_ok ct33_ok
def an84:An:=.s .z (.s .z (.s .z (.s .z (.j ⟨[0],[(4, .lf (.own (.slice (.sc .str)) 46 false [])),(5, .lf (.own (.sc .str) 9 false [])),(6, .lf (.sc .str))],[],[]⟩ true (.s .z (.u (.l ⟨[0],[(4, .lf (.own (.slice (.sc .str)) 46 false [])),(5, .lf (.own (.sc .str) 9 false [])),(6, .lf (.sc .str)),(7, .lf (.sc (.int .i64)))],[],[]⟩ (.s .z (.j ⟨[0,7],[(4, .lf (.own (.slice (.sc .str)) 46 false [])),(5, .lf (.own (.sc .str) 9 false [])),(6, .lf (.sc .str))],[],[]⟩ true .z .z))))) .z))))
def ct84:Ctr:=⟨⟨[.d (.sc .str)],[(.slice (.slice (.sc .str))),(.sc .bool)],2,[],[⟨some 46,false,true⟩]⟩,fun x=>culpritref37_Rows x⟩
theorem ct84_ok:ct84.sound Tryz.prog 84:=fn_sound cx33_ok mixed Tryz.func84 (by kernel_rfl) (an:=an84) (fun x=>(by kernel_rfl:ct84.fn x=semF cx33 Tryz.f84 an84 ct84.toSig x)) rfl
def cx84:Cx:=addC cx33 84 ct84
theorem cx84_ok:cx84.ok Tryz.prog:=addC_ok cx33_ok ct84_ok
def an62:An:=.s .z (.s .z (.j ⟨[0,2],[(4, .lf (.sc (.int .i64)))],[],[]⟩ true (.u (.l ⟨[0,2],[(4, .lf (.sc (.int .i64)))],[],[]⟩ .z)) (.s .z (.j ⟨[2,0,4],[],[],[]⟩ false (.s .z (.u (.l ⟨[0,2,4],[(5, .lf (.sc (.int .i64)))],[],[]⟩ (.s .z (.j ⟨[0,2,4,5],[],[],[]⟩ false (.u (.s .z (.u (.l ⟨[0,2,4,5],[(6, .lf (.sc (.int .i64)))],[],[]⟩ .z)))) .z))))) .z))))
def ct62:Ctr:=⟨⟨[.d (.sc .str)],[T_api_Verdict,(.sc .bool)],2,[],[⟨some 77,false,false⟩,⟨some 3,false,false⟩,⟨some 78,false,false⟩,⟨some 78,false,false⟩]⟩,fun x=>culpritref37_ParseFirst x⟩
theorem ct62_ok:ct62.sound Tryz.prog 62:=fn_sound cx84_ok mixed Tryz.func62 (by kernel_rfl) (an:=an62) (fun x=>(by kernel_rfl:ct62.fn x=semF cx84 Tryz.f62 an62 ct62.toSig x)) rfl
def cx62:Cx:=addC cx84 62 ct62
theorem cx62_ok:cx62.ok Tryz.prog:=addC_ok cx84_ok ct62_ok
def an116:An:=.z
def ct116:Ctr:=⟨⟨[.d (.sc .str), .d (.sc .str), .d (.sc .str)],[(.sc .str),(.sc .bool)],2,[],[]⟩,fun x=>culpritref37_inner x.1 x.2.1 x.2.2⟩
theorem ct116_ok:ct116.sound Tryz.prog 116:=fn_sound cx62_ok mixed Tryz.func116 (by kernel_rfl) (an:=an116) (fun x=>(by kernel_rfl:ct116.fn x=semF cx62 Tryz.f116 an116 ct116.toSig x)) rfl
def cx116:Cx:=addC cx62 116 ct116
theorem cx116_ok:cx116.ok Tryz.prog:=addC_ok cx62_ok ct116_ok
def an117:An:=.s .z (.s .z (.s .z (.s .z (.j ⟨[0],[(3, .lf (.own (.sc .str) 9 false [])),(4, .lf (.sc .str))],[],[5]⟩ true (.u (.l ⟨[0],[(3, .lf (.own (.sc .str) 9 false [])),(4, .lf (.sc .str)),(5, .lf (.sc (.int .i64)))],[],[]⟩ .z)) .z))))
def ct117:Ctr:=⟨⟨[.d (.sc .str)],[(.slice (.sc .str))],1,[],[⟨some 9,false,false⟩]⟩,fun x=>culpritref37_Parts x⟩
theorem ct117_ok:ct117.sound Tryz.prog 117:=fn_sound cx116_ok mixed Tryz.func117 (by kernel_rfl) (an:=an117) (fun x=>(by kernel_rfl:ct117.fn x=semF cx116 Tryz.f117 an117 ct117.toSig x)) rfl
def cx117:Cx:=addC cx116 117 ct117
theorem cx117_ok:cx117.ok Tryz.prog:=addC_ok cx116_ok ct117_ok
def an120:An:=.s .z (.s .z (.s .z (.j ⟨[0],[(4, .lf (.sc (.int .i64)))],[],[]⟩ false (.s .z (.u (.l ⟨[0],[(4, .lf (.sc (.int .i64))),(5, .lf (.sc (.int .i64)))],[],[]⟩ .z))) .z)))
def ct120:Ctr:=⟨⟨[.d (.sc .str)],[(.sc (.int .i64)),(.sc .bool)],2,[],[]⟩,fun x=>culpritref37_number x⟩
theorem ct120_ok:ct120.sound Tryz.prog 120:=fn_sound cx117_ok mixed Tryz.func120 (by kernel_rfl) (an:=an120) (fun x=>(by kernel_rfl:ct120.fn x=semF cx117 Tryz.f120 an120 ct120.toSig x)) rfl
def cx120:Cx:=addC cx117 120 ct120
theorem cx120_ok:cx120.ok Tryz.prog:=addC_ok cx117_ok ct120_ok
def an118:An:=.s .z (.j ⟨[2,0],[],[],[]⟩ false (.s .z (.u (.l ⟨[0,2],[(4, .lf (.sc (.int .i64)))],[],[]⟩ .z))) .z)
def ct118:Ctr:=⟨⟨[.d (.sc .str)],[T_api_Name,(.sc .bool)],2,[],[]⟩,fun x=>culpritref37_named x⟩
theorem ct118_ok:ct118.sound Tryz.prog 118:=fn_sound cx120_ok mixed Tryz.func118 (by kernel_rfl) (an:=an118) (fun x=>(by kernel_rfl:ct118.fn x=semF cx120 Tryz.f118 an118 ct118.toSig x)) rfl
def cx118:Cx:=addC cx120 118 ct118
theorem cx118_ok:cx118.ok Tryz.prog:=addC_ok cx120_ok ct118_ok
def an63:An:=.s .z (.s .z (.s .z (.s .z (.j ⟨[0,4,6,8,5],[(7, .lf (.sc .str))],[],[]⟩ true .z (.j ⟨[0,6,7,8],[(4, .lf (.own T_api_Name 76 false []))],[],[]⟩ false (.s .z (.s (.s .z (.s .z (.u (.l ⟨[0,9],[(4, .lf (.own T_api_Name 76 false [])),(10, .lf (.sc (.int .i64)))],[],[]⟩ .z)))) .z)) .z)))))
def ct63:Ctr:=⟨⟨[.d (.sc .str)],[(.slice T_api_Name),(.sc .bool)],2,[],[⟨some 76,false,false⟩]⟩,fun x=>culpritref37_ParseSet x⟩
theorem ct63_ok:ct63.sound Tryz.prog 63:=fn_sound cx118_ok mixed Tryz.func63 (by kernel_rfl) (an:=an63) (fun x=>(by kernel_rfl:ct63.fn x=semF cx118 Tryz.f63 an63 ct63.toSig x)) rfl
def cx63:Cx:=addC cx118 63 ct63
theorem cx63_ok:cx63.ok Tryz.prog:=addC_ok cx118_ok ct63_ok
def an157:An:=.s .z (.j ⟨[0],[],[],[]⟩ false (.s .z (.u (.l ⟨[0],[(3, .lf (.sc (.int .i64)))],[],[]⟩ .z))) .z)
def ct157:Ctr:=⟨⟨[.d (.sc .str)],[(.sc .bool)],1,[],[]⟩,fun x=>culpritref05_row x⟩
theorem ct157_ok:ct157.sound Tryz.prog 157:=fn_sound cx63_ok mixed Tryz.func157 (by kernel_rfl) (an:=an157) (fun x=>(by kernel_rfl:ct157.fn x=semF cx63 Tryz.f157 an157 ct157.toSig x)) rfl
def cx157:Cx:=addC cx63 157 ct157
theorem cx157_ok:cx157.ok Tryz.prog:=addC_ok cx63_ok ct157_ok
def an158:An:=.s .z (.s .z (.s .z (.j ⟨[0],[(4, .lf (.own (.sc (.int .u32)) 78 false []))],[],[]⟩ true (.s .z (.u (.l ⟨[0],[(4, .lf (.own (.sc (.int .u32)) 78 false [])),(5, .lf (.sc (.int .i64)))],[],[]⟩ .z))) .z)))
def ct158:Ctr:=⟨⟨[.d (.sc .str)],[(.slice (.sc (.int .u32))),(.sc .bool)],2,[],[⟨some 78,false,false⟩]⟩,fun x=>culpritref05_number x⟩
theorem ct158_ok:ct158.sound Tryz.prog 158:=fn_sound cx157_ok mixed Tryz.func158 (by kernel_rfl) (an:=an158) (fun x=>(by kernel_rfl:ct158.fn x=semF cx157 Tryz.f158 an158 ct158.toSig x)) rfl
def cx158:Cx:=addC cx157 158 ct158
theorem cx158_ok:cx158.ok Tryz.prog:=addC_ok cx157_ok ct158_ok
def an119:An:=.s .z (.s .z (.j ⟨[0,2],[(4, .lf (.sc (.int .i64)))],[],[]⟩ true (.u (.l ⟨[0,2],[(4, .lf (.sc (.int .i64)))],[],[]⟩ .z)) (.s .z (.s .z (.s .z (.j ⟨[0,2,4,5],[(6, .lf (.sc .bool)),(7, .lf (.own (.sc (.int .u32)) 78 false []))],[],[]⟩ true .z .z))))))
def ct119:Ctr:=⟨⟨[.d (.sc .str)],[T_api_Ratio,(.sc (.int .i64))],2,[],[⟨some 78,false,false⟩,⟨some 78,false,false⟩]⟩,fun x=>culpritref05_Parse x⟩
theorem ct119_ok:ct119.sound Tryz.prog 119:=fn_sound cx158_ok mixed Tryz.func119 (by kernel_rfl) (an:=an119) (fun x=>(by kernel_rfl:ct119.fn x=semF cx158 Tryz.f119 an119 ct119.toSig x)) rfl
def cx119:Cx:=addC cx158 119 ct119
theorem cx119_ok:cx119.ok Tryz.prog:=addC_ok cx158_ok ct119_ok
def an64:An:=.z
def ct64:Ctr:=⟨⟨[.d (.sc .str)],[T_api_Ratio,(.sc .bool)],2,[],[⟨some 78,false,false⟩,⟨some 78,false,false⟩]⟩,fun x=>culpritref37_ParseMeasure x⟩
theorem ct64_ok:ct64.sound Tryz.prog 64:=fn_sound cx119_ok mixed Tryz.func64 (by kernel_rfl) (an:=an64) (fun x=>(by kernel_rfl:ct64.fn x=semF cx119 Tryz.f64 an64 ct64.toSig x)) rfl
def cx64:Cx:=addC cx119 64 ct64
theorem cx64_ok:cx64.ok Tryz.prog:=addC_ok cx119_ok ct64_ok
def an65:An:=.s .z (.s .z (.s .z (.s .z (.j ⟨[0,4,5],[(6, .lf (.sc .str))],[],[]⟩ true .z (.s .z (.s .z (.j ⟨[0],[(8, .lf (.own (.sc (.int .i64)) 3 false []))],[],[9]⟩ false (.s .z (.u (.l ⟨[0,9],[(8, .lf (.own (.sc (.int .i64)) 3 false [])),(10, .lf (.sc (.int .i64)))],[],[]⟩ .z))) .z)))))))
def ct65:Ctr:=⟨⟨[.d (.sc .str)],[(.slice (.sc (.int .i64))),(.sc .bool)],2,[],[⟨some 3,false,false⟩]⟩,fun x=>culpritref37_ParseWord x⟩
theorem ct65_ok:ct65.sound Tryz.prog 65:=fn_sound cx64_ok mixed Tryz.func65 (by kernel_rfl) (an:=an65) (fun x=>(by kernel_rfl:ct65.fn x=semF cx64 Tryz.f65 an65 ct65.toSig x)) rfl
def cx65:Cx:=addC cx64 65 ct65
theorem cx65_ok:cx65.ok Tryz.prog:=addC_ok cx64_ok ct65_ok
def an22:An:=.s .z (.s .z (.s .z (.s .z (.j ⟨[0,2,5],[],[(5,[.sc (.int .i64), .sc .str, .rep (.slice T_api_Name) false [1000005], .rep (.sc (.int .i64)) false [1000005], .sc (.int .i64), .rep (.sc (.int .u32)) false [1000005], .rep (.sc (.int .u32)) false [1000005]])],[]⟩ false (.s .z (.u (.l ⟨[0,2,5],[(7, .lf (.sc (.int .i64)))],[(5,[.sc (.int .i64), .sc .str, .rep (.slice T_api_Name) false [1000005], .rep (.sc (.int .i64)) false [1000005], .sc (.int .i64), .rep (.sc (.int .u32)) false [1000005], .rep (.sc (.int .u32)) false [1000005]])],[]⟩ (.s .z (.j ⟨[0,2,5,7],[],[(5,[.sc (.int .i64), .sc .str, .rep (.slice T_api_Name) false [1000005], .rep (.sc (.int .i64)) false [1000005], .sc (.int .i64), .rep (.sc (.int .u32)) false [1000005], .rep (.sc (.int .u32)) false [1000005]])],[]⟩ false (.u (.s .z (.s .z (.s .z (.s .z (.s .z (.j ⟨[0,2,5,7,10,11,12,13,14,9],[(15, .lf (.sc .bool))],[(14,[.sc (.int .i64), .sc .str, .rep (.slice T_api_Name) false [1000005], .rep (.sc (.int .i64)) false [1000005], .sc (.int .i64), .rep (.sc (.int .u32)) false [1000005], .rep (.sc (.int .u32)) false [1000005]])],[8]⟩ true (.s .z (.s (.s .z (.s .z (.s .z (.u (.l ⟨[0,2,5,7,8,10,11,12,13,14],[(15, .lf (.sc .bool)),(16, .lf (.sc (.int .i64)))],[],[]⟩ .z))))) .z)) (.j ⟨[0,2,5,7,12,13,14,10,11],[(15, .lf (.sc .bool))],[(14,[.sc (.int .i64), .sc .str, .rep (.slice T_api_Name) false [1000005,1000014], .rep (.sc (.int .i64)) false [1000005,1000014], .sc (.int .i64), .rep (.sc (.int .u32)) false [1000005,1000010,1000014], .rep (.sc (.int .u32)) false [1000005,1000010,1000014]])],[]⟩ true .z (.j ⟨[0,2,5,7,14,13,10],[(15, .lf (.sc .bool))],[(14,[.sc (.int .i64), .sc .str, .rep (.slice T_api_Name) false [1000005,1000014], .rep (.sc (.int .i64)) false [1000005,1000014], .sc (.int .i64), .rep (.sc (.int .u32)) false [1000005,1000010,1000014], .rep (.sc (.int .u32)) false [1000005,1000010,1000014]])],[12]⟩ true .z .z))))))))) .z))))) .z))))
def ct22:Ctr:=⟨⟨[.d (.slice (.sc .str))],[T_api_Verdict,(.sc (.int .i64)),(.sc (.int .i64))],3,[],[⟨none,false,true⟩,⟨none,false,true⟩,⟨none,false,true⟩,⟨none,false,true⟩]⟩,fun x=>culpritref37_Parse x⟩
theorem ct22_ok:ct22.sound Tryz.prog 22:=fn_sound cx65_ok mixed Tryz.func22 (by kernel_rfl) (an:=an22) (fun x=>(by kernel_rfl:ct22.fn x=semF cx65 Tryz.f22 an22 ct22.toSig x)) rfl
def cx22:Cx:=addC cx65 22 ct22
theorem cx22_ok:cx22.ok Tryz.prog:=addC_ok cx65_ok ct22_ok
def an34:An:=.s .z (.s .z (.s .z (.s .z (.s .z (.j ⟨[5,6],[(7, .lf (.own T_api_Verdict 44 false []))],[],[]⟩ false (.s .z (.u (.l ⟨[5,6],[(7, .lf (.own T_api_Verdict 44 false [])),(8, .lf (.sc (.int .i64)))],[],[]⟩ .z))) .z)))))
def ct34:Ctr:=⟨⟨[.d (.sc .str)],[(.slice T_api_Verdict),(.sc (.int .i64)),(.sc (.int .i64))],3,[],[⟨some 44,false,true⟩]⟩,fun x=>culpritref37_Read x⟩
theorem ct34_ok:ct34.sound Tryz.prog 34:=fn_sound cx22_ok mixed Tryz.func34 (by kernel_rfl) (an:=an34) (fun x=>(by kernel_rfl:ct34.fn x=semF cx22 Tryz.f34 an34 ct34.toSig x)) rfl
def cx34:Cx:=addC cx22 34 ct34
theorem cx34_ok:cx34.ok Tryz.prog:=addC_ok cx22_ok ct34_ok
def an55:An:=.s .z (.s .z (.j ⟨[0,1],[],[],[]⟩ false (.s .z (.u (.l ⟨[0,1],[(5, .lf (.sc (.int .i64)))],[],[]⟩ .z))) .z))
def ct55:Ctr:=⟨⟨[.d (.slice (.sc (.int .i64))), .d (.slice (.sc (.int .i64)))],[(.sc .bool)],1,[],[]⟩,fun x=>culpritref01_SameInts x.1 x.2⟩
theorem ct55_ok:ct55.sound Tryz.prog 55:=fn_sound cx34_ok mixed Tryz.func55 (by kernel_rfl) (an:=an55) (fun x=>(by kernel_rfl:ct55.fn x=semF cx34 Tryz.f55 an55 ct55.toSig x)) rfl
def cx55:Cx:=addC cx34 55 ct55
theorem cx55_ok:cx55.ok Tryz.prog:=addC_ok cx34_ok ct55_ok
def an109:An:=.s .z (.s .z (.j ⟨[0,1],[],[],[]⟩ false (.s .z (.u (.l ⟨[0,1],[(5, .lf (.sc (.int .i64)))],[],[]⟩ .z))) .z))
def ct109:Ctr:=⟨⟨[.d (.slice (.sc (.int .u32))), .d (.slice (.sc (.int .u32)))],[(.sc .bool)],1,[],[]⟩,fun x=>culpritref05_SameLimbs x.1 x.2⟩
theorem ct109_ok:ct109.sound Tryz.prog 109:=fn_sound cx55_ok mixed Tryz.func109 (by kernel_rfl) (an:=an109) (fun x=>(by kernel_rfl:ct109.fn x=semF cx55 Tryz.f109 an109 ct109.toSig x)) rfl
def cx109:Cx:=addC cx55 109 ct109
theorem cx109_ok:cx109.ok Tryz.prog:=addC_ok cx55_ok ct109_ok
def an56:An:=.z
def ct56:Ctr:=⟨⟨[.d T_api_Ratio, .d T_api_Ratio],[(.sc .bool)],1,[],[]⟩,fun x=>culpritref05_Same x.1 x.2⟩
theorem ct56_ok:ct56.sound Tryz.prog 56:=fn_sound cx109_ok mixed Tryz.func56 (by kernel_rfl) (an:=an56) (fun x=>(by kernel_rfl:ct56.fn x=semF cx109 Tryz.f56 an56 ct56.toSig x)) rfl
def cx56:Cx:=addC cx109 56 ct56
theorem cx56_ok:cx56.ok Tryz.prog:=addC_ok cx109_ok ct56_ok
def an17:An:=.s .z (.s .z (.j ⟨[2,3],[],[],[]⟩ false (.s .z (.u (.l ⟨[2,3],[(5, .lf (.sc (.int .i64)))],[],[]⟩ .z))) .z))
def ct17:Ctr:=⟨⟨[.d T_api_Verdict, .d T_api_Verdict],[(.sc .bool)],1,[],[]⟩,fun x=>culpritref36_Same x.1 x.2⟩
theorem ct17_ok:ct17.sound Tryz.prog 17:=fn_sound cx56_ok mixed Tryz.func17 (by kernel_rfl) (an:=an17) (fun x=>(by kernel_rfl:ct17.fn x=semF cx56 Tryz.f17 an17 ct17.toSig x)) rfl
def cx17:Cx:=addC cx56 17 ct17
theorem cx17_ok:cx17.ok Tryz.prog:=addC_ok cx56_ok ct17_ok
def an35:An:=.s .z (.s .z (.j ⟨[0,1],[],[],[]⟩ false (.s .z (.u (.l ⟨[0,1],[(5, .lf (.sc (.int .i64)))],[],[]⟩ .z))) .z))
def ct35:Ctr:=⟨⟨[.d (.slice T_api_Verdict), .d (.slice T_api_Verdict)],[(.sc .bool)],1,[],[]⟩,fun x=>culpritlaw37_sameAll x.1 x.2⟩
theorem ct35_ok:ct35.sound Tryz.prog 35:=fn_sound cx17_ok mixed Tryz.func35 (by kernel_rfl) (an:=an35) (fun x=>(by kernel_rfl:ct35.fn x=semF cx17 Tryz.f35 an35 ct35.toSig x)) rfl
def cx35:Cx:=addC cx17 35 ct35
theorem cx35_ok:cx35.ok Tryz.prog:=addC_ok cx17_ok ct35_ok
def an8:An:=.s .z (.s .z (.s .z (.j ⟨[2,5,13],[],[],[14]⟩ false (.s .z (.u (.l ⟨[2,5,13,14],[(15, .lf (.sc (.int .i64)))],[],[]⟩ .z))) (.s .z (.s .z (.s .z (.s .z (.s .z (.j ⟨[],[],[],[25]⟩ false (.s .z (.u (.l ⟨[25],[(26, .lf (.sc (.int .i64)))],[],[]⟩ .z))) .z)))))))))
def ct8:Ctr:=⟨⟨[.d (.slice (.sc (.int .i64))), .d (.sc (.int .i64)), .d (.sc (.int .i64)), .d (.sc (.int .i64)), .d (.sc (.int .i64)), .d (.sc .str)],[(.sc .bool)],1,[],[]⟩,fun x=>culpritlaw37_ReportPages x.1 x.2.1 x.2.2.1 x.2.2.2.1 x.2.2.2.2.1 x.2.2.2.2.2⟩
theorem ct8_ok:ct8.sound Tryz.prog 8:=fn_sound cx35_ok mixed Tryz.func8 (by kernel_rfl) (an:=an8) (fun x=>(by kernel_rfl:ct8.fn x=semF cx35 Tryz.f8 an8 ct8.toSig x)) rfl
end
end Go.Proofs.YtknnphhepnbaoaaGreatDoor
