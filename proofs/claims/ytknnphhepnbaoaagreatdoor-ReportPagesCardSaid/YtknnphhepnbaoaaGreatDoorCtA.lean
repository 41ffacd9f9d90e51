/-
  The functions of the program compute what their Lean functions say. No condition.
-/
import Derived.Test.YtknnphhepnbaoaaGreatDoorExtW
namespace Go.Proofs.YtknnphhepnbaoaaGreatDoor
open Go.Sm
set_option maxRecDepth 100000
set_option linter.unusedSectionVars false
section
variable [Itr] [Vars]
def cx49:Cx:=addC cx0 49 ctJoin
theorem cx49_ok:cx49.ok Tryz.prog:=addC_ok cx0_ok ctJoin_ok
def cx94:Cx:=addC cx49 94 ctReplace
theorem cx94_ok:cx94.ok Tryz.prog:=addC_ok cx49_ok ctReplace_ok
def cx191:Cx:=addC cx94 191 ctReplaceAll
theorem cx191_ok:cx191.ok Tryz.prog:=addC_ok cx94_ok ctReplaceAll_ok
def cx83:Cx:=addC cx191 83 ctSplit
theorem cx83_ok:cx83.ok Tryz.prog:=addC_ok cx191_ok ctSplit_ok
def cx130:Cx:=addC cx83 130 ctTrim
theorem cx130_ok:cx130.ok Tryz.prog:=addC_ok cx83_ok ctTrim_ok
def cx144:Cx:=addC cx130 144 ctTrimLeft
theorem cx144_ok:cx144.ok Tryz.prog:=addC_ok cx130_ok ctTrimLeft_ok
def cx148:Cx:=addC cx144 148 ctCut
theorem cx148_ok:cx148.ok Tryz.prog:=addC_ok cx144_ok ctCut_ok
def cx146:Cx:=addC cx148 146 ctCutPrefix
theorem cx146_ok:cx146.ok Tryz.prog:=addC_ok cx148_ok ctCutPrefix_ok
def cx98:Cx:=addC cx146 98 ctCutSuffix
theorem cx98_ok:cx98.ok Tryz.prog:=addC_ok cx146_ok ctCutSuffix_ok
def cx37:Cx:=addC cx98 37 ctItoa
theorem cx37_ok:cx37.ok Tryz.prog:=addC_ok cx98_ok ctItoa_ok
def cx108:Cx:=addC cx37 108 ctNumber
theorem cx108_ok:cx108.ok Tryz.prog:=addC_ok cx37_ok ctNumber_ok
def an88:An:=.z
def ct88:Ctr:=⟨⟨[.d (.sc .str)],[(.sc .bool)],1,[],[]⟩,fun x=>report_named x⟩
theorem ct88_ok:ct88.sound Tryz.prog 88:=fn_sound cx108_ok mixed Tryz.func88 (by kernel_rfl) (an:=an88) (fun x=>(by kernel_rfl:ct88.fn x=semF cx108 Tryz.f88 an88 ct88.toSig x)) rfl
def cx88:Cx:=addC cx108 88 ct88
theorem cx88_ok:cx88.ok Tryz.prog:=addC_ok cx108_ok ct88_ok
def an140:An:=.s .z (.s .z (.j ⟨[0],[(3, .lf (.sc (.int .i64)))],[],[]⟩ true (.u (.l ⟨[0],[(3, .lf (.sc (.int .i64)))],[],[]⟩ .z)) .z))
def ct140:Ctr:=⟨⟨[.d (.slice (.sc (.int .u32)))],[(.slice (.sc (.int .u32)))],1,[],[⟨none,true,false⟩]⟩,fun x=>ratio_trim x⟩
theorem ct140_ok:ct140.sound Tryz.prog 140:=fn_sound cx88_ok mixed Tryz.func140 (by kernel_rfl) (an:=an140) (fun x=>(by kernel_rfl:ct140.fn x=semF cx88 Tryz.f140 an140 ct140.toSig x)) rfl
def cx140:Cx:=addC cx88 140 ct140
theorem cx140_ok:cx140.ok Tryz.prog:=addC_ok cx88_ok ct140_ok
def an141:An:=.z
def ct141:Ctr:=⟨⟨[.d (.slice (.sc (.int .u32)))],[(.sc .bool)],1,[],[]⟩,fun x=>ratio_isOne x⟩
theorem ct141_ok:ct141.sound Tryz.prog 141:=fn_sound cx140_ok mixed Tryz.func141 (by kernel_rfl) (an:=an141) (fun x=>(by kernel_rfl:ct141.fn x=semF cx140 Tryz.f141 an141 ct141.toSig x)) rfl
def cx141:Cx:=addC cx140 141 ct141
theorem cx141_ok:cx141.ok Tryz.prog:=addC_ok cx140_ok ct141_ok
def an180:An:=.s .z (.s .z (.j ⟨[0,1],[],[],[]⟩ false (.s .z (.u (.l ⟨[0,1],[(5, .lf (.sc (.int .i64)))],[],[]⟩ .z))) .z))
def ct180:Ctr:=⟨⟨[.d (.slice (.sc (.int .u32))), .d (.slice (.sc (.int .u32)))],[(.sc (.int .i64))],1,[],[]⟩,fun x=>ratio_compare x.1 x.2⟩
theorem ct180_ok:ct180.sound Tryz.prog 180:=fn_sound cx141_ok mixed Tryz.func180 (by kernel_rfl) (an:=an180) (fun x=>(by kernel_rfl:ct180.fn x=semF cx141 Tryz.f180 an180 ct180.toSig x)) rfl
def cx180:Cx:=addC cx141 180 ct180
theorem cx180_ok:cx180.ok Tryz.prog:=addC_ok cx141_ok ct180_ok
def an212:An:=.z
def ct212:Ctr:=⟨⟨[.d (.slice (.sc (.int .u32)))],[(.slice (.sc (.int .u32)))],1,[],[⟨some 78,false,false⟩]⟩,fun x=>slices_Clone_uint32_uint32 x⟩
theorem ct212_ok:ct212.sound Tryz.prog 212:=fn_soundN cx180_ok mixed Tryz.func212 (by kernel_rfl) rfl (an:=an212) (fun x=>(by kernel_rfl:ct212.fn x=semX [.isn 0 false] cx180 Tryz.f212 an212 ct212.toSig x)) (by kernel_rfl) rfl
def cx212:Cx:=addC cx180 212 ct212
theorem cx212_ok:cx212.ok Tryz.prog:=addC_ok cx180_ok ct212_ok
def an188:An:=.s .z (.j ⟨[0,1,2],[],[],[]⟩ true .z .z)
def ct188:Ctr:=⟨⟨[.d (.sc (.int .u32)), .d (.sc (.int .u32)), .d (.sc (.int .u32))],[(.sc (.int .u32)),(.sc (.int .u32))],2,[],[]⟩,fun x=>math_bits_Div32 x.1 x.2.1 x.2.2⟩
theorem ct188_ok:ct188.sound Tryz.prog 188:=fn_sound cx212_ok mixed Tryz.func188 (by kernel_rfl) (an:=an188) (fun x=>(by kernel_rfl:ct188.fn x=semF cx212 Tryz.f188 an188 ct188.toSig x)) rfl
def cx188:Cx:=addC cx212 188 ct188
theorem cx188_ok:cx188.ok Tryz.prog:=addC_ok cx212_ok ct188_ok
def an143:An:=.s .z (.s .z (.s .z (.j ⟨[0,1],[(6, .lf (.own (.sc (.int .u32)) 78 false [])),(7, .lf (.sc (.int .u32)))],[],[]⟩ true (.s .z (.u (.l ⟨[0,1],[(6, .lf (.own (.sc (.int .u32)) 78 false [])),(7, .lf (.sc (.int .u32))),(8, .lf (.sc (.int .i64)))],[],[]⟩ .z))) .z)))
def ct143:Ctr:=⟨⟨[.d (.slice (.sc (.int .u32))), .d (.sc (.int .u32))],[(.slice (.sc (.int .u32))),(.sc (.int .u32))],2,[],[⟨none,false,true⟩]⟩,fun x=>ratio_small x.1 x.2⟩
theorem ct143_ok:ct143.sound Tryz.prog 143:=fn_sound cx188_ok mixed Tryz.func143 (by kernel_rfl) (an:=an143) (fun x=>(by kernel_rfl:ct143.fn x=semF cx188 Tryz.f143 an143 ct143.toSig x)) rfl
def cx143:Cx:=addC cx188 143 ct143
theorem cx143_ok:cx143.ok Tryz.prog:=addC_ok cx188_ok ct143_ok
def an195:An:=.z
def ct195:Ctr:=⟨⟨[.d (.sc (.int .u64))],[(.slice (.sc (.int .u32)))],1,[],[⟨none,false,true⟩]⟩,fun x=>ratio_whole x⟩
theorem ct195_ok:ct195.sound Tryz.prog 195:=fn_sound cx143_ok mixed Tryz.func195 (by kernel_rfl) (an:=an195) (fun x=>(by kernel_rfl:ct195.fn x=semF cx143 Tryz.f195 an195 ct195.toSig x)) rfl
def cx195:Cx:=addC cx143 195 ct195
theorem cx195_ok:cx195.ok Tryz.prog:=addC_ok cx143_ok ct195_ok
def an230:An:=.s .z (.j ⟨[],[(0, .lf (.sc (.int .u32))),(2, .lf (.sc (.int .i64)))],[],[]⟩ true .z (.j ⟨[],[(0, .lf (.sc (.int .u32))),(2, .lf (.sc (.int .i64)))],[],[]⟩ true .z .z))
def ct230:Ctr:=⟨⟨[.d (.sc (.int .u32))],[(.sc (.int .i64))],1,[],[]⟩,fun x=>math_bits_Len32 x⟩
theorem ct230_ok:ct230.sound Tryz.prog 230:=fn_sound cx195_ok mixed Tryz.func230 (by kernel_rfl) (an:=an230) (fun x=>(by kernel_rfl:ct230.fn x=semF cx195 Tryz.f230 an230 ct230.toSig x)) rfl
def cx230:Cx:=addC cx195 230 ct230
theorem cx230_ok:cx230.ok Tryz.prog:=addC_ok cx195_ok ct230_ok
def an213:An:=.z
def ct213:Ctr:=⟨⟨[.d (.sc (.int .u32))],[(.sc (.int .i64))],1,[],[]⟩,fun x=>math_bits_LeadingZeros32 x⟩
theorem ct213_ok:ct213.sound Tryz.prog 213:=fn_sound cx230_ok mixed Tryz.func213 (by kernel_rfl) (an:=an213) (fun x=>(by kernel_rfl:ct213.fn x=semF cx230 Tryz.f213 an213 ct213.toSig x)) rfl
def cx213:Cx:=addC cx230 213 ct213
theorem cx213_ok:cx213.ok Tryz.prog:=addC_ok cx230_ok ct213_ok
def an214:An:=.s .z (.s .z (.j ⟨[0,1],[(5, .lf (.own (.sc (.int .u32)) 78 false []))],[],[]⟩ true (.s .z (.u (.l ⟨[1,13,14],[(5, .lf (.own (.sc (.int .u32)) 78 false [])),(15, .lf (.sc (.int .i64)))],[],[]⟩ .z))) .z))
def ct214:Ctr:=⟨⟨[.d (.slice (.sc (.int .u32))), .d (.sc (.int .i64))],[(.slice (.sc (.int .u32)))],1,[],[⟨some 78,false,false⟩]⟩,fun x=>ratio_shift x.1 x.2⟩
theorem ct214_ok:ct214.sound Tryz.prog 214:=fn_sound cx213_ok mixed Tryz.func214 (by kernel_rfl) (an:=an214) (fun x=>(by kernel_rfl:ct214.fn x=semF cx213 Tryz.f214 an214 ct214.toSig x)) rfl
def cx214:Cx:=addC cx213 214 ct214
theorem cx214_ok:cx214.ok Tryz.prog:=addC_ok cx213_ok ct214_ok
def an231:An:=.z
def ct231:Ctr:=⟨⟨[.d (.sc (.int .u32)), .d (.sc (.int .u32)), .d (.sc (.int .u32))],[(.sc (.int .u32)),(.sc (.int .u32))],2,[],[]⟩,fun x=>math_bits_Sub32 x.1 x.2.1 x.2.2⟩
theorem ct231_ok:ct231.sound Tryz.prog 231:=fn_sound cx214_ok mixed Tryz.func231 (by kernel_rfl) (an:=an231) (fun x=>(by kernel_rfl:ct231.fn x=semF cx214 Tryz.f231 an231 ct231.toSig x)) rfl
def cx231:Cx:=addC cx214 231 ct231
theorem cx231_ok:cx231.ok Tryz.prog:=addC_ok cx214_ok ct231_ok
def an215:An:=.s .z (.s .z (.j ⟨[0,1,2],[(7, .lf (.sc (.int .u64))),(8, .lf (.sc (.int .u32)))],[(0,[.ownk (.sc (.int .u32)) 78 0])],[]⟩ true (.s .z (.u (.l ⟨[0,1,2,13,14],[(7, .lf (.sc (.int .u64))),(8, .lf (.sc (.int .u32))),(15, .lf (.sc (.int .i64)))],[(0,[.ownk (.sc (.int .u32)) 78 0])],[]⟩ .z))) .z))
def ct215:Ctr:=⟨⟨[.prt (.sc (.int .u32)) 78, .d (.slice (.sc (.int .u32))), .d (.sc (.int .u64))],[(.sc .bool),(.slice (.sc (.int .u32)))],1,[5056],[⟨some 4194304,false,false⟩]⟩,fun x=>ratio_subtract x.1 x.2.1 x.2.2⟩
theorem ct215_ok:ct215.sound Tryz.prog 215:=fn_sound cx231_ok mixed Tryz.func215 (by kernel_rfl) (an:=an215) (fun x=>(by kernel_rfl:ct215.fn x=semF cx231 Tryz.f215 an215 ct215.toSig x)) rfl
def cx215:Cx:=addC cx231 215 ct215
theorem cx215_ok:cx215.ok Tryz.prog:=addC_ok cx231_ok ct215_ok
def an216:An:=.z
def ct216:Ctr:=⟨⟨[.d (.sc (.int .u32)), .d (.sc (.int .u32)), .d (.sc (.int .u32))],[(.sc (.int .u32)),(.sc (.int .u32))],2,[],[]⟩,fun x=>math_bits_Add32 x.1 x.2.1 x.2.2⟩
theorem ct216_ok:ct216.sound Tryz.prog 216:=fn_sound cx215_ok mixed Tryz.func216 (by kernel_rfl) (an:=an216) (fun x=>(by kernel_rfl:ct216.fn x=semF cx215 Tryz.f216 an216 ct216.toSig x)) rfl
def cx216:Cx:=addC cx215 216 ct216
theorem cx216_ok:cx216.ok Tryz.prog:=addC_ok cx215_ok ct216_ok
def an217:An:=.s .z (.s .z (.j ⟨[0,1],[(5, .lf (.own (.sc (.int .u32)) 78 false []))],[],[]⟩ true (.s .z (.u (.l ⟨[0,1,11],[(5, .lf (.own (.sc (.int .u32)) 78 false [])),(12, .lf (.sc (.int .i64)))],[],[]⟩ (.s .z (.s .z (.j ⟨[0,1,11,12],[(5, .lf (.own (.sc (.int .u32)) 78 false []))],[],[]⟩ true .z .z)))))) .z))
def ct217:Ctr:=⟨⟨[.d (.slice (.sc (.int .u32))), .d (.sc (.int .i64))],[(.slice (.sc (.int .u32)))],1,[],[⟨none,false,true⟩]⟩,fun x=>ratio_back x.1 x.2⟩
theorem ct217_ok:ct217.sound Tryz.prog 217:=fn_sound cx216_ok mixed Tryz.func217 (by kernel_rfl) (an:=an217) (fun x=>(by kernel_rfl:ct217.fn x=semF cx216 Tryz.f217 an217 ct217.toSig x)) rfl
def cx217:Cx:=addC cx216 217 ct217
theorem cx217_ok:cx217.ok Tryz.prog:=addC_ok cx216_ok ct217_ok
def an187:An:=.s .z (.s .z (.s .z (.s .z (.s .z (.s .z (.s .z (.s .z (.j ⟨[8,9,11],[(10, .lf (.own (.sc (.int .u32)) 78 false [])),(12, .lf (.own (.sc (.int .u32)) 78 false []))],[],[]⟩ true (.s .z (.u (.l ⟨[8,9,11],[(10, .lf (.own (.sc (.int .u32)) 78 false [])),(12, .lf (.own (.sc (.int .u32)) 78 false [])),(13, .lf (.sc (.int .i64)))],[],[]⟩ (.s .z (.j ⟨[8,9,11,13],[(10, .lf (.own (.sc (.int .u32)) 78 false [])),(12, .lf (.own (.sc (.int .u32)) 78 false []))],[],[]⟩ true (.u (.s .z (.s .z (.s .z (.j ⟨[8,9,10,11,12,13],[(15, .lf (.sc (.int .u64)))],[],[16]⟩ true (.u (.l ⟨[8,9,10,11,12,13],[(15, .lf (.sc (.int .u64))),(16, .lf (.sc (.int .u64)))],[],[]⟩ .z)) (.j ⟨[8,9,11,12,13],[(10, .lf (.own (.sc (.int .u32)) 78 false [])),(15, .lf (.sc (.int .u64)))],[],[]⟩ true (.s .z (.s (.s .z (.s .z (.j ⟨[8,9,11,12,13,15],[(10, .lf (.own (.sc (.int .u32)) 78 false [])),(17, .lf (.sc (.int .u32)))],[],[]⟩ true (.s .z (.u (.l ⟨[8,9,11,12,13,15,161],[(10, .lf (.own (.sc (.int .u32)) 78 false [])),(17, .lf (.sc (.int .u32))),(162, .lf (.sc (.int .i64)))],[],[]⟩ .z))) .z))) .z)) .z)))))) .z))))) .z))))))))
def ct187:Ctr:=⟨⟨[.d (.slice (.sc (.int .u32))), .d (.slice (.sc (.int .u32)))],[(.slice (.sc (.int .u32))),(.slice (.sc (.int .u32)))],2,[],[⟨none,false,true⟩,⟨none,false,true⟩]⟩,fun x=>ratio_divide x.1 x.2⟩
theorem ct187_ok:ct187.sound Tryz.prog 187:=fn_sound cx217_ok mixed Tryz.func187 (by kernel_rfl) (an:=an187) (fun x=>(by kernel_rfl:ct187.fn x=semF cx217 Tryz.f187 an187 ct187.toSig x)) rfl
def cx187:Cx:=addC cx217 187 ct187
theorem cx187_ok:cx187.ok Tryz.prog:=addC_ok cx217_ok ct187_ok
def an142:An:=.s .z (.j ⟨[],[(0, .lf (.rep (.sc (.int .u32)) true []))],[],[1]⟩ true (.u (.l ⟨[],[(0, .lf (.rep (.sc (.int .u32)) true [])),(1, .lf (.rep (.sc (.int .u32)) true []))],[],[]⟩ .z)) .z)
def ct142:Ctr:=⟨⟨[.d (.slice (.sc (.int .u32))), .d (.slice (.sc (.int .u32)))],[(.slice (.sc (.int .u32)))],1,[],[⟨none,true,true⟩]⟩,fun x=>ratio_common x.1 x.2⟩
theorem ct142_ok:ct142.sound Tryz.prog 142:=fn_sound cx187_ok mixed Tryz.func142 (by kernel_rfl) (an:=an142) (fun x=>(by kernel_rfl:ct142.fn x=semF cx187 Tryz.f142 an142 ct142.toSig x)) rfl
def cx142:Cx:=addC cx187 142 ct142
theorem cx142_ok:cx142.ok Tryz.prog:=addC_ok cx187_ok ct142_ok
def an96:An:=.z
def ct96:Ctr:=⟨⟨[.d T_api_Ratio],[(.sc (.int .i64))],1,[],[]⟩,fun x=>ratio_Valid x⟩
theorem ct96_ok:ct96.sound Tryz.prog 96:=fn_sound cx142_ok mixed Tryz.func96 (by kernel_rfl) (an:=an96) (fun x=>(by kernel_rfl:ct96.fn x=semF cx142 Tryz.f96 an96 ct96.toSig x)) rfl
def cx96:Cx:=addC cx142 96 ct96
theorem cx96_ok:cx96.ok Tryz.prog:=addC_ok cx142_ok ct96_ok
def an178:An:=.s .z (.j ⟨[0],[],[],[]⟩ false (.s .z (.u (.l ⟨[6,7],[(8, .lf (.sc (.int .i64)))],[],[]⟩ .z))) .z)
def ct178:Ctr:=⟨⟨[.d (.slice T_api_Ratio)],[(.sc (.int .i64))],1,[],[]⟩,fun x=>ratio_valid x⟩
theorem ct178_ok:ct178.sound Tryz.prog 178:=fn_sound cx96_ok mixed Tryz.func178 (by kernel_rfl) (an:=an178) (fun x=>(by kernel_rfl:ct178.fn x=semF cx96 Tryz.f178 an178 ct178.toSig x)) rfl
def cx178:Cx:=addC cx96 178 ct178
theorem cx178_ok:cx178.ok Tryz.prog:=addC_ok cx96_ok ct178_ok
def an207:An:=.z
def ct207:Ctr:=⟨⟨[.d T_api_Ratio],[(.slice (.sc (.int .u32)))],1,[],[⟨none,true,true⟩]⟩,fun x=>ratio_den x⟩
theorem ct207_ok:ct207.sound Tryz.prog 207:=fn_sound cx178_ok mixed Tryz.func207 (by kernel_rfl) (an:=an207) (fun x=>(by kernel_rfl:ct207.fn x=semF cx178 Tryz.f207 an207 ct207.toSig x)) rfl
def cx207:Cx:=addC cx178 207 ct207
theorem cx207_ok:cx207.ok Tryz.prog:=addC_ok cx178_ok ct207_ok
def an194:An:=.s .z (.s .z (.j ⟨[0,1],[(5, .lf (.own (.sc (.int .u32)) 78 false []))],[],[]⟩ true (.s .z (.u (.l ⟨[1,18,19],[(5, .lf (.own (.sc (.int .u32)) 78 false [])),(20, .lf (.sc (.int .i64)))],[],[]⟩ (.s .z (.s .z (.j ⟨[1,18,19,20],[(5, .lf (.own (.sc (.int .u32)) 78 false []))],[],[]⟩ true (.u (.s .z (.s .z (.j ⟨[1,6,18,19,20,7],[(5, .lf (.own (.sc (.int .u32)) 78 false [])),(8, .lf (.sc (.int .u64)))],[],[]⟩ true (.s .z (.u (.l ⟨[1,6,7,18,19,20,25,26],[(5, .lf (.own (.sc (.int .u32)) 78 false [])),(8, .lf (.sc (.int .u64))),(27, .lf (.sc (.int .i64)))],[],[]⟩ .z))) .z)))) .z)))))) .z))
def ct194:Ctr:=⟨⟨[.d (.slice (.sc (.int .u32))), .d (.slice (.sc (.int .u32)))],[(.slice (.sc (.int .u32)))],1,[],[⟨none,false,true⟩]⟩,fun x=>ratio_times x.1 x.2⟩
theorem ct194_ok:ct194.sound Tryz.prog 194:=fn_sound cx207_ok mixed Tryz.func194 (by kernel_rfl) (an:=an194) (fun x=>(by kernel_rfl:ct194.fn x=semF cx207 Tryz.f194 an194 ct194.toSig x)) rfl
def cx194:Cx:=addC cx207 194 ct194
theorem cx194_ok:cx194.ok Tryz.prog:=addC_ok cx207_ok ct194_ok
def an179:An:=.z
def ct179:Ctr:=⟨⟨[.d T_api_Ratio, .d T_api_Ratio],[(.slice (.sc (.int .u32))),(.slice (.sc (.int .u32))),(.slice (.sc (.int .u32)))],3,[],[⟨none,false,true⟩,⟨none,false,true⟩,⟨none,false,true⟩]⟩,fun x=>ratio_crossed x.1 x.2⟩
theorem ct179_ok:ct179.sound Tryz.prog 179:=fn_sound cx194_ok mixed Tryz.func179 (by kernel_rfl) (an:=an179) (fun x=>(by kernel_rfl:ct179.fn x=semF cx194 Tryz.f179 an179 ct179.toSig x)) rfl
def cx179:Cx:=addC cx194 179 ct179
theorem cx179_ok:cx179.ok Tryz.prog:=addC_ok cx194_ok ct179_ok
def an131:An:=.z
def ct131:Ctr:=⟨⟨[.d T_api_Ratio, .d T_api_Ratio],[(.sc (.int .i64)),(.sc (.int .i64))],2,[],[]⟩,fun x=>ratio_Cmp x.1 x.2⟩
theorem ct131_ok:ct131.sound Tryz.prog 131:=fn_sound cx179_ok mixed Tryz.func131 (by kernel_rfl) (an:=an131) (fun x=>(by kernel_rfl:ct131.fn x=semF cx179 Tryz.f131 an131 ct131.toSig x)) rfl
def cx131:Cx:=addC cx179 131 ct131
theorem cx131_ok:cx131.ok Tryz.prog:=addC_ok cx179_ok ct131_ok
def an89:An:=.z
def ct89:Ctr:=⟨⟨[.d T_api_Ratio],[(.sc .bool)],1,[],[]⟩,fun x=>report_within x⟩
theorem ct89_ok:ct89.sound Tryz.prog 89:=fn_sound cx131_ok mixed Tryz.func89 (by kernel_rfl) (an:=an89) (fun x=>(by kernel_rfl:ct89.fn x=semF cx131 Tryz.f89 an89 ct89.toSig x)) rfl
def cx89:Cx:=addC cx131 89 ct89
theorem cx89_ok:cx89.ok Tryz.prog:=addC_ok cx131_ok ct89_ok
def an132:An:=.z
def ct132:Ctr:=⟨⟨[.d (.sc (.int .i64))],[(.sc .bool)],1,[],[]⟩,fun x=>report_possible_1 x⟩
theorem ct132_ok:ct132.sound Tryz.prog 132:=fn_sound cx89_ok mixed Tryz.func132 (by kernel_rfl) (an:=an132) (fun x=>(by kernel_rfl:ct132.fn x=semF cx89 Tryz.f132 an132 ct132.toSig x)) rfl
def cx132:Cx:=addC cx89 132 ct132
theorem cx132_ok:cx132.ok Tryz.prog:=addC_ok cx89_ok ct132_ok
def an181:An:=.s .z (.j ⟨[0,1],[],[],[]⟩ false (.s .z (.u (.l ⟨[0,1,7],[(8, .lf (.sc (.int .i64)))],[],[]⟩ .z))) .z)
def ct181:Ctr:=⟨⟨[.d (.slice (.sc (.int .i64))), .fn 132],[(.sc (.int .i64))],1,[],[]⟩,fun x=>slices_IndexFunc_int_int x.1⟩
theorem ct181_ok:ct181.sound Tryz.prog 181:=fn_sound cx132_ok mixed Tryz.func181 (by kernel_rfl) (an:=an181) (fun x=>(by kernel_rfl:ct181.fn x=semF cx132 Tryz.f181 an181 ct181.toSig x)) rfl
def cx181:Cx:=addC cx132 181 ct181
theorem cx181_ok:cx181.ok Tryz.prog:=addC_ok cx132_ok ct181_ok
def an133:An:=.z
def ct133:Ctr:=⟨⟨[.d (.slice (.sc (.int .i64))), .fn 132],[(.sc .bool)],1,[],[]⟩,fun x=>slices_ContainsFunc_int_int x.1⟩
theorem ct133_ok:ct133.sound Tryz.prog 133:=fn_sound cx181_ok mixed Tryz.func133 (by kernel_rfl) (an:=an133) (fun x=>(by kernel_rfl:ct133.fn x=semF cx181 Tryz.f133 an133 ct133.toSig x)) rfl
def cx133:Cx:=addC cx181 133 ct133
theorem cx133_ok:cx133.ok Tryz.prog:=addC_ok cx181_ok ct133_ok
def an90:An:=.z
def ct90:Ctr:=⟨⟨[.d (.slice (.sc (.int .i64)))],[(.sc .bool)],1,[],[]⟩,fun x=>report_possible x⟩
theorem ct90_ok:ct90.sound Tryz.prog 90:=fn_sound cx133_ok mixed Tryz.func90 (by kernel_rfl) (an:=an90) (fun x=>(by kernel_rfl:ct90.fn x=semF cx133 Tryz.f90 an90 ct90.toSig x)) rfl
def cx90:Cx:=addC cx133 90 ct90
theorem cx90_ok:cx90.ok Tryz.prog:=addC_ok cx133_ok ct90_ok
def an134:An:=.z
def ct134:Ctr:=⟨⟨[.d T_api_Name, .d T_api_Name],[(.sc .bool)],1,[],[]⟩,fun x=>report_less x.1 x.2⟩
theorem ct134_ok:ct134.sound Tryz.prog 134:=fn_sound cx90_ok mixed Tryz.func134 (by kernel_rfl) (an:=an134) (fun x=>(by kernel_rfl:ct134.fn x=semF cx90 Tryz.f134 an134 ct134.toSig x)) rfl
def cx134:Cx:=addC cx90 134 ct134
theorem cx134_ok:cx134.ok Tryz.prog:=addC_ok cx90_ok ct134_ok
def an91:An:=.s .z (.j ⟨[0],[],[],[]⟩ false (.s .z (.u (.l ⟨[0,5,6],[(7, .lf (.sc (.int .i64)))],[],[]⟩ .z))) .z)
def ct91:Ctr:=⟨⟨[.d (.slice T_api_Name)],[(.sc .bool)],1,[],[]⟩,fun x=>report_rising x⟩
theorem ct91_ok:ct91.sound Tryz.prog 91:=fn_sound cx134_ok mixed Tryz.func91 (by kernel_rfl) (an:=an91) (fun x=>(by kernel_rfl:ct91.fn x=semF cx134 Tryz.f91 an91 ct91.toSig x)) rfl
def cx91:Cx:=addC cx134 91 ct91
theorem cx91_ok:cx91.ok Tryz.prog:=addC_ok cx134_ok ct91_ok
def an69:An:=.s .z (.s .z (.j ⟨[0,1],[],[],[]⟩ false (.s .z (.u (.l ⟨[0,1,12],[(13, .lf (.sc (.int .i64)))],[],[]⟩ .z))) .z))
def ct69:Ctr:=⟨⟨[.d (.slice T_api_Name), .d (.slice T_api_Name)],[(.sc .bool)],1,[],[]⟩,fun x=>slices_Equal_api_Name_api_Name x.1 x.2⟩
theorem ct69_ok:ct69.sound Tryz.prog 69:=fn_sound cx91_ok mixed Tryz.func69 (by kernel_rfl) (an:=an69) (fun x=>(by kernel_rfl:ct69.fn x=semF cx91 Tryz.f69 an69 ct69.toSig x)) rfl
def cx69:Cx:=addC cx91 69 ct69
theorem cx69_ok:cx69.ok Tryz.prog:=addC_ok cx91_ok ct69_ok
def an93:An:=.z
def ct93:Ctr:=⟨⟨[.d (.slice T_api_Name), .box false (.slice T_api_Name) []],[(.sc .bool)],1,[],[]⟩,fun x=>report_proper_1 x.1 x.2⟩
theorem ct93_ok:ct93.sound Tryz.prog 93:=fn_sound cx69_ok mixed Tryz.func93 (by kernel_rfl) (an:=an93) (fun x=>(by kernel_rfl:ct93.fn x=semF cx69 Tryz.f93 an93 ct93.toSig x)) rfl
def cx93:Cx:=addC cx69 93 ct93
theorem cx93_ok:cx93.ok Tryz.prog:=addC_ok cx69_ok ct93_ok
def an135:An:=.s .z (.j ⟨[0,1],[],[],[]⟩ false (.s .z (.u (.l ⟨[0,1,7],[(8, .lf (.sc (.int .i64)))],[],[]⟩ .z))) .z)
def ct135:Ctr:=⟨⟨[.d (.slice (.slice T_api_Name)), .clo 93 (.slice T_api_Name)],[(.sc (.int .i64))],1,[],[]⟩,fun x=>slices_IndexFunc_api_Name_api_Name x.1 x.2⟩
theorem ct135_ok:ct135.sound Tryz.prog 135:=fn_sound cx93_ok mixed Tryz.func135 (by kernel_rfl) (an:=an135) (fun x=>(by kernel_rfl:ct135.fn x=semF cx93 Tryz.f135 an135 ct135.toSig x)) rfl
def cx135:Cx:=addC cx93 135 ct135
theorem cx135_ok:cx135.ok Tryz.prog:=addC_ok cx93_ok ct135_ok
def an92:An:=.z
def ct92:Ctr:=⟨⟨[.d (.slice (.slice T_api_Name)), .clo 93 (.slice T_api_Name)],[(.sc .bool)],1,[],[]⟩,fun x=>slices_ContainsFunc_api_Name_api_Name x.1 x.2⟩
theorem ct92_ok:ct92.sound Tryz.prog 92:=fn_sound cx135_ok mixed Tryz.func92 (by kernel_rfl) (an:=an92) (fun x=>(by kernel_rfl:ct92.fn x=semF cx135 Tryz.f92 an92 ct92.toSig x)) rfl
def cx92:Cx:=addC cx135 92 ct92
theorem cx92_ok:cx92.ok Tryz.prog:=addC_ok cx135_ok ct92_ok
def an42:An:=.s .z (.s .z (.j ⟨[1],[],[],[]⟩ false (.s .z (.u (.l ⟨[1,49,50],[(51, .lf (.sc (.int .i64)))],[],[]⟩ .z))) .z))
def ct42:Ctr:=⟨⟨[.d T_api_Verdict],[(.sc .bool)],1,[],[]⟩,fun x=>report_proper x⟩
theorem ct42_ok:ct42.sound Tryz.prog 42:=fn_sound cx92_ok mixed Tryz.func42 (by kernel_rfl) (an:=an42) (fun x=>(by kernel_rfl:ct42.fn x=semF cx92 Tryz.f42 an42 ct42.toSig x)) rfl
def cx42:Cx:=addC cx92 42 ct42
theorem cx42_ok:cx42.ok Tryz.prog:=addC_ok cx92_ok ct42_ok
def an43:An:=.z
def ct43:Ctr:=⟨⟨[.d (.sc .str), .d (.sc (.int .i64))],[(.sc .str)],1,[],[]⟩,fun x=>report_machine x.1 x.2⟩
theorem ct43_ok:ct43.sound Tryz.prog 43:=fn_sound cx42_ok mixed Tryz.func43 (by kernel_rfl) (an:=an43) (fun x=>(by kernel_rfl:ct43.fn x=semF cx42 Tryz.f43 an43 ct43.toSig x)) rfl
def cx43:Cx:=addC cx42 43 ct43
theorem cx43_ok:cx43.ok Tryz.prog:=addC_ok cx42_ok ct43_ok
def an51:An:=.z
def ct51:Ctr:=⟨⟨[.d T_api_Name],[(.sc .str)],1,[],[]⟩,fun x=>report_name x⟩
theorem ct51_ok:ct51.sound Tryz.prog 51:=fn_sound cx43_ok mixed Tryz.func51 (by kernel_rfl) (an:=an51) (fun x=>(by kernel_rfl:ct51.fn x=semF cx43 Tryz.f51 an51 ct51.toSig x)) rfl
def cx51:Cx:=addC cx43 51 ct51
theorem cx51_ok:cx51.ok Tryz.prog:=addC_ok cx43_ok ct51_ok
def an50:An:=.s .z (.s .z (.j ⟨[0,1],[(5, .lf (.own (.sc .str) 9 false []))],[],[]⟩ true (.s .z (.u (.l ⟨[1,8,9],[(5, .lf (.own (.sc .str) 9 false [])),(10, .lf (.sc (.int .i64)))],[],[]⟩ .z))) .z))
def ct50:Ctr:=⟨⟨[.d (.slice T_api_Name), .fn 51],[(.slice (.sc .str))],1,[],[⟨some 9,false,false⟩]⟩,fun x=>report_printed_api_Name_f50 x.1⟩
theorem ct50_ok:ct50.sound Tryz.prog 50:=fn_sound cx51_ok mixed Tryz.func50 (by kernel_rfl) (an:=an50) (fun x=>(by kernel_rfl:ct50.fn x=semF cx51 Tryz.f50 an50 ct50.toSig x)) rfl
def cx50:Cx:=addC cx51 50 ct50
theorem cx50_ok:cx50.ok Tryz.prog:=addC_ok cx51_ok ct50_ok
def an77:An:=.z
def ct77:Ctr:=⟨⟨[.d (.slice (.sc .str))],[(.sc .str)],1,[],[]⟩,fun x=>report_list x⟩
theorem ct77_ok:ct77.sound Tryz.prog 77:=fn_sound cx50_ok mixed Tryz.func77 (by kernel_rfl) (an:=an77) (fun x=>(by kernel_rfl:ct77.fn x=semF cx50 Tryz.f77 an77 ct77.toSig x)) rfl
def cx77:Cx:=addC cx50 77 ct77
theorem cx77_ok:cx77.ok Tryz.prog:=addC_ok cx50_ok ct77_ok
def an45:An:=.z
def ct45:Ctr:=⟨⟨[.d (.slice T_api_Name)],[(.sc .str)],1,[],[]⟩,fun x=>report_set x⟩
theorem ct45_ok:ct45.sound Tryz.prog 45:=fn_sound cx77_ok mixed Tryz.func45 (by kernel_rfl) (an:=an45) (fun x=>(by kernel_rfl:ct45.fn x=semF cx77 Tryz.f45 an45 ct45.toSig x)) rfl
def cx45:Cx:=addC cx77 45 ct45
theorem cx45_ok:cx45.ok Tryz.prog:=addC_ok cx77_ok ct45_ok
def an44:An:=.s .z (.s .z (.j ⟨[0,1],[(5, .lf (.own (.sc .str) 9 false []))],[],[]⟩ true (.s .z (.u (.l ⟨[1,8,9],[(5, .lf (.own (.sc .str) 9 false [])),(10, .lf (.sc (.int .i64)))],[],[]⟩ .z))) .z))
def ct44:Ctr:=⟨⟨[.d (.slice (.slice T_api_Name)), .fn 45],[(.slice (.sc .str))],1,[],[⟨some 9,false,false⟩]⟩,fun x=>report_printed_api_Name x.1⟩
theorem ct44_ok:ct44.sound Tryz.prog 44:=fn_sound cx45_ok mixed Tryz.func44 (by kernel_rfl) (an:=an44) (fun x=>(by kernel_rfl:ct44.fn x=semF cx45 Tryz.f44 an44 ct44.toSig x)) rfl
def cx44:Cx:=addC cx45 44 ct44
theorem cx44_ok:cx44.ok Tryz.prog:=addC_ok cx45_ok ct44_ok
def an97:An:=.s .z (.s .z (.s .z (.j ⟨[3],[(4, .lf (.sc (.int .i64)))],[(3,[.ar 626 (.int .u8)])],[0]⟩ true (.u (.l ⟨[3],[(0, .lf (.rep (.sc (.int .u32)) true [])),(4, .lf (.sc (.int .i64)))],[(3,[.ar 626 (.int .u8)])],[]⟩ (.s .z (.u (.s .z (.s .z (.s .z (.u (.l ⟨[0,3],[(4, .lf (.sc (.int .i64))),(5, .lf (.sc (.int .u32))),(15, .lf (.sc (.int .i64)))],[(3,[.ar 626 (.int .u8)])],[]⟩ .z))))))))) .z)))
def ct97:Ctr:=⟨⟨[.d (.slice (.sc (.int .u32)))],[(.sc .str)],1,[],[]⟩,fun x=>ratio_decimal x⟩
theorem ct97_ok:ct97.sound Tryz.prog 97:=fn_sound cx44_ok mixed Tryz.func97 (by kernel_rfl) (an:=an97) (fun x=>(by kernel_rfl:ct97.fn x=semF cx44 Tryz.f97 an97 ct97.toSig x)) rfl
def cx97:Cx:=addC cx44 97 ct97
theorem cx97_ok:cx97.ok Tryz.prog:=addC_ok cx44_ok ct97_ok
def an52:An:=.z
def ct52:Ctr:=⟨⟨[.d T_api_Ratio],[(.sc .str),(.sc (.int .i64))],2,[],[]⟩,fun x=>ratio_Print x⟩
theorem ct52_ok:ct52.sound Tryz.prog 52:=fn_sound cx97_ok mixed Tryz.func52 (by kernel_rfl) (an:=an52) (fun x=>(by kernel_rfl:ct52.fn x=semF cx97 Tryz.f52 an52 ct52.toSig x)) rfl
def cx52:Cx:=addC cx97 52 ct52
theorem cx52_ok:cx52.ok Tryz.prog:=addC_ok cx97_ok ct52_ok
def an46:An:=.z
def ct46:Ctr:=⟨⟨[.d T_api_Ratio],[(.sc .str)],1,[],[]⟩,fun x=>report_bound x⟩
theorem ct46_ok:ct46.sound Tryz.prog 46:=fn_sound cx52_ok mixed Tryz.func46 (by kernel_rfl) (an:=an46) (fun x=>(by kernel_rfl:ct46.fn x=semF cx52 Tryz.f46 an46 ct46.toSig x)) rfl
def cx46:Cx:=addC cx52 46 ct46
theorem cx46_ok:cx46.ok Tryz.prog:=addC_ok cx52_ok ct46_ok
def an36:An:=.s .z (.s .z (.j ⟨[0,1],[(5, .lf (.own (.sc .str) 9 false []))],[],[]⟩ true (.s .z (.u (.l ⟨[1,8,9],[(5, .lf (.own (.sc .str) 9 false [])),(10, .lf (.sc (.int .i64)))],[],[]⟩ .z))) .z))
def ct36:Ctr:=⟨⟨[.d (.slice (.sc (.int .i64))), .fn 37],[(.slice (.sc .str))],1,[],[⟨some 9,false,false⟩]⟩,fun x=>report_printed_int x.1⟩
theorem ct36_ok:ct36.sound Tryz.prog 36:=fn_sound cx46_ok mixed Tryz.func36 (by kernel_rfl) (an:=an36) (fun x=>(by kernel_rfl:ct36.fn x=semF cx46 Tryz.f36 an36 ct36.toSig x)) rfl
def cx36:Cx:=addC cx46 36 ct36
theorem cx36_ok:cx36.ok Tryz.prog:=addC_ok cx46_ok ct36_ok
def an47:An:=.z
def ct47:Ctr:=⟨⟨[.d (.slice (.sc (.int .i64)))],[(.sc .str)],1,[],[]⟩,fun x=>report_choices x⟩
theorem ct47_ok:ct47.sound Tryz.prog 47:=fn_sound cx36_ok mixed Tryz.func47 (by kernel_rfl) (an:=an47) (fun x=>(by kernel_rfl:ct47.fn x=semF cx36 Tryz.f47 an47 ct47.toSig x)) rfl
def cx47:Cx:=addC cx36 47 ct47
theorem cx47_ok:cx47.ok Tryz.prog:=addC_ok cx36_ok ct47_ok
def an14:An:=.s .z (.s .z (.s .z (.j ⟨[1],[(4, .lf (.own (.sc .str) 9 false []))],[],[]⟩ true .z (.j ⟨[1],[(4, .lf (.own (.sc .str) 9 false []))],[],[]⟩ true .z .z))))
def ct14:Ctr:=⟨⟨[.d T_api_Verdict],[(.slice (.sc .str)),(.sc (.int .i64))],2,[],[⟨some 9,false,false⟩]⟩,fun x=>report_Print x⟩
theorem ct14_ok:ct14.sound Tryz.prog 14:=fn_sound cx47_ok mixed Tryz.func14 (by kernel_rfl) (an:=an14) (fun x=>(by kernel_rfl:ct14.fn x=semF cx47 Tryz.f14 an14 ct14.toSig x)) rfl
def cx14:Cx:=addC cx47 14 ct14
theorem cx14_ok:cx14.ok Tryz.prog:=addC_ok cx47_ok ct14_ok
def an48:An:=.z
def ct48:Ctr:=⟨⟨[.d (.sc .str), .d (.slice (.sc .str))],[(.sc .str)],1,[],[]⟩,fun x=>report_Facts_1 x.1 x.2⟩
theorem ct48_ok:ct48.sound Tryz.prog 48:=fn_sound cx14_ok mixed Tryz.func48 (by kernel_rfl) (an:=an48) (fun x=>(by kernel_rfl:ct48.fn x=semF cx14 Tryz.f48 an48 ct48.toSig x)) rfl
def cx48:Cx:=addC cx14 48 ct48
theorem cx48_ok:cx48.ok Tryz.prog:=addC_ok cx14_ok ct48_ok
def an15:An:=.s .z (.s .z (.s .z (.s .z (.j ⟨[1,4],[(5, .lf (.own (.sc .str) 9 false []))],[],[]⟩ true (.s .z (.u (.l ⟨[1,4,28,29],[(5, .lf (.own (.sc .str) 9 false [])),(30, .lf (.sc (.int .i64)))],[],[]⟩ .z))) (.j ⟨[1,4],[(5, .lf (.own (.sc .str) 9 false []))],[],[]⟩ true .z (.j ⟨[1,4],[(5, .lf (.own (.sc .str) 9 false []))],[],[]⟩ true .z .z))))))
def ct15:Ctr:=⟨⟨[.d T_api_Verdict],[(.slice (.sc .str)),(.sc (.int .i64))],2,[],[⟨some 9,false,false⟩]⟩,fun x=>report_Facts x⟩
theorem ct15_ok:ct15.sound Tryz.prog 15:=fn_sound cx48_ok mixed Tryz.func15 (by kernel_rfl) (an:=an15) (fun x=>(by kernel_rfl:ct15.fn x=semF cx48 Tryz.f15 an15 ct15.toSig x)) rfl
def cx15:Cx:=addC cx48 15 ct15
theorem cx15_ok:cx15.ok Tryz.prog:=addC_ok cx48_ok ct15_ok
def an18:An:=.s .z (.s .z (.j ⟨[0,1],[],[],[]⟩ false (.s .z (.u (.l ⟨[0,1],[(5, .lf (.sc (.int .i64)))],[],[]⟩ .z))) .z))
def ct18:Ctr:=⟨⟨[.d (.slice (.sc .str)), .d (.slice (.sc .str))],[(.sc .bool)],1,[],[]⟩,fun x=>culpritref01_SameTexts x.1 x.2⟩
theorem ct18_ok:ct18.sound Tryz.prog 18:=fn_sound cx15_ok mixed Tryz.func18 (by kernel_rfl) (an:=an18) (fun x=>(by kernel_rfl:ct18.fn x=semF cx15 Tryz.f18 an18 ct18.toSig x)) rfl
def cx18:Cx:=addC cx15 18 ct18
theorem cx18_ok:cx18.ok Tryz.prog:=addC_ok cx15_ok ct18_ok
def an53:An:=.s .z (.j ⟨[2,0],[],[],[]⟩ false (.s .z (.u (.l ⟨[0,2,9],[(10, .lf (.sc (.int .i64)))],[],[]⟩ (.s .z (.s .z (.j ⟨[0,2,9,10],[],[],[]⟩ false (.u (.s .z (.s .z (.u (.l ⟨[0,2,4,5,9,10],[(14, .lf (.sc (.int .i64)))],[],[]⟩ .z))))) .z)))))) .z)
def ct53:Ctr:=⟨⟨[.d (.sc .str)],[T_api_Verdict,(.sc .bool)],2,[],[⟨some 77,false,false⟩,⟨some 3,false,false⟩,⟨some 78,false,false⟩,⟨some 78,false,false⟩]⟩,fun x=>report_first x⟩
theorem ct53_ok:ct53.sound Tryz.prog 53:=fn_sound cx18_ok mixed Tryz.func53 (by kernel_rfl) (an:=an53) (fun x=>(by kernel_rfl:ct53.fn x=semF cx18 Tryz.f53 an53 ct53.toSig x)) rfl
def cx53:Cx:=addC cx18 53 ct53
theorem cx53_ok:cx53.ok Tryz.prog:=addC_ok cx18_ok ct53_ok
def an54:An:=.z
def ct54:Ctr:=⟨⟨[],[(.slice (.sc .fnc))],1,[],[⟨some 99,false,false⟩]⟩,fun _=>report_readers ⟩
theorem ct54_ok:ct54.sound Tryz.prog 54:=fn_sound cx53_ok mixed Tryz.func54 (by kernel_rfl) (an:=an54) (fun x=>(by kernel_rfl:ct54.fn x=semF cx53 Tryz.f54 an54 ct54.toSig x)) rfl
def cx54:Cx:=addC cx53 54 ct54
theorem cx54_ok:cx54.ok Tryz.prog:=addC_ok cx53_ok ct54_ok
def an100:An:=.z
def ct100:Ctr:=⟨⟨[.d (.sc .str), .d (.sc .str), .d (.sc .str)],[(.sc .str),(.sc .bool)],2,[],[]⟩,fun x=>report_inner x.1 x.2.1 x.2.2⟩
theorem ct100_ok:ct100.sound Tryz.prog 100:=fn_sound cx54_ok mixed Tryz.func100 (by kernel_rfl) (an:=an100) (fun x=>(by kernel_rfl:ct100.fn x=semF cx54 Tryz.f100 an100 ct100.toSig x)) rfl
def cx100:Cx:=addC cx54 100 ct100
theorem cx100_ok:cx100.ok Tryz.prog:=addC_ok cx54_ok ct100_ok
def an147:An:=.z
def ct147:Ctr:=⟨⟨[.d (.sc .str)],[(.slice (.sc .str))],1,[],[⟨some 9,false,false⟩]⟩,fun x=>report_parts x⟩
theorem ct147_ok:ct147.sound Tryz.prog 147:=fn_sound cx100_ok mixed Tryz.func147 (by kernel_rfl) (an:=an147) (fun x=>(by kernel_rfl:ct147.fn x=semF cx100 Tryz.f147 an147 ct147.toSig x)) rfl
def cx147:Cx:=addC cx100 147 ct147
theorem cx147_ok:cx147.ok Tryz.prog:=addC_ok cx100_ok ct147_ok
def an102:An:=.z
def ct102:Ctr:=⟨⟨[.d (.sc .str)],[T_api_Name,(.sc .bool)],2,[],[]⟩,fun x=>report_edit x⟩
theorem ct102_ok:ct102.sound Tryz.prog 102:=fn_sound cx147_ok mixed Tryz.func102 (by kernel_rfl) (an:=an102) (fun x=>(by kernel_rfl:ct102.fn x=semF cx147 Tryz.f102 an102 ct102.toSig x)) rfl
def cx102:Cx:=addC cx147 102 ct102
theorem cx102_ok:cx102.ok Tryz.prog:=addC_ok cx147_ok ct102_ok
def an101:An:=.s .z (.s .z (.j ⟨[0,1],[(6, .lf (.own T_api_Name 76 false []))],[],[]⟩ false (.s .z (.u (.l ⟨[1,12,13],[(6, .lf (.own T_api_Name 76 false [])),(14, .lf (.sc (.int .i64)))],[],[]⟩ .z))) .z))
def ct101:Ctr:=⟨⟨[.d (.sc .str), .fn 102],[(.slice T_api_Name),(.sc .bool)],2,[],[⟨some 76,false,false⟩]⟩,fun x=>report_each_api_Name x.1⟩
theorem ct101_ok:ct101.sound Tryz.prog 101:=fn_sound cx102_ok mixed Tryz.func101 (by kernel_rfl) (an:=an101) (fun x=>(by kernel_rfl:ct101.fn x=semF cx102 Tryz.f101 an101 ct101.toSig x)) rfl
def cx101:Cx:=addC cx102 101 ct101
theorem cx101_ok:cx101.ok Tryz.prog:=addC_ok cx102_ok ct101_ok
def an103:An:=.z
def ct103:Ctr:=⟨⟨[.d (.slice T_api_Name), .box false (.slice T_api_Name) []],[(.sc .bool)],1,[],[]⟩,fun x=>report_readers_1_1 x.1 x.2⟩
theorem ct103_ok:ct103.sound Tryz.prog 103:=fn_sound cx101_ok mixed Tryz.func103 (by kernel_rfl) (an:=an103) (fun x=>(by kernel_rfl:ct103.fn x=semF cx101 Tryz.f103 an103 ct103.toSig x)) rfl
def cx103:Cx:=addC cx101 103 ct103
theorem cx103_ok:cx103.ok Tryz.prog:=addC_ok cx101_ok ct103_ok
def an135_1:An:=.s .z (.j ⟨[0,1],[],[],[]⟩ false (.s .z (.u (.l ⟨[0,1,7],[(8, .lf (.sc (.int .i64)))],[],[]⟩ .z))) .z)
def ct135_1:Ctr:=⟨⟨[.d (.slice (.slice T_api_Name)), .clo 103 (.slice T_api_Name)],[(.sc (.int .i64))],1,[],[]⟩,fun x=>slices_IndexFunc_api_Name_api_Name_1 x.1 x.2⟩
theorem ct135_1_ok:ct135_1.sound Tryz.prog 135:=fn_sound cx103_ok mixed Tryz.func135 (by kernel_rfl) (an:=an135_1) (fun x=>(by kernel_rfl:ct135_1.fn x=semF cx103 Tryz.f135 an135_1 ct135_1.toSig x)) rfl
def cx135_1:Cx:=addC cx103 135 ct135_1
theorem cx135_1_ok:cx135_1.ok Tryz.prog:=addC_ok cx103_ok ct135_1_ok
def an92_1:An:=.z
def ct92_1:Ctr:=⟨⟨[.d (.slice (.slice T_api_Name)), .clo 103 (.slice T_api_Name)],[(.sc .bool)],1,[],[]⟩,fun x=>slices_ContainsFunc_api_Name_api_Name_1 x.1 x.2⟩
theorem ct92_1_ok:ct92_1.sound Tryz.prog 92:=fn_sound cx135_1_ok mixed Tryz.func92 (by kernel_rfl) (an:=an92_1) (fun x=>(by kernel_rfl:ct92_1.fn x=semF cx135_1 Tryz.f92 an92_1 ct92_1.toSig x)) rfl
def cx92_1:Cx:=addC cx135_1 92 ct92_1
theorem cx92_1_ok:cx92_1.ok Tryz.prog:=addC_ok cx135_1_ok ct92_1_ok
def an99:An:=.s .z (.s .z (.s .z (.j ⟨[0,1,5],[(6, .lf (.sc .str)),(7, .lf (.sc .bool))],[],[]⟩ true .z (.j ⟨[0,1,5,6],[],[(5,[.own T_api_Name 76 false []])],[7]⟩ false .z .z))))
def ct99:Ctr:=⟨⟨[.d (.sc .str), .box true T_api_Verdict [some 77,none,none,none]],[(.sc .bool),T_api_Verdict],1,[0],[⟨some 77,true,true⟩,⟨none,true,true⟩,⟨none,true,true⟩,⟨none,true,true⟩]⟩,fun x=>report_readers_1 x.1 x.2⟩
theorem ct99_ok:ct99.sound Tryz.prog 99:=fn_sound cx92_1_ok mixed Tryz.func99 (by kernel_rfl) (an:=an99) (fun x=>(by kernel_rfl:ct99.fn x=semF cx92_1 Tryz.f99 an99 ct99.toSig x)) rfl
def cx99:Cx:=addC cx92_1 99 ct99
theorem cx99_ok:cx99.ok Tryz.prog:=addC_ok cx92_1_ok ct99_ok
def an149:An:=.s .z (.s .z (.j ⟨[0],[],[],[]⟩ false (.s .z (.u (.l ⟨[0,17],[(18, .lf (.sc (.int .i64)))],[],[]⟩ .z))) .z))
def ct149:Ctr:=⟨⟨[.d (.sc .str)],[(.sc .bool)],1,[],[]⟩,fun x=>ratio_row x⟩
theorem ct149_ok:ct149.sound Tryz.prog 149:=fn_sound cx99_ok mixed Tryz.func149 (by kernel_rfl) (an:=an149) (fun x=>(by kernel_rfl:ct149.fn x=semF cx99 Tryz.f149 an149 ct149.toSig x)) rfl
def cx149:Cx:=addC cx99 149 ct149
theorem cx149_ok:cx149.ok Tryz.prog:=addC_ok cx99_ok ct149_ok
def an193:An:=.s .z (.j ⟨[],[(0, .lf (.rep (.sc (.int .u32)) true [])),(1, .lf (.rep (.sc (.int .u32)) true []))],[],[]⟩ true .z (.s .z (.s .z (.j ⟨[0,1],[(5, .lf (.own (.sc (.int .u32)) 78 false [])),(6, .lf (.sc (.int .u32)))],[],[]⟩ true (.s .z (.u (.l ⟨[0,1,21,22],[(5, .lf (.own (.sc (.int .u32)) 78 false [])),(6, .lf (.sc (.int .u32))),(23, .lf (.sc (.int .i64)))],[],[]⟩ (.s .z (.s .z (.j ⟨[0,1,21,22,23],[(5, .lf (.own (.sc (.int .u32)) 78 false [])),(6, .lf (.sc (.int .u32)))],[],[]⟩ true (.u (.s .z (.s .z (.j ⟨[0,1,5,6,7,8,21,22,23],[(9, .lf (.sc (.int .u32)))],[],[]⟩ true .z .z)))) .z)))))) .z))))
def ct193:Ctr:=⟨⟨[.d (.slice (.sc (.int .u32))), .d (.slice (.sc (.int .u32)))],[(.slice (.sc (.int .u32)))],1,[],[⟨none,false,true⟩]⟩,fun x=>ratio_plus x.1 x.2⟩
theorem ct193_ok:ct193.sound Tryz.prog 193:=fn_sound cx149_ok mixed Tryz.func193 (by kernel_rfl) (an:=an193) (fun x=>(by kernel_rfl:ct193.fn x=semF cx149 Tryz.f193 an193 ct193.toSig x)) rfl
def cx193:Cx:=addC cx149 193 ct193
theorem cx193_ok:cx193.ok Tryz.prog:=addC_ok cx149_ok ct193_ok
def an150:An:=.s .z (.s .z (.s .z (.j ⟨[0],[(4, .lf (.rep (.sc (.int .u32)) false []))],[],[]⟩ true (.s .z (.u (.l ⟨[0,10],[(4, .lf (.rep (.sc (.int .u32)) false [])),(11, .lf (.sc (.int .i64)))],[],[]⟩ .z))) .z)))
def ct150:Ctr:=⟨⟨[.d (.sc .str)],[(.slice (.sc (.int .u32))),(.sc .bool)],2,[],[⟨none,false,true⟩]⟩,fun x=>ratio_number x⟩
theorem ct150_ok:ct150.sound Tryz.prog 150:=fn_sound cx193_ok mixed Tryz.func150 (by kernel_rfl) (an:=an150) (fun x=>(by kernel_rfl:ct150.fn x=semF cx193 Tryz.f150 an150 ct150.toSig x)) rfl
def cx150:Cx:=addC cx193 150 ct150
theorem cx150_ok:cx150.ok Tryz.prog:=addC_ok cx193_ok ct150_ok
def an105:An:=.z
def ct105:Ctr:=⟨⟨[.d (.sc .str)],[T_api_Ratio,(.sc (.int .i64))],2,[],[⟨none,false,true⟩,⟨none,false,true⟩]⟩,fun x=>ratio_Parse x⟩
theorem ct105_ok:ct105.sound Tryz.prog 105:=fn_sound cx150_ok mixed Tryz.func105 (by kernel_rfl) (an:=an105) (fun x=>(by kernel_rfl:ct105.fn x=semF cx150 Tryz.f105 an105 ct105.toSig x)) rfl
def cx105:Cx:=addC cx150 105 ct105
theorem cx105_ok:cx105.ok Tryz.prog:=addC_ok cx150_ok ct105_ok
def an104:An:=.z
def ct104:Ctr:=⟨⟨[.d (.sc .str), .box true T_api_Verdict [some 77,none,none,none]],[(.sc .bool),T_api_Verdict],1,[0],[⟨some 77,true,true⟩,⟨none,true,true⟩,⟨none,true,true⟩,⟨none,true,true⟩]⟩,fun x=>report_readers_2 x.1 x.2⟩
theorem ct104_ok:ct104.sound Tryz.prog 104:=fn_sound cx105_ok mixed Tryz.func104 (by kernel_rfl) (an:=an104) (fun x=>(by kernel_rfl:ct104.fn x=semF cx105 Tryz.f104 an104 ct104.toSig x)) rfl
def cx104:Cx:=addC cx105 104 ct104
theorem cx104_ok:cx104.ok Tryz.prog:=addC_ok cx105_ok ct104_ok
def an107:An:=.s .z (.s .z (.j ⟨[0,1],[(6, .lf (.own (.sc (.int .i64)) 3 false []))],[],[]⟩ false (.s .z (.u (.l ⟨[1,12,13],[(6, .lf (.own (.sc (.int .i64)) 3 false [])),(14, .lf (.sc (.int .i64)))],[],[]⟩ .z))) .z))
def ct107:Ctr:=⟨⟨[.d (.sc .str), .fn 108],[(.slice (.sc (.int .i64))),(.sc .bool)],2,[],[⟨some 3,false,false⟩]⟩,fun x=>report_each_int x.1⟩
theorem ct107_ok:ct107.sound Tryz.prog 107:=fn_sound cx104_ok mixed Tryz.func107 (by kernel_rfl) (an:=an107) (fun x=>(by kernel_rfl:ct107.fn x=semF cx104 Tryz.f107 an107 ct107.toSig x)) rfl
def cx107:Cx:=addC cx104 107 ct107
theorem cx107_ok:cx107.ok Tryz.prog:=addC_ok cx104_ok ct107_ok
def an106:An:=.s .z (.s .z (.j ⟨[0,1],[(5, .lf (.sc .str)),(6, .lf (.sc .bool))],[],[]⟩ true .z .z))
def ct106:Ctr:=⟨⟨[.d (.sc .str), .box true T_api_Verdict [some 77,none,none,none]],[(.sc .bool),T_api_Verdict],1,[0],[⟨some 77,true,true⟩,⟨none,true,true⟩,⟨none,true,true⟩,⟨none,true,true⟩]⟩,fun x=>report_readers_3 x.1 x.2⟩
theorem ct106_ok:ct106.sound Tryz.prog 106:=fn_sound cx107_ok mixed Tryz.func106 (by kernel_rfl) (an:=an106) (fun x=>(by kernel_rfl:ct106.fn x=semF cx107 Tryz.f106 an106 ct106.toSig x)) rfl
def cx106:Cx:=addC cx107 106 ct106
theorem cx106_ok:cx106.ok Tryz.prog:=addC_ok cx107_ok ct106_ok
def dct1:DCtr:=⟨⟨[.d (.sc .str), .box true T_api_Verdict [some 77,none,none,none]],[(.sc .bool),T_api_Verdict],1,[0],[⟨some 77,true,true⟩,⟨none,true,true⟩,⟨none,true,true⟩,⟨none,true,true⟩]⟩,fun f x=>dyn1 f x.1 x.2⟩
theorem dct1_ok:DCtr.sound Tryz.prog dct1:=by
 intro f x r h
 simp only [dct1,dyn1] at h
 cases hb:Nat.beq f 99
 rotate_left
 ·rw [hb] at h; rw [Nat.eq_of_beq_eq_true hb]; exact ct99_ok x r h
 rw [hb] at h; simp only [cond_false] at h
 cases hb:Nat.beq f 104
 rotate_left
 ·rw [hb] at h; rw [Nat.eq_of_beq_eq_true hb]; exact ct104_ok x r h
 rw [hb] at h; simp only [cond_false] at h
 cases hb:Nat.beq f 106
 rotate_left
 ·rw [hb] at h; rw [Nat.eq_of_beq_eq_true hb]; exact ct106_ok x r h
 rw [hb] at h; cases h
def an16:An:=.s .z (.u (.s .z (.s .z (.s .z (.s .z (.j ⟨[0,2,5],[],[(5,[.sc (.int .i64), .sc .str, .own (.slice T_api_Name) 77 false [], .rep (.sc (.int .i64)) false [], .sc (.int .i64), .rep (.sc (.int .u32)) false [], .rep (.sc (.int .u32)) false []])],[]⟩ false (.s .z (.u (.l ⟨[0,2,5,26,27],[(28, .lf (.sc (.int .i64)))],[(5,[.sc (.int .i64), .sc .str, .own (.slice T_api_Name) 77 false [], .rep (.sc (.int .i64)) false [], .sc (.int .i64), .rep (.sc (.int .u32)) false [], .rep (.sc (.int .u32)) false []])],[]⟩ (.s .z (.s .z (.j ⟨[0,2,5,26,27,28],[],[(5,[.sc (.int .i64), .sc .str, .own (.slice T_api_Name) 77 false [1000005], .rep (.sc (.int .i64)) false [1000005], .sc (.int .i64), .rep (.sc (.int .u32)) false [1000005], .rep (.sc (.int .u32)) false [1000005]])],[]⟩ false (.u (.s .z (.j ⟨[2,5,7,0,8,26,27,28],[],[(5,[.sc (.int .i64), .sc .str, .own (.slice T_api_Name) 77 false [1000005], .rep (.sc (.int .i64)) false [1000005], .sc (.int .i64), .rep (.sc (.int .u32)) false [1000005], .rep (.sc (.int .u32)) false [1000005]])],[]⟩ false (.s .z (.u (.l ⟨[0,2,5,7,8,26,27,28,33,34],[(35, .lf (.sc (.int .i64)))],[(5,[.sc (.int .i64), .sc .str, .own (.slice T_api_Name) 77 false [1000005], .rep (.sc (.int .i64)) false [1000005], .sc (.int .i64), .rep (.sc (.int .u32)) false [1000005], .rep (.sc (.int .u32)) false [1000005]])],[]⟩ .z))) .z))) .z)))))) .z))))))
def ct16:Ctr:=⟨⟨[.d (.slice (.sc .str))],[T_api_Verdict,(.sc (.int .i64)),(.sc (.int .i64))],3,[],[⟨some 77,false,true⟩,⟨none,false,true⟩,⟨none,false,true⟩,⟨none,false,true⟩]⟩,fun x=>report_Parse x⟩
def cx16d:Cx:=addD cx106 dct1 true
theorem cx16d_ok:cx16d.ok Tryz.prog:=addD_ok cx106_ok dct1_ok
theorem ct16_ok:ct16.sound Tryz.prog 16:=fn_sound cx16d_ok mixed Tryz.func16 (by kernel_rfl) (an:=an16) (fun x=>(by kernel_rfl:ct16.fn x=semF cx16d Tryz.f16 an16 ct16.toSig x)) rfl
def cx16:Cx:=addC cx106 16 ct16
theorem cx16_ok:cx16.ok Tryz.prog:=addC_ok cx106_ok ct16_ok
def an10:An:=.s .z (.s .z (.j ⟨[0,3],[],[(3,[.sc (.int .i64), .sc (.int .i64), .sc (.int .i64)])],[]⟩ true (.s .z (.u (.l ⟨[0,3,8,9],[(10, .lf (.sc (.int .i64)))],[(3,[.sc (.int .i64), .sc (.int .i64), .sc (.int .i64)])],[]⟩ .z))) .z))
def ct10:Ctr:=⟨⟨[.d (.slice T_api_Answer)],[(.sc .str)],1,[],[]⟩,fun x=>report_Cost x⟩
theorem ct10_ok:ct10.sound Tryz.prog 10:=fn_sound cx16_ok mixed Tryz.func10 (by kernel_rfl) (an:=an10) (fun x=>(by kernel_rfl:ct10.fn x=semF cx16 Tryz.f10 an10 ct10.toSig x)) rfl
def cx10:Cx:=addC cx16 10 ct10
theorem cx10_ok:cx10.ok Tryz.prog:=addC_ok cx16_ok ct10_ok
def an12:An:=.z
def ct12:Ctr:=⟨⟨[],[(.sc .bool)],1,[],[]⟩,fun _=>culpritlaw37_lives ⟩
theorem ct12_ok:ct12.sound Tryz.prog 12:=fn_sound cx10_ok mixed Tryz.func12 (by kernel_rfl) (an:=an12) (fun x=>(by kernel_rfl:ct12.fn x=semF cx10 Tryz.f12 an12 ct12.toSig x)) rfl
def cx12:Cx:=addC cx10 12 ct12
theorem cx12_ok:cx12.ok Tryz.prog:=addC_ok cx10_ok ct12_ok
def an21:An:=.s .z (.j ⟨[1],[(0, .lf (.sc (.int .i64)))],[],[]⟩ true .z .z)
def ct21:Ctr:=⟨⟨[.d (.sc (.int .i64)), .d (.sc (.int .i64))],[(.sc (.int .i64))],1,[],[]⟩,fun x=>culpritref01_Around x.1 x.2⟩
theorem ct21_ok:ct21.sound Tryz.prog 21:=fn_sound cx12_ok mixed Tryz.func21 (by kernel_rfl) (an:=an21) (fun x=>(by kernel_rfl:ct21.fn x=semF cx12 Tryz.f21 an21 ct21.toSig x)) rfl
def cx21:Cx:=addC cx12 21 ct21
theorem cx21_ok:cx21.ok Tryz.prog:=addC_ok cx12_ok ct21_ok
def an39:An:=.z
def ct39:Ctr:=⟨⟨[.d (.slice (.sc (.int .i64))), .d (.sc (.int .i64)), .d (.sc (.int .i64))],[(.sc (.int .i64))],1,[],[]⟩,fun x=>culpritref01_At x.1 x.2.1 x.2.2⟩
theorem ct39_ok:ct39.sound Tryz.prog 39:=fn_sound cx21_ok mixed Tryz.func39 (by kernel_rfl) (an:=an39) (fun x=>(by kernel_rfl:ct39.fn x=semF cx21 Tryz.f39 an39 ct39.toSig x)) rfl
def cx39:Cx:=addC cx21 39 ct39
theorem cx39_ok:cx39.ok Tryz.prog:=addC_ok cx21_ok ct39_ok
def an40:An:=.s .z (.s .z (.j ⟨[0,1],[],[],[]⟩ false (.s .z (.u (.l ⟨[0,1],[(5, .lf (.sc (.int .i64)))],[],[]⟩ .z))) .z))
def ct40:Ctr:=⟨⟨[.d (.slice T_api_Name), .d (.slice T_api_Name)],[(.sc .bool)],1,[],[]⟩,fun x=>culpritref22_SameNames x.1 x.2⟩
theorem ct40_ok:ct40.sound Tryz.prog 40:=fn_sound cx39_ok mixed Tryz.func40 (by kernel_rfl) (an:=an40) (fun x=>(by kernel_rfl:ct40.fn x=semF cx39 Tryz.f40 an40 ct40.toSig x)) rfl
def cx40:Cx:=addC cx39 40 ct40
theorem cx40_ok:cx40.ok Tryz.prog:=addC_ok cx39_ok ct40_ok
def an129:An:=.s .z (.s .z (.j ⟨[0],[(3, .lf (.sc (.int .i64)))],[],[]⟩ true (.u (.l ⟨[0],[(3, .lf (.sc (.int .i64)))],[],[]⟩ .z)) .z))
def ct129:Ctr:=⟨⟨[.d (.slice (.sc (.int .u32)))],[(.slice (.sc (.int .u32)))],1,[],[⟨some 78,false,false⟩]⟩,fun x=>culpritref05_Trim x⟩
theorem ct129_ok:ct129.sound Tryz.prog 129:=fn_sound cx40_ok mixed Tryz.func129 (by kernel_rfl) (an:=an129) (fun x=>(by kernel_rfl:ct129.fn x=semF cx40 Tryz.f129 an129 ct129.toSig x)) rfl
def cx129:Cx:=addC cx40 129 ct129
theorem cx129_ok:cx129.ok Tryz.prog:=addC_ok cx40_ok ct129_ok
def an87:An:=.z
def ct87:Ctr:=⟨⟨[.d (.sc (.int .i64))],[(.slice (.sc (.int .u32)))],1,[],[⟨some 78,false,false⟩]⟩,fun x=>culpritref05_Whole x⟩
theorem ct87_ok:ct87.sound Tryz.prog 87:=fn_sound cx129_ok mixed Tryz.func87 (by kernel_rfl) (an:=an87) (fun x=>(by kernel_rfl:ct87.fn x=semF cx129 Tryz.f87 an87 ct87.toSig x)) rfl
def cx87:Cx:=addC cx129 87 ct87
theorem cx87_ok:cx87.ok Tryz.prog:=addC_ok cx129_ok ct87_ok
def an198:An:=.z
def ct198:Ctr:=⟨⟨[.d (.slice (.sc (.int .u32))), .d (.sc (.int .i64))],[(.sc (.int .u64))],1,[],[]⟩,fun x=>culpritref05_limb x.1 x.2⟩
theorem ct198_ok:ct198.sound Tryz.prog 198:=fn_sound cx87_ok mixed Tryz.func198 (by kernel_rfl) (an:=an198) (fun x=>(by kernel_rfl:ct198.fn x=semF cx87 Tryz.f198 an198 ct198.toSig x)) rfl
def cx198:Cx:=addC cx87 198 ct198
theorem cx198_ok:cx198.ok Tryz.prog:=addC_ok cx87_ok ct198_ok
def an166:An:=.z
def ct166:Ctr:=⟨⟨[.d (.slice (.sc (.int .u32)))],[(.sc .bool)],1,[],[]⟩,fun x=>culpritref05_odd x⟩
theorem ct166_ok:ct166.sound Tryz.prog 166:=fn_sound cx198_ok mixed Tryz.func166 (by kernel_rfl) (an:=an166) (fun x=>(by kernel_rfl:ct166.fn x=semF cx198 Tryz.f166 an166 ct166.toSig x)) rfl
def cx166:Cx:=addC cx198 166 ct166
theorem cx166_ok:cx166.ok Tryz.prog:=addC_ok cx198_ok ct166_ok
def an167:An:=.s .z (.s .z (.j ⟨[3],[(0, .lf (.own (.sc (.int .u32)) 78 false []))],[],[]⟩ true (.s .z (.u (.l ⟨[3],[(0, .lf (.own (.sc (.int .u32)) 78 false [])),(4, .lf (.sc (.int .i64)))],[],[]⟩ .z))) (.j ⟨[0],[(3, .lf (.sc (.int .i64)))],[],[]⟩ true (.u (.l ⟨[0],[(3, .lf (.sc (.int .i64)))],[],[]⟩ .z)) .z)))
def ct167:Ctr:=⟨⟨[.own (.sc (.int .u32)) 78],[(.slice (.sc (.int .u32)))],1,[],[⟨some 78,false,false⟩]⟩,fun x=>culpritref05_half x⟩
theorem ct167_ok:ct167.sound Tryz.prog 167:=fn_sound cx166_ok mixed Tryz.func167 (by kernel_rfl) (an:=an167) (fun x=>(by kernel_rfl:ct167.fn x=semF cx166 Tryz.f167 an167 ct167.toSig x)) rfl
def cx167:Cx:=addC cx166 167 ct167
theorem cx167_ok:cx167.ok Tryz.prog:=addC_ok cx166_ok ct167_ok
def an152:An:=.s .z (.j ⟨[0,1],[],[],[]⟩ false (.s .z (.u (.l ⟨[0,1],[(5, .lf (.sc (.int .i64)))],[],[]⟩ .z))) .z)
def ct152:Ctr:=⟨⟨[.d (.slice (.sc (.int .u32))), .d (.slice (.sc (.int .u32)))],[(.sc (.int .i64))],1,[],[]⟩,fun x=>culpritref05_Compare x.1 x.2⟩
theorem ct152_ok:ct152.sound Tryz.prog 152:=fn_sound cx167_ok mixed Tryz.func152 (by kernel_rfl) (an:=an152) (fun x=>(by kernel_rfl:ct152.fn x=semF cx167 Tryz.f152 an152 ct152.toSig x)) rfl
def cx152:Cx:=addC cx167 152 ct152
theorem cx152_ok:cx152.ok Tryz.prog:=addC_ok cx167_ok ct152_ok
def an168:An:=.s .z (.s .z (.j ⟨[1],[(0, .lf (.own (.sc (.int .u32)) 78 false []))],[],[5]⟩ true (.s .z (.u (.l ⟨[1],[(0, .lf (.own (.sc (.int .u32)) 78 false [])),(5, .lf (.sc (.int .u64))),(6, .lf (.sc (.int .i64)))],[],[]⟩ .z))) (.s .z (.j ⟨[0],[(8, .lf (.sc (.int .i64)))],[],[]⟩ true (.u (.l ⟨[0],[(8, .lf (.sc (.int .i64)))],[],[]⟩ .z)) .z))))
def ct168:Ctr:=⟨⟨[.own (.sc (.int .u32)) 78, .d (.slice (.sc (.int .u32)))],[(.slice (.sc (.int .u32)))],1,[],[⟨some 78,false,false⟩]⟩,fun x=>culpritref05_take x.1 x.2⟩
theorem ct168_ok:ct168.sound Tryz.prog 168:=fn_sound cx152_ok mixed Tryz.func168 (by kernel_rfl) (an:=an168) (fun x=>(by kernel_rfl:ct168.fn x=semF cx152 Tryz.f168 an168 ct168.toSig x)) rfl
def cx168:Cx:=addC cx152 168 ct168
theorem cx168_ok:cx168.ok Tryz.prog:=addC_ok cx152_ok ct168_ok
def an169:An:=.s .z (.s .z (.s .z (.j ⟨[0,1],[(5, .lf (.own (.sc (.int .u32)) 78 false []))],[],[6]⟩ true (.s .z (.u (.l ⟨[0,1],[(5, .lf (.own (.sc (.int .u32)) 78 false [])),(6, .lf (.sc (.int .u64))),(7, .lf (.sc (.int .i64)))],[],[]⟩ .z))) .z)))
def ct169:Ctr:=⟨⟨[.d (.slice (.sc (.int .u32))), .d (.slice (.sc (.int .u32)))],[(.slice (.sc (.int .u32)))],1,[],[⟨some 78,false,false⟩]⟩,fun x=>culpritref05_Plus x.1 x.2⟩
theorem ct169_ok:ct169.sound Tryz.prog 169:=fn_sound cx168_ok mixed Tryz.func169 (by kernel_rfl) (an:=an169) (fun x=>(by kernel_rfl:ct169.fn x=semF cx168 Tryz.f169 an169 ct169.toSig x)) rfl
def cx169:Cx:=addC cx168 169 ct169
theorem cx169_ok:cx169.ok Tryz.prog:=addC_ok cx168_ok ct169_ok
def an126:An:=.s .z (.s .z (.s .z (.s .z (.j ⟨[],[(5, .lf (.sc (.int .i64))),(6, .lf (.own (.sc (.int .u32)) 78 false [])),(7, .lf (.own (.sc (.int .u32)) 78 false []))],[],[]⟩ true (.u (.l ⟨[],[(5, .lf (.sc (.int .i64))),(6, .lf (.own (.sc (.int .u32)) 78 false [])),(7, .lf (.own (.sc (.int .u32)) 78 false []))],[],[]⟩ .z)) (.j ⟨[5],[(6, .lf (.own (.sc (.int .u32)) 78 false []))],[],[7]⟩ true (.u (.l ⟨[5],[(6, .lf (.own (.sc (.int .u32)) 78 false [])),(7, .lf (.own (.sc (.int .u32)) 78 false []))],[],[]⟩ (.s .z (.u (.j ⟨[5,7],[(6, .lf (.own (.sc (.int .u32)) 78 false []))],[],[]⟩ true (.u (.l ⟨[5,7],[(6, .lf (.own (.sc (.int .u32)) 78 false []))],[],[]⟩ .z)) (.j ⟨[5,6],[(7, .lf (.own (.sc (.int .u32)) 78 false []))],[],[]⟩ true (.u (.l ⟨[5,6],[(7, .lf (.own (.sc (.int .u32)) 78 false []))],[],[]⟩ .z)) (.j ⟨[5],[(6, .lf (.own (.sc (.int .u32)) 78 false [])),(7, .lf (.own (.sc (.int .u32)) 78 false []))],[],[]⟩ true .z .z))))))) (.j ⟨[5],[(6, .lf (.own (.sc (.int .u32)) 78 false []))],[],[]⟩ true (.s .z (.u (.l ⟨[5],[(6, .lf (.own (.sc (.int .u32)) 78 false [])),(9, .lf (.sc (.int .i64)))],[],[]⟩ .z))) .z))))))
def ct126:Ctr:=⟨⟨[.d (.slice (.sc (.int .u32))), .d (.slice (.sc (.int .u32)))],[(.slice (.sc (.int .u32)))],1,[],[⟨some 78,false,false⟩]⟩,fun x=>culpritref05_Common x.1 x.2⟩
theorem ct126_ok:ct126.sound Tryz.prog 126:=fn_sound cx169_ok mixed Tryz.func126 (by kernel_rfl) (an:=an126) (fun x=>(by kernel_rfl:ct126.fn x=semF cx169 Tryz.f126 an126 ct126.toSig x)) rfl
def cx126:Cx:=addC cx169 126 ct126
theorem cx126_ok:cx126.ok Tryz.prog:=addC_ok cx169_ok ct126_ok
def an127:An:=.z
def ct127:Ctr:=⟨⟨[.d (.slice (.sc (.int .u32)))],[(.sc .bool)],1,[],[]⟩,fun x=>culpritref05_one x⟩
theorem ct127_ok:ct127.sound Tryz.prog 127:=fn_sound cx126_ok mixed Tryz.func127 (by kernel_rfl) (an:=an127) (fun x=>(by kernel_rfl:ct127.fn x=semF cx126 Tryz.f127 an127 ct127.toSig x)) rfl
def cx127:Cx:=addC cx126 127 ct127
theorem cx127_ok:cx127.ok Tryz.prog:=addC_ok cx126_ok ct127_ok
def an170:An:=.s .z (.s .z (.s .z (.j ⟨[0,1],[(5, .lf (.own (.sc (.int .u32)) 78 false []))],[],[6]⟩ true (.s .z (.u (.l ⟨[0,1],[(5, .lf (.own (.sc (.int .u32)) 78 false [])),(6, .lf (.sc (.int .u64))),(7, .lf (.sc (.int .i64)))],[],[]⟩ .z))) .z)))
def ct170:Ctr:=⟨⟨[.d (.slice (.sc (.int .u32))), .d (.slice (.sc (.int .u32)))],[(.slice (.sc (.int .u32)))],1,[],[⟨some 78,false,false⟩]⟩,fun x=>culpritref05_Minus x.1 x.2⟩
theorem ct170_ok:ct170.sound Tryz.prog 170:=fn_sound cx127_ok mixed Tryz.func170 (by kernel_rfl) (an:=an170) (fun x=>(by kernel_rfl:ct170.fn x=semF cx127 Tryz.f170 an170 ct170.toSig x)) rfl
def cx170:Cx:=addC cx127 170 ct170
theorem cx170_ok:cx170.ok Tryz.prog:=addC_ok cx127_ok ct170_ok
def an128:An:=.s .z (.s .z (.s .z (.j ⟨[0,1],[(6, .lf (.own (.sc (.int .u32)) 78 false [])),(7, .lf (.own (.sc (.int .u32)) 78 false []))],[],[]⟩ true (.s .z (.u (.l ⟨[0,1],[(6, .lf (.own (.sc (.int .u32)) 78 false [])),(7, .lf (.own (.sc (.int .u32)) 78 false [])),(8, .lf (.sc (.int .i64)))],[],[]⟩ (.s .z (.j ⟨[0,1,8],[(6, .lf (.own (.sc (.int .u32)) 78 false [])),(7, .lf (.own (.sc (.int .u32)) 78 false []))],[],[]⟩ true .z .z))))) .z)))
def ct128:Ctr:=⟨⟨[.d (.slice (.sc (.int .u32))), .d (.slice (.sc (.int .u32)))],[(.slice (.sc (.int .u32))),(.slice (.sc (.int .u32)))],2,[],[⟨some 78,false,false⟩,⟨some 78,false,false⟩]⟩,fun x=>culpritref05_Quotient x.1 x.2⟩
theorem ct128_ok:ct128.sound Tryz.prog 128:=fn_sound cx170_ok mixed Tryz.func128 (by kernel_rfl) (an:=an128) (fun x=>(by kernel_rfl:ct128.fn x=semF cx170 Tryz.f128 an128 ct128.toSig x)) rfl
def cx128:Cx:=addC cx170 128 ct128
theorem cx128_ok:cx128.ok Tryz.prog:=addC_ok cx170_ok ct128_ok
def an86:An:=.s .z (.s .z (.s .z (.j ⟨[4],[(0, .lf (.rep (.sc (.int .u32)) true [])),(1, .lf (.rep (.sc (.int .u32)) true []))],[],[6]⟩ true .z (.j ⟨[0,4],[(1, .lf (.rep (.sc (.int .u32)) true [0]))],[],[]⟩ true .z .z))))
def ct86:Ctr:=⟨⟨[.d (.slice (.sc (.int .u32))), .d (.slice (.sc (.int .u32)))],[T_api_Ratio,(.sc (.int .i64))],2,[],[⟨none,true,true⟩,⟨none,true,true⟩]⟩,fun x=>culpritref05_Reduced x.1 x.2⟩
theorem ct86_ok:ct86.sound Tryz.prog 86:=fn_sound cx128_ok mixed Tryz.func86 (by kernel_rfl) (an:=an86) (fun x=>(by kernel_rfl:ct86.fn x=semF cx128 Tryz.f86 an86 ct86.toSig x)) rfl
def cx86:Cx:=addC cx128 86 ct86
theorem cx86_ok:cx86.ok Tryz.prog:=addC_ok cx128_ok ct86_ok
def an41:An:=.z
def ct41:Ctr:=⟨⟨[.d (.sc (.int .i64)), .d (.sc (.int .i64))],[T_api_Ratio,(.sc (.int .i64))],2,[],[⟨none,false,true⟩,⟨none,false,true⟩]⟩,fun x=>culpritref05_Of x.1 x.2⟩
theorem ct41_ok:ct41.sound Tryz.prog 41:=fn_sound cx86_ok mixed Tryz.func41 (by kernel_rfl) (an:=an41) (fun x=>(by kernel_rfl:ct41.fn x=semF cx86 Tryz.f41 an41 ct41.toSig x)) rfl
def cx41:Cx:=addC cx86 41 ct41
theorem cx41_ok:cx41.ok Tryz.prog:=addC_ok cx86_ok ct41_ok
end
end Go.Proofs.YtknnphhepnbaoaaGreatDoor
