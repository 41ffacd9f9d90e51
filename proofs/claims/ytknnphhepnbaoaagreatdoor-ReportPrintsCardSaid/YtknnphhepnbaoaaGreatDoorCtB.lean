/-
  The functions of the program compute what their Lean functions say. No condition.
-/
import Derived.Test.YtknnphhepnbaoaaGreatDoorCtA
namespace Go.Proofs.YtknnphhepnbaoaaGreatDoor
open Go.Sm
set_option maxRecDepth 100000
set_option linter.unusedSectionVars false
section
variable [Itr] [Vars]
def an13 : An := .s .z (.s .z (.j ⟨[0, 2, 3], [], [(3, [.sc (.int .i64), .sc .str, .own (.slice T_api_Name) 77 false [], .own (.sc (.int .i64)) 3 false [], .sc (.int .i64), .own (.sc (.int .u32)) 78 false [], .own (.sc (.int .u32)) 78 false []])], []⟩ true .z (.j ⟨[0, 2, 3], [], [(3, [.sc (.int .i64), .sc .str, .own (.slice T_api_Name) 77 false [1000003], .own (.sc (.int .i64)) 3 false [], .sc (.int .i64), .own (.sc (.int .u32)) 78 false [], .own (.sc (.int .u32)) 78 false []])], []⟩ true (.s .z (.s (.s .z (.u (.l ⟨[0, 2, 3], [(4, .lf (.sc (.int .i64)))], [(3, [.sc (.int .i64), .sc .str, .own (.slice T_api_Name) 77 false [1000003], .own (.sc (.int .i64)) 3 false [], .sc (.int .i64), .own (.sc (.int .u32)) 78 false [], .own (.sc (.int .u32)) 78 false []])], []⟩ (.s .z (.j ⟨[0, 2, 3, 4], [], [(3, [.sc (.int .i64), .sc .str, .own (.slice T_api_Name) 77 false [1000003], .own (.sc (.int .i64)) 3 false [], .sc (.int .i64), .own (.sc (.int .u32)) 78 false [], .own (.sc (.int .u32)) 78 false []])], []⟩ true (.u (.s .z (.j ⟨[0, 2, 3, 4], [(5, .lf (.own T_api_Name 76 false []))], [], []⟩ true (.s .z (.u (.l ⟨[0, 2, 3, 4], [(5, .lf (.own T_api_Name 76 false [])), (6, .lf (.sc (.int .i64)))], [], []⟩ .z))) (.s .z (.j ⟨[0, 2, 3, 4, 5], [(7, .lf (.sc .bool))], [], []⟩ true (.s .z (.u (.l ⟨[0, 2, 3, 4, 5], [(7, .lf (.sc .bool)), (8, .lf (.sc (.int .i64)))], [], []⟩ .z))) .z))))) .z))))) .z)) (.j ⟨[0, 2, 3], [], [(3, [.sc (.int .i64), .sc .str, .own (.slice T_api_Name) 77 false [1000003], .own (.sc (.int .i64)) 3 false [], .sc (.int .i64), .rep (.sc (.int .u32)) false [1000003], .rep (.sc (.int .u32)) false [1000003]])], []⟩ true .z (.j ⟨[2, 3, 0], [], [(3, [.sc (.int .i64), .sc .str, .own (.slice T_api_Name) 77 false [1000003], .own (.sc (.int .i64)) 3 false [], .sc (.int .i64), .rep (.sc (.int .u32)) false [1000003], .rep (.sc (.int .u32)) false [1000003]])], []⟩ true (.s .z (.s (.j ⟨[2, 3, 0], [], [(3, [.sc (.int .i64), .sc .str, .own (.slice T_api_Name) 77 false [1000003], .own (.sc (.int .i64)) 3 false [], .sc (.int .i64), .rep (.sc (.int .u32)) false [1000003], .rep (.sc (.int .u32)) false [1000003]])], []⟩ true (.s .z (.u (.l ⟨[0, 2, 3], [(10, .lf (.sc (.int .i64)))], [(3, [.sc (.int .i64), .sc .str, .own (.slice T_api_Name) 77 false [1000003], .own (.sc (.int .i64)) 3 false [], .sc (.int .i64), .rep (.sc (.int .u32)) false [1000003], .rep (.sc (.int .u32)) false [1000003]])], []⟩ .z))) .z) .z)) .z)))))
def ct13 : Ctr := ⟨⟨[.d (.slice (.sc (.int .i64)))], [T_api_Verdict], 1, [], [⟨some 77, false, true⟩, ⟨some 3, false, false⟩, ⟨none, false, true⟩, ⟨none, false, true⟩]⟩, fun x => culpritref37_Made x⟩
theorem ct13_ok : ct13.sound Tryz.prog 13 := fn_sound cx41_ok mixed Tryz.func13 (by kernel_rfl) (an := an13) (fun x => (by kernel_rfl : ct13.fn x = semF cx41 Tryz.f13 an13 ct13.toSig x)) rfl
def cx13 : Cx := addC cx41 13 ct13
theorem cx13_ok : cx13.ok Tryz.prog := addC_ok cx41_ok ct13_ok
def an24 : An := .s .z (.s .z (.s .z (.s .z (.s .z (.j ⟨[3, 6, 1, 7], [], [(3, [.sc (.int .i64), .sc .str, .own (.slice T_api_Name) 77 true [], .own (.sc (.int .i64)) 3 false [], .sc (.int .i64), .rep (.sc (.int .u32)) true [], .rep (.sc (.int .u32)) true []])], [8]⟩ true .z .z)))))
def ct24 : Ctr := ⟨⟨[.d T_api_Verdict, .d (.sc (.int .i64)), .d (.sc (.int .i64))], [T_api_Verdict], 1, [], [⟨some 77, true, true⟩, ⟨some 3, false, false⟩, ⟨none, true, true⟩, ⟨none, true, true⟩]⟩, fun x => culpritref37_Spoilt x.1 x.2.1 x.2.2⟩
theorem ct24_ok : ct24.sound Tryz.prog 24 := fn_sound cx13_ok mixed Tryz.func24 (by kernel_rfl) (an := an24) (fun x => (by kernel_rfl : ct24.fn x = semF cx13 Tryz.f24 an24 ct24.toSig x)) rfl
def cx24 : Cx := addC cx13 24 ct24
theorem cx24_ok : cx24.ok Tryz.prog := addC_ok cx13_ok ct24_ok
def an70 : An := .z
def ct70 : Ctr := ⟨⟨[.d (.sc (.int .i64)), .d (.sc (.int .i64))], [T_api_Ratio], 1, [], [⟨none, false, true⟩, ⟨none, false, true⟩]⟩, fun x => culpritref05_Part x.1 x.2⟩
theorem ct70_ok : ct70.sound Tryz.prog 70 := fn_sound cx24_ok mixed Tryz.func70 (by kernel_rfl) (an := an70) (fun x => (by kernel_rfl : ct70.fn x = semF cx24 Tryz.f70 an70 ct70.toSig x)) rfl
def cx70 : Cx := addC cx24 70 ct70
theorem cx70_ok : cx70.ok Tryz.prog := addC_ok cx24_ok ct70_ok
def an25 : An := .s .z (.s .z (.j ⟨[0, 2, 3], [], [(3, [.sc (.int .i64), .sc .str, .own (.slice T_api_Name) 77 false [], .own (.sc (.int .i64)) 3 false [], .sc (.int .i64), .own (.sc (.int .u32)) 78 false [], .own (.sc (.int .u32)) 78 false []])], []⟩ true (.s .z (.u (.l ⟨[0, 2, 3], [(4, .lf (.sc (.int .i64)))], [(3, [.sc (.int .i64), .sc .str, .own (.slice T_api_Name) 77 false [], .own (.sc (.int .i64)) 3 false [], .sc (.int .i64), .own (.sc (.int .u32)) 78 false [], .own (.sc (.int .u32)) 78 false []])], []⟩ (.s .z (.j ⟨[0, 2, 3, 4], [], [(3, [.sc (.int .i64), .sc .str, .own (.slice T_api_Name) 77 false [1000003], .own (.sc (.int .i64)) 3 false [], .sc (.int .i64), .own (.sc (.int .u32)) 78 false [], .own (.sc (.int .u32)) 78 false []])], []⟩ true (.u (.s .z (.j ⟨[0, 2, 3, 4], [(5, .lf (.own T_api_Name 76 false []))], [], []⟩ true (.s .z (.u (.l ⟨[0, 2, 3, 4], [(5, .lf (.own T_api_Name 76 false [])), (6, .lf (.sc (.int .i64)))], [], []⟩ .z))) .z))) .z))))) (.j ⟨[0, 2, 3], [], [(3, [.sc (.int .i64), .sc .str, .own (.slice T_api_Name) 77 false [1000003], .own (.sc (.int .i64)) 3 false [], .sc (.int .i64), .own (.sc (.int .u32)) 78 false [], .own (.sc (.int .u32)) 78 false []])], []⟩ true (.s .z (.u (.l ⟨[0, 2, 3], [(7, .lf (.sc (.int .i64)))], [(3, [.sc (.int .i64), .sc .str, .own (.slice T_api_Name) 77 false [1000003], .own (.sc (.int .i64)) 3 false [], .sc (.int .i64), .own (.sc (.int .u32)) 78 false [], .own (.sc (.int .u32)) 78 false []])], []⟩ .z))) .z)))
def ct25 : Ctr := ⟨⟨[.d (.slice (.sc (.int .i64)))], [T_api_Verdict], 1, [], [⟨some 77, false, true⟩, ⟨some 3, false, false⟩, ⟨none, false, true⟩, ⟨none, false, true⟩]⟩, fun x => culpritref36_Verdict x⟩
theorem ct25_ok : ct25.sound Tryz.prog 25 := fn_sound cx70_ok mixed Tryz.func25 (by kernel_rfl) (an := an25) (fun x => (by kernel_rfl : ct25.fn x = semF cx70 Tryz.f25 an25 ct25.toSig x)) rfl
def cx25 : Cx := addC cx70 25 ct25
theorem cx25_ok : cx25.ok Tryz.prog := addC_ok cx70_ok ct25_ok
def an110 : An := .s .z (.s .z (.j ⟨[0], [], [], []⟩ false (.s .z (.u (.l ⟨[0], [(3, .lf (.sc (.int .i64)))], [], []⟩ .z))) .z))
def ct110 : Ctr := ⟨⟨[.d (.sc .str)], [(.sc .bool)], 1, [], []⟩, fun x => culpritref20_Named x⟩
theorem ct110_ok : ct110.sound Tryz.prog 110 := fn_sound cx25_ok mixed Tryz.func110 (by kernel_rfl) (an := an110) (fun x => (by kernel_rfl : ct110.fn x = semF cx25 Tryz.f110 an110 ct110.toSig x)) rfl
def cx110 : Cx := addC cx25 110 ct110
theorem cx110_ok : cx110.ok Tryz.prog := addC_ok cx25_ok ct110_ok
def an111 : An := .z
def ct111 : Ctr := ⟨⟨[.d T_api_Ratio], [(.sc (.int .i64))], 1, [], []⟩, fun x => culpritref05_Valid x⟩
theorem ct111_ok : ct111.sound Tryz.prog 111 := fn_sound cx110_ok mixed Tryz.func111 (by kernel_rfl) (an := an111) (fun x => (by kernel_rfl : ct111.fn x = semF cx110 Tryz.f111 an111 ct111.toSig x)) rfl
def cx111 : Cx := addC cx110 111 ct111
theorem cx111_ok : cx111.ok Tryz.prog := addC_ok cx110_ok ct111_ok
def an112 : An := .s .z (.j ⟨[0], [], [], []⟩ false (.s .z (.u (.l ⟨[0], [(3, .lf (.sc (.int .i64)))], [], []⟩ .z))) .z)
def ct112 : Ctr := ⟨⟨[.d (.slice (.sc (.int .i64)))], [(.sc .bool)], 1, [], []⟩, fun x => culpritref37_word x⟩
theorem ct112_ok : ct112.sound Tryz.prog 112 := fn_sound cx111_ok mixed Tryz.func112 (by kernel_rfl) (an := an112) (fun x => (by kernel_rfl : ct112.fn x = semF cx111 Tryz.f112 an112 ct112.toSig x)) rfl
def cx112 : Cx := addC cx111 112 ct112
theorem cx112_ok : cx112.ok Tryz.prog := addC_ok cx111_ok ct112_ok
def an114 : An := .z
def ct114 : Ctr := ⟨⟨[], [T_api_Ratio], 1, [], [⟨some 78, false, false⟩, ⟨some 78, false, false⟩]⟩, fun _ => culpritref17_One ⟩
theorem ct114_ok : ct114.sound Tryz.prog 114 := fn_sound cx112_ok mixed Tryz.func114 (by kernel_rfl) (an := an114) (fun x => (by kernel_rfl : ct114.fn x = semF cx112 Tryz.f114 an114 ct114.toSig x)) rfl
def cx114 : Cx := addC cx112 114 ct114
theorem cx114_ok : cx114.ok Tryz.prog := addC_ok cx112_ok ct114_ok
def an154 : An := .z
def ct154 : Ctr := ⟨⟨[.d T_api_Ratio], [(.slice (.sc (.int .u32)))], 1, [], [⟨none, true, true⟩]⟩, fun x => culpritref05_Den x⟩
theorem ct154_ok : ct154.sound Tryz.prog 154 := fn_sound cx114_ok mixed Tryz.func154 (by kernel_rfl) (an := an154) (fun x => (by kernel_rfl : ct154.fn x = semF cx114 Tryz.f154 an154 ct154.toSig x)) rfl
def cx154 : Cx := addC cx114 154 ct154
theorem cx154_ok : cx154.ok Tryz.prog := addC_ok cx114_ok ct154_ok
def an153 : An := .s .z (.s .z (.j ⟨[0, 1], [(5, .lf (.own (.sc (.int .u32)) 78 false []))], [], []⟩ true (.s .z (.u (.l ⟨[0, 1], [(5, .lf (.own (.sc (.int .u32)) 78 false [])), (6, .lf (.sc (.int .i64)))], [], []⟩ (.s .z (.j ⟨[0, 1, 6], [(5, .lf (.own (.sc (.int .u32)) 78 false []))], [], []⟩ true (.u (.s .z (.s .z (.u (.l ⟨[0, 1, 6], [(5, .lf (.own (.sc (.int .u32)) 78 false [])), (7, .lf (.sc (.int .u64))), (8, .lf (.sc (.int .i64)))], [], []⟩ .z))))) .z))))) .z))
def ct153 : Ctr := ⟨⟨[.d (.slice (.sc (.int .u32))), .d (.slice (.sc (.int .u32)))], [(.slice (.sc (.int .u32)))], 1, [], [⟨some 78, false, false⟩]⟩, fun x => culpritref05_Times x.1 x.2⟩
theorem ct153_ok : ct153.sound Tryz.prog 153 := fn_sound cx154_ok mixed Tryz.func153 (by kernel_rfl) (an := an153) (fun x => (by kernel_rfl : ct153.fn x = semF cx154 Tryz.f153 an153 ct153.toSig x)) rfl
def cx153 : Cx := addC cx154 153 ct153
theorem cx153_ok : cx153.ok Tryz.prog := addC_ok cx154_ok ct153_ok
def an113 : An := .z
def ct113 : Ctr := ⟨⟨[.d T_api_Ratio, .d T_api_Ratio], [(.sc (.int .i64))], 1, [], []⟩, fun x => culpritref05_Order x.1 x.2⟩
theorem ct113_ok : ct113.sound Tryz.prog 113 := fn_sound cx153_ok mixed Tryz.func113 (by kernel_rfl) (an := an113) (fun x => (by kernel_rfl : ct113.fn x = semF cx153 Tryz.f113 an113 ct113.toSig x)) rfl
def cx113 : Cx := addC cx153 113 ct113
theorem cx113_ok : cx113.ok Tryz.prog := addC_ok cx153_ok ct113_ok
def an155 : An := .z
def ct155 : Ctr := ⟨⟨[.d T_api_Name], [(.sc .bool)], 1, [], []⟩, fun x => culpritref22_IsName x⟩
theorem ct155_ok : ct155.sound Tryz.prog 155 := fn_sound cx113_ok mixed Tryz.func155 (by kernel_rfl) (an := an155) (fun x => (by kernel_rfl : ct155.fn x = semF cx113 Tryz.f155 an155 ct155.toSig x)) rfl
def cx155 : Cx := addC cx113 155 ct155
theorem cx155_ok : cx155.ok Tryz.prog := addC_ok cx113_ok ct155_ok
def an156 : An := .z
def ct156 : Ctr := ⟨⟨[.d T_api_Name, .d T_api_Name], [(.sc .bool)], 1, [], []⟩, fun x => culpritref22_Less x.1 x.2⟩
theorem ct156_ok : ct156.sound Tryz.prog 156 := fn_sound cx155_ok mixed Tryz.func156 (by kernel_rfl) (an := an156) (fun x => (by kernel_rfl : ct156.fn x = semF cx155 Tryz.f156 an156 ct156.toSig x)) rfl
def cx156 : Cx := addC cx155 156 ct156
theorem cx156_ok : cx156.ok Tryz.prog := addC_ok cx155_ok ct156_ok
def an115 : An := .s .z (.j ⟨[0], [], [], []⟩ false (.s .z (.u (.l ⟨[0], [(3, .lf (.sc (.int .i64)))], [], []⟩ .z))) .z)
def ct115 : Ctr := ⟨⟨[.d (.slice T_api_Name)], [(.sc .bool)], 1, [], []⟩, fun x => culpritref37_rising x⟩
theorem ct115_ok : ct115.sound Tryz.prog 115 := fn_sound cx156_ok mixed Tryz.func115 (by kernel_rfl) (an := an115) (fun x => (by kernel_rfl : ct115.fn x = semF cx156 Tryz.f115 an115 ct115.toSig x)) rfl
def cx115 : Cx := addC cx156 115 ct115
theorem cx115_ok : cx115.ok Tryz.prog := addC_ok cx156_ok ct115_ok
def an57 : An := .s .z (.s .z (.s .z (.j ⟨[1], [], [], []⟩ false (.s .z (.u (.l ⟨[1], [(3, .lf (.sc (.int .i64)))], [], []⟩ (.s .z (.j ⟨[1, 3], [], [], []⟩ false (.u (.s .z (.s .z (.u (.l ⟨[1, 3], [(4, .lf (.sc (.int .i64)))], [], []⟩ .z))))) .z))))) .z)))
def ct57 : Ctr := ⟨⟨[.d T_api_Verdict], [(.sc .bool)], 1, [], []⟩, fun x => culpritref37_Proper x⟩
theorem ct57_ok : ct57.sound Tryz.prog 57 := fn_sound cx115_ok mixed Tryz.func57 (by kernel_rfl) (an := an57) (fun x => (by kernel_rfl : ct57.fn x = semF cx115 Tryz.f57 an57 ct57.toSig x)) rfl
def cx57 : Cx := addC cx115 57 ct57
theorem cx57_ok : cx57.ok Tryz.prog := addC_ok cx115_ok ct57_ok
def an71 : An := .z
def ctk71 (k_ : Nat) : Ctr := ⟨⟨[.d (.sc (.int .i64))], [(.sc .str)], 1, [], []⟩, fun x => culpritref20_Decimal_rec k_ x⟩
def ct71 : Ctr := ⟨⟨[.d (.sc (.int .i64))], [(.sc .str)], 1, [], []⟩, fun x => culpritref20_Decimal x⟩
theorem ctk71_ok : ∀ k, (ctk71 k).sound Tryz.prog 71
 | 0 => fun x r h => by
  have h1 : none = some r := h
  cases h1
 | k + 1 => fn_sound (addC_ok cx57_ok (ctk71_ok k)) mixed Tryz.func71 (by kernel_rfl) (an := an71) (fun x => (by kernel_rfl : (ctk71 (k + 1)).fn x = semF (addC cx57 71 (ctk71 k)) Tryz.f71 an71 (ctk71 (k + 1)).toSig x)) rfl
theorem ct71_ok : ct71.sound Tryz.prog 71 := ctk71_ok 64
def cx71 : Cx := addC cx57 71 ct71
theorem cx71_ok : cx71.ok Tryz.prog := addC_ok cx57_ok ct71_ok
def an58 : An := .z
def ct58 : Ctr := ⟨⟨[.d (.sc (.int .i64)), .d (.sc (.int .i64))], [(.sc .str)], 1, [], []⟩, fun x => culpritref37_ends x.1 x.2⟩
theorem ct58_ok : ct58.sound Tryz.prog 58 := fn_sound cx71_ok mixed Tryz.func58 (by kernel_rfl) (an := an58) (fun x => (by kernel_rfl : ct58.fn x = semF cx71 Tryz.f58 an58 ct58.toSig x)) rfl
def cx58 : Cx := addC cx71 58 ct58
theorem cx58_ok : cx58.ok Tryz.prog := addC_ok cx71_ok ct58_ok
def an78 : An := .z
def ct78 : Ctr := ⟨⟨[.d T_api_Name], [(.sc .str)], 1, [], []⟩, fun x => culpritref37_Name x⟩
theorem ct78_ok : ct78.sound Tryz.prog 78 := fn_sound cx58_ok mixed Tryz.func78 (by kernel_rfl) (an := an78) (fun x => (by kernel_rfl : ct78.fn x = semF cx58 Tryz.f78 an78 ct78.toSig x)) rfl
def cx78 : Cx := addC cx58 78 ct78
theorem cx78_ok : cx78.ok Tryz.prog := addC_ok cx58_ok ct78_ok
def an73 : An := .s .z (.s .z (.j ⟨[0], [(3, .lf (.own (.sc .str) 9 false []))], [], []⟩ true (.s .z (.u (.l ⟨[0], [(3, .lf (.own (.sc .str) 9 false [])), (4, .lf (.sc (.int .i64)))], [], []⟩ .z))) .z))
def ct73 : Ctr := ⟨⟨[.d (.slice T_api_Name)], [(.slice (.sc .str))], 1, [], [⟨some 9, false, false⟩]⟩, fun x => culpritref37_names x⟩
theorem ct73_ok : ct73.sound Tryz.prog 73 := fn_sound cx78_ok mixed Tryz.func73 (by kernel_rfl) (an := an73) (fun x => (by kernel_rfl : ct73.fn x = semF cx78 Tryz.f73 an73 ct73.toSig x)) rfl
def cx73 : Cx := addC cx78 73 ct73
theorem cx73_ok : cx73.ok Tryz.prog := addC_ok cx78_ok ct73_ok
def an79 : An := .s .z (.s .z (.j ⟨[0], [(3, .lf (.sc .str))], [], []⟩ true (.s .z (.u (.l ⟨[0], [(3, .lf (.sc .str)), (4, .lf (.sc (.int .i64)))], [], []⟩ (.s .z (.j ⟨[0, 4], [(3, .lf (.sc .str))], [], []⟩ true (.u (.j ⟨[0, 4], [(3, .lf (.sc .str))], [], []⟩ true .z (.j ⟨[0, 4], [(3, .lf (.sc .str))], [], []⟩ true .z .z))) .z))))) .z))
def ct79 : Ctr := ⟨⟨[.d (.slice (.sc .str))], [(.sc .str)], 1, [], []⟩, fun x => culpritref37_List x⟩
theorem ct79_ok : ct79.sound Tryz.prog 79 := fn_sound cx73_ok mixed Tryz.func79 (by kernel_rfl) (an := an79) (fun x => (by kernel_rfl : ct79.fn x = semF cx73 Tryz.f79 an79 ct79.toSig x)) rfl
def cx79 : Cx := addC cx73 79 ct79
theorem cx79_ok : cx79.ok Tryz.prog := addC_ok cx73_ok ct79_ok
def an59 : An := .z
def ct59 : Ctr := ⟨⟨[.d (.slice T_api_Name)], [(.sc .str)], 1, [], []⟩, fun x => culpritref37_set x⟩
theorem ct59_ok : ct59.sound Tryz.prog 59 := fn_sound cx79_ok mixed Tryz.func59 (by kernel_rfl) (an := an59) (fun x => (by kernel_rfl : ct59.fn x = semF cx79 Tryz.f59 an59 ct59.toSig x)) rfl
def cx59 : Cx := addC cx79 59 ct59
theorem cx59_ok : cx59.ok Tryz.prog := addC_ok cx79_ok ct59_ok
def an159 : An := .s .z (.s .z (.s .z (.j ⟨[0], [(4, .lf (.own (.sc (.int .u32)) 78 false [])), (5, .lf (.sc (.int .u64)))], [], []⟩ true (.s .z (.u (.l ⟨[0], [(4, .lf (.own (.sc (.int .u32)) 78 false [])), (5, .lf (.sc (.int .u64))), (6, .lf (.sc (.int .i64)))], [], []⟩ .z))) .z)))
def ct159 : Ctr := ⟨⟨[.d (.slice (.sc (.int .u32)))], [(.slice (.sc (.int .u32))), (.sc (.int .i64))], 2, [], [⟨some 78, false, false⟩]⟩, fun x => culpritref05_tenth x⟩
theorem ct159_ok : ct159.sound Tryz.prog 159 := fn_sound cx59_ok mixed Tryz.func159 (by kernel_rfl) (an := an159) (fun x => (by kernel_rfl : ct159.fn x = semF cx59 Tryz.f159 an159 ct159.toSig x)) rfl
def cx159 : Cx := addC cx59 159 ct159
theorem cx159_ok : cx159.ok Tryz.prog := addC_ok cx59_ok ct159_ok
def an122 : An := .s .z (.s .z (.s .z (.s .z (.j ⟨[], [(3, .lf (.sc .str))], [], [4]⟩ true (.u (.l ⟨[], [(3, .lf (.sc .str)), (4, .lf (.own (.sc (.int .u32)) 78 false []))], [], []⟩ .z)) .z))))
def ct122 : Ctr := ⟨⟨[.d (.slice (.sc (.int .u32)))], [(.sc .str)], 1, [], []⟩, fun x => culpritref05_Decimal x⟩
theorem ct122_ok : ct122.sound Tryz.prog 122 := fn_sound cx159_ok mixed Tryz.func122 (by kernel_rfl) (an := an122) (fun x => (by kernel_rfl : ct122.fn x = semF cx159 Tryz.f122 an122 ct122.toSig x)) rfl
def cx122 : Cx := addC cx159 122 ct122
theorem cx122_ok : cx122.ok Tryz.prog := addC_ok cx159_ok ct122_ok
def an74 : An := .z
def ct74 : Ctr := ⟨⟨[.d T_api_Ratio], [(.sc .str), (.sc (.int .i64))], 2, [], []⟩, fun x => culpritref05_Print x⟩
theorem ct74_ok : ct74.sound Tryz.prog 74 := fn_sound cx122_ok mixed Tryz.func74 (by kernel_rfl) (an := an74) (fun x => (by kernel_rfl : ct74.fn x = semF cx122 Tryz.f74 an74 ct74.toSig x)) rfl
def cx74 : Cx := addC cx122 74 ct74
theorem cx74_ok : cx74.ok Tryz.prog := addC_ok cx122_ok ct74_ok
def an60 : An := .z
def ct60 : Ctr := ⟨⟨[.d T_api_Ratio], [(.sc .str)], 1, [], []⟩, fun x => culpritref37_measure x⟩
theorem ct60_ok : ct60.sound Tryz.prog 60 := fn_sound cx74_ok mixed Tryz.func60 (by kernel_rfl) (an := an60) (fun x => (by kernel_rfl : ct60.fn x = semF cx74 Tryz.f60 an60 ct60.toSig x)) rfl
def cx60 : Cx := addC cx74 60 ct60
theorem cx60_ok : cx60.ok Tryz.prog := addC_ok cx74_ok ct60_ok
def an75 : An := .s .z (.s .z (.j ⟨[0], [(3, .lf (.own (.sc .str) 9 false []))], [], []⟩ true (.s .z (.u (.l ⟨[0], [(3, .lf (.own (.sc .str) 9 false [])), (4, .lf (.sc (.int .i64)))], [], []⟩ .z))) .z))
def ct75 : Ctr := ⟨⟨[.d (.slice (.sc (.int .i64)))], [(.slice (.sc .str))], 1, [], [⟨some 9, false, false⟩]⟩, fun x => culpritref37_numbers x⟩
theorem ct75_ok : ct75.sound Tryz.prog 75 := fn_sound cx60_ok mixed Tryz.func75 (by kernel_rfl) (an := an75) (fun x => (by kernel_rfl : ct75.fn x = semF cx60 Tryz.f75 an75 ct75.toSig x)) rfl
def cx75 : Cx := addC cx60 75 ct75
theorem cx75_ok : cx75.ok Tryz.prog := addC_ok cx60_ok ct75_ok
def an61 : An := .z
def ct61 : Ctr := ⟨⟨[.d (.slice (.sc (.int .i64)))], [(.sc .str)], 1, [], []⟩, fun x => culpritref37_choices x⟩
theorem ct61_ok : ct61.sound Tryz.prog 61 := fn_sound cx75_ok mixed Tryz.func61 (by kernel_rfl) (an := an61) (fun x => (by kernel_rfl : ct61.fn x = semF cx75 Tryz.f61 an61 ct61.toSig x)) rfl
def cx61 : Cx := addC cx75 61 ct61
theorem cx61_ok : cx61.ok Tryz.prog := addC_ok cx75_ok ct61_ok
def an20 : An := .s .z (.s .z (.s .z (.j ⟨[1], [(4, .lf (.own (.sc .str) 9 false []))], [], []⟩ true (.s .z (.u (.l ⟨[1], [(4, .lf (.own (.sc .str) 9 false [])), (5, .lf (.sc (.int .i64)))], [], []⟩ .z))) (.j ⟨[1], [(4, .lf (.own (.sc .str) 9 false []))], [], []⟩ true .z (.j ⟨[1], [(4, .lf (.own (.sc .str) 9 false []))], [], []⟩ true .z .z)))))
def ct20 : Ctr := ⟨⟨[.d T_api_Verdict], [(.slice (.sc .str)), (.sc (.int .i64))], 2, [], [⟨some 9, false, false⟩]⟩, fun x => culpritref37_Print x⟩
theorem ct20_ok : ct20.sound Tryz.prog 20 := fn_sound cx61_ok mixed Tryz.func20 (by kernel_rfl) (an := an20) (fun x => (by kernel_rfl : ct20.fn x = semF cx61 Tryz.f20 an20 ct20.toSig x)) rfl
def cx20 : Cx := addC cx61 20 ct20
theorem cx20_ok : cx20.ok Tryz.prog := addC_ok cx61_ok ct20_ok
def an72 : An := .s .z (.s .z (.j ⟨[0], [(3, .lf (.sc .str))], [], []⟩ true (.s .z (.u (.l ⟨[0], [(3, .lf (.sc .str)), (4, .lf (.sc (.int .i64)))], [], []⟩ .z))) .z))
def ct72 : Ctr := ⟨⟨[.d (.slice (.sc .str))], [(.sc .str)], 1, [], []⟩, fun x => culpritref37_spaced x⟩
theorem ct72_ok : ct72.sound Tryz.prog 72 := fn_sound cx20_ok mixed Tryz.func72 (by kernel_rfl) (an := an72) (fun x => (by kernel_rfl : ct72.fn x = semF cx20 Tryz.f72 an72 ct72.toSig x)) rfl
def cx72 : Cx := addC cx20 72 ct72
theorem cx72_ok : cx72.ok Tryz.prog := addC_ok cx20_ok ct72_ok
def an26 : An := .s .z (.s .z (.s .z (.j ⟨[1], [(4, .lf (.sc .str))], [], []⟩ true .z (.s .z (.j ⟨[1], [(5, .lf (.own (.sc .str) 9 false []))], [], []⟩ true (.s .z (.u (.l ⟨[1], [(5, .lf (.own (.sc .str) 9 false [])), (6, .lf (.sc (.int .i64)))], [], []⟩ .z))) (.j ⟨[1], [(5, .lf (.own (.sc .str) 9 false []))], [], []⟩ true .z (.j ⟨[1], [(5, .lf (.own (.sc .str) 9 false []))], [], []⟩ true .z .z)))))))
def ct26 : Ctr := ⟨⟨[.d T_api_Verdict], [(.slice (.sc .str)), (.sc (.int .i64))], 2, [], [⟨some 9, false, false⟩]⟩, fun x => culpritref37_Facts x⟩
theorem ct26_ok : ct26.sound Tryz.prog 26 := fn_sound cx72_ok mixed Tryz.func26 (by kernel_rfl) (an := an26) (fun x => (by kernel_rfl : ct26.fn x = semF cx72 Tryz.f26 an26 ct26.toSig x)) rfl
def cx26 : Cx := addC cx72 26 ct26
theorem cx26_ok : cx26.ok Tryz.prog := addC_ok cx72_ok ct26_ok
def an76 : An := .z
def ct76 : Ctr := ⟨⟨[.d (.slice T_api_Name)], [(.sc .str)], 1, [], []⟩, fun x => report_Change_1 x⟩
theorem ct76_ok : ct76.sound Tryz.prog 76 := fn_sound cx26_ok mixed Tryz.func76 (by kernel_rfl) (an := an76) (fun x => (by kernel_rfl : ct76.fn x = semF cx26 Tryz.f76 an76 ct76.toSig x)) rfl
def cx76 : Cx := addC cx26 76 ct76
theorem cx76_ok : cx76.ok Tryz.prog := addC_ok cx26_ok ct76_ok
def an44_1 : An := .s .z (.s .z (.j ⟨[0, 1], [(5, .lf (.own (.sc .str) 9 false []))], [], []⟩ true (.s .z (.u (.l ⟨[1, 8, 9], [(5, .lf (.own (.sc .str) 9 false [])), (10, .lf (.sc (.int .i64)))], [], []⟩ .z))) .z))
def ct44_1 : Ctr := ⟨⟨[.d (.slice (.slice T_api_Name)), .fn 76], [(.slice (.sc .str))], 1, [], [⟨some 9, false, false⟩]⟩, fun x => report_printed_api_Name_1 x.1⟩
theorem ct44_1_ok : ct44_1.sound Tryz.prog 44 := fn_sound cx76_ok mixed Tryz.func44 (by kernel_rfl) (an := an44_1) (fun x => (by kernel_rfl : ct44_1.fn x = semF cx76 Tryz.f44 an44_1 ct44_1.toSig x)) rfl
def cx44_1 : Cx := addC cx76 44 ct44_1
theorem cx44_1_ok : cx44_1.ok Tryz.prog := addC_ok cx76_ok ct44_1_ok
def an27 : An := .z
def ct27 : Ctr := ⟨⟨[.d T_api_Verdict], [(.slice (.sc .str)), (.sc (.int .i64))], 2, [], [⟨some 9, false, false⟩]⟩, fun x => report_Change x⟩
theorem ct27_ok : ct27.sound Tryz.prog 27 := fn_sound cx44_1_ok mixed Tryz.func27 (by kernel_rfl) (an := an27) (fun x => (by kernel_rfl : ct27.fn x = semF cx44_1 Tryz.f27 an27 ct27.toSig x)) rfl
def cx27 : Cx := addC cx44_1 27 ct27
theorem cx27_ok : cx27.ok Tryz.prog := addC_ok cx44_1_ok ct27_ok
def an28 : An := .s .z (.s .z (.s .z (.s .z (.j ⟨[1], [(6, .lf (.own (.sc .str) 9 false []))], [], []⟩ true (.s .z (.u (.l ⟨[1], [(6, .lf (.own (.sc .str) 9 false [])), (7, .lf (.sc (.int .i64)))], [], []⟩ (.s .z (.j ⟨[1, 7], [(6, .lf (.own (.sc .str) 9 false []))], [], []⟩ true (.u (.s .z (.s .z (.j ⟨[1, 6, 7, 8], [(9, .lf (.sc .str))], [], []⟩ true .z (.j ⟨[1, 6, 7, 8], [(9, .lf (.sc .str))], [], []⟩ true .z .z))))) .z))))) .z))))
def ct28 : Ctr := ⟨⟨[.d T_api_Verdict], [(.slice (.sc .str)), (.sc (.int .i64))], 2, [], [⟨some 9, false, false⟩]⟩, fun x => culpritref37_Change x⟩
theorem ct28_ok : ct28.sound Tryz.prog 28 := fn_sound cx27_ok mixed Tryz.func28 (by kernel_rfl) (an := an28) (fun x => (by kernel_rfl : ct28.fn x = semF cx27 Tryz.f28 an28 ct28.toSig x)) rfl
def cx28 : Cx := addC cx27 28 ct28
theorem cx28_ok : cx28.ok Tryz.prog := addC_ok cx27_ok ct28_ok
def an7 : An := .s .z (.s .z (.s .z (.s .z (.j ⟨[7, 9, 10], [(11, .lf (.own T_api_Verdict 44 true [1000009, 1000010]))], [], [36, 38]⟩ true .z (.j ⟨[], [], [], [11]⟩ false (.s .z (.u (.l ⟨[11], [(12, .lf (.sc (.int .i64)))], [], []⟩ .z))) .z)))))
def ct7 : Ctr := ⟨⟨[.d (.slice (.sc (.int .i64))), .d (.sc (.int .i64)), .d (.sc (.int .i64)), .d T_api_Verdict], [(.sc .bool)], 1, [], []⟩, fun x => culpritlaw37_ReportPrints x.1 x.2.1 x.2.2.1 x.2.2.2⟩
theorem ct7_ok : ct7.sound Tryz.prog 7 := fn_sound cx28_ok mixed Tryz.func7 (by kernel_rfl) (an := an7) (fun x => (by kernel_rfl : ct7.fn x = semF cx28 Tryz.f7 an7 ct7.toSig x)) rfl
end
end Go.Proofs.YtknnphhepnbaoaaGreatDoor
