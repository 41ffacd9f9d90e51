/-
  The functions of the program compute what their Lean functions say. No condition.
-/
import Derived.Test.YtknnphhepnbaoaaGreatDoorCtA
namespace Go.Proofs.YtknnphhepnbaoaaGreatDoor
open Go.Sm
set_option maxRecDepth 100000
set_option linter.unusedSectionVars false
section
variable [Itr] [Vars]

-- culpritref05_Reduced
def an86 : An := .s .z (.s .z (.s .z (.j ⟨[4], [(0, .lf (.rep (.sc (.int .u32)) true [])), (1, .lf (.rep (.sc (.int .u32)) true []))], [], [6]⟩ true .z (.j ⟨[0, 4], [(1, .lf (.rep (.sc (.int .u32)) true [0]))], [], []⟩ true .z .z))))
def ct86 : Ctr := ⟨⟨[.d (.slice (.sc (.int .u32))), .d (.slice (.sc (.int .u32)))], [T_api_Ratio, (.sc (.int .i64))], 2, [], [⟨none, true, true⟩, ⟨none, true, true⟩]⟩, fun x => culpritref05_Reduced x.1 x.2⟩
theorem ct86_ok : ct86.sound Tryz.prog 86 := fn_sound cx128_ok mixed Tryz.func86 (by kernel_rfl) (an := an86) (fun x => (by kernel_rfl : ct86.fn x = semF cx128 Tryz.f86 an86 ct86.toSig x)) rfl
def cx86 : Cx := addC cx128 86 ct86
theorem cx86_ok : cx86.ok Tryz.prog := addC_ok cx128_ok ct86_ok

-- culpritref05_Of
def an41 : An := .z
def ct41 : Ctr := ⟨⟨[.d (.sc (.int .i64)), .d (.sc (.int .i64))], [T_api_Ratio, (.sc (.int .i64))], 2, [], [⟨none, false, true⟩, ⟨none, false, true⟩]⟩, fun x => culpritref05_Of x.1 x.2⟩
theorem ct41_ok : ct41.sound Tryz.prog 41 := fn_sound cx86_ok mixed Tryz.func41 (by kernel_rfl) (an := an41) (fun x => (by kernel_rfl : ct41.fn x = semF cx86 Tryz.f41 an41 ct41.toSig x)) rfl
def cx41 : Cx := addC cx86 41 ct41
theorem cx41_ok : cx41.ok Tryz.prog := addC_ok cx86_ok ct41_ok

-- culpritref37_Made
def an13 : An := .s .z (.s .z (.j ⟨[0, 2, 3], [], [(3, [.sc (.int .i64), .sc .str, .own (.slice T_api_Name) 77 false [], .own (.sc (.int .i64)) 3 false [], .sc (.int .i64), .own (.sc (.int .u32)) 78 false [], .own (.sc (.int .u32)) 78 false []])], []⟩ true .z (.j ⟨[0, 2, 3], [], [(3, [.sc (.int .i64), .sc .str, .own (.slice T_api_Name) 77 false [1000003], .own (.sc (.int .i64)) 3 false [], .sc (.int .i64), .own (.sc (.int .u32)) 78 false [], .own (.sc (.int .u32)) 78 false []])], []⟩ true (.s .z (.s (.s .z (.u (.l ⟨[0, 2, 3], [(4, .lf (.sc (.int .i64)))], [(3, [.sc (.int .i64), .sc .str, .own (.slice T_api_Name) 77 false [1000003], .own (.sc (.int .i64)) 3 false [], .sc (.int .i64), .own (.sc (.int .u32)) 78 false [], .own (.sc (.int .u32)) 78 false []])], []⟩ (.s .z (.j ⟨[0, 2, 3, 4], [], [(3, [.sc (.int .i64), .sc .str, .own (.slice T_api_Name) 77 false [1000003], .own (.sc (.int .i64)) 3 false [], .sc (.int .i64), .own (.sc (.int .u32)) 78 false [], .own (.sc (.int .u32)) 78 false []])], []⟩ true (.u (.s .z (.j ⟨[0, 2, 3, 4], [(5, .lf (.own T_api_Name 76 false []))], [], []⟩ true (.s .z (.u (.l ⟨[0, 2, 3, 4], [(5, .lf (.own T_api_Name 76 false [])), (6, .lf (.sc (.int .i64)))], [], []⟩ .z))) (.s .z (.j ⟨[0, 2, 3, 4, 5], [(7, .lf (.sc .bool))], [], []⟩ true (.s .z (.u (.l ⟨[0, 2, 3, 4, 5], [(7, .lf (.sc .bool)), (8, .lf (.sc (.int .i64)))], [], []⟩ .z))) .z))))) .z))))) .z)) (.j ⟨[0, 2, 3], [], [(3, [.sc (.int .i64), .sc .str, .own (.slice T_api_Name) 77 false [1000003], .own (.sc (.int .i64)) 3 false [], .sc (.int .i64), .rep (.sc (.int .u32)) false [1000003], .rep (.sc (.int .u32)) false [1000003]])], []⟩ true .z (.j ⟨[2, 3, 0], [], [(3, [.sc (.int .i64), .sc .str, .own (.slice T_api_Name) 77 false [1000003], .own (.sc (.int .i64)) 3 false [], .sc (.int .i64), .rep (.sc (.int .u32)) false [1000003], .rep (.sc (.int .u32)) false [1000003]])], []⟩ true (.s .z (.s (.j ⟨[2, 3, 0], [], [(3, [.sc (.int .i64), .sc .str, .own (.slice T_api_Name) 77 false [1000003], .own (.sc (.int .i64)) 3 false [], .sc (.int .i64), .rep (.sc (.int .u32)) false [1000003], .rep (.sc (.int .u32)) false [1000003]])], []⟩ true (.s .z (.u (.l ⟨[0, 2, 3], [(10, .lf (.sc (.int .i64)))], [(3, [.sc (.int .i64), .sc .str, .own (.slice T_api_Name) 77 false [1000003], .own (.sc (.int .i64)) 3 false [], .sc (.int .i64), .rep (.sc (.int .u32)) false [1000003], .rep (.sc (.int .u32)) false [1000003]])], []⟩ .z))) .z) .z)) .z)))))
def ct13 : Ctr := ⟨⟨[.d (.slice (.sc (.int .i64)))], [T_api_Verdict], 1, [], [⟨some 77, false, true⟩, ⟨some 3, false, false⟩, ⟨none, false, true⟩, ⟨none, false, true⟩]⟩, fun x => culpritref37_Made x⟩
theorem ct13_ok : ct13.sound Tryz.prog 13 := fn_sound cx41_ok mixed Tryz.func13 (by kernel_rfl) (an := an13) (fun x => (by kernel_rfl : ct13.fn x = semF cx41 Tryz.f13 an13 ct13.toSig x)) rfl
def cx13 : Cx := addC cx41 13 ct13
theorem cx13_ok : cx13.ok Tryz.prog := addC_ok cx41_ok ct13_ok

-- culpritref01_SameInts
def an55 : An := .s .z (.s .z (.j ⟨[0, 1], [], [], []⟩ false (.s .z (.u (.l ⟨[0, 1], [(5, .lf (.sc (.int .i64)))], [], []⟩ .z))) .z))
def ct55 : Ctr := ⟨⟨[.d (.slice (.sc (.int .i64))), .d (.slice (.sc (.int .i64)))], [(.sc .bool)], 1, [], []⟩, fun x => culpritref01_SameInts x.1 x.2⟩
theorem ct55_ok : ct55.sound Tryz.prog 55 := fn_sound cx13_ok mixed Tryz.func55 (by kernel_rfl) (an := an55) (fun x => (by kernel_rfl : ct55.fn x = semF cx13 Tryz.f55 an55 ct55.toSig x)) rfl
def cx55 : Cx := addC cx13 55 ct55
theorem cx55_ok : cx55.ok Tryz.prog := addC_ok cx13_ok ct55_ok

-- culpritref05_SameLimbs
def an109 : An := .s .z (.s .z (.j ⟨[0, 1], [], [], []⟩ false (.s .z (.u (.l ⟨[0, 1], [(5, .lf (.sc (.int .i64)))], [], []⟩ .z))) .z))
def ct109 : Ctr := ⟨⟨[.d (.slice (.sc (.int .u32))), .d (.slice (.sc (.int .u32)))], [(.sc .bool)], 1, [], []⟩, fun x => culpritref05_SameLimbs x.1 x.2⟩
theorem ct109_ok : ct109.sound Tryz.prog 109 := fn_sound cx55_ok mixed Tryz.func109 (by kernel_rfl) (an := an109) (fun x => (by kernel_rfl : ct109.fn x = semF cx55 Tryz.f109 an109 ct109.toSig x)) rfl
def cx109 : Cx := addC cx55 109 ct109
theorem cx109_ok : cx109.ok Tryz.prog := addC_ok cx55_ok ct109_ok

-- culpritref05_Same
def an56 : An := .z
def ct56 : Ctr := ⟨⟨[.d T_api_Ratio, .d T_api_Ratio], [(.sc .bool)], 1, [], []⟩, fun x => culpritref05_Same x.1 x.2⟩
theorem ct56_ok : ct56.sound Tryz.prog 56 := fn_sound cx109_ok mixed Tryz.func56 (by kernel_rfl) (an := an56) (fun x => (by kernel_rfl : ct56.fn x = semF cx109 Tryz.f56 an56 ct56.toSig x)) rfl
def cx56 : Cx := addC cx109 56 ct56
theorem cx56_ok : cx56.ok Tryz.prog := addC_ok cx109_ok ct56_ok

-- culpritref36_Same
def an17 : An := .s .z (.s .z (.j ⟨[2, 3], [], [], []⟩ false (.s .z (.u (.l ⟨[2, 3], [(5, .lf (.sc (.int .i64)))], [], []⟩ .z))) .z))
def ct17 : Ctr := ⟨⟨[.d T_api_Verdict, .d T_api_Verdict], [(.sc .bool)], 1, [], []⟩, fun x => culpritref36_Same x.1 x.2⟩
theorem ct17_ok : ct17.sound Tryz.prog 17 := fn_sound cx56_ok mixed Tryz.func17 (by kernel_rfl) (an := an17) (fun x => (by kernel_rfl : ct17.fn x = semF cx56 Tryz.f17 an17 ct17.toSig x)) rfl
def cx17 : Cx := addC cx56 17 ct17
theorem cx17_ok : cx17.ok Tryz.prog := addC_ok cx56_ok ct17_ok

-- culpritref37_Changed
def an19 : An := .s .z (.s .z (.s .z (.s .z (.s .z (.j ⟨[2, 3, 10, 11], [(9, .lf (.own (.sc .str) 9 false []))], [], []⟩ true (.s .z (.u (.s .z (.s .z (.s .z (.s .z (.s .z (.s .z (.s .z (.s .z (.s .z (.s (.s .z (.j ⟨[9, 10, 3], [(12, .lf (.own (.sc (.int .u8)) 1048581 false []))], [], []⟩ true .z .z)) .z)))))))))))) .z)))))
def ct19 : Ctr := ⟨⟨[.d (.slice (.sc .str)), .d (.sc (.int .i64)), .d (.sc (.int .i64)), .d (.sc (.int .i64))], [(.slice (.sc .str))], 1, [], [⟨some 9, false, false⟩]⟩, fun x => culpritref37_Changed x.1 x.2.1 x.2.2.1 x.2.2.2⟩
theorem ct19_ok : ct19.sound Tryz.prog 19 := fn_sound cx17_ok mixed Tryz.func19 (by kernel_rfl) (an := an19) (fun x => (by kernel_rfl : ct19.fn x = semF cx17 Tryz.f19 an19 ct19.toSig x)) rfl
def cx19 : Cx := addC cx17 19 ct19
theorem cx19_ok : cx19.ok Tryz.prog := addC_ok cx17_ok ct19_ok

-- culpritlaw37_ReportBack
def an4 : An := .z
def ct4 : Ctr := ⟨⟨[.d (.slice (.sc (.int .i64))), .d (.slice (.sc (.int .i64))), .d (.sc (.int .i64)), .d (.sc (.int .i64)), .d (.sc (.int .i64))], [(.sc .bool)], 1, [], []⟩, fun x => culpritlaw37_ReportBack x.1 x.2.1 x.2.2.1 x.2.2.2.1 x.2.2.2.2⟩
theorem ct4_ok : ct4.sound Tryz.prog 4 := fn_sound cx19_ok mixed Tryz.func4 (by kernel_rfl) (an := an4) (fun x => (by kernel_rfl : ct4.fn x = semF cx19 Tryz.f4 an4 ct4.toSig x)) rfl
def cx4 : Cx := addC cx19 4 ct4
theorem cx4_ok : cx4.ok Tryz.prog := addC_ok cx19_ok ct4_ok

end
end Go.Proofs.YtknnphhepnbaoaaGreatDoor
