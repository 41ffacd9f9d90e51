/-
  The functions of the program compute what their Lean functions say. No condition.
-/
import Derived.Test.YtknnphhepnbaoaaGreatDoorCtA
namespace Go.Proofs.YtknnphhepnbaoaaGreatDoor
open Go.Sm
set_option maxRecDepth 100000
set_option linter.unusedSectionVars false
section
variable [Itr] [Vars]
def an13 : An := .s .z (.s .z (.j ⟨[0, 2, 3], [], [(3, [.sc (.int .i64), .sc .str, .own (.slice T_api_Name) 77 false [], .own (.sc (.int .i64)) 3 false [], .sc (.int .i64), .own (.sc (.int .u32)) 78 false [], .own (.sc (.int .u32)) 78 false []])], []⟩ true .z (.j ⟨[0, 2, 3], [], [(3, [.sc (.int .i64), .sc .str, .own (.slice T_api_Name) 77 false [1000003], .own (.sc (.int .i64)) 3 false [], .sc (.int .i64), .own (.sc (.int .u32)) 78 false [], .own (.sc (.int .u32)) 78 false []])], []⟩ true (.s .z (.s (.s .z (.u (.l ⟨[0, 2, 3], [(4, .lf (.sc (.int .i64)))], [(3, [.sc (.int .i64), .sc .str, .own (.slice T_api_Name) 77 false [1000003], .own (.sc (.int .i64)) 3 false [], .sc (.int .i64), .own (.sc (.int .u32)) 78 false [], .own (.sc (.int .u32)) 78 false []])], []⟩ (.s .z (.j ⟨[0, 2, 3, 4], [], [(3, [.sc (.int .i64), .sc .str, .own (.slice T_api_Name) 77 false [1000003], .own (.sc (.int .i64)) 3 false [], .sc (.int .i64), .own (.sc (.int .u32)) 78 false [], .own (.sc (.int .u32)) 78 false []])], []⟩ true (.u (.s .z (.j ⟨[0, 2, 3, 4], [(5, .lf (.own T_api_Name 76 false []))], [], []⟩ true (.s .z (.u (.l ⟨[0, 2, 3, 4], [(5, .lf (.own T_api_Name 76 false [])), (6, .lf (.sc (.int .i64)))], [], []⟩ .z))) (.s .z (.j ⟨[0, 2, 3, 4, 5], [(7, .lf (.sc .bool))], [], []⟩ true (.s .z (.u (.l ⟨[0, 2, 3, 4, 5], [(7, .lf (.sc .bool)), (8, .lf (.sc (.int .i64)))], [], []⟩ .z))) .z))))) .z))))) .z)) (.j ⟨[0, 2, 3], [], [(3, [.sc (.int .i64), .sc .str, .own (.slice T_api_Name) 77 false [1000003], .own (.sc (.int .i64)) 3 false [], .sc (.int .i64), .rep (.sc (.int .u32)) false [1000003], .rep (.sc (.int .u32)) false [1000003]])], []⟩ true .z (.j ⟨[2, 3, 0], [], [(3, [.sc (.int .i64), .sc .str, .own (.slice T_api_Name) 77 false [1000003], .own (.sc (.int .i64)) 3 false [], .sc (.int .i64), .rep (.sc (.int .u32)) false [1000003], .rep (.sc (.int .u32)) false [1000003]])], []⟩ true (.s .z (.s (.j ⟨[2, 3, 0], [], [(3, [.sc (.int .i64), .sc .str, .own (.slice T_api_Name) 77 false [1000003], .own (.sc (.int .i64)) 3 false [], .sc (.int .i64), .rep (.sc (.int .u32)) false [1000003], .rep (.sc (.int .u32)) false [1000003]])], []⟩ true (.s .z (.u (.l ⟨[0, 2, 3], [(10, .lf (.sc (.int .i64)))], [(3, [.sc (.int .i64), .sc .str, .own (.slice T_api_Name) 77 false [1000003], .own (.sc (.int .i64)) 3 false [], .sc (.int .i64), .rep (.sc (.int .u32)) false [1000003], .rep (.sc (.int .u32)) false [1000003]])], []⟩ .z))) .z) .z)) .z)))))
def ct13 : Ctr := ⟨⟨[.d (.slice (.sc (.int .i64)))], [T_api_Verdict], 1, [], [⟨some 77, false, true⟩, ⟨some 3, false, false⟩, ⟨none, false, true⟩, ⟨none, false, true⟩]⟩, fun x => culpritref37_Made x⟩
theorem ct13_ok : ct13.sound Tryz.prog 13 := fn_sound cx41_ok mixed Tryz.func13 (by kernel_rfl) (an := an13) (fun x => (by kernel_rfl : ct13.fn x = semF cx41 Tryz.f13 an13 ct13.toSig x)) rfl
def cx13 : Cx := addC cx41 13 ct13
theorem cx13_ok : cx13.ok Tryz.prog := addC_ok cx41_ok ct13_ok
def an29 : An := .s .z (.s .z (.j ⟨[0, 1], [(5, .lf (.own T_api_Verdict 44 false []))], [], []⟩ true (.s .z (.u (.l ⟨[0, 1], [(5, .lf (.own T_api_Verdict 44 false [])), (6, .lf (.sc (.int .i64)))], [], []⟩ .z))) .z))
def ct29 : Ctr := ⟨⟨[.d (.slice (.sc (.int .i64))), .d (.sc (.int .i64))], [(.slice T_api_Verdict)], 1, [], [⟨some 44, false, true⟩]⟩, fun x => culpritlaw37_verdicts x.1 x.2⟩
theorem ct29_ok : ct29.sound Tryz.prog 29 := fn_sound cx13_ok mixed Tryz.func29 (by kernel_rfl) (an := an29) (fun x => (by kernel_rfl : ct29.fn x = semF cx13 Tryz.f29 an29 ct29.toSig x)) rfl
def cx29 : Cx := addC cx13 29 ct29
theorem cx29_ok : cx29.ok Tryz.prog := addC_ok cx13_ok ct29_ok
def ct30 : Ctr := CPage report_Print
theorem ct30_ok : ct30.sound Tryz.prog 30 := page_ok ct14_ok
def cx30 : Cx := addC cx29 30 ct30
theorem cx30_ok : cx30.ok Tryz.prog := addC_ok cx29_ok ct30_ok
def an33 : An := .s .z (.s .z (.s .z (.s .z (.s .z (.s .z (.j ⟨[7, 8], [(5, .lf (.own (.slice (.sc .str)) 46 false [])), (6, .lf (.own (.sc .str) 9 false []))], [], []⟩ true (.s .z (.u (.l ⟨[7, 8, 28, 29], [(5, .lf (.own (.slice (.sc .str)) 46 false [])), (6, .lf (.own (.sc .str) 9 false [])), (30, .lf (.sc (.int .i64)))], [], []⟩ (.s .z (.s .z (.j ⟨[7, 8, 28, 29, 30], [(5, .lf (.own (.slice (.sc .str)) 46 false [])), (6, .lf (.own (.sc .str) 9 false []))], [], []⟩ true .z .z)))))) (.s .z (.j ⟨[11], [(5, .lf (.own (.slice (.sc .str)) 46 false []))], [], [6]⟩ true .z (.s .z (.s .z (.j ⟨[5, 11], [(12, .lf (.own T_api_Verdict 44 false []))], [], []⟩ false (.s .z (.u (.l ⟨[5, 11, 64, 65], [(12, .lf (.own T_api_Verdict 44 false [])), (66, .lf (.sc (.int .i64)))], [], []⟩ .z))) .z)))))))))))
def ct33 : Ctr := ⟨⟨[.d (.sc .str)], [(.slice T_api_Verdict), (.sc (.int .i64)), (.sc (.int .i64))], 3, [], [⟨some 44, false, true⟩]⟩, fun x => report_Read x⟩
theorem ct33_ok : ct33.sound Tryz.prog 33 := fn_sound cx30_ok mixed Tryz.func33 (by kernel_rfl) (an := an33) (fun x => (by kernel_rfl : ct33.fn x = semF cx30 Tryz.f33 an33 ct33.toSig x)) rfl
def cx33 : Cx := addC cx30 33 ct33
theorem cx33_ok : cx33.ok Tryz.prog := addC_ok cx30_ok ct33_ok
def an55 : An := .s .z (.s .z (.j ⟨[0, 1], [], [], []⟩ false (.s .z (.u (.l ⟨[0, 1], [(5, .lf (.sc (.int .i64)))], [], []⟩ .z))) .z))
def ct55 : Ctr := ⟨⟨[.d (.slice (.sc (.int .i64))), .d (.slice (.sc (.int .i64)))], [(.sc .bool)], 1, [], []⟩, fun x => culpritref01_SameInts x.1 x.2⟩
theorem ct55_ok : ct55.sound Tryz.prog 55 := fn_sound cx33_ok mixed Tryz.func55 (by kernel_rfl) (an := an55) (fun x => (by kernel_rfl : ct55.fn x = semF cx33 Tryz.f55 an55 ct55.toSig x)) rfl
def cx55 : Cx := addC cx33 55 ct55
theorem cx55_ok : cx55.ok Tryz.prog := addC_ok cx33_ok ct55_ok
def an109 : An := .s .z (.s .z (.j ⟨[0, 1], [], [], []⟩ false (.s .z (.u (.l ⟨[0, 1], [(5, .lf (.sc (.int .i64)))], [], []⟩ .z))) .z))
def ct109 : Ctr := ⟨⟨[.d (.slice (.sc (.int .u32))), .d (.slice (.sc (.int .u32)))], [(.sc .bool)], 1, [], []⟩, fun x => culpritref05_SameLimbs x.1 x.2⟩
theorem ct109_ok : ct109.sound Tryz.prog 109 := fn_sound cx55_ok mixed Tryz.func109 (by kernel_rfl) (an := an109) (fun x => (by kernel_rfl : ct109.fn x = semF cx55 Tryz.f109 an109 ct109.toSig x)) rfl
def cx109 : Cx := addC cx55 109 ct109
theorem cx109_ok : cx109.ok Tryz.prog := addC_ok cx55_ok ct109_ok
def an56 : An := .z
def ct56 : Ctr := ⟨⟨[.d T_api_Ratio, .d T_api_Ratio], [(.sc .bool)], 1, [], []⟩, fun x => culpritref05_Same x.1 x.2⟩
theorem ct56_ok : ct56.sound Tryz.prog 56 := fn_sound cx109_ok mixed Tryz.func56 (by kernel_rfl) (an := an56) (fun x => (by kernel_rfl : ct56.fn x = semF cx109 Tryz.f56 an56 ct56.toSig x)) rfl
def cx56 : Cx := addC cx109 56 ct56
theorem cx56_ok : cx56.ok Tryz.prog := addC_ok cx109_ok ct56_ok
def an17 : An := .s .z (.s .z (.j ⟨[2, 3], [], [], []⟩ false (.s .z (.u (.l ⟨[2, 3], [(5, .lf (.sc (.int .i64)))], [], []⟩ .z))) .z))
def ct17 : Ctr := ⟨⟨[.d T_api_Verdict, .d T_api_Verdict], [(.sc .bool)], 1, [], []⟩, fun x => culpritref36_Same x.1 x.2⟩
theorem ct17_ok : ct17.sound Tryz.prog 17 := fn_sound cx56_ok mixed Tryz.func17 (by kernel_rfl) (an := an17) (fun x => (by kernel_rfl : ct17.fn x = semF cx56 Tryz.f17 an17 ct17.toSig x)) rfl
def cx17 : Cx := addC cx56 17 ct17
theorem cx17_ok : cx17.ok Tryz.prog := addC_ok cx56_ok ct17_ok
def an35 : An := .s .z (.s .z (.j ⟨[0, 1], [], [], []⟩ false (.s .z (.u (.l ⟨[0, 1], [(5, .lf (.sc (.int .i64)))], [], []⟩ .z))) .z))
def ct35 : Ctr := ⟨⟨[.d (.slice T_api_Verdict), .d (.slice T_api_Verdict)], [(.sc .bool)], 1, [], []⟩, fun x => culpritlaw37_sameAll x.1 x.2⟩
theorem ct35_ok : ct35.sound Tryz.prog 35 := fn_sound cx17_ok mixed Tryz.func35 (by kernel_rfl) (an := an35) (fun x => (by kernel_rfl : ct35.fn x = semF cx17 Tryz.f35 an35 ct35.toSig x)) rfl
def cx35 : Cx := addC cx17 35 ct35
theorem cx35_ok : cx35.ok Tryz.prog := addC_ok cx17_ok ct35_ok
def an9 : An := .z
def ct9 : Ctr := ⟨⟨[.d (.slice (.sc (.int .i64))), .d (.slice (.sc (.int .i64))), .d (.sc (.int .i64)), .d (.sc (.int .i64))], [(.sc .bool)], 1, [], []⟩, fun x => culpritlaw37_ReportWhole x.1 x.2.1 x.2.2.1 x.2.2.2⟩
theorem ct9_ok : ct9.sound Tryz.prog 9 := fn_sound cx35_ok mixed Tryz.func9 (by kernel_rfl) (an := an9) (fun x => (by kernel_rfl : ct9.fn x = semF cx35 Tryz.f9 an9 ct9.toSig x)) rfl
end
end Go.Proofs.YtknnphhepnbaoaaGreatDoor
