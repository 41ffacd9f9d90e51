/-
  NARROWER THAN 'FOR EVERY INPUT', by the rows' own cells (each row's printed sentence says how): MachineStarts: laid · MachineSteps: laid · MachineAccesses: laid · MachineEncodes: laid.
  DERIVED. THE GIVEN ROWS OF THIS SEAT. 4 by the template 'for every input the law returns true; each argument reads behind the call as it read before'; 0 by the template 'total and deterministic' (their statements: YtfhhiajfciblbaaGreatDoorTotals.lean).
  GIVEN WITH THE SEED: the statements are not yours to turn. If you find one false, say at which input.
  Laid BY PROGRAM, IN A SANDBOX (cutbox-rows.mjs): the forced cells as the released guide's own fill.sh prints them over the translation 7350557fc1be9307… (all of the seat's roots in one cut). By AI agents, Wed Nov 11 2026. No macro, syntax, notation, axiom, sorry.
-/
import Derived.Test.YtfhhiajfciblbaaGreatDoorChecked
import GoSem.Claim
import GoSem.ClaimJoined
import GoSem.ClaimMapViews
import Derived.JoinedTies
import Derived.KernelRfl
namespace Go.Proofs.YtfhhiajfciblbaaGreatDoor
/- THE CELL 'sum', in the pinned program and in every row, IS THE sha256 OF THE DUMP (.gsa) THAT YtfhhiajfciblbaaGreatDoorProg.lean LOADS. Nothing in Lean hashes anything: it is a label: what it is worth is what the hold of that sum in a sandbox is worth. -/
noncomputable def Tryz.pinned : Pinned := { name := "ytfhhiajfciblbaagreatdoor", sum := "7350557fc1be930787b60959a72e35b45a1dd35a73bde41539175b25d0ee5894", checked := Tryz.checked }
namespace Rows
def none {H : Type} : Left H := { results := [], args := [] }

/- WHAT THE LISTED PACKAGE-LEVEL VARIABLES READ AS WHEN THE CALL BEGINS. Each datum BY PROGRAM (the guide's laid-datum.mjs) off the statement by which the dump's own 'gosem.cut.vars' lays the variable. In a bare row this is a premise. The card (YtfhhiajfciblbaaGreatDoorCards.lean) ties it to the program's text. -/
def laid_culprit_code_operations {H : Type} : DataW H := .agg [.agg [.lit (.string [112, 117, 115, 104]), .lit (.int .i64 1)], .agg [.lit (.string [108, 111, 97, 100]), .lit (.int .i64 1)], .agg [.lit (.string [115, 116, 111, 114, 101]), .lit (.int .i64 1)], .agg [.lit (.string [109, 97, 99, 104, 105, 110, 101]), .lit (.int .i64 0)], .agg [.lit (.string [97, 100, 100]), .lit (.int .i64 0)], .agg [.lit (.string [115, 117, 98]), .lit (.int .i64 0)], .agg [.lit (.string [109, 117, 108]), .lit (.int .i64 0)], .agg [.lit (.string [108, 101, 115, 115]), .lit (.int .i64 0)], .agg [.lit (.string [109, 111, 115, 116]), .lit (.int .i64 0)], .agg [.lit (.string [101, 113, 117, 97, 108]), .lit (.int .i64 0)], .agg [.lit (.string [106, 117, 109, 112]), .lit (.int .i64 1)], .agg [.lit (.string [122, 101, 114, 111]), .lit (.int .i64 1)], .agg [.lit (.string [99, 97, 108, 108]), .lit (.int .i64 1)], .agg [.lit (.string [98, 97, 99, 107]), .lit (.int .i64 0)], .agg [.lit (.string [99, 104, 101, 99, 107]), .lit (.int .i64 2)], .agg [.lit (.string [97, 108, 108, 111, 99]), .lit (.int .i64 1)], .agg [.lit (.string [103, 101, 116]), .lit (.int .i64 1)], .agg [.lit (.string [112, 117, 116]), .lit (.int .i64 1)], .agg [.lit (.string [103, 111]), .lit (.int .i64 1)], .agg [.lit (.string [115, 101, 110, 100]), .lit (.int .i64 1)], .agg [.lit (.string [114, 101, 99, 118]), .lit (.int .i64 2)], .agg [.lit (.string [97, 99, 113, 117, 105, 114, 101]), .lit (.int .i64 1)], .agg [.lit (.string [114, 101, 108, 101, 97, 115, 101]), .lit (.int .i64 1)], .agg [.lit (.string [100, 114, 97, 119]), .lit (.int .i64 2)], .agg [.lit (.string [110, 111, 119]), .lit (.int .i64 1)], .agg [.lit (.string [115, 108, 101, 101, 112]), .lit (.int .i64 1)], .agg [.lit (.string [119, 114, 105, 116, 101]), .lit (.int .i64 1)], .agg [.lit (.string [114, 101, 97, 100]), .lit (.int .i64 2)], .agg [.lit (.string [101, 110, 100]), .lit (.int .i64 0)]]
def laid_culprit_culpritref02_constants {H : Type} : DataW H := .agg [.lit (.int .u32 1116352408), .lit (.int .u32 1899447441), .lit (.int .u32 3049323471), .lit (.int .u32 3921009573), .lit (.int .u32 961987163), .lit (.int .u32 1508970993), .lit (.int .u32 2453635748), .lit (.int .u32 2870763221), .lit (.int .u32 3624381080), .lit (.int .u32 310598401), .lit (.int .u32 607225278), .lit (.int .u32 1426881987), .lit (.int .u32 1925078388), .lit (.int .u32 2162078206), .lit (.int .u32 2614888103), .lit (.int .u32 3248222580), .lit (.int .u32 3835390401), .lit (.int .u32 4022224774), .lit (.int .u32 264347078), .lit (.int .u32 604807628), .lit (.int .u32 770255983), .lit (.int .u32 1249150122), .lit (.int .u32 1555081692), .lit (.int .u32 1996064986), .lit (.int .u32 2554220882), .lit (.int .u32 2821834349), .lit (.int .u32 2952996808), .lit (.int .u32 3210313671), .lit (.int .u32 3336571891), .lit (.int .u32 3584528711), .lit (.int .u32 113926993), .lit (.int .u32 338241895), .lit (.int .u32 666307205), .lit (.int .u32 773529912), .lit (.int .u32 1294757372), .lit (.int .u32 1396182291), .lit (.int .u32 1695183700), .lit (.int .u32 1986661051), .lit (.int .u32 2177026350), .lit (.int .u32 2456956037), .lit (.int .u32 2730485921), .lit (.int .u32 2820302411), .lit (.int .u32 3259730800), .lit (.int .u32 3345764771), .lit (.int .u32 3516065817), .lit (.int .u32 3600352804), .lit (.int .u32 4094571909), .lit (.int .u32 275423344), .lit (.int .u32 430227734), .lit (.int .u32 506948616), .lit (.int .u32 659060556), .lit (.int .u32 883997877), .lit (.int .u32 958139571), .lit (.int .u32 1322822218), .lit (.int .u32 1537002063), .lit (.int .u32 1747873779), .lit (.int .u32 1955562222), .lit (.int .u32 2024104815), .lit (.int .u32 2227730452), .lit (.int .u32 2361852424), .lit (.int .u32 2428436474), .lit (.int .u32 2756734187), .lit (.int .u32 3204031479), .lit (.int .u32 3329325298)]
def laid_culprit_hash_constants {H : Type} : DataW H := .agg [.lit (.int .u32 1116352408), .lit (.int .u32 1899447441), .lit (.int .u32 3049323471), .lit (.int .u32 3921009573), .lit (.int .u32 961987163), .lit (.int .u32 1508970993), .lit (.int .u32 2453635748), .lit (.int .u32 2870763221), .lit (.int .u32 3624381080), .lit (.int .u32 310598401), .lit (.int .u32 607225278), .lit (.int .u32 1426881987), .lit (.int .u32 1925078388), .lit (.int .u32 2162078206), .lit (.int .u32 2614888103), .lit (.int .u32 3248222580), .lit (.int .u32 3835390401), .lit (.int .u32 4022224774), .lit (.int .u32 264347078), .lit (.int .u32 604807628), .lit (.int .u32 770255983), .lit (.int .u32 1249150122), .lit (.int .u32 1555081692), .lit (.int .u32 1996064986), .lit (.int .u32 2554220882), .lit (.int .u32 2821834349), .lit (.int .u32 2952996808), .lit (.int .u32 3210313671), .lit (.int .u32 3336571891), .lit (.int .u32 3584528711), .lit (.int .u32 113926993), .lit (.int .u32 338241895), .lit (.int .u32 666307205), .lit (.int .u32 773529912), .lit (.int .u32 1294757372), .lit (.int .u32 1396182291), .lit (.int .u32 1695183700), .lit (.int .u32 1986661051), .lit (.int .u32 2177026350), .lit (.int .u32 2456956037), .lit (.int .u32 2730485921), .lit (.int .u32 2820302411), .lit (.int .u32 3259730800), .lit (.int .u32 3345764771), .lit (.int .u32 3516065817), .lit (.int .u32 3600352804), .lit (.int .u32 4094571909), .lit (.int .u32 275423344), .lit (.int .u32 430227734), .lit (.int .u32 506948616), .lit (.int .u32 659060556), .lit (.int .u32 883997877), .lit (.int .u32 958139571), .lit (.int .u32 1322822218), .lit (.int .u32 1537002063), .lit (.int .u32 1747873779), .lit (.int .u32 1955562222), .lit (.int .u32 2024104815), .lit (.int .u32 2227730452), .lit (.int .u32 2361852424), .lit (.int .u32 2428436474), .lit (.int .u32 2756734187), .lit (.int .u32 3204031479), .lit (.int .u32 3329325298)]

/-- 'culpritlaw09.MachineStarts': WHATEVER THE INPUT: true; the input reads as it did. -/
def machineStartsSpec : ChangeSpec := { name := "machineStarts", fn := fun _ => fun
  | [d1, d2, d3, d4, d5, d6] => { results := [.lit (.bool true)], args := [d1, d2, d3, d4, d5, d6] }
  | _ => none }
def machineStartsRow : OpenClaim := { program := "ytfhhiajfciblbaagreatdoor", sum := "7350557fc1be930787b60959a72e35b45a1dd35a73bde41539175b25d0ee5894", func := "culprit/culpritlaw09.MachineStarts", spec := "machineStarts", unfollowed := true, recurses := true, named := ["culprit/code.operations"], plainKeys := false, apart := false, laid := [("culprit/code.operations", laid_culprit_code_operations)] }
def MachineStartsSaid : Prop := machineStartsRow.holds Tryz.pinned (OpenSpec.ofChange machineStartsSpec)

/-- ITS FALSE NEIGHBOUR: 'it returns false'. Refute it at one input. -/
def machineStartsWrong : ChangeSpec := { name := "machineStarts", fn := fun _ => fun
  | [d1, d2, d3, d4, d5, d6] => { results := [.lit (.bool false)], args := [d1, d2, d3, d4, d5, d6] }
  | _ => none }
def MachineStartsWrongFalsely : Prop := machineStartsRow.holds Tryz.pinned (OpenSpec.ofChange machineStartsWrong)

/-- 'culpritlaw09.MachineSteps': WHATEVER THE INPUT: true; the input reads as it did. -/
def machineStepsSpec : ChangeSpec := { name := "machineSteps", fn := fun _ => fun
  | [d1, d2, d3, d4, d5] => { results := [.lit (.bool true)], args := [d1, d2, d3, d4, d5] }
  | _ => none }
def machineStepsRow : OpenClaim := { program := "ytfhhiajfciblbaagreatdoor", sum := "7350557fc1be930787b60959a72e35b45a1dd35a73bde41539175b25d0ee5894", func := "culprit/culpritlaw09.MachineSteps", spec := "machineSteps", unfollowed := true, recurses := true, named := ["culprit/code.operations"], plainKeys := false, apart := false, laid := [("culprit/code.operations", laid_culprit_code_operations)] }
def MachineStepsSaid : Prop := machineStepsRow.holds Tryz.pinned (OpenSpec.ofChange machineStepsSpec)

/-- ITS FALSE NEIGHBOUR: 'it returns false'. Refute it at one input. -/
def machineStepsWrong : ChangeSpec := { name := "machineSteps", fn := fun _ => fun
  | [d1, d2, d3, d4, d5] => { results := [.lit (.bool false)], args := [d1, d2, d3, d4, d5] }
  | _ => none }
def MachineStepsWrongFalsely : Prop := machineStepsRow.holds Tryz.pinned (OpenSpec.ofChange machineStepsWrong)

/-- 'culpritlaw09.MachineAccesses': WHATEVER THE INPUT: true; the input reads as it did. -/
def machineAccessesSpec : ChangeSpec := { name := "machineAccesses", fn := fun _ => fun
  | [d1, d2, d3, d4, d5, d6] => { results := [.lit (.bool true)], args := [d1, d2, d3, d4, d5, d6] }
  | _ => none }
def machineAccessesRow : OpenClaim := { program := "ytfhhiajfciblbaagreatdoor", sum := "7350557fc1be930787b60959a72e35b45a1dd35a73bde41539175b25d0ee5894", func := "culprit/culpritlaw09.MachineAccesses", spec := "machineAccesses", unfollowed := true, recurses := true, named := ["culprit/code.operations"], plainKeys := false, apart := false, laid := [("culprit/code.operations", laid_culprit_code_operations)] }
def MachineAccessesSaid : Prop := machineAccessesRow.holds Tryz.pinned (OpenSpec.ofChange machineAccessesSpec)

/-- ITS FALSE NEIGHBOUR: 'it returns false'. Refute it at one input. -/
def machineAccessesWrong : ChangeSpec := { name := "machineAccesses", fn := fun _ => fun
  | [d1, d2, d3, d4, d5, d6] => { results := [.lit (.bool false)], args := [d1, d2, d3, d4, d5, d6] }
  | _ => none }
def MachineAccessesWrongFalsely : Prop := machineAccessesRow.holds Tryz.pinned (OpenSpec.ofChange machineAccessesWrong)

/-- 'culpritlaw09.MachineEncodes': WHATEVER THE INPUT: true; the input reads as it did. -/
def machineEncodesSpec : ChangeSpec := { name := "machineEncodes", fn := fun _ => fun
  | [d1, d2, d3, d4, d5, d6] => { results := [.lit (.bool true)], args := [d1, d2, d3, d4, d5, d6] }
  | _ => none }
def machineEncodesRow : OpenClaim := { program := "ytfhhiajfciblbaagreatdoor", sum := "7350557fc1be930787b60959a72e35b45a1dd35a73bde41539175b25d0ee5894", func := "culprit/culpritlaw09.MachineEncodes", spec := "machineEncodes", unfollowed := true, recurses := true, named := ["culprit/hash.constants", "culprit/culpritref02.constants", "culprit/code.operations"], plainKeys := false, apart := false, laid := [("culprit/culpritref02.constants", laid_culprit_culpritref02_constants), ("culprit/hash.constants", laid_culprit_hash_constants), ("culprit/code.operations", laid_culprit_code_operations)] }
def MachineEncodesSaid : Prop := machineEncodesRow.holds Tryz.pinned (OpenSpec.ofChange machineEncodesSpec)

/-- ITS FALSE NEIGHBOUR: 'it returns false'. Refute it at one input. -/
def machineEncodesWrong : ChangeSpec := { name := "machineEncodes", fn := fun _ => fun
  | [d1, d2, d3, d4, d5, d6] => { results := [.lit (.bool false)], args := [d1, d2, d3, d4, d5, d6] }
  | _ => none }
def MachineEncodesWrongFalsely : Prop := machineEncodesRow.holds Tryz.pinned (OpenSpec.ofChange machineEncodesWrong)

/- THE SECOND FORM. 'bulk': how many values and letters a reading holds, each counted each time it is reached (what is shared counts as often as it is met; a slice's spare places count too). A statement '..UptoSaid' is the law's where the arguments, and the package variables that the reading takes, are together of bulk at most 1048576: NARROWER than '..Said'. Prove '..Said' where nothing that the law and all that it calls make is longer than what came in: it says more and counts as full. Else prove '..UptoSaid'. A law counts once. -/
mutual
def uptoBulk {H : Type} : DataW H → Nat
  | .lit (.string bytes) => bytes.length + 1
  | .lit _ => 1
  | .nil => 1
  | .ptr d => uptoBulk d + 1
  | .slice elems spare => uptoBulkAll elems + uptoBulkAll spare + 1
  | .agg parts => uptoBulkAll parts + 1
  | .iface _ d => uptoBulk d + 1
  | .map entries => uptoBulkEntries entries + 1
  | .held _ => 1
def uptoBulkAll {H : Type} : List (DataW H) → Nat
  | [] => 0
  | d :: r => uptoBulk d + uptoBulkAll r
def uptoBulkEntries {H : Type} : List (Lit × DataW H) → Nat
  | [] => 0
  | x :: r => uptoBulkEntry x + uptoBulkEntries r
def uptoBulkEntry {H : Type} : Lit × DataW H → Nat
  | (.string bytes, d) => bytes.length + uptoBulk d + 1
  | (_, d) => uptoBulk d + 1
 end
def uptoSmall : (H : Type) → List (DataW H) → Bool := fun _ ds => decide (uptoBulkAll ds ≤ 1048576)
def OpenSpec.upto (s : _root_.Go.ChangeSpec) : _root_.Go.OpenSpec := { _root_.Go.OpenSpec.ofChange s with cond := some uptoSmall }

/-- 'culpritlaw09.MachineStarts', WHERE WHAT IT READS IS OF BULK AT MOST 1048576: true; the input reads as it did. -/
def machineStartsUptoRow : OpenClaim := { program := "ytfhhiajfciblbaagreatdoor", sum := "7350557fc1be930787b60959a72e35b45a1dd35a73bde41539175b25d0ee5894", func := "culprit/culpritlaw09.MachineStarts", spec := "machineStarts", unfollowed := true, recurses := true, named := ["culprit/code.operations"], plainKeys := false, apart := false, laid := [("culprit/code.operations", laid_culprit_code_operations)], narrowed := true }
def MachineStartsUptoSaid : Prop := machineStartsUptoRow.holds Tryz.pinned (OpenSpec.upto machineStartsSpec)

/-- 'culpritlaw09.MachineSteps', WHERE WHAT IT READS IS OF BULK AT MOST 1048576: true; the input reads as it did. -/
def machineStepsUptoRow : OpenClaim := { program := "ytfhhiajfciblbaagreatdoor", sum := "7350557fc1be930787b60959a72e35b45a1dd35a73bde41539175b25d0ee5894", func := "culprit/culpritlaw09.MachineSteps", spec := "machineSteps", unfollowed := true, recurses := true, named := ["culprit/code.operations"], plainKeys := false, apart := false, laid := [("culprit/code.operations", laid_culprit_code_operations)], narrowed := true }
def MachineStepsUptoSaid : Prop := machineStepsUptoRow.holds Tryz.pinned (OpenSpec.upto machineStepsSpec)

/-- 'culpritlaw09.MachineAccesses', WHERE WHAT IT READS IS OF BULK AT MOST 1048576: true; the input reads as it did. -/
def machineAccessesUptoRow : OpenClaim := { program := "ytfhhiajfciblbaagreatdoor", sum := "7350557fc1be930787b60959a72e35b45a1dd35a73bde41539175b25d0ee5894", func := "culprit/culpritlaw09.MachineAccesses", spec := "machineAccesses", unfollowed := true, recurses := true, named := ["culprit/code.operations"], plainKeys := false, apart := false, laid := [("culprit/code.operations", laid_culprit_code_operations)], narrowed := true }
def MachineAccessesUptoSaid : Prop := machineAccessesUptoRow.holds Tryz.pinned (OpenSpec.upto machineAccessesSpec)

/-- 'culpritlaw09.MachineEncodes', WHERE WHAT IT READS IS OF BULK AT MOST 1048576: true; the input reads as it did. -/
def machineEncodesUptoRow : OpenClaim := { program := "ytfhhiajfciblbaagreatdoor", sum := "7350557fc1be930787b60959a72e35b45a1dd35a73bde41539175b25d0ee5894", func := "culprit/culpritlaw09.MachineEncodes", spec := "machineEncodes", unfollowed := true, recurses := true, named := ["culprit/hash.constants", "culprit/culpritref02.constants", "culprit/code.operations"], plainKeys := false, apart := false, laid := [("culprit/culpritref02.constants", laid_culprit_culpritref02_constants), ("culprit/hash.constants", laid_culprit_hash_constants), ("culprit/code.operations", laid_culprit_code_operations)], narrowed := true }
def MachineEncodesUptoSaid : Prop := machineEncodesUptoRow.holds Tryz.pinned (OpenSpec.upto machineEncodesSpec)

end Rows
end Go.Proofs.YtfhhiajfciblbaaGreatDoor
