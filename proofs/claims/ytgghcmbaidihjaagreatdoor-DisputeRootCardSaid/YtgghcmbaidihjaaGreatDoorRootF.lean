/-
  DisputeRoot: closed facts of the row, each by itself (one proof of all wants more than ten gigabytes). No condition.
-/
import Derived.Test.YtgghcmbaidihjaaGreatDoorCards
import Derived.JoinedOf
import Derived.KernelRfl
namespace Go.Proofs.YtgghcmbaidihjaaGreatDoor
set_option maxRecDepth 100000
set_option linter.unusedVariables false
def qB1 (P : Program) (f : FuncId) (fn : Func) (s : ChangeSpec) (c : OpenClaim) : Bool := c.wf (OpenSpec.ofChange s)
def qB2 (P : Program) (f : FuncId) (fn : Func) (s : ChangeSpec) (c : OpenClaim) : Bool := laidOutB P
def qB3 (P : Program) (f : FuncId) (fn : Func) (s : ChangeSpec) (c : OpenClaim) : Bool := mapsRowed P
def qB4 (P : Program) (f : FuncId) (fn : Func) (s : ChangeSpec) (c : OpenClaim) : Bool := fn.params.all (P.readableRec ·)
def qB5 (P : Program) (f : FuncId) (fn : Func) (s : ChangeSpec) (c : OpenClaim) : Bool := namedTie P c.named s.vars
def qB6 (P : Program) (f : FuncId) (fn : Func) (s : ChangeSpec) (c : OpenClaim) : Bool := (c.stops == [])
def qB7 (P : Program) (f : FuncId) (fn : Func) (s : ChangeSpec) (c : OpenClaim) : Bool := (P.stops == [])
def qB8 (P : Program) (f : FuncId) (fn : Func) (s : ChangeSpec) (c : OpenClaim) : Bool := (c.knobs == [])
def qB9 (P : Program) (f : FuncId) (fn : Func) (s : ChangeSpec) (c : OpenClaim) : Bool := (P.stopKnobs == [])
def qB10 (P : Program) (f : FuncId) (fn : Func) (s : ChangeSpec) (c : OpenClaim) : Bool := (c.inPlace == P.inPlace f)
def qB11 (P : Program) (f : FuncId) (fn : Func) (s : ChangeSpec) (c : OpenClaim) : Bool := (c.unfollowed == P.unfollowed f)
def qB12 (P : Program) (f : FuncId) (fn : Func) (s : ChangeSpec) (c : OpenClaim) : Bool := (c.recurses == P.recurses f)
def qB13 (P : Program) (f : FuncId) (fn : Func) (s : ChangeSpec) (c : OpenClaim) : Bool := (c.named == P.varsNamed f)
def qB14 (P : Program) (f : FuncId) (fn : Func) (s : ChangeSpec) (c : OpenClaim) : Bool := (c.maps == (fn.params.toList ++ s.plain.varTypes P).any (P.mapsRec ·))
def qB15 (P : Program) (f : FuncId) (fn : Func) (s : ChangeSpec) (c : OpenClaim) : Bool := (c.ifaces == (fn.params.toList ++ s.plain.varTypes P).any (P.ifacesRec ·))
def qB16 (P : Program) (f : FuncId) (fn : Func) (s : ChangeSpec) (c : OpenClaim) : Bool := (c.mapsOut == P.mapsAmong fn.resultTypes.toList)
def qB17 (P : Program) (f : FuncId) (fn : Func) (s : ChangeSpec) (c : OpenClaim) : Bool := (c.loops == (fn.params.toList ++ s.plain.varTypes P).any (P.loopsFrom ·))
def qB18 (P : Program) (f : FuncId) (fn : Func) (s : ChangeSpec) (c : OpenClaim) : Bool := (c.wideKeys == (fn.params.toList ++ s.plain.varTypes P ++ fn.resultTypes.toList).any (P.wideKeysFrom ·))
def qB19 (P : Program) (f : FuncId) (fn : Func) (s : ChangeSpec) (c : OpenClaim) : Bool := s.vars.all (P.varReadable ·)
def qB20 (P : Program) (f : FuncId) (fn : Func) (s : ChangeSpec) (c : OpenClaim) : Bool := fn.resultTypes.all (fun t => P.readableRec t && decide (t < P.types.size))
def qB21 (P : Program) (f : FuncId) (fn : Func) (s : ChangeSpec) (c : OpenClaim) : Bool := (c.ifacesOut == fn.resultTypes.toList.any (P.ifacesRec ·))
def qB22 (P : Program) (f : FuncId) (fn : Func) (s : ChangeSpec) (c : OpenClaim) : Bool := (c.loopsOut == fn.resultTypes.toList.any (P.loopsFrom ·))
def qB23 (P : Program) (f : FuncId) (fn : Func) (s : ChangeSpec) (c : OpenClaim) : Bool := (c.plainKeys == P.plainKeys)
def qB24 (P : Program) (f : FuncId) (fn : Func) (s : ChangeSpec) (c : OpenClaim) : Bool := c.shortTexts.isNone
def qB25 (P : Program) (f : FuncId) (fn : Func) (s : ChangeSpec) (c : OpenClaim) : Bool := P.stopsHeard
def qB26 (P : Program) (f : FuncId) (fn : Func) (s : ChangeSpec) (c : OpenClaim) : Bool := P.mayEnter
def qB27 (P : Program) (f : FuncId) (fn : Func) (s : ChangeSpec) (c : OpenClaim) : Bool := (c.lifted == P.liftsFinal)
def qB28 (P : Program) (f : FuncId) (fn : Func) (s : ChangeSpec) (c : OpenClaim) : Bool := (P.make == some c.make)
def qB29 (P : Program) (f : FuncId) (fn : Func) (s : ChangeSpec) (c : OpenClaim) : Bool := (c.kinds == (if c.domain.isEmpty then [] else fn.params.toList.map fun t => match P.underlying t with | some (.int k) => some k | _ => none))
def qB30 (P : Program) (f : FuncId) (fn : Func) (s : ChangeSpec) (c : OpenClaim) : Bool := (c.pinned == c.pinnedBy)
def qB31 (P : Program) (f : FuncId) (fn : Func) (s : ChangeSpec) (c : OpenClaim) : Bool := (c.veiled == (fn.params.toList ++ s.plain.varTypes P ++ fn.resultTypes.toList).any (P.veiledRec ·))
def qB32 (P : Program) (f : FuncId) (fn : Func) (s : ChangeSpec) (c : OpenClaim) : Bool := c.veiledFits P fn.params.toList (fn.params.toList ++ s.plain.varTypes P ++ fn.resultTypes.toList)
theorem qt1 : qB1 Tryz.pinned.checked.prog 7 Tryz.f7 Rows.disputeRootSpec Rows.disputeRootRow = true := by kernel_rfl
theorem qt2 : qB2 Tryz.pinned.checked.prog 7 Tryz.f7 Rows.disputeRootSpec Rows.disputeRootRow = true := by kernel_rfl
theorem qt3 : qB3 Tryz.pinned.checked.prog 7 Tryz.f7 Rows.disputeRootSpec Rows.disputeRootRow = true := by kernel_rfl
theorem qt4 : qB4 Tryz.pinned.checked.prog 7 Tryz.f7 Rows.disputeRootSpec Rows.disputeRootRow = true := by kernel_rfl
theorem qt5 : qB5 Tryz.pinned.checked.prog 7 Tryz.f7 Rows.disputeRootSpec Rows.disputeRootRow = true := by kernel_rfl
theorem qt6 : qB6 Tryz.pinned.checked.prog 7 Tryz.f7 Rows.disputeRootSpec Rows.disputeRootRow = true := by kernel_rfl
theorem qt7 : qB7 Tryz.pinned.checked.prog 7 Tryz.f7 Rows.disputeRootSpec Rows.disputeRootRow = true := by kernel_rfl
theorem qt8 : qB8 Tryz.pinned.checked.prog 7 Tryz.f7 Rows.disputeRootSpec Rows.disputeRootRow = true := by kernel_rfl
theorem qt9 : qB9 Tryz.pinned.checked.prog 7 Tryz.f7 Rows.disputeRootSpec Rows.disputeRootRow = true := by kernel_rfl
theorem qt10 : qB10 Tryz.pinned.checked.prog 7 Tryz.f7 Rows.disputeRootSpec Rows.disputeRootRow = true := by kernel_rfl
theorem qt11 : qB11 Tryz.pinned.checked.prog 7 Tryz.f7 Rows.disputeRootSpec Rows.disputeRootRow = true := by kernel_rfl
theorem qt12 : qB12 Tryz.pinned.checked.prog 7 Tryz.f7 Rows.disputeRootSpec Rows.disputeRootRow = true := by kernel_rfl
theorem qt13 : qB13 Tryz.pinned.checked.prog 7 Tryz.f7 Rows.disputeRootSpec Rows.disputeRootRow = true := by kernel_rfl
theorem qt14 : qB14 Tryz.pinned.checked.prog 7 Tryz.f7 Rows.disputeRootSpec Rows.disputeRootRow = true := by kernel_rfl
theorem qt15 : qB15 Tryz.pinned.checked.prog 7 Tryz.f7 Rows.disputeRootSpec Rows.disputeRootRow = true := by kernel_rfl
theorem qt16 : qB16 Tryz.pinned.checked.prog 7 Tryz.f7 Rows.disputeRootSpec Rows.disputeRootRow = true := by kernel_rfl
theorem qt17 : qB17 Tryz.pinned.checked.prog 7 Tryz.f7 Rows.disputeRootSpec Rows.disputeRootRow = true := by kernel_rfl
theorem qt18 : qB18 Tryz.pinned.checked.prog 7 Tryz.f7 Rows.disputeRootSpec Rows.disputeRootRow = true := by kernel_rfl
theorem qt19 : qB19 Tryz.pinned.checked.prog 7 Tryz.f7 Rows.disputeRootSpec Rows.disputeRootRow = true := by kernel_rfl
theorem qt20 : qB20 Tryz.pinned.checked.prog 7 Tryz.f7 Rows.disputeRootSpec Rows.disputeRootRow = true := by kernel_rfl
theorem qt21 : qB21 Tryz.pinned.checked.prog 7 Tryz.f7 Rows.disputeRootSpec Rows.disputeRootRow = true := by kernel_rfl
theorem qt22 : qB22 Tryz.pinned.checked.prog 7 Tryz.f7 Rows.disputeRootSpec Rows.disputeRootRow = true := by kernel_rfl
theorem qt23 : qB23 Tryz.pinned.checked.prog 7 Tryz.f7 Rows.disputeRootSpec Rows.disputeRootRow = true := by kernel_rfl
theorem qt24 : qB24 Tryz.pinned.checked.prog 7 Tryz.f7 Rows.disputeRootSpec Rows.disputeRootRow = true := by kernel_rfl
theorem qt25 : qB25 Tryz.pinned.checked.prog 7 Tryz.f7 Rows.disputeRootSpec Rows.disputeRootRow = true := by kernel_rfl
theorem qt26 : qB26 Tryz.pinned.checked.prog 7 Tryz.f7 Rows.disputeRootSpec Rows.disputeRootRow = true := by kernel_rfl
theorem qt27 : qB27 Tryz.pinned.checked.prog 7 Tryz.f7 Rows.disputeRootSpec Rows.disputeRootRow = true := by kernel_rfl
theorem qt28 : qB28 Tryz.pinned.checked.prog 7 Tryz.f7 Rows.disputeRootSpec Rows.disputeRootRow = true := by kernel_rfl
theorem qt29 : qB29 Tryz.pinned.checked.prog 7 Tryz.f7 Rows.disputeRootSpec Rows.disputeRootRow = true := by kernel_rfl
theorem qt30 : qB30 Tryz.pinned.checked.prog 7 Tryz.f7 Rows.disputeRootSpec Rows.disputeRootRow = true := by kernel_rfl
theorem qt31 : qB31 Tryz.pinned.checked.prog 7 Tryz.f7 Rows.disputeRootSpec Rows.disputeRootRow = true := by kernel_rfl
theorem qt32 : qB32 Tryz.pinned.checked.prog 7 Tryz.f7 Rows.disputeRootSpec Rows.disputeRootRow = true := by kernel_rfl
theorem facts_eq (P : Program) (f : FuncId) (fn : Func) (s : ChangeSpec) (c : OpenClaim) : joinedFacts P f fn s c = (qB1 P f fn s c && qB2 P f fn s c && qB3 P f fn s c && qB4 P f fn s c && qB5 P f fn s c && qB6 P f fn s c && qB7 P f fn s c && qB8 P f fn s c && qB9 P f fn s c && qB10 P f fn s c && qB11 P f fn s c && qB12 P f fn s c && qB13 P f fn s c && qB14 P f fn s c && qB15 P f fn s c && qB16 P f fn s c && qB17 P f fn s c && qB18 P f fn s c && qB19 P f fn s c && qB20 P f fn s c && qB21 P f fn s c && qB22 P f fn s c && qB23 P f fn s c && qB24 P f fn s c && qB25 P f fn s c && qB26 P f fn s c && qB27 P f fn s c && qB28 P f fn s c && qB29 P f fn s c && qB30 P f fn s c && qB31 P f fn s c && qB32 P f fn s c) := rfl
theorem root_facts : joinedFacts Tryz.pinned.checked.prog 7 Tryz.f7 Rows.disputeRootSpec Rows.disputeRootRow = true := by
  rw [facts_eq, qt1, qt2, qt3, qt4, qt5, qt6, qt7, qt8, qt9, qt10, qt11, qt12, qt13, qt14, qt15, qt16, qt17, qt18, qt19, qt20, qt21, qt22, qt23, qt24, qt25, qt26, qt27, qt28, qt29, qt30, qt31, qt32]
  rfl
theorem qw1 : Tryz.pinned.checked.prog.funcNamed Rows.disputeRootRow.func = some 7 := by kernel_rfl
theorem qw2 : Tryz.f7.isInstance Tryz.pinned.checked.prog Rows.disputeRootRow.origin Rows.disputeRootRow.targs := of_decide_eq_true (by kernel_rfl)
theorem qw3 : Tryz.f7.isWrapper Tryz.pinned.checked.prog Rows.disputeRootRow.wrapper Rows.disputeRootRow.mainSum := by unfold Func.isWrapper; first | (rw [if_pos (by decide +kernel)]; kernel_rfl) | (rw [if_neg (by decide +kernel)]; exact ⟨rfl, rfl⟩)
theorem qw4 : Rows.disputeRootRow.wfByText (OpenSpec.ofChange Rows.disputeRootSpec) = true := by kernel_rfl
theorem qw5 : Tryz.pinned.checked.prog.mainIs = some (Rows.disputeRootCard.stood.harness.1, Rows.disputeRootCard.stood.harness.2.toList) := by kernel_rfl
theorem qw6 : Rows.disputeRootCard.stood.looks = Tryz.pinned.checked.prog.looks [] := by kernel_rfl
theorem qw7 : (Tryz.f7.params.toList.all fun u => !Tryz.pinned.checked.prog.wantsStandIn u) = true := by kernel_rfl
theorem qw8 : false = Rows.disputeRootRow.goesBy Tryz.pinned.checked.prog := by kernel_rfl
end Go.Proofs.YtgghcmbaidihjaaGreatDoor
