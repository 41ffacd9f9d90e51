/-
  Facts on the program's tables. No condition.
-/
import Derived.Test.YtimljgafbpbceaaFn
import Derived.Test.YtimljgafbpbceaaRows
namespace Go.Proofs.Ytimljgafbpbceaa
open Go.Sm

theorem Try.mixed : Try.prog.follows .mixedOrders = true := by kernel_rfl
theorem Try.ti3 : TI Try.prog 3 1 8 (.int .i64 0) := by unfold TI; kernel_rfl
theorem Try.ti5 : TI Try.prog 5 1 1 (.int .u8 0) := by unfold TI; kernel_rfl
theorem Try.ti22 : TI Try.prog 22 1 24 (.slice none 0 0) := by unfold TI; kernel_rfl
theorem Try.ti23 : TI Try.prog 23 1 24 (.slice none 0 0) := by unfold TI; kernel_rfl
theorem Try.ti25 : TI Try.prog 25 1 24 (.agg #[.slice none 0 0]) := by unfold TI; kernel_rfl
theorem Try.ti30 : TI Try.prog 30 1 24 (.agg #[.slice none 0 0]) := by unfold TI; kernel_rfl
theorem Try.ti33 : TI Try.prog 33 3 40 (.agg #[.int .i64 0, .int .i64 0, .slice none 0 0]) := by unfold TI; kernel_rfl
theorem Try.ti37 : TI Try.prog 37 3 40 (.agg #[.int .i64 0, .int .i64 0, .slice none 0 0]) := by unfold TI; kernel_rfl
theorem Try.ti52 : TI Try.prog 52 16 16 (.agg #[.int .u8 0, .int .u8 0, .int .u8 0, .int .u8 0, .int .u8 0, .int .u8 0, .int .u8 0, .int .u8 0, .int .u8 0, .int .u8 0, .int .u8 0, .int .u8 0, .int .u8 0, .int .u8 0, .int .u8 0, .int .u8 0]) := by unfold TI; kernel_rfl
theorem Try.ti70 : TI Try.prog 70 16 16 (.agg #[.int .u8 0, .int .u8 0, .int .u8 0, .int .u8 0, .int .u8 0, .int .u8 0, .int .u8 0, .int .u8 0, .int .u8 0, .int .u8 0, .int .u8 0, .int .u8 0, .int .u8 0, .int .u8 0, .int .u8 0, .int .u8 0]) := by unfold TI; kernel_rfl
theorem Try.ti73 : TI Try.prog 73 0 0 (.agg #[]) := by unfold TI; kernel_rfl
theorem Try.nm5 : (Try.f5.name == "runtime.NumGoroutine") = false := by kernel_rfl
theorem Try.nm6 : (Try.f6.name == "runtime.NumGoroutine") = false := by kernel_rfl
theorem Try.nm7 : (Try.f7.name == "runtime.NumGoroutine") = false := by kernel_rfl
theorem Try.nm8 : (Try.f8.name == "runtime.NumGoroutine") = false := by kernel_rfl
theorem Try.nm9 : (Try.f9.name == "runtime.NumGoroutine") = false := by kernel_rfl
theorem Try.nm10 : (Try.f10.name == "runtime.NumGoroutine") = false := by kernel_rfl
theorem Try.nm11 : (Try.f11.name == "runtime.NumGoroutine") = false := by kernel_rfl
theorem Try.nm12 : (Try.f12.name == "runtime.NumGoroutine") = false := by kernel_rfl
theorem Try.nm13 : (Try.f13.name == "runtime.NumGoroutine") = false := by kernel_rfl
theorem Try.nm14 : (Try.f14.name == "runtime.NumGoroutine") = false := by kernel_rfl
theorem Try.nm15 : (Try.f15.name == "runtime.NumGoroutine") = false := by kernel_rfl
theorem Try.nm16 : (Try.f16.name == "runtime.NumGoroutine") = false := by kernel_rfl
theorem Try.nm17 : (Try.f17.name == "runtime.NumGoroutine") = false := by kernel_rfl
theorem Try.nm18 : (Try.f18.name == "runtime.NumGoroutine") = false := by kernel_rfl
theorem Try.nm19 : (Try.f19.name == "runtime.NumGoroutine") = false := by kernel_rfl
theorem Try.nm20 : (Try.f20.name == "runtime.NumGoroutine") = false := by kernel_rfl
theorem Try.nm21 : (Try.f21.name == "runtime.NumGoroutine") = false := by kernel_rfl
theorem Try.nm22 : (Try.f22.name == "runtime.NumGoroutine") = false := by kernel_rfl
theorem Try.nm23 : (Try.f23.name == "runtime.NumGoroutine") = false := by kernel_rfl
theorem Try.nm24 : (Try.f24.name == "runtime.NumGoroutine") = false := by kernel_rfl
theorem Try.nm25 : (Try.f25.name == "runtime.NumGoroutine") = false := by kernel_rfl
theorem Try.nm26 : (Try.f26.name == "runtime.NumGoroutine") = false := by kernel_rfl
theorem Try.nm27 : (Try.f27.name == "runtime.NumGoroutine") = false := by kernel_rfl
theorem Try.nm28 : (Try.f28.name == "runtime.NumGoroutine") = false := by kernel_rfl
theorem Try.nm29 : (Try.f29.name == "runtime.NumGoroutine") = false := by kernel_rfl
theorem Try.nm30 : (Try.f30.name == "runtime.NumGoroutine") = false := by kernel_rfl
theorem Try.nm31 : (Try.f31.name == "runtime.NumGoroutine") = false := by kernel_rfl
theorem Try.nm32 : (Try.f32.name == "runtime.NumGoroutine") = false := by kernel_rfl
theorem Try.eqg52 : Try.prog.eqGuardType Try.prog.depth 52 = false := by kernel_rfl
section
variable {ρ : Env} {L : List HA} {o : Oper}
theorem as70 {x : Operand} {s : Option (List Int)} (ho : o.op = .typeAssert x 59 70 true) (hx : evo ρ x = encState s) : PureOk Try.prog ρ o L (.tuple #[.agg ((tA 16 .u8).fill (s.getD (List.replicate 16 0)) ()).toArray, .bool s.isSome]) := by
  cases s with
  | none => exact p_assert_no ho Try.underlying70 rfl Try.ti70 rfl hx
  | some d => exact p_assert_yes ho Try.underlying70 rfl hx
theorem as73 {x : Operand} {s : Option (List Int)} (ho : o.op = .typeAssert x 59 73 true) (hx : evo ρ x = encState s) : PureOk Try.prog ρ o L (.tuple #[.agg ([] : List Value).toArray, .bool s.isNone]) := by
  cases s with
  | some d => exact p_assert_no ho Try.underlying73 rfl Try.ti73 rfl hx
  | none => exact p_assert_yes ho Try.underlying73 rfl hx
end
end Go.Proofs.Ytimljgafbpbceaa
