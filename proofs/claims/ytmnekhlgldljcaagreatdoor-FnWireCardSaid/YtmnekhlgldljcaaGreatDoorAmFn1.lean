/- Functions, as they run on data. No condition. -/
import Derived.Test.YtmnekhlgldljcaaGreatDoorAmFn0
set_option linter.unusedVariables false
set_option maxRecDepth 100000
namespace Go.Proofs.YtmnekhlgldljcaaGreatDoor.Am
open Go.AM Go.AM.P Go.Proofs Go.Shelf
noncomputable def E48 : Env := { tab := tab, sig := [(43, s43), (39, s39), (69, s69), (68, s68), (70, s70), (71, s71), (73, s73), (72, s72)], clos := [], live := [], eqs := [], inl := [] }
set_option maxRecDepth 100000 in
theorem r48 (N : Nat) (a0 : T14) (a1 : Int) : runF N E48 Tryz.f48 [.ptr (.pair (.slice 5 (.int .u8)) (.pair (.int .i64) (.pair (.int .u64) .unit))), .imm false (.int .i64)] [.deep true (.pair (.int .i64) (.pair (.int .i64) (.pair (.int .i64) (.pair (.int .i64) (.pair (.int .i64) (.pair (.int .i64) (.pair (.int .i64) (.pair (.int .i64) (.pair (.pair (.int .i64) (.pair (.int .i64) (.pair (.int .i64) (.pair (.int .i64) (.pair (.int .i64) .unit))))) (.pair (.pair (.int .i64) (.pair (.slice 3 (.int .i64)) .unit)) .unit))))))))))] (a0, a1, ()) = p_Pspec_l1Cur_msg N a0 a1 := by kernel_rfl
theorem env48 : EnvOk Tryz.prog (fa.at true) E48 := envOk mixed tabOk ⟨⟨enters43, ok43, fun _ => rfl⟩, ⟨enters39, ok39, fun _ => rfl⟩, ⟨enters69, ok69, fun _ => rfl⟩, ⟨enters68, ok68, fun _ => rfl⟩, ⟨enters70, ok70, fun _ => rfl⟩, ⟨enters71, ok71, fun _ => rfl⟩, ⟨enters73, ok73, fun _ => rfl⟩, ⟨enters72, ok72, fun _ => rfl⟩, trivial⟩ trivial trivial
noncomputable def s48 : FSpec := ⟨[.ptr (.pair (.slice 5 (.int .u8)) (.pair (.int .i64) (.pair (.int .u64) .unit))), .imm false (.int .i64)], [.deep true (.pair (.int .i64) (.pair (.int .i64) (.pair (.int .i64) (.pair (.int .i64) (.pair (.int .i64) (.pair (.int .i64) (.pair (.int .i64) (.pair (.int .i64) (.pair (.pair (.int .i64) (.pair (.int .i64) (.pair (.int .i64) (.pair (.int .i64) (.pair (.int .i64) .unit))))) (.pair (.pair (.int .i64) (.pair (.slice 3 (.int .i64)) .unit)) .unit))))))))))], fun x => S_Pspec_l1Cur_msg x.1 x.2.1, true⟩
theorem ok48 : FOk Tryz.prog fa 48 s48 := fn_says env48 Tryz.func48 rfl fun x y h => ⟨0, (r48 0 x.1 x.2.1).trans h⟩
theorem enters48 : Enters Tryz.prog 48 := enters Tryz.func48 (by kernel_rfl) rfl
end Go.Proofs.YtmnekhlgldljcaaGreatDoor.Am
