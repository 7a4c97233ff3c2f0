/- Functions, as they run on data. No condition. -/
import Derived.Test.YtmnekhlgldljcaaDoorAmFn0
set_option linter.unusedVariables false
set_option maxRecDepth 100000
namespace Go.Proofs.YtmnekhlgldljcaaDoor.Am
open Go.AM Go.AM.P Go.Proofs Go.Shelf
/-! ## loop.example/g00698/impl.MsgBytes -/
noncomputable def E22 : Env := { tab := tab, sig := [(65, s65), (66, s66)], clos := [], live := [], eqs := [], inl := [], q := false }
set_option maxRecDepth 100000 in
theorem r22 (N : Nat) (a0 : Int) (a1 : T11) : runF N E22 Tryd.f22 [.imm false (.int .i64), .imm true (.pair (.int .i64) (.pair (.int .i64) (.pair (.int .i64) (.pair (.int .i64) (.pair (.int .i64) (.pair (.int .i64) (.pair (.int .i64) (.pair (.int .i64) (.pair (.pair (.int .i64) (.pair (.int .i64) (.pair (.int .i64) (.pair (.int .i64) (.pair (.int .i64) .unit))))) (.pair (.pair (.int .i64) (.pair (.slice 3 (.int .i64)) .unit)) .unit))))))))))] [.imm false .str, .imm false .bool] (a0, a1, ()) = p_impl_MsgBytes N a0 a1 := by kernel_rfl
theorem env22 : EnvOk Tryd.prog (fa.at false) E22 := envOk mixed tabOk ⟨⟨enters65, ok65, fun h => h⟩, ⟨enters66, ok66, fun _ => rfl⟩, trivial⟩ trivial trivial
noncomputable def s22 : FSpec := ⟨[.imm false (.int .i64), .imm true (.pair (.int .i64) (.pair (.int .i64) (.pair (.int .i64) (.pair (.int .i64) (.pair (.int .i64) (.pair (.int .i64) (.pair (.int .i64) (.pair (.int .i64) (.pair (.pair (.int .i64) (.pair (.int .i64) (.pair (.int .i64) (.pair (.int .i64) (.pair (.int .i64) .unit))))) (.pair (.pair (.int .i64) (.pair (.slice 3 (.int .i64)) .unit)) .unit))))))))))], [.imm false .str, .imm false .bool], fun x => S_impl_MsgBytes x.1 x.2.1, false⟩
theorem ok22 : FOk Tryd.prog fa 22 s22 := fn_says env22 Tryd.func22 rfl fun x y h => ⟨0, (r22 0 x.1 x.2.1).trans h⟩
theorem enters22 : Enters Tryd.prog 22 := enters Tryd.func22 (by kernel_rfl) rfl

/-! ## loop.example/g00698/laws.eqCmd -/
noncomputable def E51 : Env := { tab := tab, sig := [], clos := [], live := [], eqs := [], inl := [] }
set_option maxRecDepth 100000 in
theorem r51 (N : Nat) (a0 : T2) (a1 : T2) : runF N E51 Tryd.f51 [.imm true (.pair (.int .i64) (.pair (.int .i64) (.pair (.int .i64) (.pair (.int .i64) (.pair (.int .i64) .unit))))), .imm true (.pair (.int .i64) (.pair (.int .i64) (.pair (.int .i64) (.pair (.int .i64) (.pair (.int .i64) .unit)))))] [.imm false .bool] (a0, a1, ()) = p_laws_eqCmd N a0 a1 := by kernel_rfl
theorem env51 : EnvOk Tryd.prog (fa.at true) E51 := envOk mixed tabOk trivial trivial trivial
noncomputable def s51 : FSpec := ⟨[.imm true (.pair (.int .i64) (.pair (.int .i64) (.pair (.int .i64) (.pair (.int .i64) (.pair (.int .i64) .unit))))), .imm true (.pair (.int .i64) (.pair (.int .i64) (.pair (.int .i64) (.pair (.int .i64) (.pair (.int .i64) .unit)))))], [.imm false .bool], fun x => S_laws_eqCmd x.1 x.2.1, true⟩
theorem ok51 : FOk Tryd.prog fa 51 s51 := fn_says env51 Tryd.func51 rfl fun x y h => ⟨0, (r51 0 x.1 x.2.1).trans h⟩
theorem enters51 : Enters Tryd.prog 51 := enters Tryd.func51 (by kernel_rfl) rfl

/-! ## loop.example/g00698/laws.eqIntS -/
noncomputable def E62 : Env := { tab := tab, sig := [], clos := [], live := [(0, [0, 1, 5], [])], eqs := [], inl := [] }
set_option maxRecDepth 100000 in
theorem r62 (N : Nat) (a0 : List Int) (a1 : List Int) : runF N E62 Tryd.f62 [.imm false (.slice 3 (.int .i64)), .imm false (.slice 3 (.int .i64))] [.imm false .bool] (a0, a1, ()) = p_laws_eqIntS N a0 a1 := by kernel_rfl
theorem env62 : EnvOk Tryd.prog (fa.at true) E62 := envOk mixed tabOk trivial trivial trivial
noncomputable def s62 : FSpec := ⟨[.imm false (.slice 3 (.int .i64)), .imm false (.slice 3 (.int .i64))], [.imm false .bool], fun x => S_laws_eqIntS x.1 x.2.1, true⟩
theorem ok62 : FOk Tryd.prog fa 62 s62 := fn_says env62 Tryd.func62 rfl fun x y h => let ⟨N, hN⟩ := lim_some h; ⟨N, (r62 N x.1 x.2.1).trans hN⟩
theorem enters62 : Enters Tryd.prog 62 := enters Tryd.func62 (by kernel_rfl) rfl

/-! ## loop.example/g00698/laws.eqAttr -/
noncomputable def E52 : Env := { tab := tab, sig := [(62, s62)], clos := [], live := [], eqs := [], inl := [] }
set_option maxRecDepth 100000 in
theorem r52 (N : Nat) (a0 : T6) (a1 : T6) : runF N E52 Tryd.f52 [.imm true (.pair (.int .i64) (.pair (.slice 3 (.int .i64)) .unit)), .imm true (.pair (.int .i64) (.pair (.slice 3 (.int .i64)) .unit))] [.imm false .bool] (a0, a1, ()) = p_laws_eqAttr N a0 a1 := by kernel_rfl
theorem env52 : EnvOk Tryd.prog (fa.at true) E52 := envOk mixed tabOk ⟨⟨enters62, ok62, fun _ => rfl⟩, trivial⟩ trivial trivial
noncomputable def s52 : FSpec := ⟨[.imm true (.pair (.int .i64) (.pair (.slice 3 (.int .i64)) .unit)), .imm true (.pair (.int .i64) (.pair (.slice 3 (.int .i64)) .unit))], [.imm false .bool], fun x => S_laws_eqAttr x.1 x.2.1, true⟩
theorem ok52 : FOk Tryd.prog fa 52 s52 := fn_says env52 Tryd.func52 rfl fun x y h => ⟨0, (r52 0 x.1 x.2.1).trans h⟩
theorem enters52 : Enters Tryd.prog 52 := enters Tryd.func52 (by kernel_rfl) rfl

/-! ## loop.example/g00698/laws.eqMsg -/
noncomputable def E15 : Env := { tab := tab, sig := [(51, s51), (52, s52)], clos := [], live := [], eqs := [], inl := [] }
set_option maxRecDepth 100000 in
theorem r15 (N : Nat) (a0 : T11) (a1 : T11) : runF N E15 Tryd.f15 [.imm true (.pair (.int .i64) (.pair (.int .i64) (.pair (.int .i64) (.pair (.int .i64) (.pair (.int .i64) (.pair (.int .i64) (.pair (.int .i64) (.pair (.int .i64) (.pair (.pair (.int .i64) (.pair (.int .i64) (.pair (.int .i64) (.pair (.int .i64) (.pair (.int .i64) .unit))))) (.pair (.pair (.int .i64) (.pair (.slice 3 (.int .i64)) .unit)) .unit)))))))))), .imm true (.pair (.int .i64) (.pair (.int .i64) (.pair (.int .i64) (.pair (.int .i64) (.pair (.int .i64) (.pair (.int .i64) (.pair (.int .i64) (.pair (.int .i64) (.pair (.pair (.int .i64) (.pair (.int .i64) (.pair (.int .i64) (.pair (.int .i64) (.pair (.int .i64) .unit))))) (.pair (.pair (.int .i64) (.pair (.slice 3 (.int .i64)) .unit)) .unit))))))))))] [.imm false .bool] (a0, a1, ()) = p_laws_eqMsg N a0 a1 := by kernel_rfl
theorem env15 : EnvOk Tryd.prog (fa.at true) E15 := envOk mixed tabOk ⟨⟨enters51, ok51, fun _ => rfl⟩, ⟨enters52, ok52, fun _ => rfl⟩, trivial⟩ trivial trivial
noncomputable def s15 : FSpec := ⟨[.imm true (.pair (.int .i64) (.pair (.int .i64) (.pair (.int .i64) (.pair (.int .i64) (.pair (.int .i64) (.pair (.int .i64) (.pair (.int .i64) (.pair (.int .i64) (.pair (.pair (.int .i64) (.pair (.int .i64) (.pair (.int .i64) (.pair (.int .i64) (.pair (.int .i64) .unit))))) (.pair (.pair (.int .i64) (.pair (.slice 3 (.int .i64)) .unit)) .unit)))))))))), .imm true (.pair (.int .i64) (.pair (.int .i64) (.pair (.int .i64) (.pair (.int .i64) (.pair (.int .i64) (.pair (.int .i64) (.pair (.int .i64) (.pair (.int .i64) (.pair (.pair (.int .i64) (.pair (.int .i64) (.pair (.int .i64) (.pair (.int .i64) (.pair (.int .i64) .unit))))) (.pair (.pair (.int .i64) (.pair (.slice 3 (.int .i64)) .unit)) .unit))))))))))], [.imm false .bool], fun x => S_laws_eqMsg x.1 x.2.1, true⟩
theorem ok15 : FOk Tryd.prog fa 15 s15 := fn_says env15 Tryd.func15 rfl fun x y h => ⟨0, (r15 0 x.1 x.2.1).trans h⟩
theorem enters15 : Enters Tryd.prog 15 := enters Tryd.func15 (by kernel_rfl) rfl

/-! ## loop.example/g00698/laws.FnExactMsgBytes -/
noncomputable def E5 : Env := { tab := tab, sig := [(11, s11), (13, s13), (21, s21), (22, s22), (15, s15)], clos := [], live := [], eqs := [], inl := [], q := false }
set_option maxRecDepth 100000 in
theorem r5 (N : Nat) (a0 : Int) (a1 : T11) : runF N E5 Tryd.f5 [.imm false (.int .i64), .imm true (.pair (.int .i64) (.pair (.int .i64) (.pair (.int .i64) (.pair (.int .i64) (.pair (.int .i64) (.pair (.int .i64) (.pair (.int .i64) (.pair (.int .i64) (.pair (.pair (.int .i64) (.pair (.int .i64) (.pair (.int .i64) (.pair (.int .i64) (.pair (.int .i64) .unit))))) (.pair (.pair (.int .i64) (.pair (.slice 3 (.int .i64)) .unit)) .unit))))))))))] [.imm false .bool] (a0, a1, ()) = p_laws_FnExactMsgBytes N a0 a1 := by kernel_rfl
theorem env5 : EnvOk Tryd.prog (fa.at false) E5 := envOk mixed tabOk ⟨⟨enters11, ok11, fun _ => rfl⟩, ⟨enters13, ok13, fun _ => rfl⟩, ⟨enters21, ok21, fun _ => rfl⟩, ⟨enters22, ok22, fun h => h⟩, ⟨enters15, ok15, fun _ => rfl⟩, trivial⟩ trivial trivial

end Go.Proofs.YtmnekhlgldljcaaDoor.Am
