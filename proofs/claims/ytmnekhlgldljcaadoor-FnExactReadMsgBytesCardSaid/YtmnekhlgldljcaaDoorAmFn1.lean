/- Functions, as they run on data. No condition. -/
import Derived.Test.YtmnekhlgldljcaaDoorAmFn0
set_option linter.unusedVariables false
set_option maxRecDepth 100000
namespace Go.Proofs.YtmnekhlgldljcaaDoor.Am
open Go.AM Go.AM.P Go.Proofs Go.Shelf
/-! ## loop.example/g00698/impl.ReadMsgBytes -/
noncomputable def E33 : Env := { tab := tab, sig := [(80, s80), (66, s66)], clos := [], live := [], eqs := [], inl := [] }
set_option maxRecDepth 100000 in
theorem r33 (N : Nat) (a0 : Int) (a1 : ByteArray) : runF N E33 Tryd.f33 [.imm false (.int .i64), .imm false .str] [.deep true (.pair (.int .i64) (.pair (.int .i64) (.pair (.int .i64) (.pair (.int .i64) (.pair (.int .i64) (.pair (.int .i64) (.pair (.int .i64) (.pair (.int .i64) (.pair (.pair (.int .i64) (.pair (.int .i64) (.pair (.int .i64) (.pair (.int .i64) (.pair (.int .i64) .unit))))) (.pair (.pair (.int .i64) (.pair (.slice 3 (.int .i64)) .unit)) .unit)))))))))), .imm false .bool] (a0, a1, ()) = p_impl_ReadMsgBytes N a0 a1 := by kernel_rfl
theorem env33 : EnvOk Tryd.prog (fa.at true) E33 := envOk mixed tabOk ⟨⟨enters80, ok80, fun _ => rfl⟩, ⟨enters66, ok66, fun _ => rfl⟩, trivial⟩ trivial trivial
noncomputable def s33 : FSpec := ⟨[.imm false (.int .i64), .imm false .str], [.deep true (.pair (.int .i64) (.pair (.int .i64) (.pair (.int .i64) (.pair (.int .i64) (.pair (.int .i64) (.pair (.int .i64) (.pair (.int .i64) (.pair (.int .i64) (.pair (.pair (.int .i64) (.pair (.int .i64) (.pair (.int .i64) (.pair (.int .i64) (.pair (.int .i64) .unit))))) (.pair (.pair (.int .i64) (.pair (.slice 3 (.int .i64)) .unit)) .unit)))))))))), .imm false .bool], fun x => S_impl_ReadMsgBytes x.1 x.2.1, true⟩
theorem ok33 : FOk Tryd.prog fa 33 s33 := fn_says env33 Tryd.func33 rfl fun x y h => ⟨0, (r33 0 x.1 x.2.1).trans h⟩
theorem enters33 : Enters Tryd.prog 33 := enters Tryd.func33 (by kernel_rfl) rfl

/-! ## loop.example/g00698/laws.eqCmd -/
noncomputable def E51 : Env := { tab := tab, sig := [], clos := [], live := [], eqs := [], inl := [] }
set_option maxRecDepth 100000 in
theorem r51 (N : Nat) (a0 : T2) (a1 : T2) : runF N E51 Tryd.f51 [.imm true (.pair (.int .i64) (.pair (.int .i64) (.pair (.int .i64) (.pair (.int .i64) (.pair (.int .i64) .unit))))), .imm true (.pair (.int .i64) (.pair (.int .i64) (.pair (.int .i64) (.pair (.int .i64) (.pair (.int .i64) .unit)))))] [.imm false .bool] (a0, a1, ()) = p_laws_eqCmd N a0 a1 := by kernel_rfl
theorem env51 : EnvOk Tryd.prog (fa.at true) E51 := envOk mixed tabOk trivial trivial trivial
noncomputable def s51 : FSpec := ⟨[.imm true (.pair (.int .i64) (.pair (.int .i64) (.pair (.int .i64) (.pair (.int .i64) (.pair (.int .i64) .unit))))), .imm true (.pair (.int .i64) (.pair (.int .i64) (.pair (.int .i64) (.pair (.int .i64) (.pair (.int .i64) .unit)))))], [.imm false .bool], fun x => S_laws_eqCmd x.1 x.2.1, true⟩
theorem ok51 : FOk Tryd.prog fa 51 s51 := fn_says env51 Tryd.func51 rfl fun x y h => ⟨0, (r51 0 x.1 x.2.1).trans h⟩
theorem enters51 : Enters Tryd.prog 51 := enters Tryd.func51 (by kernel_rfl) rfl

/-! ## loop.example/g00698/laws.eqIntS -/
noncomputable def E62 : Env := { tab := tab, sig := [], clos := [], live := [(0, [0, 1, 5], [])], eqs := [], inl := [] }
set_option maxRecDepth 100000 in
theorem r62 (N : Nat) (a0 : List Int) (a1 : List Int) : runF N E62 Tryd.f62 [.imm false (.slice 3 (.int .i64)), .imm false (.slice 3 (.int .i64))] [.imm false .bool] (a0, a1, ()) = p_laws_eqIntS N a0 a1 := by kernel_rfl
theorem env62 : EnvOk Tryd.prog (fa.at true) E62 := envOk mixed tabOk trivial trivial trivial
noncomputable def s62 : FSpec := ⟨[.imm false (.slice 3 (.int .i64)), .imm false (.slice 3 (.int .i64))], [.imm false .bool], fun x => S_laws_eqIntS x.1 x.2.1, true⟩
theorem ok62 : FOk Tryd.prog fa 62 s62 := fn_says env62 Tryd.func62 rfl fun x y h => let ⟨N, hN⟩ := lim_some h; ⟨N, (r62 N x.1 x.2.1).trans hN⟩
theorem enters62 : Enters Tryd.prog 62 := enters Tryd.func62 (by kernel_rfl) rfl

/-! ## loop.example/g00698/laws.eqAttr -/
noncomputable def E52 : Env := { tab := tab, sig := [(62, s62)], clos := [], live := [], eqs := [], inl := [] }
set_option maxRecDepth 100000 in
theorem r52 (N : Nat) (a0 : T6) (a1 : T6) : runF N E52 Tryd.f52 [.imm true (.pair (.int .i64) (.pair (.slice 3 (.int .i64)) .unit)), .imm true (.pair (.int .i64) (.pair (.slice 3 (.int .i64)) .unit))] [.imm false .bool] (a0, a1, ()) = p_laws_eqAttr N a0 a1 := by kernel_rfl
theorem env52 : EnvOk Tryd.prog (fa.at true) E52 := envOk mixed tabOk ⟨⟨enters62, ok62, fun _ => rfl⟩, trivial⟩ trivial trivial
noncomputable def s52 : FSpec := ⟨[.imm true (.pair (.int .i64) (.pair (.slice 3 (.int .i64)) .unit)), .imm true (.pair (.int .i64) (.pair (.slice 3 (.int .i64)) .unit))], [.imm false .bool], fun x => S_laws_eqAttr x.1 x.2.1, true⟩
theorem ok52 : FOk Tryd.prog fa 52 s52 := fn_says env52 Tryd.func52 rfl fun x y h => ⟨0, (r52 0 x.1 x.2.1).trans h⟩
theorem enters52 : Enters Tryd.prog 52 := enters Tryd.func52 (by kernel_rfl) rfl

/-! ## loop.example/g00698/laws.eqMsg -/
noncomputable def E15 : Env := { tab := tab, sig := [(51, s51), (52, s52)], clos := [], live := [], eqs := [], inl := [] }
set_option maxRecDepth 100000 in
theorem r15 (N : Nat) (a0 : T11) (a1 : T11) : runF N E15 Tryd.f15 [.imm true (.pair (.int .i64) (.pair (.int .i64) (.pair (.int .i64) (.pair (.int .i64) (.pair (.int .i64) (.pair (.int .i64) (.pair (.int .i64) (.pair (.int .i64) (.pair (.pair (.int .i64) (.pair (.int .i64) (.pair (.int .i64) (.pair (.int .i64) (.pair (.int .i64) .unit))))) (.pair (.pair (.int .i64) (.pair (.slice 3 (.int .i64)) .unit)) .unit)))))))))), .imm true (.pair (.int .i64) (.pair (.int .i64) (.pair (.int .i64) (.pair (.int .i64) (.pair (.int .i64) (.pair (.int .i64) (.pair (.int .i64) (.pair (.int .i64) (.pair (.pair (.int .i64) (.pair (.int .i64) (.pair (.int .i64) (.pair (.int .i64) (.pair (.int .i64) .unit))))) (.pair (.pair (.int .i64) (.pair (.slice 3 (.int .i64)) .unit)) .unit))))))))))] [.imm false .bool] (a0, a1, ()) = p_laws_eqMsg N a0 a1 := by kernel_rfl
theorem env15 : EnvOk Tryd.prog (fa.at true) E15 := envOk mixed tabOk ⟨⟨enters51, ok51, fun _ => rfl⟩, ⟨enters52, ok52, fun _ => rfl⟩, trivial⟩ trivial trivial
noncomputable def s15 : FSpec := ⟨[.imm true (.pair (.int .i64) (.pair (.int .i64) (.pair (.int .i64) (.pair (.int .i64) (.pair (.int .i64) (.pair (.int .i64) (.pair (.int .i64) (.pair (.int .i64) (.pair (.pair (.int .i64) (.pair (.int .i64) (.pair (.int .i64) (.pair (.int .i64) (.pair (.int .i64) .unit))))) (.pair (.pair (.int .i64) (.pair (.slice 3 (.int .i64)) .unit)) .unit)))))))))), .imm true (.pair (.int .i64) (.pair (.int .i64) (.pair (.int .i64) (.pair (.int .i64) (.pair (.int .i64) (.pair (.int .i64) (.pair (.int .i64) (.pair (.int .i64) (.pair (.pair (.int .i64) (.pair (.int .i64) (.pair (.int .i64) (.pair (.int .i64) (.pair (.int .i64) .unit))))) (.pair (.pair (.int .i64) (.pair (.slice 3 (.int .i64)) .unit)) .unit))))))))))], [.imm false .bool], fun x => S_laws_eqMsg x.1 x.2.1, true⟩
theorem ok15 : FOk Tryd.prog fa 15 s15 := fn_says env15 Tryd.func15 rfl fun x y h => ⟨0, (r15 0 x.1 x.2.1).trans h⟩
theorem enters15 : Enters Tryd.prog 15 := enters Tryd.func15 (by kernel_rfl) rfl

/-! ## loop.example/g00698/laws.markIntS -/
noncomputable def E76 : Env := { tab := tab, sig := [], clos := [], live := [(0, [0, 1, 5], [])], eqs := [], inl := [] }
set_option maxRecDepth 100000 in
theorem r76 (N : Nat) (a0 : List Int) (a1 : Int) : runF N E76 Tryd.f76 [.mut false (.slice 3 (.int .i64)), .imm false (.int .i64)] [.imm false (.int .i64)] (a0, a1, ()) = p_laws_markIntS N a0 a1 := by kernel_rfl
theorem env76 : EnvOk Tryd.prog (fa.at true) E76 := envOk mixed tabOk trivial trivial trivial
noncomputable def s76 : FSpec := ⟨[.mut false (.slice 3 (.int .i64)), .imm false (.int .i64)], [.imm false (.int .i64)], fun x => S_laws_markIntS x.1 x.2.1, true⟩
theorem ok76 : FOk Tryd.prog fa 76 s76 := fn_says env76 Tryd.func76 rfl fun x y h => let ⟨N, hN⟩ := lim_some h; ⟨N, (r76 N x.1 x.2.1).trans hN⟩
theorem enters76 : Enters Tryd.prog 76 := enters Tryd.func76 (by kernel_rfl) rfl

/-! ## loop.example/g00698/laws.markAttr -/
noncomputable def E81 : Env := { tab := tab, sig := [(76, s76)], clos := [], live := [], eqs := [], inl := [] }
set_option maxRecDepth 100000 in
theorem r81 (N : Nat) (a0 : T6) (a1 : Int) : runF N E81 Tryd.f81 [.mut true (.pair (.int .i64) (.pair (.slice 3 (.int .i64)) .unit)), .imm false (.int .i64)] [.imm false (.int .i64)] (a0, a1, ()) = p_laws_markAttr N a0 a1 := by kernel_rfl
theorem env81 : EnvOk Tryd.prog (fa.at true) E81 := envOk mixed tabOk ⟨⟨enters76, ok76, fun _ => rfl⟩, trivial⟩ trivial trivial
noncomputable def s81 : FSpec := ⟨[.mut true (.pair (.int .i64) (.pair (.slice 3 (.int .i64)) .unit)), .imm false (.int .i64)], [.imm false (.int .i64)], fun x => S_laws_markAttr x.1 x.2.1, true⟩
theorem ok81 : FOk Tryd.prog fa 81 s81 := fn_says env81 Tryd.func81 rfl fun x y h => ⟨0, (r81 0 x.1 x.2.1).trans h⟩
theorem enters81 : Enters Tryd.prog 81 := enters Tryd.func81 (by kernel_rfl) rfl

/-! ## loop.example/g00698/laws.markMsg -/
noncomputable def E34 : Env := { tab := tab, sig := [(81, s81)], clos := [], live := [], eqs := [], inl := [] }
set_option maxRecDepth 100000 in
theorem r34 (N : Nat) (a0 : T11) (a1 : Int) : runF N E34 Tryd.f34 [.mut true (.pair (.int .i64) (.pair (.int .i64) (.pair (.int .i64) (.pair (.int .i64) (.pair (.int .i64) (.pair (.int .i64) (.pair (.int .i64) (.pair (.int .i64) (.pair (.pair (.int .i64) (.pair (.int .i64) (.pair (.int .i64) (.pair (.int .i64) (.pair (.int .i64) .unit))))) (.pair (.pair (.int .i64) (.pair (.slice 3 (.int .i64)) .unit)) .unit)))))))))), .imm false (.int .i64)] [.imm false (.int .i64)] (a0, a1, ()) = p_laws_markMsg N a0 a1 := by kernel_rfl
theorem env34 : EnvOk Tryd.prog (fa.at true) E34 := envOk mixed tabOk ⟨⟨enters81, ok81, fun _ => rfl⟩, trivial⟩ trivial trivial
noncomputable def s34 : FSpec := ⟨[.mut true (.pair (.int .i64) (.pair (.int .i64) (.pair (.int .i64) (.pair (.int .i64) (.pair (.int .i64) (.pair (.int .i64) (.pair (.int .i64) (.pair (.int .i64) (.pair (.pair (.int .i64) (.pair (.int .i64) (.pair (.int .i64) (.pair (.int .i64) (.pair (.int .i64) .unit))))) (.pair (.pair (.int .i64) (.pair (.slice 3 (.int .i64)) .unit)) .unit)))))))))), .imm false (.int .i64)], [.imm false (.int .i64)], fun x => S_laws_markMsg x.1 x.2.1, true⟩
theorem ok34 : FOk Tryd.prog fa 34 s34 := fn_says env34 Tryd.func34 rfl fun x y h => ⟨0, (r34 0 x.1 x.2.1).trans h⟩
theorem enters34 : Enters Tryd.prog 34 := enters Tryd.func34 (by kernel_rfl) rfl

/-! ## loop.example/g00698/laws.heldIntS -/
noncomputable def E78 : Env := { tab := tab, sig := [], clos := [], live := [(0, [0, 1, 5], [])], eqs := [], inl := [] }
set_option maxRecDepth 100000 in
theorem r78 (N : Nat) (a0 : List Int) (a1 : Int) : runF N E78 Tryd.f78 [.imm false (.slice 3 (.int .i64)), .imm false (.int .i64)] [.imm false (.int .i64)] (a0, a1, ()) = p_laws_heldIntS N a0 a1 := by kernel_rfl
theorem env78 : EnvOk Tryd.prog (fa.at true) E78 := envOk mixed tabOk trivial trivial trivial
noncomputable def s78 : FSpec := ⟨[.imm false (.slice 3 (.int .i64)), .imm false (.int .i64)], [.imm false (.int .i64)], fun x => S_laws_heldIntS x.1 x.2.1, true⟩
theorem ok78 : FOk Tryd.prog fa 78 s78 := fn_says env78 Tryd.func78 rfl fun x y h => let ⟨N, hN⟩ := lim_some h; ⟨N, (r78 N x.1 x.2.1).trans hN⟩
theorem enters78 : Enters Tryd.prog 78 := enters Tryd.func78 (by kernel_rfl) rfl

/-! ## loop.example/g00698/laws.heldAttr -/
noncomputable def E82 : Env := { tab := tab, sig := [(78, s78)], clos := [], live := [], eqs := [], inl := [] }
set_option maxRecDepth 100000 in
theorem r82 (N : Nat) (a0 : T6) (a1 : Int) : runF N E82 Tryd.f82 [.imm true (.pair (.int .i64) (.pair (.slice 3 (.int .i64)) .unit)), .imm false (.int .i64)] [.imm false (.int .i64)] (a0, a1, ()) = p_laws_heldAttr N a0 a1 := by kernel_rfl
theorem env82 : EnvOk Tryd.prog (fa.at true) E82 := envOk mixed tabOk ⟨⟨enters78, ok78, fun _ => rfl⟩, trivial⟩ trivial trivial
noncomputable def s82 : FSpec := ⟨[.imm true (.pair (.int .i64) (.pair (.slice 3 (.int .i64)) .unit)), .imm false (.int .i64)], [.imm false (.int .i64)], fun x => S_laws_heldAttr x.1 x.2.1, true⟩
theorem ok82 : FOk Tryd.prog fa 82 s82 := fn_says env82 Tryd.func82 rfl fun x y h => ⟨0, (r82 0 x.1 x.2.1).trans h⟩
theorem enters82 : Enters Tryd.prog 82 := enters Tryd.func82 (by kernel_rfl) rfl

/-! ## loop.example/g00698/laws.heldMsg -/
noncomputable def E35 : Env := { tab := tab, sig := [(82, s82)], clos := [], live := [], eqs := [], inl := [] }
set_option maxRecDepth 100000 in
theorem r35 (N : Nat) (a0 : T11) (a1 : Int) : runF N E35 Tryd.f35 [.imm true (.pair (.int .i64) (.pair (.int .i64) (.pair (.int .i64) (.pair (.int .i64) (.pair (.int .i64) (.pair (.int .i64) (.pair (.int .i64) (.pair (.int .i64) (.pair (.pair (.int .i64) (.pair (.int .i64) (.pair (.int .i64) (.pair (.int .i64) (.pair (.int .i64) .unit))))) (.pair (.pair (.int .i64) (.pair (.slice 3 (.int .i64)) .unit)) .unit)))))))))), .imm false (.int .i64)] [.imm false (.int .i64)] (a0, a1, ()) = p_laws_heldMsg N a0 a1 := by kernel_rfl
theorem env35 : EnvOk Tryd.prog (fa.at true) E35 := envOk mixed tabOk ⟨⟨enters82, ok82, fun _ => rfl⟩, trivial⟩ trivial trivial
noncomputable def s35 : FSpec := ⟨[.imm true (.pair (.int .i64) (.pair (.int .i64) (.pair (.int .i64) (.pair (.int .i64) (.pair (.int .i64) (.pair (.int .i64) (.pair (.int .i64) (.pair (.int .i64) (.pair (.pair (.int .i64) (.pair (.int .i64) (.pair (.int .i64) (.pair (.int .i64) (.pair (.int .i64) .unit))))) (.pair (.pair (.int .i64) (.pair (.slice 3 (.int .i64)) .unit)) .unit)))))))))), .imm false (.int .i64)], [.imm false (.int .i64)], fun x => S_laws_heldMsg x.1 x.2.1, true⟩
theorem ok35 : FOk Tryd.prog fa 35 s35 := fn_says env35 Tryd.func35 rfl fun x y h => ⟨0, (r35 0 x.1 x.2.1).trans h⟩
theorem enters35 : Enters Tryd.prog 35 := enters Tryd.func35 (by kernel_rfl) rfl

/-! ## loop.example/g00698/laws.FnExactReadMsgBytes -/
noncomputable def E8 : Env := { tab := tab, sig := [(32, s32), (33, s33), (15, s15), (34, s34), (35, s35)], clos := [], live := [], eqs := [], inl := [] }
set_option maxRecDepth 100000 in
theorem r8 (N : Nat) (a0 : Int) (a1 : ByteArray) : runF N E8 Tryd.f8 [.imm false (.int .i64), .imm false .str] [.imm false .bool] (a0, a1, ()) = p_laws_FnExactReadMsgBytes N a0 a1 := by kernel_rfl
theorem env8 : EnvOk Tryd.prog (fa.at true) E8 := envOk mixed tabOk ⟨⟨enters32, ok32, fun _ => rfl⟩, ⟨enters33, ok33, fun _ => rfl⟩, ⟨enters15, ok15, fun _ => rfl⟩, ⟨enters34, ok34, fun _ => rfl⟩, ⟨enters35, ok35, fun _ => rfl⟩, trivial⟩ trivial trivial

end Go.Proofs.YtmnekhlgldljcaaDoor.Am
