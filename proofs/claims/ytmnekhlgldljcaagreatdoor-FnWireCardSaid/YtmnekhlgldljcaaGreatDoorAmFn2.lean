/- Functions, as they run on data. No condition. -/
import Derived.Test.YtmnekhlgldljcaaGreatDoorAmFn1
set_option linter.unusedVariables false
set_option maxRecDepth 100000
namespace Go.Proofs.YtmnekhlgldljcaaGreatDoor.Am
open Go.AM Go.AM.P Go.Proofs Go.Shelf
noncomputable def E40 : Env := { tab := tab, sig := [(43, s43), (48, s48)], clos := [], live := [(0, [0, 1, 5, 6], [])], eqs := [], inl := [] }
set_option maxRecDepth 100000 in
theorem r40 (N : Nat) (a0 : T14) (a1 : Int) : runF N E40 Tryz.f40 [.ptr (.pair (.slice 5 (.int .u8)) (.pair (.int .i64) (.pair (.int .u64) .unit))), .imm false (.int .i64)] [.deep false (.slice 30 (.pair (.int .i64) (.pair (.int .i64) (.pair (.int .i64) (.pair (.int .i64) (.pair (.int .i64) (.pair (.int .i64) (.pair (.int .i64) (.pair (.int .i64) (.pair (.pair (.int .i64) (.pair (.int .i64) (.pair (.int .i64) (.pair (.int .i64) (.pair (.int .i64) .unit))))) (.pair (.pair (.int .i64) (.pair (.slice 3 (.int .i64)) .unit)) .unit)))))))))))] (a0, a1, ()) = p_Pspec_l1Cur_msgs N a0 a1 := by kernel_rfl
theorem env40 : EnvOk Tryz.prog (fa.at true) E40 := envOk mixed tabOk ⟨⟨enters43, ok43, fun _ => rfl⟩, ⟨enters48, ok48, fun _ => rfl⟩, trivial⟩ trivial trivial
noncomputable def s40 : FSpec := ⟨[.ptr (.pair (.slice 5 (.int .u8)) (.pair (.int .i64) (.pair (.int .u64) .unit))), .imm false (.int .i64)], [.deep false (.slice 30 (.pair (.int .i64) (.pair (.int .i64) (.pair (.int .i64) (.pair (.int .i64) (.pair (.int .i64) (.pair (.int .i64) (.pair (.int .i64) (.pair (.int .i64) (.pair (.pair (.int .i64) (.pair (.int .i64) (.pair (.int .i64) (.pair (.int .i64) (.pair (.int .i64) .unit))))) (.pair (.pair (.int .i64) (.pair (.slice 3 (.int .i64)) .unit)) .unit)))))))))))], fun x => S_Pspec_l1Cur_msgs x.1 x.2.1, true⟩
theorem ok40 : FOk Tryz.prog fa 40 s40 := fn_says env40 Tryz.func40 rfl fun x y h => let ⟨N, hN⟩ := lim_some h; ⟨N, (r40 N x.1 x.2.1).trans hN⟩
theorem enters40 : Enters Tryz.prog 40 := enters Tryz.func40 (by kernel_rfl) rfl
noncomputable def E15 : Env := { tab := tab, sig := [(39, s39), (40, s40)], clos := [], live := [], eqs := [], inl := [] }
set_option maxRecDepth 100000 in
theorem r15 (N : Nat) (a0 : List Int) : runF N E15 Tryz.f15 [.imm false (.slice 5 (.int .u8))] [.imm false (.int .i64), .deep false (.slice 30 (.pair (.int .i64) (.pair (.int .i64) (.pair (.int .i64) (.pair (.int .i64) (.pair (.int .i64) (.pair (.int .i64) (.pair (.int .i64) (.pair (.int .i64) (.pair (.pair (.int .i64) (.pair (.int .i64) (.pair (.int .i64) (.pair (.int .i64) (.pair (.int .i64) .unit))))) (.pair (.pair (.int .i64) (.pair (.slice 3 (.int .i64)) .unit)) .unit)))))))))))] (a0, ()) = p_spec_DrawWireOf N a0 := by kernel_rfl
theorem env15 : EnvOk Tryz.prog (fa.at true) E15 := envOk mixed tabOk ⟨⟨enters39, ok39, fun _ => rfl⟩, ⟨enters40, ok40, fun _ => rfl⟩, trivial⟩ trivial trivial
noncomputable def s15 : FSpec := ⟨[.imm false (.slice 5 (.int .u8))], [.imm false (.int .i64), .deep false (.slice 30 (.pair (.int .i64) (.pair (.int .i64) (.pair (.int .i64) (.pair (.int .i64) (.pair (.int .i64) (.pair (.int .i64) (.pair (.int .i64) (.pair (.int .i64) (.pair (.pair (.int .i64) (.pair (.int .i64) (.pair (.int .i64) (.pair (.int .i64) (.pair (.int .i64) .unit))))) (.pair (.pair (.int .i64) (.pair (.slice 3 (.int .i64)) .unit)) .unit)))))))))))], fun x => S_spec_DrawWireOf x.1, true⟩
theorem ok15 : FOk Tryz.prog fa 15 s15 := fn_says env15 Tryz.func15 rfl fun x y h => ⟨0, (r15 0 x.1).trans h⟩
theorem enters15 : Enters Tryz.prog 15 := enters Tryz.func15 (by kernel_rfl) rfl
noncomputable def E41 : Env := { tab := tab, sig := [], clos := [], live := [], eqs := [], inl := [] }
set_option maxRecDepth 100000 in
theorem r41 (N : Nat) (a0 : Int) : runF N E41 Tryz.f41 [.imm false (.int .i64)] [.imm false .bool] (a0, ()) = p_impl_IsGroup N a0 := by kernel_rfl
theorem env41 : EnvOk Tryz.prog (fa.at true) E41 := envOk mixed tabOk trivial trivial trivial
noncomputable def s41 : FSpec := ⟨[.imm false (.int .i64)], [.imm false .bool], fun x => S_impl_IsGroup x.1, true⟩
theorem ok41 : FOk Tryz.prog fa 41 s41 := fn_says env41 Tryz.func41 rfl fun x y h => ⟨0, (r41 0 x.1).trans h⟩
theorem enters41 : Enters Tryz.prog 41 := enters Tryz.func41 (by kernel_rfl) rfl
noncomputable def E33 : Env := { tab := tab, sig := [], clos := [], live := [], eqs := [], inl := [] }
set_option maxRecDepth 100000 in
theorem r33 (N : Nat) (a0 : Int) (a1 : Int) (a2 : Int) : runF N E33 Tryz.f33 [.imm false (.int .i64), .imm false (.int .i64), .imm false (.int .i64)] [.imm false .bool] (a0, a1, a2, ()) = p_impl_within N a0 a1 a2 := by kernel_rfl
theorem env33 : EnvOk Tryz.prog (fa.at true) E33 := envOk mixed tabOk trivial trivial trivial
noncomputable def s33 : FSpec := ⟨[.imm false (.int .i64), .imm false (.int .i64), .imm false (.int .i64)], [.imm false .bool], fun x => S_impl_within x.1 x.2.1 x.2.2.1, true⟩
theorem ok33 : FOk Tryz.prog fa 33 s33 := fn_says env33 Tryz.func33 rfl fun x y h => ⟨0, (r33 0 x.1 x.2.1 x.2.2.1).trans h⟩
theorem enters33 : Enters Tryz.prog 33 := enters Tryz.func33 (by kernel_rfl) rfl
noncomputable def E74 : Env := { tab := tab, sig := [(41, s41), (33, s33)], clos := [], live := [], eqs := [], inl := [] }
set_option maxRecDepth 100000 in
theorem r74 (N : Nat) (a0 : Int) (a1 : Int) (a2 : Int) : runF N E74 Tryz.f74 [.imm false (.int .i64), .imm false (.int .i64), .imm false (.int .i64)] [.imm false .bool] (a0, a1, a2, ()) = p_impl_isInstance N a0 a1 a2 := by kernel_rfl
theorem env74 : EnvOk Tryz.prog (fa.at true) E74 := envOk mixed tabOk ⟨⟨enters41, ok41, fun _ => rfl⟩, ⟨enters33, ok33, fun _ => rfl⟩, trivial⟩ trivial trivial
noncomputable def s74 : FSpec := ⟨[.imm false (.int .i64), .imm false (.int .i64), .imm false (.int .i64)], [.imm false .bool], fun x => S_impl_isInstance x.1 x.2.1 x.2.2.1, true⟩
theorem ok74 : FOk Tryz.prog fa 74 s74 := fn_says env74 Tryz.func74 rfl fun x y h => ⟨0, (r74 0 x.1 x.2.1 x.2.2.1).trans h⟩
theorem enters74 : Enters Tryz.prog 74 := enters Tryz.func74 (by kernel_rfl) rfl
noncomputable def E112 : Env := { tab := tab, sig := [], clos := [], live := [], eqs := [], inl := [] }
set_option maxRecDepth 100000 in
theorem r112 (N : Nat) (a0 : List Int) : runF N E112 Tryz.f112 [.imm false (.slice 3 (.int .i64))] [.deep false (.slice 3 (.int .i64))] (a0, ()) = p_Clone_Lint_int N a0 := by kernel_rfl
theorem env112 : EnvOk Tryz.prog (fa.at true) E112 := envOk mixed tabOk trivial trivial trivial
noncomputable def s112 : FSpec := ⟨[.imm false (.slice 3 (.int .i64))], [.deep false (.slice 3 (.int .i64))], fun x => S_Clone_Lint_int x.1, true⟩
theorem ok112 : FOk Tryz.prog fa 112 s112 := fn_says env112 Tryz.func112 rfl fun x y h => ⟨0, (r112 0 x.1).trans h⟩
theorem enters112 : Enters Tryz.prog 112 := enters Tryz.func112 (by kernel_rfl) rfl
noncomputable def E98 : Env := { tab := tab, sig := [(112, s112)], clos := [], live := [], eqs := [], inl := [] }
set_option maxRecDepth 100000 in
theorem r98 (N : Nat) (a0 : T6) : runF N E98 Tryz.f98 [.imm true (.pair (.int .i64) (.pair (.slice 3 (.int .i64)) .unit))] [.deep true (.pair (.int .i64) (.pair (.slice 3 (.int .i64)) .unit))] (a0, ()) = p_impl_Attr_copied N a0 := by kernel_rfl
theorem env98 : EnvOk Tryz.prog (fa.at true) E98 := envOk mixed tabOk ⟨⟨enters112, ok112, fun _ => rfl⟩, trivial⟩ trivial trivial
noncomputable def s98 : FSpec := ⟨[.imm true (.pair (.int .i64) (.pair (.slice 3 (.int .i64)) .unit))], [.deep true (.pair (.int .i64) (.pair (.slice 3 (.int .i64)) .unit))], fun x => S_impl_Attr_copied x.1, true⟩
theorem ok98 : FOk Tryz.prog fa 98 s98 := fn_says env98 Tryz.func98 rfl fun x y h => ⟨0, (r98 0 x.1).trans h⟩
theorem enters98 : Enters Tryz.prog 98 := enters Tryz.func98 (by kernel_rfl) rfl
noncomputable def E76 : Env := { tab := tab, sig := [(98, s98)], clos := [], live := [], eqs := [], inl := [] }
set_option maxRecDepth 100000 in
theorem r76 (N : Nat) (a0 : T11) : runF N E76 Tryz.f76 [.imm true (.pair (.int .i64) (.pair (.int .i64) (.pair (.int .i64) (.pair (.int .i64) (.pair (.int .i64) (.pair (.int .i64) (.pair (.int .i64) (.pair (.int .i64) (.pair (.pair (.int .i64) (.pair (.int .i64) (.pair (.int .i64) (.pair (.int .i64) (.pair (.int .i64) .unit))))) (.pair (.pair (.int .i64) (.pair (.slice 3 (.int .i64)) .unit)) .unit))))))))))] [.deep true (.pair (.int .i64) (.pair (.int .i64) (.pair (.int .i64) (.pair (.pair (.int .i64) (.pair (.int .i64) (.pair (.int .i64) (.pair (.int .i64) (.pair (.int .i64) .unit))))) (.pair (.pair (.int .i64) (.pair (.slice 3 (.int .i64)) .unit)) .unit)))))] (a0, ()) = p_impl_Msg_row N a0 := by kernel_rfl
theorem env76 : EnvOk Tryz.prog (fa.at true) E76 := envOk mixed tabOk ⟨⟨enters98, ok98, fun _ => rfl⟩, trivial⟩ trivial trivial
noncomputable def s76 : FSpec := ⟨[.imm true (.pair (.int .i64) (.pair (.int .i64) (.pair (.int .i64) (.pair (.int .i64) (.pair (.int .i64) (.pair (.int .i64) (.pair (.int .i64) (.pair (.int .i64) (.pair (.pair (.int .i64) (.pair (.int .i64) (.pair (.int .i64) (.pair (.int .i64) (.pair (.int .i64) .unit))))) (.pair (.pair (.int .i64) (.pair (.slice 3 (.int .i64)) .unit)) .unit))))))))))], [.deep true (.pair (.int .i64) (.pair (.int .i64) (.pair (.int .i64) (.pair (.pair (.int .i64) (.pair (.int .i64) (.pair (.int .i64) (.pair (.int .i64) (.pair (.int .i64) .unit))))) (.pair (.pair (.int .i64) (.pair (.slice 3 (.int .i64)) .unit)) .unit)))))], fun x => S_impl_Msg_row x.1, true⟩
theorem ok76 : FOk Tryz.prog fa 76 s76 := fn_says env76 Tryz.func76 rfl fun x y h => ⟨0, (r76 0 x.1).trans h⟩
theorem enters76 : Enters Tryz.prog 76 := enters Tryz.func76 (by kernel_rfl) rfl
noncomputable def E92 : Env := { tab := tab, sig := [(33, s33)], clos := [], live := [], eqs := [], inl := [] }
set_option maxRecDepth 100000 in
theorem r92 (N : Nat) (a0 : Int) : runF N E92 Tryz.f92 [.imm false (.int .i64)] [.imm false .bool] (a0, ()) = p_impl_isAccount N a0 := by kernel_rfl
theorem env92 : EnvOk Tryz.prog (fa.at true) E92 := envOk mixed tabOk ⟨⟨enters33, ok33, fun _ => rfl⟩, trivial⟩ trivial trivial
noncomputable def s92 : FSpec := ⟨[.imm false (.int .i64)], [.imm false .bool], fun x => S_impl_isAccount x.1, true⟩
theorem ok92 : FOk Tryz.prog fa 92 s92 := fn_says env92 Tryz.func92 rfl fun x y h => ⟨0, (r92 0 x.1).trans h⟩
theorem enters92 : Enters Tryz.prog 92 := enters Tryz.func92 (by kernel_rfl) rfl
noncomputable def E77 : Env := { tab := tab, sig := [(33, s33), (92, s92)], clos := [], live := [], eqs := [(25, [false, false, false, false, false])], inl := [] }
set_option maxRecDepth 100000 in
theorem r77 (N : Nat) (a0 : T2) : runF N E77 Tryz.f77 [.imm true (.pair (.int .i64) (.pair (.int .i64) (.pair (.int .i64) (.pair (.int .i64) (.pair (.int .i64) .unit)))))] [.imm false .bool] (a0, ()) = p_impl_GoodCmd N a0 := by kernel_rfl
theorem env77 : EnvOk Tryz.prog (fa.at true) E77 := envOk mixed tabOk ⟨⟨enters33, ok33, fun _ => rfl⟩, ⟨enters92, ok92, fun _ => rfl⟩, trivial⟩ trivial ⟨eq25, trivial⟩
noncomputable def s77 : FSpec := ⟨[.imm true (.pair (.int .i64) (.pair (.int .i64) (.pair (.int .i64) (.pair (.int .i64) (.pair (.int .i64) .unit)))))], [.imm false .bool], fun x => S_impl_GoodCmd x.1, true⟩
theorem ok77 : FOk Tryz.prog fa 77 s77 := fn_says env77 Tryz.func77 rfl fun x y h => ⟨0, (r77 0 x.1).trans h⟩
theorem enters77 : Enters Tryz.prog 77 := enters Tryz.func77 (by kernel_rfl) rfl
noncomputable def E113 : Env := { tab := tab, sig := [], clos := [], live := [(0, [0, 1, 7, 8], [])], eqs := [], inl := [] }
set_option maxRecDepth 100000 in
theorem r113 (N : Nat) (a0 : List Int) (a1 : (Int × Unit) → Option Bool) : runF N E113 Tryz.f113 [.imm false (.slice 3 (.int .i64)), .clo [(false, (.int .i64))] .bool] [.imm false (.int .i64)] (a0, a1, ()) = p_IndexFunc_Lint_int N a0 a1 := by kernel_rfl
theorem env113 : EnvOk Tryz.prog (fa.at true) E113 := envOk mixed tabOk trivial trivial trivial
noncomputable def s113 : FSpec := ⟨[.imm false (.slice 3 (.int .i64)), .clo [(false, (.int .i64))] .bool], [.imm false (.int .i64)], fun x => S_IndexFunc_Lint_int x.1 x.2.1, true⟩
theorem ok113 : FOk Tryz.prog fa 113 s113 := fn_says env113 Tryz.func113 rfl fun x y h => let ⟨N, hN⟩ := lim_some h; ⟨N, (r113 N x.1 x.2.1).trans hN⟩
theorem enters113 : Enters Tryz.prog 113 := enters Tryz.func113 (by kernel_rfl) rfl
noncomputable def E99 : Env := { tab := tab, sig := [(113, s113)], clos := [], live := [], eqs := [], inl := [] }
set_option maxRecDepth 100000 in
theorem r99 (N : Nat) (a0 : List Int) (a1 : (Int × Unit) → Option Bool) : runF N E99 Tryz.f99 [.imm false (.slice 3 (.int .i64)), .clo [(false, (.int .i64))] .bool] [.imm false .bool] (a0, a1, ()) = p_ContainsFunc_Lint_int N a0 a1 := by kernel_rfl
theorem env99 : EnvOk Tryz.prog (fa.at true) E99 := envOk mixed tabOk ⟨⟨enters113, ok113, fun _ => rfl⟩, trivial⟩ trivial trivial
noncomputable def s99 : FSpec := ⟨[.imm false (.slice 3 (.int .i64)), .clo [(false, (.int .i64))] .bool], [.imm false .bool], fun x => S_ContainsFunc_Lint_int x.1 x.2.1, true⟩
theorem ok99 : FOk Tryz.prog fa 99 s99 := fn_says env99 Tryz.func99 rfl fun x y h => ⟨0, (r99 0 x.1 x.2.1).trans h⟩
theorem enters99 : Enters Tryz.prog 99 := enters Tryz.func99 (by kernel_rfl) rfl
theorem enters100 : Enters Tryz.prog 100 := enters Tryz.func100 (by kernel_rfl) rfl
noncomputable def E78 : Env := { tab := tab, sig := [(41, s41), (33, s33), (99, s99)], clos := [(100, ⟨Tryz.f100, [(false, (.int .i64))], []⟩)], live := [], eqs := [], inl := [] }
set_option maxRecDepth 100000 in
theorem r78 (N : Nat) (a0 : Int) (a1 : T6) : runF N E78 Tryz.f78 [.imm false (.int .i64), .imm true (.pair (.int .i64) (.pair (.slice 3 (.int .i64)) .unit))] [.imm false .bool] (a0, a1, ()) = p_impl_GoodAttr N a0 a1 := by kernel_rfl
theorem env78 : EnvOk Tryz.prog (fa.at true) E78 := envOk mixed tabOk ⟨⟨enters41, ok41, fun _ => rfl⟩, ⟨enters33, ok33, fun _ => rfl⟩, ⟨enters99, ok99, fun _ => rfl⟩, trivial⟩ ⟨⟨Tryz.func100, enters100⟩, trivial⟩ trivial
noncomputable def s78 : FSpec := ⟨[.imm false (.int .i64), .imm true (.pair (.int .i64) (.pair (.slice 3 (.int .i64)) .unit))], [.imm false .bool], fun x => S_impl_GoodAttr x.1 x.2.1, true⟩
theorem ok78 : FOk Tryz.prog fa 78 s78 := fn_says env78 Tryz.func78 rfl fun x y h => ⟨0, (r78 0 x.1 x.2.1).trans h⟩
theorem enters78 : Enters Tryz.prog 78 := enters Tryz.func78 (by kernel_rfl) rfl
noncomputable def E80 : Env := { tab := tab, sig := [], clos := [], live := [], eqs := [], inl := [] }
set_option maxRecDepth 100000 in
theorem r80 (N : Nat) (a0 : Int) : runF N E80 Tryz.f80 [.imm false (.int .i64)] [.deep true (.pair (.int .i64) (.pair (.slice 3 (.int .i64)) .unit))] (a0, ()) = p_impl_noneAttr N a0 := by kernel_rfl
theorem env80 : EnvOk Tryz.prog (fa.at true) E80 := envOk mixed tabOk trivial trivial trivial
noncomputable def s80 : FSpec := ⟨[.imm false (.int .i64)], [.deep true (.pair (.int .i64) (.pair (.slice 3 (.int .i64)) .unit))], fun x => S_impl_noneAttr x.1, true⟩
theorem ok80 : FOk Tryz.prog fa 80 s80 := fn_says env80 Tryz.func80 rfl fun x y h => ⟨0, (r80 0 x.1).trans h⟩
theorem enters80 : Enters Tryz.prog 80 := enters Tryz.func80 (by kernel_rfl) rfl
noncomputable def E101 : Env := { tab := tab, sig := [], clos := [], live := [(0, [0, 1, 12, 13], [])], eqs := [], inl := [] }
set_option maxRecDepth 100000 in
theorem r101 (N : Nat) (a0 : List Int) (a1 : List Int) : runF N E101 Tryz.f101 [.imm false (.slice 3 (.int .i64)), .imm false (.slice 3 (.int .i64))] [.imm false .bool] (a0, a1, ()) = p_Equal_Lint_int N a0 a1 := by kernel_rfl
theorem env101 : EnvOk Tryz.prog (fa.at true) E101 := envOk mixed tabOk trivial trivial trivial
noncomputable def s101 : FSpec := ⟨[.imm false (.slice 3 (.int .i64)), .imm false (.slice 3 (.int .i64))], [.imm false .bool], fun x => S_Equal_Lint_int x.1 x.2.1, true⟩
theorem ok101 : FOk Tryz.prog fa 101 s101 := fn_says env101 Tryz.func101 rfl fun x y h => let ⟨N, hN⟩ := lim_some h; ⟨N, (r101 N x.1 x.2.1).trans hN⟩
theorem enters101 : Enters Tryz.prog 101 := enters Tryz.func101 (by kernel_rfl) rfl
noncomputable def E79 : Env := { tab := tab, sig := [(101, s101)], clos := [], live := [], eqs := [], inl := [] }
set_option maxRecDepth 100000 in
theorem r79 (N : Nat) (a0 : T6) (a1 : T6) : runF N E79 Tryz.f79 [.imm true (.pair (.int .i64) (.pair (.slice 3 (.int .i64)) .unit)), .imm true (.pair (.int .i64) (.pair (.slice 3 (.int .i64)) .unit))] [.imm false .bool] (a0, a1, ()) = p_impl_SameAttr N a0 a1 := by kernel_rfl
theorem env79 : EnvOk Tryz.prog (fa.at true) E79 := envOk mixed tabOk ⟨⟨enters101, ok101, fun _ => rfl⟩, trivial⟩ trivial trivial
noncomputable def s79 : FSpec := ⟨[.imm true (.pair (.int .i64) (.pair (.slice 3 (.int .i64)) .unit)), .imm true (.pair (.int .i64) (.pair (.slice 3 (.int .i64)) .unit))], [.imm false .bool], fun x => S_impl_SameAttr x.1 x.2.1, true⟩
theorem ok79 : FOk Tryz.prog fa 79 s79 := fn_says env79 Tryz.func79 rfl fun x y h => ⟨0, (r79 0 x.1 x.2.1).trans h⟩
theorem enters79 : Enters Tryz.prog 79 := enters Tryz.func79 (by kernel_rfl) rfl
noncomputable def E75 : Env := { tab := tab, sig := [(33, s33), (77, s77), (78, s78), (80, s80), (79, s79)], clos := [], live := [], eqs := [(25, [false, false, false, false, false])], inl := [] }
set_option maxRecDepth 100000 in
theorem r75 (N : Nat) (a0 : Int) (a1 : T7) : runF N E75 Tryz.f75 [.imm false (.int .i64), .imm true (.pair (.int .i64) (.pair (.int .i64) (.pair (.int .i64) (.pair (.pair (.int .i64) (.pair (.int .i64) (.pair (.int .i64) (.pair (.int .i64) (.pair (.int .i64) .unit))))) (.pair (.pair (.int .i64) (.pair (.slice 3 (.int .i64)) .unit)) .unit)))))] [.imm false .bool] (a0, a1, ()) = p_impl_goodRow N a0 a1 := by kernel_rfl
theorem env75 : EnvOk Tryz.prog (fa.at true) E75 := envOk mixed tabOk ⟨⟨enters33, ok33, fun _ => rfl⟩, ⟨enters77, ok77, fun _ => rfl⟩, ⟨enters78, ok78, fun _ => rfl⟩, ⟨enters80, ok80, fun _ => rfl⟩, ⟨enters79, ok79, fun _ => rfl⟩, trivial⟩ trivial ⟨eq25, trivial⟩
noncomputable def s75 : FSpec := ⟨[.imm false (.int .i64), .imm true (.pair (.int .i64) (.pair (.int .i64) (.pair (.int .i64) (.pair (.pair (.int .i64) (.pair (.int .i64) (.pair (.int .i64) (.pair (.int .i64) (.pair (.int .i64) .unit))))) (.pair (.pair (.int .i64) (.pair (.slice 3 (.int .i64)) .unit)) .unit)))))], [.imm false .bool], fun x => S_impl_goodRow x.1 x.2.1, true⟩
theorem ok75 : FOk Tryz.prog fa 75 s75 := fn_says env75 Tryz.func75 rfl fun x y h => ⟨0, (r75 0 x.1 x.2.1).trans h⟩
theorem enters75 : Enters Tryz.prog 75 := enters Tryz.func75 (by kernel_rfl) rfl
noncomputable def E49 : Env := { tab := tab, sig := [(33, s33), (74, s74), (76, s76), (75, s75), (77, s77), (78, s78), (80, s80), (79, s79)], clos := [], live := [], eqs := [(25, [false, false, false, false, false])], inl := [] }
set_option maxRecDepth 100000 in
theorem r49 (N : Nat) (a0 : Int) (a1 : T11) : runF N E49 Tryz.f49 [.imm false (.int .i64), .imm true (.pair (.int .i64) (.pair (.int .i64) (.pair (.int .i64) (.pair (.int .i64) (.pair (.int .i64) (.pair (.int .i64) (.pair (.int .i64) (.pair (.int .i64) (.pair (.pair (.int .i64) (.pair (.int .i64) (.pair (.int .i64) (.pair (.int .i64) (.pair (.int .i64) .unit))))) (.pair (.pair (.int .i64) (.pair (.slice 3 (.int .i64)) .unit)) .unit))))))))))] [.imm false .bool] (a0, a1, ()) = p_impl_GoodMsg N a0 a1 := by kernel_rfl
theorem env49 : EnvOk Tryz.prog (fa.at true) E49 := envOk mixed tabOk ⟨⟨enters33, ok33, fun _ => rfl⟩, ⟨enters74, ok74, fun _ => rfl⟩, ⟨enters76, ok76, fun _ => rfl⟩, ⟨enters75, ok75, fun _ => rfl⟩, ⟨enters77, ok77, fun _ => rfl⟩, ⟨enters78, ok78, fun _ => rfl⟩, ⟨enters80, ok80, fun _ => rfl⟩, ⟨enters79, ok79, fun _ => rfl⟩, trivial⟩ trivial ⟨eq25, trivial⟩
noncomputable def s49 : FSpec := ⟨[.imm false (.int .i64), .imm true (.pair (.int .i64) (.pair (.int .i64) (.pair (.int .i64) (.pair (.int .i64) (.pair (.int .i64) (.pair (.int .i64) (.pair (.int .i64) (.pair (.int .i64) (.pair (.pair (.int .i64) (.pair (.int .i64) (.pair (.int .i64) (.pair (.int .i64) (.pair (.int .i64) .unit))))) (.pair (.pair (.int .i64) (.pair (.slice 3 (.int .i64)) .unit)) .unit))))))))))], [.imm false .bool], fun x => S_impl_GoodMsg x.1 x.2.1, true⟩
theorem ok49 : FOk Tryz.prog fa 49 s49 := fn_says env49 Tryz.func49 rfl fun x y h => ⟨0, (r49 0 x.1 x.2.1).trans h⟩
theorem enters49 : Enters Tryz.prog 49 := enters Tryz.func49 (by kernel_rfl) rfl
noncomputable def E61 : Env := { tab := tab, sig := [], clos := [], live := [], eqs := [], inl := [] }
set_option maxRecDepth 100000 in
theorem r61 (N : Nat)  : runF N E61 Tryz.f61 [] [.deep false (.slice 9 .str)] (()) = p_impl_msgWords N  := by kernel_rfl
theorem env61 : EnvOk Tryz.prog (fa.at true) E61 := envOk mixed tabOk trivial trivial trivial
noncomputable def s61 : FSpec := ⟨[], [.deep false (.slice 9 .str)], fun x => S_impl_msgWords , true⟩
theorem ok61 : FOk Tryz.prog fa 61 s61 := fn_says env61 Tryz.func61 rfl fun x y h => ⟨0, (r61 0 ).trans h⟩
theorem enters61 : Enters Tryz.prog 61 := enters Tryz.func61 (by kernel_rfl) rfl
def Lay103_ren : Go.Shelf.Ren := ⟨fun | 171 => 103 | 243 => 115 | 246 => 124 | 283 => 132 | 284 => 133 | 285 => 134 | 286 => 135 | 129 => 141 | 317 => 140 | 318 => 142 | 319 => 143 | 320 => 144 | 337 => 145 | 338 => 146 | n => n, fun | 3 => 3 | 9 => 9 | 2 => 2 | 4 => 4 | 171 => 139 | 0 => 0 | 53 => 63 | 37 => 22 | 5 => 5 | 173 => 142 | 212 => 155 | 51 => 148 | 20 => 20 | 213 => 156 | 46 => 114 | 232 => 159 | 233 => 160 | n => n, fun | 17 => 3 | 18 => 4 | 19 => 5 | n => n⟩
theorem Lay103 : Go.Proofs.LaysM.n171 Tryz.prog Lay103_ren := {
  mixed := by kernel_rfl
  f129 := Tryz.func141.trans (congrArg some (by kernel_rfl))
  f171 := Tryz.func103.trans (congrArg some (by kernel_rfl))
  f243 := Tryz.func115.trans (congrArg some (by kernel_rfl))
  f246 := Tryz.func124.trans (congrArg some (by kernel_rfl))
  f283 := Tryz.func132.trans (congrArg some (by kernel_rfl))
  f284 := Tryz.func133.trans (congrArg some (by kernel_rfl))
  f285 := Tryz.func134.trans (congrArg some (by kernel_rfl))
  f286 := Tryz.func135.trans (congrArg some (by kernel_rfl))
  f317 := Tryz.func140.trans (congrArg some (by kernel_rfl))
  f318 := Tryz.func142.trans (congrArg some (by kernel_rfl))
  f319 := Tryz.func143.trans (congrArg some (by kernel_rfl))
  f320 := Tryz.func144.trans (congrArg some (by kernel_rfl))
  f337 := Tryz.func145.trans (congrArg some (by kernel_rfl))
  f338 := Tryz.func146.trans (congrArg some (by kernel_rfl))
  t0 := Tryz.underlying0
  a0 := Tryz.isAgg0
  z0 := Tryz.sizeOf0
  v0 := Tryz.zeroValue0
  t2 := Tryz.underlying2
  a2 := Tryz.isAgg2
  z2 := Tryz.sizeOf2
  v2 := Tryz.zeroValue2
  t3 := Tryz.underlying3
  a3 := Tryz.isAgg3
  z3 := Tryz.sizeOf3
  v3 := Tryz.zeroValue3
  t4 := Tryz.underlying4
  a4 := Tryz.isAgg4
  z4 := Tryz.sizeOf4
  v4 := Tryz.zeroValue4
  t5 := Tryz.underlying5
  a5 := Tryz.isAgg5
  z5 := Tryz.sizeOf5
  v5 := Tryz.zeroValue5
  t9 := Tryz.underlying9
  a9 := Tryz.isAgg9
  z9 := Tryz.sizeOf9
  v9 := Tryz.zeroValue9
  t20 := Tryz.underlying20
  a20 := Tryz.isAgg20
  z20 := Tryz.sizeOf20
  v20 := Tryz.zeroValue20
  t37 := Tryz.underlying22
  a37 := Tryz.isAgg22
  z37 := Tryz.sizeOf22
  v37 := Tryz.zeroValue22
  t46 := Tryz.underlying114
  a46 := Tryz.isAgg114
  z46 := Tryz.sizeOf114
  v46 := Tryz.zeroValue114
  t51 := Tryz.underlying148
  a51 := Tryz.isAgg148
  z51 := Tryz.sizeOf148
  v51 := Tryz.zeroValue148
  t53 := Tryz.underlying63
  a53 := Tryz.isAgg63
  z53 := Tryz.sizeOf63
  v53 := Tryz.zeroValue63
  t171 := Tryz.underlying139
  a171 := Tryz.isAgg139
  z171 := Tryz.sizeOf139
  v171 := Tryz.zeroValue139
  t173 := Tryz.underlying142
  a173 := Tryz.isAgg142
  z173 := Tryz.sizeOf142
  v173 := Tryz.zeroValue142
  t212 := Tryz.underlying155
  a212 := Tryz.isAgg155
  z212 := Tryz.sizeOf155
  v212 := Tryz.zeroValue155
  t213 := Tryz.underlying156
  a213 := Tryz.isAgg156
  z213 := Tryz.sizeOf156
  t232 := Tryz.underlying159
  a232 := Tryz.isAgg159
  z232 := Tryz.sizeOf159
  v232 := Tryz.zeroValue159
  t233 := Tryz.underlying160
  a233 := Tryz.isAgg160
  z233 := Tryz.sizeOf160
  v233 := Tryz.zeroValue160
  g17 := by kernel_rfl
  g18 := by kernel_rfl
  g19 := by kernel_rfl
  i0 := by kernel_rfl
  i2 := by kernel_rfl
  i3 := by kernel_rfl
  i4 := by kernel_rfl
  i5 := by kernel_rfl
  i9 := by kernel_rfl
  i20 := by kernel_rfl
  i37 := by kernel_rfl
  i46 := by kernel_rfl
  i51 := by kernel_rfl
  i53 := by kernel_rfl
  i171 := by kernel_rfl
  i173 := by kernel_rfl
  i212 := by kernel_rfl
  i232 := by kernel_rfl
  i233 := by kernel_rfl
  m17 := by kernel_rfl
  m18 := by kernel_rfl
  m19 := by kernel_rfl }
noncomputable def s103 : FSpec := ⟨[.imm false (.int .i64)], [.imm false .str], fun x => S_strconv_Itoa x.1, true⟩
theorem ok103 : FOk Tryz.prog fa 103 s103 := ok_Itoa Lay103 (fun W h => h.2) (g := 3) (by kernel_rfl) (by decide)
theorem enters103 : Enters Tryz.prog 103 := enters Tryz.func103 (by kernel_rfl) rfl
def Lay114_ren : Go.Shelf.Ren := ⟨fun | 156 => 114 | 165 => 121 | 166 => 122 | 169 => 123 | 240 => 130 | 241 => 131 | 276 => 138 | 277 => 139 | n => n, fun | 31 => 75 | 9 => 9 | 3 => 3 | 4 => 4 | 0 => 0 | 20 => 20 | 72 => 130 | 76 => 134 | 70 => 128 | 37 => 22 | 75 => 133 | 127 => 138 | 164 => 151 | 5 => 5 | 80 => 136 | n => n, fun | n => n⟩
theorem Lay114 : Go.Proofs.Lays.n156 Tryz.prog Lay114_ren := {
  mixed := by kernel_rfl
  f156 := Tryz.func114.trans (congrArg some (by kernel_rfl))
  f165 := Tryz.func121.trans (congrArg some (by kernel_rfl))
  f166 := Tryz.func122.trans (congrArg some (by kernel_rfl))
  f169 := Tryz.func123.trans (congrArg some (by kernel_rfl))
  f240 := Tryz.func130.trans (congrArg some (by kernel_rfl))
  f241 := Tryz.func131.trans (congrArg some (by kernel_rfl))
  f276 := Tryz.func138.trans (congrArg some (by kernel_rfl))
  f277 := Tryz.func139.trans (congrArg some (by kernel_rfl))
  t0 := Tryz.underlying0
  a0 := Tryz.isAgg0
  z0 := Tryz.sizeOf0
  v0 := Tryz.zeroValue0
  t3 := Tryz.underlying3
  a3 := Tryz.isAgg3
  z3 := Tryz.sizeOf3
  v3 := Tryz.zeroValue3
  t4 := Tryz.underlying4
  a4 := Tryz.isAgg4
  z4 := Tryz.sizeOf4
  v4 := Tryz.zeroValue4
  t9 := Tryz.underlying9
  a9 := Tryz.isAgg9
  z9 := Tryz.sizeOf9
  v9 := Tryz.zeroValue9
  t20 := Tryz.underlying20
  a20 := Tryz.isAgg20
  z20 := Tryz.sizeOf20
  v20 := Tryz.zeroValue20
  t31 := Tryz.underlying75
  a31 := Tryz.isAgg75
  z31 := Tryz.sizeOf75
  v31 := Tryz.zeroValue75
  t37 := Tryz.underlying22
  a37 := Tryz.isAgg22
  z37 := Tryz.sizeOf22
  v37 := Tryz.zeroValue22
  t70 := Tryz.underlying128
  a70 := Tryz.isAgg128
  z70 := Tryz.sizeOf128
  v70 := Tryz.zeroValue128
  t72 := Tryz.underlying130
  a72 := Tryz.isAgg130
  z72 := Tryz.sizeOf130
  v72 := Tryz.zeroValue130
  t75 := Tryz.underlying133
  a75 := Tryz.isAgg133
  z75 := Tryz.sizeOf133
  v75 := Tryz.zeroValue133
  t76 := Tryz.underlying134
  a76 := Tryz.isAgg134
  z76 := Tryz.sizeOf134
  v76 := Tryz.zeroValue134
  t127 := Tryz.underlying138
  a127 := Tryz.isAgg138
  z127 := Tryz.sizeOf138
  v127 := Tryz.zeroValue138
  t164 := Tryz.underlying151
  a164 := Tryz.isAgg151
  z164 := Tryz.sizeOf151
  v164 := Tryz.zeroValue151 }
theorem LayX114 : Builder.Extra Tryz.prog Lay114_ren where
  sizeBuilder := by kernel_rfl
  liesBuilder := by kernel_rfl
  t5 := Tryz.underlying5
  a5 := Tryz.isAgg5
  z5 := Tryz.sizeOf5
  v5 := Tryz.zeroValue5
  infoByte := by kernel_rfl
  cellsByte := by kernel_rfl
  sizeByte := by kernel_rfl
  neB5 := by decide
noncomputable def s114 : FSpec := ⟨[.imm false (.slice 9 .str), .imm false .str], [.imm false .str], fun x => S_strings_Join x.1 x.2.1, false⟩
theorem ok114 : FOk Tryz.prog fa 114 s114 := ok_Join Lay114 LayX114
theorem enters114 : Enters Tryz.prog 114 := enters Tryz.func114 (by kernel_rfl) rfl
noncomputable def E102 : Env := { tab := tab, sig := [(103, s103), (114, s114)], clos := [], live := [(0, [0, 5, 9, 10, 11], [])], eqs := [], inl := [], q := false }
set_option maxRecDepth 100000 in
theorem r102 (N : Nat) (a0 : ByteArray) (a1 : List Int) : runF N E102 Tryz.f102 [.imm false .str, .imm false (.slice 3 (.int .i64))] [.imm false .str] (a0, a1, ()) = p_impl_joined N a0 a1 := by kernel_rfl
theorem env102 : EnvOk Tryz.prog (fa.at false) E102 := envOk mixed tabOk ⟨⟨enters103, ok103, fun _ => rfl⟩, ⟨enters114, ok114, fun h => h⟩, trivial⟩ trivial trivial
noncomputable def s102 : FSpec := ⟨[.imm false .str, .imm false (.slice 3 (.int .i64))], [.imm false .str], fun x => S_impl_joined x.1 x.2.1, false⟩
theorem ok102 : FOk Tryz.prog fa 102 s102 := fn_says env102 Tryz.func102 rfl fun x y h => let ⟨N, hN⟩ := lim_some h; ⟨N, (r102 N x.1 x.2.1).trans hN⟩
theorem enters102 : Enters Tryz.prog 102 := enters Tryz.func102 (by kernel_rfl) rfl
noncomputable def E81 : Env := { tab := tab, sig := [(102, s102)], clos := [], live := [], eqs := [], inl := [], q := false }
set_option maxRecDepth 100000 in
theorem r81 (N : Nat) (a0 : List Int) : runF N E81 Tryz.f81 [.imm false (.slice 3 (.int .i64))] [.imm false .str] (a0, ()) = p_impl_spelled N a0 := by kernel_rfl
theorem env81 : EnvOk Tryz.prog (fa.at false) E81 := envOk mixed tabOk ⟨⟨enters102, ok102, fun h => h⟩, trivial⟩ trivial trivial
noncomputable def s81 : FSpec := ⟨[.imm false (.slice 3 (.int .i64))], [.imm false .str], fun x => S_impl_spelled x.1, false⟩
theorem ok81 : FOk Tryz.prog fa 81 s81 := fn_says env81 Tryz.func81 rfl fun x y h => ⟨0, (r81 0 x.1).trans h⟩
theorem enters81 : Enters Tryz.prog 81 := enters Tryz.func81 (by kernel_rfl) rfl
noncomputable def E82 : Env := { tab := tab, sig := [(81, s81)], clos := [], live := [], eqs := [], inl := [], q := false }
set_option maxRecDepth 100000 in
theorem r82 (N : Nat) (a0 : T2) : runF N E82 Tryz.f82 [.imm true (.pair (.int .i64) (.pair (.int .i64) (.pair (.int .i64) (.pair (.int .i64) (.pair (.int .i64) .unit)))))] [.imm false .str] (a0, ()) = p_impl_cmdText N a0 := by kernel_rfl
theorem env82 : EnvOk Tryz.prog (fa.at false) E82 := envOk mixed tabOk ⟨⟨enters81, ok81, fun h => h⟩, trivial⟩ trivial trivial
noncomputable def s82 : FSpec := ⟨[.imm true (.pair (.int .i64) (.pair (.int .i64) (.pair (.int .i64) (.pair (.int .i64) (.pair (.int .i64) .unit)))))], [.imm false .str], fun x => S_impl_cmdText x.1, false⟩
theorem ok82 : FOk Tryz.prog fa 82 s82 := fn_says env82 Tryz.func82 rfl fun x y h => ⟨0, (r82 0 x.1).trans h⟩
theorem enters82 : Enters Tryz.prog 82 := enters Tryz.func82 (by kernel_rfl) rfl
noncomputable def E83 : Env := { tab := tab, sig := [(103, s103), (102, s102)], clos := [], live := [], eqs := [], inl := [], q := false }
set_option maxRecDepth 100000 in
theorem r83 (N : Nat) (a0 : T6) : runF N E83 Tryz.f83 [.imm true (.pair (.int .i64) (.pair (.slice 3 (.int .i64)) .unit))] [.imm false .str] (a0, ()) = p_impl_attrText N a0 := by kernel_rfl
theorem env83 : EnvOk Tryz.prog (fa.at false) E83 := envOk mixed tabOk ⟨⟨enters103, ok103, fun _ => rfl⟩, ⟨enters102, ok102, fun h => h⟩, trivial⟩ trivial trivial
noncomputable def s83 : FSpec := ⟨[.imm true (.pair (.int .i64) (.pair (.slice 3 (.int .i64)) .unit))], [.imm false .str], fun x => S_impl_attrText x.1, false⟩
theorem ok83 : FOk Tryz.prog fa 83 s83 := fn_says env83 Tryz.func83 rfl fun x y h => ⟨0, (r83 0 x.1).trans h⟩
theorem enters83 : Enters Tryz.prog 83 := enters Tryz.func83 (by kernel_rfl) rfl
noncomputable def E50 : Env := { tab := tab, sig := [(61, s61), (81, s81), (82, s82), (83, s83)], clos := [], live := [], eqs := [], inl := [], q := false, imm := [3] }
set_option maxRecDepth 100000 in
theorem r50 (N : Nat) (a0 : T11) : runF N E50 Tryz.f50 [.imm true (.pair (.int .i64) (.pair (.int .i64) (.pair (.int .i64) (.pair (.int .i64) (.pair (.int .i64) (.pair (.int .i64) (.pair (.int .i64) (.pair (.int .i64) (.pair (.pair (.int .i64) (.pair (.int .i64) (.pair (.int .i64) (.pair (.int .i64) (.pair (.int .i64) .unit))))) (.pair (.pair (.int .i64) (.pair (.slice 3 (.int .i64)) .unit)) .unit))))))))))] [.imm false .str] (a0, ()) = p_impl_msgText N a0 := by kernel_rfl
theorem env50 : EnvOk Tryz.prog (fa.at false) E50 := envOk mixed tabOk ⟨⟨enters61, ok61, fun _ => rfl⟩, ⟨enters81, ok81, fun h => h⟩, ⟨enters82, ok82, fun h => h⟩, ⟨enters83, ok83, fun h => h⟩, trivial⟩ trivial trivial
noncomputable def s50 : FSpec := ⟨[.imm true (.pair (.int .i64) (.pair (.int .i64) (.pair (.int .i64) (.pair (.int .i64) (.pair (.int .i64) (.pair (.int .i64) (.pair (.int .i64) (.pair (.int .i64) (.pair (.pair (.int .i64) (.pair (.int .i64) (.pair (.int .i64) (.pair (.int .i64) (.pair (.int .i64) .unit))))) (.pair (.pair (.int .i64) (.pair (.slice 3 (.int .i64)) .unit)) .unit))))))))))], [.imm false .str], fun x => S_impl_msgText x.1, false⟩
theorem ok50 : FOk Tryz.prog fa 50 s50 := fn_says env50 Tryz.func50 rfl fun x y h => ⟨0, (r50 0 x.1).trans h⟩
theorem enters50 : Enters Tryz.prog 50 := enters Tryz.func50 (by kernel_rfl) rfl
noncomputable def E28 : Env := { tab := tab, sig := [(49, s49), (50, s50)], clos := [], live := [], eqs := [], inl := [], q := false }
set_option maxRecDepth 100000 in
theorem r28 (N : Nat) (a0 : Int) (a1 : T11) : runF N E28 Tryz.f28 [.imm false (.int .i64), .imm true (.pair (.int .i64) (.pair (.int .i64) (.pair (.int .i64) (.pair (.int .i64) (.pair (.int .i64) (.pair (.int .i64) (.pair (.int .i64) (.pair (.int .i64) (.pair (.pair (.int .i64) (.pair (.int .i64) (.pair (.int .i64) (.pair (.int .i64) (.pair (.int .i64) .unit))))) (.pair (.pair (.int .i64) (.pair (.slice 3 (.int .i64)) .unit)) .unit))))))))))] [.imm false .str, .imm false .bool] (a0, a1, ()) = p_impl_MsgText N a0 a1 := by kernel_rfl
theorem env28 : EnvOk Tryz.prog (fa.at false) E28 := envOk mixed tabOk ⟨⟨enters49, ok49, fun _ => rfl⟩, ⟨enters50, ok50, fun h => h⟩, trivial⟩ trivial trivial
noncomputable def s28 : FSpec := ⟨[.imm false (.int .i64), .imm true (.pair (.int .i64) (.pair (.int .i64) (.pair (.int .i64) (.pair (.int .i64) (.pair (.int .i64) (.pair (.int .i64) (.pair (.int .i64) (.pair (.int .i64) (.pair (.pair (.int .i64) (.pair (.int .i64) (.pair (.int .i64) (.pair (.int .i64) (.pair (.int .i64) .unit))))) (.pair (.pair (.int .i64) (.pair (.slice 3 (.int .i64)) .unit)) .unit))))))))))], [.imm false .str, .imm false .bool], fun x => S_impl_MsgText x.1 x.2.1, false⟩
theorem ok28 : FOk Tryz.prog fa 28 s28 := fn_says env28 Tryz.func28 rfl fun x y h => ⟨0, (r28 0 x.1 x.2.1).trans h⟩
theorem enters28 : Enters Tryz.prog 28 := enters Tryz.func28 (by kernel_rfl) rfl
noncomputable def E52 : Env := { tab := tab, sig := [], clos := [], live := [(0, [0, 1, 2, 9, 10], [])], eqs := [], inl := [] }
set_option maxRecDepth 100000 in
theorem r52 (N : Nat) (a0 : ByteArray) (a1 : Int) (a2 : Int) : runF N E52 Tryz.f52 [.imm false .str, .imm false (.int .i64), .imm false (.int .i64)] [.imm false (.int .i64)] (a0, a1, a2, ()) = p_impl_sumOf N a0 a1 a2 := by kernel_rfl
theorem env52 : EnvOk Tryz.prog (fa.at true) E52 := envOk mixed tabOk trivial trivial trivial
noncomputable def s52 : FSpec := ⟨[.imm false .str, .imm false (.int .i64), .imm false (.int .i64)], [.imm false (.int .i64)], fun x => S_impl_sumOf x.1 x.2.1 x.2.2.1, true⟩
theorem ok52 : FOk Tryz.prog fa 52 s52 := fn_says env52 Tryz.func52 rfl fun x y h => let ⟨N, hN⟩ := lim_some h; ⟨N, (r52 N x.1 x.2.1 x.2.2.1).trans hN⟩
theorem enters52 : Enters Tryz.prog 52 := enters Tryz.func52 (by kernel_rfl) rfl
noncomputable def E51 : Env := { tab := tab, sig := [], clos := [], live := [], eqs := [], inl := [] }
set_option maxRecDepth 100000 in
theorem r51 (N : Nat) (a0 : Int) : runF N E51 Tryz.f51 [.imm false (.int .i64)] [.imm false .str] (a0, ()) = p_impl_twoBytes N a0 := by kernel_rfl
theorem env51 : EnvOk Tryz.prog (fa.at true) E51 := envOk mixed tabOk trivial trivial trivial
noncomputable def s51 : FSpec := ⟨[.imm false (.int .i64)], [.imm false .str], fun x => S_impl_twoBytes x.1, true⟩
theorem ok51 : FOk Tryz.prog fa 51 s51 := fn_says env51 Tryz.func51 rfl fun x y h => ⟨0, (r51 0 x.1).trans h⟩
theorem enters51 : Enters Tryz.prog 51 := enters Tryz.func51 (by kernel_rfl) rfl
noncomputable def E29 : Env := { tab := tab, sig := [(52, s52), (51, s51)], clos := [], live := [], eqs := [], inl := [] }
set_option maxRecDepth 100000 in
theorem r29 (N : Nat) (a0 : ByteArray) : runF N E29 Tryz.f29 [.imm false .str] [.imm false .str] (a0, ()) = p_impl_wireBytes N a0 := by kernel_rfl
theorem env29 : EnvOk Tryz.prog (fa.at true) E29 := envOk mixed tabOk ⟨⟨enters52, ok52, fun _ => rfl⟩, ⟨enters51, ok51, fun _ => rfl⟩, trivial⟩ trivial trivial
noncomputable def s29 : FSpec := ⟨[.imm false .str], [.imm false .str], fun x => S_impl_wireBytes x.1, true⟩
theorem ok29 : FOk Tryz.prog fa 29 s29 := fn_says env29 Tryz.func29 rfl fun x y h => ⟨0, (r29 0 x.1).trans h⟩
theorem enters29 : Enters Tryz.prog 29 := enters Tryz.func29 (by kernel_rfl) rfl
noncomputable def E7 : Env := { tab := tab, sig := [(28, s28), (29, s29)], clos := [], live := [], eqs := [], inl := [], q := false }
set_option maxRecDepth 100000 in
theorem r7 (N : Nat) (a0 : Int) (a1 : T11) : runF N E7 Tryz.f7 [.imm false (.int .i64), .imm true (.pair (.int .i64) (.pair (.int .i64) (.pair (.int .i64) (.pair (.int .i64) (.pair (.int .i64) (.pair (.int .i64) (.pair (.int .i64) (.pair (.int .i64) (.pair (.pair (.int .i64) (.pair (.int .i64) (.pair (.int .i64) (.pair (.int .i64) (.pair (.int .i64) .unit))))) (.pair (.pair (.int .i64) (.pair (.slice 3 (.int .i64)) .unit)) .unit))))))))))] [.imm false .str, .imm false .bool] (a0, a1, ()) = p_impl_MsgBytes N a0 a1 := by kernel_rfl
theorem env7 : EnvOk Tryz.prog (fa.at false) E7 := envOk mixed tabOk ⟨⟨enters28, ok28, fun h => h⟩, ⟨enters29, ok29, fun _ => rfl⟩, trivial⟩ trivial trivial
noncomputable def s7 : FSpec := ⟨[.imm false (.int .i64), .imm true (.pair (.int .i64) (.pair (.int .i64) (.pair (.int .i64) (.pair (.int .i64) (.pair (.int .i64) (.pair (.int .i64) (.pair (.int .i64) (.pair (.int .i64) (.pair (.pair (.int .i64) (.pair (.int .i64) (.pair (.int .i64) (.pair (.int .i64) (.pair (.int .i64) .unit))))) (.pair (.pair (.int .i64) (.pair (.slice 3 (.int .i64)) .unit)) .unit))))))))))], [.imm false .str, .imm false .bool], fun x => S_impl_MsgBytes x.1 x.2.1, false⟩
theorem ok7 : FOk Tryz.prog fa 7 s7 := fn_says env7 Tryz.func7 rfl fun x y h => ⟨0, (r7 0 x.1 x.2.1).trans h⟩
theorem enters7 : Enters Tryz.prog 7 := enters Tryz.func7 (by kernel_rfl) rfl
noncomputable def E16 : Env := { tab := tab, sig := [(41, s41), (7, s7)], clos := [], live := [(0, [0, 6, 14, 15, 16, 32, 33, 34], [])], eqs := [], inl := [], q := false }
set_option maxRecDepth 100000 in
theorem r16 (N : Nat) (a0 : Int) (a1 : List T11) : runF N E16 Tryz.f16 [.imm false (.int .i64), .imm false (.slice 30 (.pair (.int .i64) (.pair (.int .i64) (.pair (.int .i64) (.pair (.int .i64) (.pair (.int .i64) (.pair (.int .i64) (.pair (.int .i64) (.pair (.int .i64) (.pair (.pair (.int .i64) (.pair (.int .i64) (.pair (.int .i64) (.pair (.int .i64) (.pair (.int .i64) .unit))))) (.pair (.pair (.int .i64) (.pair (.slice 3 (.int .i64)) .unit)) .unit)))))))))))] [.imm false .str, .imm false .bool] (a0, a1, ()) = p_impl_WireOf N a0 a1 := by kernel_rfl
theorem env16 : EnvOk Tryz.prog (fa.at false) E16 := envOk mixed tabOk ⟨⟨enters41, ok41, fun _ => rfl⟩, ⟨enters7, ok7, fun h => h⟩, trivial⟩ trivial trivial
noncomputable def s16 : FSpec := ⟨[.imm false (.int .i64), .imm false (.slice 30 (.pair (.int .i64) (.pair (.int .i64) (.pair (.int .i64) (.pair (.int .i64) (.pair (.int .i64) (.pair (.int .i64) (.pair (.int .i64) (.pair (.int .i64) (.pair (.pair (.int .i64) (.pair (.int .i64) (.pair (.int .i64) (.pair (.int .i64) (.pair (.int .i64) .unit))))) (.pair (.pair (.int .i64) (.pair (.slice 3 (.int .i64)) .unit)) .unit)))))))))))], [.imm false .str, .imm false .bool], fun x => S_impl_WireOf x.1 x.2.1, false⟩
theorem ok16 : FOk Tryz.prog fa 16 s16 := fn_says env16 Tryz.func16 rfl fun x y h => let ⟨N, hN⟩ := lim_some h; ⟨N, (r16 N x.1 x.2.1).trans hN⟩
theorem enters16 : Enters Tryz.prog 16 := enters Tryz.func16 (by kernel_rfl) rfl
noncomputable def E37 : Env := { tab := tab, sig := [], clos := [], live := [], eqs := [], inl := [] }
set_option maxRecDepth 100000 in
theorem r37 (N : Nat) (a0 : Int) : runF N E37 Tryz.f37 [.imm false (.int .i64)] [.imm false .bool] (a0, ()) = p_spec_IsGroup N a0 := by kernel_rfl
theorem env37 : EnvOk Tryz.prog (fa.at true) E37 := envOk mixed tabOk trivial trivial trivial
noncomputable def s37 : FSpec := ⟨[.imm false (.int .i64)], [.imm false .bool], fun x => S_spec_IsGroup x.1, true⟩
theorem ok37 : FOk Tryz.prog fa 37 s37 := fn_says env37 Tryz.func37 rfl fun x y h => ⟨0, (r37 0 x.1).trans h⟩
theorem enters37 : Enters Tryz.prog 37 := enters Tryz.func37 (by kernel_rfl) rfl
noncomputable def E45 : Env := { tab := tab, sig := [], clos := [], live := [], eqs := [], inl := [] }
set_option maxRecDepth 100000 in
theorem r45 (N : Nat) (a0 : Int) (a1 : Int) (a2 : Int) : runF N E45 Tryz.f45 [.imm false (.int .i64), .imm false (.int .i64), .imm false (.int .i64)] [.imm false .bool] (a0, a1, a2, ()) = p_spec_l1In N a0 a1 a2 := by kernel_rfl
theorem env45 : EnvOk Tryz.prog (fa.at true) E45 := envOk mixed tabOk trivial trivial trivial
noncomputable def s45 : FSpec := ⟨[.imm false (.int .i64), .imm false (.int .i64), .imm false (.int .i64)], [.imm false .bool], fun x => S_spec_l1In x.1 x.2.1 x.2.2.1, true⟩
theorem ok45 : FOk Tryz.prog fa 45 s45 := fn_says env45 Tryz.func45 rfl fun x y h => ⟨0, (r45 0 x.1 x.2.1 x.2.2.1).trans h⟩
theorem enters45 : Enters Tryz.prog 45 := enters Tryz.func45 (by kernel_rfl) rfl
noncomputable def E84 : Env := { tab := tab, sig := [(45, s45)], clos := [], live := [], eqs := [], inl := [] }
set_option maxRecDepth 100000 in
theorem r84 (N : Nat) (a0 : Int) (a1 : Int) (a2 : Int) : runF N E84 Tryz.f84 [.imm false (.int .i64), .imm false (.int .i64), .imm false (.int .i64)] [.imm false .bool] (a0, a1, a2, ()) = p_spec_l3Inst N a0 a1 a2 := by kernel_rfl
theorem env84 : EnvOk Tryz.prog (fa.at true) E84 := envOk mixed tabOk ⟨⟨enters45, ok45, fun _ => rfl⟩, trivial⟩ trivial trivial
noncomputable def s84 : FSpec := ⟨[.imm false (.int .i64), .imm false (.int .i64), .imm false (.int .i64)], [.imm false .bool], fun x => S_spec_l3Inst x.1 x.2.1 x.2.2.1, true⟩
theorem ok84 : FOk Tryz.prog fa 84 s84 := fn_says env84 Tryz.func84 rfl fun x y h => ⟨0, (r84 0 x.1 x.2.1 x.2.2.1).trans h⟩
theorem enters84 : Enters Tryz.prog 84 := enters Tryz.func84 (by kernel_rfl) rfl
noncomputable def E106 : Env := { tab := tab, sig := [], clos := [], live := [(0, [0, 1, 12, 13], [])], eqs := [], inl := [] }
set_option maxRecDepth 100000 in
theorem r106 (N : Nat) (a0 : List Int) (a1 : List Int) : runF N E106 Tryz.f106 [.imm false (.slice 3 (.int .i64)), .imm false (.slice 3 (.int .i64))] [.imm false .bool] (a0, a1, ()) = p_spec_l1Same N a0 a1 := by kernel_rfl
theorem env106 : EnvOk Tryz.prog (fa.at true) E106 := envOk mixed tabOk trivial trivial trivial
noncomputable def s106 : FSpec := ⟨[.imm false (.slice 3 (.int .i64)), .imm false (.slice 3 (.int .i64))], [.imm false .bool], fun x => S_spec_l1Same x.1 x.2.1, true⟩
theorem ok106 : FOk Tryz.prog fa 106 s106 := fn_says env106 Tryz.func106 rfl fun x y h => let ⟨N, hN⟩ := lim_some h; ⟨N, (r106 N x.1 x.2.1).trans hN⟩
theorem enters106 : Enters Tryz.prog 106 := enters Tryz.func106 (by kernel_rfl) rfl
noncomputable def E88 : Env := { tab := tab, sig := [(106, s106)], clos := [], live := [], eqs := [], inl := [] }
set_option maxRecDepth 100000 in
theorem r88 (N : Nat) (a0 : T6) (a1 : T6) : runF N E88 Tryz.f88 [.imm true (.pair (.int .i64) (.pair (.slice 3 (.int .i64)) .unit)), .imm true (.pair (.int .i64) (.pair (.slice 3 (.int .i64)) .unit))] [.imm false .bool] (a0, a1, ()) = p_spec_SameAttr N a0 a1 := by kernel_rfl
theorem env88 : EnvOk Tryz.prog (fa.at true) E88 := envOk mixed tabOk ⟨⟨enters106, ok106, fun _ => rfl⟩, trivial⟩ trivial trivial
noncomputable def s88 : FSpec := ⟨[.imm true (.pair (.int .i64) (.pair (.slice 3 (.int .i64)) .unit)), .imm true (.pair (.int .i64) (.pair (.slice 3 (.int .i64)) .unit))], [.imm false .bool], fun x => S_spec_SameAttr x.1 x.2.1, true⟩
theorem ok88 : FOk Tryz.prog fa 88 s88 := fn_says env88 Tryz.func88 rfl fun x y h => ⟨0, (r88 0 x.1 x.2.1).trans h⟩
theorem enters88 : Enters Tryz.prog 88 := enters Tryz.func88 (by kernel_rfl) rfl
noncomputable def E116 : Env := { tab := tab, sig := [(45, s45)], clos := [], live := [], eqs := [], inl := [] }
set_option maxRecDepth 100000 in
theorem r116 (N : Nat) (a0 : Int) : runF N E116 Tryz.f116 [.imm false (.int .i64)] [.imm false .bool] (a0, ()) = p_spec_l2Account N a0 := by kernel_rfl
theorem env116 : EnvOk Tryz.prog (fa.at true) E116 := envOk mixed tabOk ⟨⟨enters45, ok45, fun _ => rfl⟩, trivial⟩ trivial trivial
noncomputable def s116 : FSpec := ⟨[.imm false (.int .i64)], [.imm false .bool], fun x => S_spec_l2Account x.1, true⟩
theorem ok116 : FOk Tryz.prog fa 116 s116 := fn_says env116 Tryz.func116 rfl fun x y h => ⟨0, (r116 0 x.1).trans h⟩
theorem enters116 : Enters Tryz.prog 116 := enters Tryz.func116 (by kernel_rfl) rfl
noncomputable def E105 : Env := { tab := tab, sig := [(116, s116), (45, s45)], clos := [], live := [], eqs := [], inl := [] }
set_option maxRecDepth 100000 in
theorem r105 (N : Nat) (a0 : T2) : runF N E105 Tryz.f105 [.imm true (.pair (.int .i64) (.pair (.int .i64) (.pair (.int .i64) (.pair (.int .i64) (.pair (.int .i64) .unit)))))] [.imm false (.int .i64)] (a0, ()) = p_spec_l2Code N a0 := by kernel_rfl
theorem env105 : EnvOk Tryz.prog (fa.at true) E105 := envOk mixed tabOk ⟨⟨enters116, ok116, fun _ => rfl⟩, ⟨enters45, ok45, fun _ => rfl⟩, trivial⟩ trivial trivial
noncomputable def s105 : FSpec := ⟨[.imm true (.pair (.int .i64) (.pair (.int .i64) (.pair (.int .i64) (.pair (.int .i64) (.pair (.int .i64) .unit)))))], [.imm false (.int .i64)], fun x => S_spec_l2Code x.1, true⟩
theorem ok105 : FOk Tryz.prog fa 105 s105 := fn_says env105 Tryz.func105 rfl fun x y h => ⟨0, (r105 0 x.1).trans h⟩
theorem enters105 : Enters Tryz.prog 105 := enters Tryz.func105 (by kernel_rfl) rfl
noncomputable def E87 : Env := { tab := tab, sig := [(105, s105)], clos := [], live := [], eqs := [(25, [false, false, false, false, false])], inl := [] }
set_option maxRecDepth 100000 in
theorem r87 (N : Nat) (a0 : T2) : runF N E87 Tryz.f87 [.imm true (.pair (.int .i64) (.pair (.int .i64) (.pair (.int .i64) (.pair (.int .i64) (.pair (.int .i64) .unit)))))] [.imm false .bool] (a0, ()) = p_spec_GoodCmd N a0 := by kernel_rfl
theorem env87 : EnvOk Tryz.prog (fa.at true) E87 := envOk mixed tabOk ⟨⟨enters105, ok105, fun _ => rfl⟩, trivial⟩ trivial ⟨eq25, trivial⟩
noncomputable def s87 : FSpec := ⟨[.imm true (.pair (.int .i64) (.pair (.int .i64) (.pair (.int .i64) (.pair (.int .i64) (.pair (.int .i64) .unit)))))], [.imm false .bool], fun x => S_spec_GoodCmd x.1, true⟩
theorem ok87 : FOk Tryz.prog fa 87 s87 := fn_says env87 Tryz.func87 rfl fun x y h => ⟨0, (r87 0 x.1).trans h⟩
theorem enters87 : Enters Tryz.prog 87 := enters Tryz.func87 (by kernel_rfl) rfl
noncomputable def E104 : Env := { tab := tab, sig := [(45, s45)], clos := [], live := [(0, [1, 2, 9, 10, 11], [])], eqs := [], inl := [] }
set_option maxRecDepth 100000 in
theorem r104 (N : Nat) (a0 : List Int) (a1 : Int) (a2 : Int) : runF N E104 Tryz.f104 [.imm false (.slice 3 (.int .i64)), .imm false (.int .i64), .imm false (.int .i64)] [.imm false .bool] (a0, a1, a2, ()) = p_spec_l1All N a0 a1 a2 := by kernel_rfl
theorem env104 : EnvOk Tryz.prog (fa.at true) E104 := envOk mixed tabOk ⟨⟨enters45, ok45, fun _ => rfl⟩, trivial⟩ trivial trivial
noncomputable def s104 : FSpec := ⟨[.imm false (.slice 3 (.int .i64)), .imm false (.int .i64), .imm false (.int .i64)], [.imm false .bool], fun x => S_spec_l1All x.1 x.2.1 x.2.2.1, true⟩
theorem ok104 : FOk Tryz.prog fa 104 s104 := fn_says env104 Tryz.func104 rfl fun x y h => let ⟨N, hN⟩ := lim_some h; ⟨N, (r104 N x.1 x.2.1 x.2.2.1).trans hN⟩
theorem enters104 : Enters Tryz.prog 104 := enters Tryz.func104 (by kernel_rfl) rfl
noncomputable def E86 : Env := { tab := tab, sig := [(45, s45), (104, s104)], clos := [], live := [], eqs := [], inl := [] }
set_option maxRecDepth 100000 in
theorem r86 (N : Nat) (a0 : Int) (a1 : T6) : runF N E86 Tryz.f86 [.imm false (.int .i64), .imm true (.pair (.int .i64) (.pair (.slice 3 (.int .i64)) .unit))] [.imm false .bool] (a0, a1, ()) = p_spec_l3Attr N a0 a1 := by kernel_rfl
theorem env86 : EnvOk Tryz.prog (fa.at true) E86 := envOk mixed tabOk ⟨⟨enters45, ok45, fun _ => rfl⟩, ⟨enters104, ok104, fun _ => rfl⟩, trivial⟩ trivial trivial
noncomputable def s86 : FSpec := ⟨[.imm false (.int .i64), .imm true (.pair (.int .i64) (.pair (.slice 3 (.int .i64)) .unit))], [.imm false .bool], fun x => S_spec_l3Attr x.1 x.2.1, true⟩
theorem ok86 : FOk Tryz.prog fa 86 s86 := fn_says env86 Tryz.func86 rfl fun x y h => ⟨0, (r86 0 x.1 x.2.1).trans h⟩
theorem enters86 : Enters Tryz.prog 86 := enters Tryz.func86 (by kernel_rfl) rfl
noncomputable def E85 : Env := { tab := tab, sig := [(45, s45), (68, s68), (88, s88), (87, s87), (86, s86)], clos := [], live := [], eqs := [(25, [false, false, false, false, false])], inl := [] }
set_option maxRecDepth 100000 in
theorem r85 (N : Nat) (a0 : Int) (a1 : T7) : runF N E85 Tryz.f85 [.imm false (.int .i64), .imm true (.pair (.int .i64) (.pair (.int .i64) (.pair (.int .i64) (.pair (.pair (.int .i64) (.pair (.int .i64) (.pair (.int .i64) (.pair (.int .i64) (.pair (.int .i64) .unit))))) (.pair (.pair (.int .i64) (.pair (.slice 3 (.int .i64)) .unit)) .unit)))))] [.imm false .bool] (a0, a1, ()) = p_spec_l4Row N a0 a1 := by kernel_rfl
theorem env85 : EnvOk Tryz.prog (fa.at true) E85 := envOk mixed tabOk ⟨⟨enters45, ok45, fun _ => rfl⟩, ⟨enters68, ok68, fun _ => rfl⟩, ⟨enters88, ok88, fun _ => rfl⟩, ⟨enters87, ok87, fun _ => rfl⟩, ⟨enters86, ok86, fun _ => rfl⟩, trivial⟩ trivial ⟨eq25, trivial⟩
noncomputable def s85 : FSpec := ⟨[.imm false (.int .i64), .imm true (.pair (.int .i64) (.pair (.int .i64) (.pair (.int .i64) (.pair (.pair (.int .i64) (.pair (.int .i64) (.pair (.int .i64) (.pair (.int .i64) (.pair (.int .i64) .unit))))) (.pair (.pair (.int .i64) (.pair (.slice 3 (.int .i64)) .unit)) .unit)))))], [.imm false .bool], fun x => S_spec_l4Row x.1 x.2.1, true⟩
theorem ok85 : FOk Tryz.prog fa 85 s85 := fn_says env85 Tryz.func85 rfl fun x y h => ⟨0, (r85 0 x.1 x.2.1).trans h⟩
theorem enters85 : Enters Tryz.prog 85 := enters Tryz.func85 (by kernel_rfl) rfl
noncomputable def E53 : Env := { tab := tab, sig := [(37, s37), (45, s45), (84, s84), (85, s85), (86, s86), (87, s87), (68, s68), (88, s88)], clos := [], live := [], eqs := [(25, [false, false, false, false, false])], inl := [] }
set_option maxRecDepth 100000 in
theorem r53 (N : Nat) (a0 : Int) (a1 : T11) : runF N E53 Tryz.f53 [.imm false (.int .i64), .imm true (.pair (.int .i64) (.pair (.int .i64) (.pair (.int .i64) (.pair (.int .i64) (.pair (.int .i64) (.pair (.int .i64) (.pair (.int .i64) (.pair (.int .i64) (.pair (.pair (.int .i64) (.pair (.int .i64) (.pair (.int .i64) (.pair (.int .i64) (.pair (.int .i64) .unit))))) (.pair (.pair (.int .i64) (.pair (.slice 3 (.int .i64)) .unit)) .unit))))))))))] [.imm false .bool] (a0, a1, ()) = p_spec_GoodMsg N a0 a1 := by kernel_rfl
theorem env53 : EnvOk Tryz.prog (fa.at true) E53 := envOk mixed tabOk ⟨⟨enters37, ok37, fun _ => rfl⟩, ⟨enters45, ok45, fun _ => rfl⟩, ⟨enters84, ok84, fun _ => rfl⟩, ⟨enters85, ok85, fun _ => rfl⟩, ⟨enters86, ok86, fun _ => rfl⟩, ⟨enters87, ok87, fun _ => rfl⟩, ⟨enters68, ok68, fun _ => rfl⟩, ⟨enters88, ok88, fun _ => rfl⟩, trivial⟩ trivial ⟨eq25, trivial⟩
noncomputable def s53 : FSpec := ⟨[.imm false (.int .i64), .imm true (.pair (.int .i64) (.pair (.int .i64) (.pair (.int .i64) (.pair (.int .i64) (.pair (.int .i64) (.pair (.int .i64) (.pair (.int .i64) (.pair (.int .i64) (.pair (.pair (.int .i64) (.pair (.int .i64) (.pair (.int .i64) (.pair (.int .i64) (.pair (.int .i64) .unit))))) (.pair (.pair (.int .i64) (.pair (.slice 3 (.int .i64)) .unit)) .unit))))))))))], [.imm false .bool], fun x => S_spec_GoodMsg x.1 x.2.1, true⟩
theorem ok53 : FOk Tryz.prog fa 53 s53 := fn_says env53 Tryz.func53 rfl fun x y h => ⟨0, (r53 0 x.1 x.2.1).trans h⟩
theorem enters53 : Enters Tryz.prog 53 := enters Tryz.func53 (by kernel_rfl) rfl
noncomputable def E54 : Env := { tab := tab, sig := [], clos := [], live := [], eqs := [], inl := [] }
set_option maxRecDepth 100000 in
theorem r54 (N : Nat)  : runF N E54 Tryz.f54 [] [.deep false (.slice 9 .str)] (()) = p_spec_l7Words N  := by kernel_rfl
theorem env54 : EnvOk Tryz.prog (fa.at true) E54 := envOk mixed tabOk trivial trivial trivial
noncomputable def s54 : FSpec := ⟨[], [.deep false (.slice 9 .str)], fun x => S_spec_l7Words , true⟩
theorem ok54 : FOk Tryz.prog fa 54 s54 := fn_says env54 Tryz.func54 rfl fun x y h => ⟨0, (r54 0 ).trans h⟩
theorem enters54 : Enters Tryz.prog 54 := enters Tryz.func54 (by kernel_rfl) rfl
noncomputable def sk55 (k : Nat) : FSpec := ⟨[.imm false (.int .i64)], [.imm false .str], fun x => p_spec_l1Num k x.1, true⟩
noncomputable def E55 (N : Nat) : Env := { tab := tab, sig := [(55, sk55 N)], clos := [], live := [], eqs := [], inl := [] }
set_option maxRecDepth 100000 in
theorem r55 (N : Nat) (a0 : Int) : runF N (E55 N) Tryz.f55 [.imm false (.int .i64)] [.imm false .str] (a0, ()) = p_spec_l1Num (N + 1) a0 := by kernel_rfl
theorem enters55 : Enters Tryz.prog 55 := enters Tryz.func55 (by kernel_rfl) rfl
theorem env55 (k : Nat) (h : FOk Tryz.prog fa 55 (sk55 k)) : EnvOk Tryz.prog (fa.at true) (E55 k) := envOk mixed tabOk ⟨⟨enters55, h, fun _ => rfl⟩, trivial⟩ trivial trivial
noncomputable def s55 : FSpec := ⟨[.imm false (.int .i64)], [.imm false .str], fun x => S_spec_l1Num x.1, true⟩
theorem okk55 : ∀ k, FOk Tryz.prog fa 55 (sk55 k)
  | 0 => fok_none fun _ => rfl
  | k + 1 => fn_says (s := sk55 (k + 1)) (env55 k (okk55 k)) Tryz.func55 rfl fun x y h => ⟨k, (r55 k x.1).trans h⟩
theorem ok55 : FOk Tryz.prog fa 55 s55 := fok_sup okk55 fun x y h => lim_some h
noncomputable def E56 : Env := { tab := tab, sig := [(55, s55)], clos := [], live := [], eqs := [], inl := [] }
set_option maxRecDepth 100000 in
theorem r56 (N : Nat) (a0 : T2) : runF N E56 Tryz.f56 [.imm true (.pair (.int .i64) (.pair (.int .i64) (.pair (.int .i64) (.pair (.int .i64) (.pair (.int .i64) .unit)))))] [.imm false .str] (a0, ()) = p_spec_l2Text N a0 := by kernel_rfl
theorem env56 : EnvOk Tryz.prog (fa.at true) E56 := envOk mixed tabOk ⟨⟨enters55, ok55, fun _ => rfl⟩, trivial⟩ trivial trivial
noncomputable def s56 : FSpec := ⟨[.imm true (.pair (.int .i64) (.pair (.int .i64) (.pair (.int .i64) (.pair (.int .i64) (.pair (.int .i64) .unit)))))], [.imm false .str], fun x => S_spec_l2Text x.1, true⟩
theorem ok56 : FOk Tryz.prog fa 56 s56 := fn_says env56 Tryz.func56 rfl fun x y h => ⟨0, (r56 0 x.1).trans h⟩
theorem enters56 : Enters Tryz.prog 56 := enters Tryz.func56 (by kernel_rfl) rfl
noncomputable def E89 : Env := { tab := tab, sig := [(55, s55)], clos := [], live := [(0, [3, 6, 7, 8], [])], eqs := [], inl := [] }
set_option maxRecDepth 100000 in
theorem r89 (N : Nat) (a0 : List Int) : runF N E89 Tryz.f89 [.imm false (.slice 3 (.int .i64))] [.imm false .str] (a0, ()) = p_spec_l3List N a0 := by kernel_rfl
theorem env89 : EnvOk Tryz.prog (fa.at true) E89 := envOk mixed tabOk ⟨⟨enters55, ok55, fun _ => rfl⟩, trivial⟩ trivial trivial
noncomputable def s89 : FSpec := ⟨[.imm false (.slice 3 (.int .i64))], [.imm false .str], fun x => S_spec_l3List x.1, true⟩
theorem ok89 : FOk Tryz.prog fa 89 s89 := fn_says env89 Tryz.func89 rfl fun x y h => let ⟨N, hN⟩ := lim_some h; ⟨N, (r89 N x.1).trans hN⟩
theorem enters89 : Enters Tryz.prog 89 := enters Tryz.func89 (by kernel_rfl) rfl
noncomputable def E57 : Env := { tab := tab, sig := [(55, s55), (89, s89)], clos := [], live := [], eqs := [], inl := [] }
set_option maxRecDepth 100000 in
theorem r57 (N : Nat) (a0 : T6) : runF N E57 Tryz.f57 [.imm true (.pair (.int .i64) (.pair (.slice 3 (.int .i64)) .unit))] [.imm false .str] (a0, ()) = p_spec_l3Text N a0 := by kernel_rfl
theorem env57 : EnvOk Tryz.prog (fa.at true) E57 := envOk mixed tabOk ⟨⟨enters55, ok55, fun _ => rfl⟩, ⟨enters89, ok89, fun _ => rfl⟩, trivial⟩ trivial trivial
noncomputable def s57 : FSpec := ⟨[.imm true (.pair (.int .i64) (.pair (.slice 3 (.int .i64)) .unit))], [.imm false .str], fun x => S_spec_l3Text x.1, true⟩
theorem ok57 : FOk Tryz.prog fa 57 s57 := fn_says env57 Tryz.func57 rfl fun x y h => ⟨0, (r57 0 x.1).trans h⟩
theorem enters57 : Enters Tryz.prog 57 := enters Tryz.func57 (by kernel_rfl) rfl
noncomputable def E30 : Env := { tab := tab, sig := [(53, s53), (54, s54), (55, s55), (56, s56), (57, s57)], clos := [], live := [(0, [3, 6, 32, 33, 34], [])], eqs := [], inl := [] }
set_option maxRecDepth 100000 in
theorem r30 (N : Nat) (a0 : Int) (a1 : T11) : runF N E30 Tryz.f30 [.imm false (.int .i64), .imm true (.pair (.int .i64) (.pair (.int .i64) (.pair (.int .i64) (.pair (.int .i64) (.pair (.int .i64) (.pair (.int .i64) (.pair (.int .i64) (.pair (.int .i64) (.pair (.pair (.int .i64) (.pair (.int .i64) (.pair (.int .i64) (.pair (.int .i64) (.pair (.int .i64) .unit))))) (.pair (.pair (.int .i64) (.pair (.slice 3 (.int .i64)) .unit)) .unit))))))))))] [.imm false .str, .imm false .bool] (a0, a1, ()) = p_spec_MsgText N a0 a1 := by kernel_rfl
theorem env30 : EnvOk Tryz.prog (fa.at true) E30 := envOk mixed tabOk ⟨⟨enters53, ok53, fun _ => rfl⟩, ⟨enters54, ok54, fun _ => rfl⟩, ⟨enters55, ok55, fun _ => rfl⟩, ⟨enters56, ok56, fun _ => rfl⟩, ⟨enters57, ok57, fun _ => rfl⟩, trivial⟩ trivial trivial
noncomputable def s30 : FSpec := ⟨[.imm false (.int .i64), .imm true (.pair (.int .i64) (.pair (.int .i64) (.pair (.int .i64) (.pair (.int .i64) (.pair (.int .i64) (.pair (.int .i64) (.pair (.int .i64) (.pair (.int .i64) (.pair (.pair (.int .i64) (.pair (.int .i64) (.pair (.int .i64) (.pair (.int .i64) (.pair (.int .i64) .unit))))) (.pair (.pair (.int .i64) (.pair (.slice 3 (.int .i64)) .unit)) .unit))))))))))], [.imm false .str, .imm false .bool], fun x => S_spec_MsgText x.1 x.2.1, true⟩
theorem ok30 : FOk Tryz.prog fa 30 s30 := fn_says env30 Tryz.func30 rfl fun x y h => let ⟨N, hN⟩ := lim_some h; ⟨N, (r30 N x.1 x.2.1).trans hN⟩
theorem enters30 : Enters Tryz.prog 30 := enters Tryz.func30 (by kernel_rfl) rfl
noncomputable def E58 : Env := { tab := tab, sig := [], clos := [], live := [(0, [0, 3, 4], [])], eqs := [], inl := [] }
set_option maxRecDepth 100000 in
theorem r58 (N : Nat) (a0 : ByteArray) : runF N E58 Tryz.f58 [.imm false .str] [.imm false (.int .i64)] (a0, ()) = p_spec_l21Sum N a0 := by kernel_rfl
theorem env58 : EnvOk Tryz.prog (fa.at true) E58 := envOk mixed tabOk trivial trivial trivial
noncomputable def s58 : FSpec := ⟨[.imm false .str], [.imm false (.int .i64)], fun x => S_spec_l21Sum x.1, true⟩
theorem ok58 : FOk Tryz.prog fa 58 s58 := fn_says env58 Tryz.func58 rfl fun x y h => let ⟨N, hN⟩ := lim_some h; ⟨N, (r58 N x.1).trans hN⟩
theorem enters58 : Enters Tryz.prog 58 := enters Tryz.func58 (by kernel_rfl) rfl
noncomputable def E31 : Env := { tab := tab, sig := [(58, s58)], clos := [], live := [], eqs := [], inl := [] }
set_option maxRecDepth 100000 in
theorem r31 (N : Nat) (a0 : ByteArray) : runF N E31 Tryz.f31 [.imm false .str] [.imm false .str] (a0, ()) = p_spec_l21Frame N a0 := by kernel_rfl
theorem env31 : EnvOk Tryz.prog (fa.at true) E31 := envOk mixed tabOk ⟨⟨enters58, ok58, fun _ => rfl⟩, trivial⟩ trivial trivial
noncomputable def s31 : FSpec := ⟨[.imm false .str], [.imm false .str], fun x => S_spec_l21Frame x.1, true⟩
theorem ok31 : FOk Tryz.prog fa 31 s31 := fn_says env31 Tryz.func31 rfl fun x y h => ⟨0, (r31 0 x.1).trans h⟩
theorem enters31 : Enters Tryz.prog 31 := enters Tryz.func31 (by kernel_rfl) rfl
noncomputable def E8 : Env := { tab := tab, sig := [(30, s30), (31, s31)], clos := [], live := [], eqs := [], inl := [] }
set_option maxRecDepth 100000 in
theorem r8 (N : Nat) (a0 : Int) (a1 : T11) : runF N E8 Tryz.f8 [.imm false (.int .i64), .imm true (.pair (.int .i64) (.pair (.int .i64) (.pair (.int .i64) (.pair (.int .i64) (.pair (.int .i64) (.pair (.int .i64) (.pair (.int .i64) (.pair (.int .i64) (.pair (.pair (.int .i64) (.pair (.int .i64) (.pair (.int .i64) (.pair (.int .i64) (.pair (.int .i64) .unit))))) (.pair (.pair (.int .i64) (.pair (.slice 3 (.int .i64)) .unit)) .unit))))))))))] [.imm false .str, .imm false .bool] (a0, a1, ()) = p_spec_MsgBytes N a0 a1 := by kernel_rfl
theorem env8 : EnvOk Tryz.prog (fa.at true) E8 := envOk mixed tabOk ⟨⟨enters30, ok30, fun _ => rfl⟩, ⟨enters31, ok31, fun _ => rfl⟩, trivial⟩ trivial trivial
noncomputable def s8 : FSpec := ⟨[.imm false (.int .i64), .imm true (.pair (.int .i64) (.pair (.int .i64) (.pair (.int .i64) (.pair (.int .i64) (.pair (.int .i64) (.pair (.int .i64) (.pair (.int .i64) (.pair (.int .i64) (.pair (.pair (.int .i64) (.pair (.int .i64) (.pair (.int .i64) (.pair (.int .i64) (.pair (.int .i64) .unit))))) (.pair (.pair (.int .i64) (.pair (.slice 3 (.int .i64)) .unit)) .unit))))))))))], [.imm false .str, .imm false .bool], fun x => S_spec_MsgBytes x.1 x.2.1, true⟩
theorem ok8 : FOk Tryz.prog fa 8 s8 := fn_says env8 Tryz.func8 rfl fun x y h => ⟨0, (r8 0 x.1 x.2.1).trans h⟩
theorem enters8 : Enters Tryz.prog 8 := enters Tryz.func8 (by kernel_rfl) rfl
noncomputable def E17 : Env := { tab := tab, sig := [(8, s8), (37, s37)], clos := [], live := [(0, [0, 6, 11, 12, 13, 33, 34, 35], [])], eqs := [], inl := [] }
set_option maxRecDepth 100000 in
theorem r17 (N : Nat) (a0 : Int) (a1 : List T11) : runF N E17 Tryz.f17 [.imm false (.int .i64), .imm false (.slice 30 (.pair (.int .i64) (.pair (.int .i64) (.pair (.int .i64) (.pair (.int .i64) (.pair (.int .i64) (.pair (.int .i64) (.pair (.int .i64) (.pair (.int .i64) (.pair (.pair (.int .i64) (.pair (.int .i64) (.pair (.int .i64) (.pair (.int .i64) (.pair (.int .i64) .unit))))) (.pair (.pair (.int .i64) (.pair (.slice 3 (.int .i64)) .unit)) .unit)))))))))))] [.imm false .str, .imm false .bool] (a0, a1, ()) = p_spec_WireOf N a0 a1 := by kernel_rfl
theorem env17 : EnvOk Tryz.prog (fa.at true) E17 := envOk mixed tabOk ⟨⟨enters8, ok8, fun _ => rfl⟩, ⟨enters37, ok37, fun _ => rfl⟩, trivial⟩ trivial trivial
noncomputable def s17 : FSpec := ⟨[.imm false (.int .i64), .imm false (.slice 30 (.pair (.int .i64) (.pair (.int .i64) (.pair (.int .i64) (.pair (.int .i64) (.pair (.int .i64) (.pair (.int .i64) (.pair (.int .i64) (.pair (.int .i64) (.pair (.pair (.int .i64) (.pair (.int .i64) (.pair (.int .i64) (.pair (.int .i64) (.pair (.int .i64) .unit))))) (.pair (.pair (.int .i64) (.pair (.slice 3 (.int .i64)) .unit)) .unit)))))))))))], [.imm false .str, .imm false .bool], fun x => S_spec_WireOf x.1 x.2.1, true⟩
theorem ok17 : FOk Tryz.prog fa 17 s17 := fn_says env17 Tryz.func17 rfl fun x y h => let ⟨N, hN⟩ := lim_some h; ⟨N, (r17 N x.1 x.2.1).trans hN⟩
theorem enters17 : Enters Tryz.prog 17 := enters Tryz.func17 (by kernel_rfl) rfl
def Lay59_ren : Go.Shelf.Ren := ⟨fun | 146 => 59 | 221 => 90 | 268 => 107 | 138 => 108 | 143 => 109 | 195 => 117 | 197 => 118 | 218 => 119 | 219 => 120 | 260 => 125 | 217 => 126 | 225 => 127 | 224 => 128 | 267 => 129 | 266 => 136 | 314 => 137 | n => n, fun | 9 => 9 | 31 => 75 | 3 => 3 | 4 => 4 | 0 => 0 | 105 => 125 | 21 => 21 | 5 => 5 | 46 => 114 | 119 => 144 | 139 => 147 | 138 => 146 | 146 => 149 | 51 => 148 | n => n, fun | 1 => 0 | 3 => 1 | 4 => 2 | n => n⟩
theorem Lay59 : Go.Proofs.LaysM.n146 Tryz.prog Lay59_ren := {
  mixed := by kernel_rfl
  f138 := Tryz.func108.trans (congrArg some (by kernel_rfl))
  f143 := Tryz.func109.trans (congrArg some (by kernel_rfl))
  f146 := Tryz.func59.trans (congrArg some (by kernel_rfl))
  f195 := Tryz.func117.trans (congrArg some (by kernel_rfl))
  f197 := Tryz.func118.trans (congrArg some (by kernel_rfl))
  f217 := Tryz.func126.trans (congrArg some (by kernel_rfl))
  f218 := Tryz.func119.trans (congrArg some (by kernel_rfl))
  f219 := Tryz.func120.trans (congrArg some (by kernel_rfl))
  f221 := Tryz.func90.trans (congrArg some (by kernel_rfl))
  f224 := Tryz.func128.trans (congrArg some (by kernel_rfl))
  f225 := Tryz.func127.trans (congrArg some (by kernel_rfl))
  f260 := Tryz.func125.trans (congrArg some (by kernel_rfl))
  f266 := Tryz.func136.trans (congrArg some (by kernel_rfl))
  f267 := Tryz.func129.trans (congrArg some (by kernel_rfl))
  f268 := Tryz.func107.trans (congrArg some (by kernel_rfl))
  f314 := Tryz.func137.trans (congrArg some (by kernel_rfl))
  t0 := Tryz.underlying0
  a0 := Tryz.isAgg0
  z0 := Tryz.sizeOf0
  v0 := Tryz.zeroValue0
  t3 := Tryz.underlying3
  a3 := Tryz.isAgg3
  z3 := Tryz.sizeOf3
  v3 := Tryz.zeroValue3
  t4 := Tryz.underlying4
  a4 := Tryz.isAgg4
  z4 := Tryz.sizeOf4
  v4 := Tryz.zeroValue4
  t5 := Tryz.underlying5
  a5 := Tryz.isAgg5
  z5 := Tryz.sizeOf5
  v5 := Tryz.zeroValue5
  t9 := Tryz.underlying9
  a9 := Tryz.isAgg9
  z9 := Tryz.sizeOf9
  v9 := Tryz.zeroValue9
  t21 := Tryz.underlying21
  a21 := Tryz.isAgg21
  z21 := Tryz.sizeOf21
  v21 := Tryz.zeroValue21
  t31 := Tryz.underlying75
  a31 := Tryz.isAgg75
  z31 := Tryz.sizeOf75
  v31 := Tryz.zeroValue75
  t46 := Tryz.underlying114
  a46 := Tryz.isAgg114
  z46 := Tryz.sizeOf114
  v46 := Tryz.zeroValue114
  t51 := Tryz.underlying148
  a51 := Tryz.isAgg148
  z51 := Tryz.sizeOf148
  v51 := Tryz.zeroValue148
  t105 := Tryz.underlying125
  a105 := Tryz.isAgg125
  z105 := Tryz.sizeOf125
  v105 := Tryz.zeroValue125
  t119 := Tryz.underlying144
  a119 := Tryz.isAgg144
  z119 := Tryz.sizeOf144
  t138 := Tryz.underlying146
  a138 := Tryz.isAgg146
  z138 := Tryz.sizeOf146
  v138 := Tryz.zeroValue146
  t139 := Tryz.underlying147
  a139 := Tryz.isAgg147
  z139 := Tryz.sizeOf147
  v139 := Tryz.zeroValue147
  t146 := Tryz.underlying149
  a146 := Tryz.isAgg149
  z146 := Tryz.sizeOf149
  v146 := Tryz.zeroValue149
  g1 := by kernel_rfl
  g3 := by kernel_rfl
  g4 := by kernel_rfl
  i0 := by kernel_rfl
  i3 := by kernel_rfl
  i4 := by kernel_rfl
  i5 := by kernel_rfl
  i9 := by kernel_rfl
  i21 := by kernel_rfl
  i31 := by kernel_rfl
  i46 := by kernel_rfl
  i51 := by kernel_rfl
  i105 := by kernel_rfl
  i138 := by kernel_rfl
  i139 := by kernel_rfl
  i146 := by kernel_rfl
  m1 := by kernel_rfl
  s1_3 := fun w h => Go.Proofs.cell_of_shapedOpen_int (zero := #[.int .i64 0]) (t := 3) h (of_decide_eq_true (by kernel_rfl)) (by kernel_rfl) rfl (by kernel_rfl) (by kernel_rfl) Tryz.underlying3
  m3 := by kernel_rfl
  m4 := by kernel_rfl }
noncomputable def s59 : FSpec := ⟨[.imm false .str, .imm false .str], [.deep false (.slice 9 .str)], fun x => S_strings_Split x.1 x.2.1, true⟩
theorem ok59 : FOk Tryz.prog fa 59 s59 := ok_Split Lay59 (fun W h => h.1) (by decide)
theorem enters59 : Enters Tryz.prog 59 := enters Tryz.func59 (by kernel_rfl) rfl
noncomputable def E60 : Env := { tab := tab, sig := [], clos := [], live := [(0, [0, 1, 7, 8], [])], eqs := [], inl := [] }
set_option maxRecDepth 100000 in
theorem r60 (N : Nat) (a0 : List ByteArray) (a1 : ByteArray) : runF N E60 Tryz.f60 [.imm false (.slice 9 .str), .imm false .str] [.imm false (.int .i64)] (a0, a1, ()) = p_Index_Lstring_string N a0 a1 := by kernel_rfl
theorem env60 : EnvOk Tryz.prog (fa.at true) E60 := envOk mixed tabOk trivial trivial trivial
noncomputable def s60 : FSpec := ⟨[.imm false (.slice 9 .str), .imm false .str], [.imm false (.int .i64)], fun x => S_Index_Lstring_string x.1 x.2.1, true⟩
theorem ok60 : FOk Tryz.prog fa 60 s60 := fn_says env60 Tryz.func60 rfl fun x y h => let ⟨N, hN⟩ := lim_some h; ⟨N, (r60 N x.1 x.2.1).trans hN⟩
theorem enters60 : Enters Tryz.prog 60 := enters Tryz.func60 (by kernel_rfl) rfl
end Go.Proofs.YtmnekhlgldljcaaGreatDoor.Am
