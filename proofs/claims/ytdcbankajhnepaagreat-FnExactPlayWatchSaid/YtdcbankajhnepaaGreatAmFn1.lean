/- Functions, as they run on data. No condition. -/
import Derived.Test.YtdcbankajhnepaaGreatAmFn0
set_option linter.unusedVariables false
set_option maxRecDepth 100000
namespace Go.Proofs.YtdcbankajhnepaaGreat.Am
open Go.AM Go.AM.P Go.Proofs Go.Shelf
noncomputable def E161 : Env := { tab := tab, sig := [], clos := [], live := [(0, [0, 1, 7, 8], [])], eqs := [], inl := [] }
set_option maxRecDepth 100000 in
theorem r161 (N : Nat) (a0 : List Int) (a1 : (Int × Unit) → Option Bool) : runF N E161 Tryz.f161 [.imm false (.slice 3 (.int .i64)), .clo [(false, (.int .i64))] .bool] [.imm false (.int .i64)] (a0, a1, ()) = p_IndexFunc_Lint_int N a0 a1 := by kernel_rfl
theorem env161 : EnvOk Tryz.prog (fa.at true) E161 := envOk mixed tabOk trivial trivial trivial
noncomputable def s161 : FSpec := ⟨[.imm false (.slice 3 (.int .i64)), .clo [(false, (.int .i64))] .bool], [.imm false (.int .i64)], fun x => S_IndexFunc_Lint_int x.1 x.2.1, true⟩
theorem ok161 : FOk Tryz.prog fa 161 s161 := fn_says env161 Tryz.func161 rfl fun x y h => let ⟨N, hN⟩ := lim_some h; ⟨N, (r161 N x.1 x.2.1).trans hN⟩
theorem enters161 : Enters Tryz.prog 161 := enters Tryz.func161 (by kernel_rfl) rfl
noncomputable def E80 : Env := { tab := tab, sig := [(161, s161)], clos := [], live := [], eqs := [], inl := [] }
set_option maxRecDepth 100000 in
theorem r80 (N : Nat) (a0 : List Int) (a1 : (Int × Unit) → Option Bool) : runF N E80 Tryz.f80 [.imm false (.slice 3 (.int .i64)), .clo [(false, (.int .i64))] .bool] [.imm false .bool] (a0, a1, ()) = p_ContainsFunc_Lint_int N a0 a1 := by kernel_rfl
theorem env80 : EnvOk Tryz.prog (fa.at true) E80 := envOk mixed tabOk ⟨⟨enters161, ok161, fun _ => rfl⟩, trivial⟩ trivial trivial
noncomputable def s80 : FSpec := ⟨[.imm false (.slice 3 (.int .i64)), .clo [(false, (.int .i64))] .bool], [.imm false .bool], fun x => S_ContainsFunc_Lint_int x.1 x.2.1, true⟩
theorem ok80 : FOk Tryz.prog fa 80 s80 := fn_says env80 Tryz.func80 rfl fun x y h => ⟨0, (r80 0 x.1 x.2.1).trans h⟩
theorem enters80 : Enters Tryz.prog 80 := enters Tryz.func80 (by kernel_rfl) rfl
theorem enters272 : Enters Tryz.prog 272 := enters Tryz.func272 (by kernel_rfl) rfl
noncomputable def E215 : Env := { tab := tab, sig := [(77, s77), (78, s78), (80, s80)], clos := [(272, ⟨Tryz.f272, [(false, (.int .i64))], []⟩)], live := [], eqs := [], inl := [] }
set_option maxRecDepth 100000 in
theorem r215 (N : Nat) (a0 : Int) (a1 : T6) : runF N E215 Tryz.f215 [.imm false (.int .i64), .imm true (.pair (.int .i64) (.pair (.slice 3 (.int .i64)) .unit))] [.imm false .bool] (a0, a1, ()) = p_impl_GoodAttr N a0 a1 := by kernel_rfl
theorem env215 : EnvOk Tryz.prog (fa.at true) E215 := envOk mixed tabOk ⟨⟨enters77, ok77, fun _ => rfl⟩, ⟨enters78, ok78, fun _ => rfl⟩, ⟨enters80, ok80, fun _ => rfl⟩, trivial⟩ ⟨⟨Tryz.func272, enters272⟩, trivial⟩ trivial
noncomputable def s215 : FSpec := ⟨[.imm false (.int .i64), .imm true (.pair (.int .i64) (.pair (.slice 3 (.int .i64)) .unit))], [.imm false .bool], fun x => S_impl_GoodAttr x.1 x.2.1, true⟩
theorem ok215 : FOk Tryz.prog fa 215 s215 := fn_says env215 Tryz.func215 rfl fun x y h => ⟨0, (r215 0 x.1 x.2.1).trans h⟩
theorem enters215 : Enters Tryz.prog 215 := enters Tryz.func215 (by kernel_rfl) rfl
noncomputable def E217 : Env := { tab := tab, sig := [], clos := [], live := [], eqs := [], inl := [] }
set_option maxRecDepth 100000 in
theorem r217 (N : Nat) (a0 : Int) : runF N E217 Tryz.f217 [.imm false (.int .i64)] [.deep true (.pair (.int .i64) (.pair (.slice 3 (.int .i64)) .unit))] (a0, ()) = p_impl_noneAttr N a0 := by kernel_rfl
theorem env217 : EnvOk Tryz.prog (fa.at true) E217 := envOk mixed tabOk trivial trivial trivial
noncomputable def s217 : FSpec := ⟨[.imm false (.int .i64)], [.deep true (.pair (.int .i64) (.pair (.slice 3 (.int .i64)) .unit))], fun x => S_impl_noneAttr x.1, true⟩
theorem ok217 : FOk Tryz.prog fa 217 s217 := fn_says env217 Tryz.func217 rfl fun x y h => ⟨0, (r217 0 x.1).trans h⟩
theorem enters217 : Enters Tryz.prog 217 := enters Tryz.func217 (by kernel_rfl) rfl
noncomputable def E152 : Env := { tab := tab, sig := [], clos := [], live := [(0, [0, 1, 12, 13], [])], eqs := [], inl := [] }
set_option maxRecDepth 100000 in
theorem r152 (N : Nat) (a0 : List Int) (a1 : List Int) : runF N E152 Tryz.f152 [.imm false (.slice 3 (.int .i64)), .imm false (.slice 3 (.int .i64))] [.imm false .bool] (a0, a1, ()) = p_Equal_Lint_int N a0 a1 := by kernel_rfl
theorem env152 : EnvOk Tryz.prog (fa.at true) E152 := envOk mixed tabOk trivial trivial trivial
noncomputable def s152 : FSpec := ⟨[.imm false (.slice 3 (.int .i64)), .imm false (.slice 3 (.int .i64))], [.imm false .bool], fun x => S_Equal_Lint_int x.1 x.2.1, true⟩
theorem ok152 : FOk Tryz.prog fa 152 s152 := fn_says env152 Tryz.func152 rfl fun x y h => let ⟨N, hN⟩ := lim_some h; ⟨N, (r152 N x.1 x.2.1).trans hN⟩
theorem enters152 : Enters Tryz.prog 152 := enters Tryz.func152 (by kernel_rfl) rfl
noncomputable def E216 : Env := { tab := tab, sig := [(152, s152)], clos := [], live := [], eqs := [], inl := [] }
set_option maxRecDepth 100000 in
theorem r216 (N : Nat) (a0 : T6) (a1 : T6) : runF N E216 Tryz.f216 [.imm true (.pair (.int .i64) (.pair (.slice 3 (.int .i64)) .unit)), .imm true (.pair (.int .i64) (.pair (.slice 3 (.int .i64)) .unit))] [.imm false .bool] (a0, a1, ()) = p_impl_SameAttr N a0 a1 := by kernel_rfl
theorem env216 : EnvOk Tryz.prog (fa.at true) E216 := envOk mixed tabOk ⟨⟨enters152, ok152, fun _ => rfl⟩, trivial⟩ trivial trivial
noncomputable def s216 : FSpec := ⟨[.imm true (.pair (.int .i64) (.pair (.slice 3 (.int .i64)) .unit)), .imm true (.pair (.int .i64) (.pair (.slice 3 (.int .i64)) .unit))], [.imm false .bool], fun x => S_impl_SameAttr x.1 x.2.1, true⟩
theorem ok216 : FOk Tryz.prog fa 216 s216 := fn_says env216 Tryz.func216 rfl fun x y h => ⟨0, (r216 0 x.1 x.2.1).trans h⟩
theorem enters216 : Enters Tryz.prog 216 := enters Tryz.func216 (by kernel_rfl) rfl
noncomputable def E149 : Env := { tab := tab, sig := [(78, s78), (206, s206), (215, s215), (217, s217), (216, s216)], clos := [], live := [], eqs := [(137, [false, false, false, false, false])], inl := [] }
set_option maxRecDepth 100000 in
theorem r149 (N : Nat) (a0 : Int) (a1 : T7) : runF N E149 Tryz.f149 [.imm false (.int .i64), .imm true (.pair (.int .i64) (.pair (.int .i64) (.pair (.int .i64) (.pair (.pair (.int .i64) (.pair (.int .i64) (.pair (.int .i64) (.pair (.int .i64) (.pair (.int .i64) .unit))))) (.pair (.pair (.int .i64) (.pair (.slice 3 (.int .i64)) .unit)) .unit)))))] [.imm false .bool] (a0, a1, ()) = p_impl_goodRow N a0 a1 := by kernel_rfl
theorem env149 : EnvOk Tryz.prog (fa.at true) E149 := envOk mixed tabOk ⟨⟨enters78, ok78, fun _ => rfl⟩, ⟨enters206, ok206, fun _ => rfl⟩, ⟨enters215, ok215, fun _ => rfl⟩, ⟨enters217, ok217, fun _ => rfl⟩, ⟨enters216, ok216, fun _ => rfl⟩, trivial⟩ trivial ⟨eq137, trivial⟩
noncomputable def s149 : FSpec := ⟨[.imm false (.int .i64), .imm true (.pair (.int .i64) (.pair (.int .i64) (.pair (.int .i64) (.pair (.pair (.int .i64) (.pair (.int .i64) (.pair (.int .i64) (.pair (.int .i64) (.pair (.int .i64) .unit))))) (.pair (.pair (.int .i64) (.pair (.slice 3 (.int .i64)) .unit)) .unit)))))], [.imm false .bool], fun x => S_impl_goodRow x.1 x.2.1, true⟩
theorem ok149 : FOk Tryz.prog fa 149 s149 := fn_says env149 Tryz.func149 rfl fun x y h => ⟨0, (r149 0 x.1 x.2.1).trans h⟩
theorem enters149 : Enters Tryz.prog 149 := enters Tryz.func149 (by kernel_rfl) rfl
noncomputable def E214 : Env := { tab := tab, sig := [], clos := [], live := [(0, [0, 1, 7, 8], [])], eqs := [], inl := [] }
set_option maxRecDepth 100000 in
theorem r214 (N : Nat) (a0 : List T7) (a1 : (T7 × Unit) → Option Bool) : runF N E214 Tryz.f214 [.imm false (.slice 141 (.pair (.int .i64) (.pair (.int .i64) (.pair (.int .i64) (.pair (.pair (.int .i64) (.pair (.int .i64) (.pair (.int .i64) (.pair (.int .i64) (.pair (.int .i64) .unit))))) (.pair (.pair (.int .i64) (.pair (.slice 3 (.int .i64)) .unit)) .unit)))))), .clo [(true, (.pair (.int .i64) (.pair (.int .i64) (.pair (.int .i64) (.pair (.pair (.int .i64) (.pair (.int .i64) (.pair (.int .i64) (.pair (.int .i64) (.pair (.int .i64) .unit))))) (.pair (.pair (.int .i64) (.pair (.slice 3 (.int .i64)) .unit)) .unit))))))] .bool] [.imm false (.int .i64)] (a0, a1, ()) = p_IndexFunc_Limpl_Row_impl_Row N a0 a1 := by kernel_rfl
theorem env214 : EnvOk Tryz.prog (fa.at true) E214 := envOk mixed tabOk trivial trivial trivial
noncomputable def s214 : FSpec := ⟨[.imm false (.slice 141 (.pair (.int .i64) (.pair (.int .i64) (.pair (.int .i64) (.pair (.pair (.int .i64) (.pair (.int .i64) (.pair (.int .i64) (.pair (.int .i64) (.pair (.int .i64) .unit))))) (.pair (.pair (.int .i64) (.pair (.slice 3 (.int .i64)) .unit)) .unit)))))), .clo [(true, (.pair (.int .i64) (.pair (.int .i64) (.pair (.int .i64) (.pair (.pair (.int .i64) (.pair (.int .i64) (.pair (.int .i64) (.pair (.int .i64) (.pair (.int .i64) .unit))))) (.pair (.pair (.int .i64) (.pair (.slice 3 (.int .i64)) .unit)) .unit))))))] .bool], [.imm false (.int .i64)], fun x => S_IndexFunc_Limpl_Row_impl_Row x.1 x.2.1, true⟩
theorem ok214 : FOk Tryz.prog fa 214 s214 := fn_says env214 Tryz.func214 rfl fun x y h => let ⟨N, hN⟩ := lim_some h; ⟨N, (r214 N x.1 x.2.1).trans hN⟩
theorem enters214 : Enters Tryz.prog 214 := enters Tryz.func214 (by kernel_rfl) rfl
noncomputable def E147 : Env := { tab := tab, sig := [(214, s214)], clos := [], live := [], eqs := [], inl := [] }
set_option maxRecDepth 100000 in
theorem r147 (N : Nat) (a0 : List T7) (a1 : (T7 × Unit) → Option Bool) : runF N E147 Tryz.f147 [.imm false (.slice 141 (.pair (.int .i64) (.pair (.int .i64) (.pair (.int .i64) (.pair (.pair (.int .i64) (.pair (.int .i64) (.pair (.int .i64) (.pair (.int .i64) (.pair (.int .i64) .unit))))) (.pair (.pair (.int .i64) (.pair (.slice 3 (.int .i64)) .unit)) .unit)))))), .clo [(true, (.pair (.int .i64) (.pair (.int .i64) (.pair (.int .i64) (.pair (.pair (.int .i64) (.pair (.int .i64) (.pair (.int .i64) (.pair (.int .i64) (.pair (.int .i64) .unit))))) (.pair (.pair (.int .i64) (.pair (.slice 3 (.int .i64)) .unit)) .unit))))))] .bool] [.imm false .bool] (a0, a1, ()) = p_ContainsFunc_Limpl_Row_impl_Row N a0 a1 := by kernel_rfl
theorem env147 : EnvOk Tryz.prog (fa.at true) E147 := envOk mixed tabOk ⟨⟨enters214, ok214, fun _ => rfl⟩, trivial⟩ trivial trivial
noncomputable def s147 : FSpec := ⟨[.imm false (.slice 141 (.pair (.int .i64) (.pair (.int .i64) (.pair (.int .i64) (.pair (.pair (.int .i64) (.pair (.int .i64) (.pair (.int .i64) (.pair (.int .i64) (.pair (.int .i64) .unit))))) (.pair (.pair (.int .i64) (.pair (.slice 3 (.int .i64)) .unit)) .unit)))))), .clo [(true, (.pair (.int .i64) (.pair (.int .i64) (.pair (.int .i64) (.pair (.pair (.int .i64) (.pair (.int .i64) (.pair (.int .i64) (.pair (.int .i64) (.pair (.int .i64) .unit))))) (.pair (.pair (.int .i64) (.pair (.slice 3 (.int .i64)) .unit)) .unit))))))] .bool], [.imm false .bool], fun x => S_ContainsFunc_Limpl_Row_impl_Row x.1 x.2.1, true⟩
theorem ok147 : FOk Tryz.prog fa 147 s147 := fn_says env147 Tryz.func147 rfl fun x y h => ⟨0, (r147 0 x.1 x.2.1).trans h⟩
theorem enters147 : Enters Tryz.prog 147 := enters Tryz.func147 (by kernel_rfl) rfl
noncomputable def E213 : Env := { tab := tab, sig := [], clos := [], live := [(0, [0, 1, 7, 8], [])], eqs := [], inl := [] }
set_option maxRecDepth 100000 in
theorem r213 (N : Nat) (a0 : List (List T7)) (a1 : (List T7 × Unit) → Option Bool) : runF N E213 Tryz.f213 [.imm false (.slice 182 (.slice 141 (.pair (.int .i64) (.pair (.int .i64) (.pair (.int .i64) (.pair (.pair (.int .i64) (.pair (.int .i64) (.pair (.int .i64) (.pair (.int .i64) (.pair (.int .i64) .unit))))) (.pair (.pair (.int .i64) (.pair (.slice 3 (.int .i64)) .unit)) .unit))))))), .clo [(false, (.slice 141 (.pair (.int .i64) (.pair (.int .i64) (.pair (.int .i64) (.pair (.pair (.int .i64) (.pair (.int .i64) (.pair (.int .i64) (.pair (.int .i64) (.pair (.int .i64) .unit))))) (.pair (.pair (.int .i64) (.pair (.slice 3 (.int .i64)) .unit)) .unit)))))))] .bool] [.imm false (.int .i64)] (a0, a1, ()) = p_IndexFunc_LLimpl_Row_Limpl_Row N a0 a1 := by kernel_rfl
theorem env213 : EnvOk Tryz.prog (fa.at true) E213 := envOk mixed tabOk trivial trivial trivial
noncomputable def s213 : FSpec := ⟨[.imm false (.slice 182 (.slice 141 (.pair (.int .i64) (.pair (.int .i64) (.pair (.int .i64) (.pair (.pair (.int .i64) (.pair (.int .i64) (.pair (.int .i64) (.pair (.int .i64) (.pair (.int .i64) .unit))))) (.pair (.pair (.int .i64) (.pair (.slice 3 (.int .i64)) .unit)) .unit))))))), .clo [(false, (.slice 141 (.pair (.int .i64) (.pair (.int .i64) (.pair (.int .i64) (.pair (.pair (.int .i64) (.pair (.int .i64) (.pair (.int .i64) (.pair (.int .i64) (.pair (.int .i64) .unit))))) (.pair (.pair (.int .i64) (.pair (.slice 3 (.int .i64)) .unit)) .unit)))))))] .bool], [.imm false (.int .i64)], fun x => S_IndexFunc_LLimpl_Row_Limpl_Row x.1 x.2.1, true⟩
theorem ok213 : FOk Tryz.prog fa 213 s213 := fn_says env213 Tryz.func213 rfl fun x y h => let ⟨N, hN⟩ := lim_some h; ⟨N, (r213 N x.1 x.2.1).trans hN⟩
theorem enters213 : Enters Tryz.prog 213 := enters Tryz.func213 (by kernel_rfl) rfl
noncomputable def E145 : Env := { tab := tab, sig := [(213, s213)], clos := [], live := [], eqs := [], inl := [] }
set_option maxRecDepth 100000 in
theorem r145 (N : Nat) (a0 : List (List T7)) (a1 : (List T7 × Unit) → Option Bool) : runF N E145 Tryz.f145 [.imm false (.slice 182 (.slice 141 (.pair (.int .i64) (.pair (.int .i64) (.pair (.int .i64) (.pair (.pair (.int .i64) (.pair (.int .i64) (.pair (.int .i64) (.pair (.int .i64) (.pair (.int .i64) .unit))))) (.pair (.pair (.int .i64) (.pair (.slice 3 (.int .i64)) .unit)) .unit))))))), .clo [(false, (.slice 141 (.pair (.int .i64) (.pair (.int .i64) (.pair (.int .i64) (.pair (.pair (.int .i64) (.pair (.int .i64) (.pair (.int .i64) (.pair (.int .i64) (.pair (.int .i64) .unit))))) (.pair (.pair (.int .i64) (.pair (.slice 3 (.int .i64)) .unit)) .unit)))))))] .bool] [.imm false .bool] (a0, a1, ()) = p_ContainsFunc_LLimpl_Row_Limpl_Row N a0 a1 := by kernel_rfl
theorem env145 : EnvOk Tryz.prog (fa.at true) E145 := envOk mixed tabOk ⟨⟨enters213, ok213, fun _ => rfl⟩, trivial⟩ trivial trivial
noncomputable def s145 : FSpec := ⟨[.imm false (.slice 182 (.slice 141 (.pair (.int .i64) (.pair (.int .i64) (.pair (.int .i64) (.pair (.pair (.int .i64) (.pair (.int .i64) (.pair (.int .i64) (.pair (.int .i64) (.pair (.int .i64) .unit))))) (.pair (.pair (.int .i64) (.pair (.slice 3 (.int .i64)) .unit)) .unit))))))), .clo [(false, (.slice 141 (.pair (.int .i64) (.pair (.int .i64) (.pair (.int .i64) (.pair (.pair (.int .i64) (.pair (.int .i64) (.pair (.int .i64) (.pair (.int .i64) (.pair (.int .i64) .unit))))) (.pair (.pair (.int .i64) (.pair (.slice 3 (.int .i64)) .unit)) .unit)))))))] .bool], [.imm false .bool], fun x => S_ContainsFunc_LLimpl_Row_Limpl_Row x.1 x.2.1, true⟩
theorem ok145 : FOk Tryz.prog fa 145 s145 := fn_says env145 Tryz.func145 rfl fun x y h => ⟨0, (r145 0 x.1 x.2.1).trans h⟩
theorem enters145 : Enters Tryz.prog 145 := enters Tryz.func145 (by kernel_rfl) rfl
theorem enters146 : Enters Tryz.prog 146 := enters Tryz.func146 (by kernel_rfl) rfl
theorem enters148 : Enters Tryz.prog 148 := enters Tryz.func148 (by kernel_rfl) rfl
noncomputable def E69 : Env := { tab := tab, sig := [(77, s77), (145, s145), (147, s147), (149, s149)], clos := [(146, ⟨Tryz.f146, [(false, (.slice 141 (.pair (.int .i64) (.pair (.int .i64) (.pair (.int .i64) (.pair (.pair (.int .i64) (.pair (.int .i64) (.pair (.int .i64) (.pair (.int .i64) (.pair (.int .i64) .unit))))) (.pair (.pair (.int .i64) (.pair (.slice 3 (.int .i64)) .unit)) .unit)))))))], []⟩), (148, ⟨Tryz.f148, [(true, (.pair (.int .i64) (.pair (.int .i64) (.pair (.int .i64) (.pair (.pair (.int .i64) (.pair (.int .i64) (.pair (.int .i64) (.pair (.int .i64) (.pair (.int .i64) .unit))))) (.pair (.pair (.int .i64) (.pair (.slice 3 (.int .i64)) .unit)) .unit))))))], []⟩)], live := [], eqs := [], inl := [] }
set_option maxRecDepth 100000 in
theorem r69 (N : Nat) (a0 : T8) : runF N E69 Tryz.f69 [.imm true (.pair (.int .i64) (.pair (.slice 182 (.slice 141 (.pair (.int .i64) (.pair (.int .i64) (.pair (.int .i64) (.pair (.pair (.int .i64) (.pair (.int .i64) (.pair (.int .i64) (.pair (.int .i64) (.pair (.int .i64) .unit))))) (.pair (.pair (.int .i64) (.pair (.slice 3 (.int .i64)) .unit)) .unit))))))) .unit))] [.imm false .bool] (a0, ()) = p_impl_GoodTable N a0 := by kernel_rfl
theorem env69 : EnvOk Tryz.prog (fa.at true) E69 := envOk mixed tabOk ⟨⟨enters77, ok77, fun _ => rfl⟩, ⟨enters145, ok145, fun _ => rfl⟩, ⟨enters147, ok147, fun _ => rfl⟩, ⟨enters149, ok149, fun _ => rfl⟩, trivial⟩ ⟨⟨Tryz.func146, enters146⟩, ⟨Tryz.func148, enters148⟩, trivial⟩ trivial
noncomputable def s69 : FSpec := ⟨[.imm true (.pair (.int .i64) (.pair (.slice 182 (.slice 141 (.pair (.int .i64) (.pair (.int .i64) (.pair (.int .i64) (.pair (.pair (.int .i64) (.pair (.int .i64) (.pair (.int .i64) (.pair (.int .i64) (.pair (.int .i64) .unit))))) (.pair (.pair (.int .i64) (.pair (.slice 3 (.int .i64)) .unit)) .unit))))))) .unit))], [.imm false .bool], fun x => S_impl_GoodTable x.1, true⟩
theorem ok69 : FOk Tryz.prog fa 69 s69 := fn_says env69 Tryz.func69 rfl fun x y h => ⟨0, (r69 0 x.1).trans h⟩
theorem enters69 : Enters Tryz.prog 69 := enters Tryz.func69 (by kernel_rfl) rfl
noncomputable def E162 : Env := { tab := tab, sig := [], clos := [], live := [(0, [0, 1, 7, 8], [])], eqs := [], inl := [] }
set_option maxRecDepth 100000 in
theorem r162 (N : Nat) (a0 : List T8) (a1 : (T8 × Unit) → Option Bool) : runF N E162 Tryz.f162 [.imm false (.slice 30 (.pair (.int .i64) (.pair (.slice 182 (.slice 141 (.pair (.int .i64) (.pair (.int .i64) (.pair (.int .i64) (.pair (.pair (.int .i64) (.pair (.int .i64) (.pair (.int .i64) (.pair (.int .i64) (.pair (.int .i64) .unit))))) (.pair (.pair (.int .i64) (.pair (.slice 3 (.int .i64)) .unit)) .unit))))))) .unit))), .clo [(true, (.pair (.int .i64) (.pair (.slice 182 (.slice 141 (.pair (.int .i64) (.pair (.int .i64) (.pair (.int .i64) (.pair (.pair (.int .i64) (.pair (.int .i64) (.pair (.int .i64) (.pair (.int .i64) (.pair (.int .i64) .unit))))) (.pair (.pair (.int .i64) (.pair (.slice 3 (.int .i64)) .unit)) .unit))))))) .unit)))] .bool] [.imm false (.int .i64)] (a0, a1, ()) = p_IndexFunc_Limpl_Table_impl_Table N a0 a1 := by kernel_rfl
theorem env162 : EnvOk Tryz.prog (fa.at true) E162 := envOk mixed tabOk trivial trivial trivial
noncomputable def s162 : FSpec := ⟨[.imm false (.slice 30 (.pair (.int .i64) (.pair (.slice 182 (.slice 141 (.pair (.int .i64) (.pair (.int .i64) (.pair (.int .i64) (.pair (.pair (.int .i64) (.pair (.int .i64) (.pair (.int .i64) (.pair (.int .i64) (.pair (.int .i64) .unit))))) (.pair (.pair (.int .i64) (.pair (.slice 3 (.int .i64)) .unit)) .unit))))))) .unit))), .clo [(true, (.pair (.int .i64) (.pair (.slice 182 (.slice 141 (.pair (.int .i64) (.pair (.int .i64) (.pair (.int .i64) (.pair (.pair (.int .i64) (.pair (.int .i64) (.pair (.int .i64) (.pair (.int .i64) (.pair (.int .i64) .unit))))) (.pair (.pair (.int .i64) (.pair (.slice 3 (.int .i64)) .unit)) .unit))))))) .unit)))] .bool], [.imm false (.int .i64)], fun x => S_IndexFunc_Limpl_Table_impl_Table x.1 x.2.1, true⟩
theorem ok162 : FOk Tryz.prog fa 162 s162 := fn_says env162 Tryz.func162 rfl fun x y h => let ⟨N, hN⟩ := lim_some h; ⟨N, (r162 N x.1 x.2.1).trans hN⟩
theorem enters162 : Enters Tryz.prog 162 := enters Tryz.func162 (by kernel_rfl) rfl
noncomputable def E82 : Env := { tab := tab, sig := [(162, s162)], clos := [], live := [], eqs := [], inl := [] }
set_option maxRecDepth 100000 in
theorem r82 (N : Nat) (a0 : List T8) (a1 : (T8 × Unit) → Option Bool) : runF N E82 Tryz.f82 [.imm false (.slice 30 (.pair (.int .i64) (.pair (.slice 182 (.slice 141 (.pair (.int .i64) (.pair (.int .i64) (.pair (.int .i64) (.pair (.pair (.int .i64) (.pair (.int .i64) (.pair (.int .i64) (.pair (.int .i64) (.pair (.int .i64) .unit))))) (.pair (.pair (.int .i64) (.pair (.slice 3 (.int .i64)) .unit)) .unit))))))) .unit))), .clo [(true, (.pair (.int .i64) (.pair (.slice 182 (.slice 141 (.pair (.int .i64) (.pair (.int .i64) (.pair (.int .i64) (.pair (.pair (.int .i64) (.pair (.int .i64) (.pair (.int .i64) (.pair (.int .i64) (.pair (.int .i64) .unit))))) (.pair (.pair (.int .i64) (.pair (.slice 3 (.int .i64)) .unit)) .unit))))))) .unit)))] .bool] [.imm false .bool] (a0, a1, ()) = p_ContainsFunc_Limpl_Table_impl_Table N a0 a1 := by kernel_rfl
theorem env82 : EnvOk Tryz.prog (fa.at true) E82 := envOk mixed tabOk ⟨⟨enters162, ok162, fun _ => rfl⟩, trivial⟩ trivial trivial
noncomputable def s82 : FSpec := ⟨[.imm false (.slice 30 (.pair (.int .i64) (.pair (.slice 182 (.slice 141 (.pair (.int .i64) (.pair (.int .i64) (.pair (.int .i64) (.pair (.pair (.int .i64) (.pair (.int .i64) (.pair (.int .i64) (.pair (.int .i64) (.pair (.int .i64) .unit))))) (.pair (.pair (.int .i64) (.pair (.slice 3 (.int .i64)) .unit)) .unit))))))) .unit))), .clo [(true, (.pair (.int .i64) (.pair (.slice 182 (.slice 141 (.pair (.int .i64) (.pair (.int .i64) (.pair (.int .i64) (.pair (.pair (.int .i64) (.pair (.int .i64) (.pair (.int .i64) (.pair (.int .i64) (.pair (.int .i64) .unit))))) (.pair (.pair (.int .i64) (.pair (.slice 3 (.int .i64)) .unit)) .unit))))))) .unit)))] .bool], [.imm false .bool], fun x => S_ContainsFunc_Limpl_Table_impl_Table x.1 x.2.1, true⟩
theorem ok82 : FOk Tryz.prog fa 82 s82 := fn_says env82 Tryz.func82 rfl fun x y h => ⟨0, (r82 0 x.1 x.2.1).trans h⟩
theorem enters82 : Enters Tryz.prog 82 := enters Tryz.func82 (by kernel_rfl) rfl
theorem enters222 : Enters Tryz.prog 222 := enters Tryz.func222 (by kernel_rfl) rfl
theorem enters223 : Enters Tryz.prog 223 := enters Tryz.func223 (by kernel_rfl) rfl
noncomputable def E156 : Env := { tab := tab, sig := [], clos := [(222, ⟨Tryz.f222, [], [(0, [1, 9, 10, 11], []), (2, [1, 4, 9, 10, 11, 16, 17, 18], [])]⟩), (223, ⟨Tryz.f223, [], []⟩)], live := [(0, [1, 3, 9, 10], []), (2, [1, 3, 4, 5, 9, 10], [])], eqs := [], inl := [222, 223] }
set_option maxRecDepth 100000 in
theorem r156 (N : Nat) (a0 : T8) : runF N E156 Tryz.f156 [.imm true (.pair (.int .i64) (.pair (.slice 182 (.slice 141 (.pair (.int .i64) (.pair (.int .i64) (.pair (.int .i64) (.pair (.pair (.int .i64) (.pair (.int .i64) (.pair (.int .i64) (.pair (.int .i64) (.pair (.int .i64) .unit))))) (.pair (.pair (.int .i64) (.pair (.slice 3 (.int .i64)) .unit)) .unit))))))) .unit))] [.deep false (.slice 25 (.slice 3 (.int .i64)))] (a0, ()) = p_impl_Table_mentioned N a0 := by kernel_rfl
theorem env156 : EnvOk Tryz.prog (fa.at true) E156 := envOk mixed tabOk trivial ⟨⟨Tryz.func222, enters222⟩, ⟨Tryz.func223, enters223⟩, trivial⟩ trivial
noncomputable def s156 : FSpec := ⟨[.imm true (.pair (.int .i64) (.pair (.slice 182 (.slice 141 (.pair (.int .i64) (.pair (.int .i64) (.pair (.int .i64) (.pair (.pair (.int .i64) (.pair (.int .i64) (.pair (.int .i64) (.pair (.int .i64) (.pair (.int .i64) .unit))))) (.pair (.pair (.int .i64) (.pair (.slice 3 (.int .i64)) .unit)) .unit))))))) .unit))], [.deep false (.slice 25 (.slice 3 (.int .i64)))], fun x => S_impl_Table_mentioned x.1, true⟩
theorem ok156 : FOk Tryz.prog fa 156 s156 := fn_says env156 Tryz.func156 rfl fun x y h => let ⟨N, hN⟩ := lim_some h; ⟨N, (r156 N x.1).trans hN⟩
theorem enters156 : Enters Tryz.prog 156 := enters Tryz.func156 (by kernel_rfl) rfl
noncomputable def E121 : Env := { tab := tab, sig := [], clos := [], live := [], eqs := [], inl := [] }
set_option maxRecDepth 100000 in
theorem r121 (N : Nat) (a0 : List Int) : runF N E121 Tryz.f121 [.imm false (.slice 3 (.int .i64))] [.deep false (.slice 3 (.int .i64))] (a0, ()) = p_Clone_Lint_int N a0 := by kernel_rfl
theorem env121 : EnvOk Tryz.prog (fa.at true) E121 := envOk mixed tabOk trivial trivial trivial
noncomputable def s121 : FSpec := ⟨[.imm false (.slice 3 (.int .i64))], [.deep false (.slice 3 (.int .i64))], fun x => S_Clone_Lint_int x.1, true⟩
theorem ok121 : FOk Tryz.prog fa 121 s121 := fn_says env121 Tryz.func121 rfl fun x y h => ⟨0, (r121 0 x.1).trans h⟩
theorem enters121 : Enters Tryz.prog 121 := enters Tryz.func121 (by kernel_rfl) rfl
noncomputable def E274 : Env := { tab := tab, sig := [(121, s121)], clos := [], live := [], eqs := [], inl := [] }
set_option maxRecDepth 100000 in
theorem r274 (N : Nat) (a0 : T6) : runF N E274 Tryz.f274 [.imm true (.pair (.int .i64) (.pair (.slice 3 (.int .i64)) .unit))] [.deep true (.pair (.int .i64) (.pair (.slice 3 (.int .i64)) .unit))] (a0, ()) = p_impl_Attr_copied N a0 := by kernel_rfl
theorem env274 : EnvOk Tryz.prog (fa.at true) E274 := envOk mixed tabOk ⟨⟨enters121, ok121, fun _ => rfl⟩, trivial⟩ trivial trivial
noncomputable def s274 : FSpec := ⟨[.imm true (.pair (.int .i64) (.pair (.slice 3 (.int .i64)) .unit))], [.deep true (.pair (.int .i64) (.pair (.slice 3 (.int .i64)) .unit))], fun x => S_impl_Attr_copied x.1, true⟩
theorem ok274 : FOk Tryz.prog fa 274 s274 := fn_says env274 Tryz.func274 rfl fun x y h => ⟨0, (r274 0 x.1).trans h⟩
theorem enters274 : Enters Tryz.prog 274 := enters Tryz.func274 (by kernel_rfl) rfl
noncomputable def E224 : Env := { tab := tab, sig := [(274, s274)], clos := [], live := [], eqs := [], inl := [] }
set_option maxRecDepth 100000 in
theorem r224 (N : Nat) (a0 : T7) : runF N E224 Tryz.f224 [.imm true (.pair (.int .i64) (.pair (.int .i64) (.pair (.int .i64) (.pair (.pair (.int .i64) (.pair (.int .i64) (.pair (.int .i64) (.pair (.int .i64) (.pair (.int .i64) .unit))))) (.pair (.pair (.int .i64) (.pair (.slice 3 (.int .i64)) .unit)) .unit)))))] [.deep true (.pair (.int .i64) (.pair (.int .i64) (.pair (.int .i64) (.pair (.pair (.int .i64) (.pair (.int .i64) (.pair (.int .i64) (.pair (.int .i64) (.pair (.int .i64) .unit))))) (.pair (.pair (.int .i64) (.pair (.slice 3 (.int .i64)) .unit)) .unit)))))] (a0, ()) = p_impl_Row_copied N a0 := by kernel_rfl
theorem env224 : EnvOk Tryz.prog (fa.at true) E224 := envOk mixed tabOk ⟨⟨enters274, ok274, fun _ => rfl⟩, trivial⟩ trivial trivial
noncomputable def s224 : FSpec := ⟨[.imm true (.pair (.int .i64) (.pair (.int .i64) (.pair (.int .i64) (.pair (.pair (.int .i64) (.pair (.int .i64) (.pair (.int .i64) (.pair (.int .i64) (.pair (.int .i64) .unit))))) (.pair (.pair (.int .i64) (.pair (.slice 3 (.int .i64)) .unit)) .unit)))))], [.deep true (.pair (.int .i64) (.pair (.int .i64) (.pair (.int .i64) (.pair (.pair (.int .i64) (.pair (.int .i64) (.pair (.int .i64) (.pair (.int .i64) (.pair (.int .i64) .unit))))) (.pair (.pair (.int .i64) (.pair (.slice 3 (.int .i64)) .unit)) .unit)))))], fun x => S_impl_Row_copied x.1, true⟩
theorem ok224 : FOk Tryz.prog fa 224 s224 := fn_says env224 Tryz.func224 rfl fun x y h => ⟨0, (r224 0 x.1).trans h⟩
theorem enters224 : Enters Tryz.prog 224 := enters Tryz.func224 (by kernel_rfl) rfl
noncomputable def E158 : Env := { tab := tab, sig := [(224, s224), (217, s217)], clos := [], live := [], eqs := [], inl := [] }
set_option maxRecDepth 100000 in
theorem r158 (N : Nat) (a0 : T8) (a1 : Int) (a2 : Int) : runF N E158 Tryz.f158 [.imm true (.pair (.int .i64) (.pair (.slice 182 (.slice 141 (.pair (.int .i64) (.pair (.int .i64) (.pair (.int .i64) (.pair (.pair (.int .i64) (.pair (.int .i64) (.pair (.int .i64) (.pair (.int .i64) (.pair (.int .i64) .unit))))) (.pair (.pair (.int .i64) (.pair (.slice 3 (.int .i64)) .unit)) .unit))))))) .unit)), .imm false (.int .i64), .imm false (.int .i64)] [.deep true (.pair (.int .i64) (.pair (.int .i64) (.pair (.int .i64) (.pair (.pair (.int .i64) (.pair (.int .i64) (.pair (.int .i64) (.pair (.int .i64) (.pair (.int .i64) .unit))))) (.pair (.pair (.int .i64) (.pair (.slice 3 (.int .i64)) .unit)) .unit)))))] (a0, a1, a2, ()) = p_impl_Table_row N a0 a1 a2 := by kernel_rfl
theorem env158 : EnvOk Tryz.prog (fa.at true) E158 := envOk mixed tabOk ⟨⟨enters224, ok224, fun _ => rfl⟩, ⟨enters217, ok217, fun _ => rfl⟩, trivial⟩ trivial trivial
noncomputable def s158 : FSpec := ⟨[.imm true (.pair (.int .i64) (.pair (.slice 182 (.slice 141 (.pair (.int .i64) (.pair (.int .i64) (.pair (.int .i64) (.pair (.pair (.int .i64) (.pair (.int .i64) (.pair (.int .i64) (.pair (.int .i64) (.pair (.int .i64) .unit))))) (.pair (.pair (.int .i64) (.pair (.slice 3 (.int .i64)) .unit)) .unit))))))) .unit)), .imm false (.int .i64), .imm false (.int .i64)], [.deep true (.pair (.int .i64) (.pair (.int .i64) (.pair (.int .i64) (.pair (.pair (.int .i64) (.pair (.int .i64) (.pair (.int .i64) (.pair (.int .i64) (.pair (.int .i64) .unit))))) (.pair (.pair (.int .i64) (.pair (.slice 3 (.int .i64)) .unit)) .unit)))))], fun x => S_impl_Table_row x.1 x.2.1 x.2.2.1, true⟩
theorem ok158 : FOk Tryz.prog fa 158 s158 := fn_says env158 Tryz.func158 rfl fun x y h => ⟨0, (r158 0 x.1 x.2.1 x.2.2.1).trans h⟩
theorem enters158 : Enters Tryz.prog 158 := enters Tryz.func158 (by kernel_rfl) rfl
noncomputable def E150 : Env := { tab := tab, sig := [], clos := [], live := [(0, [0, 1, 7, 8], [])], eqs := [], inl := [] }
set_option maxRecDepth 100000 in
theorem r150 (N : Nat) (a0 : List (List Int)) (a1 : (List Int × Unit) → Option Bool) : runF N E150 Tryz.f150 [.imm false (.slice 25 (.slice 3 (.int .i64))), .clo [(false, (.slice 3 (.int .i64)))] .bool] [.imm false (.int .i64)] (a0, a1, ()) = p_IndexFunc_LLint_Lint N a0 a1 := by kernel_rfl
theorem env150 : EnvOk Tryz.prog (fa.at true) E150 := envOk mixed tabOk trivial trivial trivial
noncomputable def s150 : FSpec := ⟨[.imm false (.slice 25 (.slice 3 (.int .i64))), .clo [(false, (.slice 3 (.int .i64)))] .bool], [.imm false (.int .i64)], fun x => S_IndexFunc_LLint_Lint x.1 x.2.1, true⟩
theorem ok150 : FOk Tryz.prog fa 150 s150 := fn_says env150 Tryz.func150 rfl fun x y h => let ⟨N, hN⟩ := lim_some h; ⟨N, (r150 N x.1 x.2.1).trans hN⟩
theorem enters150 : Enters Tryz.prog 150 := enters Tryz.func150 (by kernel_rfl) rfl
theorem enters157 : Enters Tryz.prog 157 := enters Tryz.func157 (by kernel_rfl) rfl
noncomputable def E74 : Env := { tab := tab, sig := [(156, s156), (158, s158)], clos := [(157, ⟨Tryz.f157, [(false, (.slice 3 (.int .i64)))], []⟩)], live := [], eqs := [], inl := [], rfn := [(122, ⟨.filter, 25, 1, false⟩)] }
set_option maxRecDepth 100000 in
theorem r74 (N : Nat) (a0 : T8) : runF N E74 Tryz.f74 [.imm true (.pair (.int .i64) (.pair (.slice 182 (.slice 141 (.pair (.int .i64) (.pair (.int .i64) (.pair (.int .i64) (.pair (.pair (.int .i64) (.pair (.int .i64) (.pair (.int .i64) (.pair (.int .i64) (.pair (.int .i64) .unit))))) (.pair (.pair (.int .i64) (.pair (.slice 3 (.int .i64)) .unit)) .unit))))))) .unit))] [.deep false (.slice 25 (.slice 3 (.int .i64)))] (a0, ()) = p_impl_Table_open N a0 := by kernel_rfl
theorem env74 : EnvOk Tryz.prog (fa.at true) E74 := envOk mixed tabOk ⟨⟨enters156, ok156, fun _ => rfl⟩, ⟨enters158, ok158, fun _ => rfl⟩, trivial⟩ ⟨⟨Tryz.func157, enters157⟩, trivial⟩ trivial ⟨rfn122, trivial⟩
noncomputable def s74 : FSpec := ⟨[.imm true (.pair (.int .i64) (.pair (.slice 182 (.slice 141 (.pair (.int .i64) (.pair (.int .i64) (.pair (.int .i64) (.pair (.pair (.int .i64) (.pair (.int .i64) (.pair (.int .i64) (.pair (.int .i64) (.pair (.int .i64) .unit))))) (.pair (.pair (.int .i64) (.pair (.slice 3 (.int .i64)) .unit)) .unit))))))) .unit))], [.deep false (.slice 25 (.slice 3 (.int .i64)))], fun x => S_impl_Table_open x.1, true⟩
theorem ok74 : FOk Tryz.prog fa 74 s74 := fn_says env74 Tryz.func74 rfl fun x y h => ⟨0, (r74 0 x.1).trans h⟩
theorem enters74 : Enters Tryz.prog 74 := enters Tryz.func74 (by kernel_rfl) rfl
noncomputable def E84 : Env := { tab := tab, sig := [], clos := [], live := [], eqs := [], inl := [] }
set_option maxRecDepth 100000 in
theorem r84 (N : Nat) (a0 : Int) (a1 : Int) (a2 : Int) : runF N E84 Tryz.f84 [.imm false (.int .i64), .imm false (.int .i64), .imm false (.int .i64)] [.imm false (.int .i64)] (a0, a1, a2, ()) = p_impl_waitOf N a0 a1 a2 := by kernel_rfl
theorem env84 : EnvOk Tryz.prog (fa.at true) E84 := envOk mixed tabOk trivial trivial trivial
noncomputable def s84 : FSpec := ⟨[.imm false (.int .i64), .imm false (.int .i64), .imm false (.int .i64)], [.imm false (.int .i64)], fun x => S_impl_waitOf x.1 x.2.1 x.2.2.1, true⟩
theorem ok84 : FOk Tryz.prog fa 84 s84 := fn_says env84 Tryz.func84 rfl fun x y h => ⟨0, (r84 0 x.1 x.2.1 x.2.2.1).trans h⟩
theorem enters84 : Enters Tryz.prog 84 := enters Tryz.func84 (by kernel_rfl) rfl
theorem enters83 : Enters Tryz.prog 83 := enters Tryz.func83 (by kernel_rfl) rfl
theorem enters70 : Enters Tryz.prog 70 := enters Tryz.func70 (by kernel_rfl) rfl
theorem enters151 : Enters Tryz.prog 151 := enters Tryz.func151 (by kernel_rfl) rfl
noncomputable def E20 : Env := { tab := tab, sig := [(27, s27), (82, s82), (69, s69), (74, s74), (150, s150), (152, s152), (84, s84), (121, s121)], clos := [(83, ⟨Tryz.f83, [(true, (.pair (.int .i64) (.pair (.slice 182 (.slice 141 (.pair (.int .i64) (.pair (.int .i64) (.pair (.int .i64) (.pair (.pair (.int .i64) (.pair (.int .i64) (.pair (.int .i64) (.pair (.int .i64) (.pair (.int .i64) .unit))))) (.pair (.pair (.int .i64) (.pair (.slice 3 (.int .i64)) .unit)) .unit))))))) .unit)))], []⟩), (70, ⟨Tryz.f70, [], [(0, [0, 5, 6, 7, 16, 17, 18, 46, 47, 48, 49, 50, 51, 52, 53, 54, 55, 56, 57, 58, 59, 60], [])]⟩), (151, ⟨Tryz.f151, [(false, (.slice 3 (.int .i64)))], []⟩)], live := [(0, [6, 9, 11, 34, 35, 36], [.take (.b 5 2) 3, .take (.b 5 3) 4])], eqs := [], inl := [70] }
set_option maxRecDepth 100000 in
theorem r20 (N : Nat) (a0 : Int) (a1 : Int) (a2 : List T8) : runF N E20 Tryz.f20 [.imm false (.int .i64), .imm false (.int .i64), .imm false (.slice 30 (.pair (.int .i64) (.pair (.slice 182 (.slice 141 (.pair (.int .i64) (.pair (.int .i64) (.pair (.int .i64) (.pair (.pair (.int .i64) (.pair (.int .i64) (.pair (.int .i64) (.pair (.int .i64) (.pair (.int .i64) .unit))))) (.pair (.pair (.int .i64) (.pair (.slice 3 (.int .i64)) .unit)) .unit))))))) .unit)))] [.deep true (.pair (.int .i64) (.pair (.int .i64) (.pair (.slice 25 (.slice 3 (.int .i64))) (.pair (.slice 3 (.int .i64)) .unit)))), .deep false (.slice 24 (.slice 25 (.slice 3 (.int .i64)))), .imm false .bool] (a0, a1, a2, ()) = p_impl_PlayWatch N a0 a1 a2 := by kernel_rfl
theorem env20 : EnvOk Tryz.prog (fa.at true) E20 := envOk mixed tabOk ⟨⟨enters27, ok27, fun _ => rfl⟩, ⟨enters82, ok82, fun _ => rfl⟩, ⟨enters69, ok69, fun _ => rfl⟩, ⟨enters74, ok74, fun _ => rfl⟩, ⟨enters150, ok150, fun _ => rfl⟩, ⟨enters152, ok152, fun _ => rfl⟩, ⟨enters84, ok84, fun _ => rfl⟩, ⟨enters121, ok121, fun _ => rfl⟩, trivial⟩ ⟨⟨Tryz.func83, enters83⟩, ⟨Tryz.func70, enters70⟩, ⟨Tryz.func151, enters151⟩, trivial⟩ trivial
noncomputable def s20 : FSpec := ⟨[.imm false (.int .i64), .imm false (.int .i64), .imm false (.slice 30 (.pair (.int .i64) (.pair (.slice 182 (.slice 141 (.pair (.int .i64) (.pair (.int .i64) (.pair (.int .i64) (.pair (.pair (.int .i64) (.pair (.int .i64) (.pair (.int .i64) (.pair (.int .i64) (.pair (.int .i64) .unit))))) (.pair (.pair (.int .i64) (.pair (.slice 3 (.int .i64)) .unit)) .unit))))))) .unit)))], [.deep true (.pair (.int .i64) (.pair (.int .i64) (.pair (.slice 25 (.slice 3 (.int .i64))) (.pair (.slice 3 (.int .i64)) .unit)))), .deep false (.slice 24 (.slice 25 (.slice 3 (.int .i64)))), .imm false .bool], fun x => S_impl_PlayWatch x.1 x.2.1 x.2.2.1, true⟩
theorem ok20 : FOk Tryz.prog fa 20 s20 := fn_says env20 Tryz.func20 rfl fun x y h => let ⟨N, hN⟩ := lim_some h; ⟨N, (r20 N x.1 x.2.1 x.2.2.1).trans hN⟩
theorem enters20 : Enters Tryz.prog 20 := enters Tryz.func20 (by kernel_rfl) rfl
noncomputable def E44 : Env := { tab := tab, sig := [], clos := [], live := [(0, [0, 1, 5], [])], eqs := [], inl := [] }
set_option maxRecDepth 100000 in
theorem r44 (N : Nat) (a0 : List Int) (a1 : List Int) : runF N E44 Tryz.f44 [.imm false (.slice 3 (.int .i64)), .imm false (.slice 3 (.int .i64))] [.imm false .bool] (a0, a1, ()) = p_laws_eqIntS N a0 a1 := by kernel_rfl
theorem env44 : EnvOk Tryz.prog (fa.at true) E44 := envOk mixed tabOk trivial trivial trivial
noncomputable def s44 : FSpec := ⟨[.imm false (.slice 3 (.int .i64)), .imm false (.slice 3 (.int .i64))], [.imm false .bool], fun x => S_laws_eqIntS x.1 x.2.1, true⟩
theorem ok44 : FOk Tryz.prog fa 44 s44 := fn_says env44 Tryz.func44 rfl fun x y h => let ⟨N, hN⟩ := lim_some h; ⟨N, (r44 N x.1 x.2.1).trans hN⟩
theorem enters44 : Enters Tryz.prog 44 := enters Tryz.func44 (by kernel_rfl) rfl
noncomputable def E93 : Env := { tab := tab, sig := [(44, s44)], clos := [], live := [(0, [0, 1, 5], [])], eqs := [], inl := [] }
set_option maxRecDepth 100000 in
theorem r93 (N : Nat) (a0 : List (List Int)) (a1 : List (List Int)) : runF N E93 Tryz.f93 [.imm false (.slice 25 (.slice 3 (.int .i64))), .imm false (.slice 25 (.slice 3 (.int .i64)))] [.imm false .bool] (a0, a1, ()) = p_laws_eqIntSS N a0 a1 := by kernel_rfl
theorem env93 : EnvOk Tryz.prog (fa.at true) E93 := envOk mixed tabOk ⟨⟨enters44, ok44, fun _ => rfl⟩, trivial⟩ trivial trivial
noncomputable def s93 : FSpec := ⟨[.imm false (.slice 25 (.slice 3 (.int .i64))), .imm false (.slice 25 (.slice 3 (.int .i64)))], [.imm false .bool], fun x => S_laws_eqIntSS x.1 x.2.1, true⟩
theorem ok93 : FOk Tryz.prog fa 93 s93 := fn_says env93 Tryz.func93 rfl fun x y h => let ⟨N, hN⟩ := lim_some h; ⟨N, (r93 N x.1 x.2.1).trans hN⟩
theorem enters93 : Enters Tryz.prog 93 := enters Tryz.func93 (by kernel_rfl) rfl
noncomputable def E32 : Env := { tab := tab, sig := [(93, s93), (44, s44)], clos := [], live := [], eqs := [], inl := [] }
set_option maxRecDepth 100000 in
theorem r32 (N : Nat) (a0 : T0) (a1 : T0) : runF N E32 Tryz.f32 [.imm true (.pair (.int .i64) (.pair (.int .i64) (.pair (.slice 25 (.slice 3 (.int .i64))) (.pair (.slice 3 (.int .i64)) .unit)))), .imm true (.pair (.int .i64) (.pair (.int .i64) (.pair (.slice 25 (.slice 3 (.int .i64))) (.pair (.slice 3 (.int .i64)) .unit))))] [.imm false .bool] (a0, a1, ()) = p_laws_eqWatch N a0 a1 := by kernel_rfl
theorem env32 : EnvOk Tryz.prog (fa.at true) E32 := envOk mixed tabOk ⟨⟨enters93, ok93, fun _ => rfl⟩, ⟨enters44, ok44, fun _ => rfl⟩, trivial⟩ trivial trivial
noncomputable def s32 : FSpec := ⟨[.imm true (.pair (.int .i64) (.pair (.int .i64) (.pair (.slice 25 (.slice 3 (.int .i64))) (.pair (.slice 3 (.int .i64)) .unit)))), .imm true (.pair (.int .i64) (.pair (.int .i64) (.pair (.slice 25 (.slice 3 (.int .i64))) (.pair (.slice 3 (.int .i64)) .unit))))], [.imm false .bool], fun x => S_laws_eqWatch x.1 x.2.1, true⟩
theorem ok32 : FOk Tryz.prog fa 32 s32 := fn_says env32 Tryz.func32 rfl fun x y h => ⟨0, (r32 0 x.1 x.2.1).trans h⟩
theorem enters32 : Enters Tryz.prog 32 := enters Tryz.func32 (by kernel_rfl) rfl
noncomputable def E33 : Env := { tab := tab, sig := [(93, s93)], clos := [], live := [(0, [0, 1, 5], [])], eqs := [], inl := [] }
set_option maxRecDepth 100000 in
theorem r33 (N : Nat) (a0 : List (List (List Int))) (a1 : List (List (List Int))) : runF N E33 Tryz.f33 [.imm false (.slice 24 (.slice 25 (.slice 3 (.int .i64)))), .imm false (.slice 24 (.slice 25 (.slice 3 (.int .i64))))] [.imm false .bool] (a0, a1, ()) = p_laws_eqIntSSS N a0 a1 := by kernel_rfl
theorem env33 : EnvOk Tryz.prog (fa.at true) E33 := envOk mixed tabOk ⟨⟨enters93, ok93, fun _ => rfl⟩, trivial⟩ trivial trivial
noncomputable def s33 : FSpec := ⟨[.imm false (.slice 24 (.slice 25 (.slice 3 (.int .i64)))), .imm false (.slice 24 (.slice 25 (.slice 3 (.int .i64))))], [.imm false .bool], fun x => S_laws_eqIntSSS x.1 x.2.1, true⟩
theorem ok33 : FOk Tryz.prog fa 33 s33 := fn_says env33 Tryz.func33 rfl fun x y h => let ⟨N, hN⟩ := lim_some h; ⟨N, (r33 N x.1 x.2.1).trans hN⟩
theorem enters33 : Enters Tryz.prog 33 := enters Tryz.func33 (by kernel_rfl) rfl
noncomputable def E192 : Env := { tab := tab, sig := [], clos := [], live := [], eqs := [], inl := [] }
set_option maxRecDepth 100000 in
theorem r192 (N : Nat) (a0 : T2) (a1 : T2) : runF N E192 Tryz.f192 [.imm true (.pair (.int .i64) (.pair (.int .i64) (.pair (.int .i64) (.pair (.int .i64) (.pair (.int .i64) .unit))))), .imm true (.pair (.int .i64) (.pair (.int .i64) (.pair (.int .i64) (.pair (.int .i64) (.pair (.int .i64) .unit)))))] [.imm false .bool] (a0, a1, ()) = p_laws_eqCmd N a0 a1 := by kernel_rfl
theorem env192 : EnvOk Tryz.prog (fa.at true) E192 := envOk mixed tabOk trivial trivial trivial
noncomputable def s192 : FSpec := ⟨[.imm true (.pair (.int .i64) (.pair (.int .i64) (.pair (.int .i64) (.pair (.int .i64) (.pair (.int .i64) .unit))))), .imm true (.pair (.int .i64) (.pair (.int .i64) (.pair (.int .i64) (.pair (.int .i64) (.pair (.int .i64) .unit)))))], [.imm false .bool], fun x => S_laws_eqCmd x.1 x.2.1, true⟩
theorem ok192 : FOk Tryz.prog fa 192 s192 := fn_says env192 Tryz.func192 rfl fun x y h => ⟨0, (r192 0 x.1 x.2.1).trans h⟩
theorem enters192 : Enters Tryz.prog 192 := enters Tryz.func192 (by kernel_rfl) rfl
noncomputable def E271 : Env := { tab := tab, sig := [(44, s44)], clos := [], live := [], eqs := [], inl := [] }
set_option maxRecDepth 100000 in
theorem r271 (N : Nat) (a0 : T6) (a1 : T6) : runF N E271 Tryz.f271 [.imm true (.pair (.int .i64) (.pair (.slice 3 (.int .i64)) .unit)), .imm true (.pair (.int .i64) (.pair (.slice 3 (.int .i64)) .unit))] [.imm false .bool] (a0, a1, ()) = p_laws_eqAttr N a0 a1 := by kernel_rfl
theorem env271 : EnvOk Tryz.prog (fa.at true) E271 := envOk mixed tabOk ⟨⟨enters44, ok44, fun _ => rfl⟩, trivial⟩ trivial trivial
noncomputable def s271 : FSpec := ⟨[.imm true (.pair (.int .i64) (.pair (.slice 3 (.int .i64)) .unit)), .imm true (.pair (.int .i64) (.pair (.slice 3 (.int .i64)) .unit))], [.imm false .bool], fun x => S_laws_eqAttr x.1 x.2.1, true⟩
theorem ok271 : FOk Tryz.prog fa 271 s271 := fn_says env271 Tryz.func271 rfl fun x y h => ⟨0, (r271 0 x.1 x.2.1).trans h⟩
theorem enters271 : Enters Tryz.prog 271 := enters Tryz.func271 (by kernel_rfl) rfl
noncomputable def E234 : Env := { tab := tab, sig := [(192, s192), (271, s271)], clos := [], live := [], eqs := [], inl := [] }
set_option maxRecDepth 100000 in
theorem r234 (N : Nat) (a0 : T7) (a1 : T7) : runF N E234 Tryz.f234 [.imm true (.pair (.int .i64) (.pair (.int .i64) (.pair (.int .i64) (.pair (.pair (.int .i64) (.pair (.int .i64) (.pair (.int .i64) (.pair (.int .i64) (.pair (.int .i64) .unit))))) (.pair (.pair (.int .i64) (.pair (.slice 3 (.int .i64)) .unit)) .unit))))), .imm true (.pair (.int .i64) (.pair (.int .i64) (.pair (.int .i64) (.pair (.pair (.int .i64) (.pair (.int .i64) (.pair (.int .i64) (.pair (.int .i64) (.pair (.int .i64) .unit))))) (.pair (.pair (.int .i64) (.pair (.slice 3 (.int .i64)) .unit)) .unit)))))] [.imm false .bool] (a0, a1, ()) = p_laws_eqRow N a0 a1 := by kernel_rfl
theorem env234 : EnvOk Tryz.prog (fa.at true) E234 := envOk mixed tabOk ⟨⟨enters192, ok192, fun _ => rfl⟩, ⟨enters271, ok271, fun _ => rfl⟩, trivial⟩ trivial trivial
noncomputable def s234 : FSpec := ⟨[.imm true (.pair (.int .i64) (.pair (.int .i64) (.pair (.int .i64) (.pair (.pair (.int .i64) (.pair (.int .i64) (.pair (.int .i64) (.pair (.int .i64) (.pair (.int .i64) .unit))))) (.pair (.pair (.int .i64) (.pair (.slice 3 (.int .i64)) .unit)) .unit))))), .imm true (.pair (.int .i64) (.pair (.int .i64) (.pair (.int .i64) (.pair (.pair (.int .i64) (.pair (.int .i64) (.pair (.int .i64) (.pair (.int .i64) (.pair (.int .i64) .unit))))) (.pair (.pair (.int .i64) (.pair (.slice 3 (.int .i64)) .unit)) .unit)))))], [.imm false .bool], fun x => S_laws_eqRow x.1 x.2.1, true⟩
theorem ok234 : FOk Tryz.prog fa 234 s234 := fn_says env234 Tryz.func234 rfl fun x y h => ⟨0, (r234 0 x.1 x.2.1).trans h⟩
theorem enters234 : Enters Tryz.prog 234 := enters Tryz.func234 (by kernel_rfl) rfl
noncomputable def E172 : Env := { tab := tab, sig := [(234, s234)], clos := [], live := [(0, [0, 1, 5], [])], eqs := [], inl := [] }
set_option maxRecDepth 100000 in
theorem r172 (N : Nat) (a0 : List T7) (a1 : List T7) : runF N E172 Tryz.f172 [.imm false (.slice 141 (.pair (.int .i64) (.pair (.int .i64) (.pair (.int .i64) (.pair (.pair (.int .i64) (.pair (.int .i64) (.pair (.int .i64) (.pair (.int .i64) (.pair (.int .i64) .unit))))) (.pair (.pair (.int .i64) (.pair (.slice 3 (.int .i64)) .unit)) .unit)))))), .imm false (.slice 141 (.pair (.int .i64) (.pair (.int .i64) (.pair (.int .i64) (.pair (.pair (.int .i64) (.pair (.int .i64) (.pair (.int .i64) (.pair (.int .i64) (.pair (.int .i64) .unit))))) (.pair (.pair (.int .i64) (.pair (.slice 3 (.int .i64)) .unit)) .unit))))))] [.imm false .bool] (a0, a1, ()) = p_laws_eqRowS N a0 a1 := by kernel_rfl
theorem env172 : EnvOk Tryz.prog (fa.at true) E172 := envOk mixed tabOk ⟨⟨enters234, ok234, fun _ => rfl⟩, trivial⟩ trivial trivial
noncomputable def s172 : FSpec := ⟨[.imm false (.slice 141 (.pair (.int .i64) (.pair (.int .i64) (.pair (.int .i64) (.pair (.pair (.int .i64) (.pair (.int .i64) (.pair (.int .i64) (.pair (.int .i64) (.pair (.int .i64) .unit))))) (.pair (.pair (.int .i64) (.pair (.slice 3 (.int .i64)) .unit)) .unit)))))), .imm false (.slice 141 (.pair (.int .i64) (.pair (.int .i64) (.pair (.int .i64) (.pair (.pair (.int .i64) (.pair (.int .i64) (.pair (.int .i64) (.pair (.int .i64) (.pair (.int .i64) .unit))))) (.pair (.pair (.int .i64) (.pair (.slice 3 (.int .i64)) .unit)) .unit))))))], [.imm false .bool], fun x => S_laws_eqRowS x.1 x.2.1, true⟩
theorem ok172 : FOk Tryz.prog fa 172 s172 := fn_says env172 Tryz.func172 rfl fun x y h => let ⟨N, hN⟩ := lim_some h; ⟨N, (r172 N x.1 x.2.1).trans hN⟩
theorem enters172 : Enters Tryz.prog 172 := enters Tryz.func172 (by kernel_rfl) rfl
noncomputable def E101 : Env := { tab := tab, sig := [(172, s172)], clos := [], live := [(0, [0, 1, 5], [])], eqs := [], inl := [] }
set_option maxRecDepth 100000 in
theorem r101 (N : Nat) (a0 : List (List T7)) (a1 : List (List T7)) : runF N E101 Tryz.f101 [.imm false (.slice 182 (.slice 141 (.pair (.int .i64) (.pair (.int .i64) (.pair (.int .i64) (.pair (.pair (.int .i64) (.pair (.int .i64) (.pair (.int .i64) (.pair (.int .i64) (.pair (.int .i64) .unit))))) (.pair (.pair (.int .i64) (.pair (.slice 3 (.int .i64)) .unit)) .unit))))))), .imm false (.slice 182 (.slice 141 (.pair (.int .i64) (.pair (.int .i64) (.pair (.int .i64) (.pair (.pair (.int .i64) (.pair (.int .i64) (.pair (.int .i64) (.pair (.int .i64) (.pair (.int .i64) .unit))))) (.pair (.pair (.int .i64) (.pair (.slice 3 (.int .i64)) .unit)) .unit)))))))] [.imm false .bool] (a0, a1, ()) = p_laws_eqRowSS N a0 a1 := by kernel_rfl
theorem env101 : EnvOk Tryz.prog (fa.at true) E101 := envOk mixed tabOk ⟨⟨enters172, ok172, fun _ => rfl⟩, trivial⟩ trivial trivial
noncomputable def s101 : FSpec := ⟨[.imm false (.slice 182 (.slice 141 (.pair (.int .i64) (.pair (.int .i64) (.pair (.int .i64) (.pair (.pair (.int .i64) (.pair (.int .i64) (.pair (.int .i64) (.pair (.int .i64) (.pair (.int .i64) .unit))))) (.pair (.pair (.int .i64) (.pair (.slice 3 (.int .i64)) .unit)) .unit))))))), .imm false (.slice 182 (.slice 141 (.pair (.int .i64) (.pair (.int .i64) (.pair (.int .i64) (.pair (.pair (.int .i64) (.pair (.int .i64) (.pair (.int .i64) (.pair (.int .i64) (.pair (.int .i64) .unit))))) (.pair (.pair (.int .i64) (.pair (.slice 3 (.int .i64)) .unit)) .unit)))))))], [.imm false .bool], fun x => S_laws_eqRowSS x.1 x.2.1, true⟩
theorem ok101 : FOk Tryz.prog fa 101 s101 := fn_says env101 Tryz.func101 rfl fun x y h => let ⟨N, hN⟩ := lim_some h; ⟨N, (r101 N x.1 x.2.1).trans hN⟩
theorem enters101 : Enters Tryz.prog 101 := enters Tryz.func101 (by kernel_rfl) rfl
noncomputable def E45 : Env := { tab := tab, sig := [(101, s101)], clos := [], live := [], eqs := [], inl := [] }
set_option maxRecDepth 100000 in
theorem r45 (N : Nat) (a0 : T8) (a1 : T8) : runF N E45 Tryz.f45 [.imm true (.pair (.int .i64) (.pair (.slice 182 (.slice 141 (.pair (.int .i64) (.pair (.int .i64) (.pair (.int .i64) (.pair (.pair (.int .i64) (.pair (.int .i64) (.pair (.int .i64) (.pair (.int .i64) (.pair (.int .i64) .unit))))) (.pair (.pair (.int .i64) (.pair (.slice 3 (.int .i64)) .unit)) .unit))))))) .unit)), .imm true (.pair (.int .i64) (.pair (.slice 182 (.slice 141 (.pair (.int .i64) (.pair (.int .i64) (.pair (.int .i64) (.pair (.pair (.int .i64) (.pair (.int .i64) (.pair (.int .i64) (.pair (.int .i64) (.pair (.int .i64) .unit))))) (.pair (.pair (.int .i64) (.pair (.slice 3 (.int .i64)) .unit)) .unit))))))) .unit))] [.imm false .bool] (a0, a1, ()) = p_laws_eqTable N a0 a1 := by kernel_rfl
theorem env45 : EnvOk Tryz.prog (fa.at true) E45 := envOk mixed tabOk ⟨⟨enters101, ok101, fun _ => rfl⟩, trivial⟩ trivial trivial
noncomputable def s45 : FSpec := ⟨[.imm true (.pair (.int .i64) (.pair (.slice 182 (.slice 141 (.pair (.int .i64) (.pair (.int .i64) (.pair (.int .i64) (.pair (.pair (.int .i64) (.pair (.int .i64) (.pair (.int .i64) (.pair (.int .i64) (.pair (.int .i64) .unit))))) (.pair (.pair (.int .i64) (.pair (.slice 3 (.int .i64)) .unit)) .unit))))))) .unit)), .imm true (.pair (.int .i64) (.pair (.slice 182 (.slice 141 (.pair (.int .i64) (.pair (.int .i64) (.pair (.int .i64) (.pair (.pair (.int .i64) (.pair (.int .i64) (.pair (.int .i64) (.pair (.int .i64) (.pair (.int .i64) .unit))))) (.pair (.pair (.int .i64) (.pair (.slice 3 (.int .i64)) .unit)) .unit))))))) .unit))], [.imm false .bool], fun x => S_laws_eqTable x.1 x.2.1, true⟩
theorem ok45 : FOk Tryz.prog fa 45 s45 := fn_says env45 Tryz.func45 rfl fun x y h => ⟨0, (r45 0 x.1 x.2.1).trans h⟩
theorem enters45 : Enters Tryz.prog 45 := enters Tryz.func45 (by kernel_rfl) rfl
noncomputable def E34 : Env := { tab := tab, sig := [(45, s45)], clos := [], live := [(0, [0, 1, 5], [])], eqs := [], inl := [] }
set_option maxRecDepth 100000 in
theorem r34 (N : Nat) (a0 : List T8) (a1 : List T8) : runF N E34 Tryz.f34 [.imm false (.slice 30 (.pair (.int .i64) (.pair (.slice 182 (.slice 141 (.pair (.int .i64) (.pair (.int .i64) (.pair (.int .i64) (.pair (.pair (.int .i64) (.pair (.int .i64) (.pair (.int .i64) (.pair (.int .i64) (.pair (.int .i64) .unit))))) (.pair (.pair (.int .i64) (.pair (.slice 3 (.int .i64)) .unit)) .unit))))))) .unit))), .imm false (.slice 30 (.pair (.int .i64) (.pair (.slice 182 (.slice 141 (.pair (.int .i64) (.pair (.int .i64) (.pair (.int .i64) (.pair (.pair (.int .i64) (.pair (.int .i64) (.pair (.int .i64) (.pair (.int .i64) (.pair (.int .i64) .unit))))) (.pair (.pair (.int .i64) (.pair (.slice 3 (.int .i64)) .unit)) .unit))))))) .unit)))] [.imm false .bool] (a0, a1, ()) = p_laws_eqTableS N a0 a1 := by kernel_rfl
theorem env34 : EnvOk Tryz.prog (fa.at true) E34 := envOk mixed tabOk ⟨⟨enters45, ok45, fun _ => rfl⟩, trivial⟩ trivial trivial
noncomputable def s34 : FSpec := ⟨[.imm false (.slice 30 (.pair (.int .i64) (.pair (.slice 182 (.slice 141 (.pair (.int .i64) (.pair (.int .i64) (.pair (.int .i64) (.pair (.pair (.int .i64) (.pair (.int .i64) (.pair (.int .i64) (.pair (.int .i64) (.pair (.int .i64) .unit))))) (.pair (.pair (.int .i64) (.pair (.slice 3 (.int .i64)) .unit)) .unit))))))) .unit))), .imm false (.slice 30 (.pair (.int .i64) (.pair (.slice 182 (.slice 141 (.pair (.int .i64) (.pair (.int .i64) (.pair (.int .i64) (.pair (.pair (.int .i64) (.pair (.int .i64) (.pair (.int .i64) (.pair (.int .i64) (.pair (.int .i64) .unit))))) (.pair (.pair (.int .i64) (.pair (.slice 3 (.int .i64)) .unit)) .unit))))))) .unit)))], [.imm false .bool], fun x => S_laws_eqTableS x.1 x.2.1, true⟩
theorem ok34 : FOk Tryz.prog fa 34 s34 := fn_says env34 Tryz.func34 rfl fun x y h => let ⟨N, hN⟩ := lim_some h; ⟨N, (r34 N x.1 x.2.1).trans hN⟩
theorem enters34 : Enters Tryz.prog 34 := enters Tryz.func34 (by kernel_rfl) rfl
noncomputable def E47 : Env := { tab := tab, sig := [], clos := [], live := [(0, [0, 1, 5], [])], eqs := [], inl := [] }
set_option maxRecDepth 100000 in
theorem r47 (N : Nat) (a0 : List Int) (a1 : Int) : runF N E47 Tryz.f47 [.mut false (.slice 3 (.int .i64)), .imm false (.int .i64)] [.imm false (.int .i64)] (a0, a1, ()) = p_laws_markIntS N a0 a1 := by kernel_rfl
theorem env47 : EnvOk Tryz.prog (fa.at true) E47 := envOk mixed tabOk trivial trivial trivial
noncomputable def s47 : FSpec := ⟨[.mut false (.slice 3 (.int .i64)), .imm false (.int .i64)], [.imm false (.int .i64)], fun x => S_laws_markIntS x.1 x.2.1, true⟩
theorem ok47 : FOk Tryz.prog fa 47 s47 := fn_says env47 Tryz.func47 rfl fun x y h => let ⟨N, hN⟩ := lim_some h; ⟨N, (r47 N x.1 x.2.1).trans hN⟩
theorem enters47 : Enters Tryz.prog 47 := enters Tryz.func47 (by kernel_rfl) rfl
noncomputable def E167 : Env := { tab := tab, sig := [(47, s47)], clos := [], live := [(0, [0, 1, 5], [])], eqs := [], inl := [] }
set_option maxRecDepth 100000 in
theorem r167 (N : Nat) (a0 : List T7) (a1 : Int) : runF N E167 Tryz.f167 [.mut false (.slice 141 (.pair (.int .i64) (.pair (.int .i64) (.pair (.int .i64) (.pair (.pair (.int .i64) (.pair (.int .i64) (.pair (.int .i64) (.pair (.int .i64) (.pair (.int .i64) .unit))))) (.pair (.pair (.int .i64) (.pair (.slice 3 (.int .i64)) .unit)) .unit)))))), .imm false (.int .i64)] [.imm false (.int .i64)] (a0, a1, ()) = p_laws_markRowS N a0 a1 := by kernel_rfl
theorem env167 : EnvOk Tryz.prog (fa.at true) E167 := envOk mixed tabOk ⟨⟨enters47, ok47, fun _ => rfl⟩, trivial⟩ trivial trivial
noncomputable def s167 : FSpec := ⟨[.mut false (.slice 141 (.pair (.int .i64) (.pair (.int .i64) (.pair (.int .i64) (.pair (.pair (.int .i64) (.pair (.int .i64) (.pair (.int .i64) (.pair (.int .i64) (.pair (.int .i64) .unit))))) (.pair (.pair (.int .i64) (.pair (.slice 3 (.int .i64)) .unit)) .unit)))))), .imm false (.int .i64)], [.imm false (.int .i64)], fun x => S_laws_markRowS x.1 x.2.1, true⟩
theorem ok167 : FOk Tryz.prog fa 167 s167 := fn_says env167 Tryz.func167 rfl fun x y h => let ⟨N, hN⟩ := lim_some h; ⟨N, (r167 N x.1 x.2.1).trans hN⟩
theorem enters167 : Enters Tryz.prog 167 := enters Tryz.func167 (by kernel_rfl) rfl
noncomputable def E94 : Env := { tab := tab, sig := [(167, s167)], clos := [], live := [(0, [0, 1, 5], [])], eqs := [], inl := [] }
set_option maxRecDepth 100000 in
theorem r94 (N : Nat) (a0 : List (List T7)) (a1 : Int) : runF N E94 Tryz.f94 [.mut false (.slice 182 (.slice 141 (.pair (.int .i64) (.pair (.int .i64) (.pair (.int .i64) (.pair (.pair (.int .i64) (.pair (.int .i64) (.pair (.int .i64) (.pair (.int .i64) (.pair (.int .i64) .unit))))) (.pair (.pair (.int .i64) (.pair (.slice 3 (.int .i64)) .unit)) .unit))))))), .imm false (.int .i64)] [.imm false (.int .i64)] (a0, a1, ()) = p_laws_markRowSS N a0 a1 := by kernel_rfl
theorem env94 : EnvOk Tryz.prog (fa.at true) E94 := envOk mixed tabOk ⟨⟨enters167, ok167, fun _ => rfl⟩, trivial⟩ trivial trivial
noncomputable def s94 : FSpec := ⟨[.mut false (.slice 182 (.slice 141 (.pair (.int .i64) (.pair (.int .i64) (.pair (.int .i64) (.pair (.pair (.int .i64) (.pair (.int .i64) (.pair (.int .i64) (.pair (.int .i64) (.pair (.int .i64) .unit))))) (.pair (.pair (.int .i64) (.pair (.slice 3 (.int .i64)) .unit)) .unit))))))), .imm false (.int .i64)], [.imm false (.int .i64)], fun x => S_laws_markRowSS x.1 x.2.1, true⟩
theorem ok94 : FOk Tryz.prog fa 94 s94 := fn_says env94 Tryz.func94 rfl fun x y h => let ⟨N, hN⟩ := lim_some h; ⟨N, (r94 N x.1 x.2.1).trans hN⟩
theorem enters94 : Enters Tryz.prog 94 := enters Tryz.func94 (by kernel_rfl) rfl
noncomputable def E35 : Env := { tab := tab, sig := [(94, s94)], clos := [], live := [(0, [0, 1, 5], [])], eqs := [], inl := [] }
set_option maxRecDepth 100000 in
theorem r35 (N : Nat) (a0 : List T8) (a1 : Int) : runF N E35 Tryz.f35 [.mut false (.slice 30 (.pair (.int .i64) (.pair (.slice 182 (.slice 141 (.pair (.int .i64) (.pair (.int .i64) (.pair (.int .i64) (.pair (.pair (.int .i64) (.pair (.int .i64) (.pair (.int .i64) (.pair (.int .i64) (.pair (.int .i64) .unit))))) (.pair (.pair (.int .i64) (.pair (.slice 3 (.int .i64)) .unit)) .unit))))))) .unit))), .imm false (.int .i64)] [.imm false (.int .i64)] (a0, a1, ()) = p_laws_markTableS N a0 a1 := by kernel_rfl
theorem env35 : EnvOk Tryz.prog (fa.at true) E35 := envOk mixed tabOk ⟨⟨enters94, ok94, fun _ => rfl⟩, trivial⟩ trivial trivial
noncomputable def s35 : FSpec := ⟨[.mut false (.slice 30 (.pair (.int .i64) (.pair (.slice 182 (.slice 141 (.pair (.int .i64) (.pair (.int .i64) (.pair (.int .i64) (.pair (.pair (.int .i64) (.pair (.int .i64) (.pair (.int .i64) (.pair (.int .i64) (.pair (.int .i64) .unit))))) (.pair (.pair (.int .i64) (.pair (.slice 3 (.int .i64)) .unit)) .unit))))))) .unit))), .imm false (.int .i64)], [.imm false (.int .i64)], fun x => S_laws_markTableS x.1 x.2.1, true⟩
theorem ok35 : FOk Tryz.prog fa 35 s35 := fn_says env35 Tryz.func35 rfl fun x y h => let ⟨N, hN⟩ := lim_some h; ⟨N, (r35 N x.1 x.2.1).trans hN⟩
theorem enters35 : Enters Tryz.prog 35 := enters Tryz.func35 (by kernel_rfl) rfl
noncomputable def E95 : Env := { tab := tab, sig := [(47, s47)], clos := [], live := [(0, [0, 1, 5], [])], eqs := [], inl := [] }
set_option maxRecDepth 100000 in
theorem r95 (N : Nat) (a0 : List (List Int)) (a1 : Int) : runF N E95 Tryz.f95 [.mut false (.slice 25 (.slice 3 (.int .i64))), .imm false (.int .i64)] [.imm false (.int .i64)] (a0, a1, ()) = p_laws_markIntSS N a0 a1 := by kernel_rfl
theorem env95 : EnvOk Tryz.prog (fa.at true) E95 := envOk mixed tabOk ⟨⟨enters47, ok47, fun _ => rfl⟩, trivial⟩ trivial trivial
noncomputable def s95 : FSpec := ⟨[.mut false (.slice 25 (.slice 3 (.int .i64))), .imm false (.int .i64)], [.imm false (.int .i64)], fun x => S_laws_markIntSS x.1 x.2.1, true⟩
theorem ok95 : FOk Tryz.prog fa 95 s95 := fn_says env95 Tryz.func95 rfl fun x y h => let ⟨N, hN⟩ := lim_some h; ⟨N, (r95 N x.1 x.2.1).trans hN⟩
theorem enters95 : Enters Tryz.prog 95 := enters Tryz.func95 (by kernel_rfl) rfl
noncomputable def E36 : Env := { tab := tab, sig := [(95, s95), (47, s47)], clos := [], live := [], eqs := [], inl := [] }
set_option maxRecDepth 100000 in
theorem r36 (N : Nat) (a0 : T0) (a1 : Int) : runF N E36 Tryz.f36 [.mut true (.pair (.int .i64) (.pair (.int .i64) (.pair (.slice 25 (.slice 3 (.int .i64))) (.pair (.slice 3 (.int .i64)) .unit)))), .imm false (.int .i64)] [.imm false (.int .i64)] (a0, a1, ()) = p_laws_markWatch N a0 a1 := by kernel_rfl
theorem env36 : EnvOk Tryz.prog (fa.at true) E36 := envOk mixed tabOk ⟨⟨enters95, ok95, fun _ => rfl⟩, ⟨enters47, ok47, fun _ => rfl⟩, trivial⟩ trivial trivial
noncomputable def s36 : FSpec := ⟨[.mut true (.pair (.int .i64) (.pair (.int .i64) (.pair (.slice 25 (.slice 3 (.int .i64))) (.pair (.slice 3 (.int .i64)) .unit)))), .imm false (.int .i64)], [.imm false (.int .i64)], fun x => S_laws_markWatch x.1 x.2.1, true⟩
theorem ok36 : FOk Tryz.prog fa 36 s36 := fn_says env36 Tryz.func36 rfl fun x y h => ⟨0, (r36 0 x.1 x.2.1).trans h⟩
theorem enters36 : Enters Tryz.prog 36 := enters Tryz.func36 (by kernel_rfl) rfl
end Go.Proofs.YtdcbankajhnepaaGreat.Am
