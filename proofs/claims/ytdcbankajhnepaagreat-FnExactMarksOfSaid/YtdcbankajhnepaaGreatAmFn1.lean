/- Functions, as they run on data. No condition. -/
import Derived.Test.YtdcbankajhnepaaGreatAmFn0
set_option linter.unusedVariables false
set_option maxRecDepth 100000
namespace Go.Proofs.YtdcbankajhnepaaGreat.Am
open Go.AM Go.AM.P Go.Proofs Go.Shelf
noncomputable def E147 : Env := { tab := tab, sig := [(214, s214)], clos := [], live := [], eqs := [], inl := [] }
set_option maxRecDepth 100000 in
theorem r147 (N : Nat) (a0 : List T7) (a1 : (T7 × Unit) → Option Bool) : runF N E147 Tryz.f147 [.imm false (.slice 141 (.pair (.int .i64) (.pair (.int .i64) (.pair (.int .i64) (.pair (.pair (.int .i64) (.pair (.int .i64) (.pair (.int .i64) (.pair (.int .i64) (.pair (.int .i64) .unit))))) (.pair (.pair (.int .i64) (.pair (.slice 3 (.int .i64)) .unit)) .unit)))))), .clo [(true, (.pair (.int .i64) (.pair (.int .i64) (.pair (.int .i64) (.pair (.pair (.int .i64) (.pair (.int .i64) (.pair (.int .i64) (.pair (.int .i64) (.pair (.int .i64) .unit))))) (.pair (.pair (.int .i64) (.pair (.slice 3 (.int .i64)) .unit)) .unit))))))] .bool] [.imm false .bool] (a0, a1, ()) = p_ContainsFunc_Limpl_Row_impl_Row N a0 a1 := by kernel_rfl
theorem env147 : EnvOk Tryz.prog (fa.at true) E147 := envOk mixed tabOk ⟨⟨enters214, ok214, fun _ => rfl⟩, trivial⟩ trivial trivial
noncomputable def s147 : FSpec := ⟨[.imm false (.slice 141 (.pair (.int .i64) (.pair (.int .i64) (.pair (.int .i64) (.pair (.pair (.int .i64) (.pair (.int .i64) (.pair (.int .i64) (.pair (.int .i64) (.pair (.int .i64) .unit))))) (.pair (.pair (.int .i64) (.pair (.slice 3 (.int .i64)) .unit)) .unit)))))), .clo [(true, (.pair (.int .i64) (.pair (.int .i64) (.pair (.int .i64) (.pair (.pair (.int .i64) (.pair (.int .i64) (.pair (.int .i64) (.pair (.int .i64) (.pair (.int .i64) .unit))))) (.pair (.pair (.int .i64) (.pair (.slice 3 (.int .i64)) .unit)) .unit))))))] .bool], [.imm false .bool], fun x => S_ContainsFunc_Limpl_Row_impl_Row x.1 x.2.1, true⟩
theorem ok147 : FOk Tryz.prog fa 147 s147 := fn_says env147 Tryz.func147 rfl fun x y h => ⟨0, (r147 0 x.1 x.2.1).trans h⟩
theorem enters147 : Enters Tryz.prog 147 := enters Tryz.func147 (by kernel_rfl) rfl
noncomputable def E213 : Env := { tab := tab, sig := [], clos := [], live := [(0, [0, 1, 7, 8], [])], eqs := [], inl := [] }
set_option maxRecDepth 100000 in
theorem r213 (N : Nat) (a0 : List (List T7)) (a1 : (List T7 × Unit) → Option Bool) : runF N E213 Tryz.f213 [.imm false (.slice 182 (.slice 141 (.pair (.int .i64) (.pair (.int .i64) (.pair (.int .i64) (.pair (.pair (.int .i64) (.pair (.int .i64) (.pair (.int .i64) (.pair (.int .i64) (.pair (.int .i64) .unit))))) (.pair (.pair (.int .i64) (.pair (.slice 3 (.int .i64)) .unit)) .unit))))))), .clo [(false, (.slice 141 (.pair (.int .i64) (.pair (.int .i64) (.pair (.int .i64) (.pair (.pair (.int .i64) (.pair (.int .i64) (.pair (.int .i64) (.pair (.int .i64) (.pair (.int .i64) .unit))))) (.pair (.pair (.int .i64) (.pair (.slice 3 (.int .i64)) .unit)) .unit)))))))] .bool] [.imm false (.int .i64)] (a0, a1, ()) = p_IndexFunc_LLimpl_Row_Limpl_Row N a0 a1 := by kernel_rfl
theorem env213 : EnvOk Tryz.prog (fa.at true) E213 := envOk mixed tabOk trivial trivial trivial
noncomputable def s213 : FSpec := ⟨[.imm false (.slice 182 (.slice 141 (.pair (.int .i64) (.pair (.int .i64) (.pair (.int .i64) (.pair (.pair (.int .i64) (.pair (.int .i64) (.pair (.int .i64) (.pair (.int .i64) (.pair (.int .i64) .unit))))) (.pair (.pair (.int .i64) (.pair (.slice 3 (.int .i64)) .unit)) .unit))))))), .clo [(false, (.slice 141 (.pair (.int .i64) (.pair (.int .i64) (.pair (.int .i64) (.pair (.pair (.int .i64) (.pair (.int .i64) (.pair (.int .i64) (.pair (.int .i64) (.pair (.int .i64) .unit))))) (.pair (.pair (.int .i64) (.pair (.slice 3 (.int .i64)) .unit)) .unit)))))))] .bool], [.imm false (.int .i64)], fun x => S_IndexFunc_LLimpl_Row_Limpl_Row x.1 x.2.1, true⟩
theorem ok213 : FOk Tryz.prog fa 213 s213 := fn_says env213 Tryz.func213 rfl fun x y h => let ⟨N, hN⟩ := lim_some h; ⟨N, (r213 N x.1 x.2.1).trans hN⟩
theorem enters213 : Enters Tryz.prog 213 := enters Tryz.func213 (by kernel_rfl) rfl
noncomputable def E145 : Env := { tab := tab, sig := [(213, s213)], clos := [], live := [], eqs := [], inl := [] }
set_option maxRecDepth 100000 in
theorem r145 (N : Nat) (a0 : List (List T7)) (a1 : (List T7 × Unit) → Option Bool) : runF N E145 Tryz.f145 [.imm false (.slice 182 (.slice 141 (.pair (.int .i64) (.pair (.int .i64) (.pair (.int .i64) (.pair (.pair (.int .i64) (.pair (.int .i64) (.pair (.int .i64) (.pair (.int .i64) (.pair (.int .i64) .unit))))) (.pair (.pair (.int .i64) (.pair (.slice 3 (.int .i64)) .unit)) .unit))))))), .clo [(false, (.slice 141 (.pair (.int .i64) (.pair (.int .i64) (.pair (.int .i64) (.pair (.pair (.int .i64) (.pair (.int .i64) (.pair (.int .i64) (.pair (.int .i64) (.pair (.int .i64) .unit))))) (.pair (.pair (.int .i64) (.pair (.slice 3 (.int .i64)) .unit)) .unit)))))))] .bool] [.imm false .bool] (a0, a1, ()) = p_ContainsFunc_LLimpl_Row_Limpl_Row N a0 a1 := by kernel_rfl
theorem env145 : EnvOk Tryz.prog (fa.at true) E145 := envOk mixed tabOk ⟨⟨enters213, ok213, fun _ => rfl⟩, trivial⟩ trivial trivial
noncomputable def s145 : FSpec := ⟨[.imm false (.slice 182 (.slice 141 (.pair (.int .i64) (.pair (.int .i64) (.pair (.int .i64) (.pair (.pair (.int .i64) (.pair (.int .i64) (.pair (.int .i64) (.pair (.int .i64) (.pair (.int .i64) .unit))))) (.pair (.pair (.int .i64) (.pair (.slice 3 (.int .i64)) .unit)) .unit))))))), .clo [(false, (.slice 141 (.pair (.int .i64) (.pair (.int .i64) (.pair (.int .i64) (.pair (.pair (.int .i64) (.pair (.int .i64) (.pair (.int .i64) (.pair (.int .i64) (.pair (.int .i64) .unit))))) (.pair (.pair (.int .i64) (.pair (.slice 3 (.int .i64)) .unit)) .unit)))))))] .bool], [.imm false .bool], fun x => S_ContainsFunc_LLimpl_Row_Limpl_Row x.1 x.2.1, true⟩
theorem ok145 : FOk Tryz.prog fa 145 s145 := fn_says env145 Tryz.func145 rfl fun x y h => ⟨0, (r145 0 x.1 x.2.1).trans h⟩
theorem enters145 : Enters Tryz.prog 145 := enters Tryz.func145 (by kernel_rfl) rfl
theorem enters146 : Enters Tryz.prog 146 := enters Tryz.func146 (by kernel_rfl) rfl
theorem enters148 : Enters Tryz.prog 148 := enters Tryz.func148 (by kernel_rfl) rfl
noncomputable def E69 : Env := { tab := tab, sig := [(77, s77), (145, s145), (147, s147), (149, s149)], clos := [(146, ⟨Tryz.f146, [(false, (.slice 141 (.pair (.int .i64) (.pair (.int .i64) (.pair (.int .i64) (.pair (.pair (.int .i64) (.pair (.int .i64) (.pair (.int .i64) (.pair (.int .i64) (.pair (.int .i64) .unit))))) (.pair (.pair (.int .i64) (.pair (.slice 3 (.int .i64)) .unit)) .unit)))))))], []⟩), (148, ⟨Tryz.f148, [(true, (.pair (.int .i64) (.pair (.int .i64) (.pair (.int .i64) (.pair (.pair (.int .i64) (.pair (.int .i64) (.pair (.int .i64) (.pair (.int .i64) (.pair (.int .i64) .unit))))) (.pair (.pair (.int .i64) (.pair (.slice 3 (.int .i64)) .unit)) .unit))))))], []⟩)], live := [], eqs := [], inl := [] }
set_option maxRecDepth 100000 in
theorem r69 (N : Nat) (a0 : T8) : runF N E69 Tryz.f69 [.imm true (.pair (.int .i64) (.pair (.slice 182 (.slice 141 (.pair (.int .i64) (.pair (.int .i64) (.pair (.int .i64) (.pair (.pair (.int .i64) (.pair (.int .i64) (.pair (.int .i64) (.pair (.int .i64) (.pair (.int .i64) .unit))))) (.pair (.pair (.int .i64) (.pair (.slice 3 (.int .i64)) .unit)) .unit))))))) .unit))] [.imm false .bool] (a0, ()) = p_impl_GoodTable N a0 := by kernel_rfl
theorem env69 : EnvOk Tryz.prog (fa.at true) E69 := envOk mixed tabOk ⟨⟨enters77, ok77, fun _ => rfl⟩, ⟨enters145, ok145, fun _ => rfl⟩, ⟨enters147, ok147, fun _ => rfl⟩, ⟨enters149, ok149, fun _ => rfl⟩, trivial⟩ ⟨⟨Tryz.func146, enters146⟩, ⟨Tryz.func148, enters148⟩, trivial⟩ trivial
noncomputable def s69 : FSpec := ⟨[.imm true (.pair (.int .i64) (.pair (.slice 182 (.slice 141 (.pair (.int .i64) (.pair (.int .i64) (.pair (.int .i64) (.pair (.pair (.int .i64) (.pair (.int .i64) (.pair (.int .i64) (.pair (.int .i64) (.pair (.int .i64) .unit))))) (.pair (.pair (.int .i64) (.pair (.slice 3 (.int .i64)) .unit)) .unit))))))) .unit))], [.imm false .bool], fun x => S_impl_GoodTable x.1, true⟩
theorem ok69 : FOk Tryz.prog fa 69 s69 := fn_says env69 Tryz.func69 rfl fun x y h => ⟨0, (r69 0 x.1).trans h⟩
theorem enters69 : Enters Tryz.prog 69 := enters Tryz.func69 (by kernel_rfl) rfl
theorem enters222 : Enters Tryz.prog 222 := enters Tryz.func222 (by kernel_rfl) rfl
theorem enters277 : Enters Tryz.prog 277 := enters Tryz.func277 (by kernel_rfl) rfl
noncomputable def E231 : Env := { tab := tab, sig := [], clos := [(222, ⟨Tryz.f222, [], [(0, [1, 9, 10, 11], [.drop 4]), (2, [1, 4, 9, 10, 11, 16, 17, 18], [])]⟩), (277, ⟨Tryz.f277, [], []⟩)], live := [], eqs := [], inl := [222, 277] }
set_option maxRecDepth 100000 in
theorem r231 (N : Nat) (a0 : T8) : runF N E231 Tryz.f231 [.imm true (.pair (.int .i64) (.pair (.slice 182 (.slice 141 (.pair (.int .i64) (.pair (.int .i64) (.pair (.int .i64) (.pair (.pair (.int .i64) (.pair (.int .i64) (.pair (.int .i64) (.pair (.int .i64) (.pair (.int .i64) .unit))))) (.pair (.pair (.int .i64) (.pair (.slice 3 (.int .i64)) .unit)) .unit))))))) .unit))] [.deep false (.slice 25 (.slice 3 (.int .i64)))] (a0, ()) = p_impl_Table_committed N a0 := by kernel_rfl
theorem env231 : EnvOk Tryz.prog (fa.at true) E231 := envOk mixed tabOk trivial ⟨⟨Tryz.func222, enters222⟩, ⟨Tryz.func277, enters277⟩, trivial⟩ trivial
noncomputable def s231 : FSpec := ⟨[.imm true (.pair (.int .i64) (.pair (.slice 182 (.slice 141 (.pair (.int .i64) (.pair (.int .i64) (.pair (.int .i64) (.pair (.pair (.int .i64) (.pair (.int .i64) (.pair (.int .i64) (.pair (.int .i64) (.pair (.int .i64) .unit))))) (.pair (.pair (.int .i64) (.pair (.slice 3 (.int .i64)) .unit)) .unit))))))) .unit))], [.deep false (.slice 25 (.slice 3 (.int .i64)))], fun x => S_impl_Table_committed x.1, true⟩
theorem ok231 : FOk Tryz.prog fa 231 s231 := fn_says env231 Tryz.func231 rfl fun x y h => let ⟨N, hN⟩ := lim_some h; ⟨N, (r231 N x.1).trans hN⟩
theorem enters231 : Enters Tryz.prog 231 := enters Tryz.func231 (by kernel_rfl) rfl
noncomputable def E121 : Env := { tab := tab, sig := [], clos := [], live := [], eqs := [], inl := [] }
set_option maxRecDepth 100000 in
theorem r121 (N : Nat) (a0 : List Int) : runF N E121 Tryz.f121 [.imm false (.slice 3 (.int .i64))] [.deep false (.slice 3 (.int .i64))] (a0, ()) = p_Clone_Lint_int N a0 := by kernel_rfl
theorem env121 : EnvOk Tryz.prog (fa.at true) E121 := envOk mixed tabOk trivial trivial trivial
noncomputable def s121 : FSpec := ⟨[.imm false (.slice 3 (.int .i64))], [.deep false (.slice 3 (.int .i64))], fun x => S_Clone_Lint_int x.1, true⟩
theorem ok121 : FOk Tryz.prog fa 121 s121 := fn_says env121 Tryz.func121 rfl fun x y h => ⟨0, (r121 0 x.1).trans h⟩
theorem enters121 : Enters Tryz.prog 121 := enters Tryz.func121 (by kernel_rfl) rfl
noncomputable def E274 : Env := { tab := tab, sig := [(121, s121)], clos := [], live := [], eqs := [], inl := [] }
set_option maxRecDepth 100000 in
theorem r274 (N : Nat) (a0 : T6) : runF N E274 Tryz.f274 [.imm true (.pair (.int .i64) (.pair (.slice 3 (.int .i64)) .unit))] [.deep true (.pair (.int .i64) (.pair (.slice 3 (.int .i64)) .unit))] (a0, ()) = p_impl_Attr_copied N a0 := by kernel_rfl
theorem env274 : EnvOk Tryz.prog (fa.at true) E274 := envOk mixed tabOk ⟨⟨enters121, ok121, fun _ => rfl⟩, trivial⟩ trivial trivial
noncomputable def s274 : FSpec := ⟨[.imm true (.pair (.int .i64) (.pair (.slice 3 (.int .i64)) .unit))], [.deep true (.pair (.int .i64) (.pair (.slice 3 (.int .i64)) .unit))], fun x => S_impl_Attr_copied x.1, true⟩
theorem ok274 : FOk Tryz.prog fa 274 s274 := fn_says env274 Tryz.func274 rfl fun x y h => ⟨0, (r274 0 x.1).trans h⟩
theorem enters274 : Enters Tryz.prog 274 := enters Tryz.func274 (by kernel_rfl) rfl
noncomputable def E224 : Env := { tab := tab, sig := [(274, s274)], clos := [], live := [], eqs := [], inl := [] }
set_option maxRecDepth 100000 in
theorem r224 (N : Nat) (a0 : T7) : runF N E224 Tryz.f224 [.imm true (.pair (.int .i64) (.pair (.int .i64) (.pair (.int .i64) (.pair (.pair (.int .i64) (.pair (.int .i64) (.pair (.int .i64) (.pair (.int .i64) (.pair (.int .i64) .unit))))) (.pair (.pair (.int .i64) (.pair (.slice 3 (.int .i64)) .unit)) .unit)))))] [.deep true (.pair (.int .i64) (.pair (.int .i64) (.pair (.int .i64) (.pair (.pair (.int .i64) (.pair (.int .i64) (.pair (.int .i64) (.pair (.int .i64) (.pair (.int .i64) .unit))))) (.pair (.pair (.int .i64) (.pair (.slice 3 (.int .i64)) .unit)) .unit)))))] (a0, ()) = p_impl_Row_copied N a0 := by kernel_rfl
theorem env224 : EnvOk Tryz.prog (fa.at true) E224 := envOk mixed tabOk ⟨⟨enters274, ok274, fun _ => rfl⟩, trivial⟩ trivial trivial
noncomputable def s224 : FSpec := ⟨[.imm true (.pair (.int .i64) (.pair (.int .i64) (.pair (.int .i64) (.pair (.pair (.int .i64) (.pair (.int .i64) (.pair (.int .i64) (.pair (.int .i64) (.pair (.int .i64) .unit))))) (.pair (.pair (.int .i64) (.pair (.slice 3 (.int .i64)) .unit)) .unit)))))], [.deep true (.pair (.int .i64) (.pair (.int .i64) (.pair (.int .i64) (.pair (.pair (.int .i64) (.pair (.int .i64) (.pair (.int .i64) (.pair (.int .i64) (.pair (.int .i64) .unit))))) (.pair (.pair (.int .i64) (.pair (.slice 3 (.int .i64)) .unit)) .unit)))))], fun x => S_impl_Row_copied x.1, true⟩
theorem ok224 : FOk Tryz.prog fa 224 s224 := fn_says env224 Tryz.func224 rfl fun x y h => ⟨0, (r224 0 x.1).trans h⟩
theorem enters224 : Enters Tryz.prog 224 := enters Tryz.func224 (by kernel_rfl) rfl
noncomputable def E158 : Env := { tab := tab, sig := [(224, s224), (217, s217)], clos := [], live := [], eqs := [], inl := [] }
set_option maxRecDepth 100000 in
theorem r158 (N : Nat) (a0 : T8) (a1 : Int) (a2 : Int) : runF N E158 Tryz.f158 [.imm true (.pair (.int .i64) (.pair (.slice 182 (.slice 141 (.pair (.int .i64) (.pair (.int .i64) (.pair (.int .i64) (.pair (.pair (.int .i64) (.pair (.int .i64) (.pair (.int .i64) (.pair (.int .i64) (.pair (.int .i64) .unit))))) (.pair (.pair (.int .i64) (.pair (.slice 3 (.int .i64)) .unit)) .unit))))))) .unit)), .imm false (.int .i64), .imm false (.int .i64)] [.deep true (.pair (.int .i64) (.pair (.int .i64) (.pair (.int .i64) (.pair (.pair (.int .i64) (.pair (.int .i64) (.pair (.int .i64) (.pair (.int .i64) (.pair (.int .i64) .unit))))) (.pair (.pair (.int .i64) (.pair (.slice 3 (.int .i64)) .unit)) .unit)))))] (a0, a1, a2, ()) = p_impl_Table_row N a0 a1 a2 := by kernel_rfl
theorem env158 : EnvOk Tryz.prog (fa.at true) E158 := envOk mixed tabOk ⟨⟨enters224, ok224, fun _ => rfl⟩, ⟨enters217, ok217, fun _ => rfl⟩, trivial⟩ trivial trivial
noncomputable def s158 : FSpec := ⟨[.imm true (.pair (.int .i64) (.pair (.slice 182 (.slice 141 (.pair (.int .i64) (.pair (.int .i64) (.pair (.int .i64) (.pair (.pair (.int .i64) (.pair (.int .i64) (.pair (.int .i64) (.pair (.int .i64) (.pair (.int .i64) .unit))))) (.pair (.pair (.int .i64) (.pair (.slice 3 (.int .i64)) .unit)) .unit))))))) .unit)), .imm false (.int .i64), .imm false (.int .i64)], [.deep true (.pair (.int .i64) (.pair (.int .i64) (.pair (.int .i64) (.pair (.pair (.int .i64) (.pair (.int .i64) (.pair (.int .i64) (.pair (.int .i64) (.pair (.int .i64) .unit))))) (.pair (.pair (.int .i64) (.pair (.slice 3 (.int .i64)) .unit)) .unit)))))], fun x => S_impl_Table_row x.1 x.2.1 x.2.2.1, true⟩
theorem ok158 : FOk Tryz.prog fa 158 s158 := fn_says env158 Tryz.func158 rfl fun x y h => ⟨0, (r158 0 x.1 x.2.1 x.2.2.1).trans h⟩
theorem enters158 : Enters Tryz.prog 158 := enters Tryz.func158 (by kernel_rfl) rfl
noncomputable def E278 : Env := { tab := tab, sig := [], clos := [], live := [(0, [3, 9, 10, 11], []), (2, [3, 4, 5, 6, 9, 10, 11], [])], eqs := [], inl := [] }
set_option maxRecDepth 100000 in
theorem r278 (N : Nat) (a0 : T6) : runF N E278 Tryz.f278 [.imm true (.pair (.int .i64) (.pair (.slice 3 (.int .i64)) .unit))] [.deep false (.slice 25 (.slice 3 (.int .i64)))] (a0, ()) = p_impl_hung N a0 := by kernel_rfl
theorem env278 : EnvOk Tryz.prog (fa.at true) E278 := envOk mixed tabOk trivial trivial trivial
noncomputable def s278 : FSpec := ⟨[.imm true (.pair (.int .i64) (.pair (.slice 3 (.int .i64)) .unit))], [.deep false (.slice 25 (.slice 3 (.int .i64)))], fun x => S_impl_hung x.1, true⟩
theorem ok278 : FOk Tryz.prog fa 278 s278 := fn_says env278 Tryz.func278 rfl fun x y h => let ⟨N, hN⟩ := lim_some h; ⟨N, (r278 N x.1).trans hN⟩
theorem enters278 : Enters Tryz.prog 278 := enters Tryz.func278 (by kernel_rfl) rfl
noncomputable def E150 : Env := { tab := tab, sig := [], clos := [], live := [(0, [0, 1, 7, 8], [])], eqs := [], inl := [] }
set_option maxRecDepth 100000 in
theorem r150 (N : Nat) (a0 : List (List Int)) (a1 : (List Int × Unit) → Option Bool) : runF N E150 Tryz.f150 [.imm false (.slice 25 (.slice 3 (.int .i64))), .clo [(false, (.slice 3 (.int .i64)))] .bool] [.imm false (.int .i64)] (a0, a1, ()) = p_IndexFunc_LLint_Lint N a0 a1 := by kernel_rfl
theorem env150 : EnvOk Tryz.prog (fa.at true) E150 := envOk mixed tabOk trivial trivial trivial
noncomputable def s150 : FSpec := ⟨[.imm false (.slice 25 (.slice 3 (.int .i64))), .clo [(false, (.slice 3 (.int .i64)))] .bool], [.imm false (.int .i64)], fun x => S_IndexFunc_LLint_Lint x.1 x.2.1, true⟩
theorem ok150 : FOk Tryz.prog fa 150 s150 := fn_says env150 Tryz.func150 rfl fun x y h => let ⟨N, hN⟩ := lim_some h; ⟨N, (r150 N x.1 x.2.1).trans hN⟩
theorem enters150 : Enters Tryz.prog 150 := enters Tryz.func150 (by kernel_rfl) rfl
noncomputable def E190 : Env := { tab := tab, sig := [(150, s150)], clos := [], live := [], eqs := [], inl := [] }
set_option maxRecDepth 100000 in
theorem r190 (N : Nat) (a0 : List (List Int)) (a1 : (List Int × Unit) → Option Bool) : runF N E190 Tryz.f190 [.imm false (.slice 25 (.slice 3 (.int .i64))), .clo [(false, (.slice 3 (.int .i64)))] .bool] [.imm false .bool] (a0, a1, ()) = p_ContainsFunc_LLint_Lint N a0 a1 := by kernel_rfl
theorem env190 : EnvOk Tryz.prog (fa.at true) E190 := envOk mixed tabOk ⟨⟨enters150, ok150, fun _ => rfl⟩, trivial⟩ trivial trivial
noncomputable def s190 : FSpec := ⟨[.imm false (.slice 25 (.slice 3 (.int .i64))), .clo [(false, (.slice 3 (.int .i64)))] .bool], [.imm false .bool], fun x => S_ContainsFunc_LLint_Lint x.1 x.2.1, true⟩
theorem ok190 : FOk Tryz.prog fa 190 s190 := fn_says env190 Tryz.func190 rfl fun x y h => ⟨0, (r190 0 x.1 x.2.1).trans h⟩
theorem enters190 : Enters Tryz.prog 190 := enters Tryz.func190 (by kernel_rfl) rfl
theorem enters191 : Enters Tryz.prog 191 := enters Tryz.func191 (by kernel_rfl) rfl
noncomputable def E124 : Env := { tab := tab, sig := [(190, s190), (152, s152)], clos := [(191, ⟨Tryz.f191, [(false, (.slice 3 (.int .i64)))], []⟩)], live := [], eqs := [], inl := [] }
set_option maxRecDepth 100000 in
theorem r124 (N : Nat) (a0 : List (List Int)) (a1 : List Int) : runF N E124 Tryz.f124 [.imm false (.slice 25 (.slice 3 (.int .i64))), .imm false (.slice 3 (.int .i64))] [.imm false .bool] (a0, a1, ()) = p_impl_hasInstance N a0 a1 := by kernel_rfl
theorem env124 : EnvOk Tryz.prog (fa.at true) E124 := envOk mixed tabOk ⟨⟨enters190, ok190, fun _ => rfl⟩, ⟨enters152, ok152, fun _ => rfl⟩, trivial⟩ ⟨⟨Tryz.func191, enters191⟩, trivial⟩ trivial
noncomputable def s124 : FSpec := ⟨[.imm false (.slice 25 (.slice 3 (.int .i64))), .imm false (.slice 3 (.int .i64))], [.imm false .bool], fun x => S_impl_hasInstance x.1 x.2.1, true⟩
theorem ok124 : FOk Tryz.prog fa 124 s124 := fn_says env124 Tryz.func124 rfl fun x y h => ⟨0, (r124 0 x.1 x.2.1).trans h⟩
theorem enters124 : Enters Tryz.prog 124 := enters Tryz.func124 (by kernel_rfl) rfl
noncomputable def E253 : Env := { tab := tab, sig := [], clos := [], live := [], eqs := [], inl := [] }
set_option maxRecDepth 100000 in
theorem r253 (N : Nat) (a0 : Int) : runF N E253 Tryz.f253 [.imm false (.int .i64)] [.imm false .bool] (a0, ()) = p_cmp_isNaN_int N a0 := by kernel_rfl
theorem env253 : EnvOk Tryz.prog (fa.at true) E253 := envOk mixed tabOk trivial trivial trivial
noncomputable def s253 : FSpec := ⟨[.imm false (.int .i64)], [.imm false .bool], fun x => S_cmp_isNaN_int x.1, true⟩
theorem ok253 : FOk Tryz.prog fa 253 s253 := fn_says env253 Tryz.func253 rfl fun x y h => ⟨0, (r253 0 x.1).trans h⟩
theorem enters253 : Enters Tryz.prog 253 := enters Tryz.func253 (by kernel_rfl) rfl
noncomputable def E186 : Env := { tab := tab, sig := [(253, s253)], clos := [], live := [], eqs := [], inl := [] }
set_option maxRecDepth 100000 in
theorem r186 (N : Nat) (a0 : Int) (a1 : Int) : runF N E186 Tryz.f186 [.imm false (.int .i64), .imm false (.int .i64)] [.imm false (.int .i64)] (a0, a1, ()) = p_cmp_Compare_int N a0 a1 := by kernel_rfl
theorem env186 : EnvOk Tryz.prog (fa.at true) E186 := envOk mixed tabOk ⟨⟨enters253, ok253, fun _ => rfl⟩, trivial⟩ trivial trivial
noncomputable def s186 : FSpec := ⟨[.imm false (.int .i64), .imm false (.int .i64)], [.imm false (.int .i64)], fun x => S_cmp_Compare_int x.1 x.2.1, true⟩
theorem ok186 : FOk Tryz.prog fa 186 s186 := fn_says env186 Tryz.func186 rfl fun x y h => ⟨0, (r186 0 x.1 x.2.1).trans h⟩
theorem enters186 : Enters Tryz.prog 186 := enters Tryz.func186 (by kernel_rfl) rfl
noncomputable def E111 : Env := { tab := tab, sig := [(186, s186)], clos := [], live := [(0, [0, 1, 9, 10, 11], [])], eqs := [], inl := [] }
set_option maxRecDepth 100000 in
theorem r111 (N : Nat) (a0 : List Int) (a1 : List Int) : runF N E111 Tryz.f111 [.imm false (.slice 3 (.int .i64)), .imm false (.slice 3 (.int .i64))] [.imm false (.int .i64)] (a0, a1, ()) = p_Compare_Lint_int N a0 a1 := by kernel_rfl
theorem env111 : EnvOk Tryz.prog (fa.at true) E111 := envOk mixed tabOk ⟨⟨enters186, ok186, fun _ => rfl⟩, trivial⟩ trivial trivial
noncomputable def s111 : FSpec := ⟨[.imm false (.slice 3 (.int .i64)), .imm false (.slice 3 (.int .i64))], [.imm false (.int .i64)], fun x => S_Compare_Lint_int x.1 x.2.1, true⟩
theorem ok111 : FOk Tryz.prog fa 111 s111 := fn_says env111 Tryz.func111 rfl fun x y h => let ⟨N, hN⟩ := lim_some h; ⟨N, (r111 N x.1 x.2.1).trans hN⟩
theorem enters111 : Enters Tryz.prog 111 := enters Tryz.func111 (by kernel_rfl) rfl
theorem enters279 : Enters Tryz.prog 279 := enters Tryz.func279 (by kernel_rfl) rfl
noncomputable def E233 : Env := { tab := tab, sig := [(158, s158), (278, s278), (124, s124), (111, s111)], clos := [(279, ⟨Tryz.f279, [(false, (.slice 3 (.int .i64))), (false, (.slice 3 (.int .i64)))], []⟩)], live := [(0, [2, 5, 6, 7], [.loose 3 []]), (2, [2, 5, 6, 7, 33, 34, 35], [.loose 2 [6], .loose 4 [6], .loose 3 [6]])], eqs := [], inl := [], rfn := [(109, ⟨.sort, 25, 1, false⟩)], rsl := [19] }
set_option maxRecDepth 100000 in
theorem r233 (N : Nat) (a0 : T8) (a1 : List Int) : runF N E233 Tryz.f233 [.imm true (.pair (.int .i64) (.pair (.slice 182 (.slice 141 (.pair (.int .i64) (.pair (.int .i64) (.pair (.int .i64) (.pair (.pair (.int .i64) (.pair (.int .i64) (.pair (.int .i64) (.pair (.int .i64) (.pair (.int .i64) .unit))))) (.pair (.pair (.int .i64) (.pair (.slice 3 (.int .i64)) .unit)) .unit))))))) .unit)), .imm false (.slice 3 (.int .i64))] [.imm false (.slice 25 (.slice 3 (.int .i64)))] (a0, a1, ()) = p_impl_Table_blockers N a0 a1 := by kernel_rfl
theorem env233 : EnvOk Tryz.prog (fa.at true) E233 := envOk mixed tabOk ⟨⟨enters158, ok158, fun _ => rfl⟩, ⟨enters278, ok278, fun _ => rfl⟩, ⟨enters124, ok124, fun _ => rfl⟩, ⟨enters111, ok111, fun _ => rfl⟩, trivial⟩ ⟨⟨Tryz.func279, enters279⟩, trivial⟩ trivial ⟨rfn109, trivial⟩
noncomputable def s233 : FSpec := ⟨[.imm true (.pair (.int .i64) (.pair (.slice 182 (.slice 141 (.pair (.int .i64) (.pair (.int .i64) (.pair (.int .i64) (.pair (.pair (.int .i64) (.pair (.int .i64) (.pair (.int .i64) (.pair (.int .i64) (.pair (.int .i64) .unit))))) (.pair (.pair (.int .i64) (.pair (.slice 3 (.int .i64)) .unit)) .unit))))))) .unit)), .imm false (.slice 3 (.int .i64))], [.imm false (.slice 25 (.slice 3 (.int .i64)))], fun x => S_impl_Table_blockers x.1 x.2.1, true⟩
theorem ok233 : FOk Tryz.prog fa 233 s233 := fn_says env233 Tryz.func233 rfl fun x y h => let ⟨N, hN⟩ := lim_some h; ⟨N, (r233 N x.1 x.2.1).trans hN⟩
theorem enters233 : Enters Tryz.prog 233 := enters Tryz.func233 (by kernel_rfl) rfl
theorem enters232 : Enters Tryz.prog 232 := enters Tryz.func232 (by kernel_rfl) rfl
noncomputable def E171 : Env := { tab := tab, sig := [(231, s231), (233, s233)], clos := [(232, ⟨Tryz.f232, [(false, (.slice 3 (.int .i64)))], []⟩)], live := [], eqs := [], inl := [], rfn := [(122, ⟨.filter, 25, 1, false⟩)] }
set_option maxRecDepth 100000 in
theorem r171 (N : Nat) (a0 : T8) : runF N E171 Tryz.f171 [.imm true (.pair (.int .i64) (.pair (.slice 182 (.slice 141 (.pair (.int .i64) (.pair (.int .i64) (.pair (.int .i64) (.pair (.pair (.int .i64) (.pair (.int .i64) (.pair (.int .i64) (.pair (.int .i64) (.pair (.int .i64) .unit))))) (.pair (.pair (.int .i64) (.pair (.slice 3 (.int .i64)) .unit)) .unit))))))) .unit))] [.deep false (.slice 25 (.slice 3 (.int .i64)))] (a0, ()) = p_impl_Table_ready N a0 := by kernel_rfl
theorem env171 : EnvOk Tryz.prog (fa.at true) E171 := envOk mixed tabOk ⟨⟨enters231, ok231, fun _ => rfl⟩, ⟨enters233, ok233, fun _ => rfl⟩, trivial⟩ ⟨⟨Tryz.func232, enters232⟩, trivial⟩ trivial ⟨rfn122, trivial⟩
noncomputable def s171 : FSpec := ⟨[.imm true (.pair (.int .i64) (.pair (.slice 182 (.slice 141 (.pair (.int .i64) (.pair (.int .i64) (.pair (.int .i64) (.pair (.pair (.int .i64) (.pair (.int .i64) (.pair (.int .i64) (.pair (.int .i64) (.pair (.int .i64) .unit))))) (.pair (.pair (.int .i64) (.pair (.slice 3 (.int .i64)) .unit)) .unit))))))) .unit))], [.deep false (.slice 25 (.slice 3 (.int .i64)))], fun x => S_impl_Table_ready x.1, true⟩
theorem ok171 : FOk Tryz.prog fa 171 s171 := fn_says env171 Tryz.func171 rfl fun x y h => ⟨0, (r171 0 x.1).trans h⟩
theorem enters171 : Enters Tryz.prog 171 := enters Tryz.func171 (by kernel_rfl) rfl
noncomputable def E100 : Env := { tab := tab, sig := [(171, s171), (124, s124)], clos := [], live := [(0, [3, 4, 11, 12], []), (2, [3, 4, 5, 6, 11, 12], [])], eqs := [], inl := [] }
set_option maxRecDepth 100000 in
theorem r100 (N : Nat) (a0 : T8) : runF N E100 Tryz.f100 [.imm true (.pair (.int .i64) (.pair (.slice 182 (.slice 141 (.pair (.int .i64) (.pair (.int .i64) (.pair (.int .i64) (.pair (.pair (.int .i64) (.pair (.int .i64) (.pair (.int .i64) (.pair (.int .i64) (.pair (.int .i64) .unit))))) (.pair (.pair (.int .i64) (.pair (.slice 3 (.int .i64)) .unit)) .unit))))))) .unit))] [.deep false (.slice 3 (.int .i64))] (a0, ()) = p_impl_Table_marks N a0 := by kernel_rfl
theorem env100 : EnvOk Tryz.prog (fa.at true) E100 := envOk mixed tabOk ⟨⟨enters171, ok171, fun _ => rfl⟩, ⟨enters124, ok124, fun _ => rfl⟩, trivial⟩ trivial trivial
noncomputable def s100 : FSpec := ⟨[.imm true (.pair (.int .i64) (.pair (.slice 182 (.slice 141 (.pair (.int .i64) (.pair (.int .i64) (.pair (.int .i64) (.pair (.pair (.int .i64) (.pair (.int .i64) (.pair (.int .i64) (.pair (.int .i64) (.pair (.int .i64) .unit))))) (.pair (.pair (.int .i64) (.pair (.slice 3 (.int .i64)) .unit)) .unit))))))) .unit))], [.deep false (.slice 3 (.int .i64))], fun x => S_impl_Table_marks x.1, true⟩
theorem ok100 : FOk Tryz.prog fa 100 s100 := fn_says env100 Tryz.func100 rfl fun x y h => let ⟨N, hN⟩ := lim_some h; ⟨N, (r100 N x.1).trans hN⟩
theorem enters100 : Enters Tryz.prog 100 := enters Tryz.func100 (by kernel_rfl) rfl
noncomputable def E43 : Env := { tab := tab, sig := [(69, s69), (100, s100)], clos := [], live := [], eqs := [], inl := [] }
set_option maxRecDepth 100000 in
theorem r43 (N : Nat) (a0 : T8) : runF N E43 Tryz.f43 [.imm true (.pair (.int .i64) (.pair (.slice 182 (.slice 141 (.pair (.int .i64) (.pair (.int .i64) (.pair (.int .i64) (.pair (.pair (.int .i64) (.pair (.int .i64) (.pair (.int .i64) (.pair (.int .i64) (.pair (.int .i64) .unit))))) (.pair (.pair (.int .i64) (.pair (.slice 3 (.int .i64)) .unit)) .unit))))))) .unit))] [.deep false (.slice 3 (.int .i64)), .imm false .bool] (a0, ()) = p_impl_MarksOf N a0 := by kernel_rfl
theorem env43 : EnvOk Tryz.prog (fa.at true) E43 := envOk mixed tabOk ⟨⟨enters69, ok69, fun _ => rfl⟩, ⟨enters100, ok100, fun _ => rfl⟩, trivial⟩ trivial trivial
noncomputable def s43 : FSpec := ⟨[.imm true (.pair (.int .i64) (.pair (.slice 182 (.slice 141 (.pair (.int .i64) (.pair (.int .i64) (.pair (.int .i64) (.pair (.pair (.int .i64) (.pair (.int .i64) (.pair (.int .i64) (.pair (.int .i64) (.pair (.int .i64) .unit))))) (.pair (.pair (.int .i64) (.pair (.slice 3 (.int .i64)) .unit)) .unit))))))) .unit))], [.deep false (.slice 3 (.int .i64)), .imm false .bool], fun x => S_impl_MarksOf x.1, true⟩
theorem ok43 : FOk Tryz.prog fa 43 s43 := fn_says env43 Tryz.func43 rfl fun x y h => ⟨0, (r43 0 x.1).trans h⟩
theorem enters43 : Enters Tryz.prog 43 := enters Tryz.func43 (by kernel_rfl) rfl
noncomputable def E44 : Env := { tab := tab, sig := [], clos := [], live := [(0, [0, 1, 5], [])], eqs := [], inl := [] }
set_option maxRecDepth 100000 in
theorem r44 (N : Nat) (a0 : List Int) (a1 : List Int) : runF N E44 Tryz.f44 [.imm false (.slice 3 (.int .i64)), .imm false (.slice 3 (.int .i64))] [.imm false .bool] (a0, a1, ()) = p_laws_eqIntS N a0 a1 := by kernel_rfl
theorem env44 : EnvOk Tryz.prog (fa.at true) E44 := envOk mixed tabOk trivial trivial trivial
noncomputable def s44 : FSpec := ⟨[.imm false (.slice 3 (.int .i64)), .imm false (.slice 3 (.int .i64))], [.imm false .bool], fun x => S_laws_eqIntS x.1 x.2.1, true⟩
theorem ok44 : FOk Tryz.prog fa 44 s44 := fn_says env44 Tryz.func44 rfl fun x y h => let ⟨N, hN⟩ := lim_some h; ⟨N, (r44 N x.1 x.2.1).trans hN⟩
theorem enters44 : Enters Tryz.prog 44 := enters Tryz.func44 (by kernel_rfl) rfl
noncomputable def E192 : Env := { tab := tab, sig := [], clos := [], live := [], eqs := [], inl := [] }
set_option maxRecDepth 100000 in
theorem r192 (N : Nat) (a0 : T2) (a1 : T2) : runF N E192 Tryz.f192 [.imm true (.pair (.int .i64) (.pair (.int .i64) (.pair (.int .i64) (.pair (.int .i64) (.pair (.int .i64) .unit))))), .imm true (.pair (.int .i64) (.pair (.int .i64) (.pair (.int .i64) (.pair (.int .i64) (.pair (.int .i64) .unit)))))] [.imm false .bool] (a0, a1, ()) = p_laws_eqCmd N a0 a1 := by kernel_rfl
theorem env192 : EnvOk Tryz.prog (fa.at true) E192 := envOk mixed tabOk trivial trivial trivial
noncomputable def s192 : FSpec := ⟨[.imm true (.pair (.int .i64) (.pair (.int .i64) (.pair (.int .i64) (.pair (.int .i64) (.pair (.int .i64) .unit))))), .imm true (.pair (.int .i64) (.pair (.int .i64) (.pair (.int .i64) (.pair (.int .i64) (.pair (.int .i64) .unit)))))], [.imm false .bool], fun x => S_laws_eqCmd x.1 x.2.1, true⟩
theorem ok192 : FOk Tryz.prog fa 192 s192 := fn_says env192 Tryz.func192 rfl fun x y h => ⟨0, (r192 0 x.1 x.2.1).trans h⟩
theorem enters192 : Enters Tryz.prog 192 := enters Tryz.func192 (by kernel_rfl) rfl
noncomputable def E271 : Env := { tab := tab, sig := [(44, s44)], clos := [], live := [], eqs := [], inl := [] }
set_option maxRecDepth 100000 in
theorem r271 (N : Nat) (a0 : T6) (a1 : T6) : runF N E271 Tryz.f271 [.imm true (.pair (.int .i64) (.pair (.slice 3 (.int .i64)) .unit)), .imm true (.pair (.int .i64) (.pair (.slice 3 (.int .i64)) .unit))] [.imm false .bool] (a0, a1, ()) = p_laws_eqAttr N a0 a1 := by kernel_rfl
theorem env271 : EnvOk Tryz.prog (fa.at true) E271 := envOk mixed tabOk ⟨⟨enters44, ok44, fun _ => rfl⟩, trivial⟩ trivial trivial
noncomputable def s271 : FSpec := ⟨[.imm true (.pair (.int .i64) (.pair (.slice 3 (.int .i64)) .unit)), .imm true (.pair (.int .i64) (.pair (.slice 3 (.int .i64)) .unit))], [.imm false .bool], fun x => S_laws_eqAttr x.1 x.2.1, true⟩
theorem ok271 : FOk Tryz.prog fa 271 s271 := fn_says env271 Tryz.func271 rfl fun x y h => ⟨0, (r271 0 x.1 x.2.1).trans h⟩
theorem enters271 : Enters Tryz.prog 271 := enters Tryz.func271 (by kernel_rfl) rfl
noncomputable def E234 : Env := { tab := tab, sig := [(192, s192), (271, s271)], clos := [], live := [], eqs := [], inl := [] }
set_option maxRecDepth 100000 in
theorem r234 (N : Nat) (a0 : T7) (a1 : T7) : runF N E234 Tryz.f234 [.imm true (.pair (.int .i64) (.pair (.int .i64) (.pair (.int .i64) (.pair (.pair (.int .i64) (.pair (.int .i64) (.pair (.int .i64) (.pair (.int .i64) (.pair (.int .i64) .unit))))) (.pair (.pair (.int .i64) (.pair (.slice 3 (.int .i64)) .unit)) .unit))))), .imm true (.pair (.int .i64) (.pair (.int .i64) (.pair (.int .i64) (.pair (.pair (.int .i64) (.pair (.int .i64) (.pair (.int .i64) (.pair (.int .i64) (.pair (.int .i64) .unit))))) (.pair (.pair (.int .i64) (.pair (.slice 3 (.int .i64)) .unit)) .unit)))))] [.imm false .bool] (a0, a1, ()) = p_laws_eqRow N a0 a1 := by kernel_rfl
theorem env234 : EnvOk Tryz.prog (fa.at true) E234 := envOk mixed tabOk ⟨⟨enters192, ok192, fun _ => rfl⟩, ⟨enters271, ok271, fun _ => rfl⟩, trivial⟩ trivial trivial
noncomputable def s234 : FSpec := ⟨[.imm true (.pair (.int .i64) (.pair (.int .i64) (.pair (.int .i64) (.pair (.pair (.int .i64) (.pair (.int .i64) (.pair (.int .i64) (.pair (.int .i64) (.pair (.int .i64) .unit))))) (.pair (.pair (.int .i64) (.pair (.slice 3 (.int .i64)) .unit)) .unit))))), .imm true (.pair (.int .i64) (.pair (.int .i64) (.pair (.int .i64) (.pair (.pair (.int .i64) (.pair (.int .i64) (.pair (.int .i64) (.pair (.int .i64) (.pair (.int .i64) .unit))))) (.pair (.pair (.int .i64) (.pair (.slice 3 (.int .i64)) .unit)) .unit)))))], [.imm false .bool], fun x => S_laws_eqRow x.1 x.2.1, true⟩
theorem ok234 : FOk Tryz.prog fa 234 s234 := fn_says env234 Tryz.func234 rfl fun x y h => ⟨0, (r234 0 x.1 x.2.1).trans h⟩
theorem enters234 : Enters Tryz.prog 234 := enters Tryz.func234 (by kernel_rfl) rfl
noncomputable def E172 : Env := { tab := tab, sig := [(234, s234)], clos := [], live := [(0, [0, 1, 5], [])], eqs := [], inl := [] }
set_option maxRecDepth 100000 in
theorem r172 (N : Nat) (a0 : List T7) (a1 : List T7) : runF N E172 Tryz.f172 [.imm false (.slice 141 (.pair (.int .i64) (.pair (.int .i64) (.pair (.int .i64) (.pair (.pair (.int .i64) (.pair (.int .i64) (.pair (.int .i64) (.pair (.int .i64) (.pair (.int .i64) .unit))))) (.pair (.pair (.int .i64) (.pair (.slice 3 (.int .i64)) .unit)) .unit)))))), .imm false (.slice 141 (.pair (.int .i64) (.pair (.int .i64) (.pair (.int .i64) (.pair (.pair (.int .i64) (.pair (.int .i64) (.pair (.int .i64) (.pair (.int .i64) (.pair (.int .i64) .unit))))) (.pair (.pair (.int .i64) (.pair (.slice 3 (.int .i64)) .unit)) .unit))))))] [.imm false .bool] (a0, a1, ()) = p_laws_eqRowS N a0 a1 := by kernel_rfl
theorem env172 : EnvOk Tryz.prog (fa.at true) E172 := envOk mixed tabOk ⟨⟨enters234, ok234, fun _ => rfl⟩, trivial⟩ trivial trivial
noncomputable def s172 : FSpec := ⟨[.imm false (.slice 141 (.pair (.int .i64) (.pair (.int .i64) (.pair (.int .i64) (.pair (.pair (.int .i64) (.pair (.int .i64) (.pair (.int .i64) (.pair (.int .i64) (.pair (.int .i64) .unit))))) (.pair (.pair (.int .i64) (.pair (.slice 3 (.int .i64)) .unit)) .unit)))))), .imm false (.slice 141 (.pair (.int .i64) (.pair (.int .i64) (.pair (.int .i64) (.pair (.pair (.int .i64) (.pair (.int .i64) (.pair (.int .i64) (.pair (.int .i64) (.pair (.int .i64) .unit))))) (.pair (.pair (.int .i64) (.pair (.slice 3 (.int .i64)) .unit)) .unit))))))], [.imm false .bool], fun x => S_laws_eqRowS x.1 x.2.1, true⟩
theorem ok172 : FOk Tryz.prog fa 172 s172 := fn_says env172 Tryz.func172 rfl fun x y h => let ⟨N, hN⟩ := lim_some h; ⟨N, (r172 N x.1 x.2.1).trans hN⟩
theorem enters172 : Enters Tryz.prog 172 := enters Tryz.func172 (by kernel_rfl) rfl
noncomputable def E101 : Env := { tab := tab, sig := [(172, s172)], clos := [], live := [(0, [0, 1, 5], [])], eqs := [], inl := [] }
set_option maxRecDepth 100000 in
theorem r101 (N : Nat) (a0 : List (List T7)) (a1 : List (List T7)) : runF N E101 Tryz.f101 [.imm false (.slice 182 (.slice 141 (.pair (.int .i64) (.pair (.int .i64) (.pair (.int .i64) (.pair (.pair (.int .i64) (.pair (.int .i64) (.pair (.int .i64) (.pair (.int .i64) (.pair (.int .i64) .unit))))) (.pair (.pair (.int .i64) (.pair (.slice 3 (.int .i64)) .unit)) .unit))))))), .imm false (.slice 182 (.slice 141 (.pair (.int .i64) (.pair (.int .i64) (.pair (.int .i64) (.pair (.pair (.int .i64) (.pair (.int .i64) (.pair (.int .i64) (.pair (.int .i64) (.pair (.int .i64) .unit))))) (.pair (.pair (.int .i64) (.pair (.slice 3 (.int .i64)) .unit)) .unit)))))))] [.imm false .bool] (a0, a1, ()) = p_laws_eqRowSS N a0 a1 := by kernel_rfl
theorem env101 : EnvOk Tryz.prog (fa.at true) E101 := envOk mixed tabOk ⟨⟨enters172, ok172, fun _ => rfl⟩, trivial⟩ trivial trivial
noncomputable def s101 : FSpec := ⟨[.imm false (.slice 182 (.slice 141 (.pair (.int .i64) (.pair (.int .i64) (.pair (.int .i64) (.pair (.pair (.int .i64) (.pair (.int .i64) (.pair (.int .i64) (.pair (.int .i64) (.pair (.int .i64) .unit))))) (.pair (.pair (.int .i64) (.pair (.slice 3 (.int .i64)) .unit)) .unit))))))), .imm false (.slice 182 (.slice 141 (.pair (.int .i64) (.pair (.int .i64) (.pair (.int .i64) (.pair (.pair (.int .i64) (.pair (.int .i64) (.pair (.int .i64) (.pair (.int .i64) (.pair (.int .i64) .unit))))) (.pair (.pair (.int .i64) (.pair (.slice 3 (.int .i64)) .unit)) .unit)))))))], [.imm false .bool], fun x => S_laws_eqRowSS x.1 x.2.1, true⟩
theorem ok101 : FOk Tryz.prog fa 101 s101 := fn_says env101 Tryz.func101 rfl fun x y h => let ⟨N, hN⟩ := lim_some h; ⟨N, (r101 N x.1 x.2.1).trans hN⟩
theorem enters101 : Enters Tryz.prog 101 := enters Tryz.func101 (by kernel_rfl) rfl
noncomputable def E45 : Env := { tab := tab, sig := [(101, s101)], clos := [], live := [], eqs := [], inl := [] }
set_option maxRecDepth 100000 in
theorem r45 (N : Nat) (a0 : T8) (a1 : T8) : runF N E45 Tryz.f45 [.imm true (.pair (.int .i64) (.pair (.slice 182 (.slice 141 (.pair (.int .i64) (.pair (.int .i64) (.pair (.int .i64) (.pair (.pair (.int .i64) (.pair (.int .i64) (.pair (.int .i64) (.pair (.int .i64) (.pair (.int .i64) .unit))))) (.pair (.pair (.int .i64) (.pair (.slice 3 (.int .i64)) .unit)) .unit))))))) .unit)), .imm true (.pair (.int .i64) (.pair (.slice 182 (.slice 141 (.pair (.int .i64) (.pair (.int .i64) (.pair (.int .i64) (.pair (.pair (.int .i64) (.pair (.int .i64) (.pair (.int .i64) (.pair (.int .i64) (.pair (.int .i64) .unit))))) (.pair (.pair (.int .i64) (.pair (.slice 3 (.int .i64)) .unit)) .unit))))))) .unit))] [.imm false .bool] (a0, a1, ()) = p_laws_eqTable N a0 a1 := by kernel_rfl
theorem env45 : EnvOk Tryz.prog (fa.at true) E45 := envOk mixed tabOk ⟨⟨enters101, ok101, fun _ => rfl⟩, trivial⟩ trivial trivial
noncomputable def s45 : FSpec := ⟨[.imm true (.pair (.int .i64) (.pair (.slice 182 (.slice 141 (.pair (.int .i64) (.pair (.int .i64) (.pair (.int .i64) (.pair (.pair (.int .i64) (.pair (.int .i64) (.pair (.int .i64) (.pair (.int .i64) (.pair (.int .i64) .unit))))) (.pair (.pair (.int .i64) (.pair (.slice 3 (.int .i64)) .unit)) .unit))))))) .unit)), .imm true (.pair (.int .i64) (.pair (.slice 182 (.slice 141 (.pair (.int .i64) (.pair (.int .i64) (.pair (.int .i64) (.pair (.pair (.int .i64) (.pair (.int .i64) (.pair (.int .i64) (.pair (.int .i64) (.pair (.int .i64) .unit))))) (.pair (.pair (.int .i64) (.pair (.slice 3 (.int .i64)) .unit)) .unit))))))) .unit))], [.imm false .bool], fun x => S_laws_eqTable x.1 x.2.1, true⟩
theorem ok45 : FOk Tryz.prog fa 45 s45 := fn_says env45 Tryz.func45 rfl fun x y h => ⟨0, (r45 0 x.1 x.2.1).trans h⟩
theorem enters45 : Enters Tryz.prog 45 := enters Tryz.func45 (by kernel_rfl) rfl
noncomputable def E47 : Env := { tab := tab, sig := [], clos := [], live := [(0, [0, 1, 5], [])], eqs := [], inl := [] }
set_option maxRecDepth 100000 in
theorem r47 (N : Nat) (a0 : List Int) (a1 : Int) : runF N E47 Tryz.f47 [.mut false (.slice 3 (.int .i64)), .imm false (.int .i64)] [.imm false (.int .i64)] (a0, a1, ()) = p_laws_markIntS N a0 a1 := by kernel_rfl
theorem env47 : EnvOk Tryz.prog (fa.at true) E47 := envOk mixed tabOk trivial trivial trivial
noncomputable def s47 : FSpec := ⟨[.mut false (.slice 3 (.int .i64)), .imm false (.int .i64)], [.imm false (.int .i64)], fun x => S_laws_markIntS x.1 x.2.1, true⟩
theorem ok47 : FOk Tryz.prog fa 47 s47 := fn_says env47 Tryz.func47 rfl fun x y h => let ⟨N, hN⟩ := lim_some h; ⟨N, (r47 N x.1 x.2.1).trans hN⟩
theorem enters47 : Enters Tryz.prog 47 := enters Tryz.func47 (by kernel_rfl) rfl
noncomputable def E167 : Env := { tab := tab, sig := [(47, s47)], clos := [], live := [(0, [0, 1, 5], [])], eqs := [], inl := [] }
set_option maxRecDepth 100000 in
theorem r167 (N : Nat) (a0 : List T7) (a1 : Int) : runF N E167 Tryz.f167 [.mut false (.slice 141 (.pair (.int .i64) (.pair (.int .i64) (.pair (.int .i64) (.pair (.pair (.int .i64) (.pair (.int .i64) (.pair (.int .i64) (.pair (.int .i64) (.pair (.int .i64) .unit))))) (.pair (.pair (.int .i64) (.pair (.slice 3 (.int .i64)) .unit)) .unit)))))), .imm false (.int .i64)] [.imm false (.int .i64)] (a0, a1, ()) = p_laws_markRowS N a0 a1 := by kernel_rfl
theorem env167 : EnvOk Tryz.prog (fa.at true) E167 := envOk mixed tabOk ⟨⟨enters47, ok47, fun _ => rfl⟩, trivial⟩ trivial trivial
noncomputable def s167 : FSpec := ⟨[.mut false (.slice 141 (.pair (.int .i64) (.pair (.int .i64) (.pair (.int .i64) (.pair (.pair (.int .i64) (.pair (.int .i64) (.pair (.int .i64) (.pair (.int .i64) (.pair (.int .i64) .unit))))) (.pair (.pair (.int .i64) (.pair (.slice 3 (.int .i64)) .unit)) .unit)))))), .imm false (.int .i64)], [.imm false (.int .i64)], fun x => S_laws_markRowS x.1 x.2.1, true⟩
theorem ok167 : FOk Tryz.prog fa 167 s167 := fn_says env167 Tryz.func167 rfl fun x y h => let ⟨N, hN⟩ := lim_some h; ⟨N, (r167 N x.1 x.2.1).trans hN⟩
theorem enters167 : Enters Tryz.prog 167 := enters Tryz.func167 (by kernel_rfl) rfl
noncomputable def E94 : Env := { tab := tab, sig := [(167, s167)], clos := [], live := [(0, [0, 1, 5], [])], eqs := [], inl := [] }
set_option maxRecDepth 100000 in
theorem r94 (N : Nat) (a0 : List (List T7)) (a1 : Int) : runF N E94 Tryz.f94 [.mut false (.slice 182 (.slice 141 (.pair (.int .i64) (.pair (.int .i64) (.pair (.int .i64) (.pair (.pair (.int .i64) (.pair (.int .i64) (.pair (.int .i64) (.pair (.int .i64) (.pair (.int .i64) .unit))))) (.pair (.pair (.int .i64) (.pair (.slice 3 (.int .i64)) .unit)) .unit))))))), .imm false (.int .i64)] [.imm false (.int .i64)] (a0, a1, ()) = p_laws_markRowSS N a0 a1 := by kernel_rfl
theorem env94 : EnvOk Tryz.prog (fa.at true) E94 := envOk mixed tabOk ⟨⟨enters167, ok167, fun _ => rfl⟩, trivial⟩ trivial trivial
noncomputable def s94 : FSpec := ⟨[.mut false (.slice 182 (.slice 141 (.pair (.int .i64) (.pair (.int .i64) (.pair (.int .i64) (.pair (.pair (.int .i64) (.pair (.int .i64) (.pair (.int .i64) (.pair (.int .i64) (.pair (.int .i64) .unit))))) (.pair (.pair (.int .i64) (.pair (.slice 3 (.int .i64)) .unit)) .unit))))))), .imm false (.int .i64)], [.imm false (.int .i64)], fun x => S_laws_markRowSS x.1 x.2.1, true⟩
theorem ok94 : FOk Tryz.prog fa 94 s94 := fn_says env94 Tryz.func94 rfl fun x y h => let ⟨N, hN⟩ := lim_some h; ⟨N, (r94 N x.1 x.2.1).trans hN⟩
theorem enters94 : Enters Tryz.prog 94 := enters Tryz.func94 (by kernel_rfl) rfl
noncomputable def E46 : Env := { tab := tab, sig := [(94, s94)], clos := [], live := [], eqs := [], inl := [] }
set_option maxRecDepth 100000 in
theorem r46 (N : Nat) (a0 : T8) (a1 : Int) : runF N E46 Tryz.f46 [.mut true (.pair (.int .i64) (.pair (.slice 182 (.slice 141 (.pair (.int .i64) (.pair (.int .i64) (.pair (.int .i64) (.pair (.pair (.int .i64) (.pair (.int .i64) (.pair (.int .i64) (.pair (.int .i64) (.pair (.int .i64) .unit))))) (.pair (.pair (.int .i64) (.pair (.slice 3 (.int .i64)) .unit)) .unit))))))) .unit)), .imm false (.int .i64)] [.imm false (.int .i64)] (a0, a1, ()) = p_laws_markTable N a0 a1 := by kernel_rfl
theorem env46 : EnvOk Tryz.prog (fa.at true) E46 := envOk mixed tabOk ⟨⟨enters94, ok94, fun _ => rfl⟩, trivial⟩ trivial trivial
noncomputable def s46 : FSpec := ⟨[.mut true (.pair (.int .i64) (.pair (.slice 182 (.slice 141 (.pair (.int .i64) (.pair (.int .i64) (.pair (.int .i64) (.pair (.pair (.int .i64) (.pair (.int .i64) (.pair (.int .i64) (.pair (.int .i64) (.pair (.int .i64) .unit))))) (.pair (.pair (.int .i64) (.pair (.slice 3 (.int .i64)) .unit)) .unit))))))) .unit)), .imm false (.int .i64)], [.imm false (.int .i64)], fun x => S_laws_markTable x.1 x.2.1, true⟩
theorem ok46 : FOk Tryz.prog fa 46 s46 := fn_says env46 Tryz.func46 rfl fun x y h => ⟨0, (r46 0 x.1 x.2.1).trans h⟩
theorem enters46 : Enters Tryz.prog 46 := enters Tryz.func46 (by kernel_rfl) rfl
noncomputable def E48 : Env := { tab := tab, sig := [], clos := [], live := [(0, [0, 1, 5], [])], eqs := [], inl := [] }
set_option maxRecDepth 100000 in
theorem r48 (N : Nat) (a0 : List Int) (a1 : Int) : runF N E48 Tryz.f48 [.imm false (.slice 3 (.int .i64)), .imm false (.int .i64)] [.imm false (.int .i64)] (a0, a1, ()) = p_laws_heldIntS N a0 a1 := by kernel_rfl
theorem env48 : EnvOk Tryz.prog (fa.at true) E48 := envOk mixed tabOk trivial trivial trivial
noncomputable def s48 : FSpec := ⟨[.imm false (.slice 3 (.int .i64)), .imm false (.int .i64)], [.imm false (.int .i64)], fun x => S_laws_heldIntS x.1 x.2.1, true⟩
theorem ok48 : FOk Tryz.prog fa 48 s48 := fn_says env48 Tryz.func48 rfl fun x y h => let ⟨N, hN⟩ := lim_some h; ⟨N, (r48 N x.1 x.2.1).trans hN⟩
theorem enters48 : Enters Tryz.prog 48 := enters Tryz.func48 (by kernel_rfl) rfl
noncomputable def E5 : Env := { tab := tab, sig := [(40, s40), (42, s42), (41, s41), (43, s43), (44, s44), (45, s45), (46, s46), (47, s47), (48, s48)], clos := [], live := [], eqs := [], inl := [] }
set_option maxRecDepth 100000 in
theorem r5 (N : Nat) (a0 : T8) : runF N E5 Tryz.f5 [.imm true (.pair (.int .i64) (.pair (.slice 201 (.slice 257 (.pair (.int .i64) (.pair (.int .i64) (.pair (.int .i64) (.pair (.pair (.int .i64) (.pair (.int .i64) (.pair (.int .i64) (.pair (.int .i64) (.pair (.int .i64) .unit))))) (.pair (.pair (.int .i64) (.pair (.slice 3 (.int .i64)) .unit)) .unit))))))) .unit))] [.imm false .bool] (a0, ()) = p_laws_FnExactMarksOf N a0 := by kernel_rfl
theorem env5 : EnvOk Tryz.prog (fa.at true) E5 := envOk mixed tabOk ⟨⟨enters40, ok40, fun _ => rfl⟩, ⟨enters42, ok42, fun _ => rfl⟩, ⟨enters41, ok41, fun _ => rfl⟩, ⟨enters43, ok43, fun _ => rfl⟩, ⟨enters44, ok44, fun _ => rfl⟩, ⟨enters45, ok45, fun _ => rfl⟩, ⟨enters46, ok46, fun _ => rfl⟩, ⟨enters47, ok47, fun _ => rfl⟩, ⟨enters48, ok48, fun _ => rfl⟩, trivial⟩ trivial trivial
end Go.Proofs.YtdcbankajhnepaaGreat.Am
