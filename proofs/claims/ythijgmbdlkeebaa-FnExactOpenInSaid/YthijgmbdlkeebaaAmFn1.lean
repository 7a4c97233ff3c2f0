/- Functions, as they run on data. No condition. -/
import Derived.Test.YthijgmbdlkeebaaAmFn0
set_option linter.unusedVariables false
set_option maxRecDepth 100000
namespace Go.Proofs.Ythijgmbdlkeebaa.Am
open Go.AM Go.AM.P Go.Proofs
/-! ## slices.ContainsFunc[[][]loop.example/g00698/impl.Row,[]loop.example/g00698/impl.Row] -/
noncomputable def E115 : Env := { tab := tab, sig := [(155, s155)], clos := [], live := [], eqs := [], inl := [] }
set_option maxRecDepth 100000 in
theorem r115 (N : Nat) (a0 : List (List T7)) (a1 : (List T7 × Unit) → Option Bool) : runF N E115 Try.f115 [.imm false (.slice 107 (.slice 150 (.pair (.int .i64) (.pair (.int .i64) (.pair (.int .i64) (.pair (.pair (.int .i64) (.pair (.int .i64) (.pair (.int .i64) (.pair (.int .i64) (.pair (.int .i64) .unit))))) (.pair (.pair (.int .i64) (.pair (.slice 3 (.int .i64)) .unit)) .unit))))))), .clo [(false, (.slice 150 (.pair (.int .i64) (.pair (.int .i64) (.pair (.int .i64) (.pair (.pair (.int .i64) (.pair (.int .i64) (.pair (.int .i64) (.pair (.int .i64) (.pair (.int .i64) .unit))))) (.pair (.pair (.int .i64) (.pair (.slice 3 (.int .i64)) .unit)) .unit)))))))] .bool] [.imm false .bool] (a0, a1, ()) = p_ContainsFunc_LLimpl_Row_Limpl_Row N a0 a1 := by kernel_rfl
theorem env115 : EnvOk Try.prog E115 := envOk mixed tabOk ⟨⟨enters155, ok155⟩, trivial⟩ trivial trivial
noncomputable def s115 : FSpec := ⟨[.imm false (.slice 107 (.slice 150 (.pair (.int .i64) (.pair (.int .i64) (.pair (.int .i64) (.pair (.pair (.int .i64) (.pair (.int .i64) (.pair (.int .i64) (.pair (.int .i64) (.pair (.int .i64) .unit))))) (.pair (.pair (.int .i64) (.pair (.slice 3 (.int .i64)) .unit)) .unit))))))), .clo [(false, (.slice 150 (.pair (.int .i64) (.pair (.int .i64) (.pair (.int .i64) (.pair (.pair (.int .i64) (.pair (.int .i64) (.pair (.int .i64) (.pair (.int .i64) (.pair (.int .i64) .unit))))) (.pair (.pair (.int .i64) (.pair (.slice 3 (.int .i64)) .unit)) .unit)))))))] .bool], [.imm false .bool], fun x => S_ContainsFunc_LLimpl_Row_Limpl_Row x.1 x.2.1⟩
theorem ok115 : FOk Try.prog 115 s115 := fn_says env115 Try.func115 rfl fun x y h => ⟨0, (r115 0 x.1 x.2.1).trans h⟩
theorem enters115 : Enters Try.prog 115 := enters Try.func115 (by kernel_rfl) rfl

/-! ## loop.example/g00698/impl.GoodTable -/
theorem enters116 : Enters Try.prog 116 := enters Try.func116 (by kernel_rfl) rfl
theorem enters118 : Enters Try.prog 118 := enters Try.func118 (by kernel_rfl) rfl
noncomputable def E73 : Env := { tab := tab, sig := [(90, s90), (115, s115), (117, s117), (119, s119)], clos := [(116, ⟨Try.f116, [(false, (.slice 150 (.pair (.int .i64) (.pair (.int .i64) (.pair (.int .i64) (.pair (.pair (.int .i64) (.pair (.int .i64) (.pair (.int .i64) (.pair (.int .i64) (.pair (.int .i64) .unit))))) (.pair (.pair (.int .i64) (.pair (.slice 3 (.int .i64)) .unit)) .unit)))))))], []⟩), (118, ⟨Try.f118, [(true, (.pair (.int .i64) (.pair (.int .i64) (.pair (.int .i64) (.pair (.pair (.int .i64) (.pair (.int .i64) (.pair (.int .i64) (.pair (.int .i64) (.pair (.int .i64) .unit))))) (.pair (.pair (.int .i64) (.pair (.slice 3 (.int .i64)) .unit)) .unit))))))], []⟩)], live := [], eqs := [], inl := [] }
set_option maxRecDepth 100000 in
theorem r73 (N : Nat) (a0 : T8) : runF N E73 Try.f73 [.imm true (.pair (.int .i64) (.pair (.slice 107 (.slice 150 (.pair (.int .i64) (.pair (.int .i64) (.pair (.int .i64) (.pair (.pair (.int .i64) (.pair (.int .i64) (.pair (.int .i64) (.pair (.int .i64) (.pair (.int .i64) .unit))))) (.pair (.pair (.int .i64) (.pair (.slice 3 (.int .i64)) .unit)) .unit))))))) .unit))] [.imm false .bool] (a0, ()) = p_impl_GoodTable N a0 := by kernel_rfl
theorem env73 : EnvOk Try.prog E73 := envOk mixed tabOk ⟨⟨enters90, ok90⟩, ⟨enters115, ok115⟩, ⟨enters117, ok117⟩, ⟨enters119, ok119⟩, trivial⟩ ⟨⟨Try.func116, enters116⟩, ⟨Try.func118, enters118⟩, trivial⟩ trivial
noncomputable def s73 : FSpec := ⟨[.imm true (.pair (.int .i64) (.pair (.slice 107 (.slice 150 (.pair (.int .i64) (.pair (.int .i64) (.pair (.int .i64) (.pair (.pair (.int .i64) (.pair (.int .i64) (.pair (.int .i64) (.pair (.int .i64) (.pair (.int .i64) .unit))))) (.pair (.pair (.int .i64) (.pair (.slice 3 (.int .i64)) .unit)) .unit))))))) .unit))], [.imm false .bool], fun x => S_impl_GoodTable x.1⟩
theorem ok73 : FOk Try.prog 73 s73 := fn_says env73 Try.func73 rfl fun x y h => ⟨0, (r73 0 x.1).trans h⟩
theorem enters73 : Enters Try.prog 73 := enters Try.func73 (by kernel_rfl) rfl

/-! ## (loop.example/g00698/impl.Table).mentioned -/
theorem enters163 : Enters Try.prog 163 := enters Try.func163 (by kernel_rfl) rfl
theorem enters164 : Enters Try.prog 164 := enters Try.func164 (by kernel_rfl) rfl
noncomputable def E128 : Env := { tab := tab, sig := [], clos := [(163, ⟨Try.f163, [], [(0, [1, 9, 10, 11], []), (2, [1, 4, 9, 10, 11, 16, 17, 18], [])]⟩), (164, ⟨Try.f164, [], []⟩)], live := [(0, [1, 3, 9, 10], []), (2, [1, 3, 4, 5, 9, 10], [])], eqs := [], inl := [163, 164] }
set_option maxRecDepth 100000 in
theorem r128 (N : Nat) (a0 : T8) : runF N E128 Try.f128 [.imm true (.pair (.int .i64) (.pair (.slice 107 (.slice 150 (.pair (.int .i64) (.pair (.int .i64) (.pair (.int .i64) (.pair (.pair (.int .i64) (.pair (.int .i64) (.pair (.int .i64) (.pair (.int .i64) (.pair (.int .i64) .unit))))) (.pair (.pair (.int .i64) (.pair (.slice 3 (.int .i64)) .unit)) .unit))))))) .unit))] [.deep false (.slice 23 (.slice 3 (.int .i64)))] (a0, ()) = p_impl_Table_mentioned N a0 := by kernel_rfl
theorem env128 : EnvOk Try.prog E128 := envOk mixed tabOk trivial ⟨⟨Try.func163, enters163⟩, ⟨Try.func164, enters164⟩, trivial⟩ trivial
noncomputable def s128 : FSpec := ⟨[.imm true (.pair (.int .i64) (.pair (.slice 107 (.slice 150 (.pair (.int .i64) (.pair (.int .i64) (.pair (.int .i64) (.pair (.pair (.int .i64) (.pair (.int .i64) (.pair (.int .i64) (.pair (.int .i64) (.pair (.int .i64) .unit))))) (.pair (.pair (.int .i64) (.pair (.slice 3 (.int .i64)) .unit)) .unit))))))) .unit))], [.deep false (.slice 23 (.slice 3 (.int .i64)))], fun x => S_impl_Table_mentioned x.1⟩
theorem ok128 : FOk Try.prog 128 s128 := fn_says env128 Try.func128 rfl fun x y h => let ⟨N, hN⟩ := lim_some h; ⟨N, (r128 N x.1).trans hN⟩
theorem enters128 : Enters Try.prog 128 := enters Try.func128 (by kernel_rfl) rfl

/-! ## slices.Clone[[]int,int] -/
noncomputable def E182 : Env := { tab := tab, sig := [], clos := [], live := [], eqs := [], inl := [] }
set_option maxRecDepth 100000 in
theorem r182 (N : Nat) (a0 : List Int) : runF N E182 Try.f182 [.imm false (.slice 3 (.int .i64))] [.deep false (.slice 3 (.int .i64))] (a0, ()) = p_Clone_Lint_int N a0 := by kernel_rfl
theorem env182 : EnvOk Try.prog E182 := envOk mixed tabOk trivial trivial trivial
noncomputable def s182 : FSpec := ⟨[.imm false (.slice 3 (.int .i64))], [.deep false (.slice 3 (.int .i64))], fun x => S_Clone_Lint_int x.1⟩
theorem ok182 : FOk Try.prog 182 s182 := fn_says env182 Try.func182 rfl fun x y h => ⟨0, (r182 0 x.1).trans h⟩
theorem enters182 : Enters Try.prog 182 := enters Try.func182 (by kernel_rfl) rfl

/-! ## (loop.example/g00698/impl.Attr).copied -/
noncomputable def E177 : Env := { tab := tab, sig := [(182, s182)], clos := [], live := [], eqs := [], inl := [] }
set_option maxRecDepth 100000 in
theorem r177 (N : Nat) (a0 : T6) : runF N E177 Try.f177 [.imm true (.pair (.int .i64) (.pair (.slice 3 (.int .i64)) .unit))] [.deep true (.pair (.int .i64) (.pair (.slice 3 (.int .i64)) .unit))] (a0, ()) = p_impl_Attr_copied N a0 := by kernel_rfl
theorem env177 : EnvOk Try.prog E177 := envOk mixed tabOk ⟨⟨enters182, ok182⟩, trivial⟩ trivial trivial
noncomputable def s177 : FSpec := ⟨[.imm true (.pair (.int .i64) (.pair (.slice 3 (.int .i64)) .unit))], [.deep true (.pair (.int .i64) (.pair (.slice 3 (.int .i64)) .unit))], fun x => S_impl_Attr_copied x.1⟩
theorem ok177 : FOk Try.prog 177 s177 := fn_says env177 Try.func177 rfl fun x y h => ⟨0, (r177 0 x.1).trans h⟩
theorem enters177 : Enters Try.prog 177 := enters Try.func177 (by kernel_rfl) rfl

/-! ## (loop.example/g00698/impl.Row).copied -/
noncomputable def E165 : Env := { tab := tab, sig := [(177, s177)], clos := [], live := [], eqs := [], inl := [] }
set_option maxRecDepth 100000 in
theorem r165 (N : Nat) (a0 : T7) : runF N E165 Try.f165 [.imm true (.pair (.int .i64) (.pair (.int .i64) (.pair (.int .i64) (.pair (.pair (.int .i64) (.pair (.int .i64) (.pair (.int .i64) (.pair (.int .i64) (.pair (.int .i64) .unit))))) (.pair (.pair (.int .i64) (.pair (.slice 3 (.int .i64)) .unit)) .unit)))))] [.deep true (.pair (.int .i64) (.pair (.int .i64) (.pair (.int .i64) (.pair (.pair (.int .i64) (.pair (.int .i64) (.pair (.int .i64) (.pair (.int .i64) (.pair (.int .i64) .unit))))) (.pair (.pair (.int .i64) (.pair (.slice 3 (.int .i64)) .unit)) .unit)))))] (a0, ()) = p_impl_Row_copied N a0 := by kernel_rfl
theorem env165 : EnvOk Try.prog E165 := envOk mixed tabOk ⟨⟨enters177, ok177⟩, trivial⟩ trivial trivial
noncomputable def s165 : FSpec := ⟨[.imm true (.pair (.int .i64) (.pair (.int .i64) (.pair (.int .i64) (.pair (.pair (.int .i64) (.pair (.int .i64) (.pair (.int .i64) (.pair (.int .i64) (.pair (.int .i64) .unit))))) (.pair (.pair (.int .i64) (.pair (.slice 3 (.int .i64)) .unit)) .unit)))))], [.deep true (.pair (.int .i64) (.pair (.int .i64) (.pair (.int .i64) (.pair (.pair (.int .i64) (.pair (.int .i64) (.pair (.int .i64) (.pair (.int .i64) (.pair (.int .i64) .unit))))) (.pair (.pair (.int .i64) (.pair (.slice 3 (.int .i64)) .unit)) .unit)))))], fun x => S_impl_Row_copied x.1⟩
theorem ok165 : FOk Try.prog 165 s165 := fn_says env165 Try.func165 rfl fun x y h => ⟨0, (r165 0 x.1).trans h⟩
theorem enters165 : Enters Try.prog 165 := enters Try.func165 (by kernel_rfl) rfl

/-! ## (loop.example/g00698/impl.Table).row -/
noncomputable def E131 : Env := { tab := tab, sig := [(165, s165), (159, s159)], clos := [], live := [], eqs := [], inl := [] }
set_option maxRecDepth 100000 in
theorem r131 (N : Nat) (a0 : T8) (a1 : Int) (a2 : Int) : runF N E131 Try.f131 [.imm true (.pair (.int .i64) (.pair (.slice 107 (.slice 150 (.pair (.int .i64) (.pair (.int .i64) (.pair (.int .i64) (.pair (.pair (.int .i64) (.pair (.int .i64) (.pair (.int .i64) (.pair (.int .i64) (.pair (.int .i64) .unit))))) (.pair (.pair (.int .i64) (.pair (.slice 3 (.int .i64)) .unit)) .unit))))))) .unit)), .imm false (.int .i64), .imm false (.int .i64)] [.deep true (.pair (.int .i64) (.pair (.int .i64) (.pair (.int .i64) (.pair (.pair (.int .i64) (.pair (.int .i64) (.pair (.int .i64) (.pair (.int .i64) (.pair (.int .i64) .unit))))) (.pair (.pair (.int .i64) (.pair (.slice 3 (.int .i64)) .unit)) .unit)))))] (a0, a1, a2, ()) = p_impl_Table_row N a0 a1 a2 := by kernel_rfl
theorem env131 : EnvOk Try.prog E131 := envOk mixed tabOk ⟨⟨enters165, ok165⟩, ⟨enters159, ok159⟩, trivial⟩ trivial trivial
noncomputable def s131 : FSpec := ⟨[.imm true (.pair (.int .i64) (.pair (.slice 107 (.slice 150 (.pair (.int .i64) (.pair (.int .i64) (.pair (.int .i64) (.pair (.pair (.int .i64) (.pair (.int .i64) (.pair (.int .i64) (.pair (.int .i64) (.pair (.int .i64) .unit))))) (.pair (.pair (.int .i64) (.pair (.slice 3 (.int .i64)) .unit)) .unit))))))) .unit)), .imm false (.int .i64), .imm false (.int .i64)], [.deep true (.pair (.int .i64) (.pair (.int .i64) (.pair (.int .i64) (.pair (.pair (.int .i64) (.pair (.int .i64) (.pair (.int .i64) (.pair (.int .i64) (.pair (.int .i64) .unit))))) (.pair (.pair (.int .i64) (.pair (.slice 3 (.int .i64)) .unit)) .unit)))))], fun x => S_impl_Table_row x.1 x.2.1 x.2.2.1⟩
theorem ok131 : FOk Try.prog 131 s131 := fn_says env131 Try.func131 rfl fun x y h => ⟨0, (r131 0 x.1 x.2.1 x.2.2.1).trans h⟩
theorem enters131 : Enters Try.prog 131 := enters Try.func131 (by kernel_rfl) rfl

/-! ## slices.IndexFunc[[][]int,[]int] -/
noncomputable def E137 : Env := { tab := tab, sig := [], clos := [], live := [(0, [0, 1, 7, 8], [])], eqs := [], inl := [] }
set_option maxRecDepth 100000 in
theorem r137 (N : Nat) (a0 : List (List Int)) (a1 : (List Int × Unit) → Option Bool) : runF N E137 Try.f137 [.imm false (.slice 23 (.slice 3 (.int .i64))), .clo [(false, (.slice 3 (.int .i64)))] .bool] [.imm false (.int .i64)] (a0, a1, ()) = p_IndexFunc_LLint_Lint N a0 a1 := by kernel_rfl
theorem env137 : EnvOk Try.prog E137 := envOk mixed tabOk trivial trivial trivial
noncomputable def s137 : FSpec := ⟨[.imm false (.slice 23 (.slice 3 (.int .i64))), .clo [(false, (.slice 3 (.int .i64)))] .bool], [.imm false (.int .i64)], fun x => S_IndexFunc_LLint_Lint x.1 x.2.1⟩
theorem ok137 : FOk Try.prog 137 s137 := fn_says env137 Try.func137 rfl fun x y h => let ⟨N, hN⟩ := lim_some h; ⟨N, (r137 N x.1 x.2.1).trans hN⟩
theorem enters137 : Enters Try.prog 137 := enters Try.func137 (by kernel_rfl) rfl

/-! ## (loop.example/g00698/impl.Table).open -/
theorem enters130 : Enters Try.prog 130 := enters Try.func130 (by kernel_rfl) rfl
noncomputable def E84 : Env := { tab := tab, sig := [(128, s128), (131, s131)], clos := [(130, ⟨Try.f130, [(false, (.slice 3 (.int .i64)))], []⟩)], live := [], eqs := [], inl := [], rfn := [(129, ⟨.filter, 23, 1, false⟩)] }
set_option maxRecDepth 100000 in
theorem r84 (N : Nat) (a0 : T8) : runF N E84 Try.f84 [.imm true (.pair (.int .i64) (.pair (.slice 107 (.slice 150 (.pair (.int .i64) (.pair (.int .i64) (.pair (.int .i64) (.pair (.pair (.int .i64) (.pair (.int .i64) (.pair (.int .i64) (.pair (.int .i64) (.pair (.int .i64) .unit))))) (.pair (.pair (.int .i64) (.pair (.slice 3 (.int .i64)) .unit)) .unit))))))) .unit))] [.deep false (.slice 23 (.slice 3 (.int .i64)))] (a0, ()) = p_impl_Table_open N a0 := by kernel_rfl
theorem env84 : EnvOk Try.prog E84 := envOk mixed tabOk ⟨⟨enters128, ok128⟩, ⟨enters131, ok131⟩, trivial⟩ ⟨⟨Try.func130, enters130⟩, trivial⟩ trivial ⟨rfn129, trivial⟩
noncomputable def s84 : FSpec := ⟨[.imm true (.pair (.int .i64) (.pair (.slice 107 (.slice 150 (.pair (.int .i64) (.pair (.int .i64) (.pair (.int .i64) (.pair (.pair (.int .i64) (.pair (.int .i64) (.pair (.int .i64) (.pair (.int .i64) (.pair (.int .i64) .unit))))) (.pair (.pair (.int .i64) (.pair (.slice 3 (.int .i64)) .unit)) .unit))))))) .unit))], [.deep false (.slice 23 (.slice 3 (.int .i64)))], fun x => S_impl_Table_open x.1⟩
theorem ok84 : FOk Try.prog 84 s84 := fn_says env84 Try.func84 rfl fun x y h => ⟨0, (r84 0 x.1).trans h⟩
theorem enters84 : Enters Try.prog 84 := enters Try.func84 (by kernel_rfl) rfl

/-! ## loop.example/g00698/impl.OpenIn -/
noncomputable def E42 : Env := { tab := tab, sig := [(73, s73), (84, s84)], clos := [], live := [], eqs := [], inl := [] }
set_option maxRecDepth 100000 in
theorem r42 (N : Nat) (a0 : T8) : runF N E42 Try.f42 [.imm true (.pair (.int .i64) (.pair (.slice 107 (.slice 150 (.pair (.int .i64) (.pair (.int .i64) (.pair (.int .i64) (.pair (.pair (.int .i64) (.pair (.int .i64) (.pair (.int .i64) (.pair (.int .i64) (.pair (.int .i64) .unit))))) (.pair (.pair (.int .i64) (.pair (.slice 3 (.int .i64)) .unit)) .unit))))))) .unit))] [.deep false (.slice 23 (.slice 3 (.int .i64))), .imm false .bool] (a0, ()) = p_impl_OpenIn N a0 := by kernel_rfl
theorem env42 : EnvOk Try.prog E42 := envOk mixed tabOk ⟨⟨enters73, ok73⟩, ⟨enters84, ok84⟩, trivial⟩ trivial trivial
noncomputable def s42 : FSpec := ⟨[.imm true (.pair (.int .i64) (.pair (.slice 107 (.slice 150 (.pair (.int .i64) (.pair (.int .i64) (.pair (.int .i64) (.pair (.pair (.int .i64) (.pair (.int .i64) (.pair (.int .i64) (.pair (.int .i64) (.pair (.int .i64) .unit))))) (.pair (.pair (.int .i64) (.pair (.slice 3 (.int .i64)) .unit)) .unit))))))) .unit))], [.deep false (.slice 23 (.slice 3 (.int .i64))), .imm false .bool], fun x => S_impl_OpenIn x.1⟩
theorem ok42 : FOk Try.prog 42 s42 := fn_says env42 Try.func42 rfl fun x y h => ⟨0, (r42 0 x.1).trans h⟩
theorem enters42 : Enters Try.prog 42 := enters Try.func42 (by kernel_rfl) rfl

/-! ## loop.example/g00698/laws.eqIntS -/
noncomputable def E17 : Env := { tab := tab, sig := [], clos := [], live := [(0, [0, 1, 5], [])], eqs := [], inl := [] }
set_option maxRecDepth 100000 in
theorem r17 (N : Nat) (a0 : List Int) (a1 : List Int) : runF N E17 Try.f17 [.imm false (.slice 3 (.int .i64)), .imm false (.slice 3 (.int .i64))] [.imm false .bool] (a0, a1, ()) = p_laws_eqIntS N a0 a1 := by kernel_rfl
theorem env17 : EnvOk Try.prog E17 := envOk mixed tabOk trivial trivial trivial
noncomputable def s17 : FSpec := ⟨[.imm false (.slice 3 (.int .i64)), .imm false (.slice 3 (.int .i64))], [.imm false .bool], fun x => S_laws_eqIntS x.1 x.2.1⟩
theorem ok17 : FOk Try.prog 17 s17 := fn_says env17 Try.func17 rfl fun x y h => let ⟨N, hN⟩ := lim_some h; ⟨N, (r17 N x.1 x.2.1).trans hN⟩
theorem enters17 : Enters Try.prog 17 := enters Try.func17 (by kernel_rfl) rfl

/-! ## loop.example/g00698/laws.eqIntSS -/
noncomputable def E15 : Env := { tab := tab, sig := [(17, s17)], clos := [], live := [(0, [0, 1, 5], [])], eqs := [], inl := [] }
set_option maxRecDepth 100000 in
theorem r15 (N : Nat) (a0 : List (List Int)) (a1 : List (List Int)) : runF N E15 Try.f15 [.imm false (.slice 23 (.slice 3 (.int .i64))), .imm false (.slice 23 (.slice 3 (.int .i64)))] [.imm false .bool] (a0, a1, ()) = p_laws_eqIntSS N a0 a1 := by kernel_rfl
theorem env15 : EnvOk Try.prog E15 := envOk mixed tabOk ⟨⟨enters17, ok17⟩, trivial⟩ trivial trivial
noncomputable def s15 : FSpec := ⟨[.imm false (.slice 23 (.slice 3 (.int .i64))), .imm false (.slice 23 (.slice 3 (.int .i64)))], [.imm false .bool], fun x => S_laws_eqIntSS x.1 x.2.1⟩
theorem ok15 : FOk Try.prog 15 s15 := fn_says env15 Try.func15 rfl fun x y h => let ⟨N, hN⟩ := lim_some h; ⟨N, (r15 N x.1 x.2.1).trans hN⟩
theorem enters15 : Enters Try.prog 15 := enters Try.func15 (by kernel_rfl) rfl

/-! ## loop.example/g00698/laws.eqCmd -/
noncomputable def E110 : Env := { tab := tab, sig := [], clos := [], live := [], eqs := [], inl := [] }
set_option maxRecDepth 100000 in
theorem r110 (N : Nat) (a0 : T2) (a1 : T2) : runF N E110 Try.f110 [.imm true (.pair (.int .i64) (.pair (.int .i64) (.pair (.int .i64) (.pair (.int .i64) (.pair (.int .i64) .unit))))), .imm true (.pair (.int .i64) (.pair (.int .i64) (.pair (.int .i64) (.pair (.int .i64) (.pair (.int .i64) .unit)))))] [.imm false .bool] (a0, a1, ()) = p_laws_eqCmd N a0 a1 := by kernel_rfl
theorem env110 : EnvOk Try.prog E110 := envOk mixed tabOk trivial trivial trivial
noncomputable def s110 : FSpec := ⟨[.imm true (.pair (.int .i64) (.pair (.int .i64) (.pair (.int .i64) (.pair (.int .i64) (.pair (.int .i64) .unit))))), .imm true (.pair (.int .i64) (.pair (.int .i64) (.pair (.int .i64) (.pair (.int .i64) (.pair (.int .i64) .unit)))))], [.imm false .bool], fun x => S_laws_eqCmd x.1 x.2.1⟩
theorem ok110 : FOk Try.prog 110 s110 := fn_says env110 Try.func110 rfl fun x y h => ⟨0, (r110 0 x.1 x.2.1).trans h⟩
theorem enters110 : Enters Try.prog 110 := enters Try.func110 (by kernel_rfl) rfl

/-! ## loop.example/g00698/laws.eqAttr -/
noncomputable def E174 : Env := { tab := tab, sig := [(17, s17)], clos := [], live := [], eqs := [], inl := [] }
set_option maxRecDepth 100000 in
theorem r174 (N : Nat) (a0 : T6) (a1 : T6) : runF N E174 Try.f174 [.imm true (.pair (.int .i64) (.pair (.slice 3 (.int .i64)) .unit)), .imm true (.pair (.int .i64) (.pair (.slice 3 (.int .i64)) .unit))] [.imm false .bool] (a0, a1, ()) = p_laws_eqAttr N a0 a1 := by kernel_rfl
theorem env174 : EnvOk Try.prog E174 := envOk mixed tabOk ⟨⟨enters17, ok17⟩, trivial⟩ trivial trivial
noncomputable def s174 : FSpec := ⟨[.imm true (.pair (.int .i64) (.pair (.slice 3 (.int .i64)) .unit)), .imm true (.pair (.int .i64) (.pair (.slice 3 (.int .i64)) .unit))], [.imm false .bool], fun x => S_laws_eqAttr x.1 x.2.1⟩
theorem ok174 : FOk Try.prog 174 s174 := fn_says env174 Try.func174 rfl fun x y h => ⟨0, (r174 0 x.1 x.2.1).trans h⟩
theorem enters174 : Enters Try.prog 174 := enters Try.func174 (by kernel_rfl) rfl

/-! ## loop.example/g00698/laws.eqRow -/
noncomputable def E160 : Env := { tab := tab, sig := [(110, s110), (174, s174)], clos := [], live := [], eqs := [], inl := [] }
set_option maxRecDepth 100000 in
theorem r160 (N : Nat) (a0 : T7) (a1 : T7) : runF N E160 Try.f160 [.imm true (.pair (.int .i64) (.pair (.int .i64) (.pair (.int .i64) (.pair (.pair (.int .i64) (.pair (.int .i64) (.pair (.int .i64) (.pair (.int .i64) (.pair (.int .i64) .unit))))) (.pair (.pair (.int .i64) (.pair (.slice 3 (.int .i64)) .unit)) .unit))))), .imm true (.pair (.int .i64) (.pair (.int .i64) (.pair (.int .i64) (.pair (.pair (.int .i64) (.pair (.int .i64) (.pair (.int .i64) (.pair (.int .i64) (.pair (.int .i64) .unit))))) (.pair (.pair (.int .i64) (.pair (.slice 3 (.int .i64)) .unit)) .unit)))))] [.imm false .bool] (a0, a1, ()) = p_laws_eqRow N a0 a1 := by kernel_rfl
theorem env160 : EnvOk Try.prog E160 := envOk mixed tabOk ⟨⟨enters110, ok110⟩, ⟨enters174, ok174⟩, trivial⟩ trivial trivial
noncomputable def s160 : FSpec := ⟨[.imm true (.pair (.int .i64) (.pair (.int .i64) (.pair (.int .i64) (.pair (.pair (.int .i64) (.pair (.int .i64) (.pair (.int .i64) (.pair (.int .i64) (.pair (.int .i64) .unit))))) (.pair (.pair (.int .i64) (.pair (.slice 3 (.int .i64)) .unit)) .unit))))), .imm true (.pair (.int .i64) (.pair (.int .i64) (.pair (.int .i64) (.pair (.pair (.int .i64) (.pair (.int .i64) (.pair (.int .i64) (.pair (.int .i64) (.pair (.int .i64) .unit))))) (.pair (.pair (.int .i64) (.pair (.slice 3 (.int .i64)) .unit)) .unit)))))], [.imm false .bool], fun x => S_laws_eqRow x.1 x.2.1⟩
theorem ok160 : FOk Try.prog 160 s160 := fn_says env160 Try.func160 rfl fun x y h => ⟨0, (r160 0 x.1 x.2.1).trans h⟩
theorem enters160 : Enters Try.prog 160 := enters Try.func160 (by kernel_rfl) rfl

/-! ## loop.example/g00698/laws.eqRowS -/
noncomputable def E121 : Env := { tab := tab, sig := [(160, s160)], clos := [], live := [(0, [0, 1, 5], [])], eqs := [], inl := [] }
set_option maxRecDepth 100000 in
theorem r121 (N : Nat) (a0 : List T7) (a1 : List T7) : runF N E121 Try.f121 [.imm false (.slice 150 (.pair (.int .i64) (.pair (.int .i64) (.pair (.int .i64) (.pair (.pair (.int .i64) (.pair (.int .i64) (.pair (.int .i64) (.pair (.int .i64) (.pair (.int .i64) .unit))))) (.pair (.pair (.int .i64) (.pair (.slice 3 (.int .i64)) .unit)) .unit)))))), .imm false (.slice 150 (.pair (.int .i64) (.pair (.int .i64) (.pair (.int .i64) (.pair (.pair (.int .i64) (.pair (.int .i64) (.pair (.int .i64) (.pair (.int .i64) (.pair (.int .i64) .unit))))) (.pair (.pair (.int .i64) (.pair (.slice 3 (.int .i64)) .unit)) .unit))))))] [.imm false .bool] (a0, a1, ()) = p_laws_eqRowS N a0 a1 := by kernel_rfl
theorem env121 : EnvOk Try.prog E121 := envOk mixed tabOk ⟨⟨enters160, ok160⟩, trivial⟩ trivial trivial
noncomputable def s121 : FSpec := ⟨[.imm false (.slice 150 (.pair (.int .i64) (.pair (.int .i64) (.pair (.int .i64) (.pair (.pair (.int .i64) (.pair (.int .i64) (.pair (.int .i64) (.pair (.int .i64) (.pair (.int .i64) .unit))))) (.pair (.pair (.int .i64) (.pair (.slice 3 (.int .i64)) .unit)) .unit)))))), .imm false (.slice 150 (.pair (.int .i64) (.pair (.int .i64) (.pair (.int .i64) (.pair (.pair (.int .i64) (.pair (.int .i64) (.pair (.int .i64) (.pair (.int .i64) (.pair (.int .i64) .unit))))) (.pair (.pair (.int .i64) (.pair (.slice 3 (.int .i64)) .unit)) .unit))))))], [.imm false .bool], fun x => S_laws_eqRowS x.1 x.2.1⟩
theorem ok121 : FOk Try.prog 121 s121 := fn_says env121 Try.func121 rfl fun x y h => let ⟨N, hN⟩ := lim_some h; ⟨N, (r121 N x.1 x.2.1).trans hN⟩
theorem enters121 : Enters Try.prog 121 := enters Try.func121 (by kernel_rfl) rfl

/-! ## loop.example/g00698/laws.eqRowSS -/
noncomputable def E77 : Env := { tab := tab, sig := [(121, s121)], clos := [], live := [(0, [0, 1, 5], [])], eqs := [], inl := [] }
set_option maxRecDepth 100000 in
theorem r77 (N : Nat) (a0 : List (List T7)) (a1 : List (List T7)) : runF N E77 Try.f77 [.imm false (.slice 107 (.slice 150 (.pair (.int .i64) (.pair (.int .i64) (.pair (.int .i64) (.pair (.pair (.int .i64) (.pair (.int .i64) (.pair (.int .i64) (.pair (.int .i64) (.pair (.int .i64) .unit))))) (.pair (.pair (.int .i64) (.pair (.slice 3 (.int .i64)) .unit)) .unit))))))), .imm false (.slice 107 (.slice 150 (.pair (.int .i64) (.pair (.int .i64) (.pair (.int .i64) (.pair (.pair (.int .i64) (.pair (.int .i64) (.pair (.int .i64) (.pair (.int .i64) (.pair (.int .i64) .unit))))) (.pair (.pair (.int .i64) (.pair (.slice 3 (.int .i64)) .unit)) .unit)))))))] [.imm false .bool] (a0, a1, ()) = p_laws_eqRowSS N a0 a1 := by kernel_rfl
theorem env77 : EnvOk Try.prog E77 := envOk mixed tabOk ⟨⟨enters121, ok121⟩, trivial⟩ trivial trivial
noncomputable def s77 : FSpec := ⟨[.imm false (.slice 107 (.slice 150 (.pair (.int .i64) (.pair (.int .i64) (.pair (.int .i64) (.pair (.pair (.int .i64) (.pair (.int .i64) (.pair (.int .i64) (.pair (.int .i64) (.pair (.int .i64) .unit))))) (.pair (.pair (.int .i64) (.pair (.slice 3 (.int .i64)) .unit)) .unit))))))), .imm false (.slice 107 (.slice 150 (.pair (.int .i64) (.pair (.int .i64) (.pair (.int .i64) (.pair (.pair (.int .i64) (.pair (.int .i64) (.pair (.int .i64) (.pair (.int .i64) (.pair (.int .i64) .unit))))) (.pair (.pair (.int .i64) (.pair (.slice 3 (.int .i64)) .unit)) .unit)))))))], [.imm false .bool], fun x => S_laws_eqRowSS x.1 x.2.1⟩
theorem ok77 : FOk Try.prog 77 s77 := fn_says env77 Try.func77 rfl fun x y h => let ⟨N, hN⟩ := lim_some h; ⟨N, (r77 N x.1 x.2.1).trans hN⟩
theorem enters77 : Enters Try.prog 77 := enters Try.func77 (by kernel_rfl) rfl

/-! ## loop.example/g00698/laws.eqTable -/
noncomputable def E31 : Env := { tab := tab, sig := [(77, s77)], clos := [], live := [], eqs := [], inl := [] }
set_option maxRecDepth 100000 in
theorem r31 (N : Nat) (a0 : T8) (a1 : T8) : runF N E31 Try.f31 [.imm true (.pair (.int .i64) (.pair (.slice 107 (.slice 150 (.pair (.int .i64) (.pair (.int .i64) (.pair (.int .i64) (.pair (.pair (.int .i64) (.pair (.int .i64) (.pair (.int .i64) (.pair (.int .i64) (.pair (.int .i64) .unit))))) (.pair (.pair (.int .i64) (.pair (.slice 3 (.int .i64)) .unit)) .unit))))))) .unit)), .imm true (.pair (.int .i64) (.pair (.slice 107 (.slice 150 (.pair (.int .i64) (.pair (.int .i64) (.pair (.int .i64) (.pair (.pair (.int .i64) (.pair (.int .i64) (.pair (.int .i64) (.pair (.int .i64) (.pair (.int .i64) .unit))))) (.pair (.pair (.int .i64) (.pair (.slice 3 (.int .i64)) .unit)) .unit))))))) .unit))] [.imm false .bool] (a0, a1, ()) = p_laws_eqTable N a0 a1 := by kernel_rfl
theorem env31 : EnvOk Try.prog E31 := envOk mixed tabOk ⟨⟨enters77, ok77⟩, trivial⟩ trivial trivial
noncomputable def s31 : FSpec := ⟨[.imm true (.pair (.int .i64) (.pair (.slice 107 (.slice 150 (.pair (.int .i64) (.pair (.int .i64) (.pair (.int .i64) (.pair (.pair (.int .i64) (.pair (.int .i64) (.pair (.int .i64) (.pair (.int .i64) (.pair (.int .i64) .unit))))) (.pair (.pair (.int .i64) (.pair (.slice 3 (.int .i64)) .unit)) .unit))))))) .unit)), .imm true (.pair (.int .i64) (.pair (.slice 107 (.slice 150 (.pair (.int .i64) (.pair (.int .i64) (.pair (.int .i64) (.pair (.pair (.int .i64) (.pair (.int .i64) (.pair (.int .i64) (.pair (.int .i64) (.pair (.int .i64) .unit))))) (.pair (.pair (.int .i64) (.pair (.slice 3 (.int .i64)) .unit)) .unit))))))) .unit))], [.imm false .bool], fun x => S_laws_eqTable x.1 x.2.1⟩
theorem ok31 : FOk Try.prog 31 s31 := fn_says env31 Try.func31 rfl fun x y h => ⟨0, (r31 0 x.1 x.2.1).trans h⟩
theorem enters31 : Enters Try.prog 31 := enters Try.func31 (by kernel_rfl) rfl

/-! ## loop.example/g00698/laws.markIntS -/
noncomputable def E19 : Env := { tab := tab, sig := [], clos := [], live := [(0, [0, 1, 5], [])], eqs := [], inl := [] }
set_option maxRecDepth 100000 in
theorem r19 (N : Nat) (a0 : List Int) (a1 : Int) : runF N E19 Try.f19 [.mut false (.slice 3 (.int .i64)), .imm false (.int .i64)] [.imm false (.int .i64)] (a0, a1, ()) = p_laws_markIntS N a0 a1 := by kernel_rfl
theorem env19 : EnvOk Try.prog E19 := envOk mixed tabOk trivial trivial trivial
noncomputable def s19 : FSpec := ⟨[.mut false (.slice 3 (.int .i64)), .imm false (.int .i64)], [.imm false (.int .i64)], fun x => S_laws_markIntS x.1 x.2.1⟩
theorem ok19 : FOk Try.prog 19 s19 := fn_says env19 Try.func19 rfl fun x y h => let ⟨N, hN⟩ := lim_some h; ⟨N, (r19 N x.1 x.2.1).trans hN⟩
theorem enters19 : Enters Try.prog 19 := enters Try.func19 (by kernel_rfl) rfl

/-! ## loop.example/g00698/laws.markRowS -/
noncomputable def E132 : Env := { tab := tab, sig := [(19, s19)], clos := [], live := [(0, [0, 1, 5], [])], eqs := [], inl := [] }
set_option maxRecDepth 100000 in
theorem r132 (N : Nat) (a0 : List T7) (a1 : Int) : runF N E132 Try.f132 [.mut false (.slice 150 (.pair (.int .i64) (.pair (.int .i64) (.pair (.int .i64) (.pair (.pair (.int .i64) (.pair (.int .i64) (.pair (.int .i64) (.pair (.int .i64) (.pair (.int .i64) .unit))))) (.pair (.pair (.int .i64) (.pair (.slice 3 (.int .i64)) .unit)) .unit)))))), .imm false (.int .i64)] [.imm false (.int .i64)] (a0, a1, ()) = p_laws_markRowS N a0 a1 := by kernel_rfl
theorem env132 : EnvOk Try.prog E132 := envOk mixed tabOk ⟨⟨enters19, ok19⟩, trivial⟩ trivial trivial
noncomputable def s132 : FSpec := ⟨[.mut false (.slice 150 (.pair (.int .i64) (.pair (.int .i64) (.pair (.int .i64) (.pair (.pair (.int .i64) (.pair (.int .i64) (.pair (.int .i64) (.pair (.int .i64) (.pair (.int .i64) .unit))))) (.pair (.pair (.int .i64) (.pair (.slice 3 (.int .i64)) .unit)) .unit)))))), .imm false (.int .i64)], [.imm false (.int .i64)], fun x => S_laws_markRowS x.1 x.2.1⟩
theorem ok132 : FOk Try.prog 132 s132 := fn_says env132 Try.func132 rfl fun x y h => let ⟨N, hN⟩ := lim_some h; ⟨N, (r132 N x.1 x.2.1).trans hN⟩
theorem enters132 : Enters Try.prog 132 := enters Try.func132 (by kernel_rfl) rfl

/-! ## loop.example/g00698/laws.markRowSS -/
noncomputable def E85 : Env := { tab := tab, sig := [(132, s132)], clos := [], live := [(0, [0, 1, 5], [])], eqs := [], inl := [] }
set_option maxRecDepth 100000 in
theorem r85 (N : Nat) (a0 : List (List T7)) (a1 : Int) : runF N E85 Try.f85 [.mut false (.slice 107 (.slice 150 (.pair (.int .i64) (.pair (.int .i64) (.pair (.int .i64) (.pair (.pair (.int .i64) (.pair (.int .i64) (.pair (.int .i64) (.pair (.int .i64) (.pair (.int .i64) .unit))))) (.pair (.pair (.int .i64) (.pair (.slice 3 (.int .i64)) .unit)) .unit))))))), .imm false (.int .i64)] [.imm false (.int .i64)] (a0, a1, ()) = p_laws_markRowSS N a0 a1 := by kernel_rfl
theorem env85 : EnvOk Try.prog E85 := envOk mixed tabOk ⟨⟨enters132, ok132⟩, trivial⟩ trivial trivial
noncomputable def s85 : FSpec := ⟨[.mut false (.slice 107 (.slice 150 (.pair (.int .i64) (.pair (.int .i64) (.pair (.int .i64) (.pair (.pair (.int .i64) (.pair (.int .i64) (.pair (.int .i64) (.pair (.int .i64) (.pair (.int .i64) .unit))))) (.pair (.pair (.int .i64) (.pair (.slice 3 (.int .i64)) .unit)) .unit))))))), .imm false (.int .i64)], [.imm false (.int .i64)], fun x => S_laws_markRowSS x.1 x.2.1⟩
theorem ok85 : FOk Try.prog 85 s85 := fn_says env85 Try.func85 rfl fun x y h => let ⟨N, hN⟩ := lim_some h; ⟨N, (r85 N x.1 x.2.1).trans hN⟩
theorem enters85 : Enters Try.prog 85 := enters Try.func85 (by kernel_rfl) rfl

/-! ## loop.example/g00698/laws.markTable -/
noncomputable def E43 : Env := { tab := tab, sig := [(85, s85)], clos := [], live := [], eqs := [], inl := [] }
set_option maxRecDepth 100000 in
theorem r43 (N : Nat) (a0 : T8) (a1 : Int) : runF N E43 Try.f43 [.mut true (.pair (.int .i64) (.pair (.slice 107 (.slice 150 (.pair (.int .i64) (.pair (.int .i64) (.pair (.int .i64) (.pair (.pair (.int .i64) (.pair (.int .i64) (.pair (.int .i64) (.pair (.int .i64) (.pair (.int .i64) .unit))))) (.pair (.pair (.int .i64) (.pair (.slice 3 (.int .i64)) .unit)) .unit))))))) .unit)), .imm false (.int .i64)] [.imm false (.int .i64)] (a0, a1, ()) = p_laws_markTable N a0 a1 := by kernel_rfl
theorem env43 : EnvOk Try.prog E43 := envOk mixed tabOk ⟨⟨enters85, ok85⟩, trivial⟩ trivial trivial
noncomputable def s43 : FSpec := ⟨[.mut true (.pair (.int .i64) (.pair (.slice 107 (.slice 150 (.pair (.int .i64) (.pair (.int .i64) (.pair (.int .i64) (.pair (.pair (.int .i64) (.pair (.int .i64) (.pair (.int .i64) (.pair (.int .i64) (.pair (.int .i64) .unit))))) (.pair (.pair (.int .i64) (.pair (.slice 3 (.int .i64)) .unit)) .unit))))))) .unit)), .imm false (.int .i64)], [.imm false (.int .i64)], fun x => S_laws_markTable x.1 x.2.1⟩
theorem ok43 : FOk Try.prog 43 s43 := fn_says env43 Try.func43 rfl fun x y h => ⟨0, (r43 0 x.1 x.2.1).trans h⟩
theorem enters43 : Enters Try.prog 43 := enters Try.func43 (by kernel_rfl) rfl

/-! ## loop.example/g00698/laws.markIntSS -/
noncomputable def E20 : Env := { tab := tab, sig := [(19, s19)], clos := [], live := [(0, [0, 1, 5], [])], eqs := [], inl := [] }
set_option maxRecDepth 100000 in
theorem r20 (N : Nat) (a0 : List (List Int)) (a1 : Int) : runF N E20 Try.f20 [.mut false (.slice 23 (.slice 3 (.int .i64))), .imm false (.int .i64)] [.imm false (.int .i64)] (a0, a1, ()) = p_laws_markIntSS N a0 a1 := by kernel_rfl
theorem env20 : EnvOk Try.prog E20 := envOk mixed tabOk ⟨⟨enters19, ok19⟩, trivial⟩ trivial trivial
noncomputable def s20 : FSpec := ⟨[.mut false (.slice 23 (.slice 3 (.int .i64))), .imm false (.int .i64)], [.imm false (.int .i64)], fun x => S_laws_markIntSS x.1 x.2.1⟩
theorem ok20 : FOk Try.prog 20 s20 := fn_says env20 Try.func20 rfl fun x y h => let ⟨N, hN⟩ := lim_some h; ⟨N, (r20 N x.1 x.2.1).trans hN⟩
theorem enters20 : Enters Try.prog 20 := enters Try.func20 (by kernel_rfl) rfl

/-! ## loop.example/g00698/laws.heldIntS -/
noncomputable def E36 : Env := { tab := tab, sig := [], clos := [], live := [(0, [0, 1, 5], [])], eqs := [], inl := [] }
set_option maxRecDepth 100000 in
theorem r36 (N : Nat) (a0 : List Int) (a1 : Int) : runF N E36 Try.f36 [.imm false (.slice 3 (.int .i64)), .imm false (.int .i64)] [.imm false (.int .i64)] (a0, a1, ()) = p_laws_heldIntS N a0 a1 := by kernel_rfl
theorem env36 : EnvOk Try.prog E36 := envOk mixed tabOk trivial trivial trivial
noncomputable def s36 : FSpec := ⟨[.imm false (.slice 3 (.int .i64)), .imm false (.int .i64)], [.imm false (.int .i64)], fun x => S_laws_heldIntS x.1 x.2.1⟩
theorem ok36 : FOk Try.prog 36 s36 := fn_says env36 Try.func36 rfl fun x y h => let ⟨N, hN⟩ := lim_some h; ⟨N, (r36 N x.1 x.2.1).trans hN⟩
theorem enters36 : Enters Try.prog 36 := enters Try.func36 (by kernel_rfl) rfl

/-! ## loop.example/g00698/laws.heldIntSS -/
noncomputable def E21 : Env := { tab := tab, sig := [(36, s36)], clos := [], live := [(0, [0, 1, 5], [])], eqs := [], inl := [] }
set_option maxRecDepth 100000 in
theorem r21 (N : Nat) (a0 : List (List Int)) (a1 : Int) : runF N E21 Try.f21 [.imm false (.slice 23 (.slice 3 (.int .i64))), .imm false (.int .i64)] [.imm false (.int .i64)] (a0, a1, ()) = p_laws_heldIntSS N a0 a1 := by kernel_rfl
theorem env21 : EnvOk Try.prog E21 := envOk mixed tabOk ⟨⟨enters36, ok36⟩, trivial⟩ trivial trivial
noncomputable def s21 : FSpec := ⟨[.imm false (.slice 23 (.slice 3 (.int .i64))), .imm false (.int .i64)], [.imm false (.int .i64)], fun x => S_laws_heldIntSS x.1 x.2.1⟩
theorem ok21 : FOk Try.prog 21 s21 := fn_says env21 Try.func21 rfl fun x y h => let ⟨N, hN⟩ := lim_some h; ⟨N, (r21 N x.1 x.2.1).trans hN⟩
theorem enters21 : Enters Try.prog 21 := enters Try.func21 (by kernel_rfl) rfl

/-! ## loop.example/g00698/laws.FnExactOpenIn -/
noncomputable def E8 : Env := { tab := tab, sig := [(27, s27), (29, s29), (41, s41), (42, s42), (15, s15), (31, s31), (43, s43), (20, s20), (21, s21)], clos := [], live := [], eqs := [], inl := [] }
set_option maxRecDepth 100000 in
theorem r8 (N : Nat) (a0 : T8) : runF N E8 Try.f8 [.imm true (.pair (.int .i64) (.pair (.slice 146 (.slice 189 (.pair (.int .i64) (.pair (.int .i64) (.pair (.int .i64) (.pair (.pair (.int .i64) (.pair (.int .i64) (.pair (.int .i64) (.pair (.int .i64) (.pair (.int .i64) .unit))))) (.pair (.pair (.int .i64) (.pair (.slice 3 (.int .i64)) .unit)) .unit))))))) .unit))] [.imm false .bool] (a0, ()) = p_laws_FnExactOpenIn N a0 := by kernel_rfl
theorem env8 : EnvOk Try.prog E8 := envOk mixed tabOk ⟨⟨enters27, ok27⟩, ⟨enters29, ok29⟩, ⟨enters41, ok41⟩, ⟨enters42, ok42⟩, ⟨enters15, ok15⟩, ⟨enters31, ok31⟩, ⟨enters43, ok43⟩, ⟨enters20, ok20⟩, ⟨enters21, ok21⟩, trivial⟩ trivial trivial

end Go.Proofs.Ythijgmbdlkeebaa.Am
