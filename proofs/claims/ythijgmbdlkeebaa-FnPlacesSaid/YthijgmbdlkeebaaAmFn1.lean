/- Functions, as they run on data. No condition. -/
import Derived.Test.YthijgmbdlkeebaaAmFn0
set_option linter.unusedVariables false
set_option maxRecDepth 100000
namespace Go.Proofs.Ythijgmbdlkeebaa.Am
open Go.AM Go.AM.P Go.Proofs
/-! ## loop.example/g00698/spec.l16Kept -/
noncomputable def E123 : Env := { tab := tab, sig := [], clos := [], live := [(0, [0, 5, 8, 9, 10], [])], eqs := [], inl := [] }
set_option maxRecDepth 100000 in
theorem r123 (N : Nat) (a0 : List Int) (a1 : List Int) : runF N E123 Try.f123 [.imm false (.slice 3 (.int .i64)), .imm false (.slice 3 (.int .i64))] [.deep false (.slice 3 (.int .i64))] (a0, a1, ()) = p_spec_l16Kept N a0 a1 := by kernel_rfl
theorem env123 : EnvOk Try.prog E123 := envOk mixed tabOk trivial trivial trivial
noncomputable def s123 : FSpec := ⟨[.imm false (.slice 3 (.int .i64)), .imm false (.slice 3 (.int .i64))], [.deep false (.slice 3 (.int .i64))], fun x => S_spec_l16Kept x.1 x.2.1⟩
theorem ok123 : FOk Try.prog 123 s123 := fn_says env123 Try.func123 rfl fun x y h => let ⟨N, hN⟩ := lim_some h; ⟨N, (r123 N x.1 x.2.1).trans hN⟩
theorem enters123 : Enters Try.prog 123 := enters Try.func123 (by kernel_rfl) rfl

/-! ## loop.example/g00698/spec.l16Part -/
noncomputable def E78 : Env := { tab := tab, sig := [(60, s60), (122, s122), (123, s123)], clos := [], live := [(0, [0, 1, 2, 8, 20, 21, 49, 50, 51, 52, 53, 54, 83, 96], []), (2, [0, 1, 2, 8, 28, 29, 30, 49, 50, 51, 52, 53, 54, 83, 96], [])], eqs := [], inl := [] }
set_option maxRecDepth 100000 in
theorem r78 (N : Nat) (a0 : List T4) (a1 : List Int) (a2 : List T5) : runF N E78 Try.f78 [.imm false (.slice 79 (.pair (.int .i64) (.pair (.int .i64) (.pair (.pair (.int .i64) (.pair (.int .i64) (.pair (.int .i64) (.pair (.int .i64) (.pair (.int .i64) .unit))))) (.pair (.pair (.int .i64) (.pair (.int .i64) .unit)) .unit))))), .imm false (.slice 3 (.int .i64)), .imm false (.slice 103 (.pair (.int .i64) (.pair (.int .i64) (.pair (.pair (.int .i64) (.pair (.int .i64) .unit)) .unit))))] [.deep false (.slice 3 (.int .i64)), .imm false (.int .i64)] (a0, a1, a2, ()) = p_spec_l16Part N a0 a1 a2 := by kernel_rfl
theorem env78 : EnvOk Try.prog E78 := envOk mixed tabOk ⟨⟨enters60, ok60⟩, ⟨enters122, ok122⟩, ⟨enters123, ok123⟩, trivial⟩ trivial trivial
noncomputable def s78 : FSpec := ⟨[.imm false (.slice 79 (.pair (.int .i64) (.pair (.int .i64) (.pair (.pair (.int .i64) (.pair (.int .i64) (.pair (.int .i64) (.pair (.int .i64) (.pair (.int .i64) .unit))))) (.pair (.pair (.int .i64) (.pair (.int .i64) .unit)) .unit))))), .imm false (.slice 3 (.int .i64)), .imm false (.slice 103 (.pair (.int .i64) (.pair (.int .i64) (.pair (.pair (.int .i64) (.pair (.int .i64) .unit)) .unit))))], [.deep false (.slice 3 (.int .i64)), .imm false (.int .i64)], fun x => S_spec_l16Part x.1 x.2.1 x.2.2.1⟩
theorem ok78 : FOk Try.prog 78 s78 := fn_says env78 Try.func78 rfl fun x y h => let ⟨N, hN⟩ := lim_some h; ⟨N, (r78 N x.1 x.2.1 x.2.2.1).trans hN⟩
theorem enters78 : Enters Try.prog 78 := enters Try.func78 (by kernel_rfl) rfl

/-! ## loop.example/g00698/spec.FullPart -/
noncomputable def E38 : Env := { tab := tab, sig := [(48, s48), (58, s58), (82, s82), (65, s65), (78, s78)], clos := [], live := [(0, [1, 2, 3, 10, 31, 32, 33], [])], eqs := [], inl := [] }
set_option maxRecDepth 100000 in
theorem r38 (N : Nat) (a0 : Int) (a1 : List (List Int)) (a2 : List T4) (a3 : Int) : runF N E38 Try.f38 [.imm false (.int .i64), .imm false (.slice 23 (.slice 3 (.int .i64))), .imm false (.slice 79 (.pair (.int .i64) (.pair (.int .i64) (.pair (.pair (.int .i64) (.pair (.int .i64) (.pair (.int .i64) (.pair (.int .i64) (.pair (.int .i64) .unit))))) (.pair (.pair (.int .i64) (.pair (.int .i64) .unit)) .unit))))), .imm false (.int .i64)] [.deep false (.slice 3 (.int .i64)), .imm false .bool] (a0, a1, a2, a3, ()) = p_spec_FullPart N a0 a1 a2 a3 := by kernel_rfl
theorem env38 : EnvOk Try.prog E38 := envOk mixed tabOk ⟨⟨enters48, ok48⟩, ⟨enters58, ok58⟩, ⟨enters82, ok82⟩, ⟨enters65, ok65⟩, ⟨enters78, ok78⟩, trivial⟩ trivial trivial
noncomputable def s38 : FSpec := ⟨[.imm false (.int .i64), .imm false (.slice 23 (.slice 3 (.int .i64))), .imm false (.slice 79 (.pair (.int .i64) (.pair (.int .i64) (.pair (.pair (.int .i64) (.pair (.int .i64) (.pair (.int .i64) (.pair (.int .i64) (.pair (.int .i64) .unit))))) (.pair (.pair (.int .i64) (.pair (.int .i64) .unit)) .unit))))), .imm false (.int .i64)], [.deep false (.slice 3 (.int .i64)), .imm false .bool], fun x => S_spec_FullPart x.1 x.2.1 x.2.2.1 x.2.2.2.1⟩
theorem ok38 : FOk Try.prog 38 s38 := fn_says env38 Try.func38 rfl fun x y h => let ⟨N, hN⟩ := lim_some h; ⟨N, (r38 N x.1 x.2.1 x.2.2.1 x.2.2.2.1).trans hN⟩
theorem enters38 : Enters Try.prog 38 := enters Try.func38 (by kernel_rfl) rfl

/-! ## loop.example/g00698/laws.sameInts -/
noncomputable def E46 : Env := { tab := tab, sig := [], clos := [], live := [(0, [0, 1, 12, 13], [])], eqs := [], inl := [] }
set_option maxRecDepth 100000 in
theorem r46 (N : Nat) (a0 : List Int) (a1 : List Int) : runF N E46 Try.f46 [.imm false (.slice 3 (.int .i64)), .imm false (.slice 3 (.int .i64))] [.imm false .bool] (a0, a1, ()) = p_laws_sameInts N a0 a1 := by kernel_rfl
theorem env46 : EnvOk Try.prog E46 := envOk mixed tabOk trivial trivial trivial
noncomputable def s46 : FSpec := ⟨[.imm false (.slice 3 (.int .i64)), .imm false (.slice 3 (.int .i64))], [.imm false .bool], fun x => S_laws_sameInts x.1 x.2.1⟩
theorem ok46 : FOk Try.prog 46 s46 := fn_says env46 Try.func46 rfl fun x y h => let ⟨N, hN⟩ := lim_some h; ⟨N, (r46 N x.1 x.2.1).trans hN⟩
theorem enters46 : Enters Try.prog 46 := enters Try.func46 (by kernel_rfl) rfl

/-! ## slices.IndexFunc[[]loop.example/g00698/impl.Cmd,loop.example/g00698/impl.Cmd] -/
noncomputable def E168 : Env := { tab := tab, sig := [], clos := [], live := [(0, [0, 1, 7, 8], [])], eqs := [], inl := [] }
set_option maxRecDepth 100000 in
theorem r168 (N : Nat) (a0 : List T2) (a1 : (T2 × Unit) → Option Bool) : runF N E168 Try.f168 [.imm false (.slice 75 (.pair (.int .i64) (.pair (.int .i64) (.pair (.int .i64) (.pair (.int .i64) (.pair (.int .i64) .unit)))))), .clo [(true, (.pair (.int .i64) (.pair (.int .i64) (.pair (.int .i64) (.pair (.int .i64) (.pair (.int .i64) .unit))))))] .bool] [.imm false (.int .i64)] (a0, a1, ()) = p_IndexFunc_Limpl_Cmd_impl_Cmd N a0 a1 := by kernel_rfl
theorem env168 : EnvOk Try.prog E168 := envOk mixed tabOk trivial trivial trivial
noncomputable def s168 : FSpec := ⟨[.imm false (.slice 75 (.pair (.int .i64) (.pair (.int .i64) (.pair (.int .i64) (.pair (.int .i64) (.pair (.int .i64) .unit)))))), .clo [(true, (.pair (.int .i64) (.pair (.int .i64) (.pair (.int .i64) (.pair (.int .i64) (.pair (.int .i64) .unit))))))] .bool], [.imm false (.int .i64)], fun x => S_IndexFunc_Limpl_Cmd_impl_Cmd x.1 x.2.1⟩
theorem ok168 : FOk Try.prog 168 s168 := fn_says env168 Try.func168 rfl fun x y h => let ⟨N, hN⟩ := lim_some h; ⟨N, (r168 N x.1 x.2.1).trans hN⟩
theorem enters168 : Enters Try.prog 168 := enters Try.func168 (by kernel_rfl) rfl

/-! ## slices.ContainsFunc[[]loop.example/g00698/impl.Cmd,loop.example/g00698/impl.Cmd] -/
noncomputable def E140 : Env := { tab := tab, sig := [(168, s168)], clos := [], live := [], eqs := [], inl := [] }
set_option maxRecDepth 100000 in
theorem r140 (N : Nat) (a0 : List T2) (a1 : (T2 × Unit) → Option Bool) : runF N E140 Try.f140 [.imm false (.slice 75 (.pair (.int .i64) (.pair (.int .i64) (.pair (.int .i64) (.pair (.int .i64) (.pair (.int .i64) .unit)))))), .clo [(true, (.pair (.int .i64) (.pair (.int .i64) (.pair (.int .i64) (.pair (.int .i64) (.pair (.int .i64) .unit))))))] .bool] [.imm false .bool] (a0, a1, ()) = p_ContainsFunc_Limpl_Cmd_impl_Cmd N a0 a1 := by kernel_rfl
theorem env140 : EnvOk Try.prog E140 := envOk mixed tabOk ⟨⟨enters168, ok168⟩, trivial⟩ trivial trivial
noncomputable def s140 : FSpec := ⟨[.imm false (.slice 75 (.pair (.int .i64) (.pair (.int .i64) (.pair (.int .i64) (.pair (.int .i64) (.pair (.int .i64) .unit)))))), .clo [(true, (.pair (.int .i64) (.pair (.int .i64) (.pair (.int .i64) (.pair (.int .i64) (.pair (.int .i64) .unit))))))] .bool], [.imm false .bool], fun x => S_ContainsFunc_Limpl_Cmd_impl_Cmd x.1 x.2.1⟩
theorem ok140 : FOk Try.prog 140 s140 := fn_says env140 Try.func140 rfl fun x y h => ⟨0, (r140 0 x.1 x.2.1).trans h⟩
theorem enters140 : Enters Try.prog 140 := enters Try.func140 (by kernel_rfl) rfl

/-! ## loop.example/g00698/impl.goodCmds -/
theorem enters141 : Enters Try.prog 141 := enters Try.func141 (by kernel_rfl) rfl
noncomputable def E96 : Env := { tab := tab, sig := [(140, s140), (142, s142)], clos := [(141, ⟨Try.f141, [(true, (.pair (.int .i64) (.pair (.int .i64) (.pair (.int .i64) (.pair (.int .i64) (.pair (.int .i64) .unit))))))], []⟩)], live := [], eqs := [], inl := [] }
set_option maxRecDepth 100000 in
theorem r96 (N : Nat) (a0 : List T2) : runF N E96 Try.f96 [.imm false (.slice 75 (.pair (.int .i64) (.pair (.int .i64) (.pair (.int .i64) (.pair (.int .i64) (.pair (.int .i64) .unit))))))] [.imm false .bool] (a0, ()) = p_impl_goodCmds N a0 := by kernel_rfl
theorem env96 : EnvOk Try.prog E96 := envOk mixed tabOk ⟨⟨enters140, ok140⟩, ⟨enters142, ok142⟩, trivial⟩ ⟨⟨Try.func141, enters141⟩, trivial⟩ trivial
noncomputable def s96 : FSpec := ⟨[.imm false (.slice 75 (.pair (.int .i64) (.pair (.int .i64) (.pair (.int .i64) (.pair (.int .i64) (.pair (.int .i64) .unit))))))], [.imm false .bool], fun x => S_impl_goodCmds x.1⟩
theorem ok96 : FOk Try.prog 96 s96 := fn_says env96 Try.func96 rfl fun x y h => ⟨0, (r96 0 x.1).trans h⟩
theorem enters96 : Enters Try.prog 96 := enters Try.func96 (by kernel_rfl) rfl

/-! ## loop.example/g00698/impl.apply -/
noncomputable def E143 : Env := { tab := tab, sig := [], clos := [], live := [], eqs := [], inl := [] }
set_option maxRecDepth 100000 in
theorem r143 (N : Nat) (a0 : List Int) (a1 : T2) : runF N E143 Try.f143 [.mut false (.slice 3 (.int .i64)), .imm true (.pair (.int .i64) (.pair (.int .i64) (.pair (.int .i64) (.pair (.int .i64) (.pair (.int .i64) .unit)))))] [.imm true (.pair (.int .i64) (.pair (.int .i64) .unit))] (a0, a1, ()) = p_impl_apply N a0 a1 := by kernel_rfl
theorem env143 : EnvOk Try.prog E143 := envOk mixed tabOk trivial trivial trivial
noncomputable def s143 : FSpec := ⟨[.mut false (.slice 3 (.int .i64)), .imm true (.pair (.int .i64) (.pair (.int .i64) (.pair (.int .i64) (.pair (.int .i64) (.pair (.int .i64) .unit)))))], [.imm true (.pair (.int .i64) (.pair (.int .i64) .unit))], fun x => S_impl_apply x.1 x.2.1⟩
theorem ok143 : FOk Try.prog 143 s143 := fn_says env143 Try.func143 rfl fun x y h => ⟨0, (r143 0 x.1 x.2.1).trans h⟩
theorem enters143 : Enters Try.prog 143 := enters Try.func143 (by kernel_rfl) rfl

/-! ## loop.example/g00698/impl.playCmds -/
noncomputable def E97 : Env := { tab := tab, sig := [(124, s124), (143, s143)], clos := [], live := [(0, [4, 5, 10, 11, 12], [])], eqs := [], inl := [] }
set_option maxRecDepth 100000 in
theorem r97 (N : Nat) (a0 : List T2) : runF N E97 Try.f97 [.imm false (.slice 75 (.pair (.int .i64) (.pair (.int .i64) (.pair (.int .i64) (.pair (.int .i64) (.pair (.int .i64) .unit))))))] [.deep false (.slice 3 (.int .i64)), .deep false (.slice 77 (.pair (.int .i64) (.pair (.int .i64) .unit)))] (a0, ()) = p_impl_playCmds N a0 := by kernel_rfl
theorem env97 : EnvOk Try.prog E97 := envOk mixed tabOk ⟨⟨enters124, ok124⟩, ⟨enters143, ok143⟩, trivial⟩ trivial trivial
noncomputable def s97 : FSpec := ⟨[.imm false (.slice 75 (.pair (.int .i64) (.pair (.int .i64) (.pair (.int .i64) (.pair (.int .i64) (.pair (.int .i64) .unit))))))], [.deep false (.slice 3 (.int .i64)), .deep false (.slice 77 (.pair (.int .i64) (.pair (.int .i64) .unit)))], fun x => S_impl_playCmds x.1⟩
theorem ok97 : FOk Try.prog 97 s97 := fn_says env97 Try.func97 rfl fun x y h => let ⟨N, hN⟩ := lim_some h; ⟨N, (r97 N x.1).trans hN⟩
theorem enters97 : Enters Try.prog 97 := enters Try.func97 (by kernel_rfl) rfl

/-! ## loop.example/g00698/impl.PlayCmds -/
noncomputable def E49 : Env := { tab := tab, sig := [(96, s96), (97, s97)], clos := [], live := [], eqs := [], inl := [] }
set_option maxRecDepth 100000 in
theorem r49 (N : Nat) (a0 : List T2) : runF N E49 Try.f49 [.imm false (.slice 75 (.pair (.int .i64) (.pair (.int .i64) (.pair (.int .i64) (.pair (.int .i64) (.pair (.int .i64) .unit))))))] [.deep false (.slice 3 (.int .i64)), .deep false (.slice 77 (.pair (.int .i64) (.pair (.int .i64) .unit))), .imm false .bool] (a0, ()) = p_impl_PlayCmds N a0 := by kernel_rfl
theorem env49 : EnvOk Try.prog E49 := envOk mixed tabOk ⟨⟨enters96, ok96⟩, ⟨enters97, ok97⟩, trivial⟩ trivial trivial
noncomputable def s49 : FSpec := ⟨[.imm false (.slice 75 (.pair (.int .i64) (.pair (.int .i64) (.pair (.int .i64) (.pair (.int .i64) (.pair (.int .i64) .unit))))))], [.deep false (.slice 3 (.int .i64)), .deep false (.slice 77 (.pair (.int .i64) (.pair (.int .i64) .unit))), .imm false .bool], fun x => S_impl_PlayCmds x.1⟩
theorem ok49 : FOk Try.prog 49 s49 := fn_says env49 Try.func49 rfl fun x y h => ⟨0, (r49 0 x.1).trans h⟩
theorem enters49 : Enters Try.prog 49 := enters Try.func49 (by kernel_rfl) rfl

/-! ## loop.example/g00698/impl.HostsOf -/
noncomputable def E50 : Env := { tab := tab, sig := [(47, s47), (98, s98), (94, s94)], clos := [], live := [], eqs := [], inl := [] }
set_option maxRecDepth 100000 in
theorem r50 (N : Nat) (a0 : Int) (a1 : List (List Int)) (a2 : Int) : runF N E50 Try.f50 [.imm false (.int .i64), .imm false (.slice 23 (.slice 3 (.int .i64))), .imm false (.int .i64)] [.deep false (.slice 3 (.int .i64)), .imm false .bool] (a0, a1, a2, ()) = p_impl_HostsOf N a0 a1 a2 := by kernel_rfl
theorem env50 : EnvOk Try.prog E50 := envOk mixed tabOk ⟨⟨enters47, ok47⟩, ⟨enters98, ok98⟩, ⟨enters94, ok94⟩, trivial⟩ trivial trivial
noncomputable def s50 : FSpec := ⟨[.imm false (.int .i64), .imm false (.slice 23 (.slice 3 (.int .i64))), .imm false (.int .i64)], [.deep false (.slice 3 (.int .i64)), .imm false .bool], fun x => S_impl_HostsOf x.1 x.2.1 x.2.2.1⟩
theorem ok50 : FOk Try.prog 50 s50 := fn_says env50 Try.func50 rfl fun x y h => ⟨0, (r50 0 x.1 x.2.1 x.2.2.1).trans h⟩
theorem enters50 : Enters Try.prog 50 := enters Try.func50 (by kernel_rfl) rfl

/-! ## loop.example/g00698/laws.has -/
noncomputable def E51 : Env := { tab := tab, sig := [], clos := [], live := [(0, [1, 7, 8, 9], [])], eqs := [], inl := [] }
set_option maxRecDepth 100000 in
theorem r51 (N : Nat) (a0 : List Int) (a1 : Int) : runF N E51 Try.f51 [.imm false (.slice 3 (.int .i64)), .imm false (.int .i64)] [.imm false .bool] (a0, a1, ()) = p_laws_has N a0 a1 := by kernel_rfl
theorem env51 : EnvOk Try.prog E51 := envOk mixed tabOk trivial trivial trivial
noncomputable def s51 : FSpec := ⟨[.imm false (.slice 3 (.int .i64)), .imm false (.int .i64)], [.imm false .bool], fun x => S_laws_has x.1 x.2.1⟩
theorem ok51 : FOk Try.prog 51 s51 := fn_says env51 Try.func51 rfl fun x y h => let ⟨N, hN⟩ := lim_some h; ⟨N, (r51 N x.1 x.2.1).trans hN⟩
theorem enters51 : Enters Try.prog 51 := enters Try.func51 (by kernel_rfl) rfl

/-! ## loop.example/g00698/spec.DrawPartBook -/
noncomputable def E52 : Env := { tab := tab, sig := [(88, s88), (99, s99), (100, s100)], clos := [], live := [(0, [5, 6, 7, 15, 16, 17], [])], eqs := [], inl := [] }
set_option maxRecDepth 100000 in
theorem r52 (N : Nat) (a0 : List Int) : runF N E52 Try.f52 [.imm false (.slice 5 (.int .u8))] [.deep false (.slice 79 (.pair (.int .i64) (.pair (.int .i64) (.pair (.pair (.int .i64) (.pair (.int .i64) (.pair (.int .i64) (.pair (.int .i64) (.pair (.int .i64) .unit))))) (.pair (.pair (.int .i64) (.pair (.int .i64) .unit)) .unit))))), .deep false (.slice 3 (.int .i64)), .deep false (.slice 103 (.pair (.int .i64) (.pair (.int .i64) (.pair (.pair (.int .i64) (.pair (.int .i64) .unit)) .unit))))] (a0, ()) = p_spec_DrawPartBook N a0 := by kernel_rfl
theorem env52 : EnvOk Try.prog E52 := envOk mixed tabOk ⟨⟨enters88, ok88⟩, ⟨enters99, ok99⟩, ⟨enters100, ok100⟩, trivial⟩ trivial trivial
noncomputable def s52 : FSpec := ⟨[.imm false (.slice 5 (.int .u8))], [.deep false (.slice 79 (.pair (.int .i64) (.pair (.int .i64) (.pair (.pair (.int .i64) (.pair (.int .i64) (.pair (.int .i64) (.pair (.int .i64) (.pair (.int .i64) .unit))))) (.pair (.pair (.int .i64) (.pair (.int .i64) .unit)) .unit))))), .deep false (.slice 3 (.int .i64)), .deep false (.slice 103 (.pair (.int .i64) (.pair (.int .i64) (.pair (.pair (.int .i64) (.pair (.int .i64) .unit)) .unit))))], fun x => S_spec_DrawPartBook x.1⟩
theorem ok52 : FOk Try.prog 52 s52 := fn_says env52 Try.func52 rfl fun x y h => let ⟨N, hN⟩ := lim_some h; ⟨N, (r52 N x.1).trans hN⟩
theorem enters52 : Enters Try.prog 52 := enters Try.func52 (by kernel_rfl) rfl

/-! ## loop.example/g00698/impl.PartBook -/
noncomputable def E35 : Env := { tab := tab, sig := [(62, s62), (80, s80)], clos := [], live := [], eqs := [], inl := [] }
set_option maxRecDepth 100000 in
theorem r35 (N : Nat) (a0 : List T4) (a1 : List Int) (a2 : List T5) : runF N E35 Try.f35 [.imm false (.slice 79 (.pair (.int .i64) (.pair (.int .i64) (.pair (.pair (.int .i64) (.pair (.int .i64) (.pair (.int .i64) (.pair (.int .i64) (.pair (.int .i64) .unit))))) (.pair (.pair (.int .i64) (.pair (.int .i64) .unit)) .unit))))), .imm false (.slice 3 (.int .i64)), .imm false (.slice 103 (.pair (.int .i64) (.pair (.int .i64) (.pair (.pair (.int .i64) (.pair (.int .i64) .unit)) .unit))))] [.deep false (.slice 3 (.int .i64)), .imm false (.int .i64), .imm false .bool] (a0, a1, a2, ()) = p_impl_PartBook N a0 a1 a2 := by kernel_rfl
theorem env35 : EnvOk Try.prog E35 := envOk mixed tabOk ⟨⟨enters62, ok62⟩, ⟨enters80, ok80⟩, trivial⟩ trivial trivial
noncomputable def s35 : FSpec := ⟨[.imm false (.slice 79 (.pair (.int .i64) (.pair (.int .i64) (.pair (.pair (.int .i64) (.pair (.int .i64) (.pair (.int .i64) (.pair (.int .i64) (.pair (.int .i64) .unit))))) (.pair (.pair (.int .i64) (.pair (.int .i64) .unit)) .unit))))), .imm false (.slice 3 (.int .i64)), .imm false (.slice 103 (.pair (.int .i64) (.pair (.int .i64) (.pair (.pair (.int .i64) (.pair (.int .i64) .unit)) .unit))))], [.deep false (.slice 3 (.int .i64)), .imm false (.int .i64), .imm false .bool], fun x => S_impl_PartBook x.1 x.2.1 x.2.2.1⟩
theorem ok35 : FOk Try.prog 35 s35 := fn_says env35 Try.func35 rfl fun x y h => ⟨0, (r35 0 x.1 x.2.1 x.2.2.1).trans h⟩
theorem enters35 : Enters Try.prog 35 := enters Try.func35 (by kernel_rfl) rfl

/-! ## loop.example/g00698/spec.PartBook -/
noncomputable def E33 : Env := { tab := tab, sig := [(58, s58), (59, s59), (78, s78)], clos := [], live := [], eqs := [], inl := [] }
set_option maxRecDepth 100000 in
theorem r33 (N : Nat) (a0 : List T4) (a1 : List Int) (a2 : List T5) : runF N E33 Try.f33 [.imm false (.slice 79 (.pair (.int .i64) (.pair (.int .i64) (.pair (.pair (.int .i64) (.pair (.int .i64) (.pair (.int .i64) (.pair (.int .i64) (.pair (.int .i64) .unit))))) (.pair (.pair (.int .i64) (.pair (.int .i64) .unit)) .unit))))), .imm false (.slice 3 (.int .i64)), .imm false (.slice 103 (.pair (.int .i64) (.pair (.int .i64) (.pair (.pair (.int .i64) (.pair (.int .i64) .unit)) .unit))))] [.deep false (.slice 3 (.int .i64)), .imm false (.int .i64), .imm false .bool] (a0, a1, a2, ()) = p_spec_PartBook N a0 a1 a2 := by kernel_rfl
theorem env33 : EnvOk Try.prog E33 := envOk mixed tabOk ⟨⟨enters58, ok58⟩, ⟨enters59, ok59⟩, ⟨enters78, ok78⟩, trivial⟩ trivial trivial
noncomputable def s33 : FSpec := ⟨[.imm false (.slice 79 (.pair (.int .i64) (.pair (.int .i64) (.pair (.pair (.int .i64) (.pair (.int .i64) (.pair (.int .i64) (.pair (.int .i64) (.pair (.int .i64) .unit))))) (.pair (.pair (.int .i64) (.pair (.int .i64) .unit)) .unit))))), .imm false (.slice 3 (.int .i64)), .imm false (.slice 103 (.pair (.int .i64) (.pair (.int .i64) (.pair (.pair (.int .i64) (.pair (.int .i64) .unit)) .unit))))], [.deep false (.slice 3 (.int .i64)), .imm false (.int .i64), .imm false .bool], fun x => S_spec_PartBook x.1 x.2.1 x.2.2.1⟩
theorem ok33 : FOk Try.prog 33 s33 := fn_says env33 Try.func33 rfl fun x y h => ⟨0, (r33 0 x.1 x.2.1 x.2.2.1).trans h⟩
theorem enters33 : Enters Try.prog 33 := enters Try.func33 (by kernel_rfl) rfl

/-! ## loop.example/g00698/spec.DrawNeedsOf -/
noncomputable def E53 : Env := { tab := tab, sig := [(88, s88), (100, s100)], clos := [], live := [], eqs := [], inl := [] }
set_option maxRecDepth 100000 in
theorem r53 (N : Nat) (a0 : List Int) : runF N E53 Try.f53 [.imm false (.slice 5 (.int .u8))] [.deep false (.slice 79 (.pair (.int .i64) (.pair (.int .i64) (.pair (.pair (.int .i64) (.pair (.int .i64) (.pair (.int .i64) (.pair (.int .i64) (.pair (.int .i64) .unit))))) (.pair (.pair (.int .i64) (.pair (.int .i64) .unit)) .unit))))), .deep false (.slice 3 (.int .i64))] (a0, ()) = p_spec_DrawNeedsOf N a0 := by kernel_rfl
theorem env53 : EnvOk Try.prog E53 := envOk mixed tabOk ⟨⟨enters88, ok88⟩, ⟨enters100, ok100⟩, trivial⟩ trivial trivial
noncomputable def s53 : FSpec := ⟨[.imm false (.slice 5 (.int .u8))], [.deep false (.slice 79 (.pair (.int .i64) (.pair (.int .i64) (.pair (.pair (.int .i64) (.pair (.int .i64) (.pair (.int .i64) (.pair (.int .i64) (.pair (.int .i64) .unit))))) (.pair (.pair (.int .i64) (.pair (.int .i64) .unit)) .unit))))), .deep false (.slice 3 (.int .i64))], fun x => S_spec_DrawNeedsOf x.1⟩
theorem ok53 : FOk Try.prog 53 s53 := fn_says env53 Try.func53 rfl fun x y h => ⟨0, (r53 0 x.1).trans h⟩
theorem enters53 : Enters Try.prog 53 := enters Try.func53 (by kernel_rfl) rfl

/-! ## loop.example/g00698/impl.NeedsOf -/
noncomputable def E14 : Env := { tab := tab, sig := [(62, s62), (63, s63)], clos := [], live := [(0, [1, 6, 14, 15, 16, 25, 26, 27, 28, 29, 32, 33, 34, 35, 36, 37], [])], eqs := [], inl := [] }
set_option maxRecDepth 100000 in
theorem r14 (N : Nat) (a0 : List T4) (a1 : List Int) : runF N E14 Try.f14 [.imm false (.slice 79 (.pair (.int .i64) (.pair (.int .i64) (.pair (.pair (.int .i64) (.pair (.int .i64) (.pair (.int .i64) (.pair (.int .i64) (.pair (.int .i64) .unit))))) (.pair (.pair (.int .i64) (.pair (.int .i64) .unit)) .unit))))), .imm false (.slice 3 (.int .i64))] [.deep false (.slice 23 (.slice 3 (.int .i64))), .imm false .bool] (a0, a1, ()) = p_impl_NeedsOf N a0 a1 := by kernel_rfl
theorem env14 : EnvOk Try.prog E14 := envOk mixed tabOk ⟨⟨enters62, ok62⟩, ⟨enters63, ok63⟩, trivial⟩ trivial trivial
noncomputable def s14 : FSpec := ⟨[.imm false (.slice 79 (.pair (.int .i64) (.pair (.int .i64) (.pair (.pair (.int .i64) (.pair (.int .i64) (.pair (.int .i64) (.pair (.int .i64) (.pair (.int .i64) .unit))))) (.pair (.pair (.int .i64) (.pair (.int .i64) .unit)) .unit))))), .imm false (.slice 3 (.int .i64))], [.deep false (.slice 23 (.slice 3 (.int .i64))), .imm false .bool], fun x => S_impl_NeedsOf x.1 x.2.1⟩
theorem ok14 : FOk Try.prog 14 s14 := fn_says env14 Try.func14 rfl fun x y h => let ⟨N, hN⟩ := lim_some h; ⟨N, (r14 N x.1 x.2.1).trans hN⟩
theorem enters14 : Enters Try.prog 14 := enters Try.func14 (by kernel_rfl) rfl

/-! ## loop.example/g00698/spec.NeedsOf -/
noncomputable def E11 : Env := { tab := tab, sig := [(58, s58), (59, s59), (60, s60)], clos := [], live := [(0, [1, 6, 17, 18, 19, 28, 29, 30, 31, 32, 35, 36, 37, 38, 39, 40], [])], eqs := [], inl := [] }
set_option maxRecDepth 100000 in
theorem r11 (N : Nat) (a0 : List T4) (a1 : List Int) : runF N E11 Try.f11 [.imm false (.slice 79 (.pair (.int .i64) (.pair (.int .i64) (.pair (.pair (.int .i64) (.pair (.int .i64) (.pair (.int .i64) (.pair (.int .i64) (.pair (.int .i64) .unit))))) (.pair (.pair (.int .i64) (.pair (.int .i64) .unit)) .unit))))), .imm false (.slice 3 (.int .i64))] [.deep false (.slice 23 (.slice 3 (.int .i64))), .imm false .bool] (a0, a1, ()) = p_spec_NeedsOf N a0 a1 := by kernel_rfl
theorem env11 : EnvOk Try.prog E11 := envOk mixed tabOk ⟨⟨enters58, ok58⟩, ⟨enters59, ok59⟩, ⟨enters60, ok60⟩, trivial⟩ trivial trivial
noncomputable def s11 : FSpec := ⟨[.imm false (.slice 79 (.pair (.int .i64) (.pair (.int .i64) (.pair (.pair (.int .i64) (.pair (.int .i64) (.pair (.int .i64) (.pair (.int .i64) (.pair (.int .i64) .unit))))) (.pair (.pair (.int .i64) (.pair (.int .i64) .unit)) .unit))))), .imm false (.slice 3 (.int .i64))], [.deep false (.slice 23 (.slice 3 (.int .i64))), .imm false .bool], fun x => S_spec_NeedsOf x.1 x.2.1⟩
theorem ok11 : FOk Try.prog 11 s11 := fn_says env11 Try.func11 rfl fun x y h => let ⟨N, hN⟩ := lim_some h; ⟨N, (r11 N x.1 x.2.1).trans hN⟩
theorem enters11 : Enters Try.prog 11 := enters Try.func11 (by kernel_rfl) rfl

/-! ## loop.example/g00698/impl.VerdictsOf -/
noncomputable def E23 : Env := { tab := tab, sig := [(62, s62), (66, s66)], clos := [], live := [], eqs := [], inl := [] }
set_option maxRecDepth 100000 in
theorem r23 (N : Nat) (a0 : List T4) (a1 : List Int) : runF N E23 Try.f23 [.imm false (.slice 79 (.pair (.int .i64) (.pair (.int .i64) (.pair (.pair (.int .i64) (.pair (.int .i64) (.pair (.int .i64) (.pair (.int .i64) (.pair (.int .i64) .unit))))) (.pair (.pair (.int .i64) (.pair (.int .i64) .unit)) .unit))))), .imm false (.slice 3 (.int .i64))] [.deep false (.slice 103 (.pair (.int .i64) (.pair (.int .i64) (.pair (.pair (.int .i64) (.pair (.int .i64) .unit)) .unit)))), .imm false .bool] (a0, a1, ()) = p_impl_VerdictsOf N a0 a1 := by kernel_rfl
theorem env23 : EnvOk Try.prog E23 := envOk mixed tabOk ⟨⟨enters62, ok62⟩, ⟨enters66, ok66⟩, trivial⟩ trivial trivial
noncomputable def s23 : FSpec := ⟨[.imm false (.slice 79 (.pair (.int .i64) (.pair (.int .i64) (.pair (.pair (.int .i64) (.pair (.int .i64) (.pair (.int .i64) (.pair (.int .i64) (.pair (.int .i64) .unit))))) (.pair (.pair (.int .i64) (.pair (.int .i64) .unit)) .unit))))), .imm false (.slice 3 (.int .i64))], [.deep false (.slice 103 (.pair (.int .i64) (.pair (.int .i64) (.pair (.pair (.int .i64) (.pair (.int .i64) .unit)) .unit)))), .imm false .bool], fun x => S_impl_VerdictsOf x.1 x.2.1⟩
theorem ok23 : FOk Try.prog 23 s23 := fn_says env23 Try.func23 rfl fun x y h => ⟨0, (r23 0 x.1 x.2.1).trans h⟩
theorem enters23 : Enters Try.prog 23 := enters Try.func23 (by kernel_rfl) rfl

/-! ## loop.example/g00698/spec.VerdictsOf -/
noncomputable def E22 : Env := { tab := tab, sig := [(58, s58), (59, s59), (65, s65)], clos := [], live := [], eqs := [], inl := [] }
set_option maxRecDepth 100000 in
theorem r22 (N : Nat) (a0 : List T4) (a1 : List Int) : runF N E22 Try.f22 [.imm false (.slice 79 (.pair (.int .i64) (.pair (.int .i64) (.pair (.pair (.int .i64) (.pair (.int .i64) (.pair (.int .i64) (.pair (.int .i64) (.pair (.int .i64) .unit))))) (.pair (.pair (.int .i64) (.pair (.int .i64) .unit)) .unit))))), .imm false (.slice 3 (.int .i64))] [.deep false (.slice 103 (.pair (.int .i64) (.pair (.int .i64) (.pair (.pair (.int .i64) (.pair (.int .i64) .unit)) .unit)))), .imm false .bool] (a0, a1, ()) = p_spec_VerdictsOf N a0 a1 := by kernel_rfl
theorem env22 : EnvOk Try.prog E22 := envOk mixed tabOk ⟨⟨enters58, ok58⟩, ⟨enters59, ok59⟩, ⟨enters65, ok65⟩, trivial⟩ trivial trivial
noncomputable def s22 : FSpec := ⟨[.imm false (.slice 79 (.pair (.int .i64) (.pair (.int .i64) (.pair (.pair (.int .i64) (.pair (.int .i64) (.pair (.int .i64) (.pair (.int .i64) (.pair (.int .i64) .unit))))) (.pair (.pair (.int .i64) (.pair (.int .i64) .unit)) .unit))))), .imm false (.slice 3 (.int .i64))], [.deep false (.slice 103 (.pair (.int .i64) (.pair (.int .i64) (.pair (.pair (.int .i64) (.pair (.int .i64) .unit)) .unit)))), .imm false .bool], fun x => S_spec_VerdictsOf x.1 x.2.1⟩
theorem ok22 : FOk Try.prog 22 s22 := fn_says env22 Try.func22 rfl fun x y h => ⟨0, (r22 0 x.1 x.2.1).trans h⟩
theorem enters22 : Enters Try.prog 22 := enters Try.func22 (by kernel_rfl) rfl

/-! ## (*loop.example/g00698/spec.l1Cur).group -/
noncomputable def E144 : Env := { tab := tab, sig := [(86, s86)], clos := [], live := [], eqs := [], inl := [] }
set_option maxRecDepth 100000 in
theorem r144 (N : Nat) (a0 : T14) : runF N E144 Try.f144 [.ptr (.pair (.slice 5 (.int .u8)) (.pair (.int .i64) (.pair (.int .u64) .unit)))] [.imm false (.int .i64)] (a0, ()) = p_Pspec_l1Cur_group N a0 := by kernel_rfl
theorem env144 : EnvOk Try.prog E144 := envOk mixed tabOk ⟨⟨enters86, ok86⟩, trivial⟩ trivial trivial
noncomputable def s144 : FSpec := ⟨[.ptr (.pair (.slice 5 (.int .u8)) (.pair (.int .i64) (.pair (.int .u64) .unit)))], [.imm false (.int .i64)], fun x => S_Pspec_l1Cur_group x.1⟩
theorem ok144 : FOk Try.prog 144 s144 := fn_says env144 Try.func144 rfl fun x y h => ⟨0, (r144 0 x.1).trans h⟩
theorem enters144 : Enters Try.prog 144 := enters Try.func144 (by kernel_rfl) rfl

/-! ## loop.example/g00698/spec.DrawGoodPlaces -/
noncomputable def E101 : Env := { tab := tab, sig := [(144, s144), (87, s87)], clos := [], live := [], eqs := [], inl := [] }
set_option maxRecDepth 100000 in
theorem r101 (N : Nat) (a0 : List Int) : runF N E101 Try.f101 [.imm false (.slice 5 (.int .u8))] [.imm false (.int .i64), .imm false (.slice 23 (.slice 3 (.int .i64)))] (a0, ()) = p_spec_DrawGoodPlaces N a0 := by kernel_rfl
theorem env101 : EnvOk Try.prog E101 := envOk mixed tabOk ⟨⟨enters144, ok144⟩, ⟨enters87, ok87⟩, trivial⟩ trivial trivial
noncomputable def s101 : FSpec := ⟨[.imm false (.slice 5 (.int .u8))], [.imm false (.int .i64), .imm false (.slice 23 (.slice 3 (.int .i64)))], fun x => S_spec_DrawGoodPlaces x.1⟩
theorem ok101 : FOk Try.prog 101 s101 := fn_says env101 Try.func101 rfl fun x y h => ⟨0, (r101 0 x.1).trans h⟩
theorem enters101 : Enters Try.prog 101 := enters Try.func101 (by kernel_rfl) rfl

/-! ## loop.example/g00698/spec.DrawHostsOf -/
noncomputable def E54 : Env := { tab := tab, sig := [(101, s101), (89, s89)], clos := [], live := [], eqs := [], inl := [] }
set_option maxRecDepth 100000 in
theorem r54 (N : Nat) (a0 : List Int) : runF N E54 Try.f54 [.imm false (.slice 5 (.int .u8))] [.imm false (.int .i64), .imm false (.slice 23 (.slice 3 (.int .i64))), .imm false (.int .i64)] (a0, ()) = p_spec_DrawHostsOf N a0 := by kernel_rfl
theorem env54 : EnvOk Try.prog E54 := envOk mixed tabOk ⟨⟨enters101, ok101⟩, ⟨enters89, ok89⟩, trivial⟩ trivial trivial
noncomputable def s54 : FSpec := ⟨[.imm false (.slice 5 (.int .u8))], [.imm false (.int .i64), .imm false (.slice 23 (.slice 3 (.int .i64))), .imm false (.int .i64)], fun x => S_spec_DrawHostsOf x.1⟩
theorem ok54 : FOk Try.prog 54 s54 := fn_says env54 Try.func54 rfl fun x y h => ⟨0, (r54 0 x.1).trans h⟩
theorem enters54 : Enters Try.prog 54 := enters Try.func54 (by kernel_rfl) rfl

/-! ## loop.example/g00698/spec.HostsOf -/
noncomputable def E55 : Env := { tab := tab, sig := [(48, s48), (102, s102), (60, s60)], clos := [], live := [(0, [2, 8, 20, 21, 22], [])], eqs := [], inl := [] }
set_option maxRecDepth 100000 in
theorem r55 (N : Nat) (a0 : Int) (a1 : List (List Int)) (a2 : Int) : runF N E55 Try.f55 [.imm false (.int .i64), .imm false (.slice 23 (.slice 3 (.int .i64))), .imm false (.int .i64)] [.deep false (.slice 3 (.int .i64)), .imm false .bool] (a0, a1, a2, ()) = p_spec_HostsOf N a0 a1 a2 := by kernel_rfl
theorem env55 : EnvOk Try.prog E55 := envOk mixed tabOk ⟨⟨enters48, ok48⟩, ⟨enters102, ok102⟩, ⟨enters60, ok60⟩, trivial⟩ trivial trivial
noncomputable def s55 : FSpec := ⟨[.imm false (.int .i64), .imm false (.slice 23 (.slice 3 (.int .i64))), .imm false (.int .i64)], [.deep false (.slice 3 (.int .i64)), .imm false .bool], fun x => S_spec_HostsOf x.1 x.2.1 x.2.2.1⟩
theorem ok55 : FOk Try.prog 55 s55 := fn_says env55 Try.func55 rfl fun x y h => let ⟨N, hN⟩ := lim_some h; ⟨N, (r55 N x.1 x.2.1 x.2.2.1).trans hN⟩
theorem enters55 : Enters Try.prog 55 := enters Try.func55 (by kernel_rfl) rfl

/-! ## loop.example/g00698/laws.sameLists -/
noncomputable def E56 : Env := { tab := tab, sig := [(46, s46)], clos := [], live := [(0, [0, 1, 12, 13], [])], eqs := [], inl := [] }
set_option maxRecDepth 100000 in
theorem r56 (N : Nat) (a0 : List (List Int)) (a1 : List (List Int)) : runF N E56 Try.f56 [.imm false (.slice 23 (.slice 3 (.int .i64))), .imm false (.slice 23 (.slice 3 (.int .i64)))] [.imm false .bool] (a0, a1, ()) = p_laws_sameLists N a0 a1 := by kernel_rfl
theorem env56 : EnvOk Try.prog E56 := envOk mixed tabOk ⟨⟨enters46, ok46⟩, trivial⟩ trivial trivial
noncomputable def s56 : FSpec := ⟨[.imm false (.slice 23 (.slice 3 (.int .i64))), .imm false (.slice 23 (.slice 3 (.int .i64)))], [.imm false .bool], fun x => S_laws_sameLists x.1 x.2.1⟩
theorem ok56 : FOk Try.prog 56 s56 := fn_says env56 Try.func56 rfl fun x y h => let ⟨N, hN⟩ := lim_some h; ⟨N, (r56 N x.1 x.2.1).trans hN⟩
theorem enters56 : Enters Try.prog 56 := enters Try.func56 (by kernel_rfl) rfl

/-! ## loop.example/g00698/laws.sameVerdicts -/
noncomputable def E57 : Env := { tab := tab, sig := [], clos := [], live := [(0, [0, 1, 12, 13], [])], eqs := [(103, 4)], inl := [] }
set_option maxRecDepth 100000 in
theorem r57 (N : Nat) (a0 : List T5) (a1 : List T5) : runF N E57 Try.f57 [.imm false (.slice 103 (.pair (.int .i64) (.pair (.int .i64) (.pair (.pair (.int .i64) (.pair (.int .i64) .unit)) .unit)))), .imm false (.slice 103 (.pair (.int .i64) (.pair (.int .i64) (.pair (.pair (.int .i64) (.pair (.int .i64) .unit)) .unit))))] [.imm false .bool] (a0, a1, ()) = p_laws_sameVerdicts N a0 a1 := by kernel_rfl
theorem env57 : EnvOk Try.prog E57 := envOk mixed tabOk trivial trivial ⟨eq103, trivial⟩
noncomputable def s57 : FSpec := ⟨[.imm false (.slice 103 (.pair (.int .i64) (.pair (.int .i64) (.pair (.pair (.int .i64) (.pair (.int .i64) .unit)) .unit)))), .imm false (.slice 103 (.pair (.int .i64) (.pair (.int .i64) (.pair (.pair (.int .i64) (.pair (.int .i64) .unit)) .unit))))], [.imm false .bool], fun x => S_laws_sameVerdicts x.1 x.2.1⟩
theorem ok57 : FOk Try.prog 57 s57 := fn_says env57 Try.func57 rfl fun x y h => let ⟨N, hN⟩ := lim_some h; ⟨N, (r57 N x.1 x.2.1).trans hN⟩
theorem enters57 : Enters Try.prog 57 := enters Try.func57 (by kernel_rfl) rfl

/-! ## loop.example/g00698/laws.FnPlaces -/
noncomputable def E9 : Env := { tab := tab, sig := [(44, s44), (45, s45), (40, s40), (38, s38), (46, s46), (47, s47), (48, s48), (49, s49), (50, s50), (51, s51), (52, s52), (35, s35), (33, s33), (53, s53), (14, s14), (11, s11), (23, s23), (22, s22), (54, s54), (55, s55), (56, s56), (57, s57)], clos := [], live := [(0, [1, 5, 6, 7, 8, 9, 13, 100, 101, 102, 121, 122, 123, 124, 125, 126, 127, 128, 131, 132, 133, 134, 135, 138, 139, 140, 151, 152, 153, 154, 155, 156, 157, 172, 173, 174, 175, 176, 177, 178, 179, 180, 192, 193, 194, 195, 273, 274, 275, 278, 279, 280, 281, 284, 285, 286, 289, 290, 291, 292, 295, 296, 297, 300, 301, 302, 303, 306, 307, 308, 311, 312, 313, 314, 318, 319, 320, 331, 332, 333, 334], []), (2, [1, 5, 6, 8, 9, 16, 17, 19, 142, 143, 144, 151, 152, 153, 154, 155, 156, 157, 172, 173, 174, 175, 176, 177, 178, 179, 180, 192, 193, 194, 195, 273, 274, 275, 278, 279, 280, 281, 284, 285, 286, 289, 290, 291, 292, 295, 296, 297, 300, 301, 302, 303, 306, 307, 308, 311, 312, 313, 314, 318, 319, 320, 331, 332, 333, 334], []), (4, [1, 5, 6, 8, 9, 16, 19, 163, 164, 165, 172, 173, 174, 175, 176, 177, 178, 179, 180, 192, 193, 194, 195, 273, 274, 275, 278, 279, 280, 281, 284, 285, 286, 289, 290, 291, 292, 295, 296, 297, 300, 301, 302, 303, 306, 307, 308, 311, 312, 313, 314, 318, 319, 320, 331, 332, 333, 334], [])], eqs := [(77, 2)], inl := [] }
set_option maxRecDepth 100000 in
theorem r9 (N : Nat) (a0 : List Int) (a1 : List Int) : runF N E9 Try.f9 [.imm false (.slice 5 (.int .u8)), .imm false (.slice 5 (.int .u8))] [.imm false .bool] (a0, a1, ()) = p_laws_FnPlaces N a0 a1 := by kernel_rfl
theorem env9 : EnvOk Try.prog E9 := envOk mixed tabOk ⟨⟨enters44, ok44⟩, ⟨enters45, ok45⟩, ⟨enters40, ok40⟩, ⟨enters38, ok38⟩, ⟨enters46, ok46⟩, ⟨enters47, ok47⟩, ⟨enters48, ok48⟩, ⟨enters49, ok49⟩, ⟨enters50, ok50⟩, ⟨enters51, ok51⟩, ⟨enters52, ok52⟩, ⟨enters35, ok35⟩, ⟨enters33, ok33⟩, ⟨enters53, ok53⟩, ⟨enters14, ok14⟩, ⟨enters11, ok11⟩, ⟨enters23, ok23⟩, ⟨enters22, ok22⟩, ⟨enters54, ok54⟩, ⟨enters55, ok55⟩, ⟨enters56, ok56⟩, ⟨enters57, ok57⟩, trivial⟩ trivial ⟨eq77, trivial⟩

end Go.Proofs.Ythijgmbdlkeebaa.Am
