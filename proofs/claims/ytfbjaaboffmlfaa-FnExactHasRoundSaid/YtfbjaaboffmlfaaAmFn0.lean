/- Functions, as they run on data. No condition. -/
import Derived.Test.YtfbjaaboffmlfaaAmTab
import Derived.Test.YtfbjaaboffmlfaaAmQ
set_option linter.unusedVariables false
set_option maxRecDepth 100000
namespace Go.Proofs.Ytfbjaaboffmlfaa.Am
open Go.AM Go.AM.P Go.Proofs
/-! ## loop.example/g00698/laws.szIntS -/
noncomputable def E49 : Env := { tab := tab, sig := [], clos := [], live := [], eqs := [], inl := [] }
set_option maxRecDepth 100000 in
theorem r49 (N : Nat) (a0 : List Int) (a1 : Int) : runF N E49 Try.f49 [.imm false (.slice 3 (.int .i64)), .imm false (.int .i64)] [.imm false (.int .i64)] (a0, a1, ()) = p_laws_szIntS N a0 a1 := by kernel_rfl
theorem env49 : EnvOk Try.prog E49 := envOk mixed tabOk trivial trivial trivial
noncomputable def s49 : FSpec := ⟨[.imm false (.slice 3 (.int .i64)), .imm false (.int .i64)], [.imm false (.int .i64)], fun x => S_laws_szIntS x.1 x.2.1⟩
theorem ok49 : FOk Try.prog 49 s49 := fn_says env49 Try.func49 rfl fun x y h => ⟨0, (r49 0 x.1 x.2.1).trans h⟩
theorem enters49 : Enters Try.prog 49 := enters Try.func49 (by kernel_rfl) rfl

/-! ## loop.example/g00698/laws.szIntSS -/
noncomputable def E20 : Env := { tab := tab, sig := [(49, s49)], clos := [], live := [(0, [0, 1, 5], [])], eqs := [], inl := [] }
set_option maxRecDepth 100000 in
theorem r20 (N : Nat) (a0 : List (List Int)) (a1 : Int) : runF N E20 Try.f20 [.imm false (.slice 29 (.slice 3 (.int .i64))), .imm false (.int .i64)] [.imm false (.int .i64)] (a0, a1, ()) = p_laws_szIntSS N a0 a1 := by kernel_rfl
theorem env20 : EnvOk Try.prog E20 := envOk mixed tabOk ⟨⟨enters49, ok49⟩, trivial⟩ trivial trivial
noncomputable def s20 : FSpec := ⟨[.imm false (.slice 29 (.slice 3 (.int .i64))), .imm false (.int .i64)], [.imm false (.int .i64)], fun x => S_laws_szIntSS x.1 x.2.1⟩
theorem ok20 : FOk Try.prog 20 s20 := fn_says env20 Try.func20 rfl fun x y h => let ⟨N, hN⟩ := lim_some h; ⟨N, (r20 N x.1 x.2.1).trans hN⟩
theorem enters20 : Enters Try.prog 20 := enters Try.func20 (by kernel_rfl) rfl

/-! ## loop.example/g00698/laws.toIntS -/
noncomputable def E51 : Env := { tab := tab, sig := [], clos := [], live := [(0, [0, 3, 4], [])], eqs := [], inl := [] }
set_option maxRecDepth 100000 in
theorem r51 (N : Nat) (a0 : List Int) : runF N E51 Try.f51 [.imm false (.slice 3 (.int .i64))] [.deep false (.slice 3 (.int .i64))] (a0, ()) = p_laws_toIntS N a0 := by kernel_rfl
theorem env51 : EnvOk Try.prog E51 := envOk mixed tabOk trivial trivial trivial
noncomputable def s51 : FSpec := ⟨[.imm false (.slice 3 (.int .i64))], [.deep false (.slice 3 (.int .i64))], fun x => S_laws_toIntS x.1⟩
theorem ok51 : FOk Try.prog 51 s51 := fn_says env51 Try.func51 rfl fun x y h => let ⟨N, hN⟩ := lim_some h; ⟨N, (r51 N x.1).trans hN⟩
theorem enters51 : Enters Try.prog 51 := enters Try.func51 (by kernel_rfl) rfl

/-! ## loop.example/g00698/laws.toIntSS -/
noncomputable def E22 : Env := { tab := tab, sig := [(51, s51)], clos := [], live := [(0, [0, 3, 4], [])], eqs := [], inl := [] }
set_option maxRecDepth 100000 in
theorem r22 (N : Nat) (a0 : List (List Int)) : runF N E22 Try.f22 [.imm false (.slice 29 (.slice 3 (.int .i64)))] [.deep false (.slice 29 (.slice 3 (.int .i64)))] (a0, ()) = p_laws_toIntSS N a0 := by kernel_rfl
theorem env22 : EnvOk Try.prog E22 := envOk mixed tabOk ⟨⟨enters51, ok51⟩, trivial⟩ trivial trivial
noncomputable def s22 : FSpec := ⟨[.imm false (.slice 29 (.slice 3 (.int .i64)))], [.deep false (.slice 29 (.slice 3 (.int .i64)))], fun x => S_laws_toIntSS x.1⟩
theorem ok22 : FOk Try.prog 22 s22 := fn_says env22 Try.func22 rfl fun x y h => let ⟨N, hN⟩ := lim_some h; ⟨N, (r22 N x.1).trans hN⟩
theorem enters22 : Enters Try.prog 22 := enters Try.func22 (by kernel_rfl) rfl

/-! ## loop.example/g00698/spec.l1In -/
noncomputable def E42 : Env := { tab := tab, sig := [], clos := [], live := [], eqs := [], inl := [] }
set_option maxRecDepth 100000 in
theorem r42 (N : Nat) (a0 : Int) (a1 : Int) (a2 : Int) : runF N E42 Try.f42 [.imm false (.int .i64), .imm false (.int .i64), .imm false (.int .i64)] [.imm false .bool] (a0, a1, a2, ()) = p_spec_l1In N a0 a1 a2 := by kernel_rfl
theorem env42 : EnvOk Try.prog E42 := envOk mixed tabOk trivial trivial trivial
noncomputable def s42 : FSpec := ⟨[.imm false (.int .i64), .imm false (.int .i64), .imm false (.int .i64)], [.imm false .bool], fun x => S_spec_l1In x.1 x.2.1 x.2.2.1⟩
theorem ok42 : FOk Try.prog 42 s42 := fn_says env42 Try.func42 rfl fun x y h => ⟨0, (r42 0 x.1 x.2.1 x.2.2.1).trans h⟩
theorem enters42 : Enters Try.prog 42 := enters Try.func42 (by kernel_rfl) rfl

/-! ## loop.example/g00698/spec.l1All -/
noncomputable def E50 : Env := { tab := tab, sig := [(42, s42)], clos := [], live := [(0, [1, 2, 9, 10, 11], [])], eqs := [], inl := [] }
set_option maxRecDepth 100000 in
theorem r50 (N : Nat) (a0 : List Int) (a1 : Int) (a2 : Int) : runF N E50 Try.f50 [.imm false (.slice 3 (.int .i64)), .imm false (.int .i64), .imm false (.int .i64)] [.imm false .bool] (a0, a1, a2, ()) = p_spec_l1All N a0 a1 a2 := by kernel_rfl
theorem env50 : EnvOk Try.prog E50 := envOk mixed tabOk ⟨⟨enters42, ok42⟩, trivial⟩ trivial trivial
noncomputable def s50 : FSpec := ⟨[.imm false (.slice 3 (.int .i64)), .imm false (.int .i64), .imm false (.int .i64)], [.imm false .bool], fun x => S_spec_l1All x.1 x.2.1 x.2.2.1⟩
theorem ok50 : FOk Try.prog 50 s50 := fn_says env50 Try.func50 rfl fun x y h => let ⟨N, hN⟩ := lim_some h; ⟨N, (r50 N x.1 x.2.1 x.2.2.1).trans hN⟩
theorem enters50 : Enters Try.prog 50 := enters Try.func50 (by kernel_rfl) rfl

/-! ## loop.example/g00698/spec.HasRound -/
noncomputable def E21 : Env := { tab := tab, sig := [(42, s42), (50, s50)], clos := [], live := [(0, [0, 1, 6, 28, 29, 46, 47, 48, 49, 50, 71, 72, 73, 74, 75, 76, 77, 78, 79, 80, 81, 82, 83, 84], []), (2, [0, 1, 6, 36, 37, 38, 46, 47, 48, 49, 50, 71, 72, 73, 74, 75, 76, 77, 78, 79, 80, 81, 82, 83, 84], []), (4, [0, 6, 10, 71, 72, 73, 74, 75, 76, 77, 78, 79, 80, 81, 82, 83, 84], []), (6, [0, 6, 10, 55, 56, 71, 72, 73, 74, 75, 76, 77, 78, 79, 80, 81, 82, 83, 84], []), (8, [0, 6, 10, 11, 12, 55, 56, 63, 64, 65, 71, 72, 73, 74, 75, 76, 77, 78, 79, 80, 81, 82, 83, 84], []), (10, [92, 93, 94], [])], eqs := [], inl := [] }
set_option maxRecDepth 100000 in
theorem r21 (N : Nat) (a0 : List (List Int)) (a1 : Int) : runF N E21 Try.f21 [.imm false (.slice 29 (.slice 3 (.int .i64))), .imm false (.int .i64)] [.imm false .bool, .imm false .bool] (a0, a1, ()) = p_spec_HasRound N a0 a1 := by kernel_rfl
theorem env21 : EnvOk Try.prog E21 := envOk mixed tabOk ⟨⟨enters42, ok42⟩, ⟨enters50, ok50⟩, trivial⟩ trivial trivial
noncomputable def s21 : FSpec := ⟨[.imm false (.slice 29 (.slice 3 (.int .i64))), .imm false (.int .i64)], [.imm false .bool, .imm false .bool], fun x => S_spec_HasRound x.1 x.2.1⟩
theorem ok21 : FOk Try.prog 21 s21 := fn_says env21 Try.func21 rfl fun x y h => let ⟨N, hN⟩ := lim_some h; ⟨N, (r21 N x.1 x.2.1).trans hN⟩
theorem enters21 : Enters Try.prog 21 := enters Try.func21 (by kernel_rfl) rfl

/-! ## loop.example/g00698/impl.within -/
noncomputable def E43 : Env := { tab := tab, sig := [], clos := [], live := [], eqs := [], inl := [] }
set_option maxRecDepth 100000 in
theorem r43 (N : Nat) (a0 : Int) (a1 : Int) (a2 : Int) : runF N E43 Try.f43 [.imm false (.int .i64), .imm false (.int .i64), .imm false (.int .i64)] [.imm false .bool] (a0, a1, a2, ()) = p_impl_within N a0 a1 a2 := by kernel_rfl
theorem env43 : EnvOk Try.prog E43 := envOk mixed tabOk trivial trivial trivial
noncomputable def s43 : FSpec := ⟨[.imm false (.int .i64), .imm false (.int .i64), .imm false (.int .i64)], [.imm false .bool], fun x => S_impl_within x.1 x.2.1 x.2.2.1⟩
theorem ok43 : FOk Try.prog 43 s43 := fn_says env43 Try.func43 rfl fun x y h => ⟨0, (r43 0 x.1 x.2.1 x.2.2.1).trans h⟩
theorem enters43 : Enters Try.prog 43 := enters Try.func43 (by kernel_rfl) rfl

/-! ## slices.IndexFunc[[][]int,[]int] -/
noncomputable def E68 : Env := { tab := tab, sig := [], clos := [], live := [(0, [0, 1, 7, 8], [])], eqs := [], inl := [] }
set_option maxRecDepth 100000 in
theorem r68 (N : Nat) (a0 : List (List Int)) (a1 : (List Int × Unit) → Option Bool) : runF N E68 Try.f68 [.imm false (.slice 29 (.slice 3 (.int .i64))), .clo [(false, (.slice 3 (.int .i64)))] .bool] [.imm false (.int .i64)] (a0, a1, ()) = p_IndexFunc_LLint_Lint N a0 a1 := by kernel_rfl
theorem env68 : EnvOk Try.prog E68 := envOk mixed tabOk trivial trivial trivial
noncomputable def s68 : FSpec := ⟨[.imm false (.slice 29 (.slice 3 (.int .i64))), .clo [(false, (.slice 3 (.int .i64)))] .bool], [.imm false (.int .i64)], fun x => S_IndexFunc_LLint_Lint x.1 x.2.1⟩
theorem ok68 : FOk Try.prog 68 s68 := fn_says env68 Try.func68 rfl fun x y h => let ⟨N, hN⟩ := lim_some h; ⟨N, (r68 N x.1 x.2.1).trans hN⟩
theorem enters68 : Enters Try.prog 68 := enters Try.func68 (by kernel_rfl) rfl

/-! ## slices.ContainsFunc[[][]int,[]int] -/
noncomputable def E52 : Env := { tab := tab, sig := [(68, s68)], clos := [], live := [], eqs := [], inl := [] }
set_option maxRecDepth 100000 in
theorem r52 (N : Nat) (a0 : List (List Int)) (a1 : (List Int × Unit) → Option Bool) : runF N E52 Try.f52 [.imm false (.slice 29 (.slice 3 (.int .i64))), .clo [(false, (.slice 3 (.int .i64)))] .bool] [.imm false .bool] (a0, a1, ()) = p_ContainsFunc_LLint_Lint N a0 a1 := by kernel_rfl
theorem env52 : EnvOk Try.prog E52 := envOk mixed tabOk ⟨⟨enters68, ok68⟩, trivial⟩ trivial trivial
noncomputable def s52 : FSpec := ⟨[.imm false (.slice 29 (.slice 3 (.int .i64))), .clo [(false, (.slice 3 (.int .i64)))] .bool], [.imm false .bool], fun x => S_ContainsFunc_LLint_Lint x.1 x.2.1⟩
theorem ok52 : FOk Try.prog 52 s52 := fn_says env52 Try.func52 rfl fun x y h => ⟨0, (r52 0 x.1 x.2.1).trans h⟩
theorem enters52 : Enters Try.prog 52 := enters Try.func52 (by kernel_rfl) rfl

/-! ## loop.example/g00698/impl.HasRound -/
theorem enters53 : Enters Try.prog 53 := enters Try.func53 (by kernel_rfl) rfl
noncomputable def E23 : Env := { tab := tab, sig := [(43, s43), (52, s52)], clos := [(53, ⟨Try.f53, [(false, (.slice 3 (.int .i64)))], []⟩)], live := [(0, [0, 3, 6, 30, 31, 82, 83, 84, 85, 86, 87, 88, 89, 90, 91, 92, 93, 94, 95, 96, 97], []), (2, [3, 6, 40, 41, 42, 82, 83, 84, 85, 86, 87, 88, 89, 90, 91, 92, 93, 94, 95, 96, 97], []), (4, [3, 6, 57, 58, 82, 83, 84, 85, 86, 87, 88, 89, 90, 91, 92, 93, 94, 95, 96, 97], []), (6, [3, 6, 10, 57, 58, 61, 62, 82, 83, 84, 85, 86, 87, 88, 89, 90, 91, 92, 93, 94, 95, 96, 97], []), (8, [3, 6, 10, 11, 57, 58, 61, 62, 65, 66, 82, 83, 84, 85, 86, 87, 88, 89, 90, 91, 92, 93, 94, 95, 96, 97], []), (10, [6, 103, 104], [])], eqs := [], inl := [] }
set_option maxRecDepth 100000 in
theorem r23 (N : Nat) (a0 : List (List Int)) (a1 : Int) : runF N E23 Try.f23 [.imm false (.slice 29 (.slice 3 (.int .i64))), .imm false (.int .i64)] [.imm false .bool, .imm false .bool] (a0, a1, ()) = p_impl_HasRound N a0 a1 := by kernel_rfl
theorem env23 : EnvOk Try.prog E23 := envOk mixed tabOk ⟨⟨enters43, ok43⟩, ⟨enters52, ok52⟩, trivial⟩ ⟨⟨Try.func53, enters53⟩, trivial⟩ trivial
noncomputable def s23 : FSpec := ⟨[.imm false (.slice 29 (.slice 3 (.int .i64))), .imm false (.int .i64)], [.imm false .bool, .imm false .bool], fun x => S_impl_HasRound x.1 x.2.1⟩
theorem ok23 : FOk Try.prog 23 s23 := fn_says env23 Try.func23 rfl fun x y h => let ⟨N, hN⟩ := lim_some h; ⟨N, (r23 N x.1 x.2.1).trans hN⟩
theorem enters23 : Enters Try.prog 23 := enters Try.func23 (by kernel_rfl) rfl

/-! ## loop.example/g00698/laws.eqIntS -/
noncomputable def E38 : Env := { tab := tab, sig := [], clos := [], live := [(0, [0, 1, 5], [])], eqs := [], inl := [] }
set_option maxRecDepth 100000 in
theorem r38 (N : Nat) (a0 : List Int) (a1 : List Int) : runF N E38 Try.f38 [.imm false (.slice 3 (.int .i64)), .imm false (.slice 3 (.int .i64))] [.imm false .bool] (a0, a1, ()) = p_laws_eqIntS N a0 a1 := by kernel_rfl
theorem env38 : EnvOk Try.prog E38 := envOk mixed tabOk trivial trivial trivial
noncomputable def s38 : FSpec := ⟨[.imm false (.slice 3 (.int .i64)), .imm false (.slice 3 (.int .i64))], [.imm false .bool], fun x => S_laws_eqIntS x.1 x.2.1⟩
theorem ok38 : FOk Try.prog 38 s38 := fn_says env38 Try.func38 rfl fun x y h => let ⟨N, hN⟩ := lim_some h; ⟨N, (r38 N x.1 x.2.1).trans hN⟩
theorem enters38 : Enters Try.prog 38 := enters Try.func38 (by kernel_rfl) rfl

/-! ## loop.example/g00698/laws.eqIntSS -/
noncomputable def E24 : Env := { tab := tab, sig := [(38, s38)], clos := [], live := [(0, [0, 1, 5], [])], eqs := [], inl := [] }
set_option maxRecDepth 100000 in
theorem r24 (N : Nat) (a0 : List (List Int)) (a1 : List (List Int)) : runF N E24 Try.f24 [.imm false (.slice 29 (.slice 3 (.int .i64))), .imm false (.slice 29 (.slice 3 (.int .i64)))] [.imm false .bool] (a0, a1, ()) = p_laws_eqIntSS N a0 a1 := by kernel_rfl
theorem env24 : EnvOk Try.prog E24 := envOk mixed tabOk ⟨⟨enters38, ok38⟩, trivial⟩ trivial trivial
noncomputable def s24 : FSpec := ⟨[.imm false (.slice 29 (.slice 3 (.int .i64))), .imm false (.slice 29 (.slice 3 (.int .i64)))], [.imm false .bool], fun x => S_laws_eqIntSS x.1 x.2.1⟩
theorem ok24 : FOk Try.prog 24 s24 := fn_says env24 Try.func24 rfl fun x y h => let ⟨N, hN⟩ := lim_some h; ⟨N, (r24 N x.1 x.2.1).trans hN⟩
theorem enters24 : Enters Try.prog 24 := enters Try.func24 (by kernel_rfl) rfl

/-! ## loop.example/g00698/laws.FnExactHasRound -/
noncomputable def E6 : Env := { tab := tab, sig := [(20, s20), (22, s22), (21, s21), (23, s23), (24, s24)], clos := [], live := [], eqs := [], inl := [] }
set_option maxRecDepth 100000 in
theorem r6 (N : Nat) (a0 : List (List Int)) (a1 : Int) : runF N E6 Try.f6 [.imm false (.slice 29 (.slice 3 (.int .i64))), .imm false (.int .i64)] [.imm false .bool] (a0, a1, ()) = p_laws_FnExactHasRound N a0 a1 := by kernel_rfl
theorem env6 : EnvOk Try.prog E6 := envOk mixed tabOk ⟨⟨enters20, ok20⟩, ⟨enters22, ok22⟩, ⟨enters21, ok21⟩, ⟨enters23, ok23⟩, ⟨enters24, ok24⟩, trivial⟩ trivial trivial

end Go.Proofs.Ytfbjaaboffmlfaa.Am
