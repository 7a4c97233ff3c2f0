/- Functions, as they run on data. No condition. -/
import Derived.Test.YtfbjaaboffmlfaaAmTab
import Derived.Test.YtfbjaaboffmlfaaAmPa
set_option linter.unusedVariables false
set_option maxRecDepth 100000
namespace Go.Proofs.Ytfbjaaboffmlfaa.Am
open Go.AM Go.AM.P Go.Proofs
/-! ## loop.example/g00698/spec.IsGroup -/
noncomputable def E44 : Env := { tab := tab, sig := [], clos := [], live := [], eqs := [] }
set_option maxRecDepth 100000 in
theorem r44 (N : Nat) (a0 : Int) : runF N E44 Try.f44 [.imm false (.int .i64)] [.imm false .bool] (a0, ()) = p_spec_IsGroup N a0 := by kernel_rfl
theorem env44 : EnvOk Try.prog E44 := envOk mixed tabOk trivial trivial trivial
noncomputable def s44 : FSpec := ⟨[.imm false (.int .i64)], [.imm false .bool], fun x => S_spec_IsGroup x.1⟩
theorem ok44 : FOk Try.prog 44 s44 := fn_says env44 Try.func44 rfl fun x y h => ⟨0, (r44 0 x.1).trans h⟩
theorem enters44 : Enters Try.prog 44 := enters Try.func44 (by kernel_rfl) rfl

/-! ## loop.example/g00698/spec.l1In -/
noncomputable def E42 : Env := { tab := tab, sig := [], clos := [], live := [], eqs := [] }
set_option maxRecDepth 100000 in
theorem r42 (N : Nat) (a0 : Int) (a1 : Int) (a2 : Int) : runF N E42 Try.f42 [.imm false (.int .i64), .imm false (.int .i64), .imm false (.int .i64)] [.imm false .bool] (a0, a1, a2, ()) = p_spec_l1In N a0 a1 a2 := by kernel_rfl
theorem env42 : EnvOk Try.prog E42 := envOk mixed tabOk trivial trivial trivial
noncomputable def s42 : FSpec := ⟨[.imm false (.int .i64), .imm false (.int .i64), .imm false (.int .i64)], [.imm false .bool], fun x => S_spec_l1In x.1 x.2.1 x.2.2.1⟩
theorem ok42 : FOk Try.prog 42 s42 := fn_says env42 Try.func42 rfl fun x y h => ⟨0, (r42 0 x.1 x.2.1 x.2.2.1).trans h⟩
theorem enters42 : Enters Try.prog 42 := enters Try.func42 (by kernel_rfl) rfl

/-! ## loop.example/g00698/spec.NewWatch -/
noncomputable def E15 : Env := { tab := tab, sig := [(44, s44), (42, s42)], clos := [], live := [], eqs := [] }
set_option maxRecDepth 100000 in
theorem r15 (N : Nat) (a0 : Int) (a1 : Int) : runF N E15 Try.f15 [.imm false (.int .i64), .imm false (.int .i64)] [.deep true (.pair (.int .i64) (.pair (.int .i64) (.pair (.slice 29 (.slice 3 (.int .i64))) (.pair (.slice 3 (.int .i64)) .unit)))), .imm false .bool] (a0, a1, ()) = p_spec_NewWatch N a0 a1 := by kernel_rfl
theorem env15 : EnvOk Try.prog E15 := envOk mixed tabOk ⟨⟨enters44, ok44⟩, ⟨enters42, ok42⟩, trivial⟩ trivial trivial
noncomputable def s15 : FSpec := ⟨[.imm false (.int .i64), .imm false (.int .i64)], [.deep true (.pair (.int .i64) (.pair (.int .i64) (.pair (.slice 29 (.slice 3 (.int .i64))) (.pair (.slice 3 (.int .i64)) .unit)))), .imm false .bool], fun x => S_spec_NewWatch x.1 x.2.1⟩
theorem ok15 : FOk Try.prog 15 s15 := fn_says env15 Try.func15 rfl fun x y h => ⟨0, (r15 0 x.1 x.2.1).trans h⟩
theorem enters15 : Enters Try.prog 15 := enters Try.func15 (by kernel_rfl) rfl

/-! ## loop.example/g00698/impl.IsGroup -/
noncomputable def E46 : Env := { tab := tab, sig := [], clos := [], live := [], eqs := [] }
set_option maxRecDepth 100000 in
theorem r46 (N : Nat) (a0 : Int) : runF N E46 Try.f46 [.imm false (.int .i64)] [.imm false .bool] (a0, ()) = p_impl_IsGroup N a0 := by kernel_rfl
theorem env46 : EnvOk Try.prog E46 := envOk mixed tabOk trivial trivial trivial
noncomputable def s46 : FSpec := ⟨[.imm false (.int .i64)], [.imm false .bool], fun x => S_impl_IsGroup x.1⟩
theorem ok46 : FOk Try.prog 46 s46 := fn_says env46 Try.func46 rfl fun x y h => ⟨0, (r46 0 x.1).trans h⟩
theorem enters46 : Enters Try.prog 46 := enters Try.func46 (by kernel_rfl) rfl

/-! ## loop.example/g00698/impl.within -/
noncomputable def E43 : Env := { tab := tab, sig := [], clos := [], live := [], eqs := [] }
set_option maxRecDepth 100000 in
theorem r43 (N : Nat) (a0 : Int) (a1 : Int) (a2 : Int) : runF N E43 Try.f43 [.imm false (.int .i64), .imm false (.int .i64), .imm false (.int .i64)] [.imm false .bool] (a0, a1, a2, ()) = p_impl_within N a0 a1 a2 := by kernel_rfl
theorem env43 : EnvOk Try.prog E43 := envOk mixed tabOk trivial trivial trivial
noncomputable def s43 : FSpec := ⟨[.imm false (.int .i64), .imm false (.int .i64), .imm false (.int .i64)], [.imm false .bool], fun x => S_impl_within x.1 x.2.1 x.2.2.1⟩
theorem ok43 : FOk Try.prog 43 s43 := fn_says env43 Try.func43 rfl fun x y h => ⟨0, (r43 0 x.1 x.2.1 x.2.2.1).trans h⟩
theorem enters43 : Enters Try.prog 43 := enters Try.func43 (by kernel_rfl) rfl

/-! ## loop.example/g00698/impl.NewWatch -/
noncomputable def E16 : Env := { tab := tab, sig := [(46, s46), (43, s43)], clos := [], live := [], eqs := [] }
set_option maxRecDepth 100000 in
theorem r16 (N : Nat) (a0 : Int) (a1 : Int) : runF N E16 Try.f16 [.imm false (.int .i64), .imm false (.int .i64)] [.deep true (.pair (.int .i64) (.pair (.int .i64) (.pair (.slice 29 (.slice 3 (.int .i64))) (.pair (.slice 3 (.int .i64)) .unit)))), .imm false .bool] (a0, a1, ()) = p_impl_NewWatch N a0 a1 := by kernel_rfl
theorem env16 : EnvOk Try.prog E16 := envOk mixed tabOk ⟨⟨enters46, ok46⟩, ⟨enters43, ok43⟩, trivial⟩ trivial trivial
noncomputable def s16 : FSpec := ⟨[.imm false (.int .i64), .imm false (.int .i64)], [.deep true (.pair (.int .i64) (.pair (.int .i64) (.pair (.slice 29 (.slice 3 (.int .i64))) (.pair (.slice 3 (.int .i64)) .unit)))), .imm false .bool], fun x => S_impl_NewWatch x.1 x.2.1⟩
theorem ok16 : FOk Try.prog 16 s16 := fn_says env16 Try.func16 rfl fun x y h => ⟨0, (r16 0 x.1 x.2.1).trans h⟩
theorem enters16 : Enters Try.prog 16 := enters Try.func16 (by kernel_rfl) rfl

/-! ## loop.example/g00698/laws.eqIntS -/
noncomputable def E38 : Env := { tab := tab, sig := [], clos := [], live := [(0, [0, 1, 5])], eqs := [] }
set_option maxRecDepth 100000 in
theorem r38 (N : Nat) (a0 : List Int) (a1 : List Int) : runF N E38 Try.f38 [.imm false (.slice 3 (.int .i64)), .imm false (.slice 3 (.int .i64))] [.imm false .bool] (a0, a1, ()) = p_laws_eqIntS N a0 a1 := by kernel_rfl
theorem env38 : EnvOk Try.prog E38 := envOk mixed tabOk trivial trivial trivial
noncomputable def s38 : FSpec := ⟨[.imm false (.slice 3 (.int .i64)), .imm false (.slice 3 (.int .i64))], [.imm false .bool], fun x => S_laws_eqIntS x.1 x.2.1⟩
theorem ok38 : FOk Try.prog 38 s38 := fn_says env38 Try.func38 rfl fun x y h => let ⟨N, hN⟩ := lim_some h; ⟨N, (r38 N x.1 x.2.1).trans hN⟩
theorem enters38 : Enters Try.prog 38 := enters Try.func38 (by kernel_rfl) rfl

/-! ## loop.example/g00698/laws.eqIntSS -/
noncomputable def E24 : Env := { tab := tab, sig := [(38, s38)], clos := [], live := [(0, [0, 1, 5])], eqs := [] }
set_option maxRecDepth 100000 in
theorem r24 (N : Nat) (a0 : List (List Int)) (a1 : List (List Int)) : runF N E24 Try.f24 [.imm false (.slice 29 (.slice 3 (.int .i64))), .imm false (.slice 29 (.slice 3 (.int .i64)))] [.imm false .bool] (a0, a1, ()) = p_laws_eqIntSS N a0 a1 := by kernel_rfl
theorem env24 : EnvOk Try.prog E24 := envOk mixed tabOk ⟨⟨enters38, ok38⟩, trivial⟩ trivial trivial
noncomputable def s24 : FSpec := ⟨[.imm false (.slice 29 (.slice 3 (.int .i64))), .imm false (.slice 29 (.slice 3 (.int .i64)))], [.imm false .bool], fun x => S_laws_eqIntSS x.1 x.2.1⟩
theorem ok24 : FOk Try.prog 24 s24 := fn_says env24 Try.func24 rfl fun x y h => let ⟨N, hN⟩ := lim_some h; ⟨N, (r24 N x.1 x.2.1).trans hN⟩
theorem enters24 : Enters Try.prog 24 := enters Try.func24 (by kernel_rfl) rfl

/-! ## loop.example/g00698/laws.eqWatch -/
noncomputable def E17 : Env := { tab := tab, sig := [(24, s24), (38, s38)], clos := [], live := [], eqs := [] }
set_option maxRecDepth 100000 in
theorem r17 (N : Nat) (a0 : (Int × (Int × (List (List Int) × (List Int × Unit))))) (a1 : (Int × (Int × (List (List Int) × (List Int × Unit))))) : runF N E17 Try.f17 [.imm true (.pair (.int .i64) (.pair (.int .i64) (.pair (.slice 29 (.slice 3 (.int .i64))) (.pair (.slice 3 (.int .i64)) .unit)))), .imm true (.pair (.int .i64) (.pair (.int .i64) (.pair (.slice 29 (.slice 3 (.int .i64))) (.pair (.slice 3 (.int .i64)) .unit))))] [.imm false .bool] (a0, a1, ()) = p_laws_eqWatch N a0 a1 := by kernel_rfl
theorem env17 : EnvOk Try.prog E17 := envOk mixed tabOk ⟨⟨enters24, ok24⟩, ⟨enters38, ok38⟩, trivial⟩ trivial trivial
noncomputable def s17 : FSpec := ⟨[.imm true (.pair (.int .i64) (.pair (.int .i64) (.pair (.slice 29 (.slice 3 (.int .i64))) (.pair (.slice 3 (.int .i64)) .unit)))), .imm true (.pair (.int .i64) (.pair (.int .i64) (.pair (.slice 29 (.slice 3 (.int .i64))) (.pair (.slice 3 (.int .i64)) .unit))))], [.imm false .bool], fun x => S_laws_eqWatch x.1 x.2.1⟩
theorem ok17 : FOk Try.prog 17 s17 := fn_says env17 Try.func17 rfl fun x y h => ⟨0, (r17 0 x.1 x.2.1).trans h⟩
theorem enters17 : Enters Try.prog 17 := enters Try.func17 (by kernel_rfl) rfl

/-! ## loop.example/g00698/laws.markIntS -/
noncomputable def E40 : Env := { tab := tab, sig := [], clos := [], live := [(0, [0, 1, 5])], eqs := [] }
set_option maxRecDepth 100000 in
theorem r40 (N : Nat) (a0 : List Int) (a1 : Int) : runF N E40 Try.f40 [.mut false (.slice 3 (.int .i64)), .imm false (.int .i64)] [.imm false (.int .i64)] (a0, a1, ()) = p_laws_markIntS N a0 a1 := by kernel_rfl
theorem env40 : EnvOk Try.prog E40 := envOk mixed tabOk trivial trivial trivial
noncomputable def s40 : FSpec := ⟨[.mut false (.slice 3 (.int .i64)), .imm false (.int .i64)], [.imm false (.int .i64)], fun x => S_laws_markIntS x.1 x.2.1⟩
theorem ok40 : FOk Try.prog 40 s40 := fn_says env40 Try.func40 rfl fun x y h => let ⟨N, hN⟩ := lim_some h; ⟨N, (r40 N x.1 x.2.1).trans hN⟩
theorem enters40 : Enters Try.prog 40 := enters Try.func40 (by kernel_rfl) rfl

/-! ## loop.example/g00698/laws.markIntSS -/
noncomputable def E39 : Env := { tab := tab, sig := [(40, s40)], clos := [], live := [(0, [0, 1, 5])], eqs := [] }
set_option maxRecDepth 100000 in
theorem r39 (N : Nat) (a0 : List (List Int)) (a1 : Int) : runF N E39 Try.f39 [.mut false (.slice 29 (.slice 3 (.int .i64))), .imm false (.int .i64)] [.imm false (.int .i64)] (a0, a1, ()) = p_laws_markIntSS N a0 a1 := by kernel_rfl
theorem env39 : EnvOk Try.prog E39 := envOk mixed tabOk ⟨⟨enters40, ok40⟩, trivial⟩ trivial trivial
noncomputable def s39 : FSpec := ⟨[.mut false (.slice 29 (.slice 3 (.int .i64))), .imm false (.int .i64)], [.imm false (.int .i64)], fun x => S_laws_markIntSS x.1 x.2.1⟩
theorem ok39 : FOk Try.prog 39 s39 := fn_says env39 Try.func39 rfl fun x y h => let ⟨N, hN⟩ := lim_some h; ⟨N, (r39 N x.1 x.2.1).trans hN⟩
theorem enters39 : Enters Try.prog 39 := enters Try.func39 (by kernel_rfl) rfl

/-! ## loop.example/g00698/laws.markWatch -/
noncomputable def E18 : Env := { tab := tab, sig := [(39, s39), (40, s40)], clos := [], live := [], eqs := [] }
set_option maxRecDepth 100000 in
theorem r18 (N : Nat) (a0 : (Int × (Int × (List (List Int) × (List Int × Unit))))) (a1 : Int) : runF N E18 Try.f18 [.mut true (.pair (.int .i64) (.pair (.int .i64) (.pair (.slice 29 (.slice 3 (.int .i64))) (.pair (.slice 3 (.int .i64)) .unit)))), .imm false (.int .i64)] [.imm false (.int .i64)] (a0, a1, ()) = p_laws_markWatch N a0 a1 := by kernel_rfl
theorem env18 : EnvOk Try.prog E18 := envOk mixed tabOk ⟨⟨enters39, ok39⟩, ⟨enters40, ok40⟩, trivial⟩ trivial trivial
noncomputable def s18 : FSpec := ⟨[.mut true (.pair (.int .i64) (.pair (.int .i64) (.pair (.slice 29 (.slice 3 (.int .i64))) (.pair (.slice 3 (.int .i64)) .unit)))), .imm false (.int .i64)], [.imm false (.int .i64)], fun x => S_laws_markWatch x.1 x.2.1⟩
theorem ok18 : FOk Try.prog 18 s18 := fn_says env18 Try.func18 rfl fun x y h => ⟨0, (r18 0 x.1 x.2.1).trans h⟩
theorem enters18 : Enters Try.prog 18 := enters Try.func18 (by kernel_rfl) rfl

/-! ## loop.example/g00698/laws.heldIntS -/
noncomputable def E41 : Env := { tab := tab, sig := [], clos := [], live := [(0, [0, 1, 5])], eqs := [] }
set_option maxRecDepth 100000 in
theorem r41 (N : Nat) (a0 : List Int) (a1 : Int) : runF N E41 Try.f41 [.imm false (.slice 3 (.int .i64)), .imm false (.int .i64)] [.imm false (.int .i64)] (a0, a1, ()) = p_laws_heldIntS N a0 a1 := by kernel_rfl
theorem env41 : EnvOk Try.prog E41 := envOk mixed tabOk trivial trivial trivial
noncomputable def s41 : FSpec := ⟨[.imm false (.slice 3 (.int .i64)), .imm false (.int .i64)], [.imm false (.int .i64)], fun x => S_laws_heldIntS x.1 x.2.1⟩
theorem ok41 : FOk Try.prog 41 s41 := fn_says env41 Try.func41 rfl fun x y h => let ⟨N, hN⟩ := lim_some h; ⟨N, (r41 N x.1 x.2.1).trans hN⟩
theorem enters41 : Enters Try.prog 41 := enters Try.func41 (by kernel_rfl) rfl

/-! ## loop.example/g00698/laws.heldIntSS -/
noncomputable def E48 : Env := { tab := tab, sig := [(41, s41)], clos := [], live := [(0, [0, 1, 5])], eqs := [] }
set_option maxRecDepth 100000 in
theorem r48 (N : Nat) (a0 : List (List Int)) (a1 : Int) : runF N E48 Try.f48 [.imm false (.slice 29 (.slice 3 (.int .i64))), .imm false (.int .i64)] [.imm false (.int .i64)] (a0, a1, ()) = p_laws_heldIntSS N a0 a1 := by kernel_rfl
theorem env48 : EnvOk Try.prog E48 := envOk mixed tabOk ⟨⟨enters41, ok41⟩, trivial⟩ trivial trivial
noncomputable def s48 : FSpec := ⟨[.imm false (.slice 29 (.slice 3 (.int .i64))), .imm false (.int .i64)], [.imm false (.int .i64)], fun x => S_laws_heldIntSS x.1 x.2.1⟩
theorem ok48 : FOk Try.prog 48 s48 := fn_says env48 Try.func48 rfl fun x y h => let ⟨N, hN⟩ := lim_some h; ⟨N, (r48 N x.1 x.2.1).trans hN⟩
theorem enters48 : Enters Try.prog 48 := enters Try.func48 (by kernel_rfl) rfl

/-! ## loop.example/g00698/laws.heldWatch -/
noncomputable def E19 : Env := { tab := tab, sig := [(48, s48), (41, s41)], clos := [], live := [], eqs := [] }
set_option maxRecDepth 100000 in
theorem r19 (N : Nat) (a0 : (Int × (Int × (List (List Int) × (List Int × Unit))))) (a1 : Int) : runF N E19 Try.f19 [.imm true (.pair (.int .i64) (.pair (.int .i64) (.pair (.slice 29 (.slice 3 (.int .i64))) (.pair (.slice 3 (.int .i64)) .unit)))), .imm false (.int .i64)] [.imm false (.int .i64)] (a0, a1, ()) = p_laws_heldWatch N a0 a1 := by kernel_rfl
theorem env19 : EnvOk Try.prog E19 := envOk mixed tabOk ⟨⟨enters48, ok48⟩, ⟨enters41, ok41⟩, trivial⟩ trivial trivial
noncomputable def s19 : FSpec := ⟨[.imm true (.pair (.int .i64) (.pair (.int .i64) (.pair (.slice 29 (.slice 3 (.int .i64))) (.pair (.slice 3 (.int .i64)) .unit)))), .imm false (.int .i64)], [.imm false (.int .i64)], fun x => S_laws_heldWatch x.1 x.2.1⟩
theorem ok19 : FOk Try.prog 19 s19 := fn_says env19 Try.func19 rfl fun x y h => ⟨0, (r19 0 x.1 x.2.1).trans h⟩
theorem enters19 : Enters Try.prog 19 := enters Try.func19 (by kernel_rfl) rfl

/-! ## loop.example/g00698/laws.FnExactNewWatch -/
noncomputable def E5 : Env := { tab := tab, sig := [(15, s15), (16, s16), (17, s17), (18, s18), (19, s19)], clos := [], live := [], eqs := [] }
set_option maxRecDepth 100000 in
theorem r5 (N : Nat) (a0 : Int) (a1 : Int) : runF N E5 Try.f5 [.imm false (.int .i64), .imm false (.int .i64)] [.imm false .bool] (a0, a1, ()) = p_laws_FnExactNewWatch N a0 a1 := by kernel_rfl
theorem env5 : EnvOk Try.prog E5 := envOk mixed tabOk ⟨⟨enters15, ok15⟩, ⟨enters16, ok16⟩, ⟨enters17, ok17⟩, ⟨enters18, ok18⟩, ⟨enters19, ok19⟩, trivial⟩ trivial trivial

/-! ## loop.example/g00698/laws.szIntS -/
noncomputable def E49 : Env := { tab := tab, sig := [], clos := [], live := [], eqs := [] }
set_option maxRecDepth 100000 in
theorem r49 (N : Nat) (a0 : List Int) (a1 : Int) : runF N E49 Try.f49 [.imm false (.slice 3 (.int .i64)), .imm false (.int .i64)] [.imm false (.int .i64)] (a0, a1, ()) = p_laws_szIntS N a0 a1 := by kernel_rfl
theorem env49 : EnvOk Try.prog E49 := envOk mixed tabOk trivial trivial trivial
noncomputable def s49 : FSpec := ⟨[.imm false (.slice 3 (.int .i64)), .imm false (.int .i64)], [.imm false (.int .i64)], fun x => S_laws_szIntS x.1 x.2.1⟩
theorem ok49 : FOk Try.prog 49 s49 := fn_says env49 Try.func49 rfl fun x y h => ⟨0, (r49 0 x.1 x.2.1).trans h⟩
theorem enters49 : Enters Try.prog 49 := enters Try.func49 (by kernel_rfl) rfl

/-! ## loop.example/g00698/laws.szIntSS -/
noncomputable def E20 : Env := { tab := tab, sig := [(49, s49)], clos := [], live := [(0, [0, 1, 5])], eqs := [] }
set_option maxRecDepth 100000 in
theorem r20 (N : Nat) (a0 : List (List Int)) (a1 : Int) : runF N E20 Try.f20 [.imm false (.slice 29 (.slice 3 (.int .i64))), .imm false (.int .i64)] [.imm false (.int .i64)] (a0, a1, ()) = p_laws_szIntSS N a0 a1 := by kernel_rfl
theorem env20 : EnvOk Try.prog E20 := envOk mixed tabOk ⟨⟨enters49, ok49⟩, trivial⟩ trivial trivial
noncomputable def s20 : FSpec := ⟨[.imm false (.slice 29 (.slice 3 (.int .i64))), .imm false (.int .i64)], [.imm false (.int .i64)], fun x => S_laws_szIntSS x.1 x.2.1⟩
theorem ok20 : FOk Try.prog 20 s20 := fn_says env20 Try.func20 rfl fun x y h => let ⟨N, hN⟩ := lim_some h; ⟨N, (r20 N x.1 x.2.1).trans hN⟩
theorem enters20 : Enters Try.prog 20 := enters Try.func20 (by kernel_rfl) rfl

/-! ## loop.example/g00698/laws.toIntS -/
noncomputable def E51 : Env := { tab := tab, sig := [], clos := [], live := [(0, [0, 3, 4])], eqs := [] }
set_option maxRecDepth 100000 in
theorem r51 (N : Nat) (a0 : List Int) : runF N E51 Try.f51 [.imm false (.slice 3 (.int .i64))] [.deep false (.slice 3 (.int .i64))] (a0, ()) = p_laws_toIntS N a0 := by kernel_rfl
theorem env51 : EnvOk Try.prog E51 := envOk mixed tabOk trivial trivial trivial
noncomputable def s51 : FSpec := ⟨[.imm false (.slice 3 (.int .i64))], [.deep false (.slice 3 (.int .i64))], fun x => S_laws_toIntS x.1⟩
theorem ok51 : FOk Try.prog 51 s51 := fn_says env51 Try.func51 rfl fun x y h => let ⟨N, hN⟩ := lim_some h; ⟨N, (r51 N x.1).trans hN⟩
theorem enters51 : Enters Try.prog 51 := enters Try.func51 (by kernel_rfl) rfl

/-! ## loop.example/g00698/laws.toIntSS -/
noncomputable def E22 : Env := { tab := tab, sig := [(51, s51)], clos := [], live := [(0, [0, 3, 4])], eqs := [] }
set_option maxRecDepth 100000 in
theorem r22 (N : Nat) (a0 : List (List Int)) : runF N E22 Try.f22 [.imm false (.slice 29 (.slice 3 (.int .i64)))] [.deep false (.slice 29 (.slice 3 (.int .i64)))] (a0, ()) = p_laws_toIntSS N a0 := by kernel_rfl
theorem env22 : EnvOk Try.prog E22 := envOk mixed tabOk ⟨⟨enters51, ok51⟩, trivial⟩ trivial trivial
noncomputable def s22 : FSpec := ⟨[.imm false (.slice 29 (.slice 3 (.int .i64)))], [.deep false (.slice 29 (.slice 3 (.int .i64)))], fun x => S_laws_toIntSS x.1⟩
theorem ok22 : FOk Try.prog 22 s22 := fn_says env22 Try.func22 rfl fun x y h => let ⟨N, hN⟩ := lim_some h; ⟨N, (r22 N x.1).trans hN⟩
theorem enters22 : Enters Try.prog 22 := enters Try.func22 (by kernel_rfl) rfl

/-! ## loop.example/g00698/spec.l1All -/
noncomputable def E50 : Env := { tab := tab, sig := [(42, s42)], clos := [], live := [(0, [1, 2, 9, 10, 11])], eqs := [] }
set_option maxRecDepth 100000 in
theorem r50 (N : Nat) (a0 : List Int) (a1 : Int) (a2 : Int) : runF N E50 Try.f50 [.imm false (.slice 3 (.int .i64)), .imm false (.int .i64), .imm false (.int .i64)] [.imm false .bool] (a0, a1, a2, ()) = p_spec_l1All N a0 a1 a2 := by kernel_rfl
theorem env50 : EnvOk Try.prog E50 := envOk mixed tabOk ⟨⟨enters42, ok42⟩, trivial⟩ trivial trivial
noncomputable def s50 : FSpec := ⟨[.imm false (.slice 3 (.int .i64)), .imm false (.int .i64), .imm false (.int .i64)], [.imm false .bool], fun x => S_spec_l1All x.1 x.2.1 x.2.2.1⟩
theorem ok50 : FOk Try.prog 50 s50 := fn_says env50 Try.func50 rfl fun x y h => let ⟨N, hN⟩ := lim_some h; ⟨N, (r50 N x.1 x.2.1 x.2.2.1).trans hN⟩
theorem enters50 : Enters Try.prog 50 := enters Try.func50 (by kernel_rfl) rfl

/-! ## loop.example/g00698/spec.HasRound -/
noncomputable def E21 : Env := { tab := tab, sig := [(42, s42), (50, s50)], clos := [], live := [(0, [0, 1, 6, 28, 29, 46, 47, 48, 49, 50, 71, 72, 73, 74, 75, 76, 77, 78, 79, 80, 81, 82, 83, 84]), (2, [0, 1, 6, 36, 37, 38, 46, 47, 48, 49, 50, 71, 72, 73, 74, 75, 76, 77, 78, 79, 80, 81, 82, 83, 84]), (4, [0, 6, 10, 71, 72, 73, 74, 75, 76, 77, 78, 79, 80, 81, 82, 83, 84]), (6, [0, 6, 10, 55, 56, 71, 72, 73, 74, 75, 76, 77, 78, 79, 80, 81, 82, 83, 84]), (8, [0, 6, 10, 11, 12, 55, 56, 63, 64, 65, 71, 72, 73, 74, 75, 76, 77, 78, 79, 80, 81, 82, 83, 84]), (10, [92, 93, 94])], eqs := [] }
set_option maxRecDepth 100000 in
theorem r21 (N : Nat) (a0 : List (List Int)) (a1 : Int) : runF N E21 Try.f21 [.imm false (.slice 29 (.slice 3 (.int .i64))), .imm false (.int .i64)] [.imm false .bool, .imm false .bool] (a0, a1, ()) = p_spec_HasRound N a0 a1 := by kernel_rfl
theorem env21 : EnvOk Try.prog E21 := envOk mixed tabOk ⟨⟨enters42, ok42⟩, ⟨enters50, ok50⟩, trivial⟩ trivial trivial
noncomputable def s21 : FSpec := ⟨[.imm false (.slice 29 (.slice 3 (.int .i64))), .imm false (.int .i64)], [.imm false .bool, .imm false .bool], fun x => S_spec_HasRound x.1 x.2.1⟩
theorem ok21 : FOk Try.prog 21 s21 := fn_says env21 Try.func21 rfl fun x y h => let ⟨N, hN⟩ := lim_some h; ⟨N, (r21 N x.1 x.2.1).trans hN⟩
theorem enters21 : Enters Try.prog 21 := enters Try.func21 (by kernel_rfl) rfl

/-! ## slices.IndexFunc[[][]int,[]int] -/
noncomputable def E68 : Env := { tab := tab, sig := [], clos := [], live := [(0, [0, 1, 7, 8])], eqs := [] }
set_option maxRecDepth 100000 in
theorem r68 (N : Nat) (a0 : List (List Int)) (a1 : (List Int × Unit) → Option Bool) : runF N E68 Try.f68 [.imm false (.slice 29 (.slice 3 (.int .i64))), .clo [(false, (.slice 3 (.int .i64)))] .bool] [.imm false (.int .i64)] (a0, a1, ()) = p_IndexFunc_LLint_Lint N a0 a1 := by kernel_rfl
theorem env68 : EnvOk Try.prog E68 := envOk mixed tabOk trivial trivial trivial
noncomputable def s68 : FSpec := ⟨[.imm false (.slice 29 (.slice 3 (.int .i64))), .clo [(false, (.slice 3 (.int .i64)))] .bool], [.imm false (.int .i64)], fun x => S_IndexFunc_LLint_Lint x.1 x.2.1⟩
theorem ok68 : FOk Try.prog 68 s68 := fn_says env68 Try.func68 rfl fun x y h => let ⟨N, hN⟩ := lim_some h; ⟨N, (r68 N x.1 x.2.1).trans hN⟩
theorem enters68 : Enters Try.prog 68 := enters Try.func68 (by kernel_rfl) rfl

/-! ## slices.ContainsFunc[[][]int,[]int] -/
noncomputable def E52 : Env := { tab := tab, sig := [(68, s68)], clos := [], live := [], eqs := [] }
set_option maxRecDepth 100000 in
theorem r52 (N : Nat) (a0 : List (List Int)) (a1 : (List Int × Unit) → Option Bool) : runF N E52 Try.f52 [.imm false (.slice 29 (.slice 3 (.int .i64))), .clo [(false, (.slice 3 (.int .i64)))] .bool] [.imm false .bool] (a0, a1, ()) = p_ContainsFunc_LLint_Lint N a0 a1 := by kernel_rfl
theorem env52 : EnvOk Try.prog E52 := envOk mixed tabOk ⟨⟨enters68, ok68⟩, trivial⟩ trivial trivial
noncomputable def s52 : FSpec := ⟨[.imm false (.slice 29 (.slice 3 (.int .i64))), .clo [(false, (.slice 3 (.int .i64)))] .bool], [.imm false .bool], fun x => S_ContainsFunc_LLint_Lint x.1 x.2.1⟩
theorem ok52 : FOk Try.prog 52 s52 := fn_says env52 Try.func52 rfl fun x y h => ⟨0, (r52 0 x.1 x.2.1).trans h⟩
theorem enters52 : Enters Try.prog 52 := enters Try.func52 (by kernel_rfl) rfl

/-! ## loop.example/g00698/spec.l1Rising -/
noncomputable def E69 : Env := { tab := tab, sig := [(42, s42)], clos := [], live := [(0, [0, 1, 2, 9, 10, 11, 22, 23, 24, 25, 26, 27, 28, 29, 30, 31, 32])], eqs := [] }
set_option maxRecDepth 100000 in
theorem r69 (N : Nat) (a0 : List Int) (a1 : Int) (a2 : Int) : runF N E69 Try.f69 [.imm false (.slice 3 (.int .i64)), .imm false (.int .i64), .imm false (.int .i64)] [.imm false .bool] (a0, a1, a2, ()) = p_spec_l1Rising N a0 a1 a2 := by kernel_rfl
theorem env69 : EnvOk Try.prog E69 := envOk mixed tabOk ⟨⟨enters42, ok42⟩, trivial⟩ trivial trivial
noncomputable def s69 : FSpec := ⟨[.imm false (.slice 3 (.int .i64)), .imm false (.int .i64), .imm false (.int .i64)], [.imm false .bool], fun x => S_spec_l1Rising x.1 x.2.1 x.2.2.1⟩
theorem ok69 : FOk Try.prog 69 s69 := fn_says env69 Try.func69 rfl fun x y h => let ⟨N, hN⟩ := lim_some h; ⟨N, (r69 N x.1 x.2.1 x.2.2.1).trans hN⟩
theorem enters69 : Enters Try.prog 69 := enters Try.func69 (by kernel_rfl) rfl

/-! ## loop.example/g00698/spec.l16Keeps -/
noncomputable def E54 : Env := { tab := tab, sig := [(69, s69)], clos := [], live := [], eqs := [] }
set_option maxRecDepth 100000 in
theorem r54 (N : Nat) (a0 : List Int) : runF N E54 Try.f54 [.imm false (.slice 3 (.int .i64))] [.imm false .bool] (a0, ()) = p_spec_l16Keeps N a0 := by kernel_rfl
theorem env54 : EnvOk Try.prog E54 := envOk mixed tabOk ⟨⟨enters69, ok69⟩, trivial⟩ trivial trivial
noncomputable def s54 : FSpec := ⟨[.imm false (.slice 3 (.int .i64))], [.imm false .bool], fun x => S_spec_l16Keeps x.1⟩
theorem ok54 : FOk Try.prog 54 s54 := fn_says env54 Try.func54 rfl fun x y h => ⟨0, (r54 0 x.1).trans h⟩
theorem enters54 : Enters Try.prog 54 := enters Try.func54 (by kernel_rfl) rfl

/-! ## loop.example/g00698/spec.l1Has -/
noncomputable def E55 : Env := { tab := tab, sig := [], clos := [], live := [(0, [1, 7, 8, 9])], eqs := [] }
set_option maxRecDepth 100000 in
theorem r55 (N : Nat) (a0 : List Int) (a1 : Int) : runF N E55 Try.f55 [.imm false (.slice 3 (.int .i64)), .imm false (.int .i64)] [.imm false .bool] (a0, a1, ()) = p_spec_l1Has N a0 a1 := by kernel_rfl
theorem env55 : EnvOk Try.prog E55 := envOk mixed tabOk trivial trivial trivial
noncomputable def s55 : FSpec := ⟨[.imm false (.slice 3 (.int .i64)), .imm false (.int .i64)], [.imm false .bool], fun x => S_spec_l1Has x.1 x.2.1⟩
theorem ok55 : FOk Try.prog 55 s55 := fn_says env55 Try.func55 rfl fun x y h => let ⟨N, hN⟩ := lim_some h; ⟨N, (r55 N x.1 x.2.1).trans hN⟩
theorem enters55 : Enters Try.prog 55 := enters Try.func55 (by kernel_rfl) rfl

/-! ## loop.example/g00698/spec.GoodPlaces -/
noncomputable def E25 : Env := { tab := tab, sig := [(44, s44), (54, s54), (55, s55)], clos := [], live := [(0, [1, 5, 33, 34, 35]), (2, [1, 5, 6, 22, 23, 24, 33, 34, 35])], eqs := [] }
set_option maxRecDepth 100000 in
theorem r25 (N : Nat) (a0 : Int) (a1 : List (List Int)) : runF N E25 Try.f25 [.imm false (.int .i64), .imm false (.slice 29 (.slice 3 (.int .i64)))] [.imm false .bool] (a0, a1, ()) = p_spec_GoodPlaces N a0 a1 := by kernel_rfl
theorem env25 : EnvOk Try.prog E25 := envOk mixed tabOk ⟨⟨enters44, ok44⟩, ⟨enters54, ok54⟩, ⟨enters55, ok55⟩, trivial⟩ trivial trivial
noncomputable def s25 : FSpec := ⟨[.imm false (.int .i64), .imm false (.slice 29 (.slice 3 (.int .i64)))], [.imm false .bool], fun x => S_spec_GoodPlaces x.1 x.2.1⟩
theorem ok25 : FOk Try.prog 25 s25 := fn_says env25 Try.func25 rfl fun x y h => let ⟨N, hN⟩ := lim_some h; ⟨N, (r25 N x.1 x.2.1).trans hN⟩
theorem enters25 : Enters Try.prog 25 := enters Try.func25 (by kernel_rfl) rfl

/-! ## loop.example/g00698/impl.rise -/
noncomputable def E70 : Env := { tab := tab, sig := [], clos := [], live := [(0, [0, 3])], eqs := [] }
set_option maxRecDepth 100000 in
theorem r70 (N : Nat) (a0 : List Int) : runF N E70 Try.f70 [.imm false (.slice 3 (.int .i64))] [.imm false .bool] (a0, ()) = p_impl_rise N a0 := by kernel_rfl
theorem env70 : EnvOk Try.prog E70 := envOk mixed tabOk trivial trivial trivial
noncomputable def s70 : FSpec := ⟨[.imm false (.slice 3 (.int .i64))], [.imm false .bool], fun x => S_impl_rise x.1⟩
theorem ok70 : FOk Try.prog 70 s70 := fn_says env70 Try.func70 rfl fun x y h => let ⟨N, hN⟩ := lim_some h; ⟨N, (r70 N x.1).trans hN⟩
theorem enters70 : Enters Try.prog 70 := enters Try.func70 (by kernel_rfl) rfl

/-! ## slices.IndexFunc[[]int,int] -/
noncomputable def E75 : Env := { tab := tab, sig := [], clos := [], live := [(0, [0, 1, 7, 8])], eqs := [] }
set_option maxRecDepth 100000 in
theorem r75 (N : Nat) (a0 : List Int) (a1 : (Int × Unit) → Option Bool) : runF N E75 Try.f75 [.imm false (.slice 3 (.int .i64)), .clo [(false, (.int .i64))] .bool] [.imm false (.int .i64)] (a0, a1, ()) = p_IndexFunc_Lint_int N a0 a1 := by kernel_rfl
theorem env75 : EnvOk Try.prog E75 := envOk mixed tabOk trivial trivial trivial
noncomputable def s75 : FSpec := ⟨[.imm false (.slice 3 (.int .i64)), .clo [(false, (.int .i64))] .bool], [.imm false (.int .i64)], fun x => S_IndexFunc_Lint_int x.1 x.2.1⟩
theorem ok75 : FOk Try.prog 75 s75 := fn_says env75 Try.func75 rfl fun x y h => let ⟨N, hN⟩ := lim_some h; ⟨N, (r75 N x.1 x.2.1).trans hN⟩
theorem enters75 : Enters Try.prog 75 := enters Try.func75 (by kernel_rfl) rfl

/-! ## slices.ContainsFunc[[]int,int] -/
noncomputable def E61 : Env := { tab := tab, sig := [(75, s75)], clos := [], live := [], eqs := [] }
set_option maxRecDepth 100000 in
theorem r61 (N : Nat) (a0 : List Int) (a1 : (Int × Unit) → Option Bool) : runF N E61 Try.f61 [.imm false (.slice 3 (.int .i64)), .clo [(false, (.int .i64))] .bool] [.imm false .bool] (a0, a1, ()) = p_ContainsFunc_Lint_int N a0 a1 := by kernel_rfl
theorem env61 : EnvOk Try.prog E61 := envOk mixed tabOk ⟨⟨enters75, ok75⟩, trivial⟩ trivial trivial
noncomputable def s61 : FSpec := ⟨[.imm false (.slice 3 (.int .i64)), .clo [(false, (.int .i64))] .bool], [.imm false .bool], fun x => S_ContainsFunc_Lint_int x.1 x.2.1⟩
theorem ok61 : FOk Try.prog 61 s61 := fn_says env61 Try.func61 rfl fun x y h => ⟨0, (r61 0 x.1 x.2.1).trans h⟩
theorem enters61 : Enters Try.prog 61 := enters Try.func61 (by kernel_rfl) rfl

/-! ## loop.example/g00698/impl.areMembers -/
theorem enters71 : Enters Try.prog 71 := enters Try.func71 (by kernel_rfl) rfl
noncomputable def E57 : Env := { tab := tab, sig := [(70, s70), (61, s61), (43, s43)], clos := [(71, ⟨Try.f71, [(false, (.int .i64))]⟩)], live := [], eqs := [] }
set_option maxRecDepth 100000 in
theorem r57 (N : Nat) (a0 : Int) (a1 : List Int) : runF N E57 Try.f57 [.imm false (.int .i64), .imm false (.slice 3 (.int .i64))] [.imm false .bool] (a0, a1, ()) = p_impl_areMembers N a0 a1 := by kernel_rfl
theorem env57 : EnvOk Try.prog E57 := envOk mixed tabOk ⟨⟨enters70, ok70⟩, ⟨enters61, ok61⟩, ⟨enters43, ok43⟩, trivial⟩ ⟨⟨Try.func71, enters71⟩, trivial⟩ trivial
noncomputable def s57 : FSpec := ⟨[.imm false (.int .i64), .imm false (.slice 3 (.int .i64))], [.imm false .bool], fun x => S_impl_areMembers x.1 x.2.1⟩
theorem ok57 : FOk Try.prog 57 s57 := fn_says env57 Try.func57 rfl fun x y h => ⟨0, (r57 0 x.1 x.2.1).trans h⟩
theorem enters57 : Enters Try.prog 57 := enters Try.func57 (by kernel_rfl) rfl

/-! ## slices.Index[[]int,int] -/
noncomputable def E79 : Env := { tab := tab, sig := [], clos := [], live := [(0, [0, 1, 7, 8])], eqs := [] }
set_option maxRecDepth 100000 in
theorem r79 (N : Nat) (a0 : List Int) (a1 : Int) : runF N E79 Try.f79 [.imm false (.slice 3 (.int .i64)), .imm false (.int .i64)] [.imm false (.int .i64)] (a0, a1, ()) = p_Index_Lint_int N a0 a1 := by kernel_rfl
theorem env79 : EnvOk Try.prog E79 := envOk mixed tabOk trivial trivial trivial
noncomputable def s79 : FSpec := ⟨[.imm false (.slice 3 (.int .i64)), .imm false (.int .i64)], [.imm false (.int .i64)], fun x => S_Index_Lint_int x.1 x.2.1⟩
theorem ok79 : FOk Try.prog 79 s79 := fn_says env79 Try.func79 rfl fun x y h => let ⟨N, hN⟩ := lim_some h; ⟨N, (r79 N x.1 x.2.1).trans hN⟩
theorem enters79 : Enters Try.prog 79 := enters Try.func79 (by kernel_rfl) rfl

/-! ## slices.Contains[[]int,int] -/
noncomputable def E72 : Env := { tab := tab, sig := [(79, s79)], clos := [], live := [], eqs := [] }
set_option maxRecDepth 100000 in
theorem r72 (N : Nat) (a0 : List Int) (a1 : Int) : runF N E72 Try.f72 [.imm false (.slice 3 (.int .i64)), .imm false (.int .i64)] [.imm false .bool] (a0, a1, ()) = p_Contains_Lint_int N a0 a1 := by kernel_rfl
theorem env72 : EnvOk Try.prog E72 := envOk mixed tabOk ⟨⟨enters79, ok79⟩, trivial⟩ trivial trivial
noncomputable def s72 : FSpec := ⟨[.imm false (.slice 3 (.int .i64)), .imm false (.int .i64)], [.imm false .bool], fun x => S_Contains_Lint_int x.1 x.2.1⟩
theorem ok72 : FOk Try.prog 72 s72 := fn_says env72 Try.func72 rfl fun x y h => ⟨0, (r72 0 x.1 x.2.1).trans h⟩
theorem enters72 : Enters Try.prog 72 := enters Try.func72 (by kernel_rfl) rfl

/-! ## loop.example/g00698/impl.hosts -/
noncomputable def E58 : Env := { tab := tab, sig := [(72, s72)], clos := [], live := [(0, [1, 5, 9, 10, 11])], eqs := [] }
set_option maxRecDepth 100000 in
theorem r58 (N : Nat) (a0 : List (List Int)) (a1 : Int) : runF N E58 Try.f58 [.imm false (.slice 29 (.slice 3 (.int .i64))), .imm false (.int .i64)] [.deep false (.slice 3 (.int .i64))] (a0, a1, ()) = p_impl_hosts N a0 a1 := by kernel_rfl
theorem env58 : EnvOk Try.prog E58 := envOk mixed tabOk ⟨⟨enters72, ok72⟩, trivial⟩ trivial trivial
noncomputable def s58 : FSpec := ⟨[.imm false (.slice 29 (.slice 3 (.int .i64))), .imm false (.int .i64)], [.deep false (.slice 3 (.int .i64))], fun x => S_impl_hosts x.1 x.2.1⟩
theorem ok58 : FOk Try.prog 58 s58 := fn_says env58 Try.func58 rfl fun x y h => let ⟨N, hN⟩ := lim_some h; ⟨N, (r58 N x.1 x.2.1).trans hN⟩
theorem enters58 : Enters Try.prog 58 := enters Try.func58 (by kernel_rfl) rfl

/-! ## loop.example/g00698/impl.GoodPlaces -/
theorem enters56 : Enters Try.prog 56 := enters Try.func56 (by kernel_rfl) rfl
noncomputable def E26 : Env := { tab := tab, sig := [(46, s46), (52, s52), (57, s57), (58, s58)], clos := [(56, ⟨Try.f56, [(false, (.slice 3 (.int .i64)))]⟩)], live := [(0, [1, 19])], eqs := [] }
set_option maxRecDepth 100000 in
theorem r26 (N : Nat) (a0 : Int) (a1 : List (List Int)) : runF N E26 Try.f26 [.imm false (.int .i64), .imm false (.slice 29 (.slice 3 (.int .i64)))] [.imm false .bool] (a0, a1, ()) = p_impl_GoodPlaces N a0 a1 := by kernel_rfl
theorem env26 : EnvOk Try.prog E26 := envOk mixed tabOk ⟨⟨enters46, ok46⟩, ⟨enters52, ok52⟩, ⟨enters57, ok57⟩, ⟨enters58, ok58⟩, trivial⟩ ⟨⟨Try.func56, enters56⟩, trivial⟩ trivial
noncomputable def s26 : FSpec := ⟨[.imm false (.int .i64), .imm false (.slice 29 (.slice 3 (.int .i64)))], [.imm false .bool], fun x => S_impl_GoodPlaces x.1 x.2.1⟩
theorem ok26 : FOk Try.prog 26 s26 := fn_says env26 Try.func26 rfl fun x y h => let ⟨N, hN⟩ := lim_some h; ⟨N, (r26 N x.1 x.2.1).trans hN⟩
theorem enters26 : Enters Try.prog 26 := enters Try.func26 (by kernel_rfl) rfl

/-! ## loop.example/g00698/laws.FnExactGoodPlaces -/
noncomputable def E7 : Env := { tab := tab, sig := [(20, s20), (22, s22), (25, s25), (26, s26), (24, s24)], clos := [], live := [], eqs := [] }
set_option maxRecDepth 100000 in
theorem r7 (N : Nat) (a0 : Int) (a1 : List (List Int)) : runF N E7 Try.f7 [.imm false (.int .i64), .imm false (.slice 29 (.slice 3 (.int .i64)))] [.imm false .bool] (a0, a1, ()) = p_laws_FnExactGoodPlaces N a0 a1 := by kernel_rfl
theorem env7 : EnvOk Try.prog E7 := envOk mixed tabOk ⟨⟨enters20, ok20⟩, ⟨enters22, ok22⟩, ⟨enters25, ok25⟩, ⟨enters26, ok26⟩, ⟨enters24, ok24⟩, trivial⟩ trivial trivial

/-! ## loop.example/g00698/laws.szWatch -/
noncomputable def E27 : Env := { tab := tab, sig := [(20, s20), (49, s49)], clos := [], live := [], eqs := [] }
set_option maxRecDepth 100000 in
theorem r27 (N : Nat) (a0 : (Int × (Int × (List (List Int) × (List Int × Unit))))) (a1 : Int) : runF N E27 Try.f27 [.imm true (.pair (.int .i64) (.pair (.int .i64) (.pair (.slice 29 (.slice 3 (.int .i64))) (.pair (.slice 3 (.int .i64)) .unit)))), .imm false (.int .i64)] [.imm false (.int .i64)] (a0, a1, ()) = p_laws_szWatch N a0 a1 := by kernel_rfl
theorem env27 : EnvOk Try.prog E27 := envOk mixed tabOk ⟨⟨enters20, ok20⟩, ⟨enters49, ok49⟩, trivial⟩ trivial trivial
noncomputable def s27 : FSpec := ⟨[.imm true (.pair (.int .i64) (.pair (.int .i64) (.pair (.slice 29 (.slice 3 (.int .i64))) (.pair (.slice 3 (.int .i64)) .unit)))), .imm false (.int .i64)], [.imm false (.int .i64)], fun x => S_laws_szWatch x.1 x.2.1⟩
theorem ok27 : FOk Try.prog 27 s27 := fn_says env27 Try.func27 rfl fun x y h => ⟨0, (r27 0 x.1 x.2.1).trans h⟩
theorem enters27 : Enters Try.prog 27 := enters Try.func27 (by kernel_rfl) rfl

/-! ## loop.example/g00698/laws.toWatch -/
noncomputable def E29 : Env := { tab := tab, sig := [(22, s22), (51, s51)], clos := [], live := [], eqs := [] }
set_option maxRecDepth 100000 in
theorem r29 (N : Nat) (a0 : (Int × (Int × (List (List Int) × (List Int × Unit))))) : runF N E29 Try.f29 [.imm true (.pair (.int .i64) (.pair (.int .i64) (.pair (.slice 29 (.slice 3 (.int .i64))) (.pair (.slice 3 (.int .i64)) .unit))))] [.deep true (.pair (.int .i64) (.pair (.int .i64) (.pair (.slice 29 (.slice 3 (.int .i64))) (.pair (.slice 3 (.int .i64)) .unit))))] (a0, ()) = p_laws_toWatch N a0 := by kernel_rfl
theorem env29 : EnvOk Try.prog E29 := envOk mixed tabOk ⟨⟨enters22, ok22⟩, ⟨enters51, ok51⟩, trivial⟩ trivial trivial
noncomputable def s29 : FSpec := ⟨[.imm true (.pair (.int .i64) (.pair (.int .i64) (.pair (.slice 29 (.slice 3 (.int .i64))) (.pair (.slice 3 (.int .i64)) .unit))))], [.deep true (.pair (.int .i64) (.pair (.int .i64) (.pair (.slice 29 (.slice 3 (.int .i64))) (.pair (.slice 3 (.int .i64)) .unit))))], fun x => S_laws_toWatch x.1⟩
theorem ok29 : FOk Try.prog 29 s29 := fn_says env29 Try.func29 rfl fun x y h => ⟨0, (r29 0 x.1).trans h⟩
theorem enters29 : Enters Try.prog 29 := enters Try.func29 (by kernel_rfl) rfl

/-! ## loop.example/g00698/spec.l3Inst -/
noncomputable def E76 : Env := { tab := tab, sig := [(42, s42)], clos := [], live := [], eqs := [] }
set_option maxRecDepth 100000 in
theorem r76 (N : Nat) (a0 : Int) (a1 : Int) (a2 : Int) : runF N E76 Try.f76 [.imm false (.int .i64), .imm false (.int .i64), .imm false (.int .i64)] [.imm false .bool] (a0, a1, a2, ()) = p_spec_l3Inst N a0 a1 a2 := by kernel_rfl
theorem env76 : EnvOk Try.prog E76 := envOk mixed tabOk ⟨⟨enters42, ok42⟩, trivial⟩ trivial trivial
noncomputable def s76 : FSpec := ⟨[.imm false (.int .i64), .imm false (.int .i64), .imm false (.int .i64)], [.imm false .bool], fun x => S_spec_l3Inst x.1 x.2.1 x.2.2.1⟩
theorem ok76 : FOk Try.prog 76 s76 := fn_says env76 Try.func76 rfl fun x y h => ⟨0, (r76 0 x.1 x.2.1 x.2.2.1).trans h⟩
theorem enters76 : Enters Try.prog 76 := enters Try.func76 (by kernel_rfl) rfl

/-! ## loop.example/g00698/spec.l18Done -/
noncomputable def E63 : Env := { tab := tab, sig := [(76, s76)], clos := [], live := [(0, [0, 1, 7, 8, 9, 18, 19, 20, 21, 22, 23, 24, 25, 26, 31, 32, 33, 34, 35, 36, 37, 38, 39, 40, 41, 42, 43, 44, 45, 46, 47, 48, 49, 50, 51, 52, 53, 54, 55, 56, 57, 58, 59, 60, 61, 62, 63, 64, 65, 66, 67])], eqs := [] }
set_option maxRecDepth 100000 in
theorem r63 (N : Nat) (a0 : Int) (a1 : List (List Int)) : runF N E63 Try.f63 [.imm false (.int .i64), .imm false (.slice 29 (.slice 3 (.int .i64)))] [.imm false .bool] (a0, a1, ()) = p_spec_l18Done N a0 a1 := by kernel_rfl
theorem env63 : EnvOk Try.prog E63 := envOk mixed tabOk ⟨⟨enters76, ok76⟩, trivial⟩ trivial trivial
noncomputable def s63 : FSpec := ⟨[.imm false (.int .i64), .imm false (.slice 29 (.slice 3 (.int .i64)))], [.imm false .bool], fun x => S_spec_l18Done x.1 x.2.1⟩
theorem ok63 : FOk Try.prog 63 s63 := fn_says env63 Try.func63 rfl fun x y h => let ⟨N, hN⟩ := lim_some h; ⟨N, (r63 N x.1 x.2.1).trans hN⟩
theorem enters63 : Enters Try.prog 63 := enters Try.func63 (by kernel_rfl) rfl

/-! ## loop.example/g00698/spec.l20Good -/
noncomputable def E59 : Env := { tab := tab, sig := [(44, s44), (42, s42), (63, s63), (50, s50)], clos := [], live := [], eqs := [] }
set_option maxRecDepth 100000 in
theorem r59 (N : Nat) (a0 : (Int × (Int × (List (List Int) × (List Int × Unit))))) : runF N E59 Try.f59 [.imm true (.pair (.int .i64) (.pair (.int .i64) (.pair (.slice 29 (.slice 3 (.int .i64))) (.pair (.slice 3 (.int .i64)) .unit))))] [.imm false .bool] (a0, ()) = p_spec_l20Good N a0 := by kernel_rfl
theorem env59 : EnvOk Try.prog E59 := envOk mixed tabOk ⟨⟨enters44, ok44⟩, ⟨enters42, ok42⟩, ⟨enters63, ok63⟩, ⟨enters50, ok50⟩, trivial⟩ trivial trivial
noncomputable def s59 : FSpec := ⟨[.imm true (.pair (.int .i64) (.pair (.int .i64) (.pair (.slice 29 (.slice 3 (.int .i64))) (.pair (.slice 3 (.int .i64)) .unit))))], [.imm false .bool], fun x => S_spec_l20Good x.1⟩
theorem ok59 : FOk Try.prog 59 s59 := fn_says env59 Try.func59 rfl fun x y h => ⟨0, (r59 0 x.1).trans h⟩
theorem enters59 : Enters Try.prog 59 := enters Try.func59 (by kernel_rfl) rfl

/-! ## loop.example/g00698/spec.GoodWatch -/
noncomputable def E28 : Env := { tab := tab, sig := [(59, s59)], clos := [], live := [], eqs := [] }
set_option maxRecDepth 100000 in
theorem r28 (N : Nat) (a0 : (Int × (Int × (List (List Int) × (List Int × Unit))))) : runF N E28 Try.f28 [.imm true (.pair (.int .i64) (.pair (.int .i64) (.pair (.slice 29 (.slice 3 (.int .i64))) (.pair (.slice 3 (.int .i64)) .unit))))] [.imm false .bool] (a0, ()) = p_spec_GoodWatch N a0 := by kernel_rfl
theorem env28 : EnvOk Try.prog E28 := envOk mixed tabOk ⟨⟨enters59, ok59⟩, trivial⟩ trivial trivial
noncomputable def s28 : FSpec := ⟨[.imm true (.pair (.int .i64) (.pair (.int .i64) (.pair (.slice 29 (.slice 3 (.int .i64))) (.pair (.slice 3 (.int .i64)) .unit))))], [.imm false .bool], fun x => S_spec_GoodWatch x.1⟩
theorem ok28 : FOk Try.prog 28 s28 := fn_says env28 Try.func28 rfl fun x y h => ⟨0, (r28 0 x.1).trans h⟩
theorem enters28 : Enters Try.prog 28 := enters Try.func28 (by kernel_rfl) rfl

/-! ## loop.example/g00698/impl.isInstance -/
noncomputable def E73 : Env := { tab := tab, sig := [(46, s46), (43, s43)], clos := [], live := [], eqs := [] }
set_option maxRecDepth 100000 in
theorem r73 (N : Nat) (a0 : Int) (a1 : Int) (a2 : Int) : runF N E73 Try.f73 [.imm false (.int .i64), .imm false (.int .i64), .imm false (.int .i64)] [.imm false .bool] (a0, a1, a2, ()) = p_impl_isInstance N a0 a1 a2 := by kernel_rfl
theorem env73 : EnvOk Try.prog E73 := envOk mixed tabOk ⟨⟨enters46, ok46⟩, ⟨enters43, ok43⟩, trivial⟩ trivial trivial
noncomputable def s73 : FSpec := ⟨[.imm false (.int .i64), .imm false (.int .i64), .imm false (.int .i64)], [.imm false .bool], fun x => S_impl_isInstance x.1 x.2.1 x.2.2.1⟩
theorem ok73 : FOk Try.prog 73 s73 := fn_says env73 Try.func73 rfl fun x y h => ⟨0, (r73 0 x.1 x.2.1 x.2.2.1).trans h⟩
theorem enters73 : Enters Try.prog 73 := enters Try.func73 (by kernel_rfl) rfl

/-! ## cmp.isNaN[int] -/
noncomputable def E81 : Env := { tab := tab, sig := [], clos := [], live := [], eqs := [] }
set_option maxRecDepth 100000 in
theorem r81 (N : Nat) (a0 : Int) : runF N E81 Try.f81 [.imm false (.int .i64)] [.imm false .bool] (a0, ()) = p_cmp_isNaN_int N a0 := by kernel_rfl
theorem env81 : EnvOk Try.prog E81 := envOk mixed tabOk trivial trivial trivial
noncomputable def s81 : FSpec := ⟨[.imm false (.int .i64)], [.imm false .bool], fun x => S_cmp_isNaN_int x.1⟩
theorem ok81 : FOk Try.prog 81 s81 := fn_says env81 Try.func81 rfl fun x y h => ⟨0, (r81 0 x.1).trans h⟩
theorem enters81 : Enters Try.prog 81 := enters Try.func81 (by kernel_rfl) rfl

/-! ## cmp.Compare[int] -/
noncomputable def E80 : Env := { tab := tab, sig := [(81, s81)], clos := [], live := [], eqs := [] }
set_option maxRecDepth 100000 in
theorem r80 (N : Nat) (a0 : Int) (a1 : Int) : runF N E80 Try.f80 [.imm false (.int .i64), .imm false (.int .i64)] [.imm false (.int .i64)] (a0, a1, ()) = p_cmp_Compare_int N a0 a1 := by kernel_rfl
theorem env80 : EnvOk Try.prog E80 := envOk mixed tabOk ⟨⟨enters81, ok81⟩, trivial⟩ trivial trivial
noncomputable def s80 : FSpec := ⟨[.imm false (.int .i64), .imm false (.int .i64)], [.imm false (.int .i64)], fun x => S_cmp_Compare_int x.1 x.2.1⟩
theorem ok80 : FOk Try.prog 80 s80 := fn_says env80 Try.func80 rfl fun x y h => ⟨0, (r80 0 x.1 x.2.1).trans h⟩
theorem enters80 : Enters Try.prog 80 := enters Try.func80 (by kernel_rfl) rfl

/-! ## slices.Compare[[]int,int] -/
noncomputable def E74 : Env := { tab := tab, sig := [(80, s80)], clos := [], live := [(0, [0, 1, 9, 10, 11])], eqs := [] }
set_option maxRecDepth 100000 in
theorem r74 (N : Nat) (a0 : List Int) (a1 : List Int) : runF N E74 Try.f74 [.imm false (.slice 3 (.int .i64)), .imm false (.slice 3 (.int .i64))] [.imm false (.int .i64)] (a0, a1, ()) = p_Compare_Lint_int N a0 a1 := by kernel_rfl
theorem env74 : EnvOk Try.prog E74 := envOk mixed tabOk ⟨⟨enters80, ok80⟩, trivial⟩ trivial trivial
noncomputable def s74 : FSpec := ⟨[.imm false (.slice 3 (.int .i64)), .imm false (.slice 3 (.int .i64))], [.imm false (.int .i64)], fun x => S_Compare_Lint_int x.1 x.2.1⟩
theorem ok74 : FOk Try.prog 74 s74 := fn_says env74 Try.func74 rfl fun x y h => let ⟨N, hN⟩ := lim_some h; ⟨N, (r74 N x.1 x.2.1).trans hN⟩
theorem enters74 : Enters Try.prog 74 := enters Try.func74 (by kernel_rfl) rfl

/-! ## loop.example/g00698/impl.riseInstances -/
noncomputable def E60 : Env := { tab := tab, sig := [(73, s73), (74, s74)], clos := [], live := [(0, [0, 1, 7, 8, 9, 18, 19, 20, 21, 22, 23, 24, 25, 26, 29, 30, 31, 32, 33, 34, 35, 36, 37, 38, 39, 40])], eqs := [] }
set_option maxRecDepth 100000 in
theorem r60 (N : Nat) (a0 : Int) (a1 : List (List Int)) : runF N E60 Try.f60 [.imm false (.int .i64), .imm false (.slice 29 (.slice 3 (.int .i64)))] [.imm false .bool] (a0, a1, ()) = p_impl_riseInstances N a0 a1 := by kernel_rfl
theorem env60 : EnvOk Try.prog E60 := envOk mixed tabOk ⟨⟨enters73, ok73⟩, ⟨enters74, ok74⟩, trivial⟩ trivial trivial
noncomputable def s60 : FSpec := ⟨[.imm false (.int .i64), .imm false (.slice 29 (.slice 3 (.int .i64)))], [.imm false .bool], fun x => S_impl_riseInstances x.1 x.2.1⟩
theorem ok60 : FOk Try.prog 60 s60 := fn_says env60 Try.func60 rfl fun x y h => let ⟨N, hN⟩ := lim_some h; ⟨N, (r60 N x.1 x.2.1).trans hN⟩
theorem enters60 : Enters Try.prog 60 := enters Try.func60 (by kernel_rfl) rfl

/-! ## loop.example/g00698/impl.GoodWatch -/
theorem enters62 : Enters Try.prog 62 := enters Try.func62 (by kernel_rfl) rfl
noncomputable def E30 : Env := { tab := tab, sig := [(46, s46), (43, s43), (60, s60), (61, s61)], clos := [(62, ⟨Try.f62, [(false, (.int .i64))]⟩)], live := [], eqs := [] }
set_option maxRecDepth 100000 in
theorem r30 (N : Nat) (a0 : (Int × (Int × (List (List Int) × (List Int × Unit))))) : runF N E30 Try.f30 [.imm true (.pair (.int .i64) (.pair (.int .i64) (.pair (.slice 29 (.slice 3 (.int .i64))) (.pair (.slice 3 (.int .i64)) .unit))))] [.imm false .bool] (a0, ()) = p_impl_GoodWatch N a0 := by kernel_rfl
theorem env30 : EnvOk Try.prog E30 := envOk mixed tabOk ⟨⟨enters46, ok46⟩, ⟨enters43, ok43⟩, ⟨enters60, ok60⟩, ⟨enters61, ok61⟩, trivial⟩ ⟨⟨Try.func62, enters62⟩, trivial⟩ trivial
noncomputable def s30 : FSpec := ⟨[.imm true (.pair (.int .i64) (.pair (.int .i64) (.pair (.slice 29 (.slice 3 (.int .i64))) (.pair (.slice 3 (.int .i64)) .unit))))], [.imm false .bool], fun x => S_impl_GoodWatch x.1⟩
theorem ok30 : FOk Try.prog 30 s30 := fn_says env30 Try.func30 rfl fun x y h => ⟨0, (r30 0 x.1).trans h⟩
theorem enters30 : Enters Try.prog 30 := enters Try.func30 (by kernel_rfl) rfl

/-! ## loop.example/g00698/laws.FnExactGoodWatch -/
noncomputable def E8 : Env := { tab := tab, sig := [(27, s27), (29, s29), (28, s28), (30, s30), (17, s17)], clos := [], live := [], eqs := [] }
set_option maxRecDepth 100000 in
theorem r8 (N : Nat) (a0 : (Int × (Int × (List (List Int) × (List Int × Unit))))) : runF N E8 Try.f8 [.imm true (.pair (.int .i64) (.pair (.int .i64) (.pair (.slice 29 (.slice 3 (.int .i64))) (.pair (.slice 3 (.int .i64)) .unit))))] [.imm false .bool] (a0, ()) = p_laws_FnExactGoodWatch N a0 := by kernel_rfl
theorem env8 : EnvOk Try.prog E8 := envOk mixed tabOk ⟨⟨enters27, ok27⟩, ⟨enters29, ok29⟩, ⟨enters28, ok28⟩, ⟨enters30, ok30⟩, ⟨enters17, ok17⟩, trivial⟩ trivial trivial

/-! ## loop.example/g00698/laws.szCheck -/
noncomputable def E31 : Env := { tab := tab, sig := [(20, s20), (49, s49)], clos := [], live := [], eqs := [] }
set_option maxRecDepth 100000 in
theorem r31 (N : Nat) (a0 : (List (List Int) × (List Int × Unit))) (a1 : Int) : runF N E31 Try.f31 [.imm true (.pair (.slice 29 (.slice 3 (.int .i64))) (.pair (.slice 3 (.int .i64)) .unit)), .imm false (.int .i64)] [.imm false (.int .i64)] (a0, a1, ()) = p_laws_szCheck N a0 a1 := by kernel_rfl
theorem env31 : EnvOk Try.prog E31 := envOk mixed tabOk ⟨⟨enters20, ok20⟩, ⟨enters49, ok49⟩, trivial⟩ trivial trivial
noncomputable def s31 : FSpec := ⟨[.imm true (.pair (.slice 29 (.slice 3 (.int .i64))) (.pair (.slice 3 (.int .i64)) .unit)), .imm false (.int .i64)], [.imm false (.int .i64)], fun x => S_laws_szCheck x.1 x.2.1⟩
theorem ok31 : FOk Try.prog 31 s31 := fn_says env31 Try.func31 rfl fun x y h => ⟨0, (r31 0 x.1 x.2.1).trans h⟩
theorem enters31 : Enters Try.prog 31 := enters Try.func31 (by kernel_rfl) rfl

/-! ## loop.example/g00698/laws.toCheck -/
noncomputable def E33 : Env := { tab := tab, sig := [(22, s22), (51, s51)], clos := [], live := [], eqs := [] }
set_option maxRecDepth 100000 in
theorem r33 (N : Nat) (a0 : (List (List Int) × (List Int × Unit))) : runF N E33 Try.f33 [.imm true (.pair (.slice 29 (.slice 3 (.int .i64))) (.pair (.slice 3 (.int .i64)) .unit))] [.deep true (.pair (.slice 29 (.slice 3 (.int .i64))) (.pair (.slice 3 (.int .i64)) .unit))] (a0, ()) = p_laws_toCheck N a0 := by kernel_rfl
theorem env33 : EnvOk Try.prog E33 := envOk mixed tabOk ⟨⟨enters22, ok22⟩, ⟨enters51, ok51⟩, trivial⟩ trivial trivial
noncomputable def s33 : FSpec := ⟨[.imm true (.pair (.slice 29 (.slice 3 (.int .i64))) (.pair (.slice 3 (.int .i64)) .unit))], [.deep true (.pair (.slice 29 (.slice 3 (.int .i64))) (.pair (.slice 3 (.int .i64)) .unit))], fun x => S_laws_toCheck x.1⟩
theorem ok33 : FOk Try.prog 33 s33 := fn_says env33 Try.func33 rfl fun x y h => ⟨0, (r33 0 x.1).trans h⟩
theorem enters33 : Enters Try.prog 33 := enters Try.func33 (by kernel_rfl) rfl

/-! ## loop.example/g00698/spec.GoodSums -/
noncomputable def E64 : Env := { tab := tab, sig := [(42, s42)], clos := [], live := [(0, [0, 3, 6, 7, 8, 23, 24])], eqs := [] }
set_option maxRecDepth 100000 in
theorem r64 (N : Nat) (a0 : List Int) : runF N E64 Try.f64 [.imm false (.slice 3 (.int .i64))] [.imm false .bool] (a0, ()) = p_spec_GoodSums N a0 := by kernel_rfl
theorem env64 : EnvOk Try.prog E64 := envOk mixed tabOk ⟨⟨enters42, ok42⟩, trivial⟩ trivial trivial
noncomputable def s64 : FSpec := ⟨[.imm false (.slice 3 (.int .i64))], [.imm false .bool], fun x => S_spec_GoodSums x.1⟩
theorem ok64 : FOk Try.prog 64 s64 := fn_says env64 Try.func64 rfl fun x y h => let ⟨N, hN⟩ := lim_some h; ⟨N, (r64 N x.1).trans hN⟩
theorem enters64 : Enters Try.prog 64 := enters Try.func64 (by kernel_rfl) rfl

/-! ## loop.example/g00698/spec.GoodCheck -/
noncomputable def E32 : Env := { tab := tab, sig := [(44, s44), (63, s63), (64, s64)], clos := [], live := [], eqs := [] }
set_option maxRecDepth 100000 in
theorem r32 (N : Nat) (a0 : Int) (a1 : (List (List Int) × (List Int × Unit))) : runF N E32 Try.f32 [.imm false (.int .i64), .imm true (.pair (.slice 29 (.slice 3 (.int .i64))) (.pair (.slice 3 (.int .i64)) .unit))] [.imm false .bool] (a0, a1, ()) = p_spec_GoodCheck N a0 a1 := by kernel_rfl
theorem env32 : EnvOk Try.prog E32 := envOk mixed tabOk ⟨⟨enters44, ok44⟩, ⟨enters63, ok63⟩, ⟨enters64, ok64⟩, trivial⟩ trivial trivial
noncomputable def s32 : FSpec := ⟨[.imm false (.int .i64), .imm true (.pair (.slice 29 (.slice 3 (.int .i64))) (.pair (.slice 3 (.int .i64)) .unit))], [.imm false .bool], fun x => S_spec_GoodCheck x.1 x.2.1⟩
theorem ok32 : FOk Try.prog 32 s32 := fn_says env32 Try.func32 rfl fun x y h => ⟨0, (r32 0 x.1 x.2.1).trans h⟩
theorem enters32 : Enters Try.prog 32 := enters Try.func32 (by kernel_rfl) rfl

/-! ## loop.example/g00698/impl.total -/
noncomputable def E78 : Env := { tab := tab, sig := [], clos := [], live := [(0, [3, 6, 7, 8])], eqs := [] }
set_option maxRecDepth 100000 in
theorem r78 (N : Nat) (a0 : List Int) : runF N E78 Try.f78 [.imm false (.slice 3 (.int .i64))] [.imm false (.int .i64)] (a0, ()) = p_impl_total N a0 := by kernel_rfl
theorem env78 : EnvOk Try.prog E78 := envOk mixed tabOk trivial trivial trivial
noncomputable def s78 : FSpec := ⟨[.imm false (.slice 3 (.int .i64))], [.imm false (.int .i64)], fun x => S_impl_total x.1⟩
theorem ok78 : FOk Try.prog 78 s78 := fn_says env78 Try.func78 rfl fun x y h => let ⟨N, hN⟩ := lim_some h; ⟨N, (r78 N x.1).trans hN⟩
theorem enters78 : Enters Try.prog 78 := enters Try.func78 (by kernel_rfl) rfl

/-! ## loop.example/g00698/impl.GoodSums -/
theorem enters77 : Enters Try.prog 77 := enters Try.func77 (by kernel_rfl) rfl
noncomputable def E65 : Env := { tab := tab, sig := [(61, s61), (43, s43), (78, s78)], clos := [(77, ⟨Try.f77, [(false, (.int .i64))]⟩)], live := [], eqs := [] }
set_option maxRecDepth 100000 in
theorem r65 (N : Nat) (a0 : List Int) : runF N E65 Try.f65 [.imm false (.slice 3 (.int .i64))] [.imm false .bool] (a0, ()) = p_impl_GoodSums N a0 := by kernel_rfl
theorem env65 : EnvOk Try.prog E65 := envOk mixed tabOk ⟨⟨enters61, ok61⟩, ⟨enters43, ok43⟩, ⟨enters78, ok78⟩, trivial⟩ ⟨⟨Try.func77, enters77⟩, trivial⟩ trivial
noncomputable def s65 : FSpec := ⟨[.imm false (.slice 3 (.int .i64))], [.imm false .bool], fun x => S_impl_GoodSums x.1⟩
theorem ok65 : FOk Try.prog 65 s65 := fn_says env65 Try.func65 rfl fun x y h => ⟨0, (r65 0 x.1).trans h⟩
theorem enters65 : Enters Try.prog 65 := enters Try.func65 (by kernel_rfl) rfl

/-! ## loop.example/g00698/impl.GoodCheck -/
noncomputable def E34 : Env := { tab := tab, sig := [(46, s46), (60, s60), (65, s65)], clos := [], live := [], eqs := [] }
set_option maxRecDepth 100000 in
theorem r34 (N : Nat) (a0 : Int) (a1 : (List (List Int) × (List Int × Unit))) : runF N E34 Try.f34 [.imm false (.int .i64), .imm true (.pair (.slice 29 (.slice 3 (.int .i64))) (.pair (.slice 3 (.int .i64)) .unit))] [.imm false .bool] (a0, a1, ()) = p_impl_GoodCheck N a0 a1 := by kernel_rfl
theorem env34 : EnvOk Try.prog E34 := envOk mixed tabOk ⟨⟨enters46, ok46⟩, ⟨enters60, ok60⟩, ⟨enters65, ok65⟩, trivial⟩ trivial trivial
noncomputable def s34 : FSpec := ⟨[.imm false (.int .i64), .imm true (.pair (.slice 29 (.slice 3 (.int .i64))) (.pair (.slice 3 (.int .i64)) .unit))], [.imm false .bool], fun x => S_impl_GoodCheck x.1 x.2.1⟩
theorem ok34 : FOk Try.prog 34 s34 := fn_says env34 Try.func34 rfl fun x y h => ⟨0, (r34 0 x.1 x.2.1).trans h⟩
theorem enters34 : Enters Try.prog 34 := enters Try.func34 (by kernel_rfl) rfl

/-! ## loop.example/g00698/laws.eqCheck -/
noncomputable def E35 : Env := { tab := tab, sig := [(24, s24), (38, s38)], clos := [], live := [], eqs := [] }
set_option maxRecDepth 100000 in
theorem r35 (N : Nat) (a0 : (List (List Int) × (List Int × Unit))) (a1 : (List (List Int) × (List Int × Unit))) : runF N E35 Try.f35 [.imm true (.pair (.slice 29 (.slice 3 (.int .i64))) (.pair (.slice 3 (.int .i64)) .unit)), .imm true (.pair (.slice 29 (.slice 3 (.int .i64))) (.pair (.slice 3 (.int .i64)) .unit))] [.imm false .bool] (a0, a1, ()) = p_laws_eqCheck N a0 a1 := by kernel_rfl
theorem env35 : EnvOk Try.prog E35 := envOk mixed tabOk ⟨⟨enters24, ok24⟩, ⟨enters38, ok38⟩, trivial⟩ trivial trivial
noncomputable def s35 : FSpec := ⟨[.imm true (.pair (.slice 29 (.slice 3 (.int .i64))) (.pair (.slice 3 (.int .i64)) .unit)), .imm true (.pair (.slice 29 (.slice 3 (.int .i64))) (.pair (.slice 3 (.int .i64)) .unit))], [.imm false .bool], fun x => S_laws_eqCheck x.1 x.2.1⟩
theorem ok35 : FOk Try.prog 35 s35 := fn_says env35 Try.func35 rfl fun x y h => ⟨0, (r35 0 x.1 x.2.1).trans h⟩
theorem enters35 : Enters Try.prog 35 := enters Try.func35 (by kernel_rfl) rfl

/-! ## loop.example/g00698/laws.FnExactGoodCheck -/
noncomputable def E9 : Env := { tab := tab, sig := [(31, s31), (33, s33), (32, s32), (34, s34), (35, s35)], clos := [], live := [], eqs := [] }
set_option maxRecDepth 100000 in
theorem r9 (N : Nat) (a0 : Int) (a1 : (List (List Int) × (List Int × Unit))) : runF N E9 Try.f9 [.imm false (.int .i64), .imm true (.pair (.slice 29 (.slice 3 (.int .i64))) (.pair (.slice 3 (.int .i64)) .unit))] [.imm false .bool] (a0, a1, ()) = p_laws_FnExactGoodCheck N a0 a1 := by kernel_rfl
theorem env9 : EnvOk Try.prog E9 := envOk mixed tabOk ⟨⟨enters31, ok31⟩, ⟨enters33, ok33⟩, ⟨enters32, ok32⟩, ⟨enters34, ok34⟩, ⟨enters35, ok35⟩, trivial⟩ trivial trivial

/-! ## loop.example/g00698/spec.l2Account -/
noncomputable def E66 : Env := { tab := tab, sig := [(42, s42)], clos := [], live := [], eqs := [] }
set_option maxRecDepth 100000 in
theorem r66 (N : Nat) (a0 : Int) : runF N E66 Try.f66 [.imm false (.int .i64)] [.imm false .bool] (a0, ()) = p_spec_l2Account N a0 := by kernel_rfl
theorem env66 : EnvOk Try.prog E66 := envOk mixed tabOk ⟨⟨enters42, ok42⟩, trivial⟩ trivial trivial
noncomputable def s66 : FSpec := ⟨[.imm false (.int .i64)], [.imm false .bool], fun x => S_spec_l2Account x.1⟩
theorem ok66 : FOk Try.prog 66 s66 := fn_says env66 Try.func66 rfl fun x y h => ⟨0, (r66 0 x.1).trans h⟩
theorem enters66 : Enters Try.prog 66 := enters Try.func66 (by kernel_rfl) rfl

/-! ## loop.example/g00698/spec.HostsOf -/
noncomputable def E36 : Env := { tab := tab, sig := [(25, s25), (66, s66), (55, s55)], clos := [], live := [(0, [2, 8, 20, 21, 22])], eqs := [] }
set_option maxRecDepth 100000 in
theorem r36 (N : Nat) (a0 : Int) (a1 : List (List Int)) (a2 : Int) : runF N E36 Try.f36 [.imm false (.int .i64), .imm false (.slice 29 (.slice 3 (.int .i64))), .imm false (.int .i64)] [.deep false (.slice 3 (.int .i64)), .imm false .bool] (a0, a1, a2, ()) = p_spec_HostsOf N a0 a1 a2 := by kernel_rfl
theorem env36 : EnvOk Try.prog E36 := envOk mixed tabOk ⟨⟨enters25, ok25⟩, ⟨enters66, ok66⟩, ⟨enters55, ok55⟩, trivial⟩ trivial trivial
noncomputable def s36 : FSpec := ⟨[.imm false (.int .i64), .imm false (.slice 29 (.slice 3 (.int .i64))), .imm false (.int .i64)], [.deep false (.slice 3 (.int .i64)), .imm false .bool], fun x => S_spec_HostsOf x.1 x.2.1 x.2.2.1⟩
theorem ok36 : FOk Try.prog 36 s36 := fn_says env36 Try.func36 rfl fun x y h => let ⟨N, hN⟩ := lim_some h; ⟨N, (r36 N x.1 x.2.1 x.2.2.1).trans hN⟩
theorem enters36 : Enters Try.prog 36 := enters Try.func36 (by kernel_rfl) rfl

/-! ## loop.example/g00698/impl.isAccount -/
noncomputable def E67 : Env := { tab := tab, sig := [(43, s43)], clos := [], live := [], eqs := [] }
set_option maxRecDepth 100000 in
theorem r67 (N : Nat) (a0 : Int) : runF N E67 Try.f67 [.imm false (.int .i64)] [.imm false .bool] (a0, ()) = p_impl_isAccount N a0 := by kernel_rfl
theorem env67 : EnvOk Try.prog E67 := envOk mixed tabOk ⟨⟨enters43, ok43⟩, trivial⟩ trivial trivial
noncomputable def s67 : FSpec := ⟨[.imm false (.int .i64)], [.imm false .bool], fun x => S_impl_isAccount x.1⟩
theorem ok67 : FOk Try.prog 67 s67 := fn_says env67 Try.func67 rfl fun x y h => ⟨0, (r67 0 x.1).trans h⟩
theorem enters67 : Enters Try.prog 67 := enters Try.func67 (by kernel_rfl) rfl

/-! ## loop.example/g00698/impl.HostsOf -/
noncomputable def E37 : Env := { tab := tab, sig := [(26, s26), (67, s67), (58, s58)], clos := [], live := [], eqs := [] }
set_option maxRecDepth 100000 in
theorem r37 (N : Nat) (a0 : Int) (a1 : List (List Int)) (a2 : Int) : runF N E37 Try.f37 [.imm false (.int .i64), .imm false (.slice 29 (.slice 3 (.int .i64))), .imm false (.int .i64)] [.deep false (.slice 3 (.int .i64)), .imm false .bool] (a0, a1, a2, ()) = p_impl_HostsOf N a0 a1 a2 := by kernel_rfl
theorem env37 : EnvOk Try.prog E37 := envOk mixed tabOk ⟨⟨enters26, ok26⟩, ⟨enters67, ok67⟩, ⟨enters58, ok58⟩, trivial⟩ trivial trivial
noncomputable def s37 : FSpec := ⟨[.imm false (.int .i64), .imm false (.slice 29 (.slice 3 (.int .i64))), .imm false (.int .i64)], [.deep false (.slice 3 (.int .i64)), .imm false .bool], fun x => S_impl_HostsOf x.1 x.2.1 x.2.2.1⟩
theorem ok37 : FOk Try.prog 37 s37 := fn_says env37 Try.func37 rfl fun x y h => ⟨0, (r37 0 x.1 x.2.1 x.2.2.1).trans h⟩
theorem enters37 : Enters Try.prog 37 := enters Try.func37 (by kernel_rfl) rfl

/-! ## loop.example/g00698/laws.FnExactHostsOf -/
noncomputable def E10 : Env := { tab := tab, sig := [(20, s20), (22, s22), (36, s36), (37, s37), (38, s38), (24, s24), (39, s39), (40, s40), (41, s41)], clos := [], live := [], eqs := [] }
set_option maxRecDepth 100000 in
theorem r10 (N : Nat) (a0 : Int) (a1 : List (List Int)) (a2 : Int) : runF N E10 Try.f10 [.imm false (.int .i64), .imm false (.slice 29 (.slice 3 (.int .i64))), .imm false (.int .i64)] [.imm false .bool] (a0, a1, a2, ()) = p_laws_FnExactHostsOf N a0 a1 a2 := by kernel_rfl
theorem env10 : EnvOk Try.prog E10 := envOk mixed tabOk ⟨⟨enters20, ok20⟩, ⟨enters22, ok22⟩, ⟨enters36, ok36⟩, ⟨enters37, ok37⟩, ⟨enters38, ok38⟩, ⟨enters24, ok24⟩, ⟨enters39, ok39⟩, ⟨enters40, ok40⟩, ⟨enters41, ok41⟩, trivial⟩ trivial trivial

end Go.Proofs.Ytfbjaaboffmlfaa.Am
