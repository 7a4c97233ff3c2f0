/- Functions, as they run on data. No condition. -/
import Derived.Test.YthijgmbdlkeebaaAmFn1
set_option linter.unusedVariables false
set_option maxRecDepth 100000
namespace Go.Proofs.Ythijgmbdlkeebaa.Am
open Go.AM Go.AM.P Go.Proofs
/-! ## slices.Repeat[[]int,int] -/
theorem enters175 : Enters Try.prog 175 := enters Try.func175 (by kernel_rfl) rfl
theorem enters180 : Enters Try.prog 180 := enters Try.func180 (by kernel_rfl) rfl
noncomputable def E161 : Env := { tab := tab, sig := [], clos := [(175, ⟨Try.f175, [], []⟩), (180, ⟨Try.f180, [], []⟩)], live := [(0, [7, 8], [])], eqs := [], inl := [175, 180], views := true }
theorem env161 : EnvOk Try.prog E161 := envOk mixed tabOk trivial ⟨⟨Try.func175, enters175⟩, ⟨Try.func180, enters180⟩, trivial⟩ trivial
noncomputable def s161 : FSpec := ⟨[.imm false (.slice 3 (.int .i64)), .imm false (.int .i64)], [.deep false (.slice 3 (.int .i64))], fun x => S_Repeat1 x.1 x.2.1⟩
theorem r161_0 (v : Int) : runF 12 E161 Try.f161 [.imm false (.slice 3 (.int .i64)), .imm false (.int .i64)] [.deep false (.slice 3 (.int .i64))] ([v], (0 : Int), ()) = some ((([] : List Int), ()), ()) := by kernel_rfl
theorem r161_1 (v : Int) : runF 12 E161 Try.f161 [.imm false (.slice 3 (.int .i64)), .imm false (.int .i64)] [.deep false (.slice 3 (.int .i64))] ([v], (1 : Int), ()) = some ((([v] : List Int), ()), ()) := by kernel_rfl
theorem r161_2 (v : Int) : runF 12 E161 Try.f161 [.imm false (.slice 3 (.int .i64)), .imm false (.int .i64)] [.deep false (.slice 3 (.int .i64))] ([v], (2 : Int), ()) = some ((([v, v] : List Int), ()), ()) := by kernel_rfl
theorem r161_3 (v : Int) : runF 12 E161 Try.f161 [.imm false (.slice 3 (.int .i64)), .imm false (.int .i64)] [.deep false (.slice 3 (.int .i64))] ([v], (3 : Int), ()) = some ((([v, v, v] : List Int), ()), ()) := by kernel_rfl
theorem r161_4 (v : Int) : runF 12 E161 Try.f161 [.imm false (.slice 3 (.int .i64)), .imm false (.int .i64)] [.deep false (.slice 3 (.int .i64))] ([v], (4 : Int), ()) = some ((([v, v, v, v] : List Int), ()), ()) := by kernel_rfl
theorem r161_5 (v : Int) : runF 12 E161 Try.f161 [.imm false (.slice 3 (.int .i64)), .imm false (.int .i64)] [.deep false (.slice 3 (.int .i64))] ([v], (5 : Int), ()) = some ((([v, v, v, v, v] : List Int), ()), ()) := by kernel_rfl
theorem r161_6 (v : Int) : runF 12 E161 Try.f161 [.imm false (.slice 3 (.int .i64)), .imm false (.int .i64)] [.deep false (.slice 3 (.int .i64))] ([v], (6 : Int), ()) = some ((([v, v, v, v, v, v] : List Int), ()), ()) := by kernel_rfl
theorem r161_7 (v : Int) : runF 12 E161 Try.f161 [.imm false (.slice 3 (.int .i64)), .imm false (.int .i64)] [.deep false (.slice 3 (.int .i64))] ([v], (7 : Int), ()) = some ((([v, v, v, v, v, v, v] : List Int), ()), ()) := by kernel_rfl
theorem r161_8 (v : Int) : runF 12 E161 Try.f161 [.imm false (.slice 3 (.int .i64)), .imm false (.int .i64)] [.deep false (.slice 3 (.int .i64))] ([v], (8 : Int), ()) = some ((([v, v, v, v, v, v, v, v] : List Int), ()), ()) := by kernel_rfl
theorem r161_9 (v : Int) : runF 12 E161 Try.f161 [.imm false (.slice 3 (.int .i64)), .imm false (.int .i64)] [.deep false (.slice 3 (.int .i64))] ([v], (9 : Int), ()) = some ((([v, v, v, v, v, v, v, v, v] : List Int), ()), ()) := by kernel_rfl
theorem ok161 : FOk Try.prog 161 s161 := fn_says env161 Try.func161 rfl fun x y h => by
  obtain ⟨v, h1, h2⟩ := Repeat1_ok (P := fun v n y => runF 12 E161 Try.f161 [.imm false (.slice 3 (.int .i64)), .imm false (.int .i64)] [.deep false (.slice 3 (.int .i64))] ([v], n, ()) = some y) (fun v n hn => by
    match n, hn with
    | 0, _ => exact r161_0 v
    | 1, _ => exact r161_1 v
    | 2, _ => exact r161_2 v
    | 3, _ => exact r161_3 v
    | 4, _ => exact r161_4 v
    | 5, _ => exact r161_5 v
    | 6, _ => exact r161_6 v
    | 7, _ => exact r161_7 v
    | 8, _ => exact r161_8 v
    | 9, _ => exact r161_9 v
    | k + 10, hk => omega) x y h
  obtain ⟨x1, x2, ⟨⟩⟩ := x
  obtain rfl : x1 = [v] := h1
  exact ⟨12, h2⟩
theorem enters161 : Enters Try.prog 161 := enters Try.func161 (by kernel_rfl) rfl

/-! ## loop.example/g00698/impl.NewSums -/
noncomputable def E124 : Env := { tab := tab, sig := [(161, s161)], clos := [], live := [], eqs := [], inl := [] }
set_option maxRecDepth 100000 in
theorem r124 (N : Nat)  : runF N E124 Try.f124 [] [.deep false (.slice 3 (.int .i64))] (()) = p_impl_NewSums N  := by kernel_rfl
theorem env124 : EnvOk Try.prog E124 := envOk mixed tabOk ⟨⟨enters161, ok161⟩, trivial⟩ trivial trivial
noncomputable def s124 : FSpec := ⟨[], [.deep false (.slice 3 (.int .i64))], fun x => S_impl_NewSums ⟩
theorem ok124 : FOk Try.prog 124 s124 := fn_says env124 Try.func124 rfl fun x y h => ⟨0, (r124 0 ).trans h⟩
theorem enters124 : Enters Try.prog 124 := enters Try.func124 (by kernel_rfl) rfl

/-! ## slices.IndexFunc[[]loop.example/g00698/impl.Verdict,loop.example/g00698/impl.Verdict] -/
noncomputable def E125 : Env := { tab := tab, sig := [], clos := [], live := [(0, [0, 1, 7, 8], [])], eqs := [], inl := [] }
set_option maxRecDepth 100000 in
theorem r125 (N : Nat) (a0 : List T5) (a1 : (T5 × Unit) → Option Bool) : runF N E125 Try.f125 [.imm false (.slice 103 (.pair (.int .i64) (.pair (.int .i64) (.pair (.pair (.int .i64) (.pair (.int .i64) .unit)) .unit)))), .clo [(true, (.pair (.int .i64) (.pair (.int .i64) (.pair (.pair (.int .i64) (.pair (.int .i64) .unit)) .unit))))] .bool] [.imm false (.int .i64)] (a0, a1, ()) = p_IndexFunc_Limpl_Verdict_impl_Verdict N a0 a1 := by kernel_rfl
theorem env125 : EnvOk Try.prog E125 := envOk mixed tabOk trivial trivial trivial
noncomputable def s125 : FSpec := ⟨[.imm false (.slice 103 (.pair (.int .i64) (.pair (.int .i64) (.pair (.pair (.int .i64) (.pair (.int .i64) .unit)) .unit)))), .clo [(true, (.pair (.int .i64) (.pair (.int .i64) (.pair (.pair (.int .i64) (.pair (.int .i64) .unit)) .unit))))] .bool], [.imm false (.int .i64)], fun x => S_IndexFunc_Limpl_Verdict_impl_Verdict x.1 x.2.1⟩
theorem ok125 : FOk Try.prog 125 s125 := fn_says env125 Try.func125 rfl fun x y h => let ⟨N, hN⟩ := lim_some h; ⟨N, (r125 N x.1 x.2.1).trans hN⟩
theorem enters125 : Enters Try.prog 125 := enters Try.func125 (by kernel_rfl) rfl

/-! ## loop.example/g00698/impl.part -/
theorem enters126 : Enters Try.prog 126 := enters Try.func126 (by kernel_rfl) rfl
noncomputable def E80 : Env := { tab := tab, sig := [(124, s124), (63, s63), (125, s125)], clos := [(126, ⟨Try.f126, [(true, (.pair (.int .i64) (.pair (.int .i64) (.pair (.pair (.int .i64) (.pair (.int .i64) .unit)) .unit))))], []⟩)], live := [(0, [1, 2, 8, 9, 22, 23, 24, 45, 46, 47, 48, 49, 50, 51, 52, 53, 54, 59, 76, 91], []), (2, [8, 9, 16, 106, 107, 108], [])], eqs := [], inl := [] }
set_option maxRecDepth 100000 in
theorem r80 (N : Nat) (a0 : List T4) (a1 : List Int) (a2 : List T5) : runF N E80 Try.f80 [.imm false (.slice 79 (.pair (.int .i64) (.pair (.int .i64) (.pair (.pair (.int .i64) (.pair (.int .i64) (.pair (.int .i64) (.pair (.int .i64) (.pair (.int .i64) .unit))))) (.pair (.pair (.int .i64) (.pair (.int .i64) .unit)) .unit))))), .imm false (.slice 3 (.int .i64)), .imm false (.slice 103 (.pair (.int .i64) (.pair (.int .i64) (.pair (.pair (.int .i64) (.pair (.int .i64) .unit)) .unit))))] [.deep false (.slice 3 (.int .i64)), .imm false (.int .i64)] (a0, a1, a2, ()) = p_impl_part N a0 a1 a2 := by kernel_rfl
theorem env80 : EnvOk Try.prog E80 := envOk mixed tabOk ⟨⟨enters124, ok124⟩, ⟨enters63, ok63⟩, ⟨enters125, ok125⟩, trivial⟩ ⟨⟨Try.func126, enters126⟩, trivial⟩ trivial
noncomputable def s80 : FSpec := ⟨[.imm false (.slice 79 (.pair (.int .i64) (.pair (.int .i64) (.pair (.pair (.int .i64) (.pair (.int .i64) (.pair (.int .i64) (.pair (.int .i64) (.pair (.int .i64) .unit))))) (.pair (.pair (.int .i64) (.pair (.int .i64) .unit)) .unit))))), .imm false (.slice 3 (.int .i64)), .imm false (.slice 103 (.pair (.int .i64) (.pair (.int .i64) (.pair (.pair (.int .i64) (.pair (.int .i64) .unit)) .unit))))], [.deep false (.slice 3 (.int .i64)), .imm false (.int .i64)], fun x => S_impl_part x.1 x.2.1 x.2.2.1⟩
theorem ok80 : FOk Try.prog 80 s80 := fn_says env80 Try.func80 rfl fun x y h => let ⟨N, hN⟩ := lim_some h; ⟨N, (r80 N x.1 x.2.1 x.2.2.1).trans hN⟩
theorem enters80 : Enters Try.prog 80 := enters Try.func80 (by kernel_rfl) rfl

/-! ## loop.example/g00698/impl.PartBook -/
noncomputable def E35 : Env := { tab := tab, sig := [(62, s62), (80, s80)], clos := [], live := [], eqs := [], inl := [] }
set_option maxRecDepth 100000 in
theorem r35 (N : Nat) (a0 : List T4) (a1 : List Int) (a2 : List T5) : runF N E35 Try.f35 [.imm false (.slice 79 (.pair (.int .i64) (.pair (.int .i64) (.pair (.pair (.int .i64) (.pair (.int .i64) (.pair (.int .i64) (.pair (.int .i64) (.pair (.int .i64) .unit))))) (.pair (.pair (.int .i64) (.pair (.int .i64) .unit)) .unit))))), .imm false (.slice 3 (.int .i64)), .imm false (.slice 103 (.pair (.int .i64) (.pair (.int .i64) (.pair (.pair (.int .i64) (.pair (.int .i64) .unit)) .unit))))] [.deep false (.slice 3 (.int .i64)), .imm false (.int .i64), .imm false .bool] (a0, a1, a2, ()) = p_impl_PartBook N a0 a1 a2 := by kernel_rfl
theorem env35 : EnvOk Try.prog E35 := envOk mixed tabOk ⟨⟨enters62, ok62⟩, ⟨enters80, ok80⟩, trivial⟩ trivial trivial
noncomputable def s35 : FSpec := ⟨[.imm false (.slice 79 (.pair (.int .i64) (.pair (.int .i64) (.pair (.pair (.int .i64) (.pair (.int .i64) (.pair (.int .i64) (.pair (.int .i64) (.pair (.int .i64) .unit))))) (.pair (.pair (.int .i64) (.pair (.int .i64) .unit)) .unit))))), .imm false (.slice 3 (.int .i64)), .imm false (.slice 103 (.pair (.int .i64) (.pair (.int .i64) (.pair (.pair (.int .i64) (.pair (.int .i64) .unit)) .unit))))], [.deep false (.slice 3 (.int .i64)), .imm false (.int .i64), .imm false .bool], fun x => S_impl_PartBook x.1 x.2.1 x.2.2.1⟩
theorem ok35 : FOk Try.prog 35 s35 := fn_says env35 Try.func35 rfl fun x y h => ⟨0, (r35 0 x.1 x.2.1 x.2.2.1).trans h⟩
theorem enters35 : Enters Try.prog 35 := enters Try.func35 (by kernel_rfl) rfl

/-! ## loop.example/g00698/laws.FnExactPartBook -/
noncomputable def E6 : Env := { tab := tab, sig := [(10, s10), (32, s32), (12, s12), (13, s13), (34, s34), (33, s33), (35, s35), (17, s17), (16, s16), (24, s24), (18, s18), (19, s19), (25, s25), (36, s36)], clos := [], live := [], eqs := [], inl := [] }
set_option maxRecDepth 100000 in
theorem r6 (N : Nat) (a0 : List T4) (a1 : List Int) (a2 : List T5) : runF N E6 Try.f6 [.imm false (.slice 97 (.pair (.int .i64) (.pair (.int .i64) (.pair (.pair (.int .i64) (.pair (.int .i64) (.pair (.int .i64) (.pair (.int .i64) (.pair (.int .i64) .unit))))) (.pair (.pair (.int .i64) (.pair (.int .i64) .unit)) .unit))))), .imm false (.slice 3 (.int .i64)), .imm false (.slice 118 (.pair (.int .i64) (.pair (.int .i64) (.pair (.pair (.int .i64) (.pair (.int .i64) .unit)) .unit))))] [.imm false .bool] (a0, a1, a2, ()) = p_laws_FnExactPartBook N a0 a1 a2 := by kernel_rfl
theorem env6 : EnvOk Try.prog E6 := envOk mixed tabOk ⟨⟨enters10, ok10⟩, ⟨enters32, ok32⟩, ⟨enters12, ok12⟩, ⟨enters13, ok13⟩, ⟨enters34, ok34⟩, ⟨enters33, ok33⟩, ⟨enters35, ok35⟩, ⟨enters17, ok17⟩, ⟨enters16, ok16⟩, ⟨enters24, ok24⟩, ⟨enters18, ok18⟩, ⟨enters19, ok19⟩, ⟨enters25, ok25⟩, ⟨enters36, ok36⟩, trivial⟩ trivial trivial

/-! ## loop.example/g00698/laws.szIntSS -/
noncomputable def E37 : Env := { tab := tab, sig := [(81, s81)], clos := [], live := [(0, [0, 1, 5], [])], eqs := [], inl := [] }
set_option maxRecDepth 100000 in
theorem r37 (N : Nat) (a0 : List (List Int)) (a1 : Int) : runF N E37 Try.f37 [.imm false (.slice 23 (.slice 3 (.int .i64))), .imm false (.int .i64)] [.imm false (.int .i64)] (a0, a1, ()) = p_laws_szIntSS N a0 a1 := by kernel_rfl
theorem env37 : EnvOk Try.prog E37 := envOk mixed tabOk ⟨⟨enters81, ok81⟩, trivial⟩ trivial trivial
noncomputable def s37 : FSpec := ⟨[.imm false (.slice 23 (.slice 3 (.int .i64))), .imm false (.int .i64)], [.imm false (.int .i64)], fun x => S_laws_szIntSS x.1 x.2.1⟩
theorem ok37 : FOk Try.prog 37 s37 := fn_says env37 Try.func37 rfl fun x y h => let ⟨N, hN⟩ := lim_some h; ⟨N, (r37 N x.1 x.2.1).trans hN⟩
theorem enters37 : Enters Try.prog 37 := enters Try.func37 (by kernel_rfl) rfl

/-! ## loop.example/g00698/laws.toIntSS -/
noncomputable def E39 : Env := { tab := tab, sig := [(13, s13)], clos := [], live := [(0, [0, 3, 4], [])], eqs := [], inl := [] }
set_option maxRecDepth 100000 in
theorem r39 (N : Nat) (a0 : List (List Int)) : runF N E39 Try.f39 [.imm false (.slice 23 (.slice 3 (.int .i64)))] [.deep false (.slice 23 (.slice 3 (.int .i64)))] (a0, ()) = p_laws_toIntSS N a0 := by kernel_rfl
theorem env39 : EnvOk Try.prog E39 := envOk mixed tabOk ⟨⟨enters13, ok13⟩, trivial⟩ trivial trivial
noncomputable def s39 : FSpec := ⟨[.imm false (.slice 23 (.slice 3 (.int .i64)))], [.deep false (.slice 23 (.slice 3 (.int .i64)))], fun x => S_laws_toIntSS x.1⟩
theorem ok39 : FOk Try.prog 39 s39 := fn_says env39 Try.func39 rfl fun x y h => let ⟨N, hN⟩ := lim_some h; ⟨N, (r39 N x.1).trans hN⟩
theorem enters39 : Enters Try.prog 39 := enters Try.func39 (by kernel_rfl) rfl

/-! ## loop.example/g00698/spec.GoodPlaces -/
noncomputable def E48 : Env := { tab := tab, sig := [(95, s95), (59, s59), (60, s60)], clos := [], live := [(0, [1, 5, 33, 34, 35], []), (2, [1, 5, 6, 22, 23, 24, 33, 34, 35], [])], eqs := [], inl := [] }
set_option maxRecDepth 100000 in
theorem r48 (N : Nat) (a0 : Int) (a1 : List (List Int)) : runF N E48 Try.f48 [.imm false (.int .i64), .imm false (.slice 23 (.slice 3 (.int .i64)))] [.imm false .bool] (a0, a1, ()) = p_spec_GoodPlaces N a0 a1 := by kernel_rfl
theorem env48 : EnvOk Try.prog E48 := envOk mixed tabOk ⟨⟨enters95, ok95⟩, ⟨enters59, ok59⟩, ⟨enters60, ok60⟩, trivial⟩ trivial trivial
noncomputable def s48 : FSpec := ⟨[.imm false (.int .i64), .imm false (.slice 23 (.slice 3 (.int .i64)))], [.imm false .bool], fun x => S_spec_GoodPlaces x.1 x.2.1⟩
theorem ok48 : FOk Try.prog 48 s48 := fn_says env48 Try.func48 rfl fun x y h => let ⟨N, hN⟩ := lim_some h; ⟨N, (r48 N x.1 x.2.1).trans hN⟩
theorem enters48 : Enters Try.prog 48 := enters Try.func48 (by kernel_rfl) rfl

/-! ## loop.example/g00698/spec.FullPart -/
noncomputable def E38 : Env := { tab := tab, sig := [(48, s48), (58, s58), (82, s82), (65, s65), (78, s78)], clos := [], live := [(0, [1, 2, 3, 10, 31, 32, 33], [])], eqs := [], inl := [] }
set_option maxRecDepth 100000 in
theorem r38 (N : Nat) (a0 : Int) (a1 : List (List Int)) (a2 : List T4) (a3 : Int) : runF N E38 Try.f38 [.imm false (.int .i64), .imm false (.slice 23 (.slice 3 (.int .i64))), .imm false (.slice 79 (.pair (.int .i64) (.pair (.int .i64) (.pair (.pair (.int .i64) (.pair (.int .i64) (.pair (.int .i64) (.pair (.int .i64) (.pair (.int .i64) .unit))))) (.pair (.pair (.int .i64) (.pair (.int .i64) .unit)) .unit))))), .imm false (.int .i64)] [.deep false (.slice 3 (.int .i64)), .imm false .bool] (a0, a1, a2, a3, ()) = p_spec_FullPart N a0 a1 a2 a3 := by kernel_rfl
theorem env38 : EnvOk Try.prog E38 := envOk mixed tabOk ⟨⟨enters48, ok48⟩, ⟨enters58, ok58⟩, ⟨enters82, ok82⟩, ⟨enters65, ok65⟩, ⟨enters78, ok78⟩, trivial⟩ trivial trivial
noncomputable def s38 : FSpec := ⟨[.imm false (.int .i64), .imm false (.slice 23 (.slice 3 (.int .i64))), .imm false (.slice 79 (.pair (.int .i64) (.pair (.int .i64) (.pair (.pair (.int .i64) (.pair (.int .i64) (.pair (.int .i64) (.pair (.int .i64) (.pair (.int .i64) .unit))))) (.pair (.pair (.int .i64) (.pair (.int .i64) .unit)) .unit))))), .imm false (.int .i64)], [.deep false (.slice 3 (.int .i64)), .imm false .bool], fun x => S_spec_FullPart x.1 x.2.1 x.2.2.1 x.2.2.2.1⟩
theorem ok38 : FOk Try.prog 38 s38 := fn_says env38 Try.func38 rfl fun x y h => let ⟨N, hN⟩ := lim_some h; ⟨N, (r38 N x.1 x.2.1 x.2.2.1 x.2.2.2.1).trans hN⟩
theorem enters38 : Enters Try.prog 38 := enters Try.func38 (by kernel_rfl) rfl

/-! ## slices.IndexFunc[[][]int,[]int] -/
noncomputable def E137 : Env := { tab := tab, sig := [], clos := [], live := [(0, [0, 1, 7, 8], [])], eqs := [], inl := [] }
set_option maxRecDepth 100000 in
theorem r137 (N : Nat) (a0 : List (List Int)) (a1 : (List Int × Unit) → Option Bool) : runF N E137 Try.f137 [.imm false (.slice 23 (.slice 3 (.int .i64))), .clo [(false, (.slice 3 (.int .i64)))] .bool] [.imm false (.int .i64)] (a0, a1, ()) = p_IndexFunc_LLint_Lint N a0 a1 := by kernel_rfl
theorem env137 : EnvOk Try.prog E137 := envOk mixed tabOk trivial trivial trivial
noncomputable def s137 : FSpec := ⟨[.imm false (.slice 23 (.slice 3 (.int .i64))), .clo [(false, (.slice 3 (.int .i64)))] .bool], [.imm false (.int .i64)], fun x => S_IndexFunc_LLint_Lint x.1 x.2.1⟩
theorem ok137 : FOk Try.prog 137 s137 := fn_says env137 Try.func137 rfl fun x y h => let ⟨N, hN⟩ := lim_some h; ⟨N, (r137 N x.1 x.2.1).trans hN⟩
theorem enters137 : Enters Try.prog 137 := enters Try.func137 (by kernel_rfl) rfl

/-! ## slices.ContainsFunc[[][]int,[]int] -/
noncomputable def E91 : Env := { tab := tab, sig := [(137, s137)], clos := [], live := [], eqs := [], inl := [] }
set_option maxRecDepth 100000 in
theorem r91 (N : Nat) (a0 : List (List Int)) (a1 : (List Int × Unit) → Option Bool) : runF N E91 Try.f91 [.imm false (.slice 23 (.slice 3 (.int .i64))), .clo [(false, (.slice 3 (.int .i64)))] .bool] [.imm false .bool] (a0, a1, ()) = p_ContainsFunc_LLint_Lint N a0 a1 := by kernel_rfl
theorem env91 : EnvOk Try.prog E91 := envOk mixed tabOk ⟨⟨enters137, ok137⟩, trivial⟩ trivial trivial
noncomputable def s91 : FSpec := ⟨[.imm false (.slice 23 (.slice 3 (.int .i64))), .clo [(false, (.slice 3 (.int .i64)))] .bool], [.imm false .bool], fun x => S_ContainsFunc_LLint_Lint x.1 x.2.1⟩
theorem ok91 : FOk Try.prog 91 s91 := fn_says env91 Try.func91 rfl fun x y h => ⟨0, (r91 0 x.1 x.2.1).trans h⟩
theorem enters91 : Enters Try.prog 91 := enters Try.func91 (by kernel_rfl) rfl

/-! ## loop.example/g00698/impl.hosts -/
noncomputable def E94 : Env := { tab := tab, sig := [(63, s63)], clos := [], live := [(0, [1, 5, 9, 10, 11], [])], eqs := [], inl := [] }
set_option maxRecDepth 100000 in
theorem r94 (N : Nat) (a0 : List (List Int)) (a1 : Int) : runF N E94 Try.f94 [.imm false (.slice 23 (.slice 3 (.int .i64))), .imm false (.int .i64)] [.deep false (.slice 3 (.int .i64))] (a0, a1, ()) = p_impl_hosts N a0 a1 := by kernel_rfl
theorem env94 : EnvOk Try.prog E94 := envOk mixed tabOk ⟨⟨enters63, ok63⟩, trivial⟩ trivial trivial
noncomputable def s94 : FSpec := ⟨[.imm false (.slice 23 (.slice 3 (.int .i64))), .imm false (.int .i64)], [.deep false (.slice 3 (.int .i64))], fun x => S_impl_hosts x.1 x.2.1⟩
theorem ok94 : FOk Try.prog 94 s94 := fn_says env94 Try.func94 rfl fun x y h => let ⟨N, hN⟩ := lim_some h; ⟨N, (r94 N x.1 x.2.1).trans hN⟩
theorem enters94 : Enters Try.prog 94 := enters Try.func94 (by kernel_rfl) rfl

/-! ## loop.example/g00698/impl.GoodPlaces -/
theorem enters92 : Enters Try.prog 92 := enters Try.func92 (by kernel_rfl) rfl
noncomputable def E47 : Env := { tab := tab, sig := [(90, s90), (91, s91), (93, s93), (94, s94)], clos := [(92, ⟨Try.f92, [(false, (.slice 3 (.int .i64)))], []⟩)], live := [(0, [1, 19], [])], eqs := [], inl := [] }
set_option maxRecDepth 100000 in
theorem r47 (N : Nat) (a0 : Int) (a1 : List (List Int)) : runF N E47 Try.f47 [.imm false (.int .i64), .imm false (.slice 23 (.slice 3 (.int .i64)))] [.imm false .bool] (a0, a1, ()) = p_impl_GoodPlaces N a0 a1 := by kernel_rfl
theorem env47 : EnvOk Try.prog E47 := envOk mixed tabOk ⟨⟨enters90, ok90⟩, ⟨enters91, ok91⟩, ⟨enters93, ok93⟩, ⟨enters94, ok94⟩, trivial⟩ ⟨⟨Try.func92, enters92⟩, trivial⟩ trivial
noncomputable def s47 : FSpec := ⟨[.imm false (.int .i64), .imm false (.slice 23 (.slice 3 (.int .i64)))], [.imm false .bool], fun x => S_impl_GoodPlaces x.1 x.2.1⟩
theorem ok47 : FOk Try.prog 47 s47 := fn_says env47 Try.func47 rfl fun x y h => let ⟨N, hN⟩ := lim_some h; ⟨N, (r47 N x.1 x.2.1).trans hN⟩
theorem enters47 : Enters Try.prog 47 := enters Try.func47 (by kernel_rfl) rfl

/-! ## loop.example/g00698/impl.FullPart -/
noncomputable def E40 : Env := { tab := tab, sig := [(47, s47), (76, s76), (62, s62), (66, s66), (80, s80)], clos := [], live := [(0, [1, 2, 3, 10, 36, 37, 38], [])], eqs := [], inl := [] }
set_option maxRecDepth 100000 in
theorem r40 (N : Nat) (a0 : Int) (a1 : List (List Int)) (a2 : List T4) (a3 : Int) : runF N E40 Try.f40 [.imm false (.int .i64), .imm false (.slice 23 (.slice 3 (.int .i64))), .imm false (.slice 79 (.pair (.int .i64) (.pair (.int .i64) (.pair (.pair (.int .i64) (.pair (.int .i64) (.pair (.int .i64) (.pair (.int .i64) (.pair (.int .i64) .unit))))) (.pair (.pair (.int .i64) (.pair (.int .i64) .unit)) .unit))))), .imm false (.int .i64)] [.deep false (.slice 3 (.int .i64)), .imm false .bool] (a0, a1, a2, a3, ()) = p_impl_FullPart N a0 a1 a2 a3 := by kernel_rfl
theorem env40 : EnvOk Try.prog E40 := envOk mixed tabOk ⟨⟨enters47, ok47⟩, ⟨enters76, ok76⟩, ⟨enters62, ok62⟩, ⟨enters66, ok66⟩, ⟨enters80, ok80⟩, trivial⟩ trivial trivial
noncomputable def s40 : FSpec := ⟨[.imm false (.int .i64), .imm false (.slice 23 (.slice 3 (.int .i64))), .imm false (.slice 79 (.pair (.int .i64) (.pair (.int .i64) (.pair (.pair (.int .i64) (.pair (.int .i64) (.pair (.int .i64) (.pair (.int .i64) (.pair (.int .i64) .unit))))) (.pair (.pair (.int .i64) (.pair (.int .i64) .unit)) .unit))))), .imm false (.int .i64)], [.deep false (.slice 3 (.int .i64)), .imm false .bool], fun x => S_impl_FullPart x.1 x.2.1 x.2.2.1 x.2.2.2.1⟩
theorem ok40 : FOk Try.prog 40 s40 := fn_says env40 Try.func40 rfl fun x y h => let ⟨N, hN⟩ := lim_some h; ⟨N, (r40 N x.1 x.2.1 x.2.2.1 x.2.2.2.1).trans hN⟩
theorem enters40 : Enters Try.prog 40 := enters Try.func40 (by kernel_rfl) rfl

/-! ## loop.example/g00698/laws.FnExactFullPart -/
noncomputable def E7 : Env := { tab := tab, sig := [(37, s37), (10, s10), (39, s39), (12, s12), (38, s38), (40, s40), (17, s17), (15, s15), (16, s16), (20, s20), (18, s18), (19, s19), (36, s36)], clos := [], live := [], eqs := [], inl := [] }
set_option maxRecDepth 100000 in
theorem r7 (N : Nat) (a0 : Int) (a1 : List (List Int)) (a2 : List T4) (a3 : Int) : runF N E7 Try.f7 [.imm false (.int .i64), .imm false (.slice 23 (.slice 3 (.int .i64))), .imm false (.slice 97 (.pair (.int .i64) (.pair (.int .i64) (.pair (.pair (.int .i64) (.pair (.int .i64) (.pair (.int .i64) (.pair (.int .i64) (.pair (.int .i64) .unit))))) (.pair (.pair (.int .i64) (.pair (.int .i64) .unit)) .unit))))), .imm false (.int .i64)] [.imm false .bool] (a0, a1, a2, a3, ()) = p_laws_FnExactFullPart N a0 a1 a2 a3 := by kernel_rfl
theorem env7 : EnvOk Try.prog E7 := envOk mixed tabOk ⟨⟨enters37, ok37⟩, ⟨enters10, ok10⟩, ⟨enters39, ok39⟩, ⟨enters12, ok12⟩, ⟨enters38, ok38⟩, ⟨enters40, ok40⟩, ⟨enters17, ok17⟩, ⟨enters15, ok15⟩, ⟨enters16, ok16⟩, ⟨enters20, ok20⟩, ⟨enters18, ok18⟩, ⟨enters19, ok19⟩, ⟨enters36, ok36⟩, trivial⟩ trivial trivial

end Go.Proofs.Ythijgmbdlkeebaa.Am
