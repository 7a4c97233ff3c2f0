/- Functions, as they run on data. No condition. -/
import Derived.Test.YthijgmbdlkeebaaAmFn1
set_option linter.unusedVariables false
set_option maxRecDepth 100000
namespace Go.Proofs.Ythijgmbdlkeebaa.Am
open Go.AM Go.AM.P Go.Proofs
/-! ## slices.Repeat[[]int,int] -/
theorem enters175 : Enters Try.prog 175 := enters Try.func175 (by kernel_rfl) rfl
theorem enters180 : Enters Try.prog 180 := enters Try.func180 (by kernel_rfl) rfl
noncomputable def E161 : Env := { tab := tab, sig := [], clos := [(175, ⟨Try.f175, [], []⟩), (180, ⟨Try.f180, [], []⟩)], live := [(0, [7, 8], [])], eqs := [], inl := [175, 180], views := true }
theorem env161 : EnvOk Try.prog E161 := envOk mixed tabOk trivial ⟨⟨Try.func175, enters175⟩, ⟨Try.func180, enters180⟩, trivial⟩ trivial
noncomputable def s161 : FSpec := ⟨[.imm false (.slice 3 (.int .i64)), .imm false (.int .i64)], [.deep false (.slice 3 (.int .i64))], fun x => S_Repeat1 x.1 x.2.1⟩
theorem r161_0 (v : Int) : runF 12 E161 Try.f161 [.imm false (.slice 3 (.int .i64)), .imm false (.int .i64)] [.deep false (.slice 3 (.int .i64))] ([v], (0 : Int), ()) = some ((([] : List Int), ()), ()) := by kernel_rfl
theorem r161_1 (v : Int) : runF 12 E161 Try.f161 [.imm false (.slice 3 (.int .i64)), .imm false (.int .i64)] [.deep false (.slice 3 (.int .i64))] ([v], (1 : Int), ()) = some ((([v] : List Int), ()), ()) := by kernel_rfl
theorem r161_2 (v : Int) : runF 12 E161 Try.f161 [.imm false (.slice 3 (.int .i64)), .imm false (.int .i64)] [.deep false (.slice 3 (.int .i64))] ([v], (2 : Int), ()) = some ((([v, v] : List Int), ()), ()) := by kernel_rfl
theorem r161_3 (v : Int) : runF 12 E161 Try.f161 [.imm false (.slice 3 (.int .i64)), .imm false (.int .i64)] [.deep false (.slice 3 (.int .i64))] ([v], (3 : Int), ()) = some ((([v, v, v] : List Int), ()), ()) := by kernel_rfl
theorem r161_4 (v : Int) : runF 12 E161 Try.f161 [.imm false (.slice 3 (.int .i64)), .imm false (.int .i64)] [.deep false (.slice 3 (.int .i64))] ([v], (4 : Int), ()) = some ((([v, v, v, v] : List Int), ()), ()) := by kernel_rfl
theorem r161_5 (v : Int) : runF 12 E161 Try.f161 [.imm false (.slice 3 (.int .i64)), .imm false (.int .i64)] [.deep false (.slice 3 (.int .i64))] ([v], (5 : Int), ()) = some ((([v, v, v, v, v] : List Int), ()), ()) := by kernel_rfl
theorem r161_6 (v : Int) : runF 12 E161 Try.f161 [.imm false (.slice 3 (.int .i64)), .imm false (.int .i64)] [.deep false (.slice 3 (.int .i64))] ([v], (6 : Int), ()) = some ((([v, v, v, v, v, v] : List Int), ()), ()) := by kernel_rfl
theorem r161_7 (v : Int) : runF 12 E161 Try.f161 [.imm false (.slice 3 (.int .i64)), .imm false (.int .i64)] [.deep false (.slice 3 (.int .i64))] ([v], (7 : Int), ()) = some ((([v, v, v, v, v, v, v] : List Int), ()), ()) := by kernel_rfl
theorem r161_8 (v : Int) : runF 12 E161 Try.f161 [.imm false (.slice 3 (.int .i64)), .imm false (.int .i64)] [.deep false (.slice 3 (.int .i64))] ([v], (8 : Int), ()) = some ((([v, v, v, v, v, v, v, v] : List Int), ()), ()) := by kernel_rfl
theorem r161_9 (v : Int) : runF 12 E161 Try.f161 [.imm false (.slice 3 (.int .i64)), .imm false (.int .i64)] [.deep false (.slice 3 (.int .i64))] ([v], (9 : Int), ()) = some ((([v, v, v, v, v, v, v, v, v] : List Int), ()), ()) := by kernel_rfl
theorem ok161 : FOk Try.prog 161 s161 := fn_says env161 Try.func161 rfl fun x y h => by
  obtain ⟨v, h1, h2⟩ := Repeat1_ok (P := fun v n y => runF 12 E161 Try.f161 [.imm false (.slice 3 (.int .i64)), .imm false (.int .i64)] [.deep false (.slice 3 (.int .i64))] ([v], n, ()) = some y) (fun v n hn => by
    match n, hn with
    | 0, _ => exact r161_0 v
    | 1, _ => exact r161_1 v
    | 2, _ => exact r161_2 v
    | 3, _ => exact r161_3 v
    | 4, _ => exact r161_4 v
    | 5, _ => exact r161_5 v
    | 6, _ => exact r161_6 v
    | 7, _ => exact r161_7 v
    | 8, _ => exact r161_8 v
    | 9, _ => exact r161_9 v
    | k + 10, hk => omega) x y h
  obtain ⟨x1, x2, ⟨⟩⟩ := x
  obtain rfl : x1 = [v] := h1
  exact ⟨12, h2⟩
theorem enters161 : Enters Try.prog 161 := enters Try.func161 (by kernel_rfl) rfl

/-! ## loop.example/g00698/impl.NewSums -/
noncomputable def E124 : Env := { tab := tab, sig := [(161, s161)], clos := [], live := [], eqs := [], inl := [] }
set_option maxRecDepth 100000 in
theorem r124 (N : Nat)  : runF N E124 Try.f124 [] [.deep false (.slice 3 (.int .i64))] (()) = p_impl_NewSums N  := by kernel_rfl
theorem env124 : EnvOk Try.prog E124 := envOk mixed tabOk ⟨⟨enters161, ok161⟩, trivial⟩ trivial trivial
noncomputable def s124 : FSpec := ⟨[], [.deep false (.slice 3 (.int .i64))], fun x => S_impl_NewSums ⟩
theorem ok124 : FOk Try.prog 124 s124 := fn_says env124 Try.func124 rfl fun x y h => ⟨0, (r124 0 ).trans h⟩
theorem enters124 : Enters Try.prog 124 := enters Try.func124 (by kernel_rfl) rfl

/-! ## slices.IndexFunc[[]loop.example/g00698/impl.Verdict,loop.example/g00698/impl.Verdict] -/
noncomputable def E125 : Env := { tab := tab, sig := [], clos := [], live := [(0, [0, 1, 7, 8], [])], eqs := [], inl := [] }
set_option maxRecDepth 100000 in
theorem r125 (N : Nat) (a0 : List T5) (a1 : (T5 × Unit) → Option Bool) : runF N E125 Try.f125 [.imm false (.slice 103 (.pair (.int .i64) (.pair (.int .i64) (.pair (.pair (.int .i64) (.pair (.int .i64) .unit)) .unit)))), .clo [(true, (.pair (.int .i64) (.pair (.int .i64) (.pair (.pair (.int .i64) (.pair (.int .i64) .unit)) .unit))))] .bool] [.imm false (.int .i64)] (a0, a1, ()) = p_IndexFunc_Limpl_Verdict_impl_Verdict N a0 a1 := by kernel_rfl
theorem env125 : EnvOk Try.prog E125 := envOk mixed tabOk trivial trivial trivial
noncomputable def s125 : FSpec := ⟨[.imm false (.slice 103 (.pair (.int .i64) (.pair (.int .i64) (.pair (.pair (.int .i64) (.pair (.int .i64) .unit)) .unit)))), .clo [(true, (.pair (.int .i64) (.pair (.int .i64) (.pair (.pair (.int .i64) (.pair (.int .i64) .unit)) .unit))))] .bool], [.imm false (.int .i64)], fun x => S_IndexFunc_Limpl_Verdict_impl_Verdict x.1 x.2.1⟩
theorem ok125 : FOk Try.prog 125 s125 := fn_says env125 Try.func125 rfl fun x y h => let ⟨N, hN⟩ := lim_some h; ⟨N, (r125 N x.1 x.2.1).trans hN⟩
theorem enters125 : Enters Try.prog 125 := enters Try.func125 (by kernel_rfl) rfl

/-! ## loop.example/g00698/impl.part -/
theorem enters126 : Enters Try.prog 126 := enters Try.func126 (by kernel_rfl) rfl
noncomputable def E80 : Env := { tab := tab, sig := [(124, s124), (63, s63), (125, s125)], clos := [(126, ⟨Try.f126, [(true, (.pair (.int .i64) (.pair (.int .i64) (.pair (.pair (.int .i64) (.pair (.int .i64) .unit)) .unit))))], []⟩)], live := [(0, [1, 2, 8, 9, 22, 23, 24, 45, 46, 47, 48, 49, 50, 51, 52, 53, 54, 59, 76, 91], []), (2, [8, 9, 16, 106, 107, 108], [])], eqs := [], inl := [] }
set_option maxRecDepth 100000 in
theorem r80 (N : Nat) (a0 : List T4) (a1 : List Int) (a2 : List T5) : runF N E80 Try.f80 [.imm false (.slice 79 (.pair (.int .i64) (.pair (.int .i64) (.pair (.pair (.int .i64) (.pair (.int .i64) (.pair (.int .i64) (.pair (.int .i64) (.pair (.int .i64) .unit))))) (.pair (.pair (.int .i64) (.pair (.int .i64) .unit)) .unit))))), .imm false (.slice 3 (.int .i64)), .imm false (.slice 103 (.pair (.int .i64) (.pair (.int .i64) (.pair (.pair (.int .i64) (.pair (.int .i64) .unit)) .unit))))] [.deep false (.slice 3 (.int .i64)), .imm false (.int .i64)] (a0, a1, a2, ()) = p_impl_part N a0 a1 a2 := by kernel_rfl
theorem env80 : EnvOk Try.prog E80 := envOk mixed tabOk ⟨⟨enters124, ok124⟩, ⟨enters63, ok63⟩, ⟨enters125, ok125⟩, trivial⟩ ⟨⟨Try.func126, enters126⟩, trivial⟩ trivial
noncomputable def s80 : FSpec := ⟨[.imm false (.slice 79 (.pair (.int .i64) (.pair (.int .i64) (.pair (.pair (.int .i64) (.pair (.int .i64) (.pair (.int .i64) (.pair (.int .i64) (.pair (.int .i64) .unit))))) (.pair (.pair (.int .i64) (.pair (.int .i64) .unit)) .unit))))), .imm false (.slice 3 (.int .i64)), .imm false (.slice 103 (.pair (.int .i64) (.pair (.int .i64) (.pair (.pair (.int .i64) (.pair (.int .i64) .unit)) .unit))))], [.deep false (.slice 3 (.int .i64)), .imm false (.int .i64)], fun x => S_impl_part x.1 x.2.1 x.2.2.1⟩
theorem ok80 : FOk Try.prog 80 s80 := fn_says env80 Try.func80 rfl fun x y h => let ⟨N, hN⟩ := lim_some h; ⟨N, (r80 N x.1 x.2.1 x.2.2.1).trans hN⟩
theorem enters80 : Enters Try.prog 80 := enters Try.func80 (by kernel_rfl) rfl

/-! ## loop.example/g00698/impl.PartBook -/
noncomputable def E35 : Env := { tab := tab, sig := [(62, s62), (80, s80)], clos := [], live := [], eqs := [], inl := [] }
set_option maxRecDepth 100000 in
theorem r35 (N : Nat) (a0 : List T4) (a1 : List Int) (a2 : List T5) : runF N E35 Try.f35 [.imm false (.slice 79 (.pair (.int .i64) (.pair (.int .i64) (.pair (.pair (.int .i64) (.pair (.int .i64) (.pair (.int .i64) (.pair (.int .i64) (.pair (.int .i64) .unit))))) (.pair (.pair (.int .i64) (.pair (.int .i64) .unit)) .unit))))), .imm false (.slice 3 (.int .i64)), .imm false (.slice 103 (.pair (.int .i64) (.pair (.int .i64) (.pair (.pair (.int .i64) (.pair (.int .i64) .unit)) .unit))))] [.deep false (.slice 3 (.int .i64)), .imm false (.int .i64), .imm false .bool] (a0, a1, a2, ()) = p_impl_PartBook N a0 a1 a2 := by kernel_rfl
theorem env35 : EnvOk Try.prog E35 := envOk mixed tabOk ⟨⟨enters62, ok62⟩, ⟨enters80, ok80⟩, trivial⟩ trivial trivial
noncomputable def s35 : FSpec := ⟨[.imm false (.slice 79 (.pair (.int .i64) (.pair (.int .i64) (.pair (.pair (.int .i64) (.pair (.int .i64) (.pair (.int .i64) (.pair (.int .i64) (.pair (.int .i64) .unit))))) (.pair (.pair (.int .i64) (.pair (.int .i64) .unit)) .unit))))), .imm false (.slice 3 (.int .i64)), .imm false (.slice 103 (.pair (.int .i64) (.pair (.int .i64) (.pair (.pair (.int .i64) (.pair (.int .i64) .unit)) .unit))))], [.deep false (.slice 3 (.int .i64)), .imm false (.int .i64), .imm false .bool], fun x => S_impl_PartBook x.1 x.2.1 x.2.2.1⟩
theorem ok35 : FOk Try.prog 35 s35 := fn_says env35 Try.func35 rfl fun x y h => ⟨0, (r35 0 x.1 x.2.1 x.2.2.1).trans h⟩
theorem enters35 : Enters Try.prog 35 := enters Try.func35 (by kernel_rfl) rfl

/-! ## loop.example/g00698/laws.FnExactPartBook -/
noncomputable def E6 : Env := { tab := tab, sig := [(10, s10), (32, s32), (12, s12), (13, s13), (34, s34), (33, s33), (35, s35), (17, s17), (16, s16), (24, s24), (18, s18), (19, s19), (25, s25), (36, s36)], clos := [], live := [], eqs := [], inl := [] }
set_option maxRecDepth 100000 in
theorem r6 (N : Nat) (a0 : List T4) (a1 : List Int) (a2 : List T5) : runF N E6 Try.f6 [.imm false (.slice 97 (.pair (.int .i64) (.pair (.int .i64) (.pair (.pair (.int .i64) (.pair (.int .i64) (.pair (.int .i64) (.pair (.int .i64) (.pair (.int .i64) .unit))))) (.pair (.pair (.int .i64) (.pair (.int .i64) .unit)) .unit))))), .imm false (.slice 3 (.int .i64)), .imm false (.slice 118 (.pair (.int .i64) (.pair (.int .i64) (.pair (.pair (.int .i64) (.pair (.int .i64) .unit)) .unit))))] [.imm false .bool] (a0, a1, a2, ()) = p_laws_FnExactPartBook N a0 a1 a2 := by kernel_rfl
theorem env6 : EnvOk Try.prog E6 := envOk mixed tabOk ⟨⟨enters10, ok10⟩, ⟨enters32, ok32⟩, ⟨enters12, ok12⟩, ⟨enters13, ok13⟩, ⟨enters34, ok34⟩, ⟨enters33, ok33⟩, ⟨enters35, ok35⟩, ⟨enters17, ok17⟩, ⟨enters16, ok16⟩, ⟨enters24, ok24⟩, ⟨enters18, ok18⟩, ⟨enters19, ok19⟩, ⟨enters25, ok25⟩, ⟨enters36, ok36⟩, trivial⟩ trivial trivial

/-! ## loop.example/g00698/laws.szIntSS -/
noncomputable def E37 : Env := { tab := tab, sig := [(81, s81)], clos := [], live := [(0, [0, 1, 5], [])], eqs := [], inl := [] }
set_option maxRecDepth 100000 in
theorem r37 (N : Nat) (a0 : List (List Int)) (a1 : Int) : runF N E37 Try.f37 [.imm false (.slice 23 (.slice 3 (.int .i64))), .imm false (.int .i64)] [.imm false (.int .i64)] (a0, a1, ()) = p_laws_szIntSS N a0 a1 := by kernel_rfl
theorem env37 : EnvOk Try.prog E37 := envOk mixed tabOk ⟨⟨enters81, ok81⟩, trivial⟩ trivial trivial
noncomputable def s37 : FSpec := ⟨[.imm false (.slice 23 (.slice 3 (.int .i64))), .imm false (.int .i64)], [.imm false (.int .i64)], fun x => S_laws_szIntSS x.1 x.2.1⟩
theorem ok37 : FOk Try.prog 37 s37 := fn_says env37 Try.func37 rfl fun x y h => let ⟨N, hN⟩ := lim_some h; ⟨N, (r37 N x.1 x.2.1).trans hN⟩
theorem enters37 : Enters Try.prog 37 := enters Try.func37 (by kernel_rfl) rfl

/-! ## loop.example/g00698/laws.toIntSS -/
noncomputable def E39 : Env := { tab := tab, sig := [(13, s13)], clos := [], live := [(0, [0, 3, 4], [])], eqs := [], inl := [] }
set_option maxRecDepth 100000 in
theorem r39 (N : Nat) (a0 : List (List Int)) : runF N E39 Try.f39 [.imm false (.slice 23 (.slice 3 (.int .i64)))] [.deep false (.slice 23 (.slice 3 (.int .i64)))] (a0, ()) = p_laws_toIntSS N a0 := by kernel_rfl
theorem env39 : EnvOk Try.prog E39 := envOk mixed tabOk ⟨⟨enters13, ok13⟩, trivial⟩ trivial trivial
noncomputable def s39 : FSpec := ⟨[.imm false (.slice 23 (.slice 3 (.int .i64)))], [.deep false (.slice 23 (.slice 3 (.int .i64)))], fun x => S_laws_toIntSS x.1⟩
theorem ok39 : FOk Try.prog 39 s39 := fn_says env39 Try.func39 rfl fun x y h => let ⟨N, hN⟩ := lim_some h; ⟨N, (r39 N x.1).trans hN⟩
theorem enters39 : Enters Try.prog 39 := enters Try.func39 (by kernel_rfl) rfl

/-! ## loop.example/g00698/spec.GoodPlaces -/
noncomputable def E48 : Env := { tab := tab, sig := [(95, s95), (59, s59), (60, s60)], clos := [], live := [(0, [1, 5, 33, 34, 35], []), (2, [1, 5, 6, 22, 23, 24, 33, 34, 35], [])], eqs := [], inl := [] }
set_option maxRecDepth 100000 in
theorem r48 (N : Nat) (a0 : Int) (a1 : List (List Int)) : runF N E48 Try.f48 [.imm false (.int .i64), .imm false (.slice 23 (.slice 3 (.int .i64)))] [.imm false .bool] (a0, a1, ()) = p_spec_GoodPlaces N a0 a1 := by kernel_rfl
theorem env48 : EnvOk Try.prog E48 := envOk mixed tabOk ⟨⟨enters95, ok95⟩, ⟨enters59, ok59⟩, ⟨enters60, ok60⟩, trivial⟩ trivial trivial
noncomputable def s48 : FSpec := ⟨[.imm false (.int .i64), .imm false (.slice 23 (.slice 3 (.int .i64)))], [.imm false .bool], fun x => S_spec_GoodPlaces x.1 x.2.1⟩
theorem ok48 : FOk Try.prog 48 s48 := fn_says env48 Try.func48 rfl fun x y h => let ⟨N, hN⟩ := lim_some h; ⟨N, (r48 N x.1 x.2.1).trans hN⟩
theorem enters48 : Enters Try.prog 48 := enters Try.func48 (by kernel_rfl) rfl

/-! ## loop.example/g00698/spec.FullPart -/
noncomputable def E38 : Env := { tab := tab, sig := [(48, s48), (58, s58), (82, s82), (65, s65), (78, s78)], clos := [], live := [(0, [1, 2, 3, 10, 31, 32, 33], [])], eqs := [], inl := [] }
set_option maxRecDepth 100000 in
theorem r38 (N : Nat) (a0 : Int) (a1 : List (List Int)) (a2 : List T4) (a3 : Int) : runF N E38 Try.f38 [.imm false (.int .i64), .imm false (.slice 23 (.slice 3 (.int .i64))), .imm false (.slice 79 (.pair (.int .i64) (.pair (.int .i64) (.pair (.pair (.int .i64) (.pair (.int .i64) (.pair (.int .i64) (.pair (.int .i64) (.pair (.int .i64) .unit))))) (.pair (.pair (.int .i64) (.pair (.int .i64) .unit)) .unit))))), .imm false (.int .i64)] [.deep false (.slice 3 (.int .i64)), .imm false .bool] (a0, a1, a2, a3, ()) = p_spec_FullPart N a0 a1 a2 a3 := by kernel_rfl
theorem env38 : EnvOk Try.prog E38 := envOk mixed tabOk ⟨⟨enters48, ok48⟩, ⟨enters58, ok58⟩, ⟨enters82, ok82⟩, ⟨enters65, ok65⟩, ⟨enters78, ok78⟩, trivial⟩ trivial trivial
noncomputable def s38 : FSpec := ⟨[.imm false (.int .i64), .imm false (.slice 23 (.slice 3 (.int .i64))), .imm false (.slice 79 (.pair (.int .i64) (.pair (.int .i64) (.pair (.pair (.int .i64) (.pair (.int .i64) (.pair (.int .i64) (.pair (.int .i64) (.pair (.int .i64) .unit))))) (.pair (.pair (.int .i64) (.pair (.int .i64) .unit)) .unit))))), .imm false (.int .i64)], [.deep false (.slice 3 (.int .i64)), .imm false .bool], fun x => S_spec_FullPart x.1 x.2.1 x.2.2.1 x.2.2.2.1⟩
theorem ok38 : FOk Try.prog 38 s38 := fn_says env38 Try.func38 rfl fun x y h => let ⟨N, hN⟩ := lim_some h; ⟨N, (r38 N x.1 x.2.1 x.2.2.1 x.2.2.2.1).trans hN⟩
theorem enters38 : Enters Try.prog 38 := enters Try.func38 (by kernel_rfl) rfl

/-! ## slices.IndexFunc[[][]int,[]int] -/
noncomputable def E137 : Env := { tab := tab, sig := [], clos := [], live := [(0, [0, 1, 7, 8], [])], eqs := [], inl := [] }
set_option maxRecDepth 100000 in
theorem r137 (N : Nat) (a0 : List (List Int)) (a1 : (List Int × Unit) → Option Bool) : runF N E137 Try.f137 [.imm false (.slice 23 (.slice 3 (.int .i64))), .clo [(false, (.slice 3 (.int .i64)))] .bool] [.imm false (.int .i64)] (a0, a1, ()) = p_IndexFunc_LLint_Lint N a0 a1 := by kernel_rfl
theorem env137 : EnvOk Try.prog E137 := envOk mixed tabOk trivial trivial trivial
noncomputable def s137 : FSpec := ⟨[.imm false (.slice 23 (.slice 3 (.int .i64))), .clo [(false, (.slice 3 (.int .i64)))] .bool], [.imm false (.int .i64)], fun x => S_IndexFunc_LLint_Lint x.1 x.2.1⟩
theorem ok137 : FOk Try.prog 137 s137 := fn_says env137 Try.func137 rfl fun x y h => let ⟨N, hN⟩ := lim_some h; ⟨N, (r137 N x.1 x.2.1).trans hN⟩
theorem enters137 : Enters Try.prog 137 := enters Try.func137 (by kernel_rfl) rfl

/-! ## slices.ContainsFunc[[][]int,[]int] -/
noncomputable def E91 : Env := { tab := tab, sig := [(137, s137)], clos := [], live := [], eqs := [], inl := [] }
set_option maxRecDepth 100000 in
theorem r91 (N : Nat) (a0 : List (List Int)) (a1 : (List Int × Unit) → Option Bool) : runF N E91 Try.f91 [.imm false (.slice 23 (.slice 3 (.int .i64))), .clo [(false, (.slice 3 (.int .i64)))] .bool] [.imm false .bool] (a0, a1, ()) = p_ContainsFunc_LLint_Lint N a0 a1 := by kernel_rfl
theorem env91 : EnvOk Try.prog E91 := envOk mixed tabOk ⟨⟨enters137, ok137⟩, trivial⟩ trivial trivial
noncomputable def s91 : FSpec := ⟨[.imm false (.slice 23 (.slice 3 (.int .i64))), .clo [(false, (.slice 3 (.int .i64)))] .bool], [.imm false .bool], fun x => S_ContainsFunc_LLint_Lint x.1 x.2.1⟩
theorem ok91 : FOk Try.prog 91 s91 := fn_says env91 Try.func91 rfl fun x y h => ⟨0, (r91 0 x.1 x.2.1).trans h⟩
theorem enters91 : Enters Try.prog 91 := enters Try.func91 (by kernel_rfl) rfl

/-! ## loop.example/g00698/impl.hosts -/
noncomputable def E94 : Env := { tab := tab, sig := [(63, s63)], clos := [], live := [(0, [1, 5, 9, 10, 11], [])], eqs := [], inl := [] }
set_option maxRecDepth 100000 in
theorem r94 (N : Nat) (a0 : List (List Int)) (a1 : Int) : runF N E94 Try.f94 [.imm false (.slice 23 (.slice 3 (.int .i64))), .imm false (.int .i64)] [.deep false (.slice 3 (.int .i64))] (a0, a1, ()) = p_impl_hosts N a0 a1 := by kernel_rfl
theorem env94 : EnvOk Try.prog E94 := envOk mixed tabOk ⟨⟨enters63, ok63⟩, trivial⟩ trivial trivial
noncomputable def s94 : FSpec := ⟨[.imm false (.slice 23 (.slice 3 (.int .i64))), .imm false (.int .i64)], [.deep false (.slice 3 (.int .i64))], fun x => S_impl_hosts x.1 x.2.1⟩
theorem ok94 : FOk Try.prog 94 s94 := fn_says env94 Try.func94 rfl fun x y h => let ⟨N, hN⟩ := lim_some h; ⟨N, (r94 N x.1 x.2.1).trans hN⟩
theorem enters94 : Enters Try.prog 94 := enters Try.func94 (by kernel_rfl) rfl

/-! ## loop.example/g00698/impl.GoodPlaces -/
theorem enters92 : Enters Try.prog 92 := enters Try.func92 (by kernel_rfl) rfl
noncomputable def E47 : Env := { tab := tab, sig := [(90, s90), (91, s91), (93, s93), (94, s94)], clos := [(92, ⟨Try.f92, [(false, (.slice 3 (.int .i64)))], []⟩)], live := [(0, [1, 19], [])], eqs := [], inl := [] }
set_option maxRecDepth 100000 in
theorem r47 (N : Nat) (a0 : Int) (a1 : List (List Int)) : runF N E47 Try.f47 [.imm false (.int .i64), .imm false (.slice 23 (.slice 3 (.int .i64)))] [.imm false .bool] (a0, a1, ()) = p_impl_GoodPlaces N a0 a1 := by kernel_rfl
theorem env47 : EnvOk Try.prog E47 := envOk mixed tabOk ⟨⟨enters90, ok90⟩, ⟨enters91, ok91⟩, ⟨enters93, ok93⟩, ⟨enters94, ok94⟩, trivial⟩ ⟨⟨Try.func92, enters92⟩, trivial⟩ trivial
noncomputable def s47 : FSpec := ⟨[.imm false (.int .i64), .imm false (.slice 23 (.slice 3 (.int .i64)))], [.imm false .bool], fun x => S_impl_GoodPlaces x.1 x.2.1⟩
theorem ok47 : FOk Try.prog 47 s47 := fn_says env47 Try.func47 rfl fun x y h => let ⟨N, hN⟩ := lim_some h; ⟨N, (r47 N x.1 x.2.1).trans hN⟩
theorem enters47 : Enters Try.prog 47 := enters Try.func47 (by kernel_rfl) rfl

/-! ## loop.example/g00698/impl.FullPart -/
noncomputable def E40 : Env := { tab := tab, sig := [(47, s47), (76, s76), (62, s62), (66, s66), (80, s80)], clos := [], live := [(0, [1, 2, 3, 10, 36, 37, 38], [])], eqs := [], inl := [] }
set_option maxRecDepth 100000 in
theorem r40 (N : Nat) (a0 : Int) (a1 : List (List Int)) (a2 : List T4) (a3 : Int) : runF N E40 Try.f40 [.imm false (.int .i64), .imm false (.slice 23 (.slice 3 (.int .i64))), .imm false (.slice 79 (.pair (.int .i64) (.pair (.int .i64) (.pair (.pair (.int .i64) (.pair (.int .i64) (.pair (.int .i64) (.pair (.int .i64) (.pair (.int .i64) .unit))))) (.pair (.pair (.int .i64) (.pair (.int .i64) .unit)) .unit))))), .imm false (.int .i64)] [.deep false (.slice 3 (.int .i64)), .imm false .bool] (a0, a1, a2, a3, ()) = p_impl_FullPart N a0 a1 a2 a3 := by kernel_rfl
theorem env40 : EnvOk Try.prog E40 := envOk mixed tabOk ⟨⟨enters47, ok47⟩, ⟨enters76, ok76⟩, ⟨enters62, ok62⟩, ⟨enters66, ok66⟩, ⟨enters80, ok80⟩, trivial⟩ trivial trivial
noncomputable def s40 : FSpec := ⟨[.imm false (.int .i64), .imm false (.slice 23 (.slice 3 (.int .i64))), .imm false (.slice 79 (.pair (.int .i64) (.pair (.int .i64) (.pair (.pair (.int .i64) (.pair (.int .i64) (.pair (.int .i64) (.pair (.int .i64) (.pair (.int .i64) .unit))))) (.pair (.pair (.int .i64) (.pair (.int .i64) .unit)) .unit))))), .imm false (.int .i64)], [.deep false (.slice 3 (.int .i64)), .imm false .bool], fun x => S_impl_FullPart x.1 x.2.1 x.2.2.1 x.2.2.2.1⟩
theorem ok40 : FOk Try.prog 40 s40 := fn_says env40 Try.func40 rfl fun x y h => let ⟨N, hN⟩ := lim_some h; ⟨N, (r40 N x.1 x.2.1 x.2.2.1 x.2.2.2.1).trans hN⟩
theorem enters40 : Enters Try.prog 40 := enters Try.func40 (by kernel_rfl) rfl

/-! ## loop.example/g00698/laws.FnExactFullPart -/
noncomputable def E7 : Env := { tab := tab, sig := [(37, s37), (10, s10), (39, s39), (12, s12), (38, s38), (40, s40), (17, s17), (15, s15), (16, s16), (20, s20), (18, s18), (19, s19), (36, s36)], clos := [], live := [], eqs := [], inl := [] }
set_option maxRecDepth 100000 in
theorem r7 (N : Nat) (a0 : Int) (a1 : List (List Int)) (a2 : List T4) (a3 : Int) : runF N E7 Try.f7 [.imm false (.int .i64), .imm false (.slice 23 (.slice 3 (.int .i64))), .imm false (.slice 97 (.pair (.int .i64) (.pair (.int .i64) (.pair (.pair (.int .i64) (.pair (.int .i64) (.pair (.int .i64) (.pair (.int .i64) (.pair (.int .i64) .unit))))) (.pair (.pair (.int .i64) (.pair (.int .i64) .unit)) .unit))))), .imm false (.int .i64)] [.imm false .bool] (a0, a1, a2, a3, ()) = p_laws_FnExactFullPart N a0 a1 a2 a3 := by kernel_rfl
theorem env7 : EnvOk Try.prog E7 := envOk mixed tabOk ⟨⟨enters37, ok37⟩, ⟨enters10, ok10⟩, ⟨enters39, ok39⟩, ⟨enters12, ok12⟩, ⟨enters38, ok38⟩, ⟨enters40, ok40⟩, ⟨enters17, ok17⟩, ⟨enters15, ok15⟩, ⟨enters16, ok16⟩, ⟨enters20, ok20⟩, ⟨enters18, ok18⟩, ⟨enters19, ok19⟩, ⟨enters36, ok36⟩, trivial⟩ trivial trivial

/-! ## loop.example/g00698/spec.l1Own -/
noncomputable def E178 : Env := { tab := tab, sig := [], clos := [], live := [], eqs := [], inl := [] }
set_option maxRecDepth 100000 in
theorem r178 (N : Nat) (a0 : List Int) : runF N E178 Try.f178 [.imm false (.slice 3 (.int .i64))] [.deep false (.slice 3 (.int .i64))] (a0, ()) = p_spec_l1Own N a0 := by kernel_rfl
theorem env178 : EnvOk Try.prog E178 := envOk mixed tabOk trivial trivial trivial
noncomputable def s178 : FSpec := ⟨[.imm false (.slice 3 (.int .i64))], [.deep false (.slice 3 (.int .i64))], fun x => S_spec_l1Own x.1⟩
theorem ok178 : FOk Try.prog 178 s178 := fn_says env178 Try.func178 rfl fun x y h => ⟨0, (r178 0 x.1).trans h⟩
theorem enters178 : Enters Try.prog 178 := enters Try.func178 (by kernel_rfl) rfl

/-! ## loop.example/g00698/spec.l4OwnAttr -/
noncomputable def E181 : Env := { tab := tab, sig := [(178, s178)], clos := [], live := [], eqs := [], inl := [] }
set_option maxRecDepth 100000 in
theorem r181 (N : Nat) (a0 : T6) : runF N E181 Try.f181 [.imm true (.pair (.int .i64) (.pair (.slice 3 (.int .i64)) .unit))] [.deep true (.pair (.int .i64) (.pair (.slice 3 (.int .i64)) .unit))] (a0, ()) = p_spec_l4OwnAttr N a0 := by kernel_rfl
theorem env181 : EnvOk Try.prog E181 := envOk mixed tabOk ⟨⟨enters178, ok178⟩, trivial⟩ trivial trivial
noncomputable def s181 : FSpec := ⟨[.imm true (.pair (.int .i64) (.pair (.slice 3 (.int .i64)) .unit))], [.deep true (.pair (.int .i64) (.pair (.slice 3 (.int .i64)) .unit))], fun x => S_spec_l4OwnAttr x.1⟩
theorem ok181 : FOk Try.prog 181 s181 := fn_says env181 Try.func181 rfl fun x y h => ⟨0, (r181 0 x.1).trans h⟩
theorem enters181 : Enters Try.prog 181 := enters Try.func181 (by kernel_rfl) rfl

/-! ## loop.example/g00698/spec.l4OwnRow -/
noncomputable def E176 : Env := { tab := tab, sig := [(181, s181)], clos := [], live := [], eqs := [], inl := [] }
set_option maxRecDepth 100000 in
theorem r176 (N : Nat) (a0 : T7) : runF N E176 Try.f176 [.imm true (.pair (.int .i64) (.pair (.int .i64) (.pair (.int .i64) (.pair (.pair (.int .i64) (.pair (.int .i64) (.pair (.int .i64) (.pair (.int .i64) (.pair (.int .i64) .unit))))) (.pair (.pair (.int .i64) (.pair (.slice 3 (.int .i64)) .unit)) .unit)))))] [.deep true (.pair (.int .i64) (.pair (.int .i64) (.pair (.int .i64) (.pair (.pair (.int .i64) (.pair (.int .i64) (.pair (.int .i64) (.pair (.int .i64) (.pair (.int .i64) .unit))))) (.pair (.pair (.int .i64) (.pair (.slice 3 (.int .i64)) .unit)) .unit)))))] (a0, ()) = p_spec_l4OwnRow N a0 := by kernel_rfl
theorem env176 : EnvOk Try.prog E176 := envOk mixed tabOk ⟨⟨enters181, ok181⟩, trivial⟩ trivial trivial
noncomputable def s176 : FSpec := ⟨[.imm true (.pair (.int .i64) (.pair (.int .i64) (.pair (.int .i64) (.pair (.pair (.int .i64) (.pair (.int .i64) (.pair (.int .i64) (.pair (.int .i64) (.pair (.int .i64) .unit))))) (.pair (.pair (.int .i64) (.pair (.slice 3 (.int .i64)) .unit)) .unit)))))], [.deep true (.pair (.int .i64) (.pair (.int .i64) (.pair (.int .i64) (.pair (.pair (.int .i64) (.pair (.int .i64) (.pair (.int .i64) (.pair (.int .i64) (.pair (.int .i64) .unit))))) (.pair (.pair (.int .i64) (.pair (.slice 3 (.int .i64)) .unit)) .unit)))))], fun x => S_spec_l4OwnRow x.1⟩
theorem ok176 : FOk Try.prog 176 s176 := fn_says env176 Try.func176 rfl fun x y h => ⟨0, (r176 0 x.1).trans h⟩
theorem enters176 : Enters Try.prog 176 := enters Try.func176 (by kernel_rfl) rfl

/-! ## loop.example/g00698/spec.l4At -/
noncomputable def E162 : Env := { tab := tab, sig := [(152, s152), (176, s176)], clos := [], live := [], eqs := [], inl := [] }
set_option maxRecDepth 100000 in
theorem r162 (N : Nat) (a0 : T8) (a1 : Int) (a2 : Int) : runF N E162 Try.f162 [.imm true (.pair (.int .i64) (.pair (.slice 107 (.slice 150 (.pair (.int .i64) (.pair (.int .i64) (.pair (.int .i64) (.pair (.pair (.int .i64) (.pair (.int .i64) (.pair (.int .i64) (.pair (.int .i64) (.pair (.int .i64) .unit))))) (.pair (.pair (.int .i64) (.pair (.slice 3 (.int .i64)) .unit)) .unit))))))) .unit)), .imm false (.int .i64), .imm false (.int .i64)] [.deep true (.pair (.int .i64) (.pair (.int .i64) (.pair (.int .i64) (.pair (.pair (.int .i64) (.pair (.int .i64) (.pair (.int .i64) (.pair (.int .i64) (.pair (.int .i64) .unit))))) (.pair (.pair (.int .i64) (.pair (.slice 3 (.int .i64)) .unit)) .unit)))))] (a0, a1, a2, ()) = p_spec_l4At N a0 a1 a2 := by kernel_rfl
theorem env162 : EnvOk Try.prog E162 := envOk mixed tabOk ⟨⟨enters152, ok152⟩, ⟨enters176, ok176⟩, trivial⟩ trivial trivial
noncomputable def s162 : FSpec := ⟨[.imm true (.pair (.int .i64) (.pair (.slice 107 (.slice 150 (.pair (.int .i64) (.pair (.int .i64) (.pair (.int .i64) (.pair (.pair (.int .i64) (.pair (.int .i64) (.pair (.int .i64) (.pair (.int .i64) (.pair (.int .i64) .unit))))) (.pair (.pair (.int .i64) (.pair (.slice 3 (.int .i64)) .unit)) .unit))))))) .unit)), .imm false (.int .i64), .imm false (.int .i64)], [.deep true (.pair (.int .i64) (.pair (.int .i64) (.pair (.int .i64) (.pair (.pair (.int .i64) (.pair (.int .i64) (.pair (.int .i64) (.pair (.int .i64) (.pair (.int .i64) .unit))))) (.pair (.pair (.int .i64) (.pair (.slice 3 (.int .i64)) .unit)) .unit)))))], fun x => S_spec_l4At x.1 x.2.1 x.2.2.1⟩
theorem ok162 : FOk Try.prog 162 s162 := fn_says env162 Try.func162 rfl fun x y h => ⟨0, (r162 0 x.1 x.2.1 x.2.2.1).trans h⟩
theorem enters162 : Enters Try.prog 162 := enters Try.func162 (by kernel_rfl) rfl

/-! ## loop.example/g00698/spec.l10Open -/
noncomputable def E127 : Env := { tab := tab, sig := [(71, s71), (162, s162)], clos := [], live := [(0, [1, 2, 5, 6, 27, 28, 29, 109, 110, 111, 112, 113, 114, 115, 116, 117, 118, 119], []), (2, [1, 2, 5, 6, 27, 28, 29, 40, 41, 42, 109, 110, 111, 112, 113, 114, 115, 116, 117, 118, 119], []), (4, [1, 2, 5, 6, 27, 28, 29, 40, 41, 42, 57, 58, 59, 109, 110, 111, 112, 113, 114, 115, 116, 117, 118, 119], []), (6, [1, 2, 5, 6, 13, 27, 28, 29, 40, 41, 42, 57, 58, 59, 65, 66, 67, 109, 110, 111, 112, 113, 114, 115, 116, 117, 118, 119], []), (8, [1, 2, 5, 6, 16, 17, 109, 110, 111, 112, 113, 114, 115, 116, 117, 118, 119], []), (10, [1, 2, 5, 6, 16, 17, 18, 109, 110, 111, 112, 113, 114, 115, 116, 117, 118, 119], []), (12, [1, 2, 5, 6, 16, 17, 18, 19, 101, 102, 103, 109, 110, 111, 112, 113, 114, 115, 116, 117, 118, 119], [])], eqs := [], inl := [] }
set_option maxRecDepth 100000 in
theorem r127 (N : Nat) (a0 : T13) (a1 : List Int) : runF N E127 Try.f127 [.imm true (.pair (.slice 171 (.pair (.int .i64) (.pair (.pair (.int .i64) (.pair (.slice 107 (.slice 150 (.pair (.int .i64) (.pair (.int .i64) (.pair (.int .i64) (.pair (.pair (.int .i64) (.pair (.int .i64) (.pair (.int .i64) (.pair (.int .i64) (.pair (.int .i64) .unit))))) (.pair (.pair (.int .i64) (.pair (.slice 3 (.int .i64)) .unit)) .unit))))))) .unit)) (.pair (.slice 237 (.pair (.int .i64) (.pair (.int .i64) (.pair (.int .i64) (.pair (.int .i64) (.pair (.pair (.int .i64) (.pair (.int .i64) (.pair (.int .i64) (.pair (.int .i64) (.pair (.int .i64) .unit))))) (.pair (.pair (.int .i64) (.pair (.slice 3 (.int .i64)) .unit)) (.pair (.pair (.int .i64) (.pair (.slice 3 (.int .i64)) .unit)) (.pair .bool (.pair (.slice 3 (.int .i64)) (.pair (.slice 150 (.pair (.int .i64) (.pair (.int .i64) (.pair (.int .i64) (.pair (.pair (.int .i64) (.pair (.int .i64) (.pair (.int .i64) (.pair (.int .i64) (.pair (.int .i64) .unit))))) (.pair (.pair (.int .i64) (.pair (.slice 3 (.int .i64)) .unit)) .unit)))))) .unit))))))))))) .unit)))) (.pair (.slice 233 (.pair (.int .i64) (.pair (.int .i64) (.pair (.int .i64) (.pair (.int .i64) (.pair (.int .i64) (.pair (.int .i64) (.pair (.int .i64) (.pair (.int .i64) (.pair (.pair (.int .i64) (.pair (.int .i64) (.pair (.int .i64) (.pair (.int .i64) (.pair (.int .i64) .unit))))) (.pair (.pair (.int .i64) (.pair (.slice 3 (.int .i64)) .unit)) .unit))))))))))) (.pair (.slice 235 (.pair (.int .i64) (.pair (.int .i64) (.pair (.pair (.int .i64) (.pair (.int .i64) (.pair (.int .i64) (.pair (.int .i64) (.pair (.int .i64) .unit))))) .unit)))) .unit))), .imm false (.slice 3 (.int .i64))] [.deep false (.slice 23 (.slice 3 (.int .i64)))] (a0, a1, ()) = p_spec_l10Open N a0 a1 := by kernel_rfl
theorem env127 : EnvOk Try.prog E127 := envOk mixed tabOk ⟨⟨enters71, ok71⟩, ⟨enters162, ok162⟩, trivial⟩ trivial trivial
noncomputable def s127 : FSpec := ⟨[.imm true (.pair (.slice 171 (.pair (.int .i64) (.pair (.pair (.int .i64) (.pair (.slice 107 (.slice 150 (.pair (.int .i64) (.pair (.int .i64) (.pair (.int .i64) (.pair (.pair (.int .i64) (.pair (.int .i64) (.pair (.int .i64) (.pair (.int .i64) (.pair (.int .i64) .unit))))) (.pair (.pair (.int .i64) (.pair (.slice 3 (.int .i64)) .unit)) .unit))))))) .unit)) (.pair (.slice 237 (.pair (.int .i64) (.pair (.int .i64) (.pair (.int .i64) (.pair (.int .i64) (.pair (.pair (.int .i64) (.pair (.int .i64) (.pair (.int .i64) (.pair (.int .i64) (.pair (.int .i64) .unit))))) (.pair (.pair (.int .i64) (.pair (.slice 3 (.int .i64)) .unit)) (.pair (.pair (.int .i64) (.pair (.slice 3 (.int .i64)) .unit)) (.pair .bool (.pair (.slice 3 (.int .i64)) (.pair (.slice 150 (.pair (.int .i64) (.pair (.int .i64) (.pair (.int .i64) (.pair (.pair (.int .i64) (.pair (.int .i64) (.pair (.int .i64) (.pair (.int .i64) (.pair (.int .i64) .unit))))) (.pair (.pair (.int .i64) (.pair (.slice 3 (.int .i64)) .unit)) .unit)))))) .unit))))))))))) .unit)))) (.pair (.slice 233 (.pair (.int .i64) (.pair (.int .i64) (.pair (.int .i64) (.pair (.int .i64) (.pair (.int .i64) (.pair (.int .i64) (.pair (.int .i64) (.pair (.int .i64) (.pair (.pair (.int .i64) (.pair (.int .i64) (.pair (.int .i64) (.pair (.int .i64) (.pair (.int .i64) .unit))))) (.pair (.pair (.int .i64) (.pair (.slice 3 (.int .i64)) .unit)) .unit))))))))))) (.pair (.slice 235 (.pair (.int .i64) (.pair (.int .i64) (.pair (.pair (.int .i64) (.pair (.int .i64) (.pair (.int .i64) (.pair (.int .i64) (.pair (.int .i64) .unit))))) .unit)))) .unit))), .imm false (.slice 3 (.int .i64))], [.deep false (.slice 23 (.slice 3 (.int .i64)))], fun x => S_spec_l10Open x.1 x.2.1⟩
theorem ok127 : FOk Try.prog 127 s127 := fn_says env127 Try.func127 rfl fun x y h => let ⟨N, hN⟩ := lim_some h; ⟨N, (r127 N x.1 x.2.1).trans hN⟩
theorem enters127 : Enters Try.prog 127 := enters Try.func127 (by kernel_rfl) rfl

/-! ## (loop.example/g00698/impl.Table).mentioned -/
theorem enters163 : Enters Try.prog 163 := enters Try.func163 (by kernel_rfl) rfl
theorem enters164 : Enters Try.prog 164 := enters Try.func164 (by kernel_rfl) rfl
noncomputable def E128 : Env := { tab := tab, sig := [], clos := [(163, ⟨Try.f163, [], [(0, [1, 9, 10, 11], []), (2, [1, 4, 9, 10, 11, 16, 17, 18], [])]⟩), (164, ⟨Try.f164, [], []⟩)], live := [(0, [1, 3, 9, 10], []), (2, [1, 3, 4, 5, 9, 10], [])], eqs := [], inl := [163, 164] }
set_option maxRecDepth 100000 in
theorem r128 (N : Nat) (a0 : T8) : runF N E128 Try.f128 [.imm true (.pair (.int .i64) (.pair (.slice 107 (.slice 150 (.pair (.int .i64) (.pair (.int .i64) (.pair (.int .i64) (.pair (.pair (.int .i64) (.pair (.int .i64) (.pair (.int .i64) (.pair (.int .i64) (.pair (.int .i64) .unit))))) (.pair (.pair (.int .i64) (.pair (.slice 3 (.int .i64)) .unit)) .unit))))))) .unit))] [.deep false (.slice 23 (.slice 3 (.int .i64)))] (a0, ()) = p_impl_Table_mentioned N a0 := by kernel_rfl
theorem env128 : EnvOk Try.prog E128 := envOk mixed tabOk trivial ⟨⟨Try.func163, enters163⟩, ⟨Try.func164, enters164⟩, trivial⟩ trivial
noncomputable def s128 : FSpec := ⟨[.imm true (.pair (.int .i64) (.pair (.slice 107 (.slice 150 (.pair (.int .i64) (.pair (.int .i64) (.pair (.int .i64) (.pair (.pair (.int .i64) (.pair (.int .i64) (.pair (.int .i64) (.pair (.int .i64) (.pair (.int .i64) .unit))))) (.pair (.pair (.int .i64) (.pair (.slice 3 (.int .i64)) .unit)) .unit))))))) .unit))], [.deep false (.slice 23 (.slice 3 (.int .i64)))], fun x => S_impl_Table_mentioned x.1⟩
theorem ok128 : FOk Try.prog 128 s128 := fn_says env128 Try.func128 rfl fun x y h => let ⟨N, hN⟩ := lim_some h; ⟨N, (r128 N x.1).trans hN⟩
theorem enters128 : Enters Try.prog 128 := enters Try.func128 (by kernel_rfl) rfl

/-! ## slices.Clone[[]int,int] -/
noncomputable def E182 : Env := { tab := tab, sig := [], clos := [], live := [], eqs := [], inl := [] }
set_option maxRecDepth 100000 in
theorem r182 (N : Nat) (a0 : List Int) : runF N E182 Try.f182 [.imm false (.slice 3 (.int .i64))] [.deep false (.slice 3 (.int .i64))] (a0, ()) = p_Clone_Lint_int N a0 := by kernel_rfl
theorem env182 : EnvOk Try.prog E182 := envOk mixed tabOk trivial trivial trivial
noncomputable def s182 : FSpec := ⟨[.imm false (.slice 3 (.int .i64))], [.deep false (.slice 3 (.int .i64))], fun x => S_Clone_Lint_int x.1⟩
theorem ok182 : FOk Try.prog 182 s182 := fn_says env182 Try.func182 rfl fun x y h => ⟨0, (r182 0 x.1).trans h⟩
theorem enters182 : Enters Try.prog 182 := enters Try.func182 (by kernel_rfl) rfl

/-! ## (loop.example/g00698/impl.Attr).copied -/
noncomputable def E177 : Env := { tab := tab, sig := [(182, s182)], clos := [], live := [], eqs := [], inl := [] }
set_option maxRecDepth 100000 in
theorem r177 (N : Nat) (a0 : T6) : runF N E177 Try.f177 [.imm true (.pair (.int .i64) (.pair (.slice 3 (.int .i64)) .unit))] [.deep true (.pair (.int .i64) (.pair (.slice 3 (.int .i64)) .unit))] (a0, ()) = p_impl_Attr_copied N a0 := by kernel_rfl
theorem env177 : EnvOk Try.prog E177 := envOk mixed tabOk ⟨⟨enters182, ok182⟩, trivial⟩ trivial trivial
noncomputable def s177 : FSpec := ⟨[.imm true (.pair (.int .i64) (.pair (.slice 3 (.int .i64)) .unit))], [.deep true (.pair (.int .i64) (.pair (.slice 3 (.int .i64)) .unit))], fun x => S_impl_Attr_copied x.1⟩
theorem ok177 : FOk Try.prog 177 s177 := fn_says env177 Try.func177 rfl fun x y h => ⟨0, (r177 0 x.1).trans h⟩
theorem enters177 : Enters Try.prog 177 := enters Try.func177 (by kernel_rfl) rfl

/-! ## (loop.example/g00698/impl.Row).copied -/
noncomputable def E165 : Env := { tab := tab, sig := [(177, s177)], clos := [], live := [], eqs := [], inl := [] }
set_option maxRecDepth 100000 in
theorem r165 (N : Nat) (a0 : T7) : runF N E165 Try.f165 [.imm true (.pair (.int .i64) (.pair (.int .i64) (.pair (.int .i64) (.pair (.pair (.int .i64) (.pair (.int .i64) (.pair (.int .i64) (.pair (.int .i64) (.pair (.int .i64) .unit))))) (.pair (.pair (.int .i64) (.pair (.slice 3 (.int .i64)) .unit)) .unit)))))] [.deep true (.pair (.int .i64) (.pair (.int .i64) (.pair (.int .i64) (.pair (.pair (.int .i64) (.pair (.int .i64) (.pair (.int .i64) (.pair (.int .i64) (.pair (.int .i64) .unit))))) (.pair (.pair (.int .i64) (.pair (.slice 3 (.int .i64)) .unit)) .unit)))))] (a0, ()) = p_impl_Row_copied N a0 := by kernel_rfl
theorem env165 : EnvOk Try.prog E165 := envOk mixed tabOk ⟨⟨enters177, ok177⟩, trivial⟩ trivial trivial
noncomputable def s165 : FSpec := ⟨[.imm true (.pair (.int .i64) (.pair (.int .i64) (.pair (.int .i64) (.pair (.pair (.int .i64) (.pair (.int .i64) (.pair (.int .i64) (.pair (.int .i64) (.pair (.int .i64) .unit))))) (.pair (.pair (.int .i64) (.pair (.slice 3 (.int .i64)) .unit)) .unit)))))], [.deep true (.pair (.int .i64) (.pair (.int .i64) (.pair (.int .i64) (.pair (.pair (.int .i64) (.pair (.int .i64) (.pair (.int .i64) (.pair (.int .i64) (.pair (.int .i64) .unit))))) (.pair (.pair (.int .i64) (.pair (.slice 3 (.int .i64)) .unit)) .unit)))))], fun x => S_impl_Row_copied x.1⟩
theorem ok165 : FOk Try.prog 165 s165 := fn_says env165 Try.func165 rfl fun x y h => ⟨0, (r165 0 x.1).trans h⟩
theorem enters165 : Enters Try.prog 165 := enters Try.func165 (by kernel_rfl) rfl

/-! ## (loop.example/g00698/impl.Table).row -/
noncomputable def E131 : Env := { tab := tab, sig := [(165, s165), (159, s159)], clos := [], live := [], eqs := [], inl := [] }
set_option maxRecDepth 100000 in
theorem r131 (N : Nat) (a0 : T8) (a1 : Int) (a2 : Int) : runF N E131 Try.f131 [.imm true (.pair (.int .i64) (.pair (.slice 107 (.slice 150 (.pair (.int .i64) (.pair (.int .i64) (.pair (.int .i64) (.pair (.pair (.int .i64) (.pair (.int .i64) (.pair (.int .i64) (.pair (.int .i64) (.pair (.int .i64) .unit))))) (.pair (.pair (.int .i64) (.pair (.slice 3 (.int .i64)) .unit)) .unit))))))) .unit)), .imm false (.int .i64), .imm false (.int .i64)] [.deep true (.pair (.int .i64) (.pair (.int .i64) (.pair (.int .i64) (.pair (.pair (.int .i64) (.pair (.int .i64) (.pair (.int .i64) (.pair (.int .i64) (.pair (.int .i64) .unit))))) (.pair (.pair (.int .i64) (.pair (.slice 3 (.int .i64)) .unit)) .unit)))))] (a0, a1, a2, ()) = p_impl_Table_row N a0 a1 a2 := by kernel_rfl
theorem env131 : EnvOk Try.prog E131 := envOk mixed tabOk ⟨⟨enters165, ok165⟩, ⟨enters159, ok159⟩, trivial⟩ trivial trivial
noncomputable def s131 : FSpec := ⟨[.imm true (.pair (.int .i64) (.pair (.slice 107 (.slice 150 (.pair (.int .i64) (.pair (.int .i64) (.pair (.int .i64) (.pair (.pair (.int .i64) (.pair (.int .i64) (.pair (.int .i64) (.pair (.int .i64) (.pair (.int .i64) .unit))))) (.pair (.pair (.int .i64) (.pair (.slice 3 (.int .i64)) .unit)) .unit))))))) .unit)), .imm false (.int .i64), .imm false (.int .i64)], [.deep true (.pair (.int .i64) (.pair (.int .i64) (.pair (.int .i64) (.pair (.pair (.int .i64) (.pair (.int .i64) (.pair (.int .i64) (.pair (.int .i64) (.pair (.int .i64) .unit))))) (.pair (.pair (.int .i64) (.pair (.slice 3 (.int .i64)) .unit)) .unit)))))], fun x => S_impl_Table_row x.1 x.2.1 x.2.2.1⟩
theorem ok131 : FOk Try.prog 131 s131 := fn_says env131 Try.func131 rfl fun x y h => ⟨0, (r131 0 x.1 x.2.1 x.2.2.1).trans h⟩
theorem enters131 : Enters Try.prog 131 := enters Try.func131 (by kernel_rfl) rfl

/-! ## loop.example/g00698/laws.markRowS -/
noncomputable def E132 : Env := { tab := tab, sig := [(19, s19)], clos := [], live := [(0, [0, 1, 5], [])], eqs := [], inl := [] }
set_option maxRecDepth 100000 in
theorem r132 (N : Nat) (a0 : List T7) (a1 : Int) : runF N E132 Try.f132 [.mut false (.slice 150 (.pair (.int .i64) (.pair (.int .i64) (.pair (.int .i64) (.pair (.pair (.int .i64) (.pair (.int .i64) (.pair (.int .i64) (.pair (.int .i64) (.pair (.int .i64) .unit))))) (.pair (.pair (.int .i64) (.pair (.slice 3 (.int .i64)) .unit)) .unit)))))), .imm false (.int .i64)] [.imm false (.int .i64)] (a0, a1, ()) = p_laws_markRowS N a0 a1 := by kernel_rfl
theorem env132 : EnvOk Try.prog E132 := envOk mixed tabOk ⟨⟨enters19, ok19⟩, trivial⟩ trivial trivial
noncomputable def s132 : FSpec := ⟨[.mut false (.slice 150 (.pair (.int .i64) (.pair (.int .i64) (.pair (.int .i64) (.pair (.pair (.int .i64) (.pair (.int .i64) (.pair (.int .i64) (.pair (.int .i64) (.pair (.int .i64) .unit))))) (.pair (.pair (.int .i64) (.pair (.slice 3 (.int .i64)) .unit)) .unit)))))), .imm false (.int .i64)], [.imm false (.int .i64)], fun x => S_laws_markRowS x.1 x.2.1⟩
theorem ok132 : FOk Try.prog 132 s132 := fn_says env132 Try.func132 rfl fun x y h => let ⟨N, hN⟩ := lim_some h; ⟨N, (r132 N x.1 x.2.1).trans hN⟩
theorem enters132 : Enters Try.prog 132 := enters Try.func132 (by kernel_rfl) rfl

/-! ## loop.example/g00698/laws.markRowSS -/
noncomputable def E85 : Env := { tab := tab, sig := [(132, s132)], clos := [], live := [(0, [0, 1, 5], [])], eqs := [], inl := [] }
set_option maxRecDepth 100000 in
theorem r85 (N : Nat) (a0 : List (List T7)) (a1 : Int) : runF N E85 Try.f85 [.mut false (.slice 107 (.slice 150 (.pair (.int .i64) (.pair (.int .i64) (.pair (.int .i64) (.pair (.pair (.int .i64) (.pair (.int .i64) (.pair (.int .i64) (.pair (.int .i64) (.pair (.int .i64) .unit))))) (.pair (.pair (.int .i64) (.pair (.slice 3 (.int .i64)) .unit)) .unit))))))), .imm false (.int .i64)] [.imm false (.int .i64)] (a0, a1, ()) = p_laws_markRowSS N a0 a1 := by kernel_rfl
theorem env85 : EnvOk Try.prog E85 := envOk mixed tabOk ⟨⟨enters132, ok132⟩, trivial⟩ trivial trivial
noncomputable def s85 : FSpec := ⟨[.mut false (.slice 107 (.slice 150 (.pair (.int .i64) (.pair (.int .i64) (.pair (.int .i64) (.pair (.pair (.int .i64) (.pair (.int .i64) (.pair (.int .i64) (.pair (.int .i64) (.pair (.int .i64) .unit))))) (.pair (.pair (.int .i64) (.pair (.slice 3 (.int .i64)) .unit)) .unit))))))), .imm false (.int .i64)], [.imm false (.int .i64)], fun x => S_laws_markRowSS x.1 x.2.1⟩
theorem ok85 : FOk Try.prog 85 s85 := fn_says env85 Try.func85 rfl fun x y h => let ⟨N, hN⟩ := lim_some h; ⟨N, (r85 N x.1 x.2.1).trans hN⟩
theorem enters85 : Enters Try.prog 85 := enters Try.func85 (by kernel_rfl) rfl

/-! ## loop.example/g00698/laws.markTable -/
noncomputable def E43 : Env := { tab := tab, sig := [(85, s85)], clos := [], live := [], eqs := [], inl := [] }
set_option maxRecDepth 100000 in
theorem r43 (N : Nat) (a0 : T8) (a1 : Int) : runF N E43 Try.f43 [.mut true (.pair (.int .i64) (.pair (.slice 107 (.slice 150 (.pair (.int .i64) (.pair (.int .i64) (.pair (.int .i64) (.pair (.pair (.int .i64) (.pair (.int .i64) (.pair (.int .i64) (.pair (.int .i64) (.pair (.int .i64) .unit))))) (.pair (.pair (.int .i64) (.pair (.slice 3 (.int .i64)) .unit)) .unit))))))) .unit)), .imm false (.int .i64)] [.imm false (.int .i64)] (a0, a1, ()) = p_laws_markTable N a0 a1 := by kernel_rfl
theorem env43 : EnvOk Try.prog E43 := envOk mixed tabOk ⟨⟨enters85, ok85⟩, trivial⟩ trivial trivial
noncomputable def s43 : FSpec := ⟨[.mut true (.pair (.int .i64) (.pair (.slice 107 (.slice 150 (.pair (.int .i64) (.pair (.int .i64) (.pair (.int .i64) (.pair (.pair (.int .i64) (.pair (.int .i64) (.pair (.int .i64) (.pair (.int .i64) (.pair (.int .i64) .unit))))) (.pair (.pair (.int .i64) (.pair (.slice 3 (.int .i64)) .unit)) .unit))))))) .unit)), .imm false (.int .i64)], [.imm false (.int .i64)], fun x => S_laws_markTable x.1 x.2.1⟩
theorem ok43 : FOk Try.prog 43 s43 := fn_says env43 Try.func43 rfl fun x y h => ⟨0, (r43 0 x.1 x.2.1).trans h⟩
theorem enters43 : Enters Try.prog 43 := enters Try.func43 (by kernel_rfl) rfl

/-! ## loop.example/g00698/laws.big -/
noncomputable def E44 : Env := { tab := tab, sig := [], clos := [], live := [], eqs := [], inl := [] }
set_option maxRecDepth 100000 in
theorem r44 (N : Nat) (a0 : List Int) (a1 : List Int) : runF N E44 Try.f44 [.imm false (.slice 5 (.int .u8)), .imm false (.slice 5 (.int .u8))] [.imm false .bool] (a0, a1, ()) = p_laws_big N a0 a1 := by kernel_rfl
theorem env44 : EnvOk Try.prog E44 := envOk mixed tabOk trivial trivial trivial
noncomputable def s44 : FSpec := ⟨[.imm false (.slice 5 (.int .u8)), .imm false (.slice 5 (.int .u8))], [.imm false .bool], fun x => S_laws_big x.1 x.2.1⟩
theorem ok44 : FOk Try.prog 44 s44 := fn_says env44 Try.func44 rfl fun x y h => ⟨0, (r44 0 x.1 x.2.1).trans h⟩
theorem enters44 : Enters Try.prog 44 := enters Try.func44 (by kernel_rfl) rfl

/-! ## loop.example/g00698/spec.l1Put -/
noncomputable def E133 : Env := { tab := tab, sig := [], clos := [], live := [(0, [0, 1, 5, 12, 13, 14, 15, 16, 17, 26, 27, 28, 29, 30, 31], [])], eqs := [], inl := [] }
set_option maxRecDepth 100000 in
theorem r133 (N : Nat) (a0 : List Int) (a1 : Int) : runF N E133 Try.f133 [.imm false (.slice 3 (.int .i64)), .imm false (.int .i64)] [.imm false (.slice 3 (.int .i64))] (a0, a1, ()) = p_spec_l1Put N a0 a1 := by kernel_rfl
theorem env133 : EnvOk Try.prog E133 := envOk mixed tabOk trivial trivial trivial
noncomputable def s133 : FSpec := ⟨[.imm false (.slice 3 (.int .i64)), .imm false (.int .i64)], [.imm false (.slice 3 (.int .i64))], fun x => S_spec_l1Put x.1 x.2.1⟩
theorem ok133 : FOk Try.prog 133 s133 := fn_says env133 Try.func133 rfl fun x y h => let ⟨N, hN⟩ := lim_some h; ⟨N, (r133 N x.1 x.2.1).trans hN⟩
theorem enters133 : Enters Try.prog 133 := enters Try.func133 (by kernel_rfl) rfl

/-! ## loop.example/g00698/spec.NewSums -/
noncomputable def E166 : Env := { tab := tab, sig := [], clos := [], live := [(0, [1, 2], [])], eqs := [], inl := [] }
set_option maxRecDepth 100000 in
theorem r166 (N : Nat)  : runF N E166 Try.f166 [] [.deep false (.slice 3 (.int .i64))] (()) = p_spec_NewSums N  := by kernel_rfl
theorem env166 : EnvOk Try.prog E166 := envOk mixed tabOk trivial trivial trivial
noncomputable def s166 : FSpec := ⟨[], [.deep false (.slice 3 (.int .i64))], fun x => S_spec_NewSums ⟩
theorem ok166 : FOk Try.prog 166 s166 := fn_says env166 Try.func166 rfl fun x y h => let ⟨N, hN⟩ := lim_some h; ⟨N, (r166 N ).trans hN⟩
theorem enters166 : Enters Try.prog 166 := enters Try.func166 (by kernel_rfl) rfl

/-! ## loop.example/g00698/spec.l11Apply -/
noncomputable def E167 : Env := { tab := tab, sig := [(178, s178)], clos := [], live := [], eqs := [], inl := [] }
set_option maxRecDepth 100000 in
theorem r167 (N : Nat) (a0 : List Int) (a1 : T2) : runF N E167 Try.f167 [.imm false (.slice 3 (.int .i64)), .imm true (.pair (.int .i64) (.pair (.int .i64) (.pair (.int .i64) (.pair (.int .i64) (.pair (.int .i64) .unit)))))] [.deep false (.slice 3 (.int .i64)), .imm true (.pair (.int .i64) (.pair (.int .i64) .unit))] (a0, a1, ()) = p_spec_l11Apply N a0 a1 := by kernel_rfl
theorem env167 : EnvOk Try.prog E167 := envOk mixed tabOk ⟨⟨enters178, ok178⟩, trivial⟩ trivial trivial
noncomputable def s167 : FSpec := ⟨[.imm false (.slice 3 (.int .i64)), .imm true (.pair (.int .i64) (.pair (.int .i64) (.pair (.int .i64) (.pair (.int .i64) (.pair (.int .i64) .unit)))))], [.deep false (.slice 3 (.int .i64)), .imm true (.pair (.int .i64) (.pair (.int .i64) .unit))], fun x => S_spec_l11Apply x.1 x.2.1⟩
theorem ok167 : FOk Try.prog 167 s167 := fn_says env167 Try.func167 rfl fun x y h => ⟨0, (r167 0 x.1 x.2.1).trans h⟩
theorem enters167 : Enters Try.prog 167 := enters Try.func167 (by kernel_rfl) rfl

/-! ## loop.example/g00698/laws.sameInts -/
noncomputable def E46 : Env := { tab := tab, sig := [], clos := [], live := [(0, [0, 1, 12, 13], [])], eqs := [], inl := [] }
set_option maxRecDepth 100000 in
theorem r46 (N : Nat) (a0 : List Int) (a1 : List Int) : runF N E46 Try.f46 [.imm false (.slice 3 (.int .i64)), .imm false (.slice 3 (.int .i64))] [.imm false .bool] (a0, a1, ()) = p_laws_sameInts N a0 a1 := by kernel_rfl
theorem env46 : EnvOk Try.prog E46 := envOk mixed tabOk trivial trivial trivial
noncomputable def s46 : FSpec := ⟨[.imm false (.slice 3 (.int .i64)), .imm false (.slice 3 (.int .i64))], [.imm false .bool], fun x => S_laws_sameInts x.1 x.2.1⟩
theorem ok46 : FOk Try.prog 46 s46 := fn_says env46 Try.func46 rfl fun x y h => let ⟨N, hN⟩ := lim_some h; ⟨N, (r46 N x.1 x.2.1).trans hN⟩
theorem enters46 : Enters Try.prog 46 := enters Try.func46 (by kernel_rfl) rfl

/-! ## slices.IndexFunc[[]loop.example/g00698/impl.Cmd,loop.example/g00698/impl.Cmd] -/
noncomputable def E168 : Env := { tab := tab, sig := [], clos := [], live := [(0, [0, 1, 7, 8], [])], eqs := [], inl := [] }
set_option maxRecDepth 100000 in
theorem r168 (N : Nat) (a0 : List T2) (a1 : (T2 × Unit) → Option Bool) : runF N E168 Try.f168 [.imm false (.slice 75 (.pair (.int .i64) (.pair (.int .i64) (.pair (.int .i64) (.pair (.int .i64) (.pair (.int .i64) .unit)))))), .clo [(true, (.pair (.int .i64) (.pair (.int .i64) (.pair (.int .i64) (.pair (.int .i64) (.pair (.int .i64) .unit))))))] .bool] [.imm false (.int .i64)] (a0, a1, ()) = p_IndexFunc_Limpl_Cmd_impl_Cmd N a0 a1 := by kernel_rfl
theorem env168 : EnvOk Try.prog E168 := envOk mixed tabOk trivial trivial trivial
noncomputable def s168 : FSpec := ⟨[.imm false (.slice 75 (.pair (.int .i64) (.pair (.int .i64) (.pair (.int .i64) (.pair (.int .i64) (.pair (.int .i64) .unit)))))), .clo [(true, (.pair (.int .i64) (.pair (.int .i64) (.pair (.int .i64) (.pair (.int .i64) (.pair (.int .i64) .unit))))))] .bool], [.imm false (.int .i64)], fun x => S_IndexFunc_Limpl_Cmd_impl_Cmd x.1 x.2.1⟩
theorem ok168 : FOk Try.prog 168 s168 := fn_says env168 Try.func168 rfl fun x y h => let ⟨N, hN⟩ := lim_some h; ⟨N, (r168 N x.1 x.2.1).trans hN⟩
theorem enters168 : Enters Try.prog 168 := enters Try.func168 (by kernel_rfl) rfl

/-! ## slices.ContainsFunc[[]loop.example/g00698/impl.Cmd,loop.example/g00698/impl.Cmd] -/
noncomputable def E140 : Env := { tab := tab, sig := [(168, s168)], clos := [], live := [], eqs := [], inl := [] }
set_option maxRecDepth 100000 in
theorem r140 (N : Nat) (a0 : List T2) (a1 : (T2 × Unit) → Option Bool) : runF N E140 Try.f140 [.imm false (.slice 75 (.pair (.int .i64) (.pair (.int .i64) (.pair (.int .i64) (.pair (.int .i64) (.pair (.int .i64) .unit)))))), .clo [(true, (.pair (.int .i64) (.pair (.int .i64) (.pair (.int .i64) (.pair (.int .i64) (.pair (.int .i64) .unit))))))] .bool] [.imm false .bool] (a0, a1, ()) = p_ContainsFunc_Limpl_Cmd_impl_Cmd N a0 a1 := by kernel_rfl
theorem env140 : EnvOk Try.prog E140 := envOk mixed tabOk ⟨⟨enters168, ok168⟩, trivial⟩ trivial trivial
noncomputable def s140 : FSpec := ⟨[.imm false (.slice 75 (.pair (.int .i64) (.pair (.int .i64) (.pair (.int .i64) (.pair (.int .i64) (.pair (.int .i64) .unit)))))), .clo [(true, (.pair (.int .i64) (.pair (.int .i64) (.pair (.int .i64) (.pair (.int .i64) (.pair (.int .i64) .unit))))))] .bool], [.imm false .bool], fun x => S_ContainsFunc_Limpl_Cmd_impl_Cmd x.1 x.2.1⟩
theorem ok140 : FOk Try.prog 140 s140 := fn_says env140 Try.func140 rfl fun x y h => ⟨0, (r140 0 x.1 x.2.1).trans h⟩
theorem enters140 : Enters Try.prog 140 := enters Try.func140 (by kernel_rfl) rfl

/-! ## loop.example/g00698/impl.goodCmds -/
theorem enters141 : Enters Try.prog 141 := enters Try.func141 (by kernel_rfl) rfl
noncomputable def E96 : Env := { tab := tab, sig := [(140, s140), (142, s142)], clos := [(141, ⟨Try.f141, [(true, (.pair (.int .i64) (.pair (.int .i64) (.pair (.int .i64) (.pair (.int .i64) (.pair (.int .i64) .unit))))))], []⟩)], live := [], eqs := [], inl := [] }
set_option maxRecDepth 100000 in
theorem r96 (N : Nat) (a0 : List T2) : runF N E96 Try.f96 [.imm false (.slice 75 (.pair (.int .i64) (.pair (.int .i64) (.pair (.int .i64) (.pair (.int .i64) (.pair (.int .i64) .unit))))))] [.imm false .bool] (a0, ()) = p_impl_goodCmds N a0 := by kernel_rfl
theorem env96 : EnvOk Try.prog E96 := envOk mixed tabOk ⟨⟨enters140, ok140⟩, ⟨enters142, ok142⟩, trivial⟩ ⟨⟨Try.func141, enters141⟩, trivial⟩ trivial
noncomputable def s96 : FSpec := ⟨[.imm false (.slice 75 (.pair (.int .i64) (.pair (.int .i64) (.pair (.int .i64) (.pair (.int .i64) (.pair (.int .i64) .unit))))))], [.imm false .bool], fun x => S_impl_goodCmds x.1⟩
theorem ok96 : FOk Try.prog 96 s96 := fn_says env96 Try.func96 rfl fun x y h => ⟨0, (r96 0 x.1).trans h⟩
theorem enters96 : Enters Try.prog 96 := enters Try.func96 (by kernel_rfl) rfl

/-! ## loop.example/g00698/impl.apply -/
noncomputable def E143 : Env := { tab := tab, sig := [], clos := [], live := [], eqs := [], inl := [] }
set_option maxRecDepth 100000 in
theorem r143 (N : Nat) (a0 : List Int) (a1 : T2) : runF N E143 Try.f143 [.mut false (.slice 3 (.int .i64)), .imm true (.pair (.int .i64) (.pair (.int .i64) (.pair (.int .i64) (.pair (.int .i64) (.pair (.int .i64) .unit)))))] [.imm true (.pair (.int .i64) (.pair (.int .i64) .unit))] (a0, a1, ()) = p_impl_apply N a0 a1 := by kernel_rfl
theorem env143 : EnvOk Try.prog E143 := envOk mixed tabOk trivial trivial trivial
noncomputable def s143 : FSpec := ⟨[.mut false (.slice 3 (.int .i64)), .imm true (.pair (.int .i64) (.pair (.int .i64) (.pair (.int .i64) (.pair (.int .i64) (.pair (.int .i64) .unit)))))], [.imm true (.pair (.int .i64) (.pair (.int .i64) .unit))], fun x => S_impl_apply x.1 x.2.1⟩
theorem ok143 : FOk Try.prog 143 s143 := fn_says env143 Try.func143 rfl fun x y h => ⟨0, (r143 0 x.1 x.2.1).trans h⟩
theorem enters143 : Enters Try.prog 143 := enters Try.func143 (by kernel_rfl) rfl

/-! ## loop.example/g00698/impl.playCmds -/
noncomputable def E97 : Env := { tab := tab, sig := [(124, s124), (143, s143)], clos := [], live := [(0, [4, 5, 10, 11, 12], [])], eqs := [], inl := [] }
set_option maxRecDepth 100000 in
theorem r97 (N : Nat) (a0 : List T2) : runF N E97 Try.f97 [.imm false (.slice 75 (.pair (.int .i64) (.pair (.int .i64) (.pair (.int .i64) (.pair (.int .i64) (.pair (.int .i64) .unit))))))] [.deep false (.slice 3 (.int .i64)), .deep false (.slice 77 (.pair (.int .i64) (.pair (.int .i64) .unit)))] (a0, ()) = p_impl_playCmds N a0 := by kernel_rfl
theorem env97 : EnvOk Try.prog E97 := envOk mixed tabOk ⟨⟨enters124, ok124⟩, ⟨enters143, ok143⟩, trivial⟩ trivial trivial
noncomputable def s97 : FSpec := ⟨[.imm false (.slice 75 (.pair (.int .i64) (.pair (.int .i64) (.pair (.int .i64) (.pair (.int .i64) (.pair (.int .i64) .unit))))))], [.deep false (.slice 3 (.int .i64)), .deep false (.slice 77 (.pair (.int .i64) (.pair (.int .i64) .unit)))], fun x => S_impl_playCmds x.1⟩
theorem ok97 : FOk Try.prog 97 s97 := fn_says env97 Try.func97 rfl fun x y h => let ⟨N, hN⟩ := lim_some h; ⟨N, (r97 N x.1).trans hN⟩
theorem enters97 : Enters Try.prog 97 := enters Try.func97 (by kernel_rfl) rfl

/-! ## loop.example/g00698/impl.PlayCmds -/
noncomputable def E49 : Env := { tab := tab, sig := [(96, s96), (97, s97)], clos := [], live := [], eqs := [], inl := [] }
set_option maxRecDepth 100000 in
theorem r49 (N : Nat) (a0 : List T2) : runF N E49 Try.f49 [.imm false (.slice 75 (.pair (.int .i64) (.pair (.int .i64) (.pair (.int .i64) (.pair (.int .i64) (.pair (.int .i64) .unit))))))] [.deep false (.slice 3 (.int .i64)), .deep false (.slice 77 (.pair (.int .i64) (.pair (.int .i64) .unit))), .imm false .bool] (a0, ()) = p_impl_PlayCmds N a0 := by kernel_rfl
theorem env49 : EnvOk Try.prog E49 := envOk mixed tabOk ⟨⟨enters96, ok96⟩, ⟨enters97, ok97⟩, trivial⟩ trivial trivial
noncomputable def s49 : FSpec := ⟨[.imm false (.slice 75 (.pair (.int .i64) (.pair (.int .i64) (.pair (.int .i64) (.pair (.int .i64) (.pair (.int .i64) .unit))))))], [.deep false (.slice 3 (.int .i64)), .deep false (.slice 77 (.pair (.int .i64) (.pair (.int .i64) .unit))), .imm false .bool], fun x => S_impl_PlayCmds x.1⟩
theorem ok49 : FOk Try.prog 49 s49 := fn_says env49 Try.func49 rfl fun x y h => ⟨0, (r49 0 x.1).trans h⟩
theorem enters49 : Enters Try.prog 49 := enters Try.func49 (by kernel_rfl) rfl

/-! ## loop.example/g00698/impl.HostsOf -/
noncomputable def E50 : Env := { tab := tab, sig := [(47, s47), (98, s98), (94, s94)], clos := [], live := [], eqs := [], inl := [] }
set_option maxRecDepth 100000 in
theorem r50 (N : Nat) (a0 : Int) (a1 : List (List Int)) (a2 : Int) : runF N E50 Try.f50 [.imm false (.int .i64), .imm false (.slice 23 (.slice 3 (.int .i64))), .imm false (.int .i64)] [.deep false (.slice 3 (.int .i64)), .imm false .bool] (a0, a1, a2, ()) = p_impl_HostsOf N a0 a1 a2 := by kernel_rfl
theorem env50 : EnvOk Try.prog E50 := envOk mixed tabOk ⟨⟨enters47, ok47⟩, ⟨enters98, ok98⟩, ⟨enters94, ok94⟩, trivial⟩ trivial trivial
noncomputable def s50 : FSpec := ⟨[.imm false (.int .i64), .imm false (.slice 23 (.slice 3 (.int .i64))), .imm false (.int .i64)], [.deep false (.slice 3 (.int .i64)), .imm false .bool], fun x => S_impl_HostsOf x.1 x.2.1 x.2.2.1⟩
theorem ok50 : FOk Try.prog 50 s50 := fn_says env50 Try.func50 rfl fun x y h => ⟨0, (r50 0 x.1 x.2.1 x.2.2.1).trans h⟩
theorem enters50 : Enters Try.prog 50 := enters Try.func50 (by kernel_rfl) rfl

/-! ## loop.example/g00698/laws.has -/
noncomputable def E51 : Env := { tab := tab, sig := [], clos := [], live := [(0, [1, 7, 8, 9], [])], eqs := [], inl := [] }
set_option maxRecDepth 100000 in
theorem r51 (N : Nat) (a0 : List Int) (a1 : Int) : runF N E51 Try.f51 [.imm false (.slice 3 (.int .i64)), .imm false (.int .i64)] [.imm false .bool] (a0, a1, ()) = p_laws_has N a0 a1 := by kernel_rfl
theorem env51 : EnvOk Try.prog E51 := envOk mixed tabOk trivial trivial trivial
noncomputable def s51 : FSpec := ⟨[.imm false (.slice 3 (.int .i64)), .imm false (.int .i64)], [.imm false .bool], fun x => S_laws_has x.1 x.2.1⟩
theorem ok51 : FOk Try.prog 51 s51 := fn_says env51 Try.func51 rfl fun x y h => let ⟨N, hN⟩ := lim_some h; ⟨N, (r51 N x.1 x.2.1).trans hN⟩
theorem enters51 : Enters Try.prog 51 := enters Try.func51 (by kernel_rfl) rfl

/-! ## loop.example/g00698/spec.HostsOf -/
noncomputable def E55 : Env := { tab := tab, sig := [(48, s48), (102, s102), (60, s60)], clos := [], live := [(0, [2, 8, 20, 21, 22], [])], eqs := [], inl := [] }
set_option maxRecDepth 100000 in
theorem r55 (N : Nat) (a0 : Int) (a1 : List (List Int)) (a2 : Int) : runF N E55 Try.f55 [.imm false (.int .i64), .imm false (.slice 23 (.slice 3 (.int .i64))), .imm false (.int .i64)] [.deep false (.slice 3 (.int .i64)), .imm false .bool] (a0, a1, a2, ()) = p_spec_HostsOf N a0 a1 a2 := by kernel_rfl
theorem env55 : EnvOk Try.prog E55 := envOk mixed tabOk ⟨⟨enters48, ok48⟩, ⟨enters102, ok102⟩, ⟨enters60, ok60⟩, trivial⟩ trivial trivial
noncomputable def s55 : FSpec := ⟨[.imm false (.int .i64), .imm false (.slice 23 (.slice 3 (.int .i64))), .imm false (.int .i64)], [.deep false (.slice 3 (.int .i64)), .imm false .bool], fun x => S_spec_HostsOf x.1 x.2.1 x.2.2.1⟩
theorem ok55 : FOk Try.prog 55 s55 := fn_says env55 Try.func55 rfl fun x y h => let ⟨N, hN⟩ := lim_some h; ⟨N, (r55 N x.1 x.2.1 x.2.2.1).trans hN⟩
theorem enters55 : Enters Try.prog 55 := enters Try.func55 (by kernel_rfl) rfl

/-! ## loop.example/g00698/laws.sameLists -/
noncomputable def E56 : Env := { tab := tab, sig := [(46, s46)], clos := [], live := [(0, [0, 1, 12, 13], [])], eqs := [], inl := [] }
set_option maxRecDepth 100000 in
theorem r56 (N : Nat) (a0 : List (List Int)) (a1 : List (List Int)) : runF N E56 Try.f56 [.imm false (.slice 23 (.slice 3 (.int .i64))), .imm false (.slice 23 (.slice 3 (.int .i64)))] [.imm false .bool] (a0, a1, ()) = p_laws_sameLists N a0 a1 := by kernel_rfl
theorem env56 : EnvOk Try.prog E56 := envOk mixed tabOk ⟨⟨enters46, ok46⟩, trivial⟩ trivial trivial
noncomputable def s56 : FSpec := ⟨[.imm false (.slice 23 (.slice 3 (.int .i64))), .imm false (.slice 23 (.slice 3 (.int .i64)))], [.imm false .bool], fun x => S_laws_sameLists x.1 x.2.1⟩
theorem ok56 : FOk Try.prog 56 s56 := fn_says env56 Try.func56 rfl fun x y h => let ⟨N, hN⟩ := lim_some h; ⟨N, (r56 N x.1 x.2.1).trans hN⟩
theorem enters56 : Enters Try.prog 56 := enters Try.func56 (by kernel_rfl) rfl

end Go.Proofs.Ythijgmbdlkeebaa.Am
