/- Functions, as they run on data. No condition. -/
import Derived.Test.YthijgmbdlkeebaaAmTab
import Derived.Test.YthijgmbdlkeebaaAmQ
set_option linter.unusedVariables false
set_option maxRecDepth 100000
namespace Go.Proofs.Ythijgmbdlkeebaa.Am
open Go.AM Go.AM.P Go.Proofs
/-! ## loop.example/g00698/laws.big -/
noncomputable def E44 : Env := { tab := tab, sig := [], clos := [], live := [], eqs := [], inl := [] }
set_option maxRecDepth 100000 in
theorem r44 (N : Nat) (a0 : List Int) (a1 : List Int) : runF N E44 Try.f44 [.imm false (.slice 5 (.int .u8)), .imm false (.slice 5 (.int .u8))] [.imm false .bool] (a0, a1, ()) = p_laws_big N a0 a1 := by kernel_rfl
theorem env44 : EnvOk Try.prog E44 := envOk mixed tabOk trivial trivial trivial
noncomputable def s44 : FSpec := ⟨[.imm false (.slice 5 (.int .u8)), .imm false (.slice 5 (.int .u8))], [.imm false .bool], fun x => S_laws_big x.1 x.2.1⟩
theorem ok44 : FOk Try.prog 44 s44 := fn_says env44 Try.func44 rfl fun x y h => ⟨0, (r44 0 x.1 x.2.1).trans h⟩
theorem enters44 : Enters Try.prog 44 := enters Try.func44 (by kernel_rfl) rfl

/-! ## (*loop.example/g00698/spec.l1Cur).next -/
noncomputable def E136 : Env := { tab := tab, sig := [], clos := [], live := [], eqs := [], inl := [] }
set_option maxRecDepth 100000 in
theorem r136 (N : Nat) (a0 : T14) : runF N E136 Try.f136 [.ptr (.pair (.slice 5 (.int .u8)) (.pair (.int .i64) (.pair (.int .u64) .unit)))] [.imm false (.int .i64)] (a0, ()) = p_Pspec_l1Cur_next N a0 := by kernel_rfl
theorem env136 : EnvOk Try.prog E136 := envOk mixed tabOk trivial trivial trivial
noncomputable def s136 : FSpec := ⟨[.ptr (.pair (.slice 5 (.int .u8)) (.pair (.int .i64) (.pair (.int .u64) .unit)))], [.imm false (.int .i64)], fun x => S_Pspec_l1Cur_next x.1⟩
theorem ok136 : FOk Try.prog 136 s136 := fn_says env136 Try.func136 rfl fun x y h => ⟨0, (r136 0 x.1).trans h⟩
theorem enters136 : Enters Try.prog 136 := enters Try.func136 (by kernel_rfl) rfl

/-! ## (*loop.example/g00698/spec.l1Cur).pick -/
noncomputable def E89 : Env := { tab := tab, sig := [(136, s136)], clos := [], live := [], eqs := [], inl := [] }
set_option maxRecDepth 100000 in
theorem r89 (N : Nat) (a0 : T14) (a1 : Int) : runF N E89 Try.f89 [.ptr (.pair (.slice 5 (.int .u8)) (.pair (.int .i64) (.pair (.int .u64) .unit))), .imm false (.int .i64)] [.imm false (.int .i64)] (a0, a1, ()) = p_Pspec_l1Cur_pick N a0 a1 := by kernel_rfl
theorem env89 : EnvOk Try.prog E89 := envOk mixed tabOk ⟨⟨enters136, ok136⟩, trivial⟩ trivial trivial
noncomputable def s89 : FSpec := ⟨[.ptr (.pair (.slice 5 (.int .u8)) (.pair (.int .i64) (.pair (.int .u64) .unit))), .imm false (.int .i64)], [.imm false (.int .i64)], fun x => S_Pspec_l1Cur_pick x.1 x.2.1⟩
theorem ok89 : FOk Try.prog 89 s89 := fn_says env89 Try.func89 rfl fun x y h => ⟨0, (r89 0 x.1 x.2.1).trans h⟩
theorem enters89 : Enters Try.prog 89 := enters Try.func89 (by kernel_rfl) rfl

/-! ## (*loop.example/g00698/spec.l1Cur).among -/
noncomputable def E86 : Env := { tab := tab, sig := [(89, s89)], clos := [], live := [], eqs := [], inl := [] }
set_option maxRecDepth 100000 in
theorem r86 (N : Nat) (a0 : T14) (a1 : List Int) : runF N E86 Try.f86 [.ptr (.pair (.slice 5 (.int .u8)) (.pair (.int .i64) (.pair (.int .u64) .unit))), .imm false (.slice 3 (.int .i64))] [.imm false (.int .i64)] (a0, a1, ()) = p_Pspec_l1Cur_among N a0 a1 := by kernel_rfl
theorem env86 : EnvOk Try.prog E86 := envOk mixed tabOk ⟨⟨enters89, ok89⟩, trivial⟩ trivial trivial
noncomputable def s86 : FSpec := ⟨[.ptr (.pair (.slice 5 (.int .u8)) (.pair (.int .i64) (.pair (.int .u64) .unit))), .imm false (.slice 3 (.int .i64))], [.imm false (.int .i64)], fun x => S_Pspec_l1Cur_among x.1 x.2.1⟩
theorem ok86 : FOk Try.prog 86 s86 := fn_says env86 Try.func86 rfl fun x y h => ⟨0, (r86 0 x.1 x.2.1).trans h⟩
theorem enters86 : Enters Try.prog 86 := enters Try.func86 (by kernel_rfl) rfl

/-! ## (*loop.example/g00698/spec.l1Cur).one -/
noncomputable def E99 : Env := { tab := tab, sig := [(89, s89)], clos := [], live := [], eqs := [], inl := [] }
set_option maxRecDepth 100000 in
theorem r99 (N : Nat) (a0 : T14) (a1 : Int) : runF N E99 Try.f99 [.ptr (.pair (.slice 5 (.int .u8)) (.pair (.int .i64) (.pair (.int .u64) .unit))), .imm false (.int .i64)] [.imm false .bool] (a0, a1, ()) = p_Pspec_l1Cur_one N a0 a1 := by kernel_rfl
theorem env99 : EnvOk Try.prog E99 := envOk mixed tabOk ⟨⟨enters89, ok89⟩, trivial⟩ trivial trivial
noncomputable def s99 : FSpec := ⟨[.ptr (.pair (.slice 5 (.int .u8)) (.pair (.int .i64) (.pair (.int .u64) .unit))), .imm false (.int .i64)], [.imm false .bool], fun x => S_Pspec_l1Cur_one x.1 x.2.1⟩
theorem ok99 : FOk Try.prog 99 s99 := fn_says env99 Try.func99 rfl fun x y h => ⟨0, (r99 0 x.1 x.2.1).trans h⟩
theorem enters99 : Enters Try.prog 99 := enters Try.func99 (by kernel_rfl) rfl

/-! ## (*loop.example/g00698/spec.l1Cur).keeps -/
noncomputable def E100 : Env := { tab := tab, sig := [(99, s99)], clos := [], live := [(0, [0, 3, 4], [])], eqs := [], inl := [] }
set_option maxRecDepth 100000 in
theorem r100 (N : Nat) (a0 : T14) : runF N E100 Try.f100 [.ptr (.pair (.slice 5 (.int .u8)) (.pair (.int .i64) (.pair (.int .u64) .unit)))] [.deep false (.slice 3 (.int .i64))] (a0, ()) = p_Pspec_l1Cur_keeps N a0 := by kernel_rfl
theorem env100 : EnvOk Try.prog E100 := envOk mixed tabOk ⟨⟨enters99, ok99⟩, trivial⟩ trivial trivial
noncomputable def s100 : FSpec := ⟨[.ptr (.pair (.slice 5 (.int .u8)) (.pair (.int .i64) (.pair (.int .u64) .unit)))], [.deep false (.slice 3 (.int .i64))], fun x => S_Pspec_l1Cur_keeps x.1⟩
theorem ok100 : FOk Try.prog 100 s100 := fn_says env100 Try.func100 rfl fun x y h => let ⟨N, hN⟩ := lim_some h; ⟨N, (r100 N x.1).trans hN⟩
theorem enters100 : Enters Try.prog 100 := enters Try.func100 (by kernel_rfl) rfl

/-! ## loop.example/g00698/spec.l1Put -/
noncomputable def E133 : Env := { tab := tab, sig := [], clos := [], live := [(0, [0, 1, 5, 12, 13, 14, 15, 16, 17, 26, 27, 28, 29, 30, 31], [])], eqs := [], inl := [] }
set_option maxRecDepth 100000 in
theorem r133 (N : Nat) (a0 : List Int) (a1 : Int) : runF N E133 Try.f133 [.imm false (.slice 3 (.int .i64)), .imm false (.int .i64)] [.imm false (.slice 3 (.int .i64))] (a0, a1, ()) = p_spec_l1Put N a0 a1 := by kernel_rfl
theorem env133 : EnvOk Try.prog E133 := envOk mixed tabOk trivial trivial trivial
noncomputable def s133 : FSpec := ⟨[.imm false (.slice 3 (.int .i64)), .imm false (.int .i64)], [.imm false (.slice 3 (.int .i64))], fun x => S_spec_l1Put x.1 x.2.1⟩
theorem ok133 : FOk Try.prog 133 s133 := fn_says env133 Try.func133 rfl fun x y h => let ⟨N, hN⟩ := lim_some h; ⟨N, (r133 N x.1 x.2.1).trans hN⟩
theorem enters133 : Enters Try.prog 133 := enters Try.func133 (by kernel_rfl) rfl

/-! ## (*loop.example/g00698/spec.l1Cur).places -/
noncomputable def E87 : Env := { tab := tab, sig := [(100, s100), (99, s99), (133, s133)], clos := [], live := [(0, [0, 1, 5, 6, 18, 19, 20, 28, 29, 30], [.loose 2 []])], eqs := [], inl := [] }
set_option maxRecDepth 100000 in
theorem r87 (N : Nat) (a0 : T14) (a1 : Int) : runF N E87 Try.f87 [.ptr (.pair (.slice 5 (.int .u8)) (.pair (.int .i64) (.pair (.int .u64) .unit))), .imm false (.int .i64)] [.imm false (.slice 23 (.slice 3 (.int .i64)))] (a0, a1, ()) = p_Pspec_l1Cur_places N a0 a1 := by kernel_rfl
theorem env87 : EnvOk Try.prog E87 := envOk mixed tabOk ⟨⟨enters100, ok100⟩, ⟨enters99, ok99⟩, ⟨enters133, ok133⟩, trivial⟩ trivial trivial
noncomputable def s87 : FSpec := ⟨[.ptr (.pair (.slice 5 (.int .u8)) (.pair (.int .i64) (.pair (.int .u64) .unit))), .imm false (.int .i64)], [.imm false (.slice 23 (.slice 3 (.int .i64)))], fun x => S_Pspec_l1Cur_places x.1 x.2.1⟩
theorem ok87 : FOk Try.prog 87 s87 := fn_says env87 Try.func87 rfl fun x y h => let ⟨N, hN⟩ := lim_some h; ⟨N, (r87 N x.1 x.2.1).trans hN⟩
theorem enters87 : Enters Try.prog 87 := enters Try.func87 (by kernel_rfl) rfl

/-! ## (*loop.example/g00698/spec.l1Cur).cmd -/
noncomputable def E134 : Env := { tab := tab, sig := [(89, s89), (99, s99)], clos := [], live := [], eqs := [], inl := [] }
set_option maxRecDepth 100000 in
theorem r134 (N : Nat) (a0 : T14) : runF N E134 Try.f134 [.ptr (.pair (.slice 5 (.int .u8)) (.pair (.int .i64) (.pair (.int .u64) .unit)))] [.imm true (.pair (.int .i64) (.pair (.int .i64) (.pair (.int .i64) (.pair (.int .i64) (.pair (.int .i64) .unit)))))] (a0, ()) = p_Pspec_l1Cur_cmd N a0 := by kernel_rfl
theorem env134 : EnvOk Try.prog E134 := envOk mixed tabOk ⟨⟨enters89, ok89⟩, ⟨enters99, ok99⟩, trivial⟩ trivial trivial
noncomputable def s134 : FSpec := ⟨[.ptr (.pair (.slice 5 (.int .u8)) (.pair (.int .i64) (.pair (.int .u64) .unit)))], [.imm true (.pair (.int .i64) (.pair (.int .i64) (.pair (.int .i64) (.pair (.int .i64) (.pair (.int .i64) .unit)))))], fun x => S_Pspec_l1Cur_cmd x.1⟩
theorem ok134 : FOk Try.prog 134 s134 := fn_says env134 Try.func134 rfl fun x y h => ⟨0, (r134 0 x.1).trans h⟩
theorem enters134 : Enters Try.prog 134 := enters Try.func134 (by kernel_rfl) rfl

/-! ## loop.example/g00698/spec.NewSums -/
noncomputable def E166 : Env := { tab := tab, sig := [], clos := [], live := [(0, [1, 2], [])], eqs := [], inl := [] }
set_option maxRecDepth 100000 in
theorem r166 (N : Nat)  : runF N E166 Try.f166 [] [.deep false (.slice 3 (.int .i64))] (()) = p_spec_NewSums N  := by kernel_rfl
theorem env166 : EnvOk Try.prog E166 := envOk mixed tabOk trivial trivial trivial
noncomputable def s166 : FSpec := ⟨[], [.deep false (.slice 3 (.int .i64))], fun x => S_spec_NewSums ⟩
theorem ok166 : FOk Try.prog 166 s166 := fn_says env166 Try.func166 rfl fun x y h => let ⟨N, hN⟩ := lim_some h; ⟨N, (r166 N ).trans hN⟩
theorem enters166 : Enters Try.prog 166 := enters Try.func166 (by kernel_rfl) rfl

/-! ## loop.example/g00698/spec.l1Own -/
noncomputable def E178 : Env := { tab := tab, sig := [], clos := [], live := [], eqs := [], inl := [] }
set_option maxRecDepth 100000 in
theorem r178 (N : Nat) (a0 : List Int) : runF N E178 Try.f178 [.imm false (.slice 3 (.int .i64))] [.deep false (.slice 3 (.int .i64))] (a0, ()) = p_spec_l1Own N a0 := by kernel_rfl
theorem env178 : EnvOk Try.prog E178 := envOk mixed tabOk trivial trivial trivial
noncomputable def s178 : FSpec := ⟨[.imm false (.slice 3 (.int .i64))], [.deep false (.slice 3 (.int .i64))], fun x => S_spec_l1Own x.1⟩
theorem ok178 : FOk Try.prog 178 s178 := fn_says env178 Try.func178 rfl fun x y h => ⟨0, (r178 0 x.1).trans h⟩
theorem enters178 : Enters Try.prog 178 := enters Try.func178 (by kernel_rfl) rfl

/-! ## loop.example/g00698/spec.l11Apply -/
noncomputable def E167 : Env := { tab := tab, sig := [(178, s178)], clos := [], live := [], eqs := [], inl := [] }
set_option maxRecDepth 100000 in
theorem r167 (N : Nat) (a0 : List Int) (a1 : T2) : runF N E167 Try.f167 [.imm false (.slice 3 (.int .i64)), .imm true (.pair (.int .i64) (.pair (.int .i64) (.pair (.int .i64) (.pair (.int .i64) (.pair (.int .i64) .unit)))))] [.deep false (.slice 3 (.int .i64)), .imm true (.pair (.int .i64) (.pair (.int .i64) .unit))] (a0, a1, ()) = p_spec_l11Apply N a0 a1 := by kernel_rfl
theorem env167 : EnvOk Try.prog E167 := envOk mixed tabOk ⟨⟨enters178, ok178⟩, trivial⟩ trivial trivial
noncomputable def s167 : FSpec := ⟨[.imm false (.slice 3 (.int .i64)), .imm true (.pair (.int .i64) (.pair (.int .i64) (.pair (.int .i64) (.pair (.int .i64) (.pair (.int .i64) .unit)))))], [.deep false (.slice 3 (.int .i64)), .imm true (.pair (.int .i64) (.pair (.int .i64) .unit))], fun x => S_spec_l11Apply x.1 x.2.1⟩
theorem ok167 : FOk Try.prog 167 s167 := fn_says env167 Try.func167 rfl fun x y h => ⟨0, (r167 0 x.1 x.2.1).trans h⟩
theorem enters167 : Enters Try.prog 167 := enters Try.func167 (by kernel_rfl) rfl

/-! ## loop.example/g00698/spec.l11Play -/
noncomputable def E135 : Env := { tab := tab, sig := [(166, s166), (167, s167)], clos := [], live := [(0, [4, 5, 11, 12, 13], [.frz (.r 4) 3 (.int .i64)])], eqs := [], inl := [] }
set_option maxRecDepth 100000 in
theorem r135 (N : Nat) (a0 : List T2) : runF N E135 Try.f135 [.imm false (.slice 75 (.pair (.int .i64) (.pair (.int .i64) (.pair (.int .i64) (.pair (.int .i64) (.pair (.int .i64) .unit))))))] [.imm false (.slice 3 (.int .i64)), .deep false (.slice 77 (.pair (.int .i64) (.pair (.int .i64) .unit)))] (a0, ()) = p_spec_l11Play N a0 := by kernel_rfl
theorem env135 : EnvOk Try.prog E135 := envOk mixed tabOk ⟨⟨enters166, ok166⟩, ⟨enters167, ok167⟩, trivial⟩ trivial trivial
noncomputable def s135 : FSpec := ⟨[.imm false (.slice 75 (.pair (.int .i64) (.pair (.int .i64) (.pair (.int .i64) (.pair (.int .i64) (.pair (.int .i64) .unit))))))], [.imm false (.slice 3 (.int .i64)), .deep false (.slice 77 (.pair (.int .i64) (.pair (.int .i64) .unit)))], fun x => S_spec_l11Play x.1⟩
theorem ok135 : FOk Try.prog 135 s135 := fn_says env135 Try.func135 rfl fun x y h => let ⟨N, hN⟩ := lim_some h; ⟨N, (r135 N x.1).trans hN⟩
theorem enters135 : Enters Try.prog 135 := enters Try.func135 (by kernel_rfl) rfl

/-! ## (*loop.example/g00698/spec.l1Cur).entries -/
noncomputable def E88 : Env := { tab := tab, sig := [(89, s89), (134, s134), (99, s99), (135, s135)], clos := [], live := [(0, [0, 3, 4, 23, 24, 65, 66], []), (2, [0, 7, 8, 39, 40, 41, 65, 66], [])], eqs := [], inl := [] }
set_option maxRecDepth 100000 in
theorem r88 (N : Nat) (a0 : T14) : runF N E88 Try.f88 [.ptr (.pair (.slice 5 (.int .u8)) (.pair (.int .i64) (.pair (.int .u64) .unit)))] [.deep false (.slice 79 (.pair (.int .i64) (.pair (.int .i64) (.pair (.pair (.int .i64) (.pair (.int .i64) (.pair (.int .i64) (.pair (.int .i64) (.pair (.int .i64) .unit))))) (.pair (.pair (.int .i64) (.pair (.int .i64) .unit)) .unit)))))] (a0, ()) = p_Pspec_l1Cur_entries N a0 := by kernel_rfl
theorem env88 : EnvOk Try.prog E88 := envOk mixed tabOk ⟨⟨enters89, ok89⟩, ⟨enters134, ok134⟩, ⟨enters99, ok99⟩, ⟨enters135, ok135⟩, trivial⟩ trivial trivial
noncomputable def s88 : FSpec := ⟨[.ptr (.pair (.slice 5 (.int .u8)) (.pair (.int .i64) (.pair (.int .u64) .unit)))], [.deep false (.slice 79 (.pair (.int .i64) (.pair (.int .i64) (.pair (.pair (.int .i64) (.pair (.int .i64) (.pair (.int .i64) (.pair (.int .i64) (.pair (.int .i64) .unit))))) (.pair (.pair (.int .i64) (.pair (.int .i64) .unit)) .unit)))))], fun x => S_Pspec_l1Cur_entries x.1⟩
theorem ok88 : FOk Try.prog 88 s88 := fn_says env88 Try.func88 rfl fun x y h => let ⟨N, hN⟩ := lim_some h; ⟨N, (r88 N x.1).trans hN⟩
theorem enters88 : Enters Try.prog 88 := enters Try.func88 (by kernel_rfl) rfl

/-! ## loop.example/g00698/spec.DrawFullPart -/
noncomputable def E45 : Env := { tab := tab, sig := [(86, s86), (87, s87), (88, s88), (89, s89)], clos := [], live := [], eqs := [], inl := [] }
set_option maxRecDepth 100000 in
theorem r45 (N : Nat) (a0 : List Int) : runF N E45 Try.f45 [.imm false (.slice 5 (.int .u8))] [.imm false (.int .i64), .imm false (.slice 23 (.slice 3 (.int .i64))), .deep false (.slice 79 (.pair (.int .i64) (.pair (.int .i64) (.pair (.pair (.int .i64) (.pair (.int .i64) (.pair (.int .i64) (.pair (.int .i64) (.pair (.int .i64) .unit))))) (.pair (.pair (.int .i64) (.pair (.int .i64) .unit)) .unit))))), .imm false (.int .i64)] (a0, ()) = p_spec_DrawFullPart N a0 := by kernel_rfl
theorem env45 : EnvOk Try.prog E45 := envOk mixed tabOk ⟨⟨enters86, ok86⟩, ⟨enters87, ok87⟩, ⟨enters88, ok88⟩, ⟨enters89, ok89⟩, trivial⟩ trivial trivial
noncomputable def s45 : FSpec := ⟨[.imm false (.slice 5 (.int .u8))], [.imm false (.int .i64), .imm false (.slice 23 (.slice 3 (.int .i64))), .deep false (.slice 79 (.pair (.int .i64) (.pair (.int .i64) (.pair (.pair (.int .i64) (.pair (.int .i64) (.pair (.int .i64) (.pair (.int .i64) (.pair (.int .i64) .unit))))) (.pair (.pair (.int .i64) (.pair (.int .i64) .unit)) .unit))))), .imm false (.int .i64)], fun x => S_spec_DrawFullPart x.1⟩
theorem ok45 : FOk Try.prog 45 s45 := fn_says env45 Try.func45 rfl fun x y h => ⟨0, (r45 0 x.1).trans h⟩
theorem enters45 : Enters Try.prog 45 := enters Try.func45 (by kernel_rfl) rfl

/-! ## loop.example/g00698/impl.IsGroup -/
noncomputable def E90 : Env := { tab := tab, sig := [], clos := [], live := [], eqs := [], inl := [] }
set_option maxRecDepth 100000 in
theorem r90 (N : Nat) (a0 : Int) : runF N E90 Try.f90 [.imm false (.int .i64)] [.imm false .bool] (a0, ()) = p_impl_IsGroup N a0 := by kernel_rfl
theorem env90 : EnvOk Try.prog E90 := envOk mixed tabOk trivial trivial trivial
noncomputable def s90 : FSpec := ⟨[.imm false (.int .i64)], [.imm false .bool], fun x => S_impl_IsGroup x.1⟩
theorem ok90 : FOk Try.prog 90 s90 := fn_says env90 Try.func90 rfl fun x y h => ⟨0, (r90 0 x.1).trans h⟩
theorem enters90 : Enters Try.prog 90 := enters Try.func90 (by kernel_rfl) rfl

/-! ## slices.IndexFunc[[][]int,[]int] -/
noncomputable def E137 : Env := { tab := tab, sig := [], clos := [], live := [(0, [0, 1, 7, 8], [])], eqs := [], inl := [] }
set_option maxRecDepth 100000 in
theorem r137 (N : Nat) (a0 : List (List Int)) (a1 : (List Int × Unit) → Option Bool) : runF N E137 Try.f137 [.imm false (.slice 23 (.slice 3 (.int .i64))), .clo [(false, (.slice 3 (.int .i64)))] .bool] [.imm false (.int .i64)] (a0, a1, ()) = p_IndexFunc_LLint_Lint N a0 a1 := by kernel_rfl
theorem env137 : EnvOk Try.prog E137 := envOk mixed tabOk trivial trivial trivial
noncomputable def s137 : FSpec := ⟨[.imm false (.slice 23 (.slice 3 (.int .i64))), .clo [(false, (.slice 3 (.int .i64)))] .bool], [.imm false (.int .i64)], fun x => S_IndexFunc_LLint_Lint x.1 x.2.1⟩
theorem ok137 : FOk Try.prog 137 s137 := fn_says env137 Try.func137 rfl fun x y h => let ⟨N, hN⟩ := lim_some h; ⟨N, (r137 N x.1 x.2.1).trans hN⟩
theorem enters137 : Enters Try.prog 137 := enters Try.func137 (by kernel_rfl) rfl

/-! ## slices.ContainsFunc[[][]int,[]int] -/
noncomputable def E91 : Env := { tab := tab, sig := [(137, s137)], clos := [], live := [], eqs := [], inl := [] }
set_option maxRecDepth 100000 in
theorem r91 (N : Nat) (a0 : List (List Int)) (a1 : (List Int × Unit) → Option Bool) : runF N E91 Try.f91 [.imm false (.slice 23 (.slice 3 (.int .i64))), .clo [(false, (.slice 3 (.int .i64)))] .bool] [.imm false .bool] (a0, a1, ()) = p_ContainsFunc_LLint_Lint N a0 a1 := by kernel_rfl
theorem env91 : EnvOk Try.prog E91 := envOk mixed tabOk ⟨⟨enters137, ok137⟩, trivial⟩ trivial trivial
noncomputable def s91 : FSpec := ⟨[.imm false (.slice 23 (.slice 3 (.int .i64))), .clo [(false, (.slice 3 (.int .i64)))] .bool], [.imm false .bool], fun x => S_ContainsFunc_LLint_Lint x.1 x.2.1⟩
theorem ok91 : FOk Try.prog 91 s91 := fn_says env91 Try.func91 rfl fun x y h => ⟨0, (r91 0 x.1 x.2.1).trans h⟩
theorem enters91 : Enters Try.prog 91 := enters Try.func91 (by kernel_rfl) rfl

/-! ## loop.example/g00698/impl.rise -/
noncomputable def E138 : Env := { tab := tab, sig := [], clos := [], live := [(0, [0, 3], [])], eqs := [], inl := [] }
set_option maxRecDepth 100000 in
theorem r138 (N : Nat) (a0 : List Int) : runF N E138 Try.f138 [.imm false (.slice 3 (.int .i64))] [.imm false .bool] (a0, ()) = p_impl_rise N a0 := by kernel_rfl
theorem env138 : EnvOk Try.prog E138 := envOk mixed tabOk trivial trivial trivial
noncomputable def s138 : FSpec := ⟨[.imm false (.slice 3 (.int .i64))], [.imm false .bool], fun x => S_impl_rise x.1⟩
theorem ok138 : FOk Try.prog 138 s138 := fn_says env138 Try.func138 rfl fun x y h => let ⟨N, hN⟩ := lim_some h; ⟨N, (r138 N x.1).trans hN⟩
theorem enters138 : Enters Try.prog 138 := enters Try.func138 (by kernel_rfl) rfl

/-! ## loop.example/g00698/impl.within -/
noncomputable def E76 : Env := { tab := tab, sig := [], clos := [], live := [], eqs := [], inl := [] }
set_option maxRecDepth 100000 in
theorem r76 (N : Nat) (a0 : Int) (a1 : Int) (a2 : Int) : runF N E76 Try.f76 [.imm false (.int .i64), .imm false (.int .i64), .imm false (.int .i64)] [.imm false .bool] (a0, a1, a2, ()) = p_impl_within N a0 a1 a2 := by kernel_rfl
theorem env76 : EnvOk Try.prog E76 := envOk mixed tabOk trivial trivial trivial
noncomputable def s76 : FSpec := ⟨[.imm false (.int .i64), .imm false (.int .i64), .imm false (.int .i64)], [.imm false .bool], fun x => S_impl_within x.1 x.2.1 x.2.2.1⟩
theorem ok76 : FOk Try.prog 76 s76 := fn_says env76 Try.func76 rfl fun x y h => ⟨0, (r76 0 x.1 x.2.1 x.2.2.1).trans h⟩
theorem enters76 : Enters Try.prog 76 := enters Try.func76 (by kernel_rfl) rfl

/-! ## slices.IndexFunc[[]int,int] -/
noncomputable def E120 : Env := { tab := tab, sig := [], clos := [], live := [(0, [0, 1, 7, 8], [])], eqs := [], inl := [] }
set_option maxRecDepth 100000 in
theorem r120 (N : Nat) (a0 : List Int) (a1 : (Int × Unit) → Option Bool) : runF N E120 Try.f120 [.imm false (.slice 3 (.int .i64)), .clo [(false, (.int .i64))] .bool] [.imm false (.int .i64)] (a0, a1, ()) = p_IndexFunc_Lint_int N a0 a1 := by kernel_rfl
theorem env120 : EnvOk Try.prog E120 := envOk mixed tabOk trivial trivial trivial
noncomputable def s120 : FSpec := ⟨[.imm false (.slice 3 (.int .i64)), .clo [(false, (.int .i64))] .bool], [.imm false (.int .i64)], fun x => S_IndexFunc_Lint_int x.1 x.2.1⟩
theorem ok120 : FOk Try.prog 120 s120 := fn_says env120 Try.func120 rfl fun x y h => let ⟨N, hN⟩ := lim_some h; ⟨N, (r120 N x.1 x.2.1).trans hN⟩
theorem enters120 : Enters Try.prog 120 := enters Try.func120 (by kernel_rfl) rfl

/-! ## slices.ContainsFunc[[]int,int] -/
noncomputable def E74 : Env := { tab := tab, sig := [(120, s120)], clos := [], live := [], eqs := [], inl := [] }
set_option maxRecDepth 100000 in
theorem r74 (N : Nat) (a0 : List Int) (a1 : (Int × Unit) → Option Bool) : runF N E74 Try.f74 [.imm false (.slice 3 (.int .i64)), .clo [(false, (.int .i64))] .bool] [.imm false .bool] (a0, a1, ()) = p_ContainsFunc_Lint_int N a0 a1 := by kernel_rfl
theorem env74 : EnvOk Try.prog E74 := envOk mixed tabOk ⟨⟨enters120, ok120⟩, trivial⟩ trivial trivial
noncomputable def s74 : FSpec := ⟨[.imm false (.slice 3 (.int .i64)), .clo [(false, (.int .i64))] .bool], [.imm false .bool], fun x => S_ContainsFunc_Lint_int x.1 x.2.1⟩
theorem ok74 : FOk Try.prog 74 s74 := fn_says env74 Try.func74 rfl fun x y h => ⟨0, (r74 0 x.1 x.2.1).trans h⟩
theorem enters74 : Enters Try.prog 74 := enters Try.func74 (by kernel_rfl) rfl

/-! ## loop.example/g00698/impl.areMembers -/
theorem enters139 : Enters Try.prog 139 := enters Try.func139 (by kernel_rfl) rfl
noncomputable def E93 : Env := { tab := tab, sig := [(138, s138), (74, s74), (76, s76)], clos := [(139, ⟨Try.f139, [(false, (.int .i64))], []⟩)], live := [], eqs := [], inl := [] }
set_option maxRecDepth 100000 in
theorem r93 (N : Nat) (a0 : Int) (a1 : List Int) : runF N E93 Try.f93 [.imm false (.int .i64), .imm false (.slice 3 (.int .i64))] [.imm false .bool] (a0, a1, ()) = p_impl_areMembers N a0 a1 := by kernel_rfl
theorem env93 : EnvOk Try.prog E93 := envOk mixed tabOk ⟨⟨enters138, ok138⟩, ⟨enters74, ok74⟩, ⟨enters76, ok76⟩, trivial⟩ ⟨⟨Try.func139, enters139⟩, trivial⟩ trivial
noncomputable def s93 : FSpec := ⟨[.imm false (.int .i64), .imm false (.slice 3 (.int .i64))], [.imm false .bool], fun x => S_impl_areMembers x.1 x.2.1⟩
theorem ok93 : FOk Try.prog 93 s93 := fn_says env93 Try.func93 rfl fun x y h => ⟨0, (r93 0 x.1 x.2.1).trans h⟩
theorem enters93 : Enters Try.prog 93 := enters Try.func93 (by kernel_rfl) rfl

/-! ## slices.Index[[]int,int] -/
noncomputable def E109 : Env := { tab := tab, sig := [], clos := [], live := [(0, [0, 1, 7, 8], [])], eqs := [], inl := [] }
set_option maxRecDepth 100000 in
theorem r109 (N : Nat) (a0 : List Int) (a1 : Int) : runF N E109 Try.f109 [.imm false (.slice 3 (.int .i64)), .imm false (.int .i64)] [.imm false (.int .i64)] (a0, a1, ()) = p_Index_Lint_int N a0 a1 := by kernel_rfl
theorem env109 : EnvOk Try.prog E109 := envOk mixed tabOk trivial trivial trivial
noncomputable def s109 : FSpec := ⟨[.imm false (.slice 3 (.int .i64)), .imm false (.int .i64)], [.imm false (.int .i64)], fun x => S_Index_Lint_int x.1 x.2.1⟩
theorem ok109 : FOk Try.prog 109 s109 := fn_says env109 Try.func109 rfl fun x y h => let ⟨N, hN⟩ := lim_some h; ⟨N, (r109 N x.1 x.2.1).trans hN⟩
theorem enters109 : Enters Try.prog 109 := enters Try.func109 (by kernel_rfl) rfl

/-! ## slices.Contains[[]int,int] -/
noncomputable def E63 : Env := { tab := tab, sig := [(109, s109)], clos := [], live := [], eqs := [], inl := [] }
set_option maxRecDepth 100000 in
theorem r63 (N : Nat) (a0 : List Int) (a1 : Int) : runF N E63 Try.f63 [.imm false (.slice 3 (.int .i64)), .imm false (.int .i64)] [.imm false .bool] (a0, a1, ()) = p_Contains_Lint_int N a0 a1 := by kernel_rfl
theorem env63 : EnvOk Try.prog E63 := envOk mixed tabOk ⟨⟨enters109, ok109⟩, trivial⟩ trivial trivial
noncomputable def s63 : FSpec := ⟨[.imm false (.slice 3 (.int .i64)), .imm false (.int .i64)], [.imm false .bool], fun x => S_Contains_Lint_int x.1 x.2.1⟩
theorem ok63 : FOk Try.prog 63 s63 := fn_says env63 Try.func63 rfl fun x y h => ⟨0, (r63 0 x.1 x.2.1).trans h⟩
theorem enters63 : Enters Try.prog 63 := enters Try.func63 (by kernel_rfl) rfl

/-! ## loop.example/g00698/impl.hosts -/
noncomputable def E94 : Env := { tab := tab, sig := [(63, s63)], clos := [], live := [(0, [1, 5, 9, 10, 11], [])], eqs := [], inl := [] }
set_option maxRecDepth 100000 in
theorem r94 (N : Nat) (a0 : List (List Int)) (a1 : Int) : runF N E94 Try.f94 [.imm false (.slice 23 (.slice 3 (.int .i64))), .imm false (.int .i64)] [.deep false (.slice 3 (.int .i64))] (a0, a1, ()) = p_impl_hosts N a0 a1 := by kernel_rfl
theorem env94 : EnvOk Try.prog E94 := envOk mixed tabOk ⟨⟨enters63, ok63⟩, trivial⟩ trivial trivial
noncomputable def s94 : FSpec := ⟨[.imm false (.slice 23 (.slice 3 (.int .i64))), .imm false (.int .i64)], [.deep false (.slice 3 (.int .i64))], fun x => S_impl_hosts x.1 x.2.1⟩
theorem ok94 : FOk Try.prog 94 s94 := fn_says env94 Try.func94 rfl fun x y h => let ⟨N, hN⟩ := lim_some h; ⟨N, (r94 N x.1 x.2.1).trans hN⟩
theorem enters94 : Enters Try.prog 94 := enters Try.func94 (by kernel_rfl) rfl

/-! ## loop.example/g00698/impl.GoodPlaces -/
theorem enters92 : Enters Try.prog 92 := enters Try.func92 (by kernel_rfl) rfl
noncomputable def E47 : Env := { tab := tab, sig := [(90, s90), (91, s91), (93, s93), (94, s94)], clos := [(92, ⟨Try.f92, [(false, (.slice 3 (.int .i64)))], []⟩)], live := [(0, [1, 19], [])], eqs := [], inl := [] }
set_option maxRecDepth 100000 in
theorem r47 (N : Nat) (a0 : Int) (a1 : List (List Int)) : runF N E47 Try.f47 [.imm false (.int .i64), .imm false (.slice 23 (.slice 3 (.int .i64)))] [.imm false .bool] (a0, a1, ()) = p_impl_GoodPlaces N a0 a1 := by kernel_rfl
theorem env47 : EnvOk Try.prog E47 := envOk mixed tabOk ⟨⟨enters90, ok90⟩, ⟨enters91, ok91⟩, ⟨enters93, ok93⟩, ⟨enters94, ok94⟩, trivial⟩ ⟨⟨Try.func92, enters92⟩, trivial⟩ trivial
noncomputable def s47 : FSpec := ⟨[.imm false (.int .i64), .imm false (.slice 23 (.slice 3 (.int .i64)))], [.imm false .bool], fun x => S_impl_GoodPlaces x.1 x.2.1⟩
theorem ok47 : FOk Try.prog 47 s47 := fn_says env47 Try.func47 rfl fun x y h => let ⟨N, hN⟩ := lim_some h; ⟨N, (r47 N x.1 x.2.1).trans hN⟩
theorem enters47 : Enters Try.prog 47 := enters Try.func47 (by kernel_rfl) rfl

/-! ## slices.IndexFunc[[]loop.example/g00698/impl.Entry,loop.example/g00698/impl.Entry] -/
noncomputable def E146 : Env := { tab := tab, sig := [], clos := [], live := [(0, [0, 1, 7, 8], [])], eqs := [], inl := [] }
set_option maxRecDepth 100000 in
theorem r146 (N : Nat) (a0 : List T4) (a1 : (T4 × Unit) → Option Bool) : runF N E146 Try.f146 [.imm false (.slice 79 (.pair (.int .i64) (.pair (.int .i64) (.pair (.pair (.int .i64) (.pair (.int .i64) (.pair (.int .i64) (.pair (.int .i64) (.pair (.int .i64) .unit))))) (.pair (.pair (.int .i64) (.pair (.int .i64) .unit)) .unit))))), .clo [(true, (.pair (.int .i64) (.pair (.int .i64) (.pair (.pair (.int .i64) (.pair (.int .i64) (.pair (.int .i64) (.pair (.int .i64) (.pair (.int .i64) .unit))))) (.pair (.pair (.int .i64) (.pair (.int .i64) .unit)) .unit)))))] .bool] [.imm false (.int .i64)] (a0, a1, ()) = p_IndexFunc_Limpl_Entry_impl_Entry N a0 a1 := by kernel_rfl
theorem env146 : EnvOk Try.prog E146 := envOk mixed tabOk trivial trivial trivial
noncomputable def s146 : FSpec := ⟨[.imm false (.slice 79 (.pair (.int .i64) (.pair (.int .i64) (.pair (.pair (.int .i64) (.pair (.int .i64) (.pair (.int .i64) (.pair (.int .i64) (.pair (.int .i64) .unit))))) (.pair (.pair (.int .i64) (.pair (.int .i64) .unit)) .unit))))), .clo [(true, (.pair (.int .i64) (.pair (.int .i64) (.pair (.pair (.int .i64) (.pair (.int .i64) (.pair (.int .i64) (.pair (.int .i64) (.pair (.int .i64) .unit))))) (.pair (.pair (.int .i64) (.pair (.int .i64) .unit)) .unit)))))] .bool], [.imm false (.int .i64)], fun x => S_IndexFunc_Limpl_Entry_impl_Entry x.1 x.2.1⟩
theorem ok146 : FOk Try.prog 146 s146 := fn_says env146 Try.func146 rfl fun x y h => let ⟨N, hN⟩ := lim_some h; ⟨N, (r146 N x.1 x.2.1).trans hN⟩
theorem enters146 : Enters Try.prog 146 := enters Try.func146 (by kernel_rfl) rfl

/-! ## loop.example/g00698/impl.entryOf -/
theorem enters147 : Enters Try.prog 147 := enters Try.func147 (by kernel_rfl) rfl
noncomputable def E107 : Env := { tab := tab, sig := [(146, s146)], clos := [(147, ⟨Try.f147, [(true, (.pair (.int .i64) (.pair (.int .i64) (.pair (.pair (.int .i64) (.pair (.int .i64) (.pair (.int .i64) (.pair (.int .i64) (.pair (.int .i64) .unit))))) (.pair (.pair (.int .i64) (.pair (.int .i64) .unit)) .unit)))))], []⟩)], live := [], eqs := [], inl := [] }
set_option maxRecDepth 100000 in
theorem r107 (N : Nat) (a0 : List T4) (a1 : Int) (a2 : Int) : runF N E107 Try.f107 [.imm false (.slice 79 (.pair (.int .i64) (.pair (.int .i64) (.pair (.pair (.int .i64) (.pair (.int .i64) (.pair (.int .i64) (.pair (.int .i64) (.pair (.int .i64) .unit))))) (.pair (.pair (.int .i64) (.pair (.int .i64) .unit)) .unit))))), .imm false (.int .i64), .imm false (.int .i64)] [.imm false (.int .i64)] (a0, a1, a2, ()) = p_impl_entryOf N a0 a1 a2 := by kernel_rfl
theorem env107 : EnvOk Try.prog E107 := envOk mixed tabOk ⟨⟨enters146, ok146⟩, trivial⟩ ⟨⟨Try.func147, enters147⟩, trivial⟩ trivial
noncomputable def s107 : FSpec := ⟨[.imm false (.slice 79 (.pair (.int .i64) (.pair (.int .i64) (.pair (.pair (.int .i64) (.pair (.int .i64) (.pair (.int .i64) (.pair (.int .i64) (.pair (.int .i64) .unit))))) (.pair (.pair (.int .i64) (.pair (.int .i64) .unit)) .unit))))), .imm false (.int .i64), .imm false (.int .i64)], [.imm false (.int .i64)], fun x => S_impl_entryOf x.1 x.2.1 x.2.2.1⟩
theorem ok107 : FOk Try.prog 107 s107 := fn_says env107 Try.func107 rfl fun x y h => ⟨0, (r107 0 x.1 x.2.1 x.2.2.1).trans h⟩
theorem enters107 : Enters Try.prog 107 := enters Try.func107 (by kernel_rfl) rfl

/-! ## slices.ContainsFunc[[]loop.example/g00698/impl.Entry,loop.example/g00698/impl.Entry] -/
noncomputable def E148 : Env := { tab := tab, sig := [(146, s146)], clos := [], live := [], eqs := [], inl := [] }
set_option maxRecDepth 100000 in
theorem r148 (N : Nat) (a0 : List T4) (a1 : (T4 × Unit) → Option Bool) : runF N E148 Try.f148 [.imm false (.slice 79 (.pair (.int .i64) (.pair (.int .i64) (.pair (.pair (.int .i64) (.pair (.int .i64) (.pair (.int .i64) (.pair (.int .i64) (.pair (.int .i64) .unit))))) (.pair (.pair (.int .i64) (.pair (.int .i64) .unit)) .unit))))), .clo [(true, (.pair (.int .i64) (.pair (.int .i64) (.pair (.pair (.int .i64) (.pair (.int .i64) (.pair (.int .i64) (.pair (.int .i64) (.pair (.int .i64) .unit))))) (.pair (.pair (.int .i64) (.pair (.int .i64) .unit)) .unit)))))] .bool] [.imm false .bool] (a0, a1, ()) = p_ContainsFunc_Limpl_Entry_impl_Entry N a0 a1 := by kernel_rfl
theorem env148 : EnvOk Try.prog E148 := envOk mixed tabOk ⟨⟨enters146, ok146⟩, trivial⟩ trivial trivial
noncomputable def s148 : FSpec := ⟨[.imm false (.slice 79 (.pair (.int .i64) (.pair (.int .i64) (.pair (.pair (.int .i64) (.pair (.int .i64) (.pair (.int .i64) (.pair (.int .i64) (.pair (.int .i64) .unit))))) (.pair (.pair (.int .i64) (.pair (.int .i64) .unit)) .unit))))), .clo [(true, (.pair (.int .i64) (.pair (.int .i64) (.pair (.pair (.int .i64) (.pair (.int .i64) (.pair (.int .i64) (.pair (.int .i64) (.pair (.int .i64) .unit))))) (.pair (.pair (.int .i64) (.pair (.int .i64) .unit)) .unit)))))] .bool], [.imm false .bool], fun x => S_ContainsFunc_Limpl_Entry_impl_Entry x.1 x.2.1⟩
theorem ok148 : FOk Try.prog 148 s148 := fn_says env148 Try.func148 rfl fun x y h => ⟨0, (r148 0 x.1 x.2.1).trans h⟩
theorem enters148 : Enters Try.prog 148 := enters Try.func148 (by kernel_rfl) rfl

/-! ## loop.example/g00698/impl.isAccount -/
noncomputable def E98 : Env := { tab := tab, sig := [(76, s76)], clos := [], live := [], eqs := [], inl := [] }
set_option maxRecDepth 100000 in
theorem r98 (N : Nat) (a0 : Int) : runF N E98 Try.f98 [.imm false (.int .i64)] [.imm false .bool] (a0, ()) = p_impl_isAccount N a0 := by kernel_rfl
theorem env98 : EnvOk Try.prog E98 := envOk mixed tabOk ⟨⟨enters76, ok76⟩, trivial⟩ trivial trivial
noncomputable def s98 : FSpec := ⟨[.imm false (.int .i64)], [.imm false .bool], fun x => S_impl_isAccount x.1⟩
theorem ok98 : FOk Try.prog 98 s98 := fn_says env98 Try.func98 rfl fun x y h => ⟨0, (r98 0 x.1).trans h⟩
theorem enters98 : Enters Try.prog 98 := enters Try.func98 (by kernel_rfl) rfl

/-! ## loop.example/g00698/impl.GoodCmd -/
noncomputable def E142 : Env := { tab := tab, sig := [(76, s76), (98, s98)], clos := [], live := [], eqs := [(75, 5)], inl := [] }
set_option maxRecDepth 100000 in
theorem r142 (N : Nat) (a0 : T2) : runF N E142 Try.f142 [.imm true (.pair (.int .i64) (.pair (.int .i64) (.pair (.int .i64) (.pair (.int .i64) (.pair (.int .i64) .unit)))))] [.imm false .bool] (a0, ()) = p_impl_GoodCmd N a0 := by kernel_rfl
theorem env142 : EnvOk Try.prog E142 := envOk mixed tabOk ⟨⟨enters76, ok76⟩, ⟨enters98, ok98⟩, trivial⟩ trivial ⟨eq75, trivial⟩
noncomputable def s142 : FSpec := ⟨[.imm true (.pair (.int .i64) (.pair (.int .i64) (.pair (.int .i64) (.pair (.int .i64) (.pair (.int .i64) .unit)))))], [.imm false .bool], fun x => S_impl_GoodCmd x.1⟩
theorem ok142 : FOk Try.prog 142 s142 := fn_says env142 Try.func142 rfl fun x y h => ⟨0, (r142 0 x.1).trans h⟩
theorem enters142 : Enters Try.prog 142 := enters Try.func142 (by kernel_rfl) rfl

/-! ## loop.example/g00698/impl.goodEntries -/
theorem enters149 : Enters Try.prog 149 := enters Try.func149 (by kernel_rfl) rfl
noncomputable def E108 : Env := { tab := tab, sig := [(148, s148), (142, s142)], clos := [(149, ⟨Try.f149, [(true, (.pair (.int .i64) (.pair (.int .i64) (.pair (.pair (.int .i64) (.pair (.int .i64) (.pair (.int .i64) (.pair (.int .i64) (.pair (.int .i64) .unit))))) (.pair (.pair (.int .i64) (.pair (.int .i64) .unit)) .unit)))))], []⟩)], live := [], eqs := [], inl := [] }
set_option maxRecDepth 100000 in
theorem r108 (N : Nat) (a0 : List T4) : runF N E108 Try.f108 [.imm false (.slice 79 (.pair (.int .i64) (.pair (.int .i64) (.pair (.pair (.int .i64) (.pair (.int .i64) (.pair (.int .i64) (.pair (.int .i64) (.pair (.int .i64) .unit))))) (.pair (.pair (.int .i64) (.pair (.int .i64) .unit)) .unit)))))] [.imm false .bool] (a0, ()) = p_impl_goodEntries N a0 := by kernel_rfl
theorem env108 : EnvOk Try.prog E108 := envOk mixed tabOk ⟨⟨enters148, ok148⟩, ⟨enters142, ok142⟩, trivial⟩ ⟨⟨Try.func149, enters149⟩, trivial⟩ trivial
noncomputable def s108 : FSpec := ⟨[.imm false (.slice 79 (.pair (.int .i64) (.pair (.int .i64) (.pair (.pair (.int .i64) (.pair (.int .i64) (.pair (.int .i64) (.pair (.int .i64) (.pair (.int .i64) .unit))))) (.pair (.pair (.int .i64) (.pair (.int .i64) .unit)) .unit)))))], [.imm false .bool], fun x => S_impl_goodEntries x.1⟩
theorem ok108 : FOk Try.prog 108 s108 := fn_says env108 Try.func108 rfl fun x y h => ⟨0, (r108 0 x.1).trans h⟩
theorem enters108 : Enters Try.prog 108 := enters Try.func108 (by kernel_rfl) rfl

/-! ## loop.example/g00698/impl.goodParts -/
noncomputable def E62 : Env := { tab := tab, sig := [(107, s107), (108, s108), (93, s93)], clos := [], live := [(0, [0, 1, 7, 8, 9, 27, 28], [])], eqs := [], inl := [] }
set_option maxRecDepth 100000 in
theorem r62 (N : Nat) (a0 : List T4) (a1 : List Int) : runF N E62 Try.f62 [.imm false (.slice 79 (.pair (.int .i64) (.pair (.int .i64) (.pair (.pair (.int .i64) (.pair (.int .i64) (.pair (.int .i64) (.pair (.int .i64) (.pair (.int .i64) .unit))))) (.pair (.pair (.int .i64) (.pair (.int .i64) .unit)) .unit))))), .imm false (.slice 3 (.int .i64))] [.imm false .bool] (a0, a1, ()) = p_impl_goodParts N a0 a1 := by kernel_rfl
theorem env62 : EnvOk Try.prog E62 := envOk mixed tabOk ⟨⟨enters107, ok107⟩, ⟨enters108, ok108⟩, ⟨enters93, ok93⟩, trivial⟩ trivial trivial
noncomputable def s62 : FSpec := ⟨[.imm false (.slice 79 (.pair (.int .i64) (.pair (.int .i64) (.pair (.pair (.int .i64) (.pair (.int .i64) (.pair (.int .i64) (.pair (.int .i64) (.pair (.int .i64) .unit))))) (.pair (.pair (.int .i64) (.pair (.int .i64) .unit)) .unit))))), .imm false (.slice 3 (.int .i64))], [.imm false .bool], fun x => S_impl_goodParts x.1 x.2.1⟩
theorem ok62 : FOk Try.prog 62 s62 := fn_says env62 Try.func62 rfl fun x y h => let ⟨N, hN⟩ := lim_some h; ⟨N, (r62 N x.1 x.2.1).trans hN⟩
theorem enters62 : Enters Try.prog 62 := enters Try.func62 (by kernel_rfl) rfl

/-! ## loop.example/g00698/impl.verdicts -/
noncomputable def E66 : Env := { tab := tab, sig := [(63, s63)], clos := [], live := [(0, [1, 5, 9, 10, 11, 20, 21, 22, 23, 24], [])], eqs := [], inl := [] }
set_option maxRecDepth 100000 in
theorem r66 (N : Nat) (a0 : List T4) (a1 : List Int) : runF N E66 Try.f66 [.imm false (.slice 79 (.pair (.int .i64) (.pair (.int .i64) (.pair (.pair (.int .i64) (.pair (.int .i64) (.pair (.int .i64) (.pair (.int .i64) (.pair (.int .i64) .unit))))) (.pair (.pair (.int .i64) (.pair (.int .i64) .unit)) .unit))))), .imm false (.slice 3 (.int .i64))] [.deep false (.slice 103 (.pair (.int .i64) (.pair (.int .i64) (.pair (.pair (.int .i64) (.pair (.int .i64) .unit)) .unit))))] (a0, a1, ()) = p_impl_verdicts N a0 a1 := by kernel_rfl
theorem env66 : EnvOk Try.prog E66 := envOk mixed tabOk ⟨⟨enters63, ok63⟩, trivial⟩ trivial trivial
noncomputable def s66 : FSpec := ⟨[.imm false (.slice 79 (.pair (.int .i64) (.pair (.int .i64) (.pair (.pair (.int .i64) (.pair (.int .i64) (.pair (.int .i64) (.pair (.int .i64) (.pair (.int .i64) .unit))))) (.pair (.pair (.int .i64) (.pair (.int .i64) .unit)) .unit))))), .imm false (.slice 3 (.int .i64))], [.deep false (.slice 103 (.pair (.int .i64) (.pair (.int .i64) (.pair (.pair (.int .i64) (.pair (.int .i64) .unit)) .unit))))], fun x => S_impl_verdicts x.1 x.2.1⟩
theorem ok66 : FOk Try.prog 66 s66 := fn_says env66 Try.func66 rfl fun x y h => let ⟨N, hN⟩ := lim_some h; ⟨N, (r66 N x.1 x.2.1).trans hN⟩
theorem enters66 : Enters Try.prog 66 := enters Try.func66 (by kernel_rfl) rfl

/-! ## slices.Repeat[[]int,int] -/
theorem enters175 : Enters Try.prog 175 := enters Try.func175 (by kernel_rfl) rfl
theorem enters180 : Enters Try.prog 180 := enters Try.func180 (by kernel_rfl) rfl
noncomputable def E161 : Env := { tab := tab, sig := [], clos := [(175, ⟨Try.f175, [], []⟩), (180, ⟨Try.f180, [], []⟩)], live := [(0, [7, 8], [])], eqs := [], inl := [175, 180], views := true }
theorem env161 : EnvOk Try.prog E161 := envOk mixed tabOk trivial ⟨⟨Try.func175, enters175⟩, ⟨Try.func180, enters180⟩, trivial⟩ trivial
noncomputable def s161 : FSpec := ⟨[.imm false (.slice 3 (.int .i64)), .imm false (.int .i64)], [.deep false (.slice 3 (.int .i64))], fun x => S_Repeat1 x.1 x.2.1⟩
theorem r161_0 (v : Int) : runF 12 E161 Try.f161 [.imm false (.slice 3 (.int .i64)), .imm false (.int .i64)] [.deep false (.slice 3 (.int .i64))] ([v], (0 : Int), ()) = some ((([] : List Int), ()), ()) := by kernel_rfl
theorem r161_1 (v : Int) : runF 12 E161 Try.f161 [.imm false (.slice 3 (.int .i64)), .imm false (.int .i64)] [.deep false (.slice 3 (.int .i64))] ([v], (1 : Int), ()) = some ((([v] : List Int), ()), ()) := by kernel_rfl
theorem r161_2 (v : Int) : runF 12 E161 Try.f161 [.imm false (.slice 3 (.int .i64)), .imm false (.int .i64)] [.deep false (.slice 3 (.int .i64))] ([v], (2 : Int), ()) = some ((([v, v] : List Int), ()), ()) := by kernel_rfl
theorem r161_3 (v : Int) : runF 12 E161 Try.f161 [.imm false (.slice 3 (.int .i64)), .imm false (.int .i64)] [.deep false (.slice 3 (.int .i64))] ([v], (3 : Int), ()) = some ((([v, v, v] : List Int), ()), ()) := by kernel_rfl
theorem r161_4 (v : Int) : runF 12 E161 Try.f161 [.imm false (.slice 3 (.int .i64)), .imm false (.int .i64)] [.deep false (.slice 3 (.int .i64))] ([v], (4 : Int), ()) = some ((([v, v, v, v] : List Int), ()), ()) := by kernel_rfl
theorem r161_5 (v : Int) : runF 12 E161 Try.f161 [.imm false (.slice 3 (.int .i64)), .imm false (.int .i64)] [.deep false (.slice 3 (.int .i64))] ([v], (5 : Int), ()) = some ((([v, v, v, v, v] : List Int), ()), ()) := by kernel_rfl
theorem r161_6 (v : Int) : runF 12 E161 Try.f161 [.imm false (.slice 3 (.int .i64)), .imm false (.int .i64)] [.deep false (.slice 3 (.int .i64))] ([v], (6 : Int), ()) = some ((([v, v, v, v, v, v] : List Int), ()), ()) := by kernel_rfl
theorem r161_7 (v : Int) : runF 12 E161 Try.f161 [.imm false (.slice 3 (.int .i64)), .imm false (.int .i64)] [.deep false (.slice 3 (.int .i64))] ([v], (7 : Int), ()) = some ((([v, v, v, v, v, v, v] : List Int), ()), ()) := by kernel_rfl
theorem r161_8 (v : Int) : runF 12 E161 Try.f161 [.imm false (.slice 3 (.int .i64)), .imm false (.int .i64)] [.deep false (.slice 3 (.int .i64))] ([v], (8 : Int), ()) = some ((([v, v, v, v, v, v, v, v] : List Int), ()), ()) := by kernel_rfl
theorem r161_9 (v : Int) : runF 12 E161 Try.f161 [.imm false (.slice 3 (.int .i64)), .imm false (.int .i64)] [.deep false (.slice 3 (.int .i64))] ([v], (9 : Int), ()) = some ((([v, v, v, v, v, v, v, v, v] : List Int), ()), ()) := by kernel_rfl
theorem ok161 : FOk Try.prog 161 s161 := fn_says env161 Try.func161 rfl fun x y h => by
  obtain ⟨v, h1, h2⟩ := Repeat1_ok (P := fun v n y => runF 12 E161 Try.f161 [.imm false (.slice 3 (.int .i64)), .imm false (.int .i64)] [.deep false (.slice 3 (.int .i64))] ([v], n, ()) = some y) (fun v n hn => by
    match n, hn with
    | 0, _ => exact r161_0 v
    | 1, _ => exact r161_1 v
    | 2, _ => exact r161_2 v
    | 3, _ => exact r161_3 v
    | 4, _ => exact r161_4 v
    | 5, _ => exact r161_5 v
    | 6, _ => exact r161_6 v
    | 7, _ => exact r161_7 v
    | 8, _ => exact r161_8 v
    | 9, _ => exact r161_9 v
    | k + 10, hk => omega) x y h
  obtain ⟨x1, x2, ⟨⟩⟩ := x
  obtain rfl : x1 = [v] := h1
  exact ⟨12, h2⟩
theorem enters161 : Enters Try.prog 161 := enters Try.func161 (by kernel_rfl) rfl

/-! ## loop.example/g00698/impl.NewSums -/
noncomputable def E124 : Env := { tab := tab, sig := [(161, s161)], clos := [], live := [], eqs := [], inl := [] }
set_option maxRecDepth 100000 in
theorem r124 (N : Nat)  : runF N E124 Try.f124 [] [.deep false (.slice 3 (.int .i64))] (()) = p_impl_NewSums N  := by kernel_rfl
theorem env124 : EnvOk Try.prog E124 := envOk mixed tabOk ⟨⟨enters161, ok161⟩, trivial⟩ trivial trivial
noncomputable def s124 : FSpec := ⟨[], [.deep false (.slice 3 (.int .i64))], fun x => S_impl_NewSums ⟩
theorem ok124 : FOk Try.prog 124 s124 := fn_says env124 Try.func124 rfl fun x y h => ⟨0, (r124 0 ).trans h⟩
theorem enters124 : Enters Try.prog 124 := enters Try.func124 (by kernel_rfl) rfl

/-! ## slices.IndexFunc[[]loop.example/g00698/impl.Verdict,loop.example/g00698/impl.Verdict] -/
noncomputable def E125 : Env := { tab := tab, sig := [], clos := [], live := [(0, [0, 1, 7, 8], [])], eqs := [], inl := [] }
set_option maxRecDepth 100000 in
theorem r125 (N : Nat) (a0 : List T5) (a1 : (T5 × Unit) → Option Bool) : runF N E125 Try.f125 [.imm false (.slice 103 (.pair (.int .i64) (.pair (.int .i64) (.pair (.pair (.int .i64) (.pair (.int .i64) .unit)) .unit)))), .clo [(true, (.pair (.int .i64) (.pair (.int .i64) (.pair (.pair (.int .i64) (.pair (.int .i64) .unit)) .unit))))] .bool] [.imm false (.int .i64)] (a0, a1, ()) = p_IndexFunc_Limpl_Verdict_impl_Verdict N a0 a1 := by kernel_rfl
theorem env125 : EnvOk Try.prog E125 := envOk mixed tabOk trivial trivial trivial
noncomputable def s125 : FSpec := ⟨[.imm false (.slice 103 (.pair (.int .i64) (.pair (.int .i64) (.pair (.pair (.int .i64) (.pair (.int .i64) .unit)) .unit)))), .clo [(true, (.pair (.int .i64) (.pair (.int .i64) (.pair (.pair (.int .i64) (.pair (.int .i64) .unit)) .unit))))] .bool], [.imm false (.int .i64)], fun x => S_IndexFunc_Limpl_Verdict_impl_Verdict x.1 x.2.1⟩
theorem ok125 : FOk Try.prog 125 s125 := fn_says env125 Try.func125 rfl fun x y h => let ⟨N, hN⟩ := lim_some h; ⟨N, (r125 N x.1 x.2.1).trans hN⟩
theorem enters125 : Enters Try.prog 125 := enters Try.func125 (by kernel_rfl) rfl

/-! ## loop.example/g00698/impl.part -/
theorem enters126 : Enters Try.prog 126 := enters Try.func126 (by kernel_rfl) rfl
noncomputable def E80 : Env := { tab := tab, sig := [(124, s124), (63, s63), (125, s125)], clos := [(126, ⟨Try.f126, [(true, (.pair (.int .i64) (.pair (.int .i64) (.pair (.pair (.int .i64) (.pair (.int .i64) .unit)) .unit))))], []⟩)], live := [(0, [1, 2, 8, 9, 22, 23, 24, 45, 46, 47, 48, 49, 50, 51, 52, 53, 54, 59, 76, 91], []), (2, [8, 9, 16, 106, 107, 108], [])], eqs := [], inl := [] }
set_option maxRecDepth 100000 in
theorem r80 (N : Nat) (a0 : List T4) (a1 : List Int) (a2 : List T5) : runF N E80 Try.f80 [.imm false (.slice 79 (.pair (.int .i64) (.pair (.int .i64) (.pair (.pair (.int .i64) (.pair (.int .i64) (.pair (.int .i64) (.pair (.int .i64) (.pair (.int .i64) .unit))))) (.pair (.pair (.int .i64) (.pair (.int .i64) .unit)) .unit))))), .imm false (.slice 3 (.int .i64)), .imm false (.slice 103 (.pair (.int .i64) (.pair (.int .i64) (.pair (.pair (.int .i64) (.pair (.int .i64) .unit)) .unit))))] [.deep false (.slice 3 (.int .i64)), .imm false (.int .i64)] (a0, a1, a2, ()) = p_impl_part N a0 a1 a2 := by kernel_rfl
theorem env80 : EnvOk Try.prog E80 := envOk mixed tabOk ⟨⟨enters124, ok124⟩, ⟨enters63, ok63⟩, ⟨enters125, ok125⟩, trivial⟩ ⟨⟨Try.func126, enters126⟩, trivial⟩ trivial
noncomputable def s80 : FSpec := ⟨[.imm false (.slice 79 (.pair (.int .i64) (.pair (.int .i64) (.pair (.pair (.int .i64) (.pair (.int .i64) (.pair (.int .i64) (.pair (.int .i64) (.pair (.int .i64) .unit))))) (.pair (.pair (.int .i64) (.pair (.int .i64) .unit)) .unit))))), .imm false (.slice 3 (.int .i64)), .imm false (.slice 103 (.pair (.int .i64) (.pair (.int .i64) (.pair (.pair (.int .i64) (.pair (.int .i64) .unit)) .unit))))], [.deep false (.slice 3 (.int .i64)), .imm false (.int .i64)], fun x => S_impl_part x.1 x.2.1 x.2.2.1⟩
theorem ok80 : FOk Try.prog 80 s80 := fn_says env80 Try.func80 rfl fun x y h => let ⟨N, hN⟩ := lim_some h; ⟨N, (r80 N x.1 x.2.1 x.2.2.1).trans hN⟩
theorem enters80 : Enters Try.prog 80 := enters Try.func80 (by kernel_rfl) rfl

/-! ## loop.example/g00698/impl.FullPart -/
noncomputable def E40 : Env := { tab := tab, sig := [(47, s47), (76, s76), (62, s62), (66, s66), (80, s80)], clos := [], live := [(0, [1, 2, 3, 10, 36, 37, 38], [])], eqs := [], inl := [] }
set_option maxRecDepth 100000 in
theorem r40 (N : Nat) (a0 : Int) (a1 : List (List Int)) (a2 : List T4) (a3 : Int) : runF N E40 Try.f40 [.imm false (.int .i64), .imm false (.slice 23 (.slice 3 (.int .i64))), .imm false (.slice 79 (.pair (.int .i64) (.pair (.int .i64) (.pair (.pair (.int .i64) (.pair (.int .i64) (.pair (.int .i64) (.pair (.int .i64) (.pair (.int .i64) .unit))))) (.pair (.pair (.int .i64) (.pair (.int .i64) .unit)) .unit))))), .imm false (.int .i64)] [.deep false (.slice 3 (.int .i64)), .imm false .bool] (a0, a1, a2, a3, ()) = p_impl_FullPart N a0 a1 a2 a3 := by kernel_rfl
theorem env40 : EnvOk Try.prog E40 := envOk mixed tabOk ⟨⟨enters47, ok47⟩, ⟨enters76, ok76⟩, ⟨enters62, ok62⟩, ⟨enters66, ok66⟩, ⟨enters80, ok80⟩, trivial⟩ trivial trivial
noncomputable def s40 : FSpec := ⟨[.imm false (.int .i64), .imm false (.slice 23 (.slice 3 (.int .i64))), .imm false (.slice 79 (.pair (.int .i64) (.pair (.int .i64) (.pair (.pair (.int .i64) (.pair (.int .i64) (.pair (.int .i64) (.pair (.int .i64) (.pair (.int .i64) .unit))))) (.pair (.pair (.int .i64) (.pair (.int .i64) .unit)) .unit))))), .imm false (.int .i64)], [.deep false (.slice 3 (.int .i64)), .imm false .bool], fun x => S_impl_FullPart x.1 x.2.1 x.2.2.1 x.2.2.2.1⟩
theorem ok40 : FOk Try.prog 40 s40 := fn_says env40 Try.func40 rfl fun x y h => let ⟨N, hN⟩ := lim_some h; ⟨N, (r40 N x.1 x.2.1 x.2.2.1 x.2.2.2.1).trans hN⟩
theorem enters40 : Enters Try.prog 40 := enters Try.func40 (by kernel_rfl) rfl

/-! ## loop.example/g00698/spec.IsGroup -/
noncomputable def E95 : Env := { tab := tab, sig := [], clos := [], live := [], eqs := [], inl := [] }
set_option maxRecDepth 100000 in
theorem r95 (N : Nat) (a0 : Int) : runF N E95 Try.f95 [.imm false (.int .i64)] [.imm false .bool] (a0, ()) = p_spec_IsGroup N a0 := by kernel_rfl
theorem env95 : EnvOk Try.prog E95 := envOk mixed tabOk trivial trivial trivial
noncomputable def s95 : FSpec := ⟨[.imm false (.int .i64)], [.imm false .bool], fun x => S_spec_IsGroup x.1⟩
theorem ok95 : FOk Try.prog 95 s95 := fn_says env95 Try.func95 rfl fun x y h => ⟨0, (r95 0 x.1).trans h⟩
theorem enters95 : Enters Try.prog 95 := enters Try.func95 (by kernel_rfl) rfl

/-! ## loop.example/g00698/spec.l1In -/
noncomputable def E82 : Env := { tab := tab, sig := [], clos := [], live := [], eqs := [], inl := [] }
set_option maxRecDepth 100000 in
theorem r82 (N : Nat) (a0 : Int) (a1 : Int) (a2 : Int) : runF N E82 Try.f82 [.imm false (.int .i64), .imm false (.int .i64), .imm false (.int .i64)] [.imm false .bool] (a0, a1, a2, ()) = p_spec_l1In N a0 a1 a2 := by kernel_rfl
theorem env82 : EnvOk Try.prog E82 := envOk mixed tabOk trivial trivial trivial
noncomputable def s82 : FSpec := ⟨[.imm false (.int .i64), .imm false (.int .i64), .imm false (.int .i64)], [.imm false .bool], fun x => S_spec_l1In x.1 x.2.1 x.2.2.1⟩
theorem ok82 : FOk Try.prog 82 s82 := fn_says env82 Try.func82 rfl fun x y h => ⟨0, (r82 0 x.1 x.2.1 x.2.2.1).trans h⟩
theorem enters82 : Enters Try.prog 82 := enters Try.func82 (by kernel_rfl) rfl

/-! ## loop.example/g00698/spec.l1Rising -/
noncomputable def E104 : Env := { tab := tab, sig := [(82, s82)], clos := [], live := [(0, [0, 1, 2, 9, 10, 11, 22, 23, 24, 25, 26, 27, 28, 29, 30, 31, 32], [])], eqs := [], inl := [] }
set_option maxRecDepth 100000 in
theorem r104 (N : Nat) (a0 : List Int) (a1 : Int) (a2 : Int) : runF N E104 Try.f104 [.imm false (.slice 3 (.int .i64)), .imm false (.int .i64), .imm false (.int .i64)] [.imm false .bool] (a0, a1, a2, ()) = p_spec_l1Rising N a0 a1 a2 := by kernel_rfl
theorem env104 : EnvOk Try.prog E104 := envOk mixed tabOk ⟨⟨enters82, ok82⟩, trivial⟩ trivial trivial
noncomputable def s104 : FSpec := ⟨[.imm false (.slice 3 (.int .i64)), .imm false (.int .i64), .imm false (.int .i64)], [.imm false .bool], fun x => S_spec_l1Rising x.1 x.2.1 x.2.2.1⟩
theorem ok104 : FOk Try.prog 104 s104 := fn_says env104 Try.func104 rfl fun x y h => let ⟨N, hN⟩ := lim_some h; ⟨N, (r104 N x.1 x.2.1 x.2.2.1).trans hN⟩
theorem enters104 : Enters Try.prog 104 := enters Try.func104 (by kernel_rfl) rfl

/-! ## loop.example/g00698/spec.l16Keeps -/
noncomputable def E59 : Env := { tab := tab, sig := [(104, s104)], clos := [], live := [], eqs := [], inl := [] }
set_option maxRecDepth 100000 in
theorem r59 (N : Nat) (a0 : List Int) : runF N E59 Try.f59 [.imm false (.slice 3 (.int .i64))] [.imm false .bool] (a0, ()) = p_spec_l16Keeps N a0 := by kernel_rfl
theorem env59 : EnvOk Try.prog E59 := envOk mixed tabOk ⟨⟨enters104, ok104⟩, trivial⟩ trivial trivial
noncomputable def s59 : FSpec := ⟨[.imm false (.slice 3 (.int .i64))], [.imm false .bool], fun x => S_spec_l16Keeps x.1⟩
theorem ok59 : FOk Try.prog 59 s59 := fn_says env59 Try.func59 rfl fun x y h => ⟨0, (r59 0 x.1).trans h⟩
theorem enters59 : Enters Try.prog 59 := enters Try.func59 (by kernel_rfl) rfl

/-! ## loop.example/g00698/spec.l1Has -/
noncomputable def E60 : Env := { tab := tab, sig := [], clos := [], live := [(0, [1, 7, 8, 9], [])], eqs := [], inl := [] }
set_option maxRecDepth 100000 in
theorem r60 (N : Nat) (a0 : List Int) (a1 : Int) : runF N E60 Try.f60 [.imm false (.slice 3 (.int .i64)), .imm false (.int .i64)] [.imm false .bool] (a0, a1, ()) = p_spec_l1Has N a0 a1 := by kernel_rfl
theorem env60 : EnvOk Try.prog E60 := envOk mixed tabOk trivial trivial trivial
noncomputable def s60 : FSpec := ⟨[.imm false (.slice 3 (.int .i64)), .imm false (.int .i64)], [.imm false .bool], fun x => S_spec_l1Has x.1 x.2.1⟩
theorem ok60 : FOk Try.prog 60 s60 := fn_says env60 Try.func60 rfl fun x y h => let ⟨N, hN⟩ := lim_some h; ⟨N, (r60 N x.1 x.2.1).trans hN⟩
theorem enters60 : Enters Try.prog 60 := enters Try.func60 (by kernel_rfl) rfl

/-! ## loop.example/g00698/spec.GoodPlaces -/
noncomputable def E48 : Env := { tab := tab, sig := [(95, s95), (59, s59), (60, s60)], clos := [], live := [(0, [1, 5, 33, 34, 35], []), (2, [1, 5, 6, 22, 23, 24, 33, 34, 35], [])], eqs := [], inl := [] }
set_option maxRecDepth 100000 in
theorem r48 (N : Nat) (a0 : Int) (a1 : List (List Int)) : runF N E48 Try.f48 [.imm false (.int .i64), .imm false (.slice 23 (.slice 3 (.int .i64)))] [.imm false .bool] (a0, a1, ()) = p_spec_GoodPlaces N a0 a1 := by kernel_rfl
theorem env48 : EnvOk Try.prog E48 := envOk mixed tabOk ⟨⟨enters95, ok95⟩, ⟨enters59, ok59⟩, ⟨enters60, ok60⟩, trivial⟩ trivial trivial
noncomputable def s48 : FSpec := ⟨[.imm false (.int .i64), .imm false (.slice 23 (.slice 3 (.int .i64)))], [.imm false .bool], fun x => S_spec_GoodPlaces x.1 x.2.1⟩
theorem ok48 : FOk Try.prog 48 s48 := fn_says env48 Try.func48 rfl fun x y h => let ⟨N, hN⟩ := lim_some h; ⟨N, (r48 N x.1 x.2.1).trans hN⟩
theorem enters48 : Enters Try.prog 48 := enters Try.func48 (by kernel_rfl) rfl

/-! ## loop.example/g00698/spec.l2Account -/
noncomputable def E102 : Env := { tab := tab, sig := [(82, s82)], clos := [], live := [], eqs := [], inl := [] }
set_option maxRecDepth 100000 in
theorem r102 (N : Nat) (a0 : Int) : runF N E102 Try.f102 [.imm false (.int .i64)] [.imm false .bool] (a0, ()) = p_spec_l2Account N a0 := by kernel_rfl
theorem env102 : EnvOk Try.prog E102 := envOk mixed tabOk ⟨⟨enters82, ok82⟩, trivial⟩ trivial trivial
noncomputable def s102 : FSpec := ⟨[.imm false (.int .i64)], [.imm false .bool], fun x => S_spec_l2Account x.1⟩
theorem ok102 : FOk Try.prog 102 s102 := fn_says env102 Try.func102 rfl fun x y h => ⟨0, (r102 0 x.1).trans h⟩
theorem enters102 : Enters Try.prog 102 := enters Try.func102 (by kernel_rfl) rfl

/-! ## loop.example/g00698/spec.l2Code -/
noncomputable def E145 : Env := { tab := tab, sig := [(102, s102), (82, s82)], clos := [], live := [], eqs := [], inl := [] }
set_option maxRecDepth 100000 in
theorem r145 (N : Nat) (a0 : T2) : runF N E145 Try.f145 [.imm true (.pair (.int .i64) (.pair (.int .i64) (.pair (.int .i64) (.pair (.int .i64) (.pair (.int .i64) .unit)))))] [.imm false (.int .i64)] (a0, ()) = p_spec_l2Code N a0 := by kernel_rfl
theorem env145 : EnvOk Try.prog E145 := envOk mixed tabOk ⟨⟨enters102, ok102⟩, ⟨enters82, ok82⟩, trivial⟩ trivial trivial
noncomputable def s145 : FSpec := ⟨[.imm true (.pair (.int .i64) (.pair (.int .i64) (.pair (.int .i64) (.pair (.int .i64) (.pair (.int .i64) .unit)))))], [.imm false (.int .i64)], fun x => S_spec_l2Code x.1⟩
theorem ok145 : FOk Try.prog 145 s145 := fn_says env145 Try.func145 rfl fun x y h => ⟨0, (r145 0 x.1).trans h⟩
theorem enters145 : Enters Try.prog 145 := enters Try.func145 (by kernel_rfl) rfl

/-! ## loop.example/g00698/spec.GoodCmd -/
noncomputable def E103 : Env := { tab := tab, sig := [(145, s145)], clos := [], live := [], eqs := [(75, 5)], inl := [] }
set_option maxRecDepth 100000 in
theorem r103 (N : Nat) (a0 : T2) : runF N E103 Try.f103 [.imm true (.pair (.int .i64) (.pair (.int .i64) (.pair (.int .i64) (.pair (.int .i64) (.pair (.int .i64) .unit)))))] [.imm false .bool] (a0, ()) = p_spec_GoodCmd N a0 := by kernel_rfl
theorem env103 : EnvOk Try.prog E103 := envOk mixed tabOk ⟨⟨enters145, ok145⟩, trivial⟩ trivial ⟨eq75, trivial⟩
noncomputable def s103 : FSpec := ⟨[.imm true (.pair (.int .i64) (.pair (.int .i64) (.pair (.int .i64) (.pair (.int .i64) (.pair (.int .i64) .unit)))))], [.imm false .bool], fun x => S_spec_GoodCmd x.1⟩
theorem ok103 : FOk Try.prog 103 s103 := fn_says env103 Try.func103 rfl fun x y h => ⟨0, (r103 0 x.1).trans h⟩
theorem enters103 : Enters Try.prog 103 := enters Try.func103 (by kernel_rfl) rfl

/-! ## loop.example/g00698/spec.l16Entries -/
noncomputable def E58 : Env := { tab := tab, sig := [(103, s103)], clos := [], live := [(0, [0, 7, 8, 9, 32, 33, 34, 35, 36], []), (2, [0, 4, 7, 8, 9, 20, 21, 22, 32, 33, 34, 35, 36], [])], eqs := [], inl := [] }
set_option maxRecDepth 100000 in
theorem r58 (N : Nat) (a0 : List T4) : runF N E58 Try.f58 [.imm false (.slice 79 (.pair (.int .i64) (.pair (.int .i64) (.pair (.pair (.int .i64) (.pair (.int .i64) (.pair (.int .i64) (.pair (.int .i64) (.pair (.int .i64) .unit))))) (.pair (.pair (.int .i64) (.pair (.int .i64) .unit)) .unit)))))] [.imm false .bool] (a0, ()) = p_spec_l16Entries N a0 := by kernel_rfl
theorem env58 : EnvOk Try.prog E58 := envOk mixed tabOk ⟨⟨enters103, ok103⟩, trivial⟩ trivial trivial
noncomputable def s58 : FSpec := ⟨[.imm false (.slice 79 (.pair (.int .i64) (.pair (.int .i64) (.pair (.pair (.int .i64) (.pair (.int .i64) (.pair (.int .i64) (.pair (.int .i64) (.pair (.int .i64) .unit))))) (.pair (.pair (.int .i64) (.pair (.int .i64) .unit)) .unit)))))], [.imm false .bool], fun x => S_spec_l16Entries x.1⟩
theorem ok58 : FOk Try.prog 58 s58 := fn_says env58 Try.func58 rfl fun x y h => let ⟨N, hN⟩ := lim_some h; ⟨N, (r58 N x.1).trans hN⟩
theorem enters58 : Enters Try.prog 58 := enters Try.func58 (by kernel_rfl) rfl

/-! ## loop.example/g00698/spec.l16Verdicts -/
noncomputable def E65 : Env := { tab := tab, sig := [(60, s60)], clos := [], live := [(0, [1, 5, 8, 9, 10, 19, 20, 21, 22, 23], [])], eqs := [], inl := [] }
set_option maxRecDepth 100000 in
theorem r65 (N : Nat) (a0 : List T4) (a1 : List Int) : runF N E65 Try.f65 [.imm false (.slice 79 (.pair (.int .i64) (.pair (.int .i64) (.pair (.pair (.int .i64) (.pair (.int .i64) (.pair (.int .i64) (.pair (.int .i64) (.pair (.int .i64) .unit))))) (.pair (.pair (.int .i64) (.pair (.int .i64) .unit)) .unit))))), .imm false (.slice 3 (.int .i64))] [.deep false (.slice 103 (.pair (.int .i64) (.pair (.int .i64) (.pair (.pair (.int .i64) (.pair (.int .i64) .unit)) .unit))))] (a0, a1, ()) = p_spec_l16Verdicts N a0 a1 := by kernel_rfl
theorem env65 : EnvOk Try.prog E65 := envOk mixed tabOk ⟨⟨enters60, ok60⟩, trivial⟩ trivial trivial
noncomputable def s65 : FSpec := ⟨[.imm false (.slice 79 (.pair (.int .i64) (.pair (.int .i64) (.pair (.pair (.int .i64) (.pair (.int .i64) (.pair (.int .i64) (.pair (.int .i64) (.pair (.int .i64) .unit))))) (.pair (.pair (.int .i64) (.pair (.int .i64) .unit)) .unit))))), .imm false (.slice 3 (.int .i64))], [.deep false (.slice 103 (.pair (.int .i64) (.pair (.int .i64) (.pair (.pair (.int .i64) (.pair (.int .i64) .unit)) .unit))))], fun x => S_spec_l16Verdicts x.1 x.2.1⟩
theorem ok65 : FOk Try.prog 65 s65 := fn_says env65 Try.func65 rfl fun x y h => let ⟨N, hN⟩ := lim_some h; ⟨N, (r65 N x.1 x.2.1).trans hN⟩
theorem enters65 : Enters Try.prog 65 := enters Try.func65 (by kernel_rfl) rfl

/-! ## loop.example/g00698/spec.l16Known -/
noncomputable def E122 : Env := { tab := tab, sig := [], clos := [], live := [(0, [2, 4, 8, 9, 10, 20, 21, 22, 23, 24], [])], eqs := [], inl := [] }
set_option maxRecDepth 100000 in
theorem r122 (N : Nat) (a0 : T4) (a1 : List T5) : runF N E122 Try.f122 [.imm true (.pair (.int .i64) (.pair (.int .i64) (.pair (.pair (.int .i64) (.pair (.int .i64) (.pair (.int .i64) (.pair (.int .i64) (.pair (.int .i64) .unit))))) (.pair (.pair (.int .i64) (.pair (.int .i64) .unit)) .unit)))), .imm false (.slice 103 (.pair (.int .i64) (.pair (.int .i64) (.pair (.pair (.int .i64) (.pair (.int .i64) .unit)) .unit))))] [.imm true (.pair (.int .i64) (.pair (.int .i64) .unit)), .imm false .bool] (a0, a1, ()) = p_spec_l16Known N a0 a1 := by kernel_rfl
theorem env122 : EnvOk Try.prog E122 := envOk mixed tabOk trivial trivial trivial
noncomputable def s122 : FSpec := ⟨[.imm true (.pair (.int .i64) (.pair (.int .i64) (.pair (.pair (.int .i64) (.pair (.int .i64) (.pair (.int .i64) (.pair (.int .i64) (.pair (.int .i64) .unit))))) (.pair (.pair (.int .i64) (.pair (.int .i64) .unit)) .unit)))), .imm false (.slice 103 (.pair (.int .i64) (.pair (.int .i64) (.pair (.pair (.int .i64) (.pair (.int .i64) .unit)) .unit))))], [.imm true (.pair (.int .i64) (.pair (.int .i64) .unit)), .imm false .bool], fun x => S_spec_l16Known x.1 x.2.1⟩
theorem ok122 : FOk Try.prog 122 s122 := fn_says env122 Try.func122 rfl fun x y h => let ⟨N, hN⟩ := lim_some h; ⟨N, (r122 N x.1 x.2.1).trans hN⟩
theorem enters122 : Enters Try.prog 122 := enters Try.func122 (by kernel_rfl) rfl

end Go.Proofs.Ythijgmbdlkeebaa.Am
