/- Functions, as they run on data. No condition. -/
import Derived.Test.YtnognplemkdjiaaGreatAmFn0
set_option linter.unusedVariables false
set_option maxRecDepth 100000
namespace Go.Proofs.YtnognplemkdjiaaGreat.Am
open Go.AM Go.AM.P Go.Proofs
/-! ## slices.Compare[[]int,int] -/
noncomputable def E72 : Env := { tab := tab, sig := [(139, s139)], clos := [], live := [(0, [0, 1, 9, 10, 11], [])], eqs := [], inl := [] }
set_option maxRecDepth 100000 in
theorem r72 (N : Nat) (a0 : List Int) (a1 : List Int) : runF N E72 Tryz.f72 [.imm false (.slice 3 (.int .i64)), .imm false (.slice 3 (.int .i64))] [.imm false (.int .i64)] (a0, a1, ()) = p_Compare_Lint_int N a0 a1 := by kernel_rfl
theorem env72 : EnvOk Tryz.prog E72 := envOk mixed tabOk ⟨⟨enters139, ok139⟩, trivial⟩ trivial trivial
noncomputable def s72 : FSpec := ⟨[.imm false (.slice 3 (.int .i64)), .imm false (.slice 3 (.int .i64))], [.imm false (.int .i64)], fun x => S_Compare_Lint_int x.1 x.2.1⟩
theorem ok72 : FOk Tryz.prog 72 s72 := fn_says env72 Tryz.func72 rfl fun x y h => let ⟨N, hN⟩ := lim_some h; ⟨N, (r72 N x.1 x.2.1).trans hN⟩
theorem enters72 : Enters Tryz.prog 72 := enters Tryz.func72 (by kernel_rfl) rfl

/-! ## loop.example/g00698/impl.riseInstances -/
noncomputable def E108 : Env := { tab := tab, sig := [(159, s159), (72, s72)], clos := [], live := [(0, [0, 1, 7, 8, 9, 18, 19, 20, 21, 22, 23, 24, 25, 26, 29, 30, 31, 32, 33, 34, 35, 36, 37, 38, 39, 40], [])], eqs := [], inl := [] }
set_option maxRecDepth 100000 in
theorem r108 (N : Nat) (a0 : Int) (a1 : List (List Int)) : runF N E108 Tryz.f108 [.imm false (.int .i64), .imm false (.slice 23 (.slice 3 (.int .i64)))] [.imm false .bool] (a0, a1, ()) = p_impl_riseInstances N a0 a1 := by kernel_rfl
theorem env108 : EnvOk Tryz.prog E108 := envOk mixed tabOk ⟨⟨enters159, ok159⟩, ⟨enters72, ok72⟩, trivial⟩ trivial trivial
noncomputable def s108 : FSpec := ⟨[.imm false (.int .i64), .imm false (.slice 23 (.slice 3 (.int .i64)))], [.imm false .bool], fun x => S_impl_riseInstances x.1 x.2.1⟩
theorem ok108 : FOk Tryz.prog 108 s108 := fn_says env108 Tryz.func108 rfl fun x y h => let ⟨N, hN⟩ := lim_some h; ⟨N, (r108 N x.1 x.2.1).trans hN⟩
theorem enters108 : Enters Tryz.prog 108 := enters Tryz.func108 (by kernel_rfl) rfl

/-! ## slices.IndexFunc[[]int,int] -/
noncomputable def E174 : Env := { tab := tab, sig := [], clos := [], live := [(0, [0, 1, 7, 8], [])], eqs := [], inl := [] }
set_option maxRecDepth 100000 in
theorem r174 (N : Nat) (a0 : List Int) (a1 : (Int × Unit) → Option Bool) : runF N E174 Tryz.f174 [.imm false (.slice 3 (.int .i64)), .clo [(false, (.int .i64))] .bool] [.imm false (.int .i64)] (a0, a1, ()) = p_IndexFunc_Lint_int N a0 a1 := by kernel_rfl
theorem env174 : EnvOk Tryz.prog E174 := envOk mixed tabOk trivial trivial trivial
noncomputable def s174 : FSpec := ⟨[.imm false (.slice 3 (.int .i64)), .clo [(false, (.int .i64))] .bool], [.imm false (.int .i64)], fun x => S_IndexFunc_Lint_int x.1 x.2.1⟩
theorem ok174 : FOk Tryz.prog 174 s174 := fn_says env174 Tryz.func174 rfl fun x y h => let ⟨N, hN⟩ := lim_some h; ⟨N, (r174 N x.1 x.2.1).trans hN⟩
theorem enters174 : Enters Tryz.prog 174 := enters Tryz.func174 (by kernel_rfl) rfl

/-! ## slices.ContainsFunc[[]int,int] -/
noncomputable def E109 : Env := { tab := tab, sig := [(174, s174)], clos := [], live := [], eqs := [], inl := [] }
set_option maxRecDepth 100000 in
theorem r109 (N : Nat) (a0 : List Int) (a1 : (Int × Unit) → Option Bool) : runF N E109 Tryz.f109 [.imm false (.slice 3 (.int .i64)), .clo [(false, (.int .i64))] .bool] [.imm false .bool] (a0, a1, ()) = p_ContainsFunc_Lint_int N a0 a1 := by kernel_rfl
theorem env109 : EnvOk Tryz.prog E109 := envOk mixed tabOk ⟨⟨enters174, ok174⟩, trivial⟩ trivial trivial
noncomputable def s109 : FSpec := ⟨[.imm false (.slice 3 (.int .i64)), .clo [(false, (.int .i64))] .bool], [.imm false .bool], fun x => S_ContainsFunc_Lint_int x.1 x.2.1⟩
theorem ok109 : FOk Tryz.prog 109 s109 := fn_says env109 Tryz.func109 rfl fun x y h => ⟨0, (r109 0 x.1 x.2.1).trans h⟩
theorem enters109 : Enters Tryz.prog 109 := enters Tryz.func109 (by kernel_rfl) rfl

/-! ## loop.example/g00698/impl.GoodWatch -/
theorem enters110 : Enters Tryz.prog 110 := enters Tryz.func110 (by kernel_rfl) rfl
noncomputable def E54 : Env := { tab := tab, sig := [(107, s107), (67, s67), (108, s108), (109, s109)], clos := [(110, ⟨Tryz.f110, [(false, (.int .i64))], []⟩)], live := [], eqs := [], inl := [] }
set_option maxRecDepth 100000 in
theorem r54 (N : Nat) (a0 : T0) : runF N E54 Tryz.f54 [.imm true (.pair (.int .i64) (.pair (.int .i64) (.pair (.slice 23 (.slice 3 (.int .i64))) (.pair (.slice 3 (.int .i64)) .unit))))] [.imm false .bool] (a0, ()) = p_impl_GoodWatch N a0 := by kernel_rfl
theorem env54 : EnvOk Tryz.prog E54 := envOk mixed tabOk ⟨⟨enters107, ok107⟩, ⟨enters67, ok67⟩, ⟨enters108, ok108⟩, ⟨enters109, ok109⟩, trivial⟩ ⟨⟨Tryz.func110, enters110⟩, trivial⟩ trivial
noncomputable def s54 : FSpec := ⟨[.imm true (.pair (.int .i64) (.pair (.int .i64) (.pair (.slice 23 (.slice 3 (.int .i64))) (.pair (.slice 3 (.int .i64)) .unit))))], [.imm false .bool], fun x => S_impl_GoodWatch x.1⟩
theorem ok54 : FOk Tryz.prog 54 s54 := fn_says env54 Tryz.func54 rfl fun x y h => ⟨0, (r54 0 x.1).trans h⟩
theorem enters54 : Enters Tryz.prog 54 := enters Tryz.func54 (by kernel_rfl) rfl

/-! ## loop.example/g00698/impl.isAccount -/
noncomputable def E220 : Env := { tab := tab, sig := [(67, s67)], clos := [], live := [], eqs := [], inl := [] }
set_option maxRecDepth 100000 in
theorem r220 (N : Nat) (a0 : Int) : runF N E220 Tryz.f220 [.imm false (.int .i64)] [.imm false .bool] (a0, ()) = p_impl_isAccount N a0 := by kernel_rfl
theorem env220 : EnvOk Tryz.prog E220 := envOk mixed tabOk ⟨⟨enters67, ok67⟩, trivial⟩ trivial trivial
noncomputable def s220 : FSpec := ⟨[.imm false (.int .i64)], [.imm false .bool], fun x => S_impl_isAccount x.1⟩
theorem ok220 : FOk Tryz.prog 220 s220 := fn_says env220 Tryz.func220 rfl fun x y h => ⟨0, (r220 0 x.1).trans h⟩
theorem enters220 : Enters Tryz.prog 220 := enters Tryz.func220 (by kernel_rfl) rfl

/-! ## loop.example/g00698/impl.GoodCmd -/
noncomputable def E160 : Env := { tab := tab, sig := [(67, s67), (220, s220)], clos := [], live := [], eqs := [(100, 5)], inl := [] }
set_option maxRecDepth 100000 in
theorem r160 (N : Nat) (a0 : T2) : runF N E160 Tryz.f160 [.imm true (.pair (.int .i64) (.pair (.int .i64) (.pair (.int .i64) (.pair (.int .i64) (.pair (.int .i64) .unit)))))] [.imm false .bool] (a0, ()) = p_impl_GoodCmd N a0 := by kernel_rfl
theorem env160 : EnvOk Tryz.prog E160 := envOk mixed tabOk ⟨⟨enters67, ok67⟩, ⟨enters220, ok220⟩, trivial⟩ trivial ⟨eq100, trivial⟩
noncomputable def s160 : FSpec := ⟨[.imm true (.pair (.int .i64) (.pair (.int .i64) (.pair (.int .i64) (.pair (.int .i64) (.pair (.int .i64) .unit)))))], [.imm false .bool], fun x => S_impl_GoodCmd x.1⟩
theorem ok160 : FOk Tryz.prog 160 s160 := fn_says env160 Tryz.func160 rfl fun x y h => ⟨0, (r160 0 x.1).trans h⟩
theorem enters160 : Enters Tryz.prog 160 := enters Tryz.func160 (by kernel_rfl) rfl

/-! ## loop.example/g00698/impl.GoodAttr -/
theorem enters229 : Enters Tryz.prog 229 := enters Tryz.func229 (by kernel_rfl) rfl
noncomputable def E177 : Env := { tab := tab, sig := [(107, s107), (67, s67), (109, s109)], clos := [(229, ⟨Tryz.f229, [(false, (.int .i64))], []⟩)], live := [], eqs := [], inl := [] }
set_option maxRecDepth 100000 in
theorem r177 (N : Nat) (a0 : Int) (a1 : T6) : runF N E177 Tryz.f177 [.imm false (.int .i64), .imm true (.pair (.int .i64) (.pair (.slice 3 (.int .i64)) .unit))] [.imm false .bool] (a0, a1, ()) = p_impl_GoodAttr N a0 a1 := by kernel_rfl
theorem env177 : EnvOk Tryz.prog E177 := envOk mixed tabOk ⟨⟨enters107, ok107⟩, ⟨enters67, ok67⟩, ⟨enters109, ok109⟩, trivial⟩ ⟨⟨Tryz.func229, enters229⟩, trivial⟩ trivial
noncomputable def s177 : FSpec := ⟨[.imm false (.int .i64), .imm true (.pair (.int .i64) (.pair (.slice 3 (.int .i64)) .unit))], [.imm false .bool], fun x => S_impl_GoodAttr x.1 x.2.1⟩
theorem ok177 : FOk Tryz.prog 177 s177 := fn_says env177 Tryz.func177 rfl fun x y h => ⟨0, (r177 0 x.1 x.2.1).trans h⟩
theorem enters177 : Enters Tryz.prog 177 := enters Tryz.func177 (by kernel_rfl) rfl

/-! ## loop.example/g00698/impl.noneAttr -/
noncomputable def E179 : Env := { tab := tab, sig := [], clos := [], live := [], eqs := [], inl := [] }
set_option maxRecDepth 100000 in
theorem r179 (N : Nat) (a0 : Int) : runF N E179 Tryz.f179 [.imm false (.int .i64)] [.deep true (.pair (.int .i64) (.pair (.slice 3 (.int .i64)) .unit))] (a0, ()) = p_impl_noneAttr N a0 := by kernel_rfl
theorem env179 : EnvOk Tryz.prog E179 := envOk mixed tabOk trivial trivial trivial
noncomputable def s179 : FSpec := ⟨[.imm false (.int .i64)], [.deep true (.pair (.int .i64) (.pair (.slice 3 (.int .i64)) .unit))], fun x => S_impl_noneAttr x.1⟩
theorem ok179 : FOk Tryz.prog 179 s179 := fn_says env179 Tryz.func179 rfl fun x y h => ⟨0, (r179 0 x.1).trans h⟩
theorem enters179 : Enters Tryz.prog 179 := enters Tryz.func179 (by kernel_rfl) rfl

/-! ## slices.Equal[[]int,int] -/
noncomputable def E119 : Env := { tab := tab, sig := [], clos := [], live := [(0, [0, 1, 12, 13], [])], eqs := [], inl := [] }
set_option maxRecDepth 100000 in
theorem r119 (N : Nat) (a0 : List Int) (a1 : List Int) : runF N E119 Tryz.f119 [.imm false (.slice 3 (.int .i64)), .imm false (.slice 3 (.int .i64))] [.imm false .bool] (a0, a1, ()) = p_Equal_Lint_int N a0 a1 := by kernel_rfl
theorem env119 : EnvOk Tryz.prog E119 := envOk mixed tabOk trivial trivial trivial
noncomputable def s119 : FSpec := ⟨[.imm false (.slice 3 (.int .i64)), .imm false (.slice 3 (.int .i64))], [.imm false .bool], fun x => S_Equal_Lint_int x.1 x.2.1⟩
theorem ok119 : FOk Tryz.prog 119 s119 := fn_says env119 Tryz.func119 rfl fun x y h => let ⟨N, hN⟩ := lim_some h; ⟨N, (r119 N x.1 x.2.1).trans hN⟩
theorem enters119 : Enters Tryz.prog 119 := enters Tryz.func119 (by kernel_rfl) rfl

/-! ## loop.example/g00698/impl.SameAttr -/
noncomputable def E178 : Env := { tab := tab, sig := [(119, s119)], clos := [], live := [], eqs := [], inl := [] }
set_option maxRecDepth 100000 in
theorem r178 (N : Nat) (a0 : T6) (a1 : T6) : runF N E178 Tryz.f178 [.imm true (.pair (.int .i64) (.pair (.slice 3 (.int .i64)) .unit)), .imm true (.pair (.int .i64) (.pair (.slice 3 (.int .i64)) .unit))] [.imm false .bool] (a0, a1, ()) = p_impl_SameAttr N a0 a1 := by kernel_rfl
theorem env178 : EnvOk Tryz.prog E178 := envOk mixed tabOk ⟨⟨enters119, ok119⟩, trivial⟩ trivial trivial
noncomputable def s178 : FSpec := ⟨[.imm true (.pair (.int .i64) (.pair (.slice 3 (.int .i64)) .unit)), .imm true (.pair (.int .i64) (.pair (.slice 3 (.int .i64)) .unit))], [.imm false .bool], fun x => S_impl_SameAttr x.1 x.2.1⟩
theorem ok178 : FOk Tryz.prog 178 s178 := fn_says env178 Tryz.func178 rfl fun x y h => ⟨0, (r178 0 x.1 x.2.1).trans h⟩
theorem enters178 : Enters Tryz.prog 178 := enters Tryz.func178 (by kernel_rfl) rfl

/-! ## loop.example/g00698/impl.goodRow -/
noncomputable def E115 : Env := { tab := tab, sig := [(67, s67), (160, s160), (177, s177), (179, s179), (178, s178)], clos := [], live := [], eqs := [(100, 5)], inl := [] }
set_option maxRecDepth 100000 in
theorem r115 (N : Nat) (a0 : Int) (a1 : T7) : runF N E115 Tryz.f115 [.imm false (.int .i64), .imm true (.pair (.int .i64) (.pair (.int .i64) (.pair (.int .i64) (.pair (.pair (.int .i64) (.pair (.int .i64) (.pair (.int .i64) (.pair (.int .i64) (.pair (.int .i64) .unit))))) (.pair (.pair (.int .i64) (.pair (.slice 3 (.int .i64)) .unit)) .unit)))))] [.imm false .bool] (a0, a1, ()) = p_impl_goodRow N a0 a1 := by kernel_rfl
theorem env115 : EnvOk Tryz.prog E115 := envOk mixed tabOk ⟨⟨enters67, ok67⟩, ⟨enters160, ok160⟩, ⟨enters177, ok177⟩, ⟨enters179, ok179⟩, ⟨enters178, ok178⟩, trivial⟩ trivial ⟨eq100, trivial⟩
noncomputable def s115 : FSpec := ⟨[.imm false (.int .i64), .imm true (.pair (.int .i64) (.pair (.int .i64) (.pair (.int .i64) (.pair (.pair (.int .i64) (.pair (.int .i64) (.pair (.int .i64) (.pair (.int .i64) (.pair (.int .i64) .unit))))) (.pair (.pair (.int .i64) (.pair (.slice 3 (.int .i64)) .unit)) .unit)))))], [.imm false .bool], fun x => S_impl_goodRow x.1 x.2.1⟩
theorem ok115 : FOk Tryz.prog 115 s115 := fn_says env115 Tryz.func115 rfl fun x y h => ⟨0, (r115 0 x.1 x.2.1).trans h⟩
theorem enters115 : Enters Tryz.prog 115 := enters Tryz.func115 (by kernel_rfl) rfl

/-! ## slices.IndexFunc[[]loop.example/g00698/impl.Row,loop.example/g00698/impl.Row] -/
noncomputable def E176 : Env := { tab := tab, sig := [], clos := [], live := [(0, [0, 1, 7, 8], [])], eqs := [], inl := [] }
set_option maxRecDepth 100000 in
theorem r176 (N : Nat) (a0 : List T7) (a1 : (T7 × Unit) → Option Bool) : runF N E176 Tryz.f176 [.imm false (.slice 104 (.pair (.int .i64) (.pair (.int .i64) (.pair (.int .i64) (.pair (.pair (.int .i64) (.pair (.int .i64) (.pair (.int .i64) (.pair (.int .i64) (.pair (.int .i64) .unit))))) (.pair (.pair (.int .i64) (.pair (.slice 3 (.int .i64)) .unit)) .unit)))))), .clo [(true, (.pair (.int .i64) (.pair (.int .i64) (.pair (.int .i64) (.pair (.pair (.int .i64) (.pair (.int .i64) (.pair (.int .i64) (.pair (.int .i64) (.pair (.int .i64) .unit))))) (.pair (.pair (.int .i64) (.pair (.slice 3 (.int .i64)) .unit)) .unit))))))] .bool] [.imm false (.int .i64)] (a0, a1, ()) = p_IndexFunc_Limpl_Row_impl_Row N a0 a1 := by kernel_rfl
theorem env176 : EnvOk Tryz.prog E176 := envOk mixed tabOk trivial trivial trivial
noncomputable def s176 : FSpec := ⟨[.imm false (.slice 104 (.pair (.int .i64) (.pair (.int .i64) (.pair (.int .i64) (.pair (.pair (.int .i64) (.pair (.int .i64) (.pair (.int .i64) (.pair (.int .i64) (.pair (.int .i64) .unit))))) (.pair (.pair (.int .i64) (.pair (.slice 3 (.int .i64)) .unit)) .unit)))))), .clo [(true, (.pair (.int .i64) (.pair (.int .i64) (.pair (.int .i64) (.pair (.pair (.int .i64) (.pair (.int .i64) (.pair (.int .i64) (.pair (.int .i64) (.pair (.int .i64) .unit))))) (.pair (.pair (.int .i64) (.pair (.slice 3 (.int .i64)) .unit)) .unit))))))] .bool], [.imm false (.int .i64)], fun x => S_IndexFunc_Limpl_Row_impl_Row x.1 x.2.1⟩
theorem ok176 : FOk Tryz.prog 176 s176 := fn_says env176 Tryz.func176 rfl fun x y h => let ⟨N, hN⟩ := lim_some h; ⟨N, (r176 N x.1 x.2.1).trans hN⟩
theorem enters176 : Enters Tryz.prog 176 := enters Tryz.func176 (by kernel_rfl) rfl

/-! ## slices.ContainsFunc[[]loop.example/g00698/impl.Row,loop.example/g00698/impl.Row] -/
noncomputable def E113 : Env := { tab := tab, sig := [(176, s176)], clos := [], live := [], eqs := [], inl := [] }
set_option maxRecDepth 100000 in
theorem r113 (N : Nat) (a0 : List T7) (a1 : (T7 × Unit) → Option Bool) : runF N E113 Tryz.f113 [.imm false (.slice 104 (.pair (.int .i64) (.pair (.int .i64) (.pair (.int .i64) (.pair (.pair (.int .i64) (.pair (.int .i64) (.pair (.int .i64) (.pair (.int .i64) (.pair (.int .i64) .unit))))) (.pair (.pair (.int .i64) (.pair (.slice 3 (.int .i64)) .unit)) .unit)))))), .clo [(true, (.pair (.int .i64) (.pair (.int .i64) (.pair (.int .i64) (.pair (.pair (.int .i64) (.pair (.int .i64) (.pair (.int .i64) (.pair (.int .i64) (.pair (.int .i64) .unit))))) (.pair (.pair (.int .i64) (.pair (.slice 3 (.int .i64)) .unit)) .unit))))))] .bool] [.imm false .bool] (a0, a1, ()) = p_ContainsFunc_Limpl_Row_impl_Row N a0 a1 := by kernel_rfl
theorem env113 : EnvOk Tryz.prog E113 := envOk mixed tabOk ⟨⟨enters176, ok176⟩, trivial⟩ trivial trivial
noncomputable def s113 : FSpec := ⟨[.imm false (.slice 104 (.pair (.int .i64) (.pair (.int .i64) (.pair (.int .i64) (.pair (.pair (.int .i64) (.pair (.int .i64) (.pair (.int .i64) (.pair (.int .i64) (.pair (.int .i64) .unit))))) (.pair (.pair (.int .i64) (.pair (.slice 3 (.int .i64)) .unit)) .unit)))))), .clo [(true, (.pair (.int .i64) (.pair (.int .i64) (.pair (.int .i64) (.pair (.pair (.int .i64) (.pair (.int .i64) (.pair (.int .i64) (.pair (.int .i64) (.pair (.int .i64) .unit))))) (.pair (.pair (.int .i64) (.pair (.slice 3 (.int .i64)) .unit)) .unit))))))] .bool], [.imm false .bool], fun x => S_ContainsFunc_Limpl_Row_impl_Row x.1 x.2.1⟩
theorem ok113 : FOk Tryz.prog 113 s113 := fn_says env113 Tryz.func113 rfl fun x y h => ⟨0, (r113 0 x.1 x.2.1).trans h⟩
theorem enters113 : Enters Tryz.prog 113 := enters Tryz.func113 (by kernel_rfl) rfl

/-! ## slices.IndexFunc[[][]loop.example/g00698/impl.Row,[]loop.example/g00698/impl.Row] -/
noncomputable def E175 : Env := { tab := tab, sig := [], clos := [], live := [(0, [0, 1, 7, 8], [])], eqs := [], inl := [] }
set_option maxRecDepth 100000 in
theorem r175 (N : Nat) (a0 : List (List T7)) (a1 : (List T7 × Unit) → Option Bool) : runF N E175 Tryz.f175 [.imm false (.slice 148 (.slice 104 (.pair (.int .i64) (.pair (.int .i64) (.pair (.int .i64) (.pair (.pair (.int .i64) (.pair (.int .i64) (.pair (.int .i64) (.pair (.int .i64) (.pair (.int .i64) .unit))))) (.pair (.pair (.int .i64) (.pair (.slice 3 (.int .i64)) .unit)) .unit))))))), .clo [(false, (.slice 104 (.pair (.int .i64) (.pair (.int .i64) (.pair (.int .i64) (.pair (.pair (.int .i64) (.pair (.int .i64) (.pair (.int .i64) (.pair (.int .i64) (.pair (.int .i64) .unit))))) (.pair (.pair (.int .i64) (.pair (.slice 3 (.int .i64)) .unit)) .unit)))))))] .bool] [.imm false (.int .i64)] (a0, a1, ()) = p_IndexFunc_LLimpl_Row_Limpl_Row N a0 a1 := by kernel_rfl
theorem env175 : EnvOk Tryz.prog E175 := envOk mixed tabOk trivial trivial trivial
noncomputable def s175 : FSpec := ⟨[.imm false (.slice 148 (.slice 104 (.pair (.int .i64) (.pair (.int .i64) (.pair (.int .i64) (.pair (.pair (.int .i64) (.pair (.int .i64) (.pair (.int .i64) (.pair (.int .i64) (.pair (.int .i64) .unit))))) (.pair (.pair (.int .i64) (.pair (.slice 3 (.int .i64)) .unit)) .unit))))))), .clo [(false, (.slice 104 (.pair (.int .i64) (.pair (.int .i64) (.pair (.int .i64) (.pair (.pair (.int .i64) (.pair (.int .i64) (.pair (.int .i64) (.pair (.int .i64) (.pair (.int .i64) .unit))))) (.pair (.pair (.int .i64) (.pair (.slice 3 (.int .i64)) .unit)) .unit)))))))] .bool], [.imm false (.int .i64)], fun x => S_IndexFunc_LLimpl_Row_Limpl_Row x.1 x.2.1⟩
theorem ok175 : FOk Tryz.prog 175 s175 := fn_says env175 Tryz.func175 rfl fun x y h => let ⟨N, hN⟩ := lim_some h; ⟨N, (r175 N x.1 x.2.1).trans hN⟩
theorem enters175 : Enters Tryz.prog 175 := enters Tryz.func175 (by kernel_rfl) rfl

/-! ## slices.ContainsFunc[[][]loop.example/g00698/impl.Row,[]loop.example/g00698/impl.Row] -/
noncomputable def E111 : Env := { tab := tab, sig := [(175, s175)], clos := [], live := [], eqs := [], inl := [] }
set_option maxRecDepth 100000 in
theorem r111 (N : Nat) (a0 : List (List T7)) (a1 : (List T7 × Unit) → Option Bool) : runF N E111 Tryz.f111 [.imm false (.slice 148 (.slice 104 (.pair (.int .i64) (.pair (.int .i64) (.pair (.int .i64) (.pair (.pair (.int .i64) (.pair (.int .i64) (.pair (.int .i64) (.pair (.int .i64) (.pair (.int .i64) .unit))))) (.pair (.pair (.int .i64) (.pair (.slice 3 (.int .i64)) .unit)) .unit))))))), .clo [(false, (.slice 104 (.pair (.int .i64) (.pair (.int .i64) (.pair (.int .i64) (.pair (.pair (.int .i64) (.pair (.int .i64) (.pair (.int .i64) (.pair (.int .i64) (.pair (.int .i64) .unit))))) (.pair (.pair (.int .i64) (.pair (.slice 3 (.int .i64)) .unit)) .unit)))))))] .bool] [.imm false .bool] (a0, a1, ()) = p_ContainsFunc_LLimpl_Row_Limpl_Row N a0 a1 := by kernel_rfl
theorem env111 : EnvOk Tryz.prog E111 := envOk mixed tabOk ⟨⟨enters175, ok175⟩, trivial⟩ trivial trivial
noncomputable def s111 : FSpec := ⟨[.imm false (.slice 148 (.slice 104 (.pair (.int .i64) (.pair (.int .i64) (.pair (.int .i64) (.pair (.pair (.int .i64) (.pair (.int .i64) (.pair (.int .i64) (.pair (.int .i64) (.pair (.int .i64) .unit))))) (.pair (.pair (.int .i64) (.pair (.slice 3 (.int .i64)) .unit)) .unit))))))), .clo [(false, (.slice 104 (.pair (.int .i64) (.pair (.int .i64) (.pair (.int .i64) (.pair (.pair (.int .i64) (.pair (.int .i64) (.pair (.int .i64) (.pair (.int .i64) (.pair (.int .i64) .unit))))) (.pair (.pair (.int .i64) (.pair (.slice 3 (.int .i64)) .unit)) .unit)))))))] .bool], [.imm false .bool], fun x => S_ContainsFunc_LLimpl_Row_Limpl_Row x.1 x.2.1⟩
theorem ok111 : FOk Tryz.prog 111 s111 := fn_says env111 Tryz.func111 rfl fun x y h => ⟨0, (r111 0 x.1 x.2.1).trans h⟩
theorem enters111 : Enters Tryz.prog 111 := enters Tryz.func111 (by kernel_rfl) rfl

/-! ## loop.example/g00698/impl.GoodTable -/
theorem enters112 : Enters Tryz.prog 112 := enters Tryz.func112 (by kernel_rfl) rfl
theorem enters114 : Enters Tryz.prog 114 := enters Tryz.func114 (by kernel_rfl) rfl
noncomputable def E55 : Env := { tab := tab, sig := [(107, s107), (111, s111), (113, s113), (115, s115)], clos := [(112, ⟨Tryz.f112, [(false, (.slice 104 (.pair (.int .i64) (.pair (.int .i64) (.pair (.int .i64) (.pair (.pair (.int .i64) (.pair (.int .i64) (.pair (.int .i64) (.pair (.int .i64) (.pair (.int .i64) .unit))))) (.pair (.pair (.int .i64) (.pair (.slice 3 (.int .i64)) .unit)) .unit)))))))], []⟩), (114, ⟨Tryz.f114, [(true, (.pair (.int .i64) (.pair (.int .i64) (.pair (.int .i64) (.pair (.pair (.int .i64) (.pair (.int .i64) (.pair (.int .i64) (.pair (.int .i64) (.pair (.int .i64) .unit))))) (.pair (.pair (.int .i64) (.pair (.slice 3 (.int .i64)) .unit)) .unit))))))], []⟩)], live := [], eqs := [], inl := [] }
set_option maxRecDepth 100000 in
theorem r55 (N : Nat) (a0 : T8) : runF N E55 Tryz.f55 [.imm true (.pair (.int .i64) (.pair (.slice 148 (.slice 104 (.pair (.int .i64) (.pair (.int .i64) (.pair (.int .i64) (.pair (.pair (.int .i64) (.pair (.int .i64) (.pair (.int .i64) (.pair (.int .i64) (.pair (.int .i64) .unit))))) (.pair (.pair (.int .i64) (.pair (.slice 3 (.int .i64)) .unit)) .unit))))))) .unit))] [.imm false .bool] (a0, ()) = p_impl_GoodTable N a0 := by kernel_rfl
theorem env55 : EnvOk Tryz.prog E55 := envOk mixed tabOk ⟨⟨enters107, ok107⟩, ⟨enters111, ok111⟩, ⟨enters113, ok113⟩, ⟨enters115, ok115⟩, trivial⟩ ⟨⟨Tryz.func112, enters112⟩, ⟨Tryz.func114, enters114⟩, trivial⟩ trivial
noncomputable def s55 : FSpec := ⟨[.imm true (.pair (.int .i64) (.pair (.slice 148 (.slice 104 (.pair (.int .i64) (.pair (.int .i64) (.pair (.int .i64) (.pair (.pair (.int .i64) (.pair (.int .i64) (.pair (.int .i64) (.pair (.int .i64) (.pair (.int .i64) .unit))))) (.pair (.pair (.int .i64) (.pair (.slice 3 (.int .i64)) .unit)) .unit))))))) .unit))], [.imm false .bool], fun x => S_impl_GoodTable x.1⟩
theorem ok55 : FOk Tryz.prog 55 s55 := fn_says env55 Tryz.func55 rfl fun x y h => ⟨0, (r55 0 x.1).trans h⟩
theorem enters55 : Enters Tryz.prog 55 := enters Tryz.func55 (by kernel_rfl) rfl

/-! ## (loop.example/g00698/impl.Table).mentioned -/
theorem enters230 : Enters Tryz.prog 230 := enters Tryz.func230 (by kernel_rfl) rfl
theorem enters231 : Enters Tryz.prog 231 := enters Tryz.func231 (by kernel_rfl) rfl
noncomputable def E180 : Env := { tab := tab, sig := [], clos := [(230, ⟨Tryz.f230, [], [(0, [1, 9, 10, 11], []), (2, [1, 4, 9, 10, 11, 16, 17, 18], [])]⟩), (231, ⟨Tryz.f231, [], []⟩)], live := [(0, [1, 3, 9, 10], []), (2, [1, 3, 4, 5, 9, 10], [])], eqs := [], inl := [230, 231] }
set_option maxRecDepth 100000 in
theorem r180 (N : Nat) (a0 : T8) : runF N E180 Tryz.f180 [.imm true (.pair (.int .i64) (.pair (.slice 148 (.slice 104 (.pair (.int .i64) (.pair (.int .i64) (.pair (.int .i64) (.pair (.pair (.int .i64) (.pair (.int .i64) (.pair (.int .i64) (.pair (.int .i64) (.pair (.int .i64) .unit))))) (.pair (.pair (.int .i64) (.pair (.slice 3 (.int .i64)) .unit)) .unit))))))) .unit))] [.deep false (.slice 23 (.slice 3 (.int .i64)))] (a0, ()) = p_impl_Table_mentioned N a0 := by kernel_rfl
theorem env180 : EnvOk Tryz.prog E180 := envOk mixed tabOk trivial ⟨⟨Tryz.func230, enters230⟩, ⟨Tryz.func231, enters231⟩, trivial⟩ trivial
noncomputable def s180 : FSpec := ⟨[.imm true (.pair (.int .i64) (.pair (.slice 148 (.slice 104 (.pair (.int .i64) (.pair (.int .i64) (.pair (.int .i64) (.pair (.pair (.int .i64) (.pair (.int .i64) (.pair (.int .i64) (.pair (.int .i64) (.pair (.int .i64) .unit))))) (.pair (.pair (.int .i64) (.pair (.slice 3 (.int .i64)) .unit)) .unit))))))) .unit))], [.deep false (.slice 23 (.slice 3 (.int .i64)))], fun x => S_impl_Table_mentioned x.1⟩
theorem ok180 : FOk Tryz.prog 180 s180 := fn_says env180 Tryz.func180 rfl fun x y h => let ⟨N, hN⟩ := lim_some h; ⟨N, (r180 N x.1).trans hN⟩
theorem enters180 : Enters Tryz.prog 180 := enters Tryz.func180 (by kernel_rfl) rfl

/-! ## slices.Clone[[]int,int] -/
noncomputable def E78 : Env := { tab := tab, sig := [], clos := [], live := [], eqs := [], inl := [] }
set_option maxRecDepth 100000 in
theorem r78 (N : Nat) (a0 : List Int) : runF N E78 Tryz.f78 [.imm false (.slice 3 (.int .i64))] [.deep false (.slice 3 (.int .i64))] (a0, ()) = p_Clone_Lint_int N a0 := by kernel_rfl
theorem env78 : EnvOk Tryz.prog E78 := envOk mixed tabOk trivial trivial trivial
noncomputable def s78 : FSpec := ⟨[.imm false (.slice 3 (.int .i64))], [.deep false (.slice 3 (.int .i64))], fun x => S_Clone_Lint_int x.1⟩
theorem ok78 : FOk Tryz.prog 78 s78 := fn_says env78 Tryz.func78 rfl fun x y h => ⟨0, (r78 0 x.1).trans h⟩
theorem enters78 : Enters Tryz.prog 78 := enters Tryz.func78 (by kernel_rfl) rfl

/-! ## (loop.example/g00698/impl.Attr).copied -/
noncomputable def E237 : Env := { tab := tab, sig := [(78, s78)], clos := [], live := [], eqs := [], inl := [] }
set_option maxRecDepth 100000 in
theorem r237 (N : Nat) (a0 : T6) : runF N E237 Tryz.f237 [.imm true (.pair (.int .i64) (.pair (.slice 3 (.int .i64)) .unit))] [.deep true (.pair (.int .i64) (.pair (.slice 3 (.int .i64)) .unit))] (a0, ()) = p_impl_Attr_copied N a0 := by kernel_rfl
theorem env237 : EnvOk Tryz.prog E237 := envOk mixed tabOk ⟨⟨enters78, ok78⟩, trivial⟩ trivial trivial
noncomputable def s237 : FSpec := ⟨[.imm true (.pair (.int .i64) (.pair (.slice 3 (.int .i64)) .unit))], [.deep true (.pair (.int .i64) (.pair (.slice 3 (.int .i64)) .unit))], fun x => S_impl_Attr_copied x.1⟩
theorem ok237 : FOk Tryz.prog 237 s237 := fn_says env237 Tryz.func237 rfl fun x y h => ⟨0, (r237 0 x.1).trans h⟩
theorem enters237 : Enters Tryz.prog 237 := enters Tryz.func237 (by kernel_rfl) rfl

/-! ## (loop.example/g00698/impl.Row).copied -/
noncomputable def E194 : Env := { tab := tab, sig := [(237, s237)], clos := [], live := [], eqs := [], inl := [] }
set_option maxRecDepth 100000 in
theorem r194 (N : Nat) (a0 : T7) : runF N E194 Tryz.f194 [.imm true (.pair (.int .i64) (.pair (.int .i64) (.pair (.int .i64) (.pair (.pair (.int .i64) (.pair (.int .i64) (.pair (.int .i64) (.pair (.int .i64) (.pair (.int .i64) .unit))))) (.pair (.pair (.int .i64) (.pair (.slice 3 (.int .i64)) .unit)) .unit)))))] [.deep true (.pair (.int .i64) (.pair (.int .i64) (.pair (.int .i64) (.pair (.pair (.int .i64) (.pair (.int .i64) (.pair (.int .i64) (.pair (.int .i64) (.pair (.int .i64) .unit))))) (.pair (.pair (.int .i64) (.pair (.slice 3 (.int .i64)) .unit)) .unit)))))] (a0, ()) = p_impl_Row_copied N a0 := by kernel_rfl
theorem env194 : EnvOk Tryz.prog E194 := envOk mixed tabOk ⟨⟨enters237, ok237⟩, trivial⟩ trivial trivial
noncomputable def s194 : FSpec := ⟨[.imm true (.pair (.int .i64) (.pair (.int .i64) (.pair (.int .i64) (.pair (.pair (.int .i64) (.pair (.int .i64) (.pair (.int .i64) (.pair (.int .i64) (.pair (.int .i64) .unit))))) (.pair (.pair (.int .i64) (.pair (.slice 3 (.int .i64)) .unit)) .unit)))))], [.deep true (.pair (.int .i64) (.pair (.int .i64) (.pair (.int .i64) (.pair (.pair (.int .i64) (.pair (.int .i64) (.pair (.int .i64) (.pair (.int .i64) (.pair (.int .i64) .unit))))) (.pair (.pair (.int .i64) (.pair (.slice 3 (.int .i64)) .unit)) .unit)))))], fun x => S_impl_Row_copied x.1⟩
theorem ok194 : FOk Tryz.prog 194 s194 := fn_says env194 Tryz.func194 rfl fun x y h => ⟨0, (r194 0 x.1).trans h⟩
theorem enters194 : Enters Tryz.prog 194 := enters Tryz.func194 (by kernel_rfl) rfl

/-! ## (loop.example/g00698/impl.Table).row -/
noncomputable def E133 : Env := { tab := tab, sig := [(194, s194), (179, s179)], clos := [], live := [], eqs := [], inl := [] }
set_option maxRecDepth 100000 in
theorem r133 (N : Nat) (a0 : T8) (a1 : Int) (a2 : Int) : runF N E133 Tryz.f133 [.imm true (.pair (.int .i64) (.pair (.slice 148 (.slice 104 (.pair (.int .i64) (.pair (.int .i64) (.pair (.int .i64) (.pair (.pair (.int .i64) (.pair (.int .i64) (.pair (.int .i64) (.pair (.int .i64) (.pair (.int .i64) .unit))))) (.pair (.pair (.int .i64) (.pair (.slice 3 (.int .i64)) .unit)) .unit))))))) .unit)), .imm false (.int .i64), .imm false (.int .i64)] [.deep true (.pair (.int .i64) (.pair (.int .i64) (.pair (.int .i64) (.pair (.pair (.int .i64) (.pair (.int .i64) (.pair (.int .i64) (.pair (.int .i64) (.pair (.int .i64) .unit))))) (.pair (.pair (.int .i64) (.pair (.slice 3 (.int .i64)) .unit)) .unit)))))] (a0, a1, a2, ()) = p_impl_Table_row N a0 a1 a2 := by kernel_rfl
theorem env133 : EnvOk Tryz.prog E133 := envOk mixed tabOk ⟨⟨enters194, ok194⟩, ⟨enters179, ok179⟩, trivial⟩ trivial trivial
noncomputable def s133 : FSpec := ⟨[.imm true (.pair (.int .i64) (.pair (.slice 148 (.slice 104 (.pair (.int .i64) (.pair (.int .i64) (.pair (.int .i64) (.pair (.pair (.int .i64) (.pair (.int .i64) (.pair (.int .i64) (.pair (.int .i64) (.pair (.int .i64) .unit))))) (.pair (.pair (.int .i64) (.pair (.slice 3 (.int .i64)) .unit)) .unit))))))) .unit)), .imm false (.int .i64), .imm false (.int .i64)], [.deep true (.pair (.int .i64) (.pair (.int .i64) (.pair (.int .i64) (.pair (.pair (.int .i64) (.pair (.int .i64) (.pair (.int .i64) (.pair (.int .i64) (.pair (.int .i64) .unit))))) (.pair (.pair (.int .i64) (.pair (.slice 3 (.int .i64)) .unit)) .unit)))))], fun x => S_impl_Table_row x.1 x.2.1 x.2.2.1⟩
theorem ok133 : FOk Tryz.prog 133 s133 := fn_says env133 Tryz.func133 rfl fun x y h => ⟨0, (r133 0 x.1 x.2.1 x.2.2.1).trans h⟩
theorem enters133 : Enters Tryz.prog 133 := enters Tryz.func133 (by kernel_rfl) rfl

/-! ## slices.IndexFunc[[][]int,[]int] -/
noncomputable def E117 : Env := { tab := tab, sig := [], clos := [], live := [(0, [0, 1, 7, 8], [])], eqs := [], inl := [] }
set_option maxRecDepth 100000 in
theorem r117 (N : Nat) (a0 : List (List Int)) (a1 : (List Int × Unit) → Option Bool) : runF N E117 Tryz.f117 [.imm false (.slice 23 (.slice 3 (.int .i64))), .clo [(false, (.slice 3 (.int .i64)))] .bool] [.imm false (.int .i64)] (a0, a1, ()) = p_IndexFunc_LLint_Lint N a0 a1 := by kernel_rfl
theorem env117 : EnvOk Tryz.prog E117 := envOk mixed tabOk trivial trivial trivial
noncomputable def s117 : FSpec := ⟨[.imm false (.slice 23 (.slice 3 (.int .i64))), .clo [(false, (.slice 3 (.int .i64)))] .bool], [.imm false (.int .i64)], fun x => S_IndexFunc_LLint_Lint x.1 x.2.1⟩
theorem ok117 : FOk Tryz.prog 117 s117 := fn_says env117 Tryz.func117 rfl fun x y h => let ⟨N, hN⟩ := lim_some h; ⟨N, (r117 N x.1 x.2.1).trans hN⟩
theorem enters117 : Enters Tryz.prog 117 := enters Tryz.func117 (by kernel_rfl) rfl

/-! ## (loop.example/g00698/impl.Table).open -/
theorem enters181 : Enters Tryz.prog 181 := enters Tryz.func181 (by kernel_rfl) rfl
noncomputable def E116 : Env := { tab := tab, sig := [(180, s180), (133, s133)], clos := [(181, ⟨Tryz.f181, [(false, (.slice 3 (.int .i64)))], []⟩)], live := [], eqs := [], inl := [], rfn := [(79, ⟨.filter, 23, 1, false⟩)] }
set_option maxRecDepth 100000 in
theorem r116 (N : Nat) (a0 : T8) : runF N E116 Tryz.f116 [.imm true (.pair (.int .i64) (.pair (.slice 148 (.slice 104 (.pair (.int .i64) (.pair (.int .i64) (.pair (.int .i64) (.pair (.pair (.int .i64) (.pair (.int .i64) (.pair (.int .i64) (.pair (.int .i64) (.pair (.int .i64) .unit))))) (.pair (.pair (.int .i64) (.pair (.slice 3 (.int .i64)) .unit)) .unit))))))) .unit))] [.deep false (.slice 23 (.slice 3 (.int .i64)))] (a0, ()) = p_impl_Table_open N a0 := by kernel_rfl
theorem env116 : EnvOk Tryz.prog E116 := envOk mixed tabOk ⟨⟨enters180, ok180⟩, ⟨enters133, ok133⟩, trivial⟩ ⟨⟨Tryz.func181, enters181⟩, trivial⟩ trivial ⟨rfn79, trivial⟩
noncomputable def s116 : FSpec := ⟨[.imm true (.pair (.int .i64) (.pair (.slice 148 (.slice 104 (.pair (.int .i64) (.pair (.int .i64) (.pair (.int .i64) (.pair (.pair (.int .i64) (.pair (.int .i64) (.pair (.int .i64) (.pair (.int .i64) (.pair (.int .i64) .unit))))) (.pair (.pair (.int .i64) (.pair (.slice 3 (.int .i64)) .unit)) .unit))))))) .unit))], [.deep false (.slice 23 (.slice 3 (.int .i64)))], fun x => S_impl_Table_open x.1⟩
theorem ok116 : FOk Tryz.prog 116 s116 := fn_says env116 Tryz.func116 rfl fun x y h => ⟨0, (r116 0 x.1).trans h⟩
theorem enters116 : Enters Tryz.prog 116 := enters Tryz.func116 (by kernel_rfl) rfl

/-! ## loop.example/g00698/impl.waitOf -/
noncomputable def E120 : Env := { tab := tab, sig := [], clos := [], live := [], eqs := [], inl := [] }
set_option maxRecDepth 100000 in
theorem r120 (N : Nat) (a0 : Int) (a1 : Int) (a2 : Int) : runF N E120 Tryz.f120 [.imm false (.int .i64), .imm false (.int .i64), .imm false (.int .i64)] [.imm false (.int .i64)] (a0, a1, a2, ()) = p_impl_waitOf N a0 a1 a2 := by kernel_rfl
theorem env120 : EnvOk Tryz.prog E120 := envOk mixed tabOk trivial trivial trivial
noncomputable def s120 : FSpec := ⟨[.imm false (.int .i64), .imm false (.int .i64), .imm false (.int .i64)], [.imm false (.int .i64)], fun x => S_impl_waitOf x.1 x.2.1 x.2.2.1⟩
theorem ok120 : FOk Tryz.prog 120 s120 := fn_says env120 Tryz.func120 rfl fun x y h => ⟨0, (r120 0 x.1 x.2.1 x.2.2.1).trans h⟩
theorem enters120 : Enters Tryz.prog 120 := enters Tryz.func120 (by kernel_rfl) rfl

/-! ## loop.example/g00698/impl.TickWatch -/
theorem enters56 : Enters Tryz.prog 56 := enters Tryz.func56 (by kernel_rfl) rfl
theorem enters118 : Enters Tryz.prog 118 := enters Tryz.func118 (by kernel_rfl) rfl
noncomputable def E13 : Env := { tab := tab, sig := [(54, s54), (55, s55), (116, s116), (117, s117), (119, s119), (120, s120), (78, s78)], clos := [(56, ⟨Tryz.f56, [], [(0, [0, 5, 6, 7, 16, 17, 18, 46, 47, 48, 49, 50, 51, 52, 53, 54, 55, 56, 57, 58, 59, 60], [])]⟩), (118, ⟨Tryz.f118, [(false, (.slice 3 (.int .i64)))], []⟩)], live := [], eqs := [], inl := [56] }
set_option maxRecDepth 100000 in
theorem r13 (N : Nat) (a0 : T0) (a1 : T8) : runF N E13 Tryz.f13 [.imm true (.pair (.int .i64) (.pair (.int .i64) (.pair (.slice 23 (.slice 3 (.int .i64))) (.pair (.slice 3 (.int .i64)) .unit)))), .imm true (.pair (.int .i64) (.pair (.slice 148 (.slice 104 (.pair (.int .i64) (.pair (.int .i64) (.pair (.int .i64) (.pair (.pair (.int .i64) (.pair (.int .i64) (.pair (.int .i64) (.pair (.int .i64) (.pair (.int .i64) .unit))))) (.pair (.pair (.int .i64) (.pair (.slice 3 (.int .i64)) .unit)) .unit))))))) .unit))] [.deep true (.pair (.int .i64) (.pair (.int .i64) (.pair (.slice 23 (.slice 3 (.int .i64))) (.pair (.slice 3 (.int .i64)) .unit)))), .deep false (.slice 23 (.slice 3 (.int .i64))), .imm false .bool] (a0, a1, ()) = p_impl_TickWatch N a0 a1 := by kernel_rfl
theorem env13 : EnvOk Tryz.prog E13 := envOk mixed tabOk ⟨⟨enters54, ok54⟩, ⟨enters55, ok55⟩, ⟨enters116, ok116⟩, ⟨enters117, ok117⟩, ⟨enters119, ok119⟩, ⟨enters120, ok120⟩, ⟨enters78, ok78⟩, trivial⟩ ⟨⟨Tryz.func56, enters56⟩, ⟨Tryz.func118, enters118⟩, trivial⟩ trivial
noncomputable def s13 : FSpec := ⟨[.imm true (.pair (.int .i64) (.pair (.int .i64) (.pair (.slice 23 (.slice 3 (.int .i64))) (.pair (.slice 3 (.int .i64)) .unit)))), .imm true (.pair (.int .i64) (.pair (.slice 148 (.slice 104 (.pair (.int .i64) (.pair (.int .i64) (.pair (.int .i64) (.pair (.pair (.int .i64) (.pair (.int .i64) (.pair (.int .i64) (.pair (.int .i64) (.pair (.int .i64) .unit))))) (.pair (.pair (.int .i64) (.pair (.slice 3 (.int .i64)) .unit)) .unit))))))) .unit))], [.deep true (.pair (.int .i64) (.pair (.int .i64) (.pair (.slice 23 (.slice 3 (.int .i64))) (.pair (.slice 3 (.int .i64)) .unit)))), .deep false (.slice 23 (.slice 3 (.int .i64))), .imm false .bool], fun x => S_impl_TickWatch x.1 x.2.1⟩
theorem ok13 : FOk Tryz.prog 13 s13 := fn_says env13 Tryz.func13 rfl fun x y h => let ⟨N, hN⟩ := lim_some h; ⟨N, (r13 N x.1 x.2.1).trans hN⟩
theorem enters13 : Enters Tryz.prog 13 := enters Tryz.func13 (by kernel_rfl) rfl

/-! ## loop.example/g00698/laws.eqIntS -/
noncomputable def E24 : Env := { tab := tab, sig := [], clos := [], live := [(0, [0, 1, 5], [])], eqs := [], inl := [] }
set_option maxRecDepth 100000 in
theorem r24 (N : Nat) (a0 : List Int) (a1 : List Int) : runF N E24 Tryz.f24 [.imm false (.slice 3 (.int .i64)), .imm false (.slice 3 (.int .i64))] [.imm false .bool] (a0, a1, ()) = p_laws_eqIntS N a0 a1 := by kernel_rfl
theorem env24 : EnvOk Tryz.prog E24 := envOk mixed tabOk trivial trivial trivial
noncomputable def s24 : FSpec := ⟨[.imm false (.slice 3 (.int .i64)), .imm false (.slice 3 (.int .i64))], [.imm false .bool], fun x => S_laws_eqIntS x.1 x.2.1⟩
theorem ok24 : FOk Tryz.prog 24 s24 := fn_says env24 Tryz.func24 rfl fun x y h => let ⟨N, hN⟩ := lim_some h; ⟨N, (r24 N x.1 x.2.1).trans hN⟩
theorem enters24 : Enters Tryz.prog 24 := enters Tryz.func24 (by kernel_rfl) rfl

/-! ## loop.example/g00698/laws.eqIntSS -/
noncomputable def E15 : Env := { tab := tab, sig := [(24, s24)], clos := [], live := [(0, [0, 1, 5], [])], eqs := [], inl := [] }
set_option maxRecDepth 100000 in
theorem r15 (N : Nat) (a0 : List (List Int)) (a1 : List (List Int)) : runF N E15 Tryz.f15 [.imm false (.slice 23 (.slice 3 (.int .i64))), .imm false (.slice 23 (.slice 3 (.int .i64)))] [.imm false .bool] (a0, a1, ()) = p_laws_eqIntSS N a0 a1 := by kernel_rfl
theorem env15 : EnvOk Tryz.prog E15 := envOk mixed tabOk ⟨⟨enters24, ok24⟩, trivial⟩ trivial trivial
noncomputable def s15 : FSpec := ⟨[.imm false (.slice 23 (.slice 3 (.int .i64))), .imm false (.slice 23 (.slice 3 (.int .i64)))], [.imm false .bool], fun x => S_laws_eqIntSS x.1 x.2.1⟩
theorem ok15 : FOk Tryz.prog 15 s15 := fn_says env15 Tryz.func15 rfl fun x y h => let ⟨N, hN⟩ := lim_some h; ⟨N, (r15 N x.1 x.2.1).trans hN⟩
theorem enters15 : Enters Tryz.prog 15 := enters Tryz.func15 (by kernel_rfl) rfl

/-! ## loop.example/g00698/laws.eqWatch -/
noncomputable def E14 : Env := { tab := tab, sig := [(15, s15), (24, s24)], clos := [], live := [], eqs := [], inl := [] }
set_option maxRecDepth 100000 in
theorem r14 (N : Nat) (a0 : T0) (a1 : T0) : runF N E14 Tryz.f14 [.imm true (.pair (.int .i64) (.pair (.int .i64) (.pair (.slice 23 (.slice 3 (.int .i64))) (.pair (.slice 3 (.int .i64)) .unit)))), .imm true (.pair (.int .i64) (.pair (.int .i64) (.pair (.slice 23 (.slice 3 (.int .i64))) (.pair (.slice 3 (.int .i64)) .unit))))] [.imm false .bool] (a0, a1, ()) = p_laws_eqWatch N a0 a1 := by kernel_rfl
theorem env14 : EnvOk Tryz.prog E14 := envOk mixed tabOk ⟨⟨enters15, ok15⟩, ⟨enters24, ok24⟩, trivial⟩ trivial trivial
noncomputable def s14 : FSpec := ⟨[.imm true (.pair (.int .i64) (.pair (.int .i64) (.pair (.slice 23 (.slice 3 (.int .i64))) (.pair (.slice 3 (.int .i64)) .unit)))), .imm true (.pair (.int .i64) (.pair (.int .i64) (.pair (.slice 23 (.slice 3 (.int .i64))) (.pair (.slice 3 (.int .i64)) .unit))))], [.imm false .bool], fun x => S_laws_eqWatch x.1 x.2.1⟩
theorem ok14 : FOk Tryz.prog 14 s14 := fn_says env14 Tryz.func14 rfl fun x y h => ⟨0, (r14 0 x.1 x.2.1).trans h⟩
theorem enters14 : Enters Tryz.prog 14 := enters Tryz.func14 (by kernel_rfl) rfl

/-! ## loop.example/g00698/laws.eqCmd -/
noncomputable def E145 : Env := { tab := tab, sig := [], clos := [], live := [], eqs := [], inl := [] }
set_option maxRecDepth 100000 in
theorem r145 (N : Nat) (a0 : T2) (a1 : T2) : runF N E145 Tryz.f145 [.imm true (.pair (.int .i64) (.pair (.int .i64) (.pair (.int .i64) (.pair (.int .i64) (.pair (.int .i64) .unit))))), .imm true (.pair (.int .i64) (.pair (.int .i64) (.pair (.int .i64) (.pair (.int .i64) (.pair (.int .i64) .unit)))))] [.imm false .bool] (a0, a1, ()) = p_laws_eqCmd N a0 a1 := by kernel_rfl
theorem env145 : EnvOk Tryz.prog E145 := envOk mixed tabOk trivial trivial trivial
noncomputable def s145 : FSpec := ⟨[.imm true (.pair (.int .i64) (.pair (.int .i64) (.pair (.int .i64) (.pair (.int .i64) (.pair (.int .i64) .unit))))), .imm true (.pair (.int .i64) (.pair (.int .i64) (.pair (.int .i64) (.pair (.int .i64) (.pair (.int .i64) .unit)))))], [.imm false .bool], fun x => S_laws_eqCmd x.1 x.2.1⟩
theorem ok145 : FOk Tryz.prog 145 s145 := fn_says env145 Tryz.func145 rfl fun x y h => ⟨0, (r145 0 x.1 x.2.1).trans h⟩
theorem enters145 : Enters Tryz.prog 145 := enters Tryz.func145 (by kernel_rfl) rfl

/-! ## loop.example/g00698/laws.eqAttr -/
noncomputable def E226 : Env := { tab := tab, sig := [(24, s24)], clos := [], live := [], eqs := [], inl := [] }
set_option maxRecDepth 100000 in
theorem r226 (N : Nat) (a0 : T6) (a1 : T6) : runF N E226 Tryz.f226 [.imm true (.pair (.int .i64) (.pair (.slice 3 (.int .i64)) .unit)), .imm true (.pair (.int .i64) (.pair (.slice 3 (.int .i64)) .unit))] [.imm false .bool] (a0, a1, ()) = p_laws_eqAttr N a0 a1 := by kernel_rfl
theorem env226 : EnvOk Tryz.prog E226 := envOk mixed tabOk ⟨⟨enters24, ok24⟩, trivial⟩ trivial trivial
noncomputable def s226 : FSpec := ⟨[.imm true (.pair (.int .i64) (.pair (.slice 3 (.int .i64)) .unit)), .imm true (.pair (.int .i64) (.pair (.slice 3 (.int .i64)) .unit))], [.imm false .bool], fun x => S_laws_eqAttr x.1 x.2.1⟩
theorem ok226 : FOk Tryz.prog 226 s226 := fn_says env226 Tryz.func226 rfl fun x y h => ⟨0, (r226 0 x.1 x.2.1).trans h⟩
theorem enters226 : Enters Tryz.prog 226 := enters Tryz.func226 (by kernel_rfl) rfl

/-! ## loop.example/g00698/laws.eqRow -/
noncomputable def E182 : Env := { tab := tab, sig := [(145, s145), (226, s226)], clos := [], live := [], eqs := [], inl := [] }
set_option maxRecDepth 100000 in
theorem r182 (N : Nat) (a0 : T7) (a1 : T7) : runF N E182 Tryz.f182 [.imm true (.pair (.int .i64) (.pair (.int .i64) (.pair (.int .i64) (.pair (.pair (.int .i64) (.pair (.int .i64) (.pair (.int .i64) (.pair (.int .i64) (.pair (.int .i64) .unit))))) (.pair (.pair (.int .i64) (.pair (.slice 3 (.int .i64)) .unit)) .unit))))), .imm true (.pair (.int .i64) (.pair (.int .i64) (.pair (.int .i64) (.pair (.pair (.int .i64) (.pair (.int .i64) (.pair (.int .i64) (.pair (.int .i64) (.pair (.int .i64) .unit))))) (.pair (.pair (.int .i64) (.pair (.slice 3 (.int .i64)) .unit)) .unit)))))] [.imm false .bool] (a0, a1, ()) = p_laws_eqRow N a0 a1 := by kernel_rfl
theorem env182 : EnvOk Tryz.prog E182 := envOk mixed tabOk ⟨⟨enters145, ok145⟩, ⟨enters226, ok226⟩, trivial⟩ trivial trivial
noncomputable def s182 : FSpec := ⟨[.imm true (.pair (.int .i64) (.pair (.int .i64) (.pair (.int .i64) (.pair (.pair (.int .i64) (.pair (.int .i64) (.pair (.int .i64) (.pair (.int .i64) (.pair (.int .i64) .unit))))) (.pair (.pair (.int .i64) (.pair (.slice 3 (.int .i64)) .unit)) .unit))))), .imm true (.pair (.int .i64) (.pair (.int .i64) (.pair (.int .i64) (.pair (.pair (.int .i64) (.pair (.int .i64) (.pair (.int .i64) (.pair (.int .i64) (.pair (.int .i64) .unit))))) (.pair (.pair (.int .i64) (.pair (.slice 3 (.int .i64)) .unit)) .unit)))))], [.imm false .bool], fun x => S_laws_eqRow x.1 x.2.1⟩
theorem ok182 : FOk Tryz.prog 182 s182 := fn_says env182 Tryz.func182 rfl fun x y h => ⟨0, (r182 0 x.1 x.2.1).trans h⟩
theorem enters182 : Enters Tryz.prog 182 := enters Tryz.func182 (by kernel_rfl) rfl

/-! ## loop.example/g00698/laws.eqRowS -/
noncomputable def E121 : Env := { tab := tab, sig := [(182, s182)], clos := [], live := [(0, [0, 1, 5], [])], eqs := [], inl := [] }
set_option maxRecDepth 100000 in
theorem r121 (N : Nat) (a0 : List T7) (a1 : List T7) : runF N E121 Tryz.f121 [.imm false (.slice 104 (.pair (.int .i64) (.pair (.int .i64) (.pair (.int .i64) (.pair (.pair (.int .i64) (.pair (.int .i64) (.pair (.int .i64) (.pair (.int .i64) (.pair (.int .i64) .unit))))) (.pair (.pair (.int .i64) (.pair (.slice 3 (.int .i64)) .unit)) .unit)))))), .imm false (.slice 104 (.pair (.int .i64) (.pair (.int .i64) (.pair (.int .i64) (.pair (.pair (.int .i64) (.pair (.int .i64) (.pair (.int .i64) (.pair (.int .i64) (.pair (.int .i64) .unit))))) (.pair (.pair (.int .i64) (.pair (.slice 3 (.int .i64)) .unit)) .unit))))))] [.imm false .bool] (a0, a1, ()) = p_laws_eqRowS N a0 a1 := by kernel_rfl
theorem env121 : EnvOk Tryz.prog E121 := envOk mixed tabOk ⟨⟨enters182, ok182⟩, trivial⟩ trivial trivial
noncomputable def s121 : FSpec := ⟨[.imm false (.slice 104 (.pair (.int .i64) (.pair (.int .i64) (.pair (.int .i64) (.pair (.pair (.int .i64) (.pair (.int .i64) (.pair (.int .i64) (.pair (.int .i64) (.pair (.int .i64) .unit))))) (.pair (.pair (.int .i64) (.pair (.slice 3 (.int .i64)) .unit)) .unit)))))), .imm false (.slice 104 (.pair (.int .i64) (.pair (.int .i64) (.pair (.int .i64) (.pair (.pair (.int .i64) (.pair (.int .i64) (.pair (.int .i64) (.pair (.int .i64) (.pair (.int .i64) .unit))))) (.pair (.pair (.int .i64) (.pair (.slice 3 (.int .i64)) .unit)) .unit))))))], [.imm false .bool], fun x => S_laws_eqRowS x.1 x.2.1⟩
theorem ok121 : FOk Tryz.prog 121 s121 := fn_says env121 Tryz.func121 rfl fun x y h => let ⟨N, hN⟩ := lim_some h; ⟨N, (r121 N x.1 x.2.1).trans hN⟩
theorem enters121 : Enters Tryz.prog 121 := enters Tryz.func121 (by kernel_rfl) rfl

/-! ## loop.example/g00698/laws.eqRowSS -/
noncomputable def E57 : Env := { tab := tab, sig := [(121, s121)], clos := [], live := [(0, [0, 1, 5], [])], eqs := [], inl := [] }
set_option maxRecDepth 100000 in
theorem r57 (N : Nat) (a0 : List (List T7)) (a1 : List (List T7)) : runF N E57 Tryz.f57 [.imm false (.slice 148 (.slice 104 (.pair (.int .i64) (.pair (.int .i64) (.pair (.int .i64) (.pair (.pair (.int .i64) (.pair (.int .i64) (.pair (.int .i64) (.pair (.int .i64) (.pair (.int .i64) .unit))))) (.pair (.pair (.int .i64) (.pair (.slice 3 (.int .i64)) .unit)) .unit))))))), .imm false (.slice 148 (.slice 104 (.pair (.int .i64) (.pair (.int .i64) (.pair (.int .i64) (.pair (.pair (.int .i64) (.pair (.int .i64) (.pair (.int .i64) (.pair (.int .i64) (.pair (.int .i64) .unit))))) (.pair (.pair (.int .i64) (.pair (.slice 3 (.int .i64)) .unit)) .unit)))))))] [.imm false .bool] (a0, a1, ()) = p_laws_eqRowSS N a0 a1 := by kernel_rfl
theorem env57 : EnvOk Tryz.prog E57 := envOk mixed tabOk ⟨⟨enters121, ok121⟩, trivial⟩ trivial trivial
noncomputable def s57 : FSpec := ⟨[.imm false (.slice 148 (.slice 104 (.pair (.int .i64) (.pair (.int .i64) (.pair (.int .i64) (.pair (.pair (.int .i64) (.pair (.int .i64) (.pair (.int .i64) (.pair (.int .i64) (.pair (.int .i64) .unit))))) (.pair (.pair (.int .i64) (.pair (.slice 3 (.int .i64)) .unit)) .unit))))))), .imm false (.slice 148 (.slice 104 (.pair (.int .i64) (.pair (.int .i64) (.pair (.int .i64) (.pair (.pair (.int .i64) (.pair (.int .i64) (.pair (.int .i64) (.pair (.int .i64) (.pair (.int .i64) .unit))))) (.pair (.pair (.int .i64) (.pair (.slice 3 (.int .i64)) .unit)) .unit)))))))], [.imm false .bool], fun x => S_laws_eqRowSS x.1 x.2.1⟩
theorem ok57 : FOk Tryz.prog 57 s57 := fn_says env57 Tryz.func57 rfl fun x y h => let ⟨N, hN⟩ := lim_some h; ⟨N, (r57 N x.1 x.2.1).trans hN⟩
theorem enters57 : Enters Tryz.prog 57 := enters Tryz.func57 (by kernel_rfl) rfl

/-! ## loop.example/g00698/laws.eqTable -/
noncomputable def E16 : Env := { tab := tab, sig := [(57, s57)], clos := [], live := [], eqs := [], inl := [] }
set_option maxRecDepth 100000 in
theorem r16 (N : Nat) (a0 : T8) (a1 : T8) : runF N E16 Tryz.f16 [.imm true (.pair (.int .i64) (.pair (.slice 148 (.slice 104 (.pair (.int .i64) (.pair (.int .i64) (.pair (.int .i64) (.pair (.pair (.int .i64) (.pair (.int .i64) (.pair (.int .i64) (.pair (.int .i64) (.pair (.int .i64) .unit))))) (.pair (.pair (.int .i64) (.pair (.slice 3 (.int .i64)) .unit)) .unit))))))) .unit)), .imm true (.pair (.int .i64) (.pair (.slice 148 (.slice 104 (.pair (.int .i64) (.pair (.int .i64) (.pair (.int .i64) (.pair (.pair (.int .i64) (.pair (.int .i64) (.pair (.int .i64) (.pair (.int .i64) (.pair (.int .i64) .unit))))) (.pair (.pair (.int .i64) (.pair (.slice 3 (.int .i64)) .unit)) .unit))))))) .unit))] [.imm false .bool] (a0, a1, ()) = p_laws_eqTable N a0 a1 := by kernel_rfl
theorem env16 : EnvOk Tryz.prog E16 := envOk mixed tabOk ⟨⟨enters57, ok57⟩, trivial⟩ trivial trivial
noncomputable def s16 : FSpec := ⟨[.imm true (.pair (.int .i64) (.pair (.slice 148 (.slice 104 (.pair (.int .i64) (.pair (.int .i64) (.pair (.int .i64) (.pair (.pair (.int .i64) (.pair (.int .i64) (.pair (.int .i64) (.pair (.int .i64) (.pair (.int .i64) .unit))))) (.pair (.pair (.int .i64) (.pair (.slice 3 (.int .i64)) .unit)) .unit))))))) .unit)), .imm true (.pair (.int .i64) (.pair (.slice 148 (.slice 104 (.pair (.int .i64) (.pair (.int .i64) (.pair (.int .i64) (.pair (.pair (.int .i64) (.pair (.int .i64) (.pair (.int .i64) (.pair (.int .i64) (.pair (.int .i64) .unit))))) (.pair (.pair (.int .i64) (.pair (.slice 3 (.int .i64)) .unit)) .unit))))))) .unit))], [.imm false .bool], fun x => S_laws_eqTable x.1 x.2.1⟩
theorem ok16 : FOk Tryz.prog 16 s16 := fn_says env16 Tryz.func16 rfl fun x y h => ⟨0, (r16 0 x.1 x.2.1).trans h⟩
theorem enters16 : Enters Tryz.prog 16 := enters Tryz.func16 (by kernel_rfl) rfl

/-! ## loop.example/g00698/laws.markIntS -/
noncomputable def E25 : Env := { tab := tab, sig := [], clos := [], live := [(0, [0, 1, 5], [])], eqs := [], inl := [] }
set_option maxRecDepth 100000 in
theorem r25 (N : Nat) (a0 : List Int) (a1 : Int) : runF N E25 Tryz.f25 [.mut false (.slice 3 (.int .i64)), .imm false (.int .i64)] [.imm false (.int .i64)] (a0, a1, ()) = p_laws_markIntS N a0 a1 := by kernel_rfl
theorem env25 : EnvOk Tryz.prog E25 := envOk mixed tabOk trivial trivial trivial
noncomputable def s25 : FSpec := ⟨[.mut false (.slice 3 (.int .i64)), .imm false (.int .i64)], [.imm false (.int .i64)], fun x => S_laws_markIntS x.1 x.2.1⟩
theorem ok25 : FOk Tryz.prog 25 s25 := fn_says env25 Tryz.func25 rfl fun x y h => let ⟨N, hN⟩ := lim_some h; ⟨N, (r25 N x.1 x.2.1).trans hN⟩
theorem enters25 : Enters Tryz.prog 25 := enters Tryz.func25 (by kernel_rfl) rfl

/-! ## loop.example/g00698/laws.markIntSS -/
noncomputable def E19 : Env := { tab := tab, sig := [(25, s25)], clos := [], live := [(0, [0, 1, 5], [])], eqs := [], inl := [] }
set_option maxRecDepth 100000 in
theorem r19 (N : Nat) (a0 : List (List Int)) (a1 : Int) : runF N E19 Tryz.f19 [.mut false (.slice 23 (.slice 3 (.int .i64))), .imm false (.int .i64)] [.imm false (.int .i64)] (a0, a1, ()) = p_laws_markIntSS N a0 a1 := by kernel_rfl
theorem env19 : EnvOk Tryz.prog E19 := envOk mixed tabOk ⟨⟨enters25, ok25⟩, trivial⟩ trivial trivial
noncomputable def s19 : FSpec := ⟨[.mut false (.slice 23 (.slice 3 (.int .i64))), .imm false (.int .i64)], [.imm false (.int .i64)], fun x => S_laws_markIntSS x.1 x.2.1⟩
theorem ok19 : FOk Tryz.prog 19 s19 := fn_says env19 Tryz.func19 rfl fun x y h => let ⟨N, hN⟩ := lim_some h; ⟨N, (r19 N x.1 x.2.1).trans hN⟩
theorem enters19 : Enters Tryz.prog 19 := enters Tryz.func19 (by kernel_rfl) rfl

/-! ## loop.example/g00698/laws.markWatch -/
noncomputable def E17 : Env := { tab := tab, sig := [(19, s19), (25, s25)], clos := [], live := [], eqs := [], inl := [] }
set_option maxRecDepth 100000 in
theorem r17 (N : Nat) (a0 : T0) (a1 : Int) : runF N E17 Tryz.f17 [.mut true (.pair (.int .i64) (.pair (.int .i64) (.pair (.slice 23 (.slice 3 (.int .i64))) (.pair (.slice 3 (.int .i64)) .unit)))), .imm false (.int .i64)] [.imm false (.int .i64)] (a0, a1, ()) = p_laws_markWatch N a0 a1 := by kernel_rfl
theorem env17 : EnvOk Tryz.prog E17 := envOk mixed tabOk ⟨⟨enters19, ok19⟩, ⟨enters25, ok25⟩, trivial⟩ trivial trivial
noncomputable def s17 : FSpec := ⟨[.mut true (.pair (.int .i64) (.pair (.int .i64) (.pair (.slice 23 (.slice 3 (.int .i64))) (.pair (.slice 3 (.int .i64)) .unit)))), .imm false (.int .i64)], [.imm false (.int .i64)], fun x => S_laws_markWatch x.1 x.2.1⟩
theorem ok17 : FOk Tryz.prog 17 s17 := fn_says env17 Tryz.func17 rfl fun x y h => ⟨0, (r17 0 x.1 x.2.1).trans h⟩
theorem enters17 : Enters Tryz.prog 17 := enters Tryz.func17 (by kernel_rfl) rfl

/-! ## loop.example/g00698/laws.markRowS -/
noncomputable def E122 : Env := { tab := tab, sig := [(25, s25)], clos := [], live := [(0, [0, 1, 5], [])], eqs := [], inl := [] }
set_option maxRecDepth 100000 in
theorem r122 (N : Nat) (a0 : List T7) (a1 : Int) : runF N E122 Tryz.f122 [.mut false (.slice 104 (.pair (.int .i64) (.pair (.int .i64) (.pair (.int .i64) (.pair (.pair (.int .i64) (.pair (.int .i64) (.pair (.int .i64) (.pair (.int .i64) (.pair (.int .i64) .unit))))) (.pair (.pair (.int .i64) (.pair (.slice 3 (.int .i64)) .unit)) .unit)))))), .imm false (.int .i64)] [.imm false (.int .i64)] (a0, a1, ()) = p_laws_markRowS N a0 a1 := by kernel_rfl
theorem env122 : EnvOk Tryz.prog E122 := envOk mixed tabOk ⟨⟨enters25, ok25⟩, trivial⟩ trivial trivial
noncomputable def s122 : FSpec := ⟨[.mut false (.slice 104 (.pair (.int .i64) (.pair (.int .i64) (.pair (.int .i64) (.pair (.pair (.int .i64) (.pair (.int .i64) (.pair (.int .i64) (.pair (.int .i64) (.pair (.int .i64) .unit))))) (.pair (.pair (.int .i64) (.pair (.slice 3 (.int .i64)) .unit)) .unit)))))), .imm false (.int .i64)], [.imm false (.int .i64)], fun x => S_laws_markRowS x.1 x.2.1⟩
theorem ok122 : FOk Tryz.prog 122 s122 := fn_says env122 Tryz.func122 rfl fun x y h => let ⟨N, hN⟩ := lim_some h; ⟨N, (r122 N x.1 x.2.1).trans hN⟩
theorem enters122 : Enters Tryz.prog 122 := enters Tryz.func122 (by kernel_rfl) rfl

/-! ## loop.example/g00698/laws.markRowSS -/
noncomputable def E58 : Env := { tab := tab, sig := [(122, s122)], clos := [], live := [(0, [0, 1, 5], [])], eqs := [], inl := [] }
set_option maxRecDepth 100000 in
theorem r58 (N : Nat) (a0 : List (List T7)) (a1 : Int) : runF N E58 Tryz.f58 [.mut false (.slice 148 (.slice 104 (.pair (.int .i64) (.pair (.int .i64) (.pair (.int .i64) (.pair (.pair (.int .i64) (.pair (.int .i64) (.pair (.int .i64) (.pair (.int .i64) (.pair (.int .i64) .unit))))) (.pair (.pair (.int .i64) (.pair (.slice 3 (.int .i64)) .unit)) .unit))))))), .imm false (.int .i64)] [.imm false (.int .i64)] (a0, a1, ()) = p_laws_markRowSS N a0 a1 := by kernel_rfl
theorem env58 : EnvOk Tryz.prog E58 := envOk mixed tabOk ⟨⟨enters122, ok122⟩, trivial⟩ trivial trivial
noncomputable def s58 : FSpec := ⟨[.mut false (.slice 148 (.slice 104 (.pair (.int .i64) (.pair (.int .i64) (.pair (.int .i64) (.pair (.pair (.int .i64) (.pair (.int .i64) (.pair (.int .i64) (.pair (.int .i64) (.pair (.int .i64) .unit))))) (.pair (.pair (.int .i64) (.pair (.slice 3 (.int .i64)) .unit)) .unit))))))), .imm false (.int .i64)], [.imm false (.int .i64)], fun x => S_laws_markRowSS x.1 x.2.1⟩
theorem ok58 : FOk Tryz.prog 58 s58 := fn_says env58 Tryz.func58 rfl fun x y h => let ⟨N, hN⟩ := lim_some h; ⟨N, (r58 N x.1 x.2.1).trans hN⟩
theorem enters58 : Enters Tryz.prog 58 := enters Tryz.func58 (by kernel_rfl) rfl

/-! ## loop.example/g00698/laws.markTable -/
noncomputable def E18 : Env := { tab := tab, sig := [(58, s58)], clos := [], live := [], eqs := [], inl := [] }
set_option maxRecDepth 100000 in
theorem r18 (N : Nat) (a0 : T8) (a1 : Int) : runF N E18 Tryz.f18 [.mut true (.pair (.int .i64) (.pair (.slice 148 (.slice 104 (.pair (.int .i64) (.pair (.int .i64) (.pair (.int .i64) (.pair (.pair (.int .i64) (.pair (.int .i64) (.pair (.int .i64) (.pair (.int .i64) (.pair (.int .i64) .unit))))) (.pair (.pair (.int .i64) (.pair (.slice 3 (.int .i64)) .unit)) .unit))))))) .unit)), .imm false (.int .i64)] [.imm false (.int .i64)] (a0, a1, ()) = p_laws_markTable N a0 a1 := by kernel_rfl
theorem env18 : EnvOk Tryz.prog E18 := envOk mixed tabOk ⟨⟨enters58, ok58⟩, trivial⟩ trivial trivial
noncomputable def s18 : FSpec := ⟨[.mut true (.pair (.int .i64) (.pair (.slice 148 (.slice 104 (.pair (.int .i64) (.pair (.int .i64) (.pair (.int .i64) (.pair (.pair (.int .i64) (.pair (.int .i64) (.pair (.int .i64) (.pair (.int .i64) (.pair (.int .i64) .unit))))) (.pair (.pair (.int .i64) (.pair (.slice 3 (.int .i64)) .unit)) .unit))))))) .unit)), .imm false (.int .i64)], [.imm false (.int .i64)], fun x => S_laws_markTable x.1 x.2.1⟩
theorem ok18 : FOk Tryz.prog 18 s18 := fn_says env18 Tryz.func18 rfl fun x y h => ⟨0, (r18 0 x.1 x.2.1).trans h⟩
theorem enters18 : Enters Tryz.prog 18 := enters Tryz.func18 (by kernel_rfl) rfl

/-! ## loop.example/g00698/laws.heldIntS -/
noncomputable def E26 : Env := { tab := tab, sig := [], clos := [], live := [(0, [0, 1, 5], [])], eqs := [], inl := [] }
set_option maxRecDepth 100000 in
theorem r26 (N : Nat) (a0 : List Int) (a1 : Int) : runF N E26 Tryz.f26 [.imm false (.slice 3 (.int .i64)), .imm false (.int .i64)] [.imm false (.int .i64)] (a0, a1, ()) = p_laws_heldIntS N a0 a1 := by kernel_rfl
theorem env26 : EnvOk Tryz.prog E26 := envOk mixed tabOk trivial trivial trivial
noncomputable def s26 : FSpec := ⟨[.imm false (.slice 3 (.int .i64)), .imm false (.int .i64)], [.imm false (.int .i64)], fun x => S_laws_heldIntS x.1 x.2.1⟩
theorem ok26 : FOk Tryz.prog 26 s26 := fn_says env26 Tryz.func26 rfl fun x y h => let ⟨N, hN⟩ := lim_some h; ⟨N, (r26 N x.1 x.2.1).trans hN⟩
theorem enters26 : Enters Tryz.prog 26 := enters Tryz.func26 (by kernel_rfl) rfl

/-! ## loop.example/g00698/laws.heldIntSS -/
noncomputable def E21 : Env := { tab := tab, sig := [(26, s26)], clos := [], live := [(0, [0, 1, 5], [])], eqs := [], inl := [] }
set_option maxRecDepth 100000 in
theorem r21 (N : Nat) (a0 : List (List Int)) (a1 : Int) : runF N E21 Tryz.f21 [.imm false (.slice 23 (.slice 3 (.int .i64))), .imm false (.int .i64)] [.imm false (.int .i64)] (a0, a1, ()) = p_laws_heldIntSS N a0 a1 := by kernel_rfl
theorem env21 : EnvOk Tryz.prog E21 := envOk mixed tabOk ⟨⟨enters26, ok26⟩, trivial⟩ trivial trivial
noncomputable def s21 : FSpec := ⟨[.imm false (.slice 23 (.slice 3 (.int .i64))), .imm false (.int .i64)], [.imm false (.int .i64)], fun x => S_laws_heldIntSS x.1 x.2.1⟩
theorem ok21 : FOk Tryz.prog 21 s21 := fn_says env21 Tryz.func21 rfl fun x y h => let ⟨N, hN⟩ := lim_some h; ⟨N, (r21 N x.1 x.2.1).trans hN⟩
theorem enters21 : Enters Tryz.prog 21 := enters Tryz.func21 (by kernel_rfl) rfl

/-! ## loop.example/g00698/laws.heldWatch -/
noncomputable def E20 : Env := { tab := tab, sig := [(21, s21), (26, s26)], clos := [], live := [], eqs := [], inl := [] }
set_option maxRecDepth 100000 in
theorem r20 (N : Nat) (a0 : T0) (a1 : Int) : runF N E20 Tryz.f20 [.imm true (.pair (.int .i64) (.pair (.int .i64) (.pair (.slice 23 (.slice 3 (.int .i64))) (.pair (.slice 3 (.int .i64)) .unit)))), .imm false (.int .i64)] [.imm false (.int .i64)] (a0, a1, ()) = p_laws_heldWatch N a0 a1 := by kernel_rfl
theorem env20 : EnvOk Tryz.prog E20 := envOk mixed tabOk ⟨⟨enters21, ok21⟩, ⟨enters26, ok26⟩, trivial⟩ trivial trivial
noncomputable def s20 : FSpec := ⟨[.imm true (.pair (.int .i64) (.pair (.int .i64) (.pair (.slice 23 (.slice 3 (.int .i64))) (.pair (.slice 3 (.int .i64)) .unit)))), .imm false (.int .i64)], [.imm false (.int .i64)], fun x => S_laws_heldWatch x.1 x.2.1⟩
theorem ok20 : FOk Tryz.prog 20 s20 := fn_says env20 Tryz.func20 rfl fun x y h => ⟨0, (r20 0 x.1 x.2.1).trans h⟩
theorem enters20 : Enters Tryz.prog 20 := enters Tryz.func20 (by kernel_rfl) rfl

/-! ## loop.example/g00698/laws.FnExactTickWatch -/
noncomputable def E3 : Env := { tab := tab, sig := [(8, s8), (9, s9), (11, s11), (12, s12), (10, s10), (13, s13), (14, s14), (15, s15), (16, s16), (17, s17), (18, s18), (19, s19), (20, s20), (21, s21)], clos := [], live := [], eqs := [], inl := [], imm := [32, 34, 121, 123, 124] }
set_option maxRecDepth 100000 in
theorem r3 (N : Nat) (a0 : T0) (a1 : T8) : runF N E3 Tryz.f3 [.imm true (.pair (.int .i64) (.pair (.int .i64) (.pair (.slice 23 (.slice 3 (.int .i64))) (.pair (.slice 3 (.int .i64)) .unit)))), .imm true (.pair (.int .i64) (.pair (.slice 144 (.slice 210 (.pair (.int .i64) (.pair (.int .i64) (.pair (.int .i64) (.pair (.pair (.int .i64) (.pair (.int .i64) (.pair (.int .i64) (.pair (.int .i64) (.pair (.int .i64) .unit))))) (.pair (.pair (.int .i64) (.pair (.slice 3 (.int .i64)) .unit)) .unit))))))) .unit))] [.imm false .bool] (a0, a1, ()) = p_laws_FnExactTickWatch N a0 a1 := by kernel_rfl
theorem env3 : EnvOk Tryz.prog E3 := envOk mixed tabOk ⟨⟨enters8, ok8⟩, ⟨enters9, ok9⟩, ⟨enters11, ok11⟩, ⟨enters12, ok12⟩, ⟨enters10, ok10⟩, ⟨enters13, ok13⟩, ⟨enters14, ok14⟩, ⟨enters15, ok15⟩, ⟨enters16, ok16⟩, ⟨enters17, ok17⟩, ⟨enters18, ok18⟩, ⟨enters19, ok19⟩, ⟨enters20, ok20⟩, ⟨enters21, ok21⟩, trivial⟩ trivial trivial

end Go.Proofs.YtnognplemkdjiaaGreat.Am
