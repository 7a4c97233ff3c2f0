/- Functions, as they run on data. No condition. -/
import Derived.Test.YtdcbankajhnepaaGreatAmFn0
set_option linter.unusedVariables false
set_option maxRecDepth 100000
namespace Go.Proofs.YtdcbankajhnepaaGreat.Am
open Go.AM Go.AM.P Go.Proofs Go.Shelf
noncomputable def E149 : Env := { tab := tab, sig := [(78, s78), (206, s206), (215, s215), (217, s217), (216, s216)], clos := [], live := [], eqs := [(137, [false, false, false, false, false])], inl := [] }
set_option maxRecDepth 100000 in
theorem r149 (N : Nat) (a0 : Int) (a1 : T7) : runF N E149 Tryz.f149 [.imm false (.int .i64), .imm true Y37] [.imm false .bool] (a0, a1, ()) = p_impl_goodRow N a0 a1 := by kernel_rfl
theorem env149 : EnvOk Tryz.prog (fa.at true) E149 := envOk mixed tabOk ⟨⟨enters78, ok78, fun _ => rfl⟩, ⟨enters206, ok206, fun _ => rfl⟩, ⟨enters215, ok215, fun _ => rfl⟩, ⟨enters217, ok217, fun _ => rfl⟩, ⟨enters216, ok216, fun _ => rfl⟩, trivial⟩ trivial ⟨eq137, trivial⟩
noncomputable def s149 : FSpec := ⟨[.imm false (.int .i64), .imm true Y37], [.imm false .bool], fun x => S_impl_goodRow x.1 x.2.1, true⟩
theorem ok149 : FOk Tryz.prog fa 149 s149 := fn_says env149 Tryz.func149 rfl fun x y h => ⟨0, (r149 0 x.1 x.2.1).trans h⟩
theorem enters149 : Enters Tryz.prog 149 := enters Tryz.func149 (by kernel_rfl) rfl
noncomputable def E214 : Env := { tab := tab, sig := [], clos := [], live := [(0, [0, 1, 7, 8], [])], eqs := [], inl := [] }
set_option maxRecDepth 100000 in
theorem r214 (N : Nat) (a0 : List T7) (a1 : (T7 × Unit) → Option Bool) : runF N E214 Tryz.f214 [.imm false Y38, .clo [(true, Y37)] .bool] [.imm false (.int .i64)] (a0, a1, ()) = p_IndexFunc_Limpl_Row_impl_Row N a0 a1 := by kernel_rfl
theorem env214 : EnvOk Tryz.prog (fa.at true) E214 := envOk mixed tabOk trivial trivial trivial
noncomputable def s214 : FSpec := ⟨[.imm false Y38, .clo [(true, Y37)] .bool], [.imm false (.int .i64)], fun x => S_IndexFunc_Limpl_Row_impl_Row x.1 x.2.1, true⟩
theorem ok214 : FOk Tryz.prog fa 214 s214 := fn_says env214 Tryz.func214 rfl fun x y h => let ⟨N, hN⟩ := lim_some h; ⟨N, (r214 N x.1 x.2.1).trans hN⟩
theorem enters214 : Enters Tryz.prog 214 := enters Tryz.func214 (by kernel_rfl) rfl
noncomputable def E147 : Env := { tab := tab, sig := [(214, s214)], clos := [], live := [], eqs := [], inl := [] }
set_option maxRecDepth 100000 in
theorem r147 (N : Nat) (a0 : List T7) (a1 : (T7 × Unit) → Option Bool) : runF N E147 Tryz.f147 [.imm false Y38, .clo [(true, Y37)] .bool] [.imm false .bool] (a0, a1, ()) = p_ContainsFunc_Limpl_Row_impl_Row N a0 a1 := by kernel_rfl
theorem env147 : EnvOk Tryz.prog (fa.at true) E147 := envOk mixed tabOk ⟨⟨enters214, ok214, fun _ => rfl⟩, trivial⟩ trivial trivial
noncomputable def s147 : FSpec := ⟨[.imm false Y38, .clo [(true, Y37)] .bool], [.imm false .bool], fun x => S_ContainsFunc_Limpl_Row_impl_Row x.1 x.2.1, true⟩
theorem ok147 : FOk Tryz.prog fa 147 s147 := fn_says env147 Tryz.func147 rfl fun x y h => ⟨0, (r147 0 x.1 x.2.1).trans h⟩
theorem enters147 : Enters Tryz.prog 147 := enters Tryz.func147 (by kernel_rfl) rfl
noncomputable def E213 : Env := { tab := tab, sig := [], clos := [], live := [(0, [0, 1, 7, 8], [])], eqs := [], inl := [] }
set_option maxRecDepth 100000 in
theorem r213 (N : Nat) (a0 : List (List T7)) (a1 : (List T7 × Unit) → Option Bool) : runF N E213 Tryz.f213 [.imm false Y41, .clo [(false, Y38)] .bool] [.imm false (.int .i64)] (a0, a1, ()) = p_IndexFunc_LLimpl_Row_Limpl_Row N a0 a1 := by kernel_rfl
theorem env213 : EnvOk Tryz.prog (fa.at true) E213 := envOk mixed tabOk trivial trivial trivial
noncomputable def s213 : FSpec := ⟨[.imm false Y41, .clo [(false, Y38)] .bool], [.imm false (.int .i64)], fun x => S_IndexFunc_LLimpl_Row_Limpl_Row x.1 x.2.1, true⟩
theorem ok213 : FOk Tryz.prog fa 213 s213 := fn_says env213 Tryz.func213 rfl fun x y h => let ⟨N, hN⟩ := lim_some h; ⟨N, (r213 N x.1 x.2.1).trans hN⟩
theorem enters213 : Enters Tryz.prog 213 := enters Tryz.func213 (by kernel_rfl) rfl
noncomputable def E145 : Env := { tab := tab, sig := [(213, s213)], clos := [], live := [], eqs := [], inl := [] }
set_option maxRecDepth 100000 in
theorem r145 (N : Nat) (a0 : List (List T7)) (a1 : (List T7 × Unit) → Option Bool) : runF N E145 Tryz.f145 [.imm false Y41, .clo [(false, Y38)] .bool] [.imm false .bool] (a0, a1, ()) = p_ContainsFunc_LLimpl_Row_Limpl_Row N a0 a1 := by kernel_rfl
theorem env145 : EnvOk Tryz.prog (fa.at true) E145 := envOk mixed tabOk ⟨⟨enters213, ok213, fun _ => rfl⟩, trivial⟩ trivial trivial
noncomputable def s145 : FSpec := ⟨[.imm false Y41, .clo [(false, Y38)] .bool], [.imm false .bool], fun x => S_ContainsFunc_LLimpl_Row_Limpl_Row x.1 x.2.1, true⟩
theorem ok145 : FOk Tryz.prog fa 145 s145 := fn_says env145 Tryz.func145 rfl fun x y h => ⟨0, (r145 0 x.1 x.2.1).trans h⟩
theorem enters145 : Enters Tryz.prog 145 := enters Tryz.func145 (by kernel_rfl) rfl
theorem enters146 : Enters Tryz.prog 146 := enters Tryz.func146 (by kernel_rfl) rfl
theorem enters148 : Enters Tryz.prog 148 := enters Tryz.func148 (by kernel_rfl) rfl
noncomputable def E69 : Env := { tab := tab, sig := [(77, s77), (145, s145), (147, s147), (149, s149)], clos := [(146, ⟨Tryz.f146, [(false, Y38)], []⟩), (148, ⟨Tryz.f148, [(true, Y37)], []⟩)], live := [], eqs := [], inl := [] }
set_option maxRecDepth 100000 in
theorem r69 (N : Nat) (a0 : T8) : runF N E69 Tryz.f69 [.imm true Y50] [.imm false .bool] (a0, ()) = p_impl_GoodTable N a0 := by kernel_rfl
theorem env69 : EnvOk Tryz.prog (fa.at true) E69 := envOk mixed tabOk ⟨⟨enters77, ok77, fun _ => rfl⟩, ⟨enters145, ok145, fun _ => rfl⟩, ⟨enters147, ok147, fun _ => rfl⟩, ⟨enters149, ok149, fun _ => rfl⟩, trivial⟩ ⟨⟨Tryz.func146, enters146⟩, ⟨Tryz.func148, enters148⟩, trivial⟩ trivial
noncomputable def s69 : FSpec := ⟨[.imm true Y50], [.imm false .bool], fun x => S_impl_GoodTable x.1, true⟩
theorem ok69 : FOk Tryz.prog fa 69 s69 := fn_says env69 Tryz.func69 rfl fun x y h => ⟨0, (r69 0 x.1).trans h⟩
theorem enters69 : Enters Tryz.prog 69 := enters Tryz.func69 (by kernel_rfl) rfl
theorem enters222 : Enters Tryz.prog 222 := enters Tryz.func222 (by kernel_rfl) rfl
theorem enters223 : Enters Tryz.prog 223 := enters Tryz.func223 (by kernel_rfl) rfl
noncomputable def E156 : Env := { tab := tab, sig := [], clos := [(222, ⟨Tryz.f222, [], [(0, [1, 9, 10, 11], []), (2, [1, 4, 9, 10, 11, 16, 17, 18], [])]⟩), (223, ⟨Tryz.f223, [], []⟩)], live := [(0, [1, 3, 9, 10], []), (2, [1, 3, 4, 5, 9, 10], [])], eqs := [], inl := [222, 223] }
set_option maxRecDepth 100000 in
theorem r156 (N : Nat) (a0 : T8) : runF N E156 Tryz.f156 [.imm true Y50] [.deep false Y5] (a0, ()) = p_impl_Table_mentioned N a0 := by kernel_rfl
theorem env156 : EnvOk Tryz.prog (fa.at true) E156 := envOk mixed tabOk trivial ⟨⟨Tryz.func222, enters222⟩, ⟨Tryz.func223, enters223⟩, trivial⟩ trivial
noncomputable def s156 : FSpec := ⟨[.imm true Y50], [.deep false Y5], fun x => S_impl_Table_mentioned x.1, true⟩
theorem ok156 : FOk Tryz.prog fa 156 s156 := fn_says env156 Tryz.func156 rfl fun x y h => let ⟨N, hN⟩ := lim_some h; ⟨N, (r156 N x.1).trans hN⟩
theorem enters156 : Enters Tryz.prog 156 := enters Tryz.func156 (by kernel_rfl) rfl
noncomputable def E121 : Env := { tab := tab, sig := [], clos := [], live := [], eqs := [], inl := [] }
set_option maxRecDepth 100000 in
theorem r121 (N : Nat) (a0 : List Int) : runF N E121 Tryz.f121 [.imm false Y1] [.deep false Y1] (a0, ()) = p_Clone_Lint_int N a0 := by kernel_rfl
theorem env121 : EnvOk Tryz.prog (fa.at true) E121 := envOk mixed tabOk trivial trivial trivial
noncomputable def s121 : FSpec := ⟨[.imm false Y1], [.deep false Y1], fun x => S_Clone_Lint_int x.1, true⟩
theorem ok121 : FOk Tryz.prog fa 121 s121 := fn_says env121 Tryz.func121 rfl fun x y h => ⟨0, (r121 0 x.1).trans h⟩
theorem enters121 : Enters Tryz.prog 121 := enters Tryz.func121 (by kernel_rfl) rfl
noncomputable def E274 : Env := { tab := tab, sig := [(121, s121)], clos := [], live := [], eqs := [], inl := [] }
set_option maxRecDepth 100000 in
theorem r274 (N : Nat) (a0 : T6) : runF N E274 Tryz.f274 [.imm true Y12] [.deep true Y12] (a0, ()) = p_impl_Attr_copied N a0 := by kernel_rfl
theorem env274 : EnvOk Tryz.prog (fa.at true) E274 := envOk mixed tabOk ⟨⟨enters121, ok121, fun _ => rfl⟩, trivial⟩ trivial trivial
noncomputable def s274 : FSpec := ⟨[.imm true Y12], [.deep true Y12], fun x => S_impl_Attr_copied x.1, true⟩
theorem ok274 : FOk Tryz.prog fa 274 s274 := fn_says env274 Tryz.func274 rfl fun x y h => ⟨0, (r274 0 x.1).trans h⟩
theorem enters274 : Enters Tryz.prog 274 := enters Tryz.func274 (by kernel_rfl) rfl
noncomputable def E224 : Env := { tab := tab, sig := [(274, s274)], clos := [], live := [], eqs := [], inl := [] }
set_option maxRecDepth 100000 in
theorem r224 (N : Nat) (a0 : T7) : runF N E224 Tryz.f224 [.imm true Y37] [.deep true Y37] (a0, ()) = p_impl_Row_copied N a0 := by kernel_rfl
theorem env224 : EnvOk Tryz.prog (fa.at true) E224 := envOk mixed tabOk ⟨⟨enters274, ok274, fun _ => rfl⟩, trivial⟩ trivial trivial
noncomputable def s224 : FSpec := ⟨[.imm true Y37], [.deep true Y37], fun x => S_impl_Row_copied x.1, true⟩
theorem ok224 : FOk Tryz.prog fa 224 s224 := fn_says env224 Tryz.func224 rfl fun x y h => ⟨0, (r224 0 x.1).trans h⟩
theorem enters224 : Enters Tryz.prog 224 := enters Tryz.func224 (by kernel_rfl) rfl
noncomputable def E158 : Env := { tab := tab, sig := [(224, s224), (217, s217)], clos := [], live := [], eqs := [], inl := [] }
set_option maxRecDepth 100000 in
theorem r158 (N : Nat) (a0 : T8) (a1 : Int) (a2 : Int) : runF N E158 Tryz.f158 [.imm true Y50, .imm false (.int .i64), .imm false (.int .i64)] [.deep true Y37] (a0, a1, a2, ()) = p_impl_Table_row N a0 a1 a2 := by kernel_rfl
theorem env158 : EnvOk Tryz.prog (fa.at true) E158 := envOk mixed tabOk ⟨⟨enters224, ok224, fun _ => rfl⟩, ⟨enters217, ok217, fun _ => rfl⟩, trivial⟩ trivial trivial
noncomputable def s158 : FSpec := ⟨[.imm true Y50, .imm false (.int .i64), .imm false (.int .i64)], [.deep true Y37], fun x => S_impl_Table_row x.1 x.2.1 x.2.2.1, true⟩
theorem ok158 : FOk Tryz.prog fa 158 s158 := fn_says env158 Tryz.func158 rfl fun x y h => ⟨0, (r158 0 x.1 x.2.1 x.2.2.1).trans h⟩
theorem enters158 : Enters Tryz.prog 158 := enters Tryz.func158 (by kernel_rfl) rfl
theorem enters157 : Enters Tryz.prog 157 := enters Tryz.func157 (by kernel_rfl) rfl
noncomputable def E74 : Env := { tab := tab, sig := [(156, s156), (158, s158)], clos := [(157, ⟨Tryz.f157, [(false, Y1)], []⟩)], live := [], eqs := [], inl := [], rfn := [(122, ⟨.filter, 25, 1, false⟩)] }
set_option maxRecDepth 100000 in
theorem r74 (N : Nat) (a0 : T8) : runF N E74 Tryz.f74 [.imm true Y50] [.deep false Y5] (a0, ()) = p_impl_Table_open N a0 := by kernel_rfl
theorem env74 : EnvOk Tryz.prog (fa.at true) E74 := envOk mixed tabOk ⟨⟨enters156, ok156, fun _ => rfl⟩, ⟨enters158, ok158, fun _ => rfl⟩, trivial⟩ ⟨⟨Tryz.func157, enters157⟩, trivial⟩ trivial ⟨rfn122, trivial⟩
noncomputable def s74 : FSpec := ⟨[.imm true Y50], [.deep false Y5], fun x => S_impl_Table_open x.1, true⟩
theorem ok74 : FOk Tryz.prog fa 74 s74 := fn_says env74 Tryz.func74 rfl fun x y h => ⟨0, (r74 0 x.1).trans h⟩
theorem enters74 : Enters Tryz.prog 74 := enters Tryz.func74 (by kernel_rfl) rfl
noncomputable def E150 : Env := { tab := tab, sig := [], clos := [], live := [(0, [0, 1, 7, 8], [])], eqs := [], inl := [] }
set_option maxRecDepth 100000 in
theorem r150 (N : Nat) (a0 : List (List Int)) (a1 : (List Int × Unit) → Option Bool) : runF N E150 Tryz.f150 [.imm false Y5, .clo [(false, Y1)] .bool] [.imm false (.int .i64)] (a0, a1, ()) = p_IndexFunc_LLint_Lint N a0 a1 := by kernel_rfl
theorem env150 : EnvOk Tryz.prog (fa.at true) E150 := envOk mixed tabOk trivial trivial trivial
noncomputable def s150 : FSpec := ⟨[.imm false Y5, .clo [(false, Y1)] .bool], [.imm false (.int .i64)], fun x => S_IndexFunc_LLint_Lint x.1 x.2.1, true⟩
theorem ok150 : FOk Tryz.prog fa 150 s150 := fn_says env150 Tryz.func150 rfl fun x y h => let ⟨N, hN⟩ := lim_some h; ⟨N, (r150 N x.1 x.2.1).trans hN⟩
theorem enters150 : Enters Tryz.prog 150 := enters Tryz.func150 (by kernel_rfl) rfl
noncomputable def E84 : Env := { tab := tab, sig := [], clos := [], live := [], eqs := [], inl := [] }
set_option maxRecDepth 100000 in
theorem r84 (N : Nat) (a0 : Int) (a1 : Int) (a2 : Int) : runF N E84 Tryz.f84 [.imm false (.int .i64), .imm false (.int .i64), .imm false (.int .i64)] [.imm false (.int .i64)] (a0, a1, a2, ()) = p_impl_waitOf N a0 a1 a2 := by kernel_rfl
theorem env84 : EnvOk Tryz.prog (fa.at true) E84 := envOk mixed tabOk trivial trivial trivial
noncomputable def s84 : FSpec := ⟨[.imm false (.int .i64), .imm false (.int .i64), .imm false (.int .i64)], [.imm false (.int .i64)], fun x => S_impl_waitOf x.1 x.2.1 x.2.2.1, true⟩
theorem ok84 : FOk Tryz.prog fa 84 s84 := fn_says env84 Tryz.func84 rfl fun x y h => ⟨0, (r84 0 x.1 x.2.1 x.2.2.1).trans h⟩
theorem enters84 : Enters Tryz.prog 84 := enters Tryz.func84 (by kernel_rfl) rfl
theorem enters70 : Enters Tryz.prog 70 := enters Tryz.func70 (by kernel_rfl) rfl
theorem enters151 : Enters Tryz.prog 151 := enters Tryz.func151 (by kernel_rfl) rfl
noncomputable def E11 : Env := { tab := tab, sig := [(17, s17), (69, s69), (74, s74), (150, s150), (152, s152), (84, s84), (121, s121)], clos := [(70, ⟨Tryz.f70, [], [(0, [0, 5, 6, 7, 16, 17, 18, 46, 47, 48, 49, 50, 51, 52, 53, 54, 55, 56, 57, 58, 59, 60], [])]⟩), (151, ⟨Tryz.f151, [(false, Y1)], []⟩)], live := [], eqs := [], inl := [70] }
set_option maxRecDepth 100000 in
theorem r11 (N : Nat) (a0 : T0) (a1 : T8) : runF N E11 Tryz.f11 [.imm true Y23, .imm true Y50] [.deep true Y23, .deep false Y5, .imm false .bool] (a0, a1, ()) = p_impl_TickWatch N a0 a1 := by kernel_rfl
theorem env11 : EnvOk Tryz.prog (fa.at true) E11 := envOk mixed tabOk ⟨⟨enters17, ok17, fun _ => rfl⟩, ⟨enters69, ok69, fun _ => rfl⟩, ⟨enters74, ok74, fun _ => rfl⟩, ⟨enters150, ok150, fun _ => rfl⟩, ⟨enters152, ok152, fun _ => rfl⟩, ⟨enters84, ok84, fun _ => rfl⟩, ⟨enters121, ok121, fun _ => rfl⟩, trivial⟩ ⟨⟨Tryz.func70, enters70⟩, ⟨Tryz.func151, enters151⟩, trivial⟩ trivial
noncomputable def s11 : FSpec := ⟨[.imm true Y23, .imm true Y50], [.deep true Y23, .deep false Y5, .imm false .bool], fun x => S_impl_TickWatch x.1 x.2.1, true⟩
theorem ok11 : FOk Tryz.prog fa 11 s11 := fn_says env11 Tryz.func11 rfl fun x y h => let ⟨N, hN⟩ := lim_some h; ⟨N, (r11 N x.1 x.2.1).trans hN⟩
theorem enters11 : Enters Tryz.prog 11 := enters Tryz.func11 (by kernel_rfl) rfl
noncomputable def E218 : Env := { tab := tab, sig := [(90, s90)], clos := [], live := [], eqs := [], inl := [] }
set_option maxRecDepth 100000 in
theorem r218 (N : Nat) (a0 : Int) (a1 : Int) (a2 : Int) : runF N E218 Tryz.f218 [.imm false (.int .i64), .imm false (.int .i64), .imm false (.int .i64)] [.imm false .bool] (a0, a1, a2, ()) = p_spec_l3Inst N a0 a1 a2 := by kernel_rfl
theorem env218 : EnvOk Tryz.prog (fa.at true) E218 := envOk mixed tabOk ⟨⟨enters90, ok90, fun _ => rfl⟩, trivial⟩ trivial trivial
noncomputable def s218 : FSpec := ⟨[.imm false (.int .i64), .imm false (.int .i64), .imm false (.int .i64)], [.imm false .bool], fun x => S_spec_l3Inst x.1 x.2.1 x.2.2.1, true⟩
theorem ok218 : FOk Tryz.prog fa 218 s218 := fn_says env218 Tryz.func218 rfl fun x y h => ⟨0, (r218 0 x.1 x.2.1 x.2.2.1).trans h⟩
theorem enters218 : Enters Tryz.prog 218 := enters Tryz.func218 (by kernel_rfl) rfl
noncomputable def E153 : Env := { tab := tab, sig := [(218, s218)], clos := [], live := [(0, [0, 1, 7, 8, 9, 18, 19, 20, 21, 22, 23, 24, 25, 26, 31, 32, 33, 34, 35, 36, 37, 38, 39, 40, 41, 42, 43, 44, 45, 46, 47, 48, 49, 50, 51, 52, 53, 54, 55, 56, 57, 58, 59, 60, 61, 62, 63, 64, 65, 66, 67], [])], eqs := [], inl := [] }
set_option maxRecDepth 100000 in
theorem r153 (N : Nat) (a0 : Int) (a1 : List (List Int)) : runF N E153 Tryz.f153 [.imm false (.int .i64), .imm false Y5] [.imm false .bool] (a0, a1, ()) = p_spec_l18Done N a0 a1 := by kernel_rfl
theorem env153 : EnvOk Tryz.prog (fa.at true) E153 := envOk mixed tabOk ⟨⟨enters218, ok218, fun _ => rfl⟩, trivial⟩ trivial trivial
noncomputable def s153 : FSpec := ⟨[.imm false (.int .i64), .imm false Y5], [.imm false .bool], fun x => S_spec_l18Done x.1 x.2.1, true⟩
theorem ok153 : FOk Tryz.prog fa 153 s153 := fn_says env153 Tryz.func153 rfl fun x y h => let ⟨N, hN⟩ := lim_some h; ⟨N, (r153 N x.1 x.2.1).trans hN⟩
theorem enters153 : Enters Tryz.prog 153 := enters Tryz.func153 (by kernel_rfl) rfl
noncomputable def E71 : Env := { tab := tab, sig := [(89, s89), (90, s90), (153, s153), (154, s154)], clos := [], live := [], eqs := [], inl := [] }
set_option maxRecDepth 100000 in
theorem r71 (N : Nat) (a0 : T0) : runF N E71 Tryz.f71 [.imm true Y23] [.imm false .bool] (a0, ()) = p_spec_l20Good N a0 := by kernel_rfl
theorem env71 : EnvOk Tryz.prog (fa.at true) E71 := envOk mixed tabOk ⟨⟨enters89, ok89, fun _ => rfl⟩, ⟨enters90, ok90, fun _ => rfl⟩, ⟨enters153, ok153, fun _ => rfl⟩, ⟨enters154, ok154, fun _ => rfl⟩, trivial⟩ trivial trivial
noncomputable def s71 : FSpec := ⟨[.imm true Y23], [.imm false .bool], fun x => S_spec_l20Good x.1, true⟩
theorem ok71 : FOk Tryz.prog fa 71 s71 := fn_says env71 Tryz.func71 rfl fun x y h => ⟨0, (r71 0 x.1).trans h⟩
theorem enters71 : Enters Tryz.prog 71 := enters Tryz.func71 (by kernel_rfl) rfl
noncomputable def E12 : Env := { tab := tab, sig := [(71, s71), (72, s72), (73, s73)], clos := [], live := [], eqs := [], inl := [] }
set_option maxRecDepth 100000 in
theorem r12 (N : Nat) (a0 : T0) (a1 : T8) : runF N E12 Tryz.f12 [.imm true Y23, .imm true Y50] [.deep true Y23, .deep false Y5, .imm false .bool] (a0, a1, ()) = p_spec_TickWatch N a0 a1 := by kernel_rfl
theorem env12 : EnvOk Tryz.prog (fa.at true) E12 := envOk mixed tabOk ⟨⟨enters71, ok71, fun _ => rfl⟩, ⟨enters72, ok72, fun _ => rfl⟩, ⟨enters73, ok73, fun _ => rfl⟩, trivial⟩ trivial trivial
noncomputable def s12 : FSpec := ⟨[.imm true Y23, .imm true Y50], [.deep true Y23, .deep false Y5, .imm false .bool], fun x => S_spec_TickWatch x.1 x.2.1, true⟩
theorem ok12 : FOk Tryz.prog fa 12 s12 := fn_says env12 Tryz.func12 rfl fun x y h => ⟨0, (r12 0 x.1 x.2.1).trans h⟩
theorem enters12 : Enters Tryz.prog 12 := enters Tryz.func12 (by kernel_rfl) rfl
noncomputable def E13 : Env := { tab := tab, sig := [(69, s69), (74, s74)], clos := [], live := [], eqs := [], inl := [] }
set_option maxRecDepth 100000 in
theorem r13 (N : Nat) (a0 : T8) : runF N E13 Tryz.f13 [.imm true Y50] [.deep false Y5, .imm false .bool] (a0, ()) = p_impl_OpenIn N a0 := by kernel_rfl
theorem env13 : EnvOk Tryz.prog (fa.at true) E13 := envOk mixed tabOk ⟨⟨enters69, ok69, fun _ => rfl⟩, ⟨enters74, ok74, fun _ => rfl⟩, trivial⟩ trivial trivial
noncomputable def s13 : FSpec := ⟨[.imm true Y50], [.deep false Y5, .imm false .bool], fun x => S_impl_OpenIn x.1, true⟩
theorem ok13 : FOk Tryz.prog fa 13 s13 := fn_says env13 Tryz.func13 rfl fun x y h => ⟨0, (r13 0 x.1).trans h⟩
theorem enters13 : Enters Tryz.prog 13 := enters Tryz.func13 (by kernel_rfl) rfl
noncomputable def E14 : Env := { tab := tab, sig := [(72, s72), (75, s75)], clos := [], live := [], eqs := [], inl := [] }
set_option maxRecDepth 100000 in
theorem r14 (N : Nat) (a0 : T8) : runF N E14 Tryz.f14 [.imm true Y50] [.deep false Y5, .imm false .bool] (a0, ()) = p_spec_OpenIn N a0 := by kernel_rfl
theorem env14 : EnvOk Tryz.prog (fa.at true) E14 := envOk mixed tabOk ⟨⟨enters72, ok72, fun _ => rfl⟩, ⟨enters75, ok75, fun _ => rfl⟩, trivial⟩ trivial trivial
noncomputable def s14 : FSpec := ⟨[.imm true Y50], [.deep false Y5, .imm false .bool], fun x => S_spec_OpenIn x.1, true⟩
theorem ok14 : FOk Tryz.prog fa 14 s14 := fn_says env14 Tryz.func14 rfl fun x y h => ⟨0, (r14 0 x.1).trans h⟩
theorem enters14 : Enters Tryz.prog 14 := enters Tryz.func14 (by kernel_rfl) rfl
noncomputable def E76 : Env := { tab := tab, sig := [], clos := [], live := [(0, [0, 1, 12, 13], [])], eqs := [], inl := [] }
set_option maxRecDepth 100000 in
theorem r76 (N : Nat) (a0 : List Int) (a1 : List Int) : runF N E76 Tryz.f76 [.imm false Y1, .imm false Y1] [.imm false .bool] (a0, a1, ()) = p_laws_sameInts N a0 a1 := by kernel_rfl
theorem env76 : EnvOk Tryz.prog (fa.at true) E76 := envOk mixed tabOk trivial trivial trivial
noncomputable def s76 : FSpec := ⟨[.imm false Y1, .imm false Y1], [.imm false .bool], fun x => S_laws_sameInts x.1 x.2.1, true⟩
theorem ok76 : FOk Tryz.prog fa 76 s76 := fn_says env76 Tryz.func76 rfl fun x y h => let ⟨N, hN⟩ := lim_some h; ⟨N, (r76 N x.1 x.2.1).trans hN⟩
theorem enters76 : Enters Tryz.prog 76 := enters Tryz.func76 (by kernel_rfl) rfl
noncomputable def E16 : Env := { tab := tab, sig := [(76, s76)], clos := [], live := [(0, [0, 1, 12, 13], [])], eqs := [], inl := [] }
set_option maxRecDepth 100000 in
theorem r16 (N : Nat) (a0 : List (List Int)) (a1 : List (List Int)) : runF N E16 Tryz.f16 [.imm false Y5, .imm false Y5] [.imm false .bool] (a0, a1, ()) = p_laws_sameLists N a0 a1 := by kernel_rfl
theorem env16 : EnvOk Tryz.prog (fa.at true) E16 := envOk mixed tabOk ⟨⟨enters76, ok76, fun _ => rfl⟩, trivial⟩ trivial trivial
noncomputable def s16 : FSpec := ⟨[.imm false Y5, .imm false Y5], [.imm false .bool], fun x => S_laws_sameLists x.1 x.2.1, true⟩
theorem ok16 : FOk Tryz.prog fa 16 s16 := fn_says env16 Tryz.func16 rfl fun x y h => let ⟨N, hN⟩ := lim_some h; ⟨N, (r16 N x.1 x.2.1).trans hN⟩
theorem enters16 : Enters Tryz.prog 16 := enters Tryz.func16 (by kernel_rfl) rfl
noncomputable def E15 : Env := { tab := tab, sig := [(16, s16), (76, s76)], clos := [], live := [], eqs := [], inl := [] }
set_option maxRecDepth 100000 in
theorem r15 (N : Nat) (a0 : T0) (a1 : T0) : runF N E15 Tryz.f15 [.imm true Y23, .imm true Y23] [.imm false .bool] (a0, a1, ()) = p_laws_sameWatch N a0 a1 := by kernel_rfl
theorem env15 : EnvOk Tryz.prog (fa.at true) E15 := envOk mixed tabOk ⟨⟨enters16, ok16, fun _ => rfl⟩, ⟨enters76, ok76, fun _ => rfl⟩, trivial⟩ trivial trivial
noncomputable def s15 : FSpec := ⟨[.imm true Y23, .imm true Y23], [.imm false .bool], fun x => S_laws_sameWatch x.1 x.2.1, true⟩
theorem ok15 : FOk Tryz.prog fa 15 s15 := fn_says env15 Tryz.func15 rfl fun x y h => ⟨0, (r15 0 x.1 x.2.1).trans h⟩
theorem enters15 : Enters Tryz.prog 15 := enters Tryz.func15 (by kernel_rfl) rfl
noncomputable def E18 : Env := { tab := tab, sig := [(71, s71)], clos := [], live := [], eqs := [], inl := [] }
set_option maxRecDepth 100000 in
theorem r18 (N : Nat) (a0 : T0) : runF N E18 Tryz.f18 [.imm true Y23] [.imm false .bool] (a0, ()) = p_spec_GoodWatch N a0 := by kernel_rfl
theorem env18 : EnvOk Tryz.prog (fa.at true) E18 := envOk mixed tabOk ⟨⟨enters71, ok71, fun _ => rfl⟩, trivial⟩ trivial trivial
noncomputable def s18 : FSpec := ⟨[.imm true Y23], [.imm false .bool], fun x => S_spec_GoodWatch x.1, true⟩
theorem ok18 : FOk Tryz.prog fa 18 s18 := fn_says env18 Tryz.func18 rfl fun x y h => ⟨0, (r18 0 x.1).trans h⟩
theorem enters18 : Enters Tryz.prog 18 := enters Tryz.func18 (by kernel_rfl) rfl
noncomputable def E19 : Env := { tab := tab, sig := [(76, s76)], clos := [], live := [(0, [1, 7, 8, 9], [])], eqs := [], inl := [] }
set_option maxRecDepth 100000 in
theorem r19 (N : Nat) (a0 : List (List Int)) (a1 : List Int) : runF N E19 Tryz.f19 [.imm false Y5, .imm false Y1] [.imm false .bool] (a0, a1, ()) = p_laws_contains N a0 a1 := by kernel_rfl
theorem env19 : EnvOk Tryz.prog (fa.at true) E19 := envOk mixed tabOk ⟨⟨enters76, ok76, fun _ => rfl⟩, trivial⟩ trivial trivial
noncomputable def s19 : FSpec := ⟨[.imm false Y5, .imm false Y1], [.imm false .bool], fun x => S_laws_contains x.1 x.2.1, true⟩
theorem ok19 : FOk Tryz.prog fa 19 s19 := fn_says env19 Tryz.func19 rfl fun x y h => let ⟨N, hN⟩ := lim_some h; ⟨N, (r19 N x.1 x.2.1).trans hN⟩
theorem enters19 : Enters Tryz.prog 19 := enters Tryz.func19 (by kernel_rfl) rfl
noncomputable def E27 : Env := { tab := tab, sig := [(77, s77), (78, s78)], clos := [], live := [], eqs := [], inl := [] }
set_option maxRecDepth 100000 in
theorem r27 (N : Nat) (a0 : Int) (a1 : Int) : runF N E27 Tryz.f27 [.imm false (.int .i64), .imm false (.int .i64)] [.deep true Y23, .imm false .bool] (a0, a1, ()) = p_impl_NewWatch N a0 a1 := by kernel_rfl
theorem env27 : EnvOk Tryz.prog (fa.at true) E27 := envOk mixed tabOk ⟨⟨enters77, ok77, fun _ => rfl⟩, ⟨enters78, ok78, fun _ => rfl⟩, trivial⟩ trivial trivial
noncomputable def s27 : FSpec := ⟨[.imm false (.int .i64), .imm false (.int .i64)], [.deep true Y23, .imm false .bool], fun x => S_impl_NewWatch x.1 x.2.1, true⟩
theorem ok27 : FOk Tryz.prog fa 27 s27 := fn_says env27 Tryz.func27 rfl fun x y h => ⟨0, (r27 0 x.1 x.2.1).trans h⟩
theorem enters27 : Enters Tryz.prog 27 := enters Tryz.func27 (by kernel_rfl) rfl
noncomputable def E162 : Env := { tab := tab, sig := [], clos := [], live := [(0, [0, 1, 7, 8], [])], eqs := [], inl := [] }
set_option maxRecDepth 100000 in
theorem r162 (N : Nat) (a0 : List T8) (a1 : (T8 × Unit) → Option Bool) : runF N E162 Tryz.f162 [.imm false Y53, .clo [(true, Y50)] .bool] [.imm false (.int .i64)] (a0, a1, ()) = p_IndexFunc_Limpl_Table_impl_Table N a0 a1 := by kernel_rfl
theorem env162 : EnvOk Tryz.prog (fa.at true) E162 := envOk mixed tabOk trivial trivial trivial
noncomputable def s162 : FSpec := ⟨[.imm false Y53, .clo [(true, Y50)] .bool], [.imm false (.int .i64)], fun x => S_IndexFunc_Limpl_Table_impl_Table x.1 x.2.1, true⟩
theorem ok162 : FOk Tryz.prog fa 162 s162 := fn_says env162 Tryz.func162 rfl fun x y h => let ⟨N, hN⟩ := lim_some h; ⟨N, (r162 N x.1 x.2.1).trans hN⟩
theorem enters162 : Enters Tryz.prog 162 := enters Tryz.func162 (by kernel_rfl) rfl
noncomputable def E82 : Env := { tab := tab, sig := [(162, s162)], clos := [], live := [], eqs := [], inl := [] }
set_option maxRecDepth 100000 in
theorem r82 (N : Nat) (a0 : List T8) (a1 : (T8 × Unit) → Option Bool) : runF N E82 Tryz.f82 [.imm false Y53, .clo [(true, Y50)] .bool] [.imm false .bool] (a0, a1, ()) = p_ContainsFunc_Limpl_Table_impl_Table N a0 a1 := by kernel_rfl
theorem env82 : EnvOk Tryz.prog (fa.at true) E82 := envOk mixed tabOk ⟨⟨enters162, ok162, fun _ => rfl⟩, trivial⟩ trivial trivial
noncomputable def s82 : FSpec := ⟨[.imm false Y53, .clo [(true, Y50)] .bool], [.imm false .bool], fun x => S_ContainsFunc_Limpl_Table_impl_Table x.1 x.2.1, true⟩
theorem ok82 : FOk Tryz.prog fa 82 s82 := fn_says env82 Tryz.func82 rfl fun x y h => ⟨0, (r82 0 x.1 x.2.1).trans h⟩
theorem enters82 : Enters Tryz.prog 82 := enters Tryz.func82 (by kernel_rfl) rfl
theorem enters83 : Enters Tryz.prog 83 := enters Tryz.func83 (by kernel_rfl) rfl
noncomputable def E20 : Env := { tab := tab, sig := [(27, s27), (82, s82), (69, s69), (74, s74), (150, s150), (152, s152), (84, s84), (121, s121)], clos := [(83, ⟨Tryz.f83, [(true, Y50)], []⟩), (70, ⟨Tryz.f70, [], [(0, [0, 5, 6, 7, 16, 17, 18, 46, 47, 48, 49, 50, 51, 52, 53, 54, 55, 56, 57, 58, 59, 60], [])]⟩), (151, ⟨Tryz.f151, [(false, Y1)], []⟩)], live := [(0, [6, 9, 11, 34, 35, 36], [.take (.b 5 2) 3, .take (.b 5 3) 4])], eqs := [], inl := [70] }
set_option maxRecDepth 100000 in
theorem r20 (N : Nat) (a0 : Int) (a1 : Int) (a2 : List T8) : runF N E20 Tryz.f20 [.imm false (.int .i64), .imm false (.int .i64), .imm false Y53] [.deep true Y23, .deep false Y11, .imm false .bool] (a0, a1, a2, ()) = p_impl_PlayWatch N a0 a1 a2 := by kernel_rfl
theorem env20 : EnvOk Tryz.prog (fa.at true) E20 := envOk mixed tabOk ⟨⟨enters27, ok27, fun _ => rfl⟩, ⟨enters82, ok82, fun _ => rfl⟩, ⟨enters69, ok69, fun _ => rfl⟩, ⟨enters74, ok74, fun _ => rfl⟩, ⟨enters150, ok150, fun _ => rfl⟩, ⟨enters152, ok152, fun _ => rfl⟩, ⟨enters84, ok84, fun _ => rfl⟩, ⟨enters121, ok121, fun _ => rfl⟩, trivial⟩ ⟨⟨Tryz.func83, enters83⟩, ⟨Tryz.func70, enters70⟩, ⟨Tryz.func151, enters151⟩, trivial⟩ trivial
noncomputable def s20 : FSpec := ⟨[.imm false (.int .i64), .imm false (.int .i64), .imm false Y53], [.deep true Y23, .deep false Y11, .imm false .bool], fun x => S_impl_PlayWatch x.1 x.2.1 x.2.2.1, true⟩
theorem ok20 : FOk Tryz.prog fa 20 s20 := fn_says env20 Tryz.func20 rfl fun x y h => let ⟨N, hN⟩ := lim_some h; ⟨N, (r20 N x.1 x.2.1 x.2.2.1).trans hN⟩
theorem enters20 : Enters Tryz.prog 20 := enters Tryz.func20 (by kernel_rfl) rfl
noncomputable def E21 : Env := { tab := tab, sig := [(77, s77), (78, s78), (84, s84)], clos := [], live := [], eqs := [], inl := [] }
set_option maxRecDepth 100000 in
theorem r21 (N : Nat) (a0 : Int) (a1 : Int) (a2 : Int) : runF N E21 Tryz.f21 [.imm false (.int .i64), .imm false (.int .i64), .imm false (.int .i64)] [.imm false (.int .i64), .imm false .bool] (a0, a1, a2, ()) = p_impl_WaitOf N a0 a1 a2 := by kernel_rfl
theorem env21 : EnvOk Tryz.prog (fa.at true) E21 := envOk mixed tabOk ⟨⟨enters77, ok77, fun _ => rfl⟩, ⟨enters78, ok78, fun _ => rfl⟩, ⟨enters84, ok84, fun _ => rfl⟩, trivial⟩ trivial trivial
noncomputable def s21 : FSpec := ⟨[.imm false (.int .i64), .imm false (.int .i64), .imm false (.int .i64)], [.imm false (.int .i64), .imm false .bool], fun x => S_impl_WaitOf x.1 x.2.1 x.2.2.1, true⟩
theorem ok21 : FOk Tryz.prog fa 21 s21 := fn_says env21 Tryz.func21 rfl fun x y h => ⟨0, (r21 0 x.1 x.2.1 x.2.2.1).trans h⟩
theorem enters21 : Enters Tryz.prog 21 := enters Tryz.func21 (by kernel_rfl) rfl
noncomputable def E236 : Env := { tab := tab, sig := [], clos := [], live := [(0, [0, 1, 5, 12, 13, 14, 15, 16, 17, 26, 27, 28, 29, 30, 31], [])], eqs := [], inl := [] }
set_option maxRecDepth 100000 in
theorem r236 (N : Nat) (a0 : List Int) (a1 : Int) : runF N E236 Tryz.f236 [.imm false Y1, .imm false (.int .i64)] [.imm false Y1] (a0, a1, ()) = p_spec_l1Put N a0 a1 := by kernel_rfl
theorem env236 : EnvOk Tryz.prog (fa.at true) E236 := envOk mixed tabOk trivial trivial trivial
noncomputable def s236 : FSpec := ⟨[.imm false Y1, .imm false (.int .i64)], [.imm false Y1], fun x => S_spec_l1Put x.1 x.2.1, true⟩
theorem ok236 : FOk Tryz.prog fa 236 s236 := fn_says env236 Tryz.func236 rfl fun x y h => let ⟨N, hN⟩ := lim_some h; ⟨N, (r236 N x.1 x.2.1).trans hN⟩
theorem enters236 : Enters Tryz.prog 236 := enters Tryz.func236 (by kernel_rfl) rfl
noncomputable def E275 : Env := { tab := tab, sig := [(236, s236)], clos := [], live := [], eqs := [], inl := [] }
set_option maxRecDepth 100000 in
theorem r275 (N : Nat) (a0 : T2) : runF N E275 Tryz.f275 [.imm true Y22] [.imm false Y1] (a0, ()) = p_spec_l2Touches N a0 := by kernel_rfl
theorem env275 : EnvOk Tryz.prog (fa.at true) E275 := envOk mixed tabOk ⟨⟨enters236, ok236, fun _ => rfl⟩, trivial⟩ trivial trivial
noncomputable def s275 : FSpec := ⟨[.imm true Y22], [.imm false Y1], fun x => S_spec_l2Touches x.1, true⟩
theorem ok275 : FOk Tryz.prog fa 275 s275 := fn_says env275 Tryz.func275 rfl fun x y h => ⟨0, (r275 0 x.1).trans h⟩
theorem enters275 : Enters Tryz.prog 275 := enters Tryz.func275 (by kernel_rfl) rfl
noncomputable def E276 : Env := { tab := tab, sig := [], clos := [], live := [(0, [1, 7, 8, 9], [])], eqs := [], inl := [] }
set_option maxRecDepth 100000 in
theorem r276 (N : Nat) (a0 : List Int) (a1 : Int) : runF N E276 Tryz.f276 [.imm false Y1, .imm false (.int .i64)] [.imm false .bool] (a0, a1, ()) = p_spec_l1Has N a0 a1 := by kernel_rfl
theorem env276 : EnvOk Tryz.prog (fa.at true) E276 := envOk mixed tabOk trivial trivial trivial
noncomputable def s276 : FSpec := ⟨[.imm false Y1, .imm false (.int .i64)], [.imm false .bool], fun x => S_spec_l1Has x.1 x.2.1, true⟩
theorem ok276 : FOk Tryz.prog fa 276 s276 := fn_says env276 Tryz.func276 rfl fun x y h => let ⟨N, hN⟩ := lim_some h; ⟨N, (r276 N x.1 x.2.1).trans hN⟩
theorem enters276 : Enters Tryz.prog 276 := enters Tryz.func276 (by kernel_rfl) rfl
noncomputable def E226 : Env := { tab := tab, sig := [(275, s275), (276, s276)], clos := [], live := [(0, [3, 8, 9, 10], [])], eqs := [], inl := [] }
set_option maxRecDepth 100000 in
theorem r226 (N : Nat) (a0 : T2) (a1 : T2) : runF N E226 Tryz.f226 [.imm true Y22, .imm true Y22] [.imm false .bool] (a0, a1, ()) = p_spec_l2Interfere N a0 a1 := by kernel_rfl
theorem env226 : EnvOk Tryz.prog (fa.at true) E226 := envOk mixed tabOk ⟨⟨enters275, ok275, fun _ => rfl⟩, ⟨enters276, ok276, fun _ => rfl⟩, trivial⟩ trivial trivial
noncomputable def s226 : FSpec := ⟨[.imm true Y22, .imm true Y22], [.imm false .bool], fun x => S_spec_l2Interfere x.1 x.2.1, true⟩
theorem ok226 : FOk Tryz.prog fa 226 s226 := fn_says env226 Tryz.func226 rfl fun x y h => let ⟨N, hN⟩ := lim_some h; ⟨N, (r226 N x.1 x.2.1).trans hN⟩
theorem enters226 : Enters Tryz.prog 226 := enters Tryz.func226 (by kernel_rfl) rfl
noncomputable def E165 : Env := { tab := tab, sig := [(174, s174), (226, s226), (225, s225)], clos := [], live := [(0, [2, 3, 5, 8, 9, 18, 19, 20, 36, 37, 38, 39, 40, 43, 44, 45, 46, 47, 48, 49, 50, 51], []), (2, [2, 3, 5, 8, 9, 10, 18, 19, 20, 25, 26, 27, 36, 37, 38, 39, 40, 43, 44, 45, 46, 47, 48, 49, 50, 51], [])], eqs := [], inl := [] }
set_option maxRecDepth 100000 in
theorem r165 (N : Nat) (a0 : T8) (a1 : T2) (a2 : Int) (a3 : Int) : runF N E165 Tryz.f165 [.imm true Y50, .imm true Y22, .imm false (.int .i64), .imm false (.int .i64)] [.deep true Y12] (a0, a1, a2, a3, ()) = p_spec_l4Attr N a0 a1 a2 a3 := by kernel_rfl
theorem env165 : EnvOk Tryz.prog (fa.at true) E165 := envOk mixed tabOk ⟨⟨enters174, ok174, fun _ => rfl⟩, ⟨enters226, ok226, fun _ => rfl⟩, ⟨enters225, ok225, fun _ => rfl⟩, trivial⟩ trivial trivial
noncomputable def s165 : FSpec := ⟨[.imm true Y50, .imm true Y22, .imm false (.int .i64), .imm false (.int .i64)], [.deep true Y12], fun x => S_spec_l4Attr x.1 x.2.1 x.2.2.1 x.2.2.2.1, true⟩
theorem ok165 : FOk Tryz.prog fa 165 s165 := fn_says env165 Tryz.func165 rfl fun x y h => let ⟨N, hN⟩ := lim_some h; ⟨N, (r165 N x.1 x.2.1 x.2.2.1 x.2.2.2.1).trans hN⟩
theorem enters165 : Enters Tryz.prog 165 := enters Tryz.func165 (by kernel_rfl) rfl
noncomputable def E173 : Env := { tab := tab, sig := [(143, s143), (177, s177)], clos := [], live := [(0, [2, 3, 12, 13, 14], []), (2, [2, 3, 4, 12, 13, 14, 19, 20, 21], [])], eqs := [], inl := [], app := [36] }
set_option maxRecDepth 100000 in
theorem r173 (N : Nat) (a0 : T8) : runF N E173 Tryz.f173 [.imm true Y50] [.deep true Y50] (a0, ()) = p_spec_l4Own N a0 := by kernel_rfl
theorem env173 : EnvOk Tryz.prog (fa.at true) E173 := envOk mixed tabOk ⟨⟨enters143, ok143, fun _ => rfl⟩, ⟨enters177, ok177, fun _ => rfl⟩, trivial⟩ trivial trivial
noncomputable def s173 : FSpec := ⟨[.imm true Y50], [.deep true Y50], fun x => S_spec_l4Own x.1, true⟩
theorem ok173 : FOk Tryz.prog fa 173 s173 := fn_says env173 Tryz.func173 rfl fun x y h => let ⟨N, hN⟩ := lim_some h; ⟨N, (r173 N x.1).trans hN⟩
theorem enters173 : Enters Tryz.prog 173 := enters Tryz.func173 (by kernel_rfl) rfl
end Go.Proofs.YtdcbankajhnepaaGreat.Am
