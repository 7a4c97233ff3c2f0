/- Functions, as they run on data. No condition. -/
import Derived.Test.YtdcbankajhnepaaGreatAmTab
import Derived.Test.YtdcbankajhnepaaGreatAmQ
set_option linter.unusedVariables false
set_option maxRecDepth 100000
namespace Go.Proofs.YtdcbankajhnepaaGreat.Am
open Go.AM Go.AM.P Go.Proofs Go.Shelf
noncomputable def E9 : Env := { tab := tab, sig := [], clos := [], live := [], eqs := [], inl := [] }
set_option maxRecDepth 100000 in
theorem r9 (N : Nat) (a0 : List Int) (a1 : List Int) : runF N E9 Tryz.f9 [.imm false Y0, .imm false Y0] [.imm false .bool] (a0, a1, ()) = p_laws_big N a0 a1 := by kernel_rfl
theorem env9 : EnvOk Tryz.prog (fa.at true) E9 := envOk mixed tabOk trivial trivial trivial
noncomputable def s9 : FSpec := ⟨[.imm false Y0, .imm false Y0], [.imm false .bool], fun x => S_laws_big x.1 x.2.1, true⟩
theorem ok9 : FOk Tryz.prog fa 9 s9 := fn_says env9 Tryz.func9 rfl fun x y h => ⟨0, (r9 0 x.1 x.2.1).trans h⟩
theorem enters9 : Enters Tryz.prog 9 := enters Tryz.func9 (by kernel_rfl) rfl
noncomputable def E163 : Env := { tab := tab, sig := [], clos := [], live := [], eqs := [], inl := [] }
set_option maxRecDepth 100000 in
theorem r163 (N : Nat) (a0 : T14) : runF N E163 Tryz.f163 [.ptr Y17] [.imm false (.int .i64)] (a0, ()) = p_Pspec_l1Cur_next N a0 := by kernel_rfl
theorem env163 : EnvOk Tryz.prog (fa.at true) E163 := envOk mixed tabOk trivial trivial trivial
noncomputable def s163 : FSpec := ⟨[.ptr Y17], [.imm false (.int .i64)], fun x => S_Pspec_l1Cur_next x.1, true⟩
theorem ok163 : FOk Tryz.prog fa 163 s163 := fn_says env163 Tryz.func163 rfl fun x y h => ⟨0, (r163 0 x.1).trans h⟩
theorem enters163 : Enters Tryz.prog 163 := enters Tryz.func163 (by kernel_rfl) rfl
noncomputable def E85 : Env := { tab := tab, sig := [(163, s163)], clos := [], live := [], eqs := [], inl := [] }
set_option maxRecDepth 100000 in
theorem r85 (N : Nat) (a0 : T14) (a1 : Int) : runF N E85 Tryz.f85 [.ptr Y17, .imm false (.int .i64)] [.imm false (.int .i64)] (a0, a1, ()) = p_Pspec_l1Cur_pick N a0 a1 := by kernel_rfl
theorem env85 : EnvOk Tryz.prog (fa.at true) E85 := envOk mixed tabOk ⟨⟨enters163, ok163, fun _ => rfl⟩, trivial⟩ trivial trivial
noncomputable def s85 : FSpec := ⟨[.ptr Y17, .imm false (.int .i64)], [.imm false (.int .i64)], fun x => S_Pspec_l1Cur_pick x.1 x.2.1, true⟩
theorem ok85 : FOk Tryz.prog fa 85 s85 := fn_says env85 Tryz.func85 rfl fun x y h => ⟨0, (r85 0 x.1 x.2.1).trans h⟩
theorem enters85 : Enters Tryz.prog 85 := enters Tryz.func85 (by kernel_rfl) rfl
noncomputable def E142 : Env := { tab := tab, sig := [(85, s85)], clos := [], live := [], eqs := [], inl := [] }
set_option maxRecDepth 100000 in
theorem r142 (N : Nat) (a0 : T14) (a1 : List Int) : runF N E142 Tryz.f142 [.ptr Y17, .imm false Y1] [.imm false (.int .i64)] (a0, a1, ()) = p_Pspec_l1Cur_among N a0 a1 := by kernel_rfl
theorem env142 : EnvOk Tryz.prog (fa.at true) E142 := envOk mixed tabOk ⟨⟨enters85, ok85, fun _ => rfl⟩, trivial⟩ trivial trivial
noncomputable def s142 : FSpec := ⟨[.ptr Y17, .imm false Y1], [.imm false (.int .i64)], fun x => S_Pspec_l1Cur_among x.1 x.2.1, true⟩
theorem ok142 : FOk Tryz.prog fa 142 s142 := fn_says env142 Tryz.func142 rfl fun x y h => ⟨0, (r142 0 x.1 x.2.1).trans h⟩
theorem enters142 : Enters Tryz.prog 142 := enters Tryz.func142 (by kernel_rfl) rfl
noncomputable def E143 : Env := { tab := tab, sig := [], clos := [], live := [], eqs := [], inl := [] }
set_option maxRecDepth 100000 in
theorem r143 (N : Nat) (a0 : Int) : runF N E143 Tryz.f143 [.imm false (.int .i64)] [.deep true Y50] (a0, ()) = p_spec_l4New N a0 := by kernel_rfl
theorem env143 : EnvOk Tryz.prog (fa.at true) E143 := envOk mixed tabOk trivial trivial trivial
noncomputable def s143 : FSpec := ⟨[.imm false (.int .i64)], [.deep true Y50], fun x => S_spec_l4New x.1, true⟩
theorem ok143 : FOk Tryz.prog fa 143 s143 := fn_says env143 Tryz.func143 rfl fun x y h => ⟨0, (r143 0 x.1).trans h⟩
theorem enters143 : Enters Tryz.prog 143 := enters Tryz.func143 (by kernel_rfl) rfl
noncomputable def E86 : Env := { tab := tab, sig := [(85, s85)], clos := [], live := [], eqs := [], inl := [] }
set_option maxRecDepth 100000 in
theorem r86 (N : Nat) (a0 : T14) (a1 : Int) : runF N E86 Tryz.f86 [.ptr Y17, .imm false (.int .i64)] [.imm false .bool] (a0, a1, ()) = p_Pspec_l1Cur_one N a0 a1 := by kernel_rfl
theorem env86 : EnvOk Tryz.prog (fa.at true) E86 := envOk mixed tabOk ⟨⟨enters85, ok85, fun _ => rfl⟩, trivial⟩ trivial trivial
noncomputable def s86 : FSpec := ⟨[.ptr Y17, .imm false (.int .i64)], [.imm false .bool], fun x => S_Pspec_l1Cur_one x.1 x.2.1, true⟩
theorem ok86 : FOk Tryz.prog fa 86 s86 := fn_says env86 Tryz.func86 rfl fun x y h => ⟨0, (r86 0 x.1 x.2.1).trans h⟩
theorem enters86 : Enters Tryz.prog 86 := enters Tryz.func86 (by kernel_rfl) rfl
noncomputable def E164 : Env := { tab := tab, sig := [(85, s85), (86, s86)], clos := [], live := [], eqs := [], inl := [] }
set_option maxRecDepth 100000 in
theorem r164 (N : Nat) (a0 : T14) : runF N E164 Tryz.f164 [.ptr Y17] [.imm true Y22] (a0, ()) = p_Pspec_l1Cur_cmd N a0 := by kernel_rfl
theorem env164 : EnvOk Tryz.prog (fa.at true) E164 := envOk mixed tabOk ⟨⟨enters85, ok85, fun _ => rfl⟩, ⟨enters86, ok86, fun _ => rfl⟩, trivial⟩ trivial trivial
noncomputable def s164 : FSpec := ⟨[.ptr Y17], [.imm true Y22], fun x => S_Pspec_l1Cur_cmd x.1, true⟩
theorem ok164 : FOk Tryz.prog fa 164 s164 := fn_says env164 Tryz.func164 rfl fun x y h => ⟨0, (r164 0 x.1).trans h⟩
theorem enters164 : Enters Tryz.prog 164 := enters Tryz.func164 (by kernel_rfl) rfl
noncomputable def E174 : Env := { tab := tab, sig := [], clos := [], live := [], eqs := [], inl := [] }
set_option maxRecDepth 100000 in
theorem r174 (N : Nat) (a0 : Int) : runF N E174 Tryz.f174 [.imm false (.int .i64)] [.deep true Y12] (a0, ()) = p_spec_l3None N a0 := by kernel_rfl
theorem env174 : EnvOk Tryz.prog (fa.at true) E174 := envOk mixed tabOk trivial trivial trivial
noncomputable def s174 : FSpec := ⟨[.imm false (.int .i64)], [.deep true Y12], fun x => S_spec_l3None x.1, true⟩
theorem ok174 : FOk Tryz.prog fa 174 s174 := fn_says env174 Tryz.func174 rfl fun x y h => ⟨0, (r174 0 x.1).trans h⟩
theorem enters174 : Enters Tryz.prog 174 := enters Tryz.func174 (by kernel_rfl) rfl
noncomputable def E144 : Env := { tab := tab, sig := [(142, s142), (85, s85), (164, s164), (86, s86), (174, s174)], clos := [], live := [(0, [0, 1, 4, 5, 6], [.row 3 9 3 (.int .i64) true []])], eqs := [], inl := [] }
set_option maxRecDepth 100000 in
theorem r144 (N : Nat) (a0 : T14) (a1 : Int) : runF N E144 Tryz.f144 [.ptr Y17, .imm false (.int .i64)] [.deep true Y37] (a0, a1, ()) = p_Pspec_l1Cur_row N a0 a1 := by kernel_rfl
theorem env144 : EnvOk Tryz.prog (fa.at true) E144 := envOk mixed tabOk ⟨⟨enters142, ok142, fun _ => rfl⟩, ⟨enters85, ok85, fun _ => rfl⟩, ⟨enters164, ok164, fun _ => rfl⟩, ⟨enters86, ok86, fun _ => rfl⟩, ⟨enters174, ok174, fun _ => rfl⟩, trivial⟩ trivial trivial
noncomputable def s144 : FSpec := ⟨[.ptr Y17, .imm false (.int .i64)], [.deep true Y37], fun x => S_Pspec_l1Cur_row x.1 x.2.1, true⟩
theorem ok144 : FOk Tryz.prog fa 144 s144 := fn_says env144 Tryz.func144 rfl fun x y h => let ⟨N, hN⟩ := lim_some h; ⟨N, (r144 N x.1 x.2.1).trans hN⟩
theorem enters144 : Enters Tryz.prog 144 := enters Tryz.func144 (by kernel_rfl) rfl
noncomputable def E67 : Env := { tab := tab, sig := [(142, s142), (143, s143), (85, s85), (144, s144)], clos := [], live := [(0, [0, 2, 3, 4, 14, 15], []), (2, [0, 2, 3, 4, 5, 6, 14, 15], [])], eqs := [], inl := [], app := [36, 56] }
set_option maxRecDepth 100000 in
theorem r67 (N : Nat) (a0 : T14) : runF N E67 Tryz.f67 [.ptr Y17] [.deep true Y50] (a0, ()) = p_Pspec_l1Cur_table N a0 := by kernel_rfl
theorem env67 : EnvOk Tryz.prog (fa.at true) E67 := envOk mixed tabOk ⟨⟨enters142, ok142, fun _ => rfl⟩, ⟨enters143, ok143, fun _ => rfl⟩, ⟨enters85, ok85, fun _ => rfl⟩, ⟨enters144, ok144, fun _ => rfl⟩, trivial⟩ trivial trivial
noncomputable def s67 : FSpec := ⟨[.ptr Y17], [.deep true Y50], fun x => S_Pspec_l1Cur_table x.1, true⟩
theorem ok67 : FOk Tryz.prog fa 67 s67 := fn_says env67 Tryz.func67 rfl fun x y h => let ⟨N, hN⟩ := lim_some h; ⟨N, (r67 N x.1).trans hN⟩
theorem enters67 : Enters Tryz.prog 67 := enters Tryz.func67 (by kernel_rfl) rfl
noncomputable def E89 : Env := { tab := tab, sig := [], clos := [], live := [], eqs := [], inl := [] }
set_option maxRecDepth 100000 in
theorem r89 (N : Nat) (a0 : Int) : runF N E89 Tryz.f89 [.imm false (.int .i64)] [.imm false .bool] (a0, ()) = p_spec_IsGroup N a0 := by kernel_rfl
theorem env89 : EnvOk Tryz.prog (fa.at true) E89 := envOk mixed tabOk trivial trivial trivial
noncomputable def s89 : FSpec := ⟨[.imm false (.int .i64)], [.imm false .bool], fun x => S_spec_IsGroup x.1, true⟩
theorem ok89 : FOk Tryz.prog fa 89 s89 := fn_says env89 Tryz.func89 rfl fun x y h => ⟨0, (r89 0 x.1).trans h⟩
theorem enters89 : Enters Tryz.prog 89 := enters Tryz.func89 (by kernel_rfl) rfl
noncomputable def E90 : Env := { tab := tab, sig := [], clos := [], live := [], eqs := [], inl := [] }
set_option maxRecDepth 100000 in
theorem r90 (N : Nat) (a0 : Int) (a1 : Int) (a2 : Int) : runF N E90 Tryz.f90 [.imm false (.int .i64), .imm false (.int .i64), .imm false (.int .i64)] [.imm false .bool] (a0, a1, a2, ()) = p_spec_l1In N a0 a1 a2 := by kernel_rfl
theorem env90 : EnvOk Tryz.prog (fa.at true) E90 := envOk mixed tabOk trivial trivial trivial
noncomputable def s90 : FSpec := ⟨[.imm false (.int .i64), .imm false (.int .i64), .imm false (.int .i64)], [.imm false .bool], fun x => S_spec_l1In x.1 x.2.1 x.2.2.1, true⟩
theorem ok90 : FOk Tryz.prog fa 90 s90 := fn_says env90 Tryz.func90 rfl fun x y h => ⟨0, (r90 0 x.1 x.2.1 x.2.2.1).trans h⟩
theorem enters90 : Enters Tryz.prog 90 := enters Tryz.func90 (by kernel_rfl) rfl
noncomputable def E188 : Env := { tab := tab, sig := [], clos := [], live := [(0, [0, 1, 12, 13], [])], eqs := [], inl := [] }
set_option maxRecDepth 100000 in
theorem r188 (N : Nat) (a0 : List Int) (a1 : List Int) : runF N E188 Tryz.f188 [.imm false Y1, .imm false Y1] [.imm false .bool] (a0, a1, ()) = p_spec_l1Same N a0 a1 := by kernel_rfl
theorem env188 : EnvOk Tryz.prog (fa.at true) E188 := envOk mixed tabOk trivial trivial trivial
noncomputable def s188 : FSpec := ⟨[.imm false Y1, .imm false Y1], [.imm false .bool], fun x => S_spec_l1Same x.1 x.2.1, true⟩
theorem ok188 : FOk Tryz.prog fa 188 s188 := fn_says env188 Tryz.func188 rfl fun x y h => let ⟨N, hN⟩ := lim_some h; ⟨N, (r188 N x.1 x.2.1).trans hN⟩
theorem enters188 : Enters Tryz.prog 188 := enters Tryz.func188 (by kernel_rfl) rfl
noncomputable def E219 : Env := { tab := tab, sig := [(188, s188)], clos := [], live := [], eqs := [], inl := [] }
set_option maxRecDepth 100000 in
theorem r219 (N : Nat) (a0 : T6) (a1 : T6) : runF N E219 Tryz.f219 [.imm true Y12, .imm true Y12] [.imm false .bool] (a0, a1, ()) = p_spec_SameAttr N a0 a1 := by kernel_rfl
theorem env219 : EnvOk Tryz.prog (fa.at true) E219 := envOk mixed tabOk ⟨⟨enters188, ok188, fun _ => rfl⟩, trivial⟩ trivial trivial
noncomputable def s219 : FSpec := ⟨[.imm true Y12, .imm true Y12], [.imm false .bool], fun x => S_spec_SameAttr x.1 x.2.1, true⟩
theorem ok219 : FOk Tryz.prog fa 219 s219 := fn_says env219 Tryz.func219 rfl fun x y h => ⟨0, (r219 0 x.1 x.2.1).trans h⟩
theorem enters219 : Enters Tryz.prog 219 := enters Tryz.func219 (by kernel_rfl) rfl
noncomputable def E298 : Env := { tab := tab, sig := [(90, s90)], clos := [], live := [], eqs := [], inl := [] }
set_option maxRecDepth 100000 in
theorem r298 (N : Nat) (a0 : Int) : runF N E298 Tryz.f298 [.imm false (.int .i64)] [.imm false .bool] (a0, ()) = p_spec_l2Account N a0 := by kernel_rfl
theorem env298 : EnvOk Tryz.prog (fa.at true) E298 := envOk mixed tabOk ⟨⟨enters90, ok90, fun _ => rfl⟩, trivial⟩ trivial trivial
noncomputable def s298 : FSpec := ⟨[.imm false (.int .i64)], [.imm false .bool], fun x => S_spec_l2Account x.1, true⟩
theorem ok298 : FOk Tryz.prog fa 298 s298 := fn_says env298 Tryz.func298 rfl fun x y h => ⟨0, (r298 0 x.1).trans h⟩
theorem enters298 : Enters Tryz.prog 298 := enters Tryz.func298 (by kernel_rfl) rfl
noncomputable def E273 : Env := { tab := tab, sig := [(298, s298), (90, s90)], clos := [], live := [], eqs := [], inl := [] }
set_option maxRecDepth 100000 in
theorem r273 (N : Nat) (a0 : T2) : runF N E273 Tryz.f273 [.imm true Y22] [.imm false (.int .i64)] (a0, ()) = p_spec_l2Code N a0 := by kernel_rfl
theorem env273 : EnvOk Tryz.prog (fa.at true) E273 := envOk mixed tabOk ⟨⟨enters298, ok298, fun _ => rfl⟩, ⟨enters90, ok90, fun _ => rfl⟩, trivial⟩ trivial trivial
noncomputable def s273 : FSpec := ⟨[.imm true Y22], [.imm false (.int .i64)], fun x => S_spec_l2Code x.1, true⟩
theorem ok273 : FOk Tryz.prog fa 273 s273 := fn_says env273 Tryz.func273 rfl fun x y h => ⟨0, (r273 0 x.1).trans h⟩
theorem enters273 : Enters Tryz.prog 273 := enters Tryz.func273 (by kernel_rfl) rfl
noncomputable def E220 : Env := { tab := tab, sig := [(273, s273)], clos := [], live := [], eqs := [(137, [false, false, false, false, false])], inl := [] }
set_option maxRecDepth 100000 in
theorem r220 (N : Nat) (a0 : T2) : runF N E220 Tryz.f220 [.imm true Y22] [.imm false .bool] (a0, ()) = p_spec_GoodCmd N a0 := by kernel_rfl
theorem env220 : EnvOk Tryz.prog (fa.at true) E220 := envOk mixed tabOk ⟨⟨enters273, ok273, fun _ => rfl⟩, trivial⟩ trivial ⟨eq137, trivial⟩
noncomputable def s220 : FSpec := ⟨[.imm true Y22], [.imm false .bool], fun x => S_spec_GoodCmd x.1, true⟩
theorem ok220 : FOk Tryz.prog fa 220 s220 := fn_says env220 Tryz.func220 rfl fun x y h => ⟨0, (r220 0 x.1).trans h⟩
theorem enters220 : Enters Tryz.prog 220 := enters Tryz.func220 (by kernel_rfl) rfl
noncomputable def E154 : Env := { tab := tab, sig := [(90, s90)], clos := [], live := [(0, [1, 2, 9, 10, 11], [])], eqs := [], inl := [] }
set_option maxRecDepth 100000 in
theorem r154 (N : Nat) (a0 : List Int) (a1 : Int) (a2 : Int) : runF N E154 Tryz.f154 [.imm false Y1, .imm false (.int .i64), .imm false (.int .i64)] [.imm false .bool] (a0, a1, a2, ()) = p_spec_l1All N a0 a1 a2 := by kernel_rfl
theorem env154 : EnvOk Tryz.prog (fa.at true) E154 := envOk mixed tabOk ⟨⟨enters90, ok90, fun _ => rfl⟩, trivial⟩ trivial trivial
noncomputable def s154 : FSpec := ⟨[.imm false Y1, .imm false (.int .i64), .imm false (.int .i64)], [.imm false .bool], fun x => S_spec_l1All x.1 x.2.1 x.2.2.1, true⟩
theorem ok154 : FOk Tryz.prog fa 154 s154 := fn_says env154 Tryz.func154 rfl fun x y h => let ⟨N, hN⟩ := lim_some h; ⟨N, (r154 N x.1 x.2.1 x.2.2.1).trans hN⟩
theorem enters154 : Enters Tryz.prog 154 := enters Tryz.func154 (by kernel_rfl) rfl
noncomputable def E221 : Env := { tab := tab, sig := [(90, s90), (154, s154)], clos := [], live := [], eqs := [], inl := [] }
set_option maxRecDepth 100000 in
theorem r221 (N : Nat) (a0 : Int) (a1 : T6) : runF N E221 Tryz.f221 [.imm false (.int .i64), .imm true Y12] [.imm false .bool] (a0, a1, ()) = p_spec_l3Attr N a0 a1 := by kernel_rfl
theorem env221 : EnvOk Tryz.prog (fa.at true) E221 := envOk mixed tabOk ⟨⟨enters90, ok90, fun _ => rfl⟩, ⟨enters154, ok154, fun _ => rfl⟩, trivial⟩ trivial trivial
noncomputable def s221 : FSpec := ⟨[.imm false (.int .i64), .imm true Y12], [.imm false .bool], fun x => S_spec_l3Attr x.1 x.2.1, true⟩
theorem ok221 : FOk Tryz.prog fa 221 s221 := fn_says env221 Tryz.func221 rfl fun x y h => ⟨0, (r221 0 x.1 x.2.1).trans h⟩
theorem enters221 : Enters Tryz.prog 221 := enters Tryz.func221 (by kernel_rfl) rfl
noncomputable def E155 : Env := { tab := tab, sig := [(90, s90), (174, s174), (219, s219), (220, s220), (221, s221)], clos := [], live := [], eqs := [(137, [false, false, false, false, false])], inl := [] }
set_option maxRecDepth 100000 in
theorem r155 (N : Nat) (a0 : Int) (a1 : T7) : runF N E155 Tryz.f155 [.imm false (.int .i64), .imm true Y37] [.imm false .bool] (a0, a1, ()) = p_spec_l4Row N a0 a1 := by kernel_rfl
theorem env155 : EnvOk Tryz.prog (fa.at true) E155 := envOk mixed tabOk ⟨⟨enters90, ok90, fun _ => rfl⟩, ⟨enters174, ok174, fun _ => rfl⟩, ⟨enters219, ok219, fun _ => rfl⟩, ⟨enters220, ok220, fun _ => rfl⟩, ⟨enters221, ok221, fun _ => rfl⟩, trivial⟩ trivial ⟨eq137, trivial⟩
noncomputable def s155 : FSpec := ⟨[.imm false (.int .i64), .imm true Y37], [.imm false .bool], fun x => S_spec_l4Row x.1 x.2.1, true⟩
theorem ok155 : FOk Tryz.prog fa 155 s155 := fn_says env155 Tryz.func155 rfl fun x y h => ⟨0, (r155 0 x.1 x.2.1).trans h⟩
theorem enters155 : Enters Tryz.prog 155 := enters Tryz.func155 (by kernel_rfl) rfl
noncomputable def E72 : Env := { tab := tab, sig := [(89, s89), (155, s155)], clos := [], live := [(0, [1, 20, 21, 22], []), (2, [1, 4, 20, 21, 22, 26, 27, 28], [])], eqs := [], inl := [] }
set_option maxRecDepth 100000 in
theorem r72 (N : Nat) (a0 : T8) : runF N E72 Tryz.f72 [.imm true Y50] [.imm false .bool] (a0, ()) = p_spec_GoodTable N a0 := by kernel_rfl
theorem env72 : EnvOk Tryz.prog (fa.at true) E72 := envOk mixed tabOk ⟨⟨enters89, ok89, fun _ => rfl⟩, ⟨enters155, ok155, fun _ => rfl⟩, trivial⟩ trivial trivial
noncomputable def s72 : FSpec := ⟨[.imm true Y50], [.imm false .bool], fun x => S_spec_GoodTable x.1, true⟩
theorem ok72 : FOk Tryz.prog fa 72 s72 := fn_says env72 Tryz.func72 rfl fun x y h => let ⟨N, hN⟩ := lim_some h; ⟨N, (r72 N x.1).trans hN⟩
theorem enters72 : Enters Tryz.prog 72 := enters Tryz.func72 (by kernel_rfl) rfl
noncomputable def E225 : Env := { tab := tab, sig := [], clos := [], live := [], eqs := [], inl := [] }
set_option maxRecDepth 100000 in
theorem r225 (N : Nat) (a0 : Int) (a1 : Int) : runF N E225 Tryz.f225 [.imm false (.int .i64), .imm false (.int .i64)] [.imm false (.int .i64)] (a0, a1, ()) = p_spec_l1Most N a0 a1 := by kernel_rfl
theorem env225 : EnvOk Tryz.prog (fa.at true) E225 := envOk mixed tabOk trivial trivial trivial
noncomputable def s225 : FSpec := ⟨[.imm false (.int .i64), .imm false (.int .i64)], [.imm false (.int .i64)], fun x => S_spec_l1Most x.1 x.2.1, true⟩
theorem ok225 : FOk Tryz.prog fa 225 s225 := fn_says env225 Tryz.func225 rfl fun x y h => ⟨0, (r225 0 x.1 x.2.1).trans h⟩
theorem enters225 : Enters Tryz.prog 225 := enters Tryz.func225 (by kernel_rfl) rfl
noncomputable def E115 : Env := { tab := tab, sig := [], clos := [], live := [], eqs := [], inl := [] }
set_option maxRecDepth 100000 in
theorem r115 (N : Nat) (a0 : List Int) : runF N E115 Tryz.f115 [.imm false Y1] [.deep false Y1] (a0, ()) = p_spec_l1Own N a0 := by kernel_rfl
theorem env115 : EnvOk Tryz.prog (fa.at true) E115 := envOk mixed tabOk trivial trivial trivial
noncomputable def s115 : FSpec := ⟨[.imm false Y1], [.deep false Y1], fun x => S_spec_l1Own x.1, true⟩
theorem ok115 : FOk Tryz.prog fa 115 s115 := fn_says env115 Tryz.func115 rfl fun x y h => ⟨0, (r115 0 x.1).trans h⟩
theorem enters115 : Enters Tryz.prog 115 := enters Tryz.func115 (by kernel_rfl) rfl
noncomputable def E239 : Env := { tab := tab, sig := [(115, s115)], clos := [], live := [], eqs := [], inl := [] }
set_option maxRecDepth 100000 in
theorem r239 (N : Nat) (a0 : T6) : runF N E239 Tryz.f239 [.imm true Y12] [.deep true Y12] (a0, ()) = p_spec_l4OwnAttr N a0 := by kernel_rfl
theorem env239 : EnvOk Tryz.prog (fa.at true) E239 := envOk mixed tabOk ⟨⟨enters115, ok115, fun _ => rfl⟩, trivial⟩ trivial trivial
noncomputable def s239 : FSpec := ⟨[.imm true Y12], [.deep true Y12], fun x => S_spec_l4OwnAttr x.1, true⟩
theorem ok239 : FOk Tryz.prog fa 239 s239 := fn_says env239 Tryz.func239 rfl fun x y h => ⟨0, (r239 0 x.1).trans h⟩
theorem enters239 : Enters Tryz.prog 239 := enters Tryz.func239 (by kernel_rfl) rfl
noncomputable def E177 : Env := { tab := tab, sig := [(239, s239)], clos := [], live := [], eqs := [], inl := [] }
set_option maxRecDepth 100000 in
theorem r177 (N : Nat) (a0 : T7) : runF N E177 Tryz.f177 [.imm true Y37] [.deep true Y37] (a0, ()) = p_spec_l4OwnRow N a0 := by kernel_rfl
theorem env177 : EnvOk Tryz.prog (fa.at true) E177 := envOk mixed tabOk ⟨⟨enters239, ok239, fun _ => rfl⟩, trivial⟩ trivial trivial
noncomputable def s177 : FSpec := ⟨[.imm true Y37], [.deep true Y37], fun x => S_spec_l4OwnRow x.1, true⟩
theorem ok177 : FOk Tryz.prog fa 177 s177 := fn_says env177 Tryz.func177 rfl fun x y h => ⟨0, (r177 0 x.1).trans h⟩
theorem enters177 : Enters Tryz.prog 177 := enters Tryz.func177 (by kernel_rfl) rfl
noncomputable def E104 : Env := { tab := tab, sig := [(174, s174), (177, s177)], clos := [], live := [], eqs := [], inl := [] }
set_option maxRecDepth 100000 in
theorem r104 (N : Nat) (a0 : T8) (a1 : Int) (a2 : Int) : runF N E104 Tryz.f104 [.imm true Y50, .imm false (.int .i64), .imm false (.int .i64)] [.deep true Y37] (a0, a1, a2, ()) = p_spec_l4At N a0 a1 a2 := by kernel_rfl
theorem env104 : EnvOk Tryz.prog (fa.at true) E104 := envOk mixed tabOk ⟨⟨enters174, ok174, fun _ => rfl⟩, ⟨enters177, ok177, fun _ => rfl⟩, trivial⟩ trivial trivial
noncomputable def s104 : FSpec := ⟨[.imm true Y50, .imm false (.int .i64), .imm false (.int .i64)], [.deep true Y37], fun x => S_spec_l4At x.1 x.2.1 x.2.2.1, true⟩
theorem ok104 : FOk Tryz.prog fa 104 s104 := fn_says env104 Tryz.func104 rfl fun x y h => ⟨0, (r104 0 x.1 x.2.1 x.2.2.1).trans h⟩
theorem enters104 : Enters Tryz.prog 104 := enters Tryz.func104 (by kernel_rfl) rfl
noncomputable def E159 : Env := { tab := tab, sig := [(225, s225), (104, s104)], clos := [], live := [(0, [1, 2, 5, 6, 27, 28, 29, 109, 110, 111, 112, 113, 114, 115, 116, 117, 118, 119], []), (2, [1, 2, 5, 6, 27, 28, 29, 40, 41, 42, 109, 110, 111, 112, 113, 114, 115, 116, 117, 118, 119], []), (4, [1, 2, 5, 6, 27, 28, 29, 40, 41, 42, 57, 58, 59, 109, 110, 111, 112, 113, 114, 115, 116, 117, 118, 119], []), (6, [1, 2, 5, 6, 13, 27, 28, 29, 40, 41, 42, 57, 58, 59, 65, 66, 67, 109, 110, 111, 112, 113, 114, 115, 116, 117, 118, 119], []), (8, [1, 2, 5, 6, 16, 17, 109, 110, 111, 112, 113, 114, 115, 116, 117, 118, 119], []), (10, [1, 2, 5, 6, 16, 17, 18, 109, 110, 111, 112, 113, 114, 115, 116, 117, 118, 119], []), (12, [1, 2, 5, 6, 16, 17, 18, 19, 101, 102, 103, 109, 110, 111, 112, 113, 114, 115, 116, 117, 118, 119], [])], eqs := [], inl := [] }
set_option maxRecDepth 100000 in
theorem r159 (N : Nat) (a0 : T13) (a1 : List Int) : runF N E159 Tryz.f159 [.imm true Y87, .imm false Y1] [.deep false Y5] (a0, a1, ()) = p_spec_l10Open N a0 a1 := by kernel_rfl
theorem env159 : EnvOk Tryz.prog (fa.at true) E159 := envOk mixed tabOk ⟨⟨enters225, ok225, fun _ => rfl⟩, ⟨enters104, ok104, fun _ => rfl⟩, trivial⟩ trivial trivial
noncomputable def s159 : FSpec := ⟨[.imm true Y87, .imm false Y1], [.deep false Y5], fun x => S_spec_l10Open x.1 x.2.1, true⟩
theorem ok159 : FOk Tryz.prog fa 159 s159 := fn_says env159 Tryz.func159 rfl fun x y h => let ⟨N, hN⟩ := lim_some h; ⟨N, (r159 N x.1 x.2.1).trans hN⟩
theorem enters159 : Enters Tryz.prog 159 := enters Tryz.func159 (by kernel_rfl) rfl
noncomputable def E75 : Env := { tab := tab, sig := [(159, s159)], clos := [], live := [(0, [1, 3, 4], [.row 2 0 168 Y83 false []])], eqs := [], inl := [] }
set_option maxRecDepth 100000 in
theorem r75 (N : Nat) (a0 : T8) : runF N E75 Tryz.f75 [.imm true Y50] [.deep false Y5] (a0, ()) = p_spec_l20Open N a0 := by kernel_rfl
theorem env75 : EnvOk Tryz.prog (fa.at true) E75 := envOk mixed tabOk ⟨⟨enters159, ok159, fun _ => rfl⟩, trivial⟩ trivial trivial
noncomputable def s75 : FSpec := ⟨[.imm true Y50], [.deep false Y5], fun x => S_spec_l20Open x.1, true⟩
theorem ok75 : FOk Tryz.prog fa 75 s75 := fn_says env75 Tryz.func75 rfl fun x y h => let ⟨N, hN⟩ := lim_some h; ⟨N, (r75 N x.1).trans hN⟩
theorem enters75 : Enters Tryz.prog 75 := enters Tryz.func75 (by kernel_rfl) rfl
noncomputable def E116 : Env := { tab := tab, sig := [(188, s188)], clos := [], live := [(0, [1, 7, 8, 9], [])], eqs := [], inl := [] }
set_option maxRecDepth 100000 in
theorem r116 (N : Nat) (a0 : List (List Int)) (a1 : List Int) : runF N E116 Tryz.f116 [.imm false Y5, .imm false Y1] [.imm false (.int .i64)] (a0, a1, ()) = p_spec_l6Find N a0 a1 := by kernel_rfl
theorem env116 : EnvOk Tryz.prog (fa.at true) E116 := envOk mixed tabOk ⟨⟨enters188, ok188, fun _ => rfl⟩, trivial⟩ trivial trivial
noncomputable def s116 : FSpec := ⟨[.imm false Y5, .imm false Y1], [.imm false (.int .i64)], fun x => S_spec_l6Find x.1 x.2.1, true⟩
theorem ok116 : FOk Tryz.prog fa 116 s116 := fn_says env116 Tryz.func116 rfl fun x y h => let ⟨N, hN⟩ := lim_some h; ⟨N, (r116 N x.1 x.2.1).trans hN⟩
theorem enters116 : Enters Tryz.prog 116 := enters Tryz.func116 (by kernel_rfl) rfl
noncomputable def E130 : Env := { tab := tab, sig := [], clos := [], live := [], eqs := [], inl := [] }
set_option maxRecDepth 100000 in
theorem r130 (N : Nat) (a0 : Int) (a1 : Int) : runF N E130 Tryz.f130 [.imm false (.int .i64), .imm false (.int .i64)] [.imm false (.int .i64)] (a0, a1, ()) = p_spec_l1Least N a0 a1 := by kernel_rfl
theorem env130 : EnvOk Tryz.prog (fa.at true) E130 := envOk mixed tabOk trivial trivial trivial
noncomputable def s130 : FSpec := ⟨[.imm false (.int .i64), .imm false (.int .i64)], [.imm false (.int .i64)], fun x => S_spec_l1Least x.1 x.2.1, true⟩
theorem ok130 : FOk Tryz.prog fa 130 s130 := fn_says env130 Tryz.func130 rfl fun x y h => ⟨0, (r130 0 x.1 x.2.1).trans h⟩
theorem enters130 : Enters Tryz.prog 130 := enters Tryz.func130 (by kernel_rfl) rfl
noncomputable def E91 : Env := { tab := tab, sig := [], clos := [], live := [], eqs := [], inl := [] }
set_option maxRecDepth 100000 in
theorem r91 (N : Nat) (a0 : Int) (a1 : Int) (a2 : Int) : runF N E91 Tryz.f91 [.imm false (.int .i64), .imm false (.int .i64), .imm false (.int .i64)] [.imm false (.int .i64)] (a0, a1, a2, ()) = p_spec_l20Wait N a0 a1 a2 := by kernel_rfl
theorem env91 : EnvOk Tryz.prog (fa.at true) E91 := envOk mixed tabOk trivial trivial trivial
noncomputable def s91 : FSpec := ⟨[.imm false (.int .i64), .imm false (.int .i64), .imm false (.int .i64)], [.imm false (.int .i64)], fun x => S_spec_l20Wait x.1 x.2.1 x.2.2.1, true⟩
theorem ok91 : FOk Tryz.prog fa 91 s91 := fn_says env91 Tryz.func91 rfl fun x y h => ⟨0, (r91 0 x.1 x.2.1 x.2.2.1).trans h⟩
theorem enters91 : Enters Tryz.prog 91 := enters Tryz.func91 (by kernel_rfl) rfl
noncomputable def E73 : Env := { tab := tab, sig := [(75, s75), (116, s116), (130, s130), (91, s91)], clos := [], live := [(0, [2, 4, 6, 7, 18, 19, 20, 58, 59, 60, 61, 62, 63, 64, 65, 66, 67, 68], [.row 4 2 25 Y1 true [], .row 4 3 3 (.int .i64) true []])], eqs := [], inl := [] }
set_option maxRecDepth 100000 in
theorem r73 (N : Nat) (a0 : T0) (a1 : T8) : runF N E73 Tryz.f73 [.imm true Y23, .imm true Y50] [.deep true Y23, .deep false Y5] (a0, a1, ()) = p_spec_l20Tick N a0 a1 := by kernel_rfl
theorem env73 : EnvOk Tryz.prog (fa.at true) E73 := envOk mixed tabOk ⟨⟨enters75, ok75, fun _ => rfl⟩, ⟨enters116, ok116, fun _ => rfl⟩, ⟨enters130, ok130, fun _ => rfl⟩, ⟨enters91, ok91, fun _ => rfl⟩, trivial⟩ trivial trivial
noncomputable def s73 : FSpec := ⟨[.imm true Y23, .imm true Y50], [.deep true Y23, .deep false Y5], fun x => S_spec_l20Tick x.1 x.2.1, true⟩
theorem ok73 : FOk Tryz.prog fa 73 s73 := fn_says env73 Tryz.func73 rfl fun x y h => let ⟨N, hN⟩ := lim_some h; ⟨N, (r73 N x.1 x.2.1).trans hN⟩
theorem enters73 : Enters Tryz.prog 73 := enters Tryz.func73 (by kernel_rfl) rfl
noncomputable def E68 : Env := { tab := tab, sig := [(85, s85), (72, s72), (73, s73)], clos := [], live := [(0, [0, 3, 4, 5, 6, 19, 20], [.row 3 2 25 Y1 true [], .take (.b 3 2) 4, .row 3 3 3 (.int .i64) true [], .take (.b 3 3) 5])], eqs := [], inl := [], res := true }
set_option maxRecDepth 100000 in
theorem r68 (N : Nat) (a0 : T14) (a1 : T8) : runF N E68 Tryz.f68 [.ptr Y17, .imm true Y50] [.deep true Y23] (a0, a1, ()) = p_Pspec_l1Cur_watch N a0 a1 := by kernel_rfl
theorem env68 : EnvOk Tryz.prog (fa.at true) E68 := envOk mixed tabOk ⟨⟨enters85, ok85, fun _ => rfl⟩, ⟨enters72, ok72, fun _ => rfl⟩, ⟨enters73, ok73, fun _ => rfl⟩, trivial⟩ trivial trivial
noncomputable def s68 : FSpec := ⟨[.ptr Y17, .imm true Y50], [.deep true Y23], fun x => S_Pspec_l1Cur_watch x.1 x.2.1, true⟩
theorem ok68 : FOk Tryz.prog fa 68 s68 := fn_says env68 Tryz.func68 rfl fun x y h => let ⟨N, hN⟩ := lim_some h; ⟨N, (r68 N x.1 x.2.1).trans hN⟩
theorem enters68 : Enters Tryz.prog 68 := enters Tryz.func68 (by kernel_rfl) rfl
noncomputable def E10 : Env := { tab := tab, sig := [(67, s67), (68, s68)], clos := [], live := [], eqs := [], inl := [] }
set_option maxRecDepth 100000 in
theorem r10 (N : Nat) (a0 : List Int) : runF N E10 Tryz.f10 [.imm false Y0] [.deep true Y23, .deep true Y50] (a0, ()) = p_spec_DrawTickWatch N a0 := by kernel_rfl
theorem env10 : EnvOk Tryz.prog (fa.at true) E10 := envOk mixed tabOk ⟨⟨enters67, ok67, fun _ => rfl⟩, ⟨enters68, ok68, fun _ => rfl⟩, trivial⟩ trivial trivial
noncomputable def s10 : FSpec := ⟨[.imm false Y0], [.deep true Y23, .deep true Y50], fun x => S_spec_DrawTickWatch x.1, true⟩
theorem ok10 : FOk Tryz.prog fa 10 s10 := fn_says env10 Tryz.func10 rfl fun x y h => ⟨0, (r10 0 x.1).trans h⟩
theorem enters10 : Enters Tryz.prog 10 := enters Tryz.func10 (by kernel_rfl) rfl
noncomputable def E77 : Env := { tab := tab, sig := [], clos := [], live := [], eqs := [], inl := [] }
set_option maxRecDepth 100000 in
theorem r77 (N : Nat) (a0 : Int) : runF N E77 Tryz.f77 [.imm false (.int .i64)] [.imm false .bool] (a0, ()) = p_impl_IsGroup N a0 := by kernel_rfl
theorem env77 : EnvOk Tryz.prog (fa.at true) E77 := envOk mixed tabOk trivial trivial trivial
noncomputable def s77 : FSpec := ⟨[.imm false (.int .i64)], [.imm false .bool], fun x => S_impl_IsGroup x.1, true⟩
theorem ok77 : FOk Tryz.prog fa 77 s77 := fn_says env77 Tryz.func77 rfl fun x y h => ⟨0, (r77 0 x.1).trans h⟩
theorem enters77 : Enters Tryz.prog 77 := enters Tryz.func77 (by kernel_rfl) rfl
noncomputable def E78 : Env := { tab := tab, sig := [], clos := [], live := [], eqs := [], inl := [] }
set_option maxRecDepth 100000 in
theorem r78 (N : Nat) (a0 : Int) (a1 : Int) (a2 : Int) : runF N E78 Tryz.f78 [.imm false (.int .i64), .imm false (.int .i64), .imm false (.int .i64)] [.imm false .bool] (a0, a1, a2, ()) = p_impl_within N a0 a1 a2 := by kernel_rfl
theorem env78 : EnvOk Tryz.prog (fa.at true) E78 := envOk mixed tabOk trivial trivial trivial
noncomputable def s78 : FSpec := ⟨[.imm false (.int .i64), .imm false (.int .i64), .imm false (.int .i64)], [.imm false .bool], fun x => S_impl_within x.1 x.2.1 x.2.2.1, true⟩
theorem ok78 : FOk Tryz.prog fa 78 s78 := fn_says env78 Tryz.func78 rfl fun x y h => ⟨0, (r78 0 x.1 x.2.1 x.2.2.1).trans h⟩
theorem enters78 : Enters Tryz.prog 78 := enters Tryz.func78 (by kernel_rfl) rfl
noncomputable def E160 : Env := { tab := tab, sig := [(77, s77), (78, s78)], clos := [], live := [], eqs := [], inl := [] }
set_option maxRecDepth 100000 in
theorem r160 (N : Nat) (a0 : Int) (a1 : Int) (a2 : Int) : runF N E160 Tryz.f160 [.imm false (.int .i64), .imm false (.int .i64), .imm false (.int .i64)] [.imm false .bool] (a0, a1, a2, ()) = p_impl_isInstance N a0 a1 a2 := by kernel_rfl
theorem env160 : EnvOk Tryz.prog (fa.at true) E160 := envOk mixed tabOk ⟨⟨enters77, ok77, fun _ => rfl⟩, ⟨enters78, ok78, fun _ => rfl⟩, trivial⟩ trivial trivial
noncomputable def s160 : FSpec := ⟨[.imm false (.int .i64), .imm false (.int .i64), .imm false (.int .i64)], [.imm false .bool], fun x => S_impl_isInstance x.1 x.2.1 x.2.2.1, true⟩
theorem ok160 : FOk Tryz.prog fa 160 s160 := fn_says env160 Tryz.func160 rfl fun x y h => ⟨0, (r160 0 x.1 x.2.1 x.2.2.1).trans h⟩
theorem enters160 : Enters Tryz.prog 160 := enters Tryz.func160 (by kernel_rfl) rfl
noncomputable def E253 : Env := { tab := tab, sig := [], clos := [], live := [], eqs := [], inl := [] }
set_option maxRecDepth 100000 in
theorem r253 (N : Nat) (a0 : Int) : runF N E253 Tryz.f253 [.imm false (.int .i64)] [.imm false .bool] (a0, ()) = p_cmp_isNaN_int N a0 := by kernel_rfl
theorem env253 : EnvOk Tryz.prog (fa.at true) E253 := envOk mixed tabOk trivial trivial trivial
noncomputable def s253 : FSpec := ⟨[.imm false (.int .i64)], [.imm false .bool], fun x => S_cmp_isNaN_int x.1, true⟩
theorem ok253 : FOk Tryz.prog fa 253 s253 := fn_says env253 Tryz.func253 rfl fun x y h => ⟨0, (r253 0 x.1).trans h⟩
theorem enters253 : Enters Tryz.prog 253 := enters Tryz.func253 (by kernel_rfl) rfl
noncomputable def E186 : Env := { tab := tab, sig := [(253, s253)], clos := [], live := [], eqs := [], inl := [] }
set_option maxRecDepth 100000 in
theorem r186 (N : Nat) (a0 : Int) (a1 : Int) : runF N E186 Tryz.f186 [.imm false (.int .i64), .imm false (.int .i64)] [.imm false (.int .i64)] (a0, a1, ()) = p_cmp_Compare_int N a0 a1 := by kernel_rfl
theorem env186 : EnvOk Tryz.prog (fa.at true) E186 := envOk mixed tabOk ⟨⟨enters253, ok253, fun _ => rfl⟩, trivial⟩ trivial trivial
noncomputable def s186 : FSpec := ⟨[.imm false (.int .i64), .imm false (.int .i64)], [.imm false (.int .i64)], fun x => S_cmp_Compare_int x.1 x.2.1, true⟩
theorem ok186 : FOk Tryz.prog fa 186 s186 := fn_says env186 Tryz.func186 rfl fun x y h => ⟨0, (r186 0 x.1 x.2.1).trans h⟩
theorem enters186 : Enters Tryz.prog 186 := enters Tryz.func186 (by kernel_rfl) rfl
noncomputable def E111 : Env := { tab := tab, sig := [(186, s186)], clos := [], live := [(0, [0, 1, 9, 10, 11], [])], eqs := [], inl := [] }
set_option maxRecDepth 100000 in
theorem r111 (N : Nat) (a0 : List Int) (a1 : List Int) : runF N E111 Tryz.f111 [.imm false Y1, .imm false Y1] [.imm false (.int .i64)] (a0, a1, ()) = p_Compare_Lint_int N a0 a1 := by kernel_rfl
theorem env111 : EnvOk Tryz.prog (fa.at true) E111 := envOk mixed tabOk ⟨⟨enters186, ok186, fun _ => rfl⟩, trivial⟩ trivial trivial
noncomputable def s111 : FSpec := ⟨[.imm false Y1, .imm false Y1], [.imm false (.int .i64)], fun x => S_Compare_Lint_int x.1 x.2.1, true⟩
theorem ok111 : FOk Tryz.prog fa 111 s111 := fn_says env111 Tryz.func111 rfl fun x y h => let ⟨N, hN⟩ := lim_some h; ⟨N, (r111 N x.1 x.2.1).trans hN⟩
theorem enters111 : Enters Tryz.prog 111 := enters Tryz.func111 (by kernel_rfl) rfl
noncomputable def E79 : Env := { tab := tab, sig := [(160, s160), (111, s111)], clos := [], live := [(0, [0, 1, 7, 8, 9, 18, 19, 20, 21, 22, 23, 24, 25, 26, 29, 30, 31, 32, 33, 34, 35, 36, 37, 38, 39, 40], [])], eqs := [], inl := [] }
set_option maxRecDepth 100000 in
theorem r79 (N : Nat) (a0 : Int) (a1 : List (List Int)) : runF N E79 Tryz.f79 [.imm false (.int .i64), .imm false Y5] [.imm false .bool] (a0, a1, ()) = p_impl_riseInstances N a0 a1 := by kernel_rfl
theorem env79 : EnvOk Tryz.prog (fa.at true) E79 := envOk mixed tabOk ⟨⟨enters160, ok160, fun _ => rfl⟩, ⟨enters111, ok111, fun _ => rfl⟩, trivial⟩ trivial trivial
noncomputable def s79 : FSpec := ⟨[.imm false (.int .i64), .imm false Y5], [.imm false .bool], fun x => S_impl_riseInstances x.1 x.2.1, true⟩
theorem ok79 : FOk Tryz.prog fa 79 s79 := fn_says env79 Tryz.func79 rfl fun x y h => let ⟨N, hN⟩ := lim_some h; ⟨N, (r79 N x.1 x.2.1).trans hN⟩
theorem enters79 : Enters Tryz.prog 79 := enters Tryz.func79 (by kernel_rfl) rfl
noncomputable def E161 : Env := { tab := tab, sig := [], clos := [], live := [(0, [0, 1, 7, 8], [])], eqs := [], inl := [] }
set_option maxRecDepth 100000 in
theorem r161 (N : Nat) (a0 : List Int) (a1 : (Int × Unit) → Option Bool) : runF N E161 Tryz.f161 [.imm false Y1, .clo [(false, (.int .i64))] .bool] [.imm false (.int .i64)] (a0, a1, ()) = p_IndexFunc_Lint_int N a0 a1 := by kernel_rfl
theorem env161 : EnvOk Tryz.prog (fa.at true) E161 := envOk mixed tabOk trivial trivial trivial
noncomputable def s161 : FSpec := ⟨[.imm false Y1, .clo [(false, (.int .i64))] .bool], [.imm false (.int .i64)], fun x => S_IndexFunc_Lint_int x.1 x.2.1, true⟩
theorem ok161 : FOk Tryz.prog fa 161 s161 := fn_says env161 Tryz.func161 rfl fun x y h => let ⟨N, hN⟩ := lim_some h; ⟨N, (r161 N x.1 x.2.1).trans hN⟩
theorem enters161 : Enters Tryz.prog 161 := enters Tryz.func161 (by kernel_rfl) rfl
noncomputable def E80 : Env := { tab := tab, sig := [(161, s161)], clos := [], live := [], eqs := [], inl := [] }
set_option maxRecDepth 100000 in
theorem r80 (N : Nat) (a0 : List Int) (a1 : (Int × Unit) → Option Bool) : runF N E80 Tryz.f80 [.imm false Y1, .clo [(false, (.int .i64))] .bool] [.imm false .bool] (a0, a1, ()) = p_ContainsFunc_Lint_int N a0 a1 := by kernel_rfl
theorem env80 : EnvOk Tryz.prog (fa.at true) E80 := envOk mixed tabOk ⟨⟨enters161, ok161, fun _ => rfl⟩, trivial⟩ trivial trivial
noncomputable def s80 : FSpec := ⟨[.imm false Y1, .clo [(false, (.int .i64))] .bool], [.imm false .bool], fun x => S_ContainsFunc_Lint_int x.1 x.2.1, true⟩
theorem ok80 : FOk Tryz.prog fa 80 s80 := fn_says env80 Tryz.func80 rfl fun x y h => ⟨0, (r80 0 x.1 x.2.1).trans h⟩
theorem enters80 : Enters Tryz.prog 80 := enters Tryz.func80 (by kernel_rfl) rfl
theorem enters81 : Enters Tryz.prog 81 := enters Tryz.func81 (by kernel_rfl) rfl
noncomputable def E17 : Env := { tab := tab, sig := [(77, s77), (78, s78), (79, s79), (80, s80)], clos := [(81, ⟨Tryz.f81, [(false, (.int .i64))], []⟩)], live := [], eqs := [], inl := [] }
set_option maxRecDepth 100000 in
theorem r17 (N : Nat) (a0 : T0) : runF N E17 Tryz.f17 [.imm true Y23] [.imm false .bool] (a0, ()) = p_impl_GoodWatch N a0 := by kernel_rfl
theorem env17 : EnvOk Tryz.prog (fa.at true) E17 := envOk mixed tabOk ⟨⟨enters77, ok77, fun _ => rfl⟩, ⟨enters78, ok78, fun _ => rfl⟩, ⟨enters79, ok79, fun _ => rfl⟩, ⟨enters80, ok80, fun _ => rfl⟩, trivial⟩ ⟨⟨Tryz.func81, enters81⟩, trivial⟩ trivial
noncomputable def s17 : FSpec := ⟨[.imm true Y23], [.imm false .bool], fun x => S_impl_GoodWatch x.1, true⟩
theorem ok17 : FOk Tryz.prog fa 17 s17 := fn_says env17 Tryz.func17 rfl fun x y h => ⟨0, (r17 0 x.1).trans h⟩
theorem enters17 : Enters Tryz.prog 17 := enters Tryz.func17 (by kernel_rfl) rfl
noncomputable def E265 : Env := { tab := tab, sig := [(78, s78)], clos := [], live := [], eqs := [], inl := [] }
set_option maxRecDepth 100000 in
theorem r265 (N : Nat) (a0 : Int) : runF N E265 Tryz.f265 [.imm false (.int .i64)] [.imm false .bool] (a0, ()) = p_impl_isAccount N a0 := by kernel_rfl
theorem env265 : EnvOk Tryz.prog (fa.at true) E265 := envOk mixed tabOk ⟨⟨enters78, ok78, fun _ => rfl⟩, trivial⟩ trivial trivial
noncomputable def s265 : FSpec := ⟨[.imm false (.int .i64)], [.imm false .bool], fun x => S_impl_isAccount x.1, true⟩
theorem ok265 : FOk Tryz.prog fa 265 s265 := fn_says env265 Tryz.func265 rfl fun x y h => ⟨0, (r265 0 x.1).trans h⟩
theorem enters265 : Enters Tryz.prog 265 := enters Tryz.func265 (by kernel_rfl) rfl
noncomputable def E206 : Env := { tab := tab, sig := [(78, s78), (265, s265)], clos := [], live := [], eqs := [(137, [false, false, false, false, false])], inl := [] }
set_option maxRecDepth 100000 in
theorem r206 (N : Nat) (a0 : T2) : runF N E206 Tryz.f206 [.imm true Y22] [.imm false .bool] (a0, ()) = p_impl_GoodCmd N a0 := by kernel_rfl
theorem env206 : EnvOk Tryz.prog (fa.at true) E206 := envOk mixed tabOk ⟨⟨enters78, ok78, fun _ => rfl⟩, ⟨enters265, ok265, fun _ => rfl⟩, trivial⟩ trivial ⟨eq137, trivial⟩
noncomputable def s206 : FSpec := ⟨[.imm true Y22], [.imm false .bool], fun x => S_impl_GoodCmd x.1, true⟩
theorem ok206 : FOk Tryz.prog fa 206 s206 := fn_says env206 Tryz.func206 rfl fun x y h => ⟨0, (r206 0 x.1).trans h⟩
theorem enters206 : Enters Tryz.prog 206 := enters Tryz.func206 (by kernel_rfl) rfl
theorem enters272 : Enters Tryz.prog 272 := enters Tryz.func272 (by kernel_rfl) rfl
noncomputable def E215 : Env := { tab := tab, sig := [(77, s77), (78, s78), (80, s80)], clos := [(272, ⟨Tryz.f272, [(false, (.int .i64))], []⟩)], live := [], eqs := [], inl := [] }
set_option maxRecDepth 100000 in
theorem r215 (N : Nat) (a0 : Int) (a1 : T6) : runF N E215 Tryz.f215 [.imm false (.int .i64), .imm true Y12] [.imm false .bool] (a0, a1, ()) = p_impl_GoodAttr N a0 a1 := by kernel_rfl
theorem env215 : EnvOk Tryz.prog (fa.at true) E215 := envOk mixed tabOk ⟨⟨enters77, ok77, fun _ => rfl⟩, ⟨enters78, ok78, fun _ => rfl⟩, ⟨enters80, ok80, fun _ => rfl⟩, trivial⟩ ⟨⟨Tryz.func272, enters272⟩, trivial⟩ trivial
noncomputable def s215 : FSpec := ⟨[.imm false (.int .i64), .imm true Y12], [.imm false .bool], fun x => S_impl_GoodAttr x.1 x.2.1, true⟩
theorem ok215 : FOk Tryz.prog fa 215 s215 := fn_says env215 Tryz.func215 rfl fun x y h => ⟨0, (r215 0 x.1 x.2.1).trans h⟩
theorem enters215 : Enters Tryz.prog 215 := enters Tryz.func215 (by kernel_rfl) rfl
noncomputable def E217 : Env := { tab := tab, sig := [], clos := [], live := [], eqs := [], inl := [] }
set_option maxRecDepth 100000 in
theorem r217 (N : Nat) (a0 : Int) : runF N E217 Tryz.f217 [.imm false (.int .i64)] [.deep true Y12] (a0, ()) = p_impl_noneAttr N a0 := by kernel_rfl
theorem env217 : EnvOk Tryz.prog (fa.at true) E217 := envOk mixed tabOk trivial trivial trivial
noncomputable def s217 : FSpec := ⟨[.imm false (.int .i64)], [.deep true Y12], fun x => S_impl_noneAttr x.1, true⟩
theorem ok217 : FOk Tryz.prog fa 217 s217 := fn_says env217 Tryz.func217 rfl fun x y h => ⟨0, (r217 0 x.1).trans h⟩
theorem enters217 : Enters Tryz.prog 217 := enters Tryz.func217 (by kernel_rfl) rfl
noncomputable def E152 : Env := { tab := tab, sig := [], clos := [], live := [(0, [0, 1, 12, 13], [])], eqs := [], inl := [] }
set_option maxRecDepth 100000 in
theorem r152 (N : Nat) (a0 : List Int) (a1 : List Int) : runF N E152 Tryz.f152 [.imm false Y1, .imm false Y1] [.imm false .bool] (a0, a1, ()) = p_Equal_Lint_int N a0 a1 := by kernel_rfl
theorem env152 : EnvOk Tryz.prog (fa.at true) E152 := envOk mixed tabOk trivial trivial trivial
noncomputable def s152 : FSpec := ⟨[.imm false Y1, .imm false Y1], [.imm false .bool], fun x => S_Equal_Lint_int x.1 x.2.1, true⟩
theorem ok152 : FOk Tryz.prog fa 152 s152 := fn_says env152 Tryz.func152 rfl fun x y h => let ⟨N, hN⟩ := lim_some h; ⟨N, (r152 N x.1 x.2.1).trans hN⟩
theorem enters152 : Enters Tryz.prog 152 := enters Tryz.func152 (by kernel_rfl) rfl
noncomputable def E216 : Env := { tab := tab, sig := [(152, s152)], clos := [], live := [], eqs := [], inl := [] }
set_option maxRecDepth 100000 in
theorem r216 (N : Nat) (a0 : T6) (a1 : T6) : runF N E216 Tryz.f216 [.imm true Y12, .imm true Y12] [.imm false .bool] (a0, a1, ()) = p_impl_SameAttr N a0 a1 := by kernel_rfl
theorem env216 : EnvOk Tryz.prog (fa.at true) E216 := envOk mixed tabOk ⟨⟨enters152, ok152, fun _ => rfl⟩, trivial⟩ trivial trivial
noncomputable def s216 : FSpec := ⟨[.imm true Y12, .imm true Y12], [.imm false .bool], fun x => S_impl_SameAttr x.1 x.2.1, true⟩
theorem ok216 : FOk Tryz.prog fa 216 s216 := fn_says env216 Tryz.func216 rfl fun x y h => ⟨0, (r216 0 x.1 x.2.1).trans h⟩
theorem enters216 : Enters Tryz.prog 216 := enters Tryz.func216 (by kernel_rfl) rfl
end Go.Proofs.YtdcbankajhnepaaGreat.Am
