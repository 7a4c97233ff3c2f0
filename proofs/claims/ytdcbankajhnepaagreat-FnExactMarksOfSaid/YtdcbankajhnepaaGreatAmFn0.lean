/- Functions, as they run on data. No condition. -/
import Derived.Test.YtdcbankajhnepaaGreatAmTab
import Derived.Test.YtdcbankajhnepaaGreatAmQ
set_option linter.unusedVariables false
set_option maxRecDepth 100000
namespace Go.Proofs.YtdcbankajhnepaaGreat.Am
open Go.AM Go.AM.P Go.Proofs Go.Shelf
noncomputable def E113 : Env := { tab := tab, sig := [], clos := [], live := [], eqs := [], inl := [] }
set_option maxRecDepth 100000 in
theorem r113 (N : Nat) (a0 : List Int) (a1 : Int) : runF N E113 Tryz.f113 [.imm false (.slice 3 (.int .i64)), .imm false (.int .i64)] [.imm false (.int .i64)] (a0, a1, ()) = p_laws_szIntS N a0 a1 := by kernel_rfl
theorem env113 : EnvOk Tryz.prog (fa.at true) E113 := envOk mixed tabOk trivial trivial trivial
noncomputable def s113 : FSpec := ⟨[.imm false (.slice 3 (.int .i64)), .imm false (.int .i64)], [.imm false (.int .i64)], fun x => S_laws_szIntS x.1 x.2.1, true⟩
theorem ok113 : FOk Tryz.prog fa 113 s113 := fn_says env113 Tryz.func113 rfl fun x y h => ⟨0, (r113 0 x.1 x.2.1).trans h⟩
theorem enters113 : Enters Tryz.prog 113 := enters Tryz.func113 (by kernel_rfl) rfl
noncomputable def E257 : Env := { tab := tab, sig := [(113, s113)], clos := [], live := [], eqs := [], inl := [] }
set_option maxRecDepth 100000 in
theorem r257 (N : Nat) (a0 : T6) (a1 : Int) : runF N E257 Tryz.f257 [.imm true (.pair (.int .i64) (.pair (.slice 3 (.int .i64)) .unit)), .imm false (.int .i64)] [.imm false (.int .i64)] (a0, a1, ()) = p_laws_szAttr N a0 a1 := by kernel_rfl
theorem env257 : EnvOk Tryz.prog (fa.at true) E257 := envOk mixed tabOk ⟨⟨enters113, ok113, fun _ => rfl⟩, trivial⟩ trivial trivial
noncomputable def s257 : FSpec := ⟨[.imm true (.pair (.int .i64) (.pair (.slice 3 (.int .i64)) .unit)), .imm false (.int .i64)], [.imm false (.int .i64)], fun x => S_laws_szAttr x.1 x.2.1, true⟩
theorem ok257 : FOk Tryz.prog fa 257 s257 := fn_says env257 Tryz.func257 rfl fun x y h => ⟨0, (r257 0 x.1 x.2.1).trans h⟩
theorem enters257 : Enters Tryz.prog 257 := enters Tryz.func257 (by kernel_rfl) rfl
noncomputable def E227 : Env := { tab := tab, sig := [(257, s257)], clos := [], live := [], eqs := [], inl := [] }
set_option maxRecDepth 100000 in
theorem r227 (N : Nat) (a0 : T7) (a1 : Int) : runF N E227 Tryz.f227 [.imm true (.pair (.int .i64) (.pair (.int .i64) (.pair (.int .i64) (.pair (.pair (.int .i64) (.pair (.int .i64) (.pair (.int .i64) (.pair (.int .i64) (.pair (.int .i64) .unit))))) (.pair (.pair (.int .i64) (.pair (.slice 3 (.int .i64)) .unit)) .unit))))), .imm false (.int .i64)] [.imm false (.int .i64)] (a0, a1, ()) = p_laws_szRow N a0 a1 := by kernel_rfl
theorem env227 : EnvOk Tryz.prog (fa.at true) E227 := envOk mixed tabOk ⟨⟨enters257, ok257, fun _ => rfl⟩, trivial⟩ trivial trivial
noncomputable def s227 : FSpec := ⟨[.imm true (.pair (.int .i64) (.pair (.int .i64) (.pair (.int .i64) (.pair (.pair (.int .i64) (.pair (.int .i64) (.pair (.int .i64) (.pair (.int .i64) (.pair (.int .i64) .unit))))) (.pair (.pair (.int .i64) (.pair (.slice 3 (.int .i64)) .unit)) .unit))))), .imm false (.int .i64)], [.imm false (.int .i64)], fun x => S_laws_szRow x.1 x.2.1, true⟩
theorem ok227 : FOk Tryz.prog fa 227 s227 := fn_says env227 Tryz.func227 rfl fun x y h => ⟨0, (r227 0 x.1 x.2.1).trans h⟩
theorem enters227 : Enters Tryz.prog 227 := enters Tryz.func227 (by kernel_rfl) rfl
noncomputable def E168 : Env := { tab := tab, sig := [(227, s227)], clos := [], live := [(0, [0, 1, 5], [])], eqs := [], inl := [] }
set_option maxRecDepth 100000 in
theorem r168 (N : Nat) (a0 : List T7) (a1 : Int) : runF N E168 Tryz.f168 [.imm false (.slice 257 (.pair (.int .i64) (.pair (.int .i64) (.pair (.int .i64) (.pair (.pair (.int .i64) (.pair (.int .i64) (.pair (.int .i64) (.pair (.int .i64) (.pair (.int .i64) .unit))))) (.pair (.pair (.int .i64) (.pair (.slice 3 (.int .i64)) .unit)) .unit)))))), .imm false (.int .i64)] [.imm false (.int .i64)] (a0, a1, ()) = p_laws_szRowS N a0 a1 := by kernel_rfl
theorem env168 : EnvOk Tryz.prog (fa.at true) E168 := envOk mixed tabOk ⟨⟨enters227, ok227, fun _ => rfl⟩, trivial⟩ trivial trivial
noncomputable def s168 : FSpec := ⟨[.imm false (.slice 257 (.pair (.int .i64) (.pair (.int .i64) (.pair (.int .i64) (.pair (.pair (.int .i64) (.pair (.int .i64) (.pair (.int .i64) (.pair (.int .i64) (.pair (.int .i64) .unit))))) (.pair (.pair (.int .i64) (.pair (.slice 3 (.int .i64)) .unit)) .unit)))))), .imm false (.int .i64)], [.imm false (.int .i64)], fun x => S_laws_szRowS x.1 x.2.1, true⟩
theorem ok168 : FOk Tryz.prog fa 168 s168 := fn_says env168 Tryz.func168 rfl fun x y h => let ⟨N, hN⟩ := lim_some h; ⟨N, (r168 N x.1 x.2.1).trans hN⟩
theorem enters168 : Enters Tryz.prog 168 := enters Tryz.func168 (by kernel_rfl) rfl
noncomputable def E97 : Env := { tab := tab, sig := [(168, s168)], clos := [], live := [(0, [0, 1, 5], [])], eqs := [], inl := [] }
set_option maxRecDepth 100000 in
theorem r97 (N : Nat) (a0 : List (List T7)) (a1 : Int) : runF N E97 Tryz.f97 [.imm false (.slice 201 (.slice 257 (.pair (.int .i64) (.pair (.int .i64) (.pair (.int .i64) (.pair (.pair (.int .i64) (.pair (.int .i64) (.pair (.int .i64) (.pair (.int .i64) (.pair (.int .i64) .unit))))) (.pair (.pair (.int .i64) (.pair (.slice 3 (.int .i64)) .unit)) .unit))))))), .imm false (.int .i64)] [.imm false (.int .i64)] (a0, a1, ()) = p_laws_szRowSS N a0 a1 := by kernel_rfl
theorem env97 : EnvOk Tryz.prog (fa.at true) E97 := envOk mixed tabOk ⟨⟨enters168, ok168, fun _ => rfl⟩, trivial⟩ trivial trivial
noncomputable def s97 : FSpec := ⟨[.imm false (.slice 201 (.slice 257 (.pair (.int .i64) (.pair (.int .i64) (.pair (.int .i64) (.pair (.pair (.int .i64) (.pair (.int .i64) (.pair (.int .i64) (.pair (.int .i64) (.pair (.int .i64) .unit))))) (.pair (.pair (.int .i64) (.pair (.slice 3 (.int .i64)) .unit)) .unit))))))), .imm false (.int .i64)], [.imm false (.int .i64)], fun x => S_laws_szRowSS x.1 x.2.1, true⟩
theorem ok97 : FOk Tryz.prog fa 97 s97 := fn_says env97 Tryz.func97 rfl fun x y h => let ⟨N, hN⟩ := lim_some h; ⟨N, (r97 N x.1 x.2.1).trans hN⟩
theorem enters97 : Enters Tryz.prog 97 := enters Tryz.func97 (by kernel_rfl) rfl
noncomputable def E40 : Env := { tab := tab, sig := [(97, s97)], clos := [], live := [], eqs := [], inl := [] }
set_option maxRecDepth 100000 in
theorem r40 (N : Nat) (a0 : T8) (a1 : Int) : runF N E40 Tryz.f40 [.imm true (.pair (.int .i64) (.pair (.slice 201 (.slice 257 (.pair (.int .i64) (.pair (.int .i64) (.pair (.int .i64) (.pair (.pair (.int .i64) (.pair (.int .i64) (.pair (.int .i64) (.pair (.int .i64) (.pair (.int .i64) .unit))))) (.pair (.pair (.int .i64) (.pair (.slice 3 (.int .i64)) .unit)) .unit))))))) .unit)), .imm false (.int .i64)] [.imm false (.int .i64)] (a0, a1, ()) = p_laws_szTable N a0 a1 := by kernel_rfl
theorem env40 : EnvOk Tryz.prog (fa.at true) E40 := envOk mixed tabOk ⟨⟨enters97, ok97, fun _ => rfl⟩, trivial⟩ trivial trivial
noncomputable def s40 : FSpec := ⟨[.imm true (.pair (.int .i64) (.pair (.slice 201 (.slice 257 (.pair (.int .i64) (.pair (.int .i64) (.pair (.int .i64) (.pair (.pair (.int .i64) (.pair (.int .i64) (.pair (.int .i64) (.pair (.int .i64) (.pair (.int .i64) .unit))))) (.pair (.pair (.int .i64) (.pair (.slice 3 (.int .i64)) .unit)) .unit))))))) .unit)), .imm false (.int .i64)], [.imm false (.int .i64)], fun x => S_laws_szTable x.1 x.2.1, true⟩
theorem ok40 : FOk Tryz.prog fa 40 s40 := fn_says env40 Tryz.func40 rfl fun x y h => ⟨0, (r40 0 x.1 x.2.1).trans h⟩
theorem enters40 : Enters Tryz.prog 40 := enters Tryz.func40 (by kernel_rfl) rfl
noncomputable def E260 : Env := { tab := tab, sig := [], clos := [], live := [], eqs := [], inl := [] }
set_option maxRecDepth 100000 in
theorem r260 (N : Nat) (a0 : T2) : runF N E260 Tryz.f260 [.imm true (.pair (.int .i64) (.pair (.int .i64) (.pair (.int .i64) (.pair (.int .i64) (.pair (.int .i64) .unit)))))] [.imm true (.pair (.int .i64) (.pair (.int .i64) (.pair (.int .i64) (.pair (.int .i64) (.pair (.int .i64) .unit)))))] (a0, ()) = p_laws_toCmd N a0 := by kernel_rfl
theorem env260 : EnvOk Tryz.prog (fa.at true) E260 := envOk mixed tabOk trivial trivial trivial
noncomputable def s260 : FSpec := ⟨[.imm true (.pair (.int .i64) (.pair (.int .i64) (.pair (.int .i64) (.pair (.int .i64) (.pair (.int .i64) .unit)))))], [.imm true (.pair (.int .i64) (.pair (.int .i64) (.pair (.int .i64) (.pair (.int .i64) (.pair (.int .i64) .unit)))))], fun x => S_laws_toCmd x.1, true⟩
theorem ok260 : FOk Tryz.prog fa 260 s260 := fn_says env260 Tryz.func260 rfl fun x y h => ⟨0, (r260 0 x.1).trans h⟩
theorem enters260 : Enters Tryz.prog 260 := enters Tryz.func260 (by kernel_rfl) rfl
noncomputable def E119 : Env := { tab := tab, sig := [], clos := [], live := [(0, [0, 3, 4], [])], eqs := [], inl := [] }
set_option maxRecDepth 100000 in
theorem r119 (N : Nat) (a0 : List Int) : runF N E119 Tryz.f119 [.imm false (.slice 3 (.int .i64))] [.deep false (.slice 3 (.int .i64))] (a0, ()) = p_laws_toIntS N a0 := by kernel_rfl
theorem env119 : EnvOk Tryz.prog (fa.at true) E119 := envOk mixed tabOk trivial trivial trivial
noncomputable def s119 : FSpec := ⟨[.imm false (.slice 3 (.int .i64))], [.deep false (.slice 3 (.int .i64))], fun x => S_laws_toIntS x.1, true⟩
theorem ok119 : FOk Tryz.prog fa 119 s119 := fn_says env119 Tryz.func119 rfl fun x y h => let ⟨N, hN⟩ := lim_some h; ⟨N, (r119 N x.1).trans hN⟩
theorem enters119 : Enters Tryz.prog 119 := enters Tryz.func119 (by kernel_rfl) rfl
noncomputable def E261 : Env := { tab := tab, sig := [(119, s119)], clos := [], live := [], eqs := [], inl := [] }
set_option maxRecDepth 100000 in
theorem r261 (N : Nat) (a0 : T6) : runF N E261 Tryz.f261 [.imm true (.pair (.int .i64) (.pair (.slice 3 (.int .i64)) .unit))] [.deep true (.pair (.int .i64) (.pair (.slice 3 (.int .i64)) .unit))] (a0, ()) = p_laws_toAttr N a0 := by kernel_rfl
theorem env261 : EnvOk Tryz.prog (fa.at true) E261 := envOk mixed tabOk ⟨⟨enters119, ok119, fun _ => rfl⟩, trivial⟩ trivial trivial
noncomputable def s261 : FSpec := ⟨[.imm true (.pair (.int .i64) (.pair (.slice 3 (.int .i64)) .unit))], [.deep true (.pair (.int .i64) (.pair (.slice 3 (.int .i64)) .unit))], fun x => S_laws_toAttr x.1, true⟩
theorem ok261 : FOk Tryz.prog fa 261 s261 := fn_says env261 Tryz.func261 rfl fun x y h => ⟨0, (r261 0 x.1).trans h⟩
theorem enters261 : Enters Tryz.prog 261 := enters Tryz.func261 (by kernel_rfl) rfl
noncomputable def E230 : Env := { tab := tab, sig := [(260, s260), (261, s261)], clos := [], live := [], eqs := [], inl := [] }
set_option maxRecDepth 100000 in
theorem r230 (N : Nat) (a0 : T7) : runF N E230 Tryz.f230 [.imm true (.pair (.int .i64) (.pair (.int .i64) (.pair (.int .i64) (.pair (.pair (.int .i64) (.pair (.int .i64) (.pair (.int .i64) (.pair (.int .i64) (.pair (.int .i64) .unit))))) (.pair (.pair (.int .i64) (.pair (.slice 3 (.int .i64)) .unit)) .unit)))))] [.deep true (.pair (.int .i64) (.pair (.int .i64) (.pair (.int .i64) (.pair (.pair (.int .i64) (.pair (.int .i64) (.pair (.int .i64) (.pair (.int .i64) (.pair (.int .i64) .unit))))) (.pair (.pair (.int .i64) (.pair (.slice 3 (.int .i64)) .unit)) .unit)))))] (a0, ()) = p_laws_toRow N a0 := by kernel_rfl
theorem env230 : EnvOk Tryz.prog (fa.at true) E230 := envOk mixed tabOk ⟨⟨enters260, ok260, fun _ => rfl⟩, ⟨enters261, ok261, fun _ => rfl⟩, trivial⟩ trivial trivial
noncomputable def s230 : FSpec := ⟨[.imm true (.pair (.int .i64) (.pair (.int .i64) (.pair (.int .i64) (.pair (.pair (.int .i64) (.pair (.int .i64) (.pair (.int .i64) (.pair (.int .i64) (.pair (.int .i64) .unit))))) (.pair (.pair (.int .i64) (.pair (.slice 3 (.int .i64)) .unit)) .unit)))))], [.deep true (.pair (.int .i64) (.pair (.int .i64) (.pair (.int .i64) (.pair (.pair (.int .i64) (.pair (.int .i64) (.pair (.int .i64) (.pair (.int .i64) (.pair (.int .i64) .unit))))) (.pair (.pair (.int .i64) (.pair (.slice 3 (.int .i64)) .unit)) .unit)))))], fun x => S_laws_toRow x.1, true⟩
theorem ok230 : FOk Tryz.prog fa 230 s230 := fn_says env230 Tryz.func230 rfl fun x y h => ⟨0, (r230 0 x.1).trans h⟩
theorem enters230 : Enters Tryz.prog 230 := enters Tryz.func230 (by kernel_rfl) rfl
noncomputable def E170 : Env := { tab := tab, sig := [(230, s230)], clos := [], live := [(0, [0, 3, 4], [])], eqs := [], inl := [] }
set_option maxRecDepth 100000 in
theorem r170 (N : Nat) (a0 : List T7) : runF N E170 Tryz.f170 [.imm false (.slice 257 (.pair (.int .i64) (.pair (.int .i64) (.pair (.int .i64) (.pair (.pair (.int .i64) (.pair (.int .i64) (.pair (.int .i64) (.pair (.int .i64) (.pair (.int .i64) .unit))))) (.pair (.pair (.int .i64) (.pair (.slice 3 (.int .i64)) .unit)) .unit))))))] [.deep false (.slice 141 (.pair (.int .i64) (.pair (.int .i64) (.pair (.int .i64) (.pair (.pair (.int .i64) (.pair (.int .i64) (.pair (.int .i64) (.pair (.int .i64) (.pair (.int .i64) .unit))))) (.pair (.pair (.int .i64) (.pair (.slice 3 (.int .i64)) .unit)) .unit))))))] (a0, ()) = p_laws_toRowS N a0 := by kernel_rfl
theorem env170 : EnvOk Tryz.prog (fa.at true) E170 := envOk mixed tabOk ⟨⟨enters230, ok230, fun _ => rfl⟩, trivial⟩ trivial trivial
noncomputable def s170 : FSpec := ⟨[.imm false (.slice 257 (.pair (.int .i64) (.pair (.int .i64) (.pair (.int .i64) (.pair (.pair (.int .i64) (.pair (.int .i64) (.pair (.int .i64) (.pair (.int .i64) (.pair (.int .i64) .unit))))) (.pair (.pair (.int .i64) (.pair (.slice 3 (.int .i64)) .unit)) .unit))))))], [.deep false (.slice 141 (.pair (.int .i64) (.pair (.int .i64) (.pair (.int .i64) (.pair (.pair (.int .i64) (.pair (.int .i64) (.pair (.int .i64) (.pair (.int .i64) (.pair (.int .i64) .unit))))) (.pair (.pair (.int .i64) (.pair (.slice 3 (.int .i64)) .unit)) .unit))))))], fun x => S_laws_toRowS x.1, true⟩
theorem ok170 : FOk Tryz.prog fa 170 s170 := fn_says env170 Tryz.func170 rfl fun x y h => let ⟨N, hN⟩ := lim_some h; ⟨N, (r170 N x.1).trans hN⟩
theorem enters170 : Enters Tryz.prog 170 := enters Tryz.func170 (by kernel_rfl) rfl
noncomputable def E99 : Env := { tab := tab, sig := [(170, s170)], clos := [], live := [(0, [0, 3, 4], [])], eqs := [], inl := [] }
set_option maxRecDepth 100000 in
theorem r99 (N : Nat) (a0 : List (List T7)) : runF N E99 Tryz.f99 [.imm false (.slice 201 (.slice 257 (.pair (.int .i64) (.pair (.int .i64) (.pair (.int .i64) (.pair (.pair (.int .i64) (.pair (.int .i64) (.pair (.int .i64) (.pair (.int .i64) (.pair (.int .i64) .unit))))) (.pair (.pair (.int .i64) (.pair (.slice 3 (.int .i64)) .unit)) .unit)))))))] [.deep false (.slice 182 (.slice 141 (.pair (.int .i64) (.pair (.int .i64) (.pair (.int .i64) (.pair (.pair (.int .i64) (.pair (.int .i64) (.pair (.int .i64) (.pair (.int .i64) (.pair (.int .i64) .unit))))) (.pair (.pair (.int .i64) (.pair (.slice 3 (.int .i64)) .unit)) .unit)))))))] (a0, ()) = p_laws_toRowSS N a0 := by kernel_rfl
theorem env99 : EnvOk Tryz.prog (fa.at true) E99 := envOk mixed tabOk ⟨⟨enters170, ok170, fun _ => rfl⟩, trivial⟩ trivial trivial
noncomputable def s99 : FSpec := ⟨[.imm false (.slice 201 (.slice 257 (.pair (.int .i64) (.pair (.int .i64) (.pair (.int .i64) (.pair (.pair (.int .i64) (.pair (.int .i64) (.pair (.int .i64) (.pair (.int .i64) (.pair (.int .i64) .unit))))) (.pair (.pair (.int .i64) (.pair (.slice 3 (.int .i64)) .unit)) .unit)))))))], [.deep false (.slice 182 (.slice 141 (.pair (.int .i64) (.pair (.int .i64) (.pair (.int .i64) (.pair (.pair (.int .i64) (.pair (.int .i64) (.pair (.int .i64) (.pair (.int .i64) (.pair (.int .i64) .unit))))) (.pair (.pair (.int .i64) (.pair (.slice 3 (.int .i64)) .unit)) .unit)))))))], fun x => S_laws_toRowSS x.1, true⟩
theorem ok99 : FOk Tryz.prog fa 99 s99 := fn_says env99 Tryz.func99 rfl fun x y h => let ⟨N, hN⟩ := lim_some h; ⟨N, (r99 N x.1).trans hN⟩
theorem enters99 : Enters Tryz.prog 99 := enters Tryz.func99 (by kernel_rfl) rfl
noncomputable def E42 : Env := { tab := tab, sig := [(99, s99)], clos := [], live := [], eqs := [], inl := [] }
set_option maxRecDepth 100000 in
theorem r42 (N : Nat) (a0 : T8) : runF N E42 Tryz.f42 [.imm true (.pair (.int .i64) (.pair (.slice 201 (.slice 257 (.pair (.int .i64) (.pair (.int .i64) (.pair (.int .i64) (.pair (.pair (.int .i64) (.pair (.int .i64) (.pair (.int .i64) (.pair (.int .i64) (.pair (.int .i64) .unit))))) (.pair (.pair (.int .i64) (.pair (.slice 3 (.int .i64)) .unit)) .unit))))))) .unit))] [.deep true (.pair (.int .i64) (.pair (.slice 182 (.slice 141 (.pair (.int .i64) (.pair (.int .i64) (.pair (.int .i64) (.pair (.pair (.int .i64) (.pair (.int .i64) (.pair (.int .i64) (.pair (.int .i64) (.pair (.int .i64) .unit))))) (.pair (.pair (.int .i64) (.pair (.slice 3 (.int .i64)) .unit)) .unit))))))) .unit))] (a0, ()) = p_laws_toTable N a0 := by kernel_rfl
theorem env42 : EnvOk Tryz.prog (fa.at true) E42 := envOk mixed tabOk ⟨⟨enters99, ok99, fun _ => rfl⟩, trivial⟩ trivial trivial
noncomputable def s42 : FSpec := ⟨[.imm true (.pair (.int .i64) (.pair (.slice 201 (.slice 257 (.pair (.int .i64) (.pair (.int .i64) (.pair (.int .i64) (.pair (.pair (.int .i64) (.pair (.int .i64) (.pair (.int .i64) (.pair (.int .i64) (.pair (.int .i64) .unit))))) (.pair (.pair (.int .i64) (.pair (.slice 3 (.int .i64)) .unit)) .unit))))))) .unit))], [.deep true (.pair (.int .i64) (.pair (.slice 182 (.slice 141 (.pair (.int .i64) (.pair (.int .i64) (.pair (.int .i64) (.pair (.pair (.int .i64) (.pair (.int .i64) (.pair (.int .i64) (.pair (.int .i64) (.pair (.int .i64) .unit))))) (.pair (.pair (.int .i64) (.pair (.slice 3 (.int .i64)) .unit)) .unit))))))) .unit))], fun x => S_laws_toTable x.1, true⟩
theorem ok42 : FOk Tryz.prog fa 42 s42 := fn_says env42 Tryz.func42 rfl fun x y h => ⟨0, (r42 0 x.1).trans h⟩
theorem enters42 : Enters Tryz.prog 42 := enters Tryz.func42 (by kernel_rfl) rfl
noncomputable def E89 : Env := { tab := tab, sig := [], clos := [], live := [], eqs := [], inl := [] }
set_option maxRecDepth 100000 in
theorem r89 (N : Nat) (a0 : Int) : runF N E89 Tryz.f89 [.imm false (.int .i64)] [.imm false .bool] (a0, ()) = p_spec_IsGroup N a0 := by kernel_rfl
theorem env89 : EnvOk Tryz.prog (fa.at true) E89 := envOk mixed tabOk trivial trivial trivial
noncomputable def s89 : FSpec := ⟨[.imm false (.int .i64)], [.imm false .bool], fun x => S_spec_IsGroup x.1, true⟩
theorem ok89 : FOk Tryz.prog fa 89 s89 := fn_says env89 Tryz.func89 rfl fun x y h => ⟨0, (r89 0 x.1).trans h⟩
theorem enters89 : Enters Tryz.prog 89 := enters Tryz.func89 (by kernel_rfl) rfl
noncomputable def E90 : Env := { tab := tab, sig := [], clos := [], live := [], eqs := [], inl := [] }
set_option maxRecDepth 100000 in
theorem r90 (N : Nat) (a0 : Int) (a1 : Int) (a2 : Int) : runF N E90 Tryz.f90 [.imm false (.int .i64), .imm false (.int .i64), .imm false (.int .i64)] [.imm false .bool] (a0, a1, a2, ()) = p_spec_l1In N a0 a1 a2 := by kernel_rfl
theorem env90 : EnvOk Tryz.prog (fa.at true) E90 := envOk mixed tabOk trivial trivial trivial
noncomputable def s90 : FSpec := ⟨[.imm false (.int .i64), .imm false (.int .i64), .imm false (.int .i64)], [.imm false .bool], fun x => S_spec_l1In x.1 x.2.1 x.2.2.1, true⟩
theorem ok90 : FOk Tryz.prog fa 90 s90 := fn_says env90 Tryz.func90 rfl fun x y h => ⟨0, (r90 0 x.1 x.2.1 x.2.2.1).trans h⟩
theorem enters90 : Enters Tryz.prog 90 := enters Tryz.func90 (by kernel_rfl) rfl
noncomputable def E174 : Env := { tab := tab, sig := [], clos := [], live := [], eqs := [], inl := [] }
set_option maxRecDepth 100000 in
theorem r174 (N : Nat) (a0 : Int) : runF N E174 Tryz.f174 [.imm false (.int .i64)] [.deep true (.pair (.int .i64) (.pair (.slice 3 (.int .i64)) .unit))] (a0, ()) = p_spec_l3None N a0 := by kernel_rfl
theorem env174 : EnvOk Tryz.prog (fa.at true) E174 := envOk mixed tabOk trivial trivial trivial
noncomputable def s174 : FSpec := ⟨[.imm false (.int .i64)], [.deep true (.pair (.int .i64) (.pair (.slice 3 (.int .i64)) .unit))], fun x => S_spec_l3None x.1, true⟩
theorem ok174 : FOk Tryz.prog fa 174 s174 := fn_says env174 Tryz.func174 rfl fun x y h => ⟨0, (r174 0 x.1).trans h⟩
theorem enters174 : Enters Tryz.prog 174 := enters Tryz.func174 (by kernel_rfl) rfl
noncomputable def E188 : Env := { tab := tab, sig := [], clos := [], live := [(0, [0, 1, 12, 13], [])], eqs := [], inl := [] }
set_option maxRecDepth 100000 in
theorem r188 (N : Nat) (a0 : List Int) (a1 : List Int) : runF N E188 Tryz.f188 [.imm false (.slice 3 (.int .i64)), .imm false (.slice 3 (.int .i64))] [.imm false .bool] (a0, a1, ()) = p_spec_l1Same N a0 a1 := by kernel_rfl
theorem env188 : EnvOk Tryz.prog (fa.at true) E188 := envOk mixed tabOk trivial trivial trivial
noncomputable def s188 : FSpec := ⟨[.imm false (.slice 3 (.int .i64)), .imm false (.slice 3 (.int .i64))], [.imm false .bool], fun x => S_spec_l1Same x.1 x.2.1, true⟩
theorem ok188 : FOk Tryz.prog fa 188 s188 := fn_says env188 Tryz.func188 rfl fun x y h => let ⟨N, hN⟩ := lim_some h; ⟨N, (r188 N x.1 x.2.1).trans hN⟩
theorem enters188 : Enters Tryz.prog 188 := enters Tryz.func188 (by kernel_rfl) rfl
noncomputable def E219 : Env := { tab := tab, sig := [(188, s188)], clos := [], live := [], eqs := [], inl := [] }
set_option maxRecDepth 100000 in
theorem r219 (N : Nat) (a0 : T6) (a1 : T6) : runF N E219 Tryz.f219 [.imm true (.pair (.int .i64) (.pair (.slice 3 (.int .i64)) .unit)), .imm true (.pair (.int .i64) (.pair (.slice 3 (.int .i64)) .unit))] [.imm false .bool] (a0, a1, ()) = p_spec_SameAttr N a0 a1 := by kernel_rfl
theorem env219 : EnvOk Tryz.prog (fa.at true) E219 := envOk mixed tabOk ⟨⟨enters188, ok188, fun _ => rfl⟩, trivial⟩ trivial trivial
noncomputable def s219 : FSpec := ⟨[.imm true (.pair (.int .i64) (.pair (.slice 3 (.int .i64)) .unit)), .imm true (.pair (.int .i64) (.pair (.slice 3 (.int .i64)) .unit))], [.imm false .bool], fun x => S_spec_SameAttr x.1 x.2.1, true⟩
theorem ok219 : FOk Tryz.prog fa 219 s219 := fn_says env219 Tryz.func219 rfl fun x y h => ⟨0, (r219 0 x.1 x.2.1).trans h⟩
theorem enters219 : Enters Tryz.prog 219 := enters Tryz.func219 (by kernel_rfl) rfl
noncomputable def E298 : Env := { tab := tab, sig := [(90, s90)], clos := [], live := [], eqs := [], inl := [] }
set_option maxRecDepth 100000 in
theorem r298 (N : Nat) (a0 : Int) : runF N E298 Tryz.f298 [.imm false (.int .i64)] [.imm false .bool] (a0, ()) = p_spec_l2Account N a0 := by kernel_rfl
theorem env298 : EnvOk Tryz.prog (fa.at true) E298 := envOk mixed tabOk ⟨⟨enters90, ok90, fun _ => rfl⟩, trivial⟩ trivial trivial
noncomputable def s298 : FSpec := ⟨[.imm false (.int .i64)], [.imm false .bool], fun x => S_spec_l2Account x.1, true⟩
theorem ok298 : FOk Tryz.prog fa 298 s298 := fn_says env298 Tryz.func298 rfl fun x y h => ⟨0, (r298 0 x.1).trans h⟩
theorem enters298 : Enters Tryz.prog 298 := enters Tryz.func298 (by kernel_rfl) rfl
noncomputable def E273 : Env := { tab := tab, sig := [(298, s298), (90, s90)], clos := [], live := [], eqs := [], inl := [] }
set_option maxRecDepth 100000 in
theorem r273 (N : Nat) (a0 : T2) : runF N E273 Tryz.f273 [.imm true (.pair (.int .i64) (.pair (.int .i64) (.pair (.int .i64) (.pair (.int .i64) (.pair (.int .i64) .unit)))))] [.imm false (.int .i64)] (a0, ()) = p_spec_l2Code N a0 := by kernel_rfl
theorem env273 : EnvOk Tryz.prog (fa.at true) E273 := envOk mixed tabOk ⟨⟨enters298, ok298, fun _ => rfl⟩, ⟨enters90, ok90, fun _ => rfl⟩, trivial⟩ trivial trivial
noncomputable def s273 : FSpec := ⟨[.imm true (.pair (.int .i64) (.pair (.int .i64) (.pair (.int .i64) (.pair (.int .i64) (.pair (.int .i64) .unit)))))], [.imm false (.int .i64)], fun x => S_spec_l2Code x.1, true⟩
theorem ok273 : FOk Tryz.prog fa 273 s273 := fn_says env273 Tryz.func273 rfl fun x y h => ⟨0, (r273 0 x.1).trans h⟩
theorem enters273 : Enters Tryz.prog 273 := enters Tryz.func273 (by kernel_rfl) rfl
noncomputable def E220 : Env := { tab := tab, sig := [(273, s273)], clos := [], live := [], eqs := [(137, [false, false, false, false, false])], inl := [] }
set_option maxRecDepth 100000 in
theorem r220 (N : Nat) (a0 : T2) : runF N E220 Tryz.f220 [.imm true (.pair (.int .i64) (.pair (.int .i64) (.pair (.int .i64) (.pair (.int .i64) (.pair (.int .i64) .unit)))))] [.imm false .bool] (a0, ()) = p_spec_GoodCmd N a0 := by kernel_rfl
theorem env220 : EnvOk Tryz.prog (fa.at true) E220 := envOk mixed tabOk ⟨⟨enters273, ok273, fun _ => rfl⟩, trivial⟩ trivial ⟨eq137, trivial⟩
noncomputable def s220 : FSpec := ⟨[.imm true (.pair (.int .i64) (.pair (.int .i64) (.pair (.int .i64) (.pair (.int .i64) (.pair (.int .i64) .unit)))))], [.imm false .bool], fun x => S_spec_GoodCmd x.1, true⟩
theorem ok220 : FOk Tryz.prog fa 220 s220 := fn_says env220 Tryz.func220 rfl fun x y h => ⟨0, (r220 0 x.1).trans h⟩
theorem enters220 : Enters Tryz.prog 220 := enters Tryz.func220 (by kernel_rfl) rfl
noncomputable def E154 : Env := { tab := tab, sig := [(90, s90)], clos := [], live := [(0, [1, 2, 9, 10, 11], [])], eqs := [], inl := [] }
set_option maxRecDepth 100000 in
theorem r154 (N : Nat) (a0 : List Int) (a1 : Int) (a2 : Int) : runF N E154 Tryz.f154 [.imm false (.slice 3 (.int .i64)), .imm false (.int .i64), .imm false (.int .i64)] [.imm false .bool] (a0, a1, a2, ()) = p_spec_l1All N a0 a1 a2 := by kernel_rfl
theorem env154 : EnvOk Tryz.prog (fa.at true) E154 := envOk mixed tabOk ⟨⟨enters90, ok90, fun _ => rfl⟩, trivial⟩ trivial trivial
noncomputable def s154 : FSpec := ⟨[.imm false (.slice 3 (.int .i64)), .imm false (.int .i64), .imm false (.int .i64)], [.imm false .bool], fun x => S_spec_l1All x.1 x.2.1 x.2.2.1, true⟩
theorem ok154 : FOk Tryz.prog fa 154 s154 := fn_says env154 Tryz.func154 rfl fun x y h => let ⟨N, hN⟩ := lim_some h; ⟨N, (r154 N x.1 x.2.1 x.2.2.1).trans hN⟩
theorem enters154 : Enters Tryz.prog 154 := enters Tryz.func154 (by kernel_rfl) rfl
noncomputable def E221 : Env := { tab := tab, sig := [(90, s90), (154, s154)], clos := [], live := [], eqs := [], inl := [] }
set_option maxRecDepth 100000 in
theorem r221 (N : Nat) (a0 : Int) (a1 : T6) : runF N E221 Tryz.f221 [.imm false (.int .i64), .imm true (.pair (.int .i64) (.pair (.slice 3 (.int .i64)) .unit))] [.imm false .bool] (a0, a1, ()) = p_spec_l3Attr N a0 a1 := by kernel_rfl
theorem env221 : EnvOk Tryz.prog (fa.at true) E221 := envOk mixed tabOk ⟨⟨enters90, ok90, fun _ => rfl⟩, ⟨enters154, ok154, fun _ => rfl⟩, trivial⟩ trivial trivial
noncomputable def s221 : FSpec := ⟨[.imm false (.int .i64), .imm true (.pair (.int .i64) (.pair (.slice 3 (.int .i64)) .unit))], [.imm false .bool], fun x => S_spec_l3Attr x.1 x.2.1, true⟩
theorem ok221 : FOk Tryz.prog fa 221 s221 := fn_says env221 Tryz.func221 rfl fun x y h => ⟨0, (r221 0 x.1 x.2.1).trans h⟩
theorem enters221 : Enters Tryz.prog 221 := enters Tryz.func221 (by kernel_rfl) rfl
noncomputable def E155 : Env := { tab := tab, sig := [(90, s90), (174, s174), (219, s219), (220, s220), (221, s221)], clos := [], live := [], eqs := [(137, [false, false, false, false, false])], inl := [] }
set_option maxRecDepth 100000 in
theorem r155 (N : Nat) (a0 : Int) (a1 : T7) : runF N E155 Tryz.f155 [.imm false (.int .i64), .imm true (.pair (.int .i64) (.pair (.int .i64) (.pair (.int .i64) (.pair (.pair (.int .i64) (.pair (.int .i64) (.pair (.int .i64) (.pair (.int .i64) (.pair (.int .i64) .unit))))) (.pair (.pair (.int .i64) (.pair (.slice 3 (.int .i64)) .unit)) .unit)))))] [.imm false .bool] (a0, a1, ()) = p_spec_l4Row N a0 a1 := by kernel_rfl
theorem env155 : EnvOk Tryz.prog (fa.at true) E155 := envOk mixed tabOk ⟨⟨enters90, ok90, fun _ => rfl⟩, ⟨enters174, ok174, fun _ => rfl⟩, ⟨enters219, ok219, fun _ => rfl⟩, ⟨enters220, ok220, fun _ => rfl⟩, ⟨enters221, ok221, fun _ => rfl⟩, trivial⟩ trivial ⟨eq137, trivial⟩
noncomputable def s155 : FSpec := ⟨[.imm false (.int .i64), .imm true (.pair (.int .i64) (.pair (.int .i64) (.pair (.int .i64) (.pair (.pair (.int .i64) (.pair (.int .i64) (.pair (.int .i64) (.pair (.int .i64) (.pair (.int .i64) .unit))))) (.pair (.pair (.int .i64) (.pair (.slice 3 (.int .i64)) .unit)) .unit)))))], [.imm false .bool], fun x => S_spec_l4Row x.1 x.2.1, true⟩
theorem ok155 : FOk Tryz.prog fa 155 s155 := fn_says env155 Tryz.func155 rfl fun x y h => ⟨0, (r155 0 x.1 x.2.1).trans h⟩
theorem enters155 : Enters Tryz.prog 155 := enters Tryz.func155 (by kernel_rfl) rfl
noncomputable def E72 : Env := { tab := tab, sig := [(89, s89), (155, s155)], clos := [], live := [(0, [1, 20, 21, 22], []), (2, [1, 4, 20, 21, 22, 26, 27, 28], [])], eqs := [], inl := [] }
set_option maxRecDepth 100000 in
theorem r72 (N : Nat) (a0 : T8) : runF N E72 Tryz.f72 [.imm true (.pair (.int .i64) (.pair (.slice 182 (.slice 141 (.pair (.int .i64) (.pair (.int .i64) (.pair (.int .i64) (.pair (.pair (.int .i64) (.pair (.int .i64) (.pair (.int .i64) (.pair (.int .i64) (.pair (.int .i64) .unit))))) (.pair (.pair (.int .i64) (.pair (.slice 3 (.int .i64)) .unit)) .unit))))))) .unit))] [.imm false .bool] (a0, ()) = p_spec_GoodTable N a0 := by kernel_rfl
theorem env72 : EnvOk Tryz.prog (fa.at true) E72 := envOk mixed tabOk ⟨⟨enters89, ok89, fun _ => rfl⟩, ⟨enters155, ok155, fun _ => rfl⟩, trivial⟩ trivial trivial
noncomputable def s72 : FSpec := ⟨[.imm true (.pair (.int .i64) (.pair (.slice 182 (.slice 141 (.pair (.int .i64) (.pair (.int .i64) (.pair (.int .i64) (.pair (.pair (.int .i64) (.pair (.int .i64) (.pair (.int .i64) (.pair (.int .i64) (.pair (.int .i64) .unit))))) (.pair (.pair (.int .i64) (.pair (.slice 3 (.int .i64)) .unit)) .unit))))))) .unit))], [.imm false .bool], fun x => S_spec_GoodTable x.1, true⟩
theorem ok72 : FOk Tryz.prog fa 72 s72 := fn_says env72 Tryz.func72 rfl fun x y h => let ⟨N, hN⟩ := lim_some h; ⟨N, (r72 N x.1).trans hN⟩
theorem enters72 : Enters Tryz.prog 72 := enters Tryz.func72 (by kernel_rfl) rfl
noncomputable def E228 : Env := { tab := tab, sig := [], clos := [], live := [(0, [3, 9, 10, 11], []), (2, [3, 4, 9, 10, 11, 16, 17, 18], [])], eqs := [], inl := [] }
set_option maxRecDepth 100000 in
theorem r228 (N : Nat) (a0 : T8) : runF N E228 Tryz.f228 [.imm true (.pair (.int .i64) (.pair (.slice 182 (.slice 141 (.pair (.int .i64) (.pair (.int .i64) (.pair (.int .i64) (.pair (.pair (.int .i64) (.pair (.int .i64) (.pair (.int .i64) (.pair (.int .i64) (.pair (.int .i64) .unit))))) (.pair (.pair (.int .i64) (.pair (.slice 3 (.int .i64)) .unit)) .unit))))))) .unit))] [.deep false (.slice 25 (.slice 3 (.int .i64)))] (a0, ()) = p_spec_l4Committed N a0 := by kernel_rfl
theorem env228 : EnvOk Tryz.prog (fa.at true) E228 := envOk mixed tabOk trivial trivial trivial
noncomputable def s228 : FSpec := ⟨[.imm true (.pair (.int .i64) (.pair (.slice 182 (.slice 141 (.pair (.int .i64) (.pair (.int .i64) (.pair (.int .i64) (.pair (.pair (.int .i64) (.pair (.int .i64) (.pair (.int .i64) (.pair (.int .i64) (.pair (.int .i64) .unit))))) (.pair (.pair (.int .i64) (.pair (.slice 3 (.int .i64)) .unit)) .unit))))))) .unit))], [.deep false (.slice 25 (.slice 3 (.int .i64)))], fun x => S_spec_l4Committed x.1, true⟩
theorem ok228 : FOk Tryz.prog fa 228 s228 := fn_says env228 Tryz.func228 rfl fun x y h => let ⟨N, hN⟩ := lim_some h; ⟨N, (r228 N x.1).trans hN⟩
theorem enters228 : Enters Tryz.prog 228 := enters Tryz.func228 (by kernel_rfl) rfl
noncomputable def E115 : Env := { tab := tab, sig := [], clos := [], live := [], eqs := [], inl := [] }
set_option maxRecDepth 100000 in
theorem r115 (N : Nat) (a0 : List Int) : runF N E115 Tryz.f115 [.imm false (.slice 3 (.int .i64))] [.deep false (.slice 3 (.int .i64))] (a0, ()) = p_spec_l1Own N a0 := by kernel_rfl
theorem env115 : EnvOk Tryz.prog (fa.at true) E115 := envOk mixed tabOk trivial trivial trivial
noncomputable def s115 : FSpec := ⟨[.imm false (.slice 3 (.int .i64))], [.deep false (.slice 3 (.int .i64))], fun x => S_spec_l1Own x.1, true⟩
theorem ok115 : FOk Tryz.prog fa 115 s115 := fn_says env115 Tryz.func115 rfl fun x y h => ⟨0, (r115 0 x.1).trans h⟩
theorem enters115 : Enters Tryz.prog 115 := enters Tryz.func115 (by kernel_rfl) rfl
noncomputable def E239 : Env := { tab := tab, sig := [(115, s115)], clos := [], live := [], eqs := [], inl := [] }
set_option maxRecDepth 100000 in
theorem r239 (N : Nat) (a0 : T6) : runF N E239 Tryz.f239 [.imm true (.pair (.int .i64) (.pair (.slice 3 (.int .i64)) .unit))] [.deep true (.pair (.int .i64) (.pair (.slice 3 (.int .i64)) .unit))] (a0, ()) = p_spec_l4OwnAttr N a0 := by kernel_rfl
theorem env239 : EnvOk Tryz.prog (fa.at true) E239 := envOk mixed tabOk ⟨⟨enters115, ok115, fun _ => rfl⟩, trivial⟩ trivial trivial
noncomputable def s239 : FSpec := ⟨[.imm true (.pair (.int .i64) (.pair (.slice 3 (.int .i64)) .unit))], [.deep true (.pair (.int .i64) (.pair (.slice 3 (.int .i64)) .unit))], fun x => S_spec_l4OwnAttr x.1, true⟩
theorem ok239 : FOk Tryz.prog fa 239 s239 := fn_says env239 Tryz.func239 rfl fun x y h => ⟨0, (r239 0 x.1).trans h⟩
theorem enters239 : Enters Tryz.prog 239 := enters Tryz.func239 (by kernel_rfl) rfl
noncomputable def E177 : Env := { tab := tab, sig := [(239, s239)], clos := [], live := [], eqs := [], inl := [] }
set_option maxRecDepth 100000 in
theorem r177 (N : Nat) (a0 : T7) : runF N E177 Tryz.f177 [.imm true (.pair (.int .i64) (.pair (.int .i64) (.pair (.int .i64) (.pair (.pair (.int .i64) (.pair (.int .i64) (.pair (.int .i64) (.pair (.int .i64) (.pair (.int .i64) .unit))))) (.pair (.pair (.int .i64) (.pair (.slice 3 (.int .i64)) .unit)) .unit)))))] [.deep true (.pair (.int .i64) (.pair (.int .i64) (.pair (.int .i64) (.pair (.pair (.int .i64) (.pair (.int .i64) (.pair (.int .i64) (.pair (.int .i64) (.pair (.int .i64) .unit))))) (.pair (.pair (.int .i64) (.pair (.slice 3 (.int .i64)) .unit)) .unit)))))] (a0, ()) = p_spec_l4OwnRow N a0 := by kernel_rfl
theorem env177 : EnvOk Tryz.prog (fa.at true) E177 := envOk mixed tabOk ⟨⟨enters239, ok239, fun _ => rfl⟩, trivial⟩ trivial trivial
noncomputable def s177 : FSpec := ⟨[.imm true (.pair (.int .i64) (.pair (.int .i64) (.pair (.int .i64) (.pair (.pair (.int .i64) (.pair (.int .i64) (.pair (.int .i64) (.pair (.int .i64) (.pair (.int .i64) .unit))))) (.pair (.pair (.int .i64) (.pair (.slice 3 (.int .i64)) .unit)) .unit)))))], [.deep true (.pair (.int .i64) (.pair (.int .i64) (.pair (.int .i64) (.pair (.pair (.int .i64) (.pair (.int .i64) (.pair (.int .i64) (.pair (.int .i64) (.pair (.int .i64) .unit))))) (.pair (.pair (.int .i64) (.pair (.slice 3 (.int .i64)) .unit)) .unit)))))], fun x => S_spec_l4OwnRow x.1, true⟩
theorem ok177 : FOk Tryz.prog fa 177 s177 := fn_says env177 Tryz.func177 rfl fun x y h => ⟨0, (r177 0 x.1).trans h⟩
theorem enters177 : Enters Tryz.prog 177 := enters Tryz.func177 (by kernel_rfl) rfl
noncomputable def E104 : Env := { tab := tab, sig := [(174, s174), (177, s177)], clos := [], live := [], eqs := [], inl := [] }
set_option maxRecDepth 100000 in
theorem r104 (N : Nat) (a0 : T8) (a1 : Int) (a2 : Int) : runF N E104 Tryz.f104 [.imm true (.pair (.int .i64) (.pair (.slice 182 (.slice 141 (.pair (.int .i64) (.pair (.int .i64) (.pair (.int .i64) (.pair (.pair (.int .i64) (.pair (.int .i64) (.pair (.int .i64) (.pair (.int .i64) (.pair (.int .i64) .unit))))) (.pair (.pair (.int .i64) (.pair (.slice 3 (.int .i64)) .unit)) .unit))))))) .unit)), .imm false (.int .i64), .imm false (.int .i64)] [.deep true (.pair (.int .i64) (.pair (.int .i64) (.pair (.int .i64) (.pair (.pair (.int .i64) (.pair (.int .i64) (.pair (.int .i64) (.pair (.int .i64) (.pair (.int .i64) .unit))))) (.pair (.pair (.int .i64) (.pair (.slice 3 (.int .i64)) .unit)) .unit)))))] (a0, a1, a2, ()) = p_spec_l4At N a0 a1 a2 := by kernel_rfl
theorem env104 : EnvOk Tryz.prog (fa.at true) E104 := envOk mixed tabOk ⟨⟨enters174, ok174, fun _ => rfl⟩, ⟨enters177, ok177, fun _ => rfl⟩, trivial⟩ trivial trivial
noncomputable def s104 : FSpec := ⟨[.imm true (.pair (.int .i64) (.pair (.slice 182 (.slice 141 (.pair (.int .i64) (.pair (.int .i64) (.pair (.int .i64) (.pair (.pair (.int .i64) (.pair (.int .i64) (.pair (.int .i64) (.pair (.int .i64) (.pair (.int .i64) .unit))))) (.pair (.pair (.int .i64) (.pair (.slice 3 (.int .i64)) .unit)) .unit))))))) .unit)), .imm false (.int .i64), .imm false (.int .i64)], [.deep true (.pair (.int .i64) (.pair (.int .i64) (.pair (.int .i64) (.pair (.pair (.int .i64) (.pair (.int .i64) (.pair (.int .i64) (.pair (.int .i64) (.pair (.int .i64) .unit))))) (.pair (.pair (.int .i64) (.pair (.slice 3 (.int .i64)) .unit)) .unit)))))], fun x => S_spec_l4At x.1 x.2.1 x.2.2.1, true⟩
theorem ok104 : FOk Tryz.prog fa 104 s104 := fn_says env104 Tryz.func104 rfl fun x y h => ⟨0, (r104 0 x.1 x.2.1 x.2.2.1).trans h⟩
theorem enters104 : Enters Tryz.prog 104 := enters Tryz.func104 (by kernel_rfl) rfl
noncomputable def E235 : Env := { tab := tab, sig := [(104, s104)], clos := [], live := [(0, [1, 2, 8, 18, 19, 20, 34, 35, 36], []), (2, [1, 2, 8, 9, 10, 11, 18, 19, 20, 34, 35, 36], [])], eqs := [], inl := [] }
set_option maxRecDepth 100000 in
theorem r235 (N : Nat) (a0 : T8) (a1 : Int) (a2 : Int) : runF N E235 Tryz.f235 [.imm true (.pair (.int .i64) (.pair (.slice 182 (.slice 141 (.pair (.int .i64) (.pair (.int .i64) (.pair (.int .i64) (.pair (.pair (.int .i64) (.pair (.int .i64) (.pair (.int .i64) (.pair (.int .i64) (.pair (.int .i64) .unit))))) (.pair (.pair (.int .i64) (.pair (.slice 3 (.int .i64)) .unit)) .unit))))))) .unit)), .imm false (.int .i64), .imm false (.int .i64)] [.deep false (.slice 25 (.slice 3 (.int .i64)))] (a0, a1, a2, ()) = p_spec_l6Deps N a0 a1 a2 := by kernel_rfl
theorem env235 : EnvOk Tryz.prog (fa.at true) E235 := envOk mixed tabOk ⟨⟨enters104, ok104, fun _ => rfl⟩, trivial⟩ trivial trivial
noncomputable def s235 : FSpec := ⟨[.imm true (.pair (.int .i64) (.pair (.slice 182 (.slice 141 (.pair (.int .i64) (.pair (.int .i64) (.pair (.int .i64) (.pair (.pair (.int .i64) (.pair (.int .i64) (.pair (.int .i64) (.pair (.int .i64) (.pair (.int .i64) .unit))))) (.pair (.pair (.int .i64) (.pair (.slice 3 (.int .i64)) .unit)) .unit))))))) .unit)), .imm false (.int .i64), .imm false (.int .i64)], [.deep false (.slice 25 (.slice 3 (.int .i64)))], fun x => S_spec_l6Deps x.1 x.2.1 x.2.2.1, true⟩
theorem ok235 : FOk Tryz.prog fa 235 s235 := fn_says env235 Tryz.func235 rfl fun x y h => let ⟨N, hN⟩ := lim_some h; ⟨N, (r235 N x.1 x.2.1 x.2.2.1).trans hN⟩
theorem enters235 : Enters Tryz.prog 235 := enters Tryz.func235 (by kernel_rfl) rfl
noncomputable def E116 : Env := { tab := tab, sig := [(188, s188)], clos := [], live := [(0, [1, 7, 8, 9], [])], eqs := [], inl := [] }
set_option maxRecDepth 100000 in
theorem r116 (N : Nat) (a0 : List (List Int)) (a1 : List Int) : runF N E116 Tryz.f116 [.imm false (.slice 25 (.slice 3 (.int .i64))), .imm false (.slice 3 (.int .i64))] [.imm false (.int .i64)] (a0, a1, ()) = p_spec_l6Find N a0 a1 := by kernel_rfl
theorem env116 : EnvOk Tryz.prog (fa.at true) E116 := envOk mixed tabOk ⟨⟨enters188, ok188, fun _ => rfl⟩, trivial⟩ trivial trivial
noncomputable def s116 : FSpec := ⟨[.imm false (.slice 25 (.slice 3 (.int .i64))), .imm false (.slice 3 (.int .i64))], [.imm false (.int .i64)], fun x => S_spec_l6Find x.1 x.2.1, true⟩
theorem ok116 : FOk Tryz.prog fa 116 s116 := fn_says env116 Tryz.func116 rfl fun x y h => let ⟨N, hN⟩ := lim_some h; ⟨N, (r116 N x.1 x.2.1).trans hN⟩
theorem enters116 : Enters Tryz.prog 116 := enters Tryz.func116 (by kernel_rfl) rfl
noncomputable def E103 : Env := { tab := tab, sig := [], clos := [], live := [(0, [0, 1, 5, 13, 14, 15, 16, 17, 18, 19, 20, 21, 22, 23, 24, 25, 26, 27, 28, 29, 30, 31, 32, 33, 34, 35, 36, 37, 38, 39, 40, 41, 42, 43, 44, 45, 46, 47, 48, 49], [])], eqs := [], inl := [] }
set_option maxRecDepth 100000 in
theorem r103 (N : Nat) (a0 : List (List Int)) (a1 : List Int) : runF N E103 Tryz.f103 [.imm false (.slice 25 (.slice 3 (.int .i64))), .imm false (.slice 3 (.int .i64))] [.imm false (.slice 25 (.slice 3 (.int .i64)))] (a0, a1, ()) = p_spec_l6Insert N a0 a1 := by kernel_rfl
theorem env103 : EnvOk Tryz.prog (fa.at true) E103 := envOk mixed tabOk trivial trivial trivial
noncomputable def s103 : FSpec := ⟨[.imm false (.slice 25 (.slice 3 (.int .i64))), .imm false (.slice 3 (.int .i64))], [.imm false (.slice 25 (.slice 3 (.int .i64)))], fun x => S_spec_l6Insert x.1 x.2.1, true⟩
theorem ok103 : FOk Tryz.prog fa 103 s103 := fn_says env103 Tryz.func103 rfl fun x y h => let ⟨N, hN⟩ := lim_some h; ⟨N, (r103 N x.1 x.2.1).trans hN⟩
theorem enters103 : Enters Tryz.prog 103 := enters Tryz.func103 (by kernel_rfl) rfl
noncomputable def E229 : Env := { tab := tab, sig := [(235, s235), (116, s116), (104, s104), (103, s103)], clos := [], live := [(0, [3, 7, 8, 9, 46, 47, 48, 49], [.frz (.r 8) 25 (.slice 3 (.int .i64)), .loose 3 []]), (2, [3, 7, 8, 9, 35, 36, 37, 46, 47, 48, 49], [.loose 3 [5], .lean (.r 8) [5]])], eqs := [], inl := [] }
set_option maxRecDepth 100000 in
theorem r229 (N : Nat) (a0 : T8) (a1 : Int) (a2 : Int) : runF N E229 Tryz.f229 [.imm true (.pair (.int .i64) (.pair (.slice 182 (.slice 141 (.pair (.int .i64) (.pair (.int .i64) (.pair (.int .i64) (.pair (.pair (.int .i64) (.pair (.int .i64) (.pair (.int .i64) (.pair (.int .i64) (.pair (.int .i64) .unit))))) (.pair (.pair (.int .i64) (.pair (.slice 3 (.int .i64)) .unit)) .unit))))))) .unit)), .imm false (.int .i64), .imm false (.int .i64)] [.imm false (.slice 25 (.slice 3 (.int .i64)))] (a0, a1, a2, ()) = p_spec_l6Blockers N a0 a1 a2 := by kernel_rfl
theorem env229 : EnvOk Tryz.prog (fa.at true) E229 := envOk mixed tabOk ⟨⟨enters235, ok235, fun _ => rfl⟩, ⟨enters116, ok116, fun _ => rfl⟩, ⟨enters104, ok104, fun _ => rfl⟩, ⟨enters103, ok103, fun _ => rfl⟩, trivial⟩ trivial trivial
noncomputable def s229 : FSpec := ⟨[.imm true (.pair (.int .i64) (.pair (.slice 182 (.slice 141 (.pair (.int .i64) (.pair (.int .i64) (.pair (.int .i64) (.pair (.pair (.int .i64) (.pair (.int .i64) (.pair (.int .i64) (.pair (.int .i64) (.pair (.int .i64) .unit))))) (.pair (.pair (.int .i64) (.pair (.slice 3 (.int .i64)) .unit)) .unit))))))) .unit)), .imm false (.int .i64), .imm false (.int .i64)], [.imm false (.slice 25 (.slice 3 (.int .i64)))], fun x => S_spec_l6Blockers x.1 x.2.1 x.2.2.1, true⟩
theorem ok229 : FOk Tryz.prog fa 229 s229 := fn_says env229 Tryz.func229 rfl fun x y h => let ⟨N, hN⟩ := lim_some h; ⟨N, (r229 N x.1 x.2.1 x.2.2.1).trans hN⟩
theorem enters229 : Enters Tryz.prog 229 := enters Tryz.func229 (by kernel_rfl) rfl
noncomputable def E169 : Env := { tab := tab, sig := [(228, s228), (229, s229)], clos := [], live := [(0, [1, 3, 7, 8, 9], [.loose 2 [3]])], eqs := [], inl := [] }
set_option maxRecDepth 100000 in
theorem r169 (N : Nat) (a0 : T8) : runF N E169 Tryz.f169 [.imm true (.pair (.int .i64) (.pair (.slice 182 (.slice 141 (.pair (.int .i64) (.pair (.int .i64) (.pair (.int .i64) (.pair (.pair (.int .i64) (.pair (.int .i64) (.pair (.int .i64) (.pair (.int .i64) (.pair (.int .i64) .unit))))) (.pair (.pair (.int .i64) (.pair (.slice 3 (.int .i64)) .unit)) .unit))))))) .unit))] [.imm false (.slice 25 (.slice 3 (.int .i64)))] (a0, ()) = p_spec_l6Ready N a0 := by kernel_rfl
theorem env169 : EnvOk Tryz.prog (fa.at true) E169 := envOk mixed tabOk ⟨⟨enters228, ok228, fun _ => rfl⟩, ⟨enters229, ok229, fun _ => rfl⟩, trivial⟩ trivial trivial
noncomputable def s169 : FSpec := ⟨[.imm true (.pair (.int .i64) (.pair (.slice 182 (.slice 141 (.pair (.int .i64) (.pair (.int .i64) (.pair (.int .i64) (.pair (.pair (.int .i64) (.pair (.int .i64) (.pair (.int .i64) (.pair (.int .i64) (.pair (.int .i64) .unit))))) (.pair (.pair (.int .i64) (.pair (.slice 3 (.int .i64)) .unit)) .unit))))))) .unit))], [.imm false (.slice 25 (.slice 3 (.int .i64)))], fun x => S_spec_l6Ready x.1, true⟩
theorem ok169 : FOk Tryz.prog fa 169 s169 := fn_says env169 Tryz.func169 rfl fun x y h => let ⟨N, hN⟩ := lim_some h; ⟨N, (r169 N x.1).trans hN⟩
theorem enters169 : Enters Tryz.prog 169 := enters Tryz.func169 (by kernel_rfl) rfl
noncomputable def E98 : Env := { tab := tab, sig := [(169, s169), (116, s116)], clos := [], live := [(0, [1, 3, 4, 5], []), (2, [1, 3, 4, 5, 6], [])], eqs := [], inl := [] }
set_option maxRecDepth 100000 in
theorem r98 (N : Nat) (a0 : T8) : runF N E98 Tryz.f98 [.imm true (.pair (.int .i64) (.pair (.slice 182 (.slice 141 (.pair (.int .i64) (.pair (.int .i64) (.pair (.int .i64) (.pair (.pair (.int .i64) (.pair (.int .i64) (.pair (.int .i64) (.pair (.int .i64) (.pair (.int .i64) .unit))))) (.pair (.pair (.int .i64) (.pair (.slice 3 (.int .i64)) .unit)) .unit))))))) .unit))] [.deep false (.slice 3 (.int .i64))] (a0, ()) = p_spec_l18Marks N a0 := by kernel_rfl
theorem env98 : EnvOk Tryz.prog (fa.at true) E98 := envOk mixed tabOk ⟨⟨enters169, ok169, fun _ => rfl⟩, ⟨enters116, ok116, fun _ => rfl⟩, trivial⟩ trivial trivial
noncomputable def s98 : FSpec := ⟨[.imm true (.pair (.int .i64) (.pair (.slice 182 (.slice 141 (.pair (.int .i64) (.pair (.int .i64) (.pair (.int .i64) (.pair (.pair (.int .i64) (.pair (.int .i64) (.pair (.int .i64) (.pair (.int .i64) (.pair (.int .i64) .unit))))) (.pair (.pair (.int .i64) (.pair (.slice 3 (.int .i64)) .unit)) .unit))))))) .unit))], [.deep false (.slice 3 (.int .i64))], fun x => S_spec_l18Marks x.1, true⟩
theorem ok98 : FOk Tryz.prog fa 98 s98 := fn_says env98 Tryz.func98 rfl fun x y h => let ⟨N, hN⟩ := lim_some h; ⟨N, (r98 N x.1).trans hN⟩
theorem enters98 : Enters Tryz.prog 98 := enters Tryz.func98 (by kernel_rfl) rfl
noncomputable def E41 : Env := { tab := tab, sig := [(72, s72), (98, s98)], clos := [], live := [], eqs := [], inl := [] }
set_option maxRecDepth 100000 in
theorem r41 (N : Nat) (a0 : T8) : runF N E41 Tryz.f41 [.imm true (.pair (.int .i64) (.pair (.slice 182 (.slice 141 (.pair (.int .i64) (.pair (.int .i64) (.pair (.int .i64) (.pair (.pair (.int .i64) (.pair (.int .i64) (.pair (.int .i64) (.pair (.int .i64) (.pair (.int .i64) .unit))))) (.pair (.pair (.int .i64) (.pair (.slice 3 (.int .i64)) .unit)) .unit))))))) .unit))] [.deep false (.slice 3 (.int .i64)), .imm false .bool] (a0, ()) = p_spec_MarksOf N a0 := by kernel_rfl
theorem env41 : EnvOk Tryz.prog (fa.at true) E41 := envOk mixed tabOk ⟨⟨enters72, ok72, fun _ => rfl⟩, ⟨enters98, ok98, fun _ => rfl⟩, trivial⟩ trivial trivial
noncomputable def s41 : FSpec := ⟨[.imm true (.pair (.int .i64) (.pair (.slice 182 (.slice 141 (.pair (.int .i64) (.pair (.int .i64) (.pair (.int .i64) (.pair (.pair (.int .i64) (.pair (.int .i64) (.pair (.int .i64) (.pair (.int .i64) (.pair (.int .i64) .unit))))) (.pair (.pair (.int .i64) (.pair (.slice 3 (.int .i64)) .unit)) .unit))))))) .unit))], [.deep false (.slice 3 (.int .i64)), .imm false .bool], fun x => S_spec_MarksOf x.1, true⟩
theorem ok41 : FOk Tryz.prog fa 41 s41 := fn_says env41 Tryz.func41 rfl fun x y h => ⟨0, (r41 0 x.1).trans h⟩
theorem enters41 : Enters Tryz.prog 41 := enters Tryz.func41 (by kernel_rfl) rfl
noncomputable def E77 : Env := { tab := tab, sig := [], clos := [], live := [], eqs := [], inl := [] }
set_option maxRecDepth 100000 in
theorem r77 (N : Nat) (a0 : Int) : runF N E77 Tryz.f77 [.imm false (.int .i64)] [.imm false .bool] (a0, ()) = p_impl_IsGroup N a0 := by kernel_rfl
theorem env77 : EnvOk Tryz.prog (fa.at true) E77 := envOk mixed tabOk trivial trivial trivial
noncomputable def s77 : FSpec := ⟨[.imm false (.int .i64)], [.imm false .bool], fun x => S_impl_IsGroup x.1, true⟩
theorem ok77 : FOk Tryz.prog fa 77 s77 := fn_says env77 Tryz.func77 rfl fun x y h => ⟨0, (r77 0 x.1).trans h⟩
theorem enters77 : Enters Tryz.prog 77 := enters Tryz.func77 (by kernel_rfl) rfl
noncomputable def E78 : Env := { tab := tab, sig := [], clos := [], live := [], eqs := [], inl := [] }
set_option maxRecDepth 100000 in
theorem r78 (N : Nat) (a0 : Int) (a1 : Int) (a2 : Int) : runF N E78 Tryz.f78 [.imm false (.int .i64), .imm false (.int .i64), .imm false (.int .i64)] [.imm false .bool] (a0, a1, a2, ()) = p_impl_within N a0 a1 a2 := by kernel_rfl
theorem env78 : EnvOk Tryz.prog (fa.at true) E78 := envOk mixed tabOk trivial trivial trivial
noncomputable def s78 : FSpec := ⟨[.imm false (.int .i64), .imm false (.int .i64), .imm false (.int .i64)], [.imm false .bool], fun x => S_impl_within x.1 x.2.1 x.2.2.1, true⟩
theorem ok78 : FOk Tryz.prog fa 78 s78 := fn_says env78 Tryz.func78 rfl fun x y h => ⟨0, (r78 0 x.1 x.2.1 x.2.2.1).trans h⟩
theorem enters78 : Enters Tryz.prog 78 := enters Tryz.func78 (by kernel_rfl) rfl
noncomputable def E265 : Env := { tab := tab, sig := [(78, s78)], clos := [], live := [], eqs := [], inl := [] }
set_option maxRecDepth 100000 in
theorem r265 (N : Nat) (a0 : Int) : runF N E265 Tryz.f265 [.imm false (.int .i64)] [.imm false .bool] (a0, ()) = p_impl_isAccount N a0 := by kernel_rfl
theorem env265 : EnvOk Tryz.prog (fa.at true) E265 := envOk mixed tabOk ⟨⟨enters78, ok78, fun _ => rfl⟩, trivial⟩ trivial trivial
noncomputable def s265 : FSpec := ⟨[.imm false (.int .i64)], [.imm false .bool], fun x => S_impl_isAccount x.1, true⟩
theorem ok265 : FOk Tryz.prog fa 265 s265 := fn_says env265 Tryz.func265 rfl fun x y h => ⟨0, (r265 0 x.1).trans h⟩
theorem enters265 : Enters Tryz.prog 265 := enters Tryz.func265 (by kernel_rfl) rfl
noncomputable def E206 : Env := { tab := tab, sig := [(78, s78), (265, s265)], clos := [], live := [], eqs := [(137, [false, false, false, false, false])], inl := [] }
set_option maxRecDepth 100000 in
theorem r206 (N : Nat) (a0 : T2) : runF N E206 Tryz.f206 [.imm true (.pair (.int .i64) (.pair (.int .i64) (.pair (.int .i64) (.pair (.int .i64) (.pair (.int .i64) .unit)))))] [.imm false .bool] (a0, ()) = p_impl_GoodCmd N a0 := by kernel_rfl
theorem env206 : EnvOk Tryz.prog (fa.at true) E206 := envOk mixed tabOk ⟨⟨enters78, ok78, fun _ => rfl⟩, ⟨enters265, ok265, fun _ => rfl⟩, trivial⟩ trivial ⟨eq137, trivial⟩
noncomputable def s206 : FSpec := ⟨[.imm true (.pair (.int .i64) (.pair (.int .i64) (.pair (.int .i64) (.pair (.int .i64) (.pair (.int .i64) .unit)))))], [.imm false .bool], fun x => S_impl_GoodCmd x.1, true⟩
theorem ok206 : FOk Tryz.prog fa 206 s206 := fn_says env206 Tryz.func206 rfl fun x y h => ⟨0, (r206 0 x.1).trans h⟩
theorem enters206 : Enters Tryz.prog 206 := enters Tryz.func206 (by kernel_rfl) rfl
noncomputable def E161 : Env := { tab := tab, sig := [], clos := [], live := [(0, [0, 1, 7, 8], [])], eqs := [], inl := [] }
set_option maxRecDepth 100000 in
theorem r161 (N : Nat) (a0 : List Int) (a1 : (Int × Unit) → Option Bool) : runF N E161 Tryz.f161 [.imm false (.slice 3 (.int .i64)), .clo [(false, (.int .i64))] .bool] [.imm false (.int .i64)] (a0, a1, ()) = p_IndexFunc_Lint_int N a0 a1 := by kernel_rfl
theorem env161 : EnvOk Tryz.prog (fa.at true) E161 := envOk mixed tabOk trivial trivial trivial
noncomputable def s161 : FSpec := ⟨[.imm false (.slice 3 (.int .i64)), .clo [(false, (.int .i64))] .bool], [.imm false (.int .i64)], fun x => S_IndexFunc_Lint_int x.1 x.2.1, true⟩
theorem ok161 : FOk Tryz.prog fa 161 s161 := fn_says env161 Tryz.func161 rfl fun x y h => let ⟨N, hN⟩ := lim_some h; ⟨N, (r161 N x.1 x.2.1).trans hN⟩
theorem enters161 : Enters Tryz.prog 161 := enters Tryz.func161 (by kernel_rfl) rfl
noncomputable def E80 : Env := { tab := tab, sig := [(161, s161)], clos := [], live := [], eqs := [], inl := [] }
set_option maxRecDepth 100000 in
theorem r80 (N : Nat) (a0 : List Int) (a1 : (Int × Unit) → Option Bool) : runF N E80 Tryz.f80 [.imm false (.slice 3 (.int .i64)), .clo [(false, (.int .i64))] .bool] [.imm false .bool] (a0, a1, ()) = p_ContainsFunc_Lint_int N a0 a1 := by kernel_rfl
theorem env80 : EnvOk Tryz.prog (fa.at true) E80 := envOk mixed tabOk ⟨⟨enters161, ok161, fun _ => rfl⟩, trivial⟩ trivial trivial
noncomputable def s80 : FSpec := ⟨[.imm false (.slice 3 (.int .i64)), .clo [(false, (.int .i64))] .bool], [.imm false .bool], fun x => S_ContainsFunc_Lint_int x.1 x.2.1, true⟩
theorem ok80 : FOk Tryz.prog fa 80 s80 := fn_says env80 Tryz.func80 rfl fun x y h => ⟨0, (r80 0 x.1 x.2.1).trans h⟩
theorem enters80 : Enters Tryz.prog 80 := enters Tryz.func80 (by kernel_rfl) rfl
theorem enters272 : Enters Tryz.prog 272 := enters Tryz.func272 (by kernel_rfl) rfl
noncomputable def E215 : Env := { tab := tab, sig := [(77, s77), (78, s78), (80, s80)], clos := [(272, ⟨Tryz.f272, [(false, (.int .i64))], []⟩)], live := [], eqs := [], inl := [] }
set_option maxRecDepth 100000 in
theorem r215 (N : Nat) (a0 : Int) (a1 : T6) : runF N E215 Tryz.f215 [.imm false (.int .i64), .imm true (.pair (.int .i64) (.pair (.slice 3 (.int .i64)) .unit))] [.imm false .bool] (a0, a1, ()) = p_impl_GoodAttr N a0 a1 := by kernel_rfl
theorem env215 : EnvOk Tryz.prog (fa.at true) E215 := envOk mixed tabOk ⟨⟨enters77, ok77, fun _ => rfl⟩, ⟨enters78, ok78, fun _ => rfl⟩, ⟨enters80, ok80, fun _ => rfl⟩, trivial⟩ ⟨⟨Tryz.func272, enters272⟩, trivial⟩ trivial
noncomputable def s215 : FSpec := ⟨[.imm false (.int .i64), .imm true (.pair (.int .i64) (.pair (.slice 3 (.int .i64)) .unit))], [.imm false .bool], fun x => S_impl_GoodAttr x.1 x.2.1, true⟩
theorem ok215 : FOk Tryz.prog fa 215 s215 := fn_says env215 Tryz.func215 rfl fun x y h => ⟨0, (r215 0 x.1 x.2.1).trans h⟩
theorem enters215 : Enters Tryz.prog 215 := enters Tryz.func215 (by kernel_rfl) rfl
noncomputable def E217 : Env := { tab := tab, sig := [], clos := [], live := [], eqs := [], inl := [] }
set_option maxRecDepth 100000 in
theorem r217 (N : Nat) (a0 : Int) : runF N E217 Tryz.f217 [.imm false (.int .i64)] [.deep true (.pair (.int .i64) (.pair (.slice 3 (.int .i64)) .unit))] (a0, ()) = p_impl_noneAttr N a0 := by kernel_rfl
theorem env217 : EnvOk Tryz.prog (fa.at true) E217 := envOk mixed tabOk trivial trivial trivial
noncomputable def s217 : FSpec := ⟨[.imm false (.int .i64)], [.deep true (.pair (.int .i64) (.pair (.slice 3 (.int .i64)) .unit))], fun x => S_impl_noneAttr x.1, true⟩
theorem ok217 : FOk Tryz.prog fa 217 s217 := fn_says env217 Tryz.func217 rfl fun x y h => ⟨0, (r217 0 x.1).trans h⟩
theorem enters217 : Enters Tryz.prog 217 := enters Tryz.func217 (by kernel_rfl) rfl
noncomputable def E152 : Env := { tab := tab, sig := [], clos := [], live := [(0, [0, 1, 12, 13], [])], eqs := [], inl := [] }
set_option maxRecDepth 100000 in
theorem r152 (N : Nat) (a0 : List Int) (a1 : List Int) : runF N E152 Tryz.f152 [.imm false (.slice 3 (.int .i64)), .imm false (.slice 3 (.int .i64))] [.imm false .bool] (a0, a1, ()) = p_Equal_Lint_int N a0 a1 := by kernel_rfl
theorem env152 : EnvOk Tryz.prog (fa.at true) E152 := envOk mixed tabOk trivial trivial trivial
noncomputable def s152 : FSpec := ⟨[.imm false (.slice 3 (.int .i64)), .imm false (.slice 3 (.int .i64))], [.imm false .bool], fun x => S_Equal_Lint_int x.1 x.2.1, true⟩
theorem ok152 : FOk Tryz.prog fa 152 s152 := fn_says env152 Tryz.func152 rfl fun x y h => let ⟨N, hN⟩ := lim_some h; ⟨N, (r152 N x.1 x.2.1).trans hN⟩
theorem enters152 : Enters Tryz.prog 152 := enters Tryz.func152 (by kernel_rfl) rfl
noncomputable def E216 : Env := { tab := tab, sig := [(152, s152)], clos := [], live := [], eqs := [], inl := [] }
set_option maxRecDepth 100000 in
theorem r216 (N : Nat) (a0 : T6) (a1 : T6) : runF N E216 Tryz.f216 [.imm true (.pair (.int .i64) (.pair (.slice 3 (.int .i64)) .unit)), .imm true (.pair (.int .i64) (.pair (.slice 3 (.int .i64)) .unit))] [.imm false .bool] (a0, a1, ()) = p_impl_SameAttr N a0 a1 := by kernel_rfl
theorem env216 : EnvOk Tryz.prog (fa.at true) E216 := envOk mixed tabOk ⟨⟨enters152, ok152, fun _ => rfl⟩, trivial⟩ trivial trivial
noncomputable def s216 : FSpec := ⟨[.imm true (.pair (.int .i64) (.pair (.slice 3 (.int .i64)) .unit)), .imm true (.pair (.int .i64) (.pair (.slice 3 (.int .i64)) .unit))], [.imm false .bool], fun x => S_impl_SameAttr x.1 x.2.1, true⟩
theorem ok216 : FOk Tryz.prog fa 216 s216 := fn_says env216 Tryz.func216 rfl fun x y h => ⟨0, (r216 0 x.1 x.2.1).trans h⟩
theorem enters216 : Enters Tryz.prog 216 := enters Tryz.func216 (by kernel_rfl) rfl
noncomputable def E149 : Env := { tab := tab, sig := [(78, s78), (206, s206), (215, s215), (217, s217), (216, s216)], clos := [], live := [], eqs := [(137, [false, false, false, false, false])], inl := [] }
set_option maxRecDepth 100000 in
theorem r149 (N : Nat) (a0 : Int) (a1 : T7) : runF N E149 Tryz.f149 [.imm false (.int .i64), .imm true (.pair (.int .i64) (.pair (.int .i64) (.pair (.int .i64) (.pair (.pair (.int .i64) (.pair (.int .i64) (.pair (.int .i64) (.pair (.int .i64) (.pair (.int .i64) .unit))))) (.pair (.pair (.int .i64) (.pair (.slice 3 (.int .i64)) .unit)) .unit)))))] [.imm false .bool] (a0, a1, ()) = p_impl_goodRow N a0 a1 := by kernel_rfl
theorem env149 : EnvOk Tryz.prog (fa.at true) E149 := envOk mixed tabOk ⟨⟨enters78, ok78, fun _ => rfl⟩, ⟨enters206, ok206, fun _ => rfl⟩, ⟨enters215, ok215, fun _ => rfl⟩, ⟨enters217, ok217, fun _ => rfl⟩, ⟨enters216, ok216, fun _ => rfl⟩, trivial⟩ trivial ⟨eq137, trivial⟩
noncomputable def s149 : FSpec := ⟨[.imm false (.int .i64), .imm true (.pair (.int .i64) (.pair (.int .i64) (.pair (.int .i64) (.pair (.pair (.int .i64) (.pair (.int .i64) (.pair (.int .i64) (.pair (.int .i64) (.pair (.int .i64) .unit))))) (.pair (.pair (.int .i64) (.pair (.slice 3 (.int .i64)) .unit)) .unit)))))], [.imm false .bool], fun x => S_impl_goodRow x.1 x.2.1, true⟩
theorem ok149 : FOk Tryz.prog fa 149 s149 := fn_says env149 Tryz.func149 rfl fun x y h => ⟨0, (r149 0 x.1 x.2.1).trans h⟩
theorem enters149 : Enters Tryz.prog 149 := enters Tryz.func149 (by kernel_rfl) rfl
noncomputable def E214 : Env := { tab := tab, sig := [], clos := [], live := [(0, [0, 1, 7, 8], [])], eqs := [], inl := [] }
set_option maxRecDepth 100000 in
theorem r214 (N : Nat) (a0 : List T7) (a1 : (T7 × Unit) → Option Bool) : runF N E214 Tryz.f214 [.imm false (.slice 141 (.pair (.int .i64) (.pair (.int .i64) (.pair (.int .i64) (.pair (.pair (.int .i64) (.pair (.int .i64) (.pair (.int .i64) (.pair (.int .i64) (.pair (.int .i64) .unit))))) (.pair (.pair (.int .i64) (.pair (.slice 3 (.int .i64)) .unit)) .unit)))))), .clo [(true, (.pair (.int .i64) (.pair (.int .i64) (.pair (.int .i64) (.pair (.pair (.int .i64) (.pair (.int .i64) (.pair (.int .i64) (.pair (.int .i64) (.pair (.int .i64) .unit))))) (.pair (.pair (.int .i64) (.pair (.slice 3 (.int .i64)) .unit)) .unit))))))] .bool] [.imm false (.int .i64)] (a0, a1, ()) = p_IndexFunc_Limpl_Row_impl_Row N a0 a1 := by kernel_rfl
theorem env214 : EnvOk Tryz.prog (fa.at true) E214 := envOk mixed tabOk trivial trivial trivial
noncomputable def s214 : FSpec := ⟨[.imm false (.slice 141 (.pair (.int .i64) (.pair (.int .i64) (.pair (.int .i64) (.pair (.pair (.int .i64) (.pair (.int .i64) (.pair (.int .i64) (.pair (.int .i64) (.pair (.int .i64) .unit))))) (.pair (.pair (.int .i64) (.pair (.slice 3 (.int .i64)) .unit)) .unit)))))), .clo [(true, (.pair (.int .i64) (.pair (.int .i64) (.pair (.int .i64) (.pair (.pair (.int .i64) (.pair (.int .i64) (.pair (.int .i64) (.pair (.int .i64) (.pair (.int .i64) .unit))))) (.pair (.pair (.int .i64) (.pair (.slice 3 (.int .i64)) .unit)) .unit))))))] .bool], [.imm false (.int .i64)], fun x => S_IndexFunc_Limpl_Row_impl_Row x.1 x.2.1, true⟩
theorem ok214 : FOk Tryz.prog fa 214 s214 := fn_says env214 Tryz.func214 rfl fun x y h => let ⟨N, hN⟩ := lim_some h; ⟨N, (r214 N x.1 x.2.1).trans hN⟩
theorem enters214 : Enters Tryz.prog 214 := enters Tryz.func214 (by kernel_rfl) rfl
end Go.Proofs.YtdcbankajhnepaaGreat.Am
