/- Functions, as they run on data. No condition. -/
import Derived.Test.YtdcbankajhnepaaGreatAmTab
import Derived.Test.YtdcbankajhnepaaGreatAmQ
set_option linter.unusedVariables false
set_option maxRecDepth 100000
namespace Go.Proofs.YtdcbankajhnepaaGreat.Am
open Go.AM Go.AM.P Go.Proofs Go.Shelf
noncomputable def E113 : Env := { tab := tab, sig := [], clos := [], live := [], eqs := [], inl := [] }
set_option maxRecDepth 100000 in
theorem r113 (N : Nat) (a0 : List Int) (a1 : Int) : runF N E113 Tryz.f113 [.imm false (.slice 3 (.int .i64)), .imm false (.int .i64)] [.imm false (.int .i64)] (a0, a1, ()) = p_laws_szIntS N a0 a1 := by kernel_rfl
theorem env113 : EnvOk Tryz.prog (fa.at true) E113 := envOk mixed tabOk trivial trivial trivial
noncomputable def s113 : FSpec := ⟨[.imm false (.slice 3 (.int .i64)), .imm false (.int .i64)], [.imm false (.int .i64)], fun x => S_laws_szIntS x.1 x.2.1, true⟩
theorem ok113 : FOk Tryz.prog fa 113 s113 := fn_says env113 Tryz.func113 rfl fun x y h => ⟨0, (r113 0 x.1 x.2.1).trans h⟩
theorem enters113 : Enters Tryz.prog 113 := enters Tryz.func113 (by kernel_rfl) rfl
noncomputable def E257 : Env := { tab := tab, sig := [(113, s113)], clos := [], live := [], eqs := [], inl := [] }
set_option maxRecDepth 100000 in
theorem r257 (N : Nat) (a0 : T6) (a1 : Int) : runF N E257 Tryz.f257 [.imm true (.pair (.int .i64) (.pair (.slice 3 (.int .i64)) .unit)), .imm false (.int .i64)] [.imm false (.int .i64)] (a0, a1, ()) = p_laws_szAttr N a0 a1 := by kernel_rfl
theorem env257 : EnvOk Tryz.prog (fa.at true) E257 := envOk mixed tabOk ⟨⟨enters113, ok113, fun _ => rfl⟩, trivial⟩ trivial trivial
noncomputable def s257 : FSpec := ⟨[.imm true (.pair (.int .i64) (.pair (.slice 3 (.int .i64)) .unit)), .imm false (.int .i64)], [.imm false (.int .i64)], fun x => S_laws_szAttr x.1 x.2.1, true⟩
theorem ok257 : FOk Tryz.prog fa 257 s257 := fn_says env257 Tryz.func257 rfl fun x y h => ⟨0, (r257 0 x.1 x.2.1).trans h⟩
theorem enters257 : Enters Tryz.prog 257 := enters Tryz.func257 (by kernel_rfl) rfl
noncomputable def E227 : Env := { tab := tab, sig := [(257, s257)], clos := [], live := [], eqs := [], inl := [] }
set_option maxRecDepth 100000 in
theorem r227 (N : Nat) (a0 : T7) (a1 : Int) : runF N E227 Tryz.f227 [.imm true (.pair (.int .i64) (.pair (.int .i64) (.pair (.int .i64) (.pair (.pair (.int .i64) (.pair (.int .i64) (.pair (.int .i64) (.pair (.int .i64) (.pair (.int .i64) .unit))))) (.pair (.pair (.int .i64) (.pair (.slice 3 (.int .i64)) .unit)) .unit))))), .imm false (.int .i64)] [.imm false (.int .i64)] (a0, a1, ()) = p_laws_szRow N a0 a1 := by kernel_rfl
theorem env227 : EnvOk Tryz.prog (fa.at true) E227 := envOk mixed tabOk ⟨⟨enters257, ok257, fun _ => rfl⟩, trivial⟩ trivial trivial
noncomputable def s227 : FSpec := ⟨[.imm true (.pair (.int .i64) (.pair (.int .i64) (.pair (.int .i64) (.pair (.pair (.int .i64) (.pair (.int .i64) (.pair (.int .i64) (.pair (.int .i64) (.pair (.int .i64) .unit))))) (.pair (.pair (.int .i64) (.pair (.slice 3 (.int .i64)) .unit)) .unit))))), .imm false (.int .i64)], [.imm false (.int .i64)], fun x => S_laws_szRow x.1 x.2.1, true⟩
theorem ok227 : FOk Tryz.prog fa 227 s227 := fn_says env227 Tryz.func227 rfl fun x y h => ⟨0, (r227 0 x.1 x.2.1).trans h⟩
theorem enters227 : Enters Tryz.prog 227 := enters Tryz.func227 (by kernel_rfl) rfl
noncomputable def E168 : Env := { tab := tab, sig := [(227, s227)], clos := [], live := [(0, [0, 1, 5], [])], eqs := [], inl := [] }
set_option maxRecDepth 100000 in
theorem r168 (N : Nat) (a0 : List T7) (a1 : Int) : runF N E168 Tryz.f168 [.imm false (.slice 257 (.pair (.int .i64) (.pair (.int .i64) (.pair (.int .i64) (.pair (.pair (.int .i64) (.pair (.int .i64) (.pair (.int .i64) (.pair (.int .i64) (.pair (.int .i64) .unit))))) (.pair (.pair (.int .i64) (.pair (.slice 3 (.int .i64)) .unit)) .unit)))))), .imm false (.int .i64)] [.imm false (.int .i64)] (a0, a1, ()) = p_laws_szRowS N a0 a1 := by kernel_rfl
theorem env168 : EnvOk Tryz.prog (fa.at true) E168 := envOk mixed tabOk ⟨⟨enters227, ok227, fun _ => rfl⟩, trivial⟩ trivial trivial
noncomputable def s168 : FSpec := ⟨[.imm false (.slice 257 (.pair (.int .i64) (.pair (.int .i64) (.pair (.int .i64) (.pair (.pair (.int .i64) (.pair (.int .i64) (.pair (.int .i64) (.pair (.int .i64) (.pair (.int .i64) .unit))))) (.pair (.pair (.int .i64) (.pair (.slice 3 (.int .i64)) .unit)) .unit)))))), .imm false (.int .i64)], [.imm false (.int .i64)], fun x => S_laws_szRowS x.1 x.2.1, true⟩
theorem ok168 : FOk Tryz.prog fa 168 s168 := fn_says env168 Tryz.func168 rfl fun x y h => let ⟨N, hN⟩ := lim_some h; ⟨N, (r168 N x.1 x.2.1).trans hN⟩
theorem enters168 : Enters Tryz.prog 168 := enters Tryz.func168 (by kernel_rfl) rfl
noncomputable def E97 : Env := { tab := tab, sig := [(168, s168)], clos := [], live := [(0, [0, 1, 5], [])], eqs := [], inl := [] }
set_option maxRecDepth 100000 in
theorem r97 (N : Nat) (a0 : List (List T7)) (a1 : Int) : runF N E97 Tryz.f97 [.imm false (.slice 201 (.slice 257 (.pair (.int .i64) (.pair (.int .i64) (.pair (.int .i64) (.pair (.pair (.int .i64) (.pair (.int .i64) (.pair (.int .i64) (.pair (.int .i64) (.pair (.int .i64) .unit))))) (.pair (.pair (.int .i64) (.pair (.slice 3 (.int .i64)) .unit)) .unit))))))), .imm false (.int .i64)] [.imm false (.int .i64)] (a0, a1, ()) = p_laws_szRowSS N a0 a1 := by kernel_rfl
theorem env97 : EnvOk Tryz.prog (fa.at true) E97 := envOk mixed tabOk ⟨⟨enters168, ok168, fun _ => rfl⟩, trivial⟩ trivial trivial
noncomputable def s97 : FSpec := ⟨[.imm false (.slice 201 (.slice 257 (.pair (.int .i64) (.pair (.int .i64) (.pair (.int .i64) (.pair (.pair (.int .i64) (.pair (.int .i64) (.pair (.int .i64) (.pair (.int .i64) (.pair (.int .i64) .unit))))) (.pair (.pair (.int .i64) (.pair (.slice 3 (.int .i64)) .unit)) .unit))))))), .imm false (.int .i64)], [.imm false (.int .i64)], fun x => S_laws_szRowSS x.1 x.2.1, true⟩
theorem ok97 : FOk Tryz.prog fa 97 s97 := fn_says env97 Tryz.func97 rfl fun x y h => let ⟨N, hN⟩ := lim_some h; ⟨N, (r97 N x.1 x.2.1).trans hN⟩
theorem enters97 : Enters Tryz.prog 97 := enters Tryz.func97 (by kernel_rfl) rfl
noncomputable def E40 : Env := { tab := tab, sig := [(97, s97)], clos := [], live := [], eqs := [], inl := [] }
set_option maxRecDepth 100000 in
theorem r40 (N : Nat) (a0 : T8) (a1 : Int) : runF N E40 Tryz.f40 [.imm true (.pair (.int .i64) (.pair (.slice 201 (.slice 257 (.pair (.int .i64) (.pair (.int .i64) (.pair (.int .i64) (.pair (.pair (.int .i64) (.pair (.int .i64) (.pair (.int .i64) (.pair (.int .i64) (.pair (.int .i64) .unit))))) (.pair (.pair (.int .i64) (.pair (.slice 3 (.int .i64)) .unit)) .unit))))))) .unit)), .imm false (.int .i64)] [.imm false (.int .i64)] (a0, a1, ()) = p_laws_szTable N a0 a1 := by kernel_rfl
theorem env40 : EnvOk Tryz.prog (fa.at true) E40 := envOk mixed tabOk ⟨⟨enters97, ok97, fun _ => rfl⟩, trivial⟩ trivial trivial
noncomputable def s40 : FSpec := ⟨[.imm true (.pair (.int .i64) (.pair (.slice 201 (.slice 257 (.pair (.int .i64) (.pair (.int .i64) (.pair (.int .i64) (.pair (.pair (.int .i64) (.pair (.int .i64) (.pair (.int .i64) (.pair (.int .i64) (.pair (.int .i64) .unit))))) (.pair (.pair (.int .i64) (.pair (.slice 3 (.int .i64)) .unit)) .unit))))))) .unit)), .imm false (.int .i64)], [.imm false (.int .i64)], fun x => S_laws_szTable x.1 x.2.1, true⟩
theorem ok40 : FOk Tryz.prog fa 40 s40 := fn_says env40 Tryz.func40 rfl fun x y h => ⟨0, (r40 0 x.1 x.2.1).trans h⟩
theorem enters40 : Enters Tryz.prog 40 := enters Tryz.func40 (by kernel_rfl) rfl
noncomputable def E30 : Env := { tab := tab, sig := [(40, s40)], clos := [], live := [(0, [0, 1, 5], [])], eqs := [], inl := [] }
set_option maxRecDepth 100000 in
theorem r30 (N : Nat) (a0 : List T8) (a1 : Int) : runF N E30 Tryz.f30 [.imm false (.slice 66 (.pair (.int .i64) (.pair (.slice 201 (.slice 257 (.pair (.int .i64) (.pair (.int .i64) (.pair (.int .i64) (.pair (.pair (.int .i64) (.pair (.int .i64) (.pair (.int .i64) (.pair (.int .i64) (.pair (.int .i64) .unit))))) (.pair (.pair (.int .i64) (.pair (.slice 3 (.int .i64)) .unit)) .unit))))))) .unit))), .imm false (.int .i64)] [.imm false (.int .i64)] (a0, a1, ()) = p_laws_szTableS N a0 a1 := by kernel_rfl
theorem env30 : EnvOk Tryz.prog (fa.at true) E30 := envOk mixed tabOk ⟨⟨enters40, ok40, fun _ => rfl⟩, trivial⟩ trivial trivial
noncomputable def s30 : FSpec := ⟨[.imm false (.slice 66 (.pair (.int .i64) (.pair (.slice 201 (.slice 257 (.pair (.int .i64) (.pair (.int .i64) (.pair (.int .i64) (.pair (.pair (.int .i64) (.pair (.int .i64) (.pair (.int .i64) (.pair (.int .i64) (.pair (.int .i64) .unit))))) (.pair (.pair (.int .i64) (.pair (.slice 3 (.int .i64)) .unit)) .unit))))))) .unit))), .imm false (.int .i64)], [.imm false (.int .i64)], fun x => S_laws_szTableS x.1 x.2.1, true⟩
theorem ok30 : FOk Tryz.prog fa 30 s30 := fn_says env30 Tryz.func30 rfl fun x y h => let ⟨N, hN⟩ := lim_some h; ⟨N, (r30 N x.1 x.2.1).trans hN⟩
theorem enters30 : Enters Tryz.prog 30 := enters Tryz.func30 (by kernel_rfl) rfl
noncomputable def E260 : Env := { tab := tab, sig := [], clos := [], live := [], eqs := [], inl := [] }
set_option maxRecDepth 100000 in
theorem r260 (N : Nat) (a0 : T2) : runF N E260 Tryz.f260 [.imm true (.pair (.int .i64) (.pair (.int .i64) (.pair (.int .i64) (.pair (.int .i64) (.pair (.int .i64) .unit)))))] [.imm true (.pair (.int .i64) (.pair (.int .i64) (.pair (.int .i64) (.pair (.int .i64) (.pair (.int .i64) .unit)))))] (a0, ()) = p_laws_toCmd N a0 := by kernel_rfl
theorem env260 : EnvOk Tryz.prog (fa.at true) E260 := envOk mixed tabOk trivial trivial trivial
noncomputable def s260 : FSpec := ⟨[.imm true (.pair (.int .i64) (.pair (.int .i64) (.pair (.int .i64) (.pair (.int .i64) (.pair (.int .i64) .unit)))))], [.imm true (.pair (.int .i64) (.pair (.int .i64) (.pair (.int .i64) (.pair (.int .i64) (.pair (.int .i64) .unit)))))], fun x => S_laws_toCmd x.1, true⟩
theorem ok260 : FOk Tryz.prog fa 260 s260 := fn_says env260 Tryz.func260 rfl fun x y h => ⟨0, (r260 0 x.1).trans h⟩
theorem enters260 : Enters Tryz.prog 260 := enters Tryz.func260 (by kernel_rfl) rfl
noncomputable def E119 : Env := { tab := tab, sig := [], clos := [], live := [(0, [0, 3, 4], [])], eqs := [], inl := [] }
set_option maxRecDepth 100000 in
theorem r119 (N : Nat) (a0 : List Int) : runF N E119 Tryz.f119 [.imm false (.slice 3 (.int .i64))] [.deep false (.slice 3 (.int .i64))] (a0, ()) = p_laws_toIntS N a0 := by kernel_rfl
theorem env119 : EnvOk Tryz.prog (fa.at true) E119 := envOk mixed tabOk trivial trivial trivial
noncomputable def s119 : FSpec := ⟨[.imm false (.slice 3 (.int .i64))], [.deep false (.slice 3 (.int .i64))], fun x => S_laws_toIntS x.1, true⟩
theorem ok119 : FOk Tryz.prog fa 119 s119 := fn_says env119 Tryz.func119 rfl fun x y h => let ⟨N, hN⟩ := lim_some h; ⟨N, (r119 N x.1).trans hN⟩
theorem enters119 : Enters Tryz.prog 119 := enters Tryz.func119 (by kernel_rfl) rfl
noncomputable def E261 : Env := { tab := tab, sig := [(119, s119)], clos := [], live := [], eqs := [], inl := [] }
set_option maxRecDepth 100000 in
theorem r261 (N : Nat) (a0 : T6) : runF N E261 Tryz.f261 [.imm true (.pair (.int .i64) (.pair (.slice 3 (.int .i64)) .unit))] [.deep true (.pair (.int .i64) (.pair (.slice 3 (.int .i64)) .unit))] (a0, ()) = p_laws_toAttr N a0 := by kernel_rfl
theorem env261 : EnvOk Tryz.prog (fa.at true) E261 := envOk mixed tabOk ⟨⟨enters119, ok119, fun _ => rfl⟩, trivial⟩ trivial trivial
noncomputable def s261 : FSpec := ⟨[.imm true (.pair (.int .i64) (.pair (.slice 3 (.int .i64)) .unit))], [.deep true (.pair (.int .i64) (.pair (.slice 3 (.int .i64)) .unit))], fun x => S_laws_toAttr x.1, true⟩
theorem ok261 : FOk Tryz.prog fa 261 s261 := fn_says env261 Tryz.func261 rfl fun x y h => ⟨0, (r261 0 x.1).trans h⟩
theorem enters261 : Enters Tryz.prog 261 := enters Tryz.func261 (by kernel_rfl) rfl
noncomputable def E230 : Env := { tab := tab, sig := [(260, s260), (261, s261)], clos := [], live := [], eqs := [], inl := [] }
set_option maxRecDepth 100000 in
theorem r230 (N : Nat) (a0 : T7) : runF N E230 Tryz.f230 [.imm true (.pair (.int .i64) (.pair (.int .i64) (.pair (.int .i64) (.pair (.pair (.int .i64) (.pair (.int .i64) (.pair (.int .i64) (.pair (.int .i64) (.pair (.int .i64) .unit))))) (.pair (.pair (.int .i64) (.pair (.slice 3 (.int .i64)) .unit)) .unit)))))] [.deep true (.pair (.int .i64) (.pair (.int .i64) (.pair (.int .i64) (.pair (.pair (.int .i64) (.pair (.int .i64) (.pair (.int .i64) (.pair (.int .i64) (.pair (.int .i64) .unit))))) (.pair (.pair (.int .i64) (.pair (.slice 3 (.int .i64)) .unit)) .unit)))))] (a0, ()) = p_laws_toRow N a0 := by kernel_rfl
theorem env230 : EnvOk Tryz.prog (fa.at true) E230 := envOk mixed tabOk ⟨⟨enters260, ok260, fun _ => rfl⟩, ⟨enters261, ok261, fun _ => rfl⟩, trivial⟩ trivial trivial
noncomputable def s230 : FSpec := ⟨[.imm true (.pair (.int .i64) (.pair (.int .i64) (.pair (.int .i64) (.pair (.pair (.int .i64) (.pair (.int .i64) (.pair (.int .i64) (.pair (.int .i64) (.pair (.int .i64) .unit))))) (.pair (.pair (.int .i64) (.pair (.slice 3 (.int .i64)) .unit)) .unit)))))], [.deep true (.pair (.int .i64) (.pair (.int .i64) (.pair (.int .i64) (.pair (.pair (.int .i64) (.pair (.int .i64) (.pair (.int .i64) (.pair (.int .i64) (.pair (.int .i64) .unit))))) (.pair (.pair (.int .i64) (.pair (.slice 3 (.int .i64)) .unit)) .unit)))))], fun x => S_laws_toRow x.1, true⟩
theorem ok230 : FOk Tryz.prog fa 230 s230 := fn_says env230 Tryz.func230 rfl fun x y h => ⟨0, (r230 0 x.1).trans h⟩
theorem enters230 : Enters Tryz.prog 230 := enters Tryz.func230 (by kernel_rfl) rfl
noncomputable def E170 : Env := { tab := tab, sig := [(230, s230)], clos := [], live := [(0, [0, 3, 4], [])], eqs := [], inl := [] }
set_option maxRecDepth 100000 in
theorem r170 (N : Nat) (a0 : List T7) : runF N E170 Tryz.f170 [.imm false (.slice 257 (.pair (.int .i64) (.pair (.int .i64) (.pair (.int .i64) (.pair (.pair (.int .i64) (.pair (.int .i64) (.pair (.int .i64) (.pair (.int .i64) (.pair (.int .i64) .unit))))) (.pair (.pair (.int .i64) (.pair (.slice 3 (.int .i64)) .unit)) .unit))))))] [.deep false (.slice 141 (.pair (.int .i64) (.pair (.int .i64) (.pair (.int .i64) (.pair (.pair (.int .i64) (.pair (.int .i64) (.pair (.int .i64) (.pair (.int .i64) (.pair (.int .i64) .unit))))) (.pair (.pair (.int .i64) (.pair (.slice 3 (.int .i64)) .unit)) .unit))))))] (a0, ()) = p_laws_toRowS N a0 := by kernel_rfl
theorem env170 : EnvOk Tryz.prog (fa.at true) E170 := envOk mixed tabOk ⟨⟨enters230, ok230, fun _ => rfl⟩, trivial⟩ trivial trivial
noncomputable def s170 : FSpec := ⟨[.imm false (.slice 257 (.pair (.int .i64) (.pair (.int .i64) (.pair (.int .i64) (.pair (.pair (.int .i64) (.pair (.int .i64) (.pair (.int .i64) (.pair (.int .i64) (.pair (.int .i64) .unit))))) (.pair (.pair (.int .i64) (.pair (.slice 3 (.int .i64)) .unit)) .unit))))))], [.deep false (.slice 141 (.pair (.int .i64) (.pair (.int .i64) (.pair (.int .i64) (.pair (.pair (.int .i64) (.pair (.int .i64) (.pair (.int .i64) (.pair (.int .i64) (.pair (.int .i64) .unit))))) (.pair (.pair (.int .i64) (.pair (.slice 3 (.int .i64)) .unit)) .unit))))))], fun x => S_laws_toRowS x.1, true⟩
theorem ok170 : FOk Tryz.prog fa 170 s170 := fn_says env170 Tryz.func170 rfl fun x y h => let ⟨N, hN⟩ := lim_some h; ⟨N, (r170 N x.1).trans hN⟩
theorem enters170 : Enters Tryz.prog 170 := enters Tryz.func170 (by kernel_rfl) rfl
noncomputable def E99 : Env := { tab := tab, sig := [(170, s170)], clos := [], live := [(0, [0, 3, 4], [])], eqs := [], inl := [] }
set_option maxRecDepth 100000 in
theorem r99 (N : Nat) (a0 : List (List T7)) : runF N E99 Tryz.f99 [.imm false (.slice 201 (.slice 257 (.pair (.int .i64) (.pair (.int .i64) (.pair (.int .i64) (.pair (.pair (.int .i64) (.pair (.int .i64) (.pair (.int .i64) (.pair (.int .i64) (.pair (.int .i64) .unit))))) (.pair (.pair (.int .i64) (.pair (.slice 3 (.int .i64)) .unit)) .unit)))))))] [.deep false (.slice 182 (.slice 141 (.pair (.int .i64) (.pair (.int .i64) (.pair (.int .i64) (.pair (.pair (.int .i64) (.pair (.int .i64) (.pair (.int .i64) (.pair (.int .i64) (.pair (.int .i64) .unit))))) (.pair (.pair (.int .i64) (.pair (.slice 3 (.int .i64)) .unit)) .unit)))))))] (a0, ()) = p_laws_toRowSS N a0 := by kernel_rfl
theorem env99 : EnvOk Tryz.prog (fa.at true) E99 := envOk mixed tabOk ⟨⟨enters170, ok170, fun _ => rfl⟩, trivial⟩ trivial trivial
noncomputable def s99 : FSpec := ⟨[.imm false (.slice 201 (.slice 257 (.pair (.int .i64) (.pair (.int .i64) (.pair (.int .i64) (.pair (.pair (.int .i64) (.pair (.int .i64) (.pair (.int .i64) (.pair (.int .i64) (.pair (.int .i64) .unit))))) (.pair (.pair (.int .i64) (.pair (.slice 3 (.int .i64)) .unit)) .unit)))))))], [.deep false (.slice 182 (.slice 141 (.pair (.int .i64) (.pair (.int .i64) (.pair (.int .i64) (.pair (.pair (.int .i64) (.pair (.int .i64) (.pair (.int .i64) (.pair (.int .i64) (.pair (.int .i64) .unit))))) (.pair (.pair (.int .i64) (.pair (.slice 3 (.int .i64)) .unit)) .unit)))))))], fun x => S_laws_toRowSS x.1, true⟩
theorem ok99 : FOk Tryz.prog fa 99 s99 := fn_says env99 Tryz.func99 rfl fun x y h => let ⟨N, hN⟩ := lim_some h; ⟨N, (r99 N x.1).trans hN⟩
theorem enters99 : Enters Tryz.prog 99 := enters Tryz.func99 (by kernel_rfl) rfl
noncomputable def E42 : Env := { tab := tab, sig := [(99, s99)], clos := [], live := [], eqs := [], inl := [] }
set_option maxRecDepth 100000 in
theorem r42 (N : Nat) (a0 : T8) : runF N E42 Tryz.f42 [.imm true (.pair (.int .i64) (.pair (.slice 201 (.slice 257 (.pair (.int .i64) (.pair (.int .i64) (.pair (.int .i64) (.pair (.pair (.int .i64) (.pair (.int .i64) (.pair (.int .i64) (.pair (.int .i64) (.pair (.int .i64) .unit))))) (.pair (.pair (.int .i64) (.pair (.slice 3 (.int .i64)) .unit)) .unit))))))) .unit))] [.deep true (.pair (.int .i64) (.pair (.slice 182 (.slice 141 (.pair (.int .i64) (.pair (.int .i64) (.pair (.int .i64) (.pair (.pair (.int .i64) (.pair (.int .i64) (.pair (.int .i64) (.pair (.int .i64) (.pair (.int .i64) .unit))))) (.pair (.pair (.int .i64) (.pair (.slice 3 (.int .i64)) .unit)) .unit))))))) .unit))] (a0, ()) = p_laws_toTable N a0 := by kernel_rfl
theorem env42 : EnvOk Tryz.prog (fa.at true) E42 := envOk mixed tabOk ⟨⟨enters99, ok99, fun _ => rfl⟩, trivial⟩ trivial trivial
noncomputable def s42 : FSpec := ⟨[.imm true (.pair (.int .i64) (.pair (.slice 201 (.slice 257 (.pair (.int .i64) (.pair (.int .i64) (.pair (.int .i64) (.pair (.pair (.int .i64) (.pair (.int .i64) (.pair (.int .i64) (.pair (.int .i64) (.pair (.int .i64) .unit))))) (.pair (.pair (.int .i64) (.pair (.slice 3 (.int .i64)) .unit)) .unit))))))) .unit))], [.deep true (.pair (.int .i64) (.pair (.slice 182 (.slice 141 (.pair (.int .i64) (.pair (.int .i64) (.pair (.int .i64) (.pair (.pair (.int .i64) (.pair (.int .i64) (.pair (.int .i64) (.pair (.int .i64) (.pair (.int .i64) .unit))))) (.pair (.pair (.int .i64) (.pair (.slice 3 (.int .i64)) .unit)) .unit))))))) .unit))], fun x => S_laws_toTable x.1, true⟩
theorem ok42 : FOk Tryz.prog fa 42 s42 := fn_says env42 Tryz.func42 rfl fun x y h => ⟨0, (r42 0 x.1).trans h⟩
theorem enters42 : Enters Tryz.prog 42 := enters Tryz.func42 (by kernel_rfl) rfl
noncomputable def E31 : Env := { tab := tab, sig := [(42, s42)], clos := [], live := [(0, [0, 3, 4], [])], eqs := [], inl := [] }
set_option maxRecDepth 100000 in
theorem r31 (N : Nat) (a0 : List T8) : runF N E31 Tryz.f31 [.imm false (.slice 66 (.pair (.int .i64) (.pair (.slice 201 (.slice 257 (.pair (.int .i64) (.pair (.int .i64) (.pair (.int .i64) (.pair (.pair (.int .i64) (.pair (.int .i64) (.pair (.int .i64) (.pair (.int .i64) (.pair (.int .i64) .unit))))) (.pair (.pair (.int .i64) (.pair (.slice 3 (.int .i64)) .unit)) .unit))))))) .unit)))] [.deep false (.slice 30 (.pair (.int .i64) (.pair (.slice 182 (.slice 141 (.pair (.int .i64) (.pair (.int .i64) (.pair (.int .i64) (.pair (.pair (.int .i64) (.pair (.int .i64) (.pair (.int .i64) (.pair (.int .i64) (.pair (.int .i64) .unit))))) (.pair (.pair (.int .i64) (.pair (.slice 3 (.int .i64)) .unit)) .unit))))))) .unit)))] (a0, ()) = p_laws_toTableS N a0 := by kernel_rfl
theorem env31 : EnvOk Tryz.prog (fa.at true) E31 := envOk mixed tabOk ⟨⟨enters42, ok42, fun _ => rfl⟩, trivial⟩ trivial trivial
noncomputable def s31 : FSpec := ⟨[.imm false (.slice 66 (.pair (.int .i64) (.pair (.slice 201 (.slice 257 (.pair (.int .i64) (.pair (.int .i64) (.pair (.int .i64) (.pair (.pair (.int .i64) (.pair (.int .i64) (.pair (.int .i64) (.pair (.int .i64) (.pair (.int .i64) .unit))))) (.pair (.pair (.int .i64) (.pair (.slice 3 (.int .i64)) .unit)) .unit))))))) .unit)))], [.deep false (.slice 30 (.pair (.int .i64) (.pair (.slice 182 (.slice 141 (.pair (.int .i64) (.pair (.int .i64) (.pair (.int .i64) (.pair (.pair (.int .i64) (.pair (.int .i64) (.pair (.int .i64) (.pair (.int .i64) (.pair (.int .i64) .unit))))) (.pair (.pair (.int .i64) (.pair (.slice 3 (.int .i64)) .unit)) .unit))))))) .unit)))], fun x => S_laws_toTableS x.1, true⟩
theorem ok31 : FOk Tryz.prog fa 31 s31 := fn_says env31 Tryz.func31 rfl fun x y h => let ⟨N, hN⟩ := lim_some h; ⟨N, (r31 N x.1).trans hN⟩
theorem enters31 : Enters Tryz.prog 31 := enters Tryz.func31 (by kernel_rfl) rfl
noncomputable def E89 : Env := { tab := tab, sig := [], clos := [], live := [], eqs := [], inl := [] }
set_option maxRecDepth 100000 in
theorem r89 (N : Nat) (a0 : Int) : runF N E89 Tryz.f89 [.imm false (.int .i64)] [.imm false .bool] (a0, ()) = p_spec_IsGroup N a0 := by kernel_rfl
theorem env89 : EnvOk Tryz.prog (fa.at true) E89 := envOk mixed tabOk trivial trivial trivial
noncomputable def s89 : FSpec := ⟨[.imm false (.int .i64)], [.imm false .bool], fun x => S_spec_IsGroup x.1, true⟩
theorem ok89 : FOk Tryz.prog fa 89 s89 := fn_says env89 Tryz.func89 rfl fun x y h => ⟨0, (r89 0 x.1).trans h⟩
theorem enters89 : Enters Tryz.prog 89 := enters Tryz.func89 (by kernel_rfl) rfl
noncomputable def E90 : Env := { tab := tab, sig := [], clos := [], live := [], eqs := [], inl := [] }
set_option maxRecDepth 100000 in
theorem r90 (N : Nat) (a0 : Int) (a1 : Int) (a2 : Int) : runF N E90 Tryz.f90 [.imm false (.int .i64), .imm false (.int .i64), .imm false (.int .i64)] [.imm false .bool] (a0, a1, a2, ()) = p_spec_l1In N a0 a1 a2 := by kernel_rfl
theorem env90 : EnvOk Tryz.prog (fa.at true) E90 := envOk mixed tabOk trivial trivial trivial
noncomputable def s90 : FSpec := ⟨[.imm false (.int .i64), .imm false (.int .i64), .imm false (.int .i64)], [.imm false .bool], fun x => S_spec_l1In x.1 x.2.1 x.2.2.1, true⟩
theorem ok90 : FOk Tryz.prog fa 90 s90 := fn_says env90 Tryz.func90 rfl fun x y h => ⟨0, (r90 0 x.1 x.2.1 x.2.2.1).trans h⟩
theorem enters90 : Enters Tryz.prog 90 := enters Tryz.func90 (by kernel_rfl) rfl
noncomputable def E28 : Env := { tab := tab, sig := [(89, s89), (90, s90)], clos := [], live := [], eqs := [], inl := [] }
set_option maxRecDepth 100000 in
theorem r28 (N : Nat) (a0 : Int) (a1 : Int) : runF N E28 Tryz.f28 [.imm false (.int .i64), .imm false (.int .i64)] [.deep true (.pair (.int .i64) (.pair (.int .i64) (.pair (.slice 25 (.slice 3 (.int .i64))) (.pair (.slice 3 (.int .i64)) .unit)))), .imm false .bool] (a0, a1, ()) = p_spec_NewWatch N a0 a1 := by kernel_rfl
theorem env28 : EnvOk Tryz.prog (fa.at true) E28 := envOk mixed tabOk ⟨⟨enters89, ok89, fun _ => rfl⟩, ⟨enters90, ok90, fun _ => rfl⟩, trivial⟩ trivial trivial
noncomputable def s28 : FSpec := ⟨[.imm false (.int .i64), .imm false (.int .i64)], [.deep true (.pair (.int .i64) (.pair (.int .i64) (.pair (.slice 25 (.slice 3 (.int .i64))) (.pair (.slice 3 (.int .i64)) .unit)))), .imm false .bool], fun x => S_spec_NewWatch x.1 x.2.1, true⟩
theorem ok28 : FOk Tryz.prog fa 28 s28 := fn_says env28 Tryz.func28 rfl fun x y h => ⟨0, (r28 0 x.1 x.2.1).trans h⟩
theorem enters28 : Enters Tryz.prog 28 := enters Tryz.func28 (by kernel_rfl) rfl
noncomputable def E174 : Env := { tab := tab, sig := [], clos := [], live := [], eqs := [], inl := [] }
set_option maxRecDepth 100000 in
theorem r174 (N : Nat) (a0 : Int) : runF N E174 Tryz.f174 [.imm false (.int .i64)] [.deep true (.pair (.int .i64) (.pair (.slice 3 (.int .i64)) .unit))] (a0, ()) = p_spec_l3None N a0 := by kernel_rfl
theorem env174 : EnvOk Tryz.prog (fa.at true) E174 := envOk mixed tabOk trivial trivial trivial
noncomputable def s174 : FSpec := ⟨[.imm false (.int .i64)], [.deep true (.pair (.int .i64) (.pair (.slice 3 (.int .i64)) .unit))], fun x => S_spec_l3None x.1, true⟩
theorem ok174 : FOk Tryz.prog fa 174 s174 := fn_says env174 Tryz.func174 rfl fun x y h => ⟨0, (r174 0 x.1).trans h⟩
theorem enters174 : Enters Tryz.prog 174 := enters Tryz.func174 (by kernel_rfl) rfl
noncomputable def E188 : Env := { tab := tab, sig := [], clos := [], live := [(0, [0, 1, 12, 13], [])], eqs := [], inl := [] }
set_option maxRecDepth 100000 in
theorem r188 (N : Nat) (a0 : List Int) (a1 : List Int) : runF N E188 Tryz.f188 [.imm false (.slice 3 (.int .i64)), .imm false (.slice 3 (.int .i64))] [.imm false .bool] (a0, a1, ()) = p_spec_l1Same N a0 a1 := by kernel_rfl
theorem env188 : EnvOk Tryz.prog (fa.at true) E188 := envOk mixed tabOk trivial trivial trivial
noncomputable def s188 : FSpec := ⟨[.imm false (.slice 3 (.int .i64)), .imm false (.slice 3 (.int .i64))], [.imm false .bool], fun x => S_spec_l1Same x.1 x.2.1, true⟩
theorem ok188 : FOk Tryz.prog fa 188 s188 := fn_says env188 Tryz.func188 rfl fun x y h => let ⟨N, hN⟩ := lim_some h; ⟨N, (r188 N x.1 x.2.1).trans hN⟩
theorem enters188 : Enters Tryz.prog 188 := enters Tryz.func188 (by kernel_rfl) rfl
noncomputable def E219 : Env := { tab := tab, sig := [(188, s188)], clos := [], live := [], eqs := [], inl := [] }
set_option maxRecDepth 100000 in
theorem r219 (N : Nat) (a0 : T6) (a1 : T6) : runF N E219 Tryz.f219 [.imm true (.pair (.int .i64) (.pair (.slice 3 (.int .i64)) .unit)), .imm true (.pair (.int .i64) (.pair (.slice 3 (.int .i64)) .unit))] [.imm false .bool] (a0, a1, ()) = p_spec_SameAttr N a0 a1 := by kernel_rfl
theorem env219 : EnvOk Tryz.prog (fa.at true) E219 := envOk mixed tabOk ⟨⟨enters188, ok188, fun _ => rfl⟩, trivial⟩ trivial trivial
noncomputable def s219 : FSpec := ⟨[.imm true (.pair (.int .i64) (.pair (.slice 3 (.int .i64)) .unit)), .imm true (.pair (.int .i64) (.pair (.slice 3 (.int .i64)) .unit))], [.imm false .bool], fun x => S_spec_SameAttr x.1 x.2.1, true⟩
theorem ok219 : FOk Tryz.prog fa 219 s219 := fn_says env219 Tryz.func219 rfl fun x y h => ⟨0, (r219 0 x.1 x.2.1).trans h⟩
theorem enters219 : Enters Tryz.prog 219 := enters Tryz.func219 (by kernel_rfl) rfl
noncomputable def E298 : Env := { tab := tab, sig := [(90, s90)], clos := [], live := [], eqs := [], inl := [] }
set_option maxRecDepth 100000 in
theorem r298 (N : Nat) (a0 : Int) : runF N E298 Tryz.f298 [.imm false (.int .i64)] [.imm false .bool] (a0, ()) = p_spec_l2Account N a0 := by kernel_rfl
theorem env298 : EnvOk Tryz.prog (fa.at true) E298 := envOk mixed tabOk ⟨⟨enters90, ok90, fun _ => rfl⟩, trivial⟩ trivial trivial
noncomputable def s298 : FSpec := ⟨[.imm false (.int .i64)], [.imm false .bool], fun x => S_spec_l2Account x.1, true⟩
theorem ok298 : FOk Tryz.prog fa 298 s298 := fn_says env298 Tryz.func298 rfl fun x y h => ⟨0, (r298 0 x.1).trans h⟩
theorem enters298 : Enters Tryz.prog 298 := enters Tryz.func298 (by kernel_rfl) rfl
noncomputable def E273 : Env := { tab := tab, sig := [(298, s298), (90, s90)], clos := [], live := [], eqs := [], inl := [] }
set_option maxRecDepth 100000 in
theorem r273 (N : Nat) (a0 : T2) : runF N E273 Tryz.f273 [.imm true (.pair (.int .i64) (.pair (.int .i64) (.pair (.int .i64) (.pair (.int .i64) (.pair (.int .i64) .unit)))))] [.imm false (.int .i64)] (a0, ()) = p_spec_l2Code N a0 := by kernel_rfl
theorem env273 : EnvOk Tryz.prog (fa.at true) E273 := envOk mixed tabOk ⟨⟨enters298, ok298, fun _ => rfl⟩, ⟨enters90, ok90, fun _ => rfl⟩, trivial⟩ trivial trivial
noncomputable def s273 : FSpec := ⟨[.imm true (.pair (.int .i64) (.pair (.int .i64) (.pair (.int .i64) (.pair (.int .i64) (.pair (.int .i64) .unit)))))], [.imm false (.int .i64)], fun x => S_spec_l2Code x.1, true⟩
theorem ok273 : FOk Tryz.prog fa 273 s273 := fn_says env273 Tryz.func273 rfl fun x y h => ⟨0, (r273 0 x.1).trans h⟩
theorem enters273 : Enters Tryz.prog 273 := enters Tryz.func273 (by kernel_rfl) rfl
noncomputable def E220 : Env := { tab := tab, sig := [(273, s273)], clos := [], live := [], eqs := [(137, [false, false, false, false, false])], inl := [] }
set_option maxRecDepth 100000 in
theorem r220 (N : Nat) (a0 : T2) : runF N E220 Tryz.f220 [.imm true (.pair (.int .i64) (.pair (.int .i64) (.pair (.int .i64) (.pair (.int .i64) (.pair (.int .i64) .unit)))))] [.imm false .bool] (a0, ()) = p_spec_GoodCmd N a0 := by kernel_rfl
theorem env220 : EnvOk Tryz.prog (fa.at true) E220 := envOk mixed tabOk ⟨⟨enters273, ok273, fun _ => rfl⟩, trivial⟩ trivial ⟨eq137, trivial⟩
noncomputable def s220 : FSpec := ⟨[.imm true (.pair (.int .i64) (.pair (.int .i64) (.pair (.int .i64) (.pair (.int .i64) (.pair (.int .i64) .unit)))))], [.imm false .bool], fun x => S_spec_GoodCmd x.1, true⟩
theorem ok220 : FOk Tryz.prog fa 220 s220 := fn_says env220 Tryz.func220 rfl fun x y h => ⟨0, (r220 0 x.1).trans h⟩
theorem enters220 : Enters Tryz.prog 220 := enters Tryz.func220 (by kernel_rfl) rfl
noncomputable def E154 : Env := { tab := tab, sig := [(90, s90)], clos := [], live := [(0, [1, 2, 9, 10, 11], [])], eqs := [], inl := [] }
set_option maxRecDepth 100000 in
theorem r154 (N : Nat) (a0 : List Int) (a1 : Int) (a2 : Int) : runF N E154 Tryz.f154 [.imm false (.slice 3 (.int .i64)), .imm false (.int .i64), .imm false (.int .i64)] [.imm false .bool] (a0, a1, a2, ()) = p_spec_l1All N a0 a1 a2 := by kernel_rfl
theorem env154 : EnvOk Tryz.prog (fa.at true) E154 := envOk mixed tabOk ⟨⟨enters90, ok90, fun _ => rfl⟩, trivial⟩ trivial trivial
noncomputable def s154 : FSpec := ⟨[.imm false (.slice 3 (.int .i64)), .imm false (.int .i64), .imm false (.int .i64)], [.imm false .bool], fun x => S_spec_l1All x.1 x.2.1 x.2.2.1, true⟩
theorem ok154 : FOk Tryz.prog fa 154 s154 := fn_says env154 Tryz.func154 rfl fun x y h => let ⟨N, hN⟩ := lim_some h; ⟨N, (r154 N x.1 x.2.1 x.2.2.1).trans hN⟩
theorem enters154 : Enters Tryz.prog 154 := enters Tryz.func154 (by kernel_rfl) rfl
noncomputable def E221 : Env := { tab := tab, sig := [(90, s90), (154, s154)], clos := [], live := [], eqs := [], inl := [] }
set_option maxRecDepth 100000 in
theorem r221 (N : Nat) (a0 : Int) (a1 : T6) : runF N E221 Tryz.f221 [.imm false (.int .i64), .imm true (.pair (.int .i64) (.pair (.slice 3 (.int .i64)) .unit))] [.imm false .bool] (a0, a1, ()) = p_spec_l3Attr N a0 a1 := by kernel_rfl
theorem env221 : EnvOk Tryz.prog (fa.at true) E221 := envOk mixed tabOk ⟨⟨enters90, ok90, fun _ => rfl⟩, ⟨enters154, ok154, fun _ => rfl⟩, trivial⟩ trivial trivial
noncomputable def s221 : FSpec := ⟨[.imm false (.int .i64), .imm true (.pair (.int .i64) (.pair (.slice 3 (.int .i64)) .unit))], [.imm false .bool], fun x => S_spec_l3Attr x.1 x.2.1, true⟩
theorem ok221 : FOk Tryz.prog fa 221 s221 := fn_says env221 Tryz.func221 rfl fun x y h => ⟨0, (r221 0 x.1 x.2.1).trans h⟩
theorem enters221 : Enters Tryz.prog 221 := enters Tryz.func221 (by kernel_rfl) rfl
noncomputable def E155 : Env := { tab := tab, sig := [(90, s90), (174, s174), (219, s219), (220, s220), (221, s221)], clos := [], live := [], eqs := [(137, [false, false, false, false, false])], inl := [] }
set_option maxRecDepth 100000 in
theorem r155 (N : Nat) (a0 : Int) (a1 : T7) : runF N E155 Tryz.f155 [.imm false (.int .i64), .imm true (.pair (.int .i64) (.pair (.int .i64) (.pair (.int .i64) (.pair (.pair (.int .i64) (.pair (.int .i64) (.pair (.int .i64) (.pair (.int .i64) (.pair (.int .i64) .unit))))) (.pair (.pair (.int .i64) (.pair (.slice 3 (.int .i64)) .unit)) .unit)))))] [.imm false .bool] (a0, a1, ()) = p_spec_l4Row N a0 a1 := by kernel_rfl
theorem env155 : EnvOk Tryz.prog (fa.at true) E155 := envOk mixed tabOk ⟨⟨enters90, ok90, fun _ => rfl⟩, ⟨enters174, ok174, fun _ => rfl⟩, ⟨enters219, ok219, fun _ => rfl⟩, ⟨enters220, ok220, fun _ => rfl⟩, ⟨enters221, ok221, fun _ => rfl⟩, trivial⟩ trivial ⟨eq137, trivial⟩
noncomputable def s155 : FSpec := ⟨[.imm false (.int .i64), .imm true (.pair (.int .i64) (.pair (.int .i64) (.pair (.int .i64) (.pair (.pair (.int .i64) (.pair (.int .i64) (.pair (.int .i64) (.pair (.int .i64) (.pair (.int .i64) .unit))))) (.pair (.pair (.int .i64) (.pair (.slice 3 (.int .i64)) .unit)) .unit)))))], [.imm false .bool], fun x => S_spec_l4Row x.1 x.2.1, true⟩
theorem ok155 : FOk Tryz.prog fa 155 s155 := fn_says env155 Tryz.func155 rfl fun x y h => ⟨0, (r155 0 x.1 x.2.1).trans h⟩
theorem enters155 : Enters Tryz.prog 155 := enters Tryz.func155 (by kernel_rfl) rfl
noncomputable def E72 : Env := { tab := tab, sig := [(89, s89), (155, s155)], clos := [], live := [(0, [1, 20, 21, 22], []), (2, [1, 4, 20, 21, 22, 26, 27, 28], [])], eqs := [], inl := [] }
set_option maxRecDepth 100000 in
theorem r72 (N : Nat) (a0 : T8) : runF N E72 Tryz.f72 [.imm true (.pair (.int .i64) (.pair (.slice 182 (.slice 141 (.pair (.int .i64) (.pair (.int .i64) (.pair (.int .i64) (.pair (.pair (.int .i64) (.pair (.int .i64) (.pair (.int .i64) (.pair (.int .i64) (.pair (.int .i64) .unit))))) (.pair (.pair (.int .i64) (.pair (.slice 3 (.int .i64)) .unit)) .unit))))))) .unit))] [.imm false .bool] (a0, ()) = p_spec_GoodTable N a0 := by kernel_rfl
theorem env72 : EnvOk Tryz.prog (fa.at true) E72 := envOk mixed tabOk ⟨⟨enters89, ok89, fun _ => rfl⟩, ⟨enters155, ok155, fun _ => rfl⟩, trivial⟩ trivial trivial
noncomputable def s72 : FSpec := ⟨[.imm true (.pair (.int .i64) (.pair (.slice 182 (.slice 141 (.pair (.int .i64) (.pair (.int .i64) (.pair (.int .i64) (.pair (.pair (.int .i64) (.pair (.int .i64) (.pair (.int .i64) (.pair (.int .i64) (.pair (.int .i64) .unit))))) (.pair (.pair (.int .i64) (.pair (.slice 3 (.int .i64)) .unit)) .unit))))))) .unit))], [.imm false .bool], fun x => S_spec_GoodTable x.1, true⟩
theorem ok72 : FOk Tryz.prog fa 72 s72 := fn_says env72 Tryz.func72 rfl fun x y h => let ⟨N, hN⟩ := lim_some h; ⟨N, (r72 N x.1).trans hN⟩
theorem enters72 : Enters Tryz.prog 72 := enters Tryz.func72 (by kernel_rfl) rfl
noncomputable def E225 : Env := { tab := tab, sig := [], clos := [], live := [], eqs := [], inl := [] }
set_option maxRecDepth 100000 in
theorem r225 (N : Nat) (a0 : Int) (a1 : Int) : runF N E225 Tryz.f225 [.imm false (.int .i64), .imm false (.int .i64)] [.imm false (.int .i64)] (a0, a1, ()) = p_spec_l1Most N a0 a1 := by kernel_rfl
theorem env225 : EnvOk Tryz.prog (fa.at true) E225 := envOk mixed tabOk trivial trivial trivial
noncomputable def s225 : FSpec := ⟨[.imm false (.int .i64), .imm false (.int .i64)], [.imm false (.int .i64)], fun x => S_spec_l1Most x.1 x.2.1, true⟩
theorem ok225 : FOk Tryz.prog fa 225 s225 := fn_says env225 Tryz.func225 rfl fun x y h => ⟨0, (r225 0 x.1 x.2.1).trans h⟩
theorem enters225 : Enters Tryz.prog 225 := enters Tryz.func225 (by kernel_rfl) rfl
noncomputable def E115 : Env := { tab := tab, sig := [], clos := [], live := [], eqs := [], inl := [] }
set_option maxRecDepth 100000 in
theorem r115 (N : Nat) (a0 : List Int) : runF N E115 Tryz.f115 [.imm false (.slice 3 (.int .i64))] [.deep false (.slice 3 (.int .i64))] (a0, ()) = p_spec_l1Own N a0 := by kernel_rfl
theorem env115 : EnvOk Tryz.prog (fa.at true) E115 := envOk mixed tabOk trivial trivial trivial
noncomputable def s115 : FSpec := ⟨[.imm false (.slice 3 (.int .i64))], [.deep false (.slice 3 (.int .i64))], fun x => S_spec_l1Own x.1, true⟩
theorem ok115 : FOk Tryz.prog fa 115 s115 := fn_says env115 Tryz.func115 rfl fun x y h => ⟨0, (r115 0 x.1).trans h⟩
theorem enters115 : Enters Tryz.prog 115 := enters Tryz.func115 (by kernel_rfl) rfl
noncomputable def E239 : Env := { tab := tab, sig := [(115, s115)], clos := [], live := [], eqs := [], inl := [] }
set_option maxRecDepth 100000 in
theorem r239 (N : Nat) (a0 : T6) : runF N E239 Tryz.f239 [.imm true (.pair (.int .i64) (.pair (.slice 3 (.int .i64)) .unit))] [.deep true (.pair (.int .i64) (.pair (.slice 3 (.int .i64)) .unit))] (a0, ()) = p_spec_l4OwnAttr N a0 := by kernel_rfl
theorem env239 : EnvOk Tryz.prog (fa.at true) E239 := envOk mixed tabOk ⟨⟨enters115, ok115, fun _ => rfl⟩, trivial⟩ trivial trivial
noncomputable def s239 : FSpec := ⟨[.imm true (.pair (.int .i64) (.pair (.slice 3 (.int .i64)) .unit))], [.deep true (.pair (.int .i64) (.pair (.slice 3 (.int .i64)) .unit))], fun x => S_spec_l4OwnAttr x.1, true⟩
theorem ok239 : FOk Tryz.prog fa 239 s239 := fn_says env239 Tryz.func239 rfl fun x y h => ⟨0, (r239 0 x.1).trans h⟩
theorem enters239 : Enters Tryz.prog 239 := enters Tryz.func239 (by kernel_rfl) rfl
noncomputable def E177 : Env := { tab := tab, sig := [(239, s239)], clos := [], live := [], eqs := [], inl := [] }
set_option maxRecDepth 100000 in
theorem r177 (N : Nat) (a0 : T7) : runF N E177 Tryz.f177 [.imm true (.pair (.int .i64) (.pair (.int .i64) (.pair (.int .i64) (.pair (.pair (.int .i64) (.pair (.int .i64) (.pair (.int .i64) (.pair (.int .i64) (.pair (.int .i64) .unit))))) (.pair (.pair (.int .i64) (.pair (.slice 3 (.int .i64)) .unit)) .unit)))))] [.deep true (.pair (.int .i64) (.pair (.int .i64) (.pair (.int .i64) (.pair (.pair (.int .i64) (.pair (.int .i64) (.pair (.int .i64) (.pair (.int .i64) (.pair (.int .i64) .unit))))) (.pair (.pair (.int .i64) (.pair (.slice 3 (.int .i64)) .unit)) .unit)))))] (a0, ()) = p_spec_l4OwnRow N a0 := by kernel_rfl
theorem env177 : EnvOk Tryz.prog (fa.at true) E177 := envOk mixed tabOk ⟨⟨enters239, ok239, fun _ => rfl⟩, trivial⟩ trivial trivial
noncomputable def s177 : FSpec := ⟨[.imm true (.pair (.int .i64) (.pair (.int .i64) (.pair (.int .i64) (.pair (.pair (.int .i64) (.pair (.int .i64) (.pair (.int .i64) (.pair (.int .i64) (.pair (.int .i64) .unit))))) (.pair (.pair (.int .i64) (.pair (.slice 3 (.int .i64)) .unit)) .unit)))))], [.deep true (.pair (.int .i64) (.pair (.int .i64) (.pair (.int .i64) (.pair (.pair (.int .i64) (.pair (.int .i64) (.pair (.int .i64) (.pair (.int .i64) (.pair (.int .i64) .unit))))) (.pair (.pair (.int .i64) (.pair (.slice 3 (.int .i64)) .unit)) .unit)))))], fun x => S_spec_l4OwnRow x.1, true⟩
theorem ok177 : FOk Tryz.prog fa 177 s177 := fn_says env177 Tryz.func177 rfl fun x y h => ⟨0, (r177 0 x.1).trans h⟩
theorem enters177 : Enters Tryz.prog 177 := enters Tryz.func177 (by kernel_rfl) rfl
noncomputable def E104 : Env := { tab := tab, sig := [(174, s174), (177, s177)], clos := [], live := [], eqs := [], inl := [] }
set_option maxRecDepth 100000 in
theorem r104 (N : Nat) (a0 : T8) (a1 : Int) (a2 : Int) : runF N E104 Tryz.f104 [.imm true (.pair (.int .i64) (.pair (.slice 182 (.slice 141 (.pair (.int .i64) (.pair (.int .i64) (.pair (.int .i64) (.pair (.pair (.int .i64) (.pair (.int .i64) (.pair (.int .i64) (.pair (.int .i64) (.pair (.int .i64) .unit))))) (.pair (.pair (.int .i64) (.pair (.slice 3 (.int .i64)) .unit)) .unit))))))) .unit)), .imm false (.int .i64), .imm false (.int .i64)] [.deep true (.pair (.int .i64) (.pair (.int .i64) (.pair (.int .i64) (.pair (.pair (.int .i64) (.pair (.int .i64) (.pair (.int .i64) (.pair (.int .i64) (.pair (.int .i64) .unit))))) (.pair (.pair (.int .i64) (.pair (.slice 3 (.int .i64)) .unit)) .unit)))))] (a0, a1, a2, ()) = p_spec_l4At N a0 a1 a2 := by kernel_rfl
theorem env104 : EnvOk Tryz.prog (fa.at true) E104 := envOk mixed tabOk ⟨⟨enters174, ok174, fun _ => rfl⟩, ⟨enters177, ok177, fun _ => rfl⟩, trivial⟩ trivial trivial
noncomputable def s104 : FSpec := ⟨[.imm true (.pair (.int .i64) (.pair (.slice 182 (.slice 141 (.pair (.int .i64) (.pair (.int .i64) (.pair (.int .i64) (.pair (.pair (.int .i64) (.pair (.int .i64) (.pair (.int .i64) (.pair (.int .i64) (.pair (.int .i64) .unit))))) (.pair (.pair (.int .i64) (.pair (.slice 3 (.int .i64)) .unit)) .unit))))))) .unit)), .imm false (.int .i64), .imm false (.int .i64)], [.deep true (.pair (.int .i64) (.pair (.int .i64) (.pair (.int .i64) (.pair (.pair (.int .i64) (.pair (.int .i64) (.pair (.int .i64) (.pair (.int .i64) (.pair (.int .i64) .unit))))) (.pair (.pair (.int .i64) (.pair (.slice 3 (.int .i64)) .unit)) .unit)))))], fun x => S_spec_l4At x.1 x.2.1 x.2.2.1, true⟩
theorem ok104 : FOk Tryz.prog fa 104 s104 := fn_says env104 Tryz.func104 rfl fun x y h => ⟨0, (r104 0 x.1 x.2.1 x.2.2.1).trans h⟩
theorem enters104 : Enters Tryz.prog 104 := enters Tryz.func104 (by kernel_rfl) rfl
noncomputable def E159 : Env := { tab := tab, sig := [(225, s225), (104, s104)], clos := [], live := [(0, [1, 2, 5, 6, 27, 28, 29, 109, 110, 111, 112, 113, 114, 115, 116, 117, 118, 119], []), (2, [1, 2, 5, 6, 27, 28, 29, 40, 41, 42, 109, 110, 111, 112, 113, 114, 115, 116, 117, 118, 119], []), (4, [1, 2, 5, 6, 27, 28, 29, 40, 41, 42, 57, 58, 59, 109, 110, 111, 112, 113, 114, 115, 116, 117, 118, 119], []), (6, [1, 2, 5, 6, 13, 27, 28, 29, 40, 41, 42, 57, 58, 59, 65, 66, 67, 109, 110, 111, 112, 113, 114, 115, 116, 117, 118, 119], []), (8, [1, 2, 5, 6, 16, 17, 109, 110, 111, 112, 113, 114, 115, 116, 117, 118, 119], []), (10, [1, 2, 5, 6, 16, 17, 18, 109, 110, 111, 112, 113, 114, 115, 116, 117, 118, 119], []), (12, [1, 2, 5, 6, 16, 17, 18, 19, 101, 102, 103, 109, 110, 111, 112, 113, 114, 115, 116, 117, 118, 119], [])], eqs := [], inl := [] }
set_option maxRecDepth 100000 in
theorem r159 (N : Nat) (a0 : T13) (a1 : List Int) : runF N E159 Tryz.f159 [.imm true (.pair (.slice 168 (.pair (.int .i64) (.pair (.pair (.int .i64) (.pair (.slice 182 (.slice 141 (.pair (.int .i64) (.pair (.int .i64) (.pair (.int .i64) (.pair (.pair (.int .i64) (.pair (.int .i64) (.pair (.int .i64) (.pair (.int .i64) (.pair (.int .i64) .unit))))) (.pair (.pair (.int .i64) (.pair (.slice 3 (.int .i64)) .unit)) .unit))))))) .unit)) (.pair (.slice 279 (.pair (.int .i64) (.pair (.int .i64) (.pair (.int .i64) (.pair (.int .i64) (.pair (.pair (.int .i64) (.pair (.int .i64) (.pair (.int .i64) (.pair (.int .i64) (.pair (.int .i64) .unit))))) (.pair (.pair (.int .i64) (.pair (.slice 3 (.int .i64)) .unit)) (.pair (.pair (.int .i64) (.pair (.slice 3 (.int .i64)) .unit)) (.pair .bool (.pair (.slice 3 (.int .i64)) (.pair (.slice 141 (.pair (.int .i64) (.pair (.int .i64) (.pair (.int .i64) (.pair (.pair (.int .i64) (.pair (.int .i64) (.pair (.int .i64) (.pair (.int .i64) (.pair (.int .i64) .unit))))) (.pair (.pair (.int .i64) (.pair (.slice 3 (.int .i64)) .unit)) .unit)))))) .unit))))))))))) .unit)))) (.pair (.slice 231 (.pair (.int .i64) (.pair (.int .i64) (.pair (.int .i64) (.pair (.int .i64) (.pair (.int .i64) (.pair (.int .i64) (.pair (.int .i64) (.pair (.int .i64) (.pair (.pair (.int .i64) (.pair (.int .i64) (.pair (.int .i64) (.pair (.int .i64) (.pair (.int .i64) .unit))))) (.pair (.pair (.int .i64) (.pair (.slice 3 (.int .i64)) .unit)) .unit))))))))))) (.pair (.slice 236 (.pair (.int .i64) (.pair (.int .i64) (.pair (.pair (.int .i64) (.pair (.int .i64) (.pair (.int .i64) (.pair (.int .i64) (.pair (.int .i64) .unit))))) .unit)))) .unit))), .imm false (.slice 3 (.int .i64))] [.deep false (.slice 25 (.slice 3 (.int .i64)))] (a0, a1, ()) = p_spec_l10Open N a0 a1 := by kernel_rfl
theorem env159 : EnvOk Tryz.prog (fa.at true) E159 := envOk mixed tabOk ⟨⟨enters225, ok225, fun _ => rfl⟩, ⟨enters104, ok104, fun _ => rfl⟩, trivial⟩ trivial trivial
noncomputable def s159 : FSpec := ⟨[.imm true (.pair (.slice 168 (.pair (.int .i64) (.pair (.pair (.int .i64) (.pair (.slice 182 (.slice 141 (.pair (.int .i64) (.pair (.int .i64) (.pair (.int .i64) (.pair (.pair (.int .i64) (.pair (.int .i64) (.pair (.int .i64) (.pair (.int .i64) (.pair (.int .i64) .unit))))) (.pair (.pair (.int .i64) (.pair (.slice 3 (.int .i64)) .unit)) .unit))))))) .unit)) (.pair (.slice 279 (.pair (.int .i64) (.pair (.int .i64) (.pair (.int .i64) (.pair (.int .i64) (.pair (.pair (.int .i64) (.pair (.int .i64) (.pair (.int .i64) (.pair (.int .i64) (.pair (.int .i64) .unit))))) (.pair (.pair (.int .i64) (.pair (.slice 3 (.int .i64)) .unit)) (.pair (.pair (.int .i64) (.pair (.slice 3 (.int .i64)) .unit)) (.pair .bool (.pair (.slice 3 (.int .i64)) (.pair (.slice 141 (.pair (.int .i64) (.pair (.int .i64) (.pair (.int .i64) (.pair (.pair (.int .i64) (.pair (.int .i64) (.pair (.int .i64) (.pair (.int .i64) (.pair (.int .i64) .unit))))) (.pair (.pair (.int .i64) (.pair (.slice 3 (.int .i64)) .unit)) .unit)))))) .unit))))))))))) .unit)))) (.pair (.slice 231 (.pair (.int .i64) (.pair (.int .i64) (.pair (.int .i64) (.pair (.int .i64) (.pair (.int .i64) (.pair (.int .i64) (.pair (.int .i64) (.pair (.int .i64) (.pair (.pair (.int .i64) (.pair (.int .i64) (.pair (.int .i64) (.pair (.int .i64) (.pair (.int .i64) .unit))))) (.pair (.pair (.int .i64) (.pair (.slice 3 (.int .i64)) .unit)) .unit))))))))))) (.pair (.slice 236 (.pair (.int .i64) (.pair (.int .i64) (.pair (.pair (.int .i64) (.pair (.int .i64) (.pair (.int .i64) (.pair (.int .i64) (.pair (.int .i64) .unit))))) .unit)))) .unit))), .imm false (.slice 3 (.int .i64))], [.deep false (.slice 25 (.slice 3 (.int .i64)))], fun x => S_spec_l10Open x.1 x.2.1, true⟩
theorem ok159 : FOk Tryz.prog fa 159 s159 := fn_says env159 Tryz.func159 rfl fun x y h => let ⟨N, hN⟩ := lim_some h; ⟨N, (r159 N x.1 x.2.1).trans hN⟩
theorem enters159 : Enters Tryz.prog 159 := enters Tryz.func159 (by kernel_rfl) rfl
noncomputable def E75 : Env := { tab := tab, sig := [(159, s159)], clos := [], live := [(0, [1, 3, 4], [.row 2 0 168 (.pair (.int .i64) (.pair (.pair (.int .i64) (.pair (.slice 182 (.slice 141 (.pair (.int .i64) (.pair (.int .i64) (.pair (.int .i64) (.pair (.pair (.int .i64) (.pair (.int .i64) (.pair (.int .i64) (.pair (.int .i64) (.pair (.int .i64) .unit))))) (.pair (.pair (.int .i64) (.pair (.slice 3 (.int .i64)) .unit)) .unit))))))) .unit)) (.pair (.slice 279 (.pair (.int .i64) (.pair (.int .i64) (.pair (.int .i64) (.pair (.int .i64) (.pair (.pair (.int .i64) (.pair (.int .i64) (.pair (.int .i64) (.pair (.int .i64) (.pair (.int .i64) .unit))))) (.pair (.pair (.int .i64) (.pair (.slice 3 (.int .i64)) .unit)) (.pair (.pair (.int .i64) (.pair (.slice 3 (.int .i64)) .unit)) (.pair .bool (.pair (.slice 3 (.int .i64)) (.pair (.slice 141 (.pair (.int .i64) (.pair (.int .i64) (.pair (.int .i64) (.pair (.pair (.int .i64) (.pair (.int .i64) (.pair (.int .i64) (.pair (.int .i64) (.pair (.int .i64) .unit))))) (.pair (.pair (.int .i64) (.pair (.slice 3 (.int .i64)) .unit)) .unit)))))) .unit))))))))))) .unit))) false []])], eqs := [], inl := [] }
set_option maxRecDepth 100000 in
theorem r75 (N : Nat) (a0 : T8) : runF N E75 Tryz.f75 [.imm true (.pair (.int .i64) (.pair (.slice 182 (.slice 141 (.pair (.int .i64) (.pair (.int .i64) (.pair (.int .i64) (.pair (.pair (.int .i64) (.pair (.int .i64) (.pair (.int .i64) (.pair (.int .i64) (.pair (.int .i64) .unit))))) (.pair (.pair (.int .i64) (.pair (.slice 3 (.int .i64)) .unit)) .unit))))))) .unit))] [.deep false (.slice 25 (.slice 3 (.int .i64)))] (a0, ()) = p_spec_l20Open N a0 := by kernel_rfl
theorem env75 : EnvOk Tryz.prog (fa.at true) E75 := envOk mixed tabOk ⟨⟨enters159, ok159, fun _ => rfl⟩, trivial⟩ trivial trivial
noncomputable def s75 : FSpec := ⟨[.imm true (.pair (.int .i64) (.pair (.slice 182 (.slice 141 (.pair (.int .i64) (.pair (.int .i64) (.pair (.int .i64) (.pair (.pair (.int .i64) (.pair (.int .i64) (.pair (.int .i64) (.pair (.int .i64) (.pair (.int .i64) .unit))))) (.pair (.pair (.int .i64) (.pair (.slice 3 (.int .i64)) .unit)) .unit))))))) .unit))], [.deep false (.slice 25 (.slice 3 (.int .i64)))], fun x => S_spec_l20Open x.1, true⟩
theorem ok75 : FOk Tryz.prog fa 75 s75 := fn_says env75 Tryz.func75 rfl fun x y h => let ⟨N, hN⟩ := lim_some h; ⟨N, (r75 N x.1).trans hN⟩
theorem enters75 : Enters Tryz.prog 75 := enters Tryz.func75 (by kernel_rfl) rfl
noncomputable def E116 : Env := { tab := tab, sig := [(188, s188)], clos := [], live := [(0, [1, 7, 8, 9], [])], eqs := [], inl := [] }
set_option maxRecDepth 100000 in
theorem r116 (N : Nat) (a0 : List (List Int)) (a1 : List Int) : runF N E116 Tryz.f116 [.imm false (.slice 25 (.slice 3 (.int .i64))), .imm false (.slice 3 (.int .i64))] [.imm false (.int .i64)] (a0, a1, ()) = p_spec_l6Find N a0 a1 := by kernel_rfl
theorem env116 : EnvOk Tryz.prog (fa.at true) E116 := envOk mixed tabOk ⟨⟨enters188, ok188, fun _ => rfl⟩, trivial⟩ trivial trivial
noncomputable def s116 : FSpec := ⟨[.imm false (.slice 25 (.slice 3 (.int .i64))), .imm false (.slice 3 (.int .i64))], [.imm false (.int .i64)], fun x => S_spec_l6Find x.1 x.2.1, true⟩
theorem ok116 : FOk Tryz.prog fa 116 s116 := fn_says env116 Tryz.func116 rfl fun x y h => let ⟨N, hN⟩ := lim_some h; ⟨N, (r116 N x.1 x.2.1).trans hN⟩
theorem enters116 : Enters Tryz.prog 116 := enters Tryz.func116 (by kernel_rfl) rfl
noncomputable def E130 : Env := { tab := tab, sig := [], clos := [], live := [], eqs := [], inl := [] }
set_option maxRecDepth 100000 in
theorem r130 (N : Nat) (a0 : Int) (a1 : Int) : runF N E130 Tryz.f130 [.imm false (.int .i64), .imm false (.int .i64)] [.imm false (.int .i64)] (a0, a1, ()) = p_spec_l1Least N a0 a1 := by kernel_rfl
theorem env130 : EnvOk Tryz.prog (fa.at true) E130 := envOk mixed tabOk trivial trivial trivial
noncomputable def s130 : FSpec := ⟨[.imm false (.int .i64), .imm false (.int .i64)], [.imm false (.int .i64)], fun x => S_spec_l1Least x.1 x.2.1, true⟩
theorem ok130 : FOk Tryz.prog fa 130 s130 := fn_says env130 Tryz.func130 rfl fun x y h => ⟨0, (r130 0 x.1 x.2.1).trans h⟩
theorem enters130 : Enters Tryz.prog 130 := enters Tryz.func130 (by kernel_rfl) rfl
noncomputable def E91 : Env := { tab := tab, sig := [], clos := [], live := [], eqs := [], inl := [] }
set_option maxRecDepth 100000 in
theorem r91 (N : Nat) (a0 : Int) (a1 : Int) (a2 : Int) : runF N E91 Tryz.f91 [.imm false (.int .i64), .imm false (.int .i64), .imm false (.int .i64)] [.imm false (.int .i64)] (a0, a1, a2, ()) = p_spec_l20Wait N a0 a1 a2 := by kernel_rfl
theorem env91 : EnvOk Tryz.prog (fa.at true) E91 := envOk mixed tabOk trivial trivial trivial
noncomputable def s91 : FSpec := ⟨[.imm false (.int .i64), .imm false (.int .i64), .imm false (.int .i64)], [.imm false (.int .i64)], fun x => S_spec_l20Wait x.1 x.2.1 x.2.2.1, true⟩
theorem ok91 : FOk Tryz.prog fa 91 s91 := fn_says env91 Tryz.func91 rfl fun x y h => ⟨0, (r91 0 x.1 x.2.1 x.2.2.1).trans h⟩
theorem enters91 : Enters Tryz.prog 91 := enters Tryz.func91 (by kernel_rfl) rfl
noncomputable def E73 : Env := { tab := tab, sig := [(75, s75), (116, s116), (130, s130), (91, s91)], clos := [], live := [(0, [2, 4, 6, 7, 18, 19, 20, 58, 59, 60, 61, 62, 63, 64, 65, 66, 67, 68], [.row 4 2 25 (.slice 3 (.int .i64)) true [], .row 4 3 3 (.int .i64) true []])], eqs := [], inl := [] }
set_option maxRecDepth 100000 in
theorem r73 (N : Nat) (a0 : T0) (a1 : T8) : runF N E73 Tryz.f73 [.imm true (.pair (.int .i64) (.pair (.int .i64) (.pair (.slice 25 (.slice 3 (.int .i64))) (.pair (.slice 3 (.int .i64)) .unit)))), .imm true (.pair (.int .i64) (.pair (.slice 182 (.slice 141 (.pair (.int .i64) (.pair (.int .i64) (.pair (.int .i64) (.pair (.pair (.int .i64) (.pair (.int .i64) (.pair (.int .i64) (.pair (.int .i64) (.pair (.int .i64) .unit))))) (.pair (.pair (.int .i64) (.pair (.slice 3 (.int .i64)) .unit)) .unit))))))) .unit))] [.deep true (.pair (.int .i64) (.pair (.int .i64) (.pair (.slice 25 (.slice 3 (.int .i64))) (.pair (.slice 3 (.int .i64)) .unit)))), .deep false (.slice 25 (.slice 3 (.int .i64)))] (a0, a1, ()) = p_spec_l20Tick N a0 a1 := by kernel_rfl
theorem env73 : EnvOk Tryz.prog (fa.at true) E73 := envOk mixed tabOk ⟨⟨enters75, ok75, fun _ => rfl⟩, ⟨enters116, ok116, fun _ => rfl⟩, ⟨enters130, ok130, fun _ => rfl⟩, ⟨enters91, ok91, fun _ => rfl⟩, trivial⟩ trivial trivial
noncomputable def s73 : FSpec := ⟨[.imm true (.pair (.int .i64) (.pair (.int .i64) (.pair (.slice 25 (.slice 3 (.int .i64))) (.pair (.slice 3 (.int .i64)) .unit)))), .imm true (.pair (.int .i64) (.pair (.slice 182 (.slice 141 (.pair (.int .i64) (.pair (.int .i64) (.pair (.int .i64) (.pair (.pair (.int .i64) (.pair (.int .i64) (.pair (.int .i64) (.pair (.int .i64) (.pair (.int .i64) .unit))))) (.pair (.pair (.int .i64) (.pair (.slice 3 (.int .i64)) .unit)) .unit))))))) .unit))], [.deep true (.pair (.int .i64) (.pair (.int .i64) (.pair (.slice 25 (.slice 3 (.int .i64))) (.pair (.slice 3 (.int .i64)) .unit)))), .deep false (.slice 25 (.slice 3 (.int .i64)))], fun x => S_spec_l20Tick x.1 x.2.1, true⟩
theorem ok73 : FOk Tryz.prog fa 73 s73 := fn_says env73 Tryz.func73 rfl fun x y h => let ⟨N, hN⟩ := lim_some h; ⟨N, (r73 N x.1 x.2.1).trans hN⟩
theorem enters73 : Enters Tryz.prog 73 := enters Tryz.func73 (by kernel_rfl) rfl
noncomputable def E23 : Env := { tab := tab, sig := [(28, s28), (72, s72), (73, s73)], clos := [], live := [(0, [0, 6, 9, 11, 30, 31, 32, 40, 41, 42, 43], [.take (.b 4 2) 2, .take (.b 4 3) 3])], eqs := [], inl := [] }
set_option maxRecDepth 100000 in
theorem r23 (N : Nat) (a0 : Int) (a1 : Int) (a2 : List T8) : runF N E23 Tryz.f23 [.imm false (.int .i64), .imm false (.int .i64), .imm false (.slice 30 (.pair (.int .i64) (.pair (.slice 182 (.slice 141 (.pair (.int .i64) (.pair (.int .i64) (.pair (.int .i64) (.pair (.pair (.int .i64) (.pair (.int .i64) (.pair (.int .i64) (.pair (.int .i64) (.pair (.int .i64) .unit))))) (.pair (.pair (.int .i64) (.pair (.slice 3 (.int .i64)) .unit)) .unit))))))) .unit)))] [.deep true (.pair (.int .i64) (.pair (.int .i64) (.pair (.slice 25 (.slice 3 (.int .i64))) (.pair (.slice 3 (.int .i64)) .unit)))), .deep false (.slice 24 (.slice 25 (.slice 3 (.int .i64)))), .imm false .bool] (a0, a1, a2, ()) = p_spec_PlayWatch N a0 a1 a2 := by kernel_rfl
theorem env23 : EnvOk Tryz.prog (fa.at true) E23 := envOk mixed tabOk ⟨⟨enters28, ok28, fun _ => rfl⟩, ⟨enters72, ok72, fun _ => rfl⟩, ⟨enters73, ok73, fun _ => rfl⟩, trivial⟩ trivial trivial
noncomputable def s23 : FSpec := ⟨[.imm false (.int .i64), .imm false (.int .i64), .imm false (.slice 30 (.pair (.int .i64) (.pair (.slice 182 (.slice 141 (.pair (.int .i64) (.pair (.int .i64) (.pair (.int .i64) (.pair (.pair (.int .i64) (.pair (.int .i64) (.pair (.int .i64) (.pair (.int .i64) (.pair (.int .i64) .unit))))) (.pair (.pair (.int .i64) (.pair (.slice 3 (.int .i64)) .unit)) .unit))))))) .unit)))], [.deep true (.pair (.int .i64) (.pair (.int .i64) (.pair (.slice 25 (.slice 3 (.int .i64))) (.pair (.slice 3 (.int .i64)) .unit)))), .deep false (.slice 24 (.slice 25 (.slice 3 (.int .i64)))), .imm false .bool], fun x => S_spec_PlayWatch x.1 x.2.1 x.2.2.1, true⟩
theorem ok23 : FOk Tryz.prog fa 23 s23 := fn_says env23 Tryz.func23 rfl fun x y h => let ⟨N, hN⟩ := lim_some h; ⟨N, (r23 N x.1 x.2.1 x.2.2.1).trans hN⟩
theorem enters23 : Enters Tryz.prog 23 := enters Tryz.func23 (by kernel_rfl) rfl
noncomputable def E77 : Env := { tab := tab, sig := [], clos := [], live := [], eqs := [], inl := [] }
set_option maxRecDepth 100000 in
theorem r77 (N : Nat) (a0 : Int) : runF N E77 Tryz.f77 [.imm false (.int .i64)] [.imm false .bool] (a0, ()) = p_impl_IsGroup N a0 := by kernel_rfl
theorem env77 : EnvOk Tryz.prog (fa.at true) E77 := envOk mixed tabOk trivial trivial trivial
noncomputable def s77 : FSpec := ⟨[.imm false (.int .i64)], [.imm false .bool], fun x => S_impl_IsGroup x.1, true⟩
theorem ok77 : FOk Tryz.prog fa 77 s77 := fn_says env77 Tryz.func77 rfl fun x y h => ⟨0, (r77 0 x.1).trans h⟩
theorem enters77 : Enters Tryz.prog 77 := enters Tryz.func77 (by kernel_rfl) rfl
noncomputable def E78 : Env := { tab := tab, sig := [], clos := [], live := [], eqs := [], inl := [] }
set_option maxRecDepth 100000 in
theorem r78 (N : Nat) (a0 : Int) (a1 : Int) (a2 : Int) : runF N E78 Tryz.f78 [.imm false (.int .i64), .imm false (.int .i64), .imm false (.int .i64)] [.imm false .bool] (a0, a1, a2, ()) = p_impl_within N a0 a1 a2 := by kernel_rfl
theorem env78 : EnvOk Tryz.prog (fa.at true) E78 := envOk mixed tabOk trivial trivial trivial
noncomputable def s78 : FSpec := ⟨[.imm false (.int .i64), .imm false (.int .i64), .imm false (.int .i64)], [.imm false .bool], fun x => S_impl_within x.1 x.2.1 x.2.2.1, true⟩
theorem ok78 : FOk Tryz.prog fa 78 s78 := fn_says env78 Tryz.func78 rfl fun x y h => ⟨0, (r78 0 x.1 x.2.1 x.2.2.1).trans h⟩
theorem enters78 : Enters Tryz.prog 78 := enters Tryz.func78 (by kernel_rfl) rfl
noncomputable def E27 : Env := { tab := tab, sig := [(77, s77), (78, s78)], clos := [], live := [], eqs := [], inl := [] }
set_option maxRecDepth 100000 in
theorem r27 (N : Nat) (a0 : Int) (a1 : Int) : runF N E27 Tryz.f27 [.imm false (.int .i64), .imm false (.int .i64)] [.deep true (.pair (.int .i64) (.pair (.int .i64) (.pair (.slice 25 (.slice 3 (.int .i64))) (.pair (.slice 3 (.int .i64)) .unit)))), .imm false .bool] (a0, a1, ()) = p_impl_NewWatch N a0 a1 := by kernel_rfl
theorem env27 : EnvOk Tryz.prog (fa.at true) E27 := envOk mixed tabOk ⟨⟨enters77, ok77, fun _ => rfl⟩, ⟨enters78, ok78, fun _ => rfl⟩, trivial⟩ trivial trivial
noncomputable def s27 : FSpec := ⟨[.imm false (.int .i64), .imm false (.int .i64)], [.deep true (.pair (.int .i64) (.pair (.int .i64) (.pair (.slice 25 (.slice 3 (.int .i64))) (.pair (.slice 3 (.int .i64)) .unit)))), .imm false .bool], fun x => S_impl_NewWatch x.1 x.2.1, true⟩
theorem ok27 : FOk Tryz.prog fa 27 s27 := fn_says env27 Tryz.func27 rfl fun x y h => ⟨0, (r27 0 x.1 x.2.1).trans h⟩
theorem enters27 : Enters Tryz.prog 27 := enters Tryz.func27 (by kernel_rfl) rfl
noncomputable def E265 : Env := { tab := tab, sig := [(78, s78)], clos := [], live := [], eqs := [], inl := [] }
set_option maxRecDepth 100000 in
theorem r265 (N : Nat) (a0 : Int) : runF N E265 Tryz.f265 [.imm false (.int .i64)] [.imm false .bool] (a0, ()) = p_impl_isAccount N a0 := by kernel_rfl
theorem env265 : EnvOk Tryz.prog (fa.at true) E265 := envOk mixed tabOk ⟨⟨enters78, ok78, fun _ => rfl⟩, trivial⟩ trivial trivial
noncomputable def s265 : FSpec := ⟨[.imm false (.int .i64)], [.imm false .bool], fun x => S_impl_isAccount x.1, true⟩
theorem ok265 : FOk Tryz.prog fa 265 s265 := fn_says env265 Tryz.func265 rfl fun x y h => ⟨0, (r265 0 x.1).trans h⟩
theorem enters265 : Enters Tryz.prog 265 := enters Tryz.func265 (by kernel_rfl) rfl
noncomputable def E206 : Env := { tab := tab, sig := [(78, s78), (265, s265)], clos := [], live := [], eqs := [(137, [false, false, false, false, false])], inl := [] }
set_option maxRecDepth 100000 in
theorem r206 (N : Nat) (a0 : T2) : runF N E206 Tryz.f206 [.imm true (.pair (.int .i64) (.pair (.int .i64) (.pair (.int .i64) (.pair (.int .i64) (.pair (.int .i64) .unit)))))] [.imm false .bool] (a0, ()) = p_impl_GoodCmd N a0 := by kernel_rfl
theorem env206 : EnvOk Tryz.prog (fa.at true) E206 := envOk mixed tabOk ⟨⟨enters78, ok78, fun _ => rfl⟩, ⟨enters265, ok265, fun _ => rfl⟩, trivial⟩ trivial ⟨eq137, trivial⟩
noncomputable def s206 : FSpec := ⟨[.imm true (.pair (.int .i64) (.pair (.int .i64) (.pair (.int .i64) (.pair (.int .i64) (.pair (.int .i64) .unit)))))], [.imm false .bool], fun x => S_impl_GoodCmd x.1, true⟩
theorem ok206 : FOk Tryz.prog fa 206 s206 := fn_says env206 Tryz.func206 rfl fun x y h => ⟨0, (r206 0 x.1).trans h⟩
theorem enters206 : Enters Tryz.prog 206 := enters Tryz.func206 (by kernel_rfl) rfl
end Go.Proofs.YtdcbankajhnepaaGreat.Am
