/- Functions, as they run on data. No condition. -/
import Derived.Test.YthijgmbdlkeebaaAmFn2
set_option linter.unusedVariables false
set_option maxRecDepth 100000
namespace Go.Proofs.Ythijgmbdlkeebaa.Am
open Go.AM Go.AM.P Go.Proofs
/-! ## loop.example/g00698/laws.sameVerdicts -/
noncomputable def E57 : Env := { tab := tab, sig := [], clos := [], live := [(0, [0, 1, 12, 13], [])], eqs := [(103, 4)], inl := [] }
set_option maxRecDepth 100000 in
theorem r57 (N : Nat) (a0 : List T5) (a1 : List T5) : runF N E57 Try.f57 [.imm false (.slice 103 (.pair (.int .i64) (.pair (.int .i64) (.pair (.pair (.int .i64) (.pair (.int .i64) .unit)) .unit)))), .imm false (.slice 103 (.pair (.int .i64) (.pair (.int .i64) (.pair (.pair (.int .i64) (.pair (.int .i64) .unit)) .unit))))] [.imm false .bool] (a0, a1, ()) = p_laws_sameVerdicts N a0 a1 := by kernel_rfl
theorem env57 : EnvOk Try.prog E57 := envOk mixed tabOk trivial trivial ⟨eq103, trivial⟩
noncomputable def s57 : FSpec := ⟨[.imm false (.slice 103 (.pair (.int .i64) (.pair (.int .i64) (.pair (.pair (.int .i64) (.pair (.int .i64) .unit)) .unit)))), .imm false (.slice 103 (.pair (.int .i64) (.pair (.int .i64) (.pair (.pair (.int .i64) (.pair (.int .i64) .unit)) .unit))))], [.imm false .bool], fun x => S_laws_sameVerdicts x.1 x.2.1⟩
theorem ok57 : FOk Try.prog 57 s57 := fn_says env57 Try.func57 rfl fun x y h => let ⟨N, hN⟩ := lim_some h; ⟨N, (r57 N x.1 x.2.1).trans hN⟩
theorem enters57 : Enters Try.prog 57 := enters Try.func57 (by kernel_rfl) rfl

end Go.Proofs.Ythijgmbdlkeebaa.Am
