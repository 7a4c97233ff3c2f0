/- Functions, as they run on data. No condition. -/
import Derived.Test.YtdcbankajhnepaaGreatAmFn1
set_option linter.unusedVariables false
set_option maxRecDepth 100000
namespace Go.Proofs.YtdcbankajhnepaaGreat.Am
open Go.AM Go.AM.P Go.Proofs Go.Shelf
noncomputable def E37 : Env := { tab := tab, sig := [(95, s95)], clos := [], live := [(0, [0, 1, 5], [])], eqs := [], inl := [] }
set_option maxRecDepth 100000 in
theorem r37 (N : Nat) (a0 : List (List (List Int))) (a1 : Int) : runF N E37 Tryz.f37 [.mut false (.slice 24 (.slice 25 (.slice 3 (.int .i64)))), .imm false (.int .i64)] [.imm false (.int .i64)] (a0, a1, ()) = p_laws_markIntSSS N a0 a1 := by kernel_rfl
theorem env37 : EnvOk Tryz.prog (fa.at true) E37 := envOk mixed tabOk ⟨⟨enters95, ok95, fun _ => rfl⟩, trivial⟩ trivial trivial
noncomputable def s37 : FSpec := ⟨[.mut false (.slice 24 (.slice 25 (.slice 3 (.int .i64)))), .imm false (.int .i64)], [.imm false (.int .i64)], fun x => S_laws_markIntSSS x.1 x.2.1, true⟩
theorem ok37 : FOk Tryz.prog fa 37 s37 := fn_says env37 Tryz.func37 rfl fun x y h => let ⟨N, hN⟩ := lim_some h; ⟨N, (r37 N x.1 x.2.1).trans hN⟩
theorem enters37 : Enters Tryz.prog 37 := enters Tryz.func37 (by kernel_rfl) rfl
noncomputable def E48 : Env := { tab := tab, sig := [], clos := [], live := [(0, [0, 1, 5], [])], eqs := [], inl := [] }
set_option maxRecDepth 100000 in
theorem r48 (N : Nat) (a0 : List Int) (a1 : Int) : runF N E48 Tryz.f48 [.imm false (.slice 3 (.int .i64)), .imm false (.int .i64)] [.imm false (.int .i64)] (a0, a1, ()) = p_laws_heldIntS N a0 a1 := by kernel_rfl
theorem env48 : EnvOk Tryz.prog (fa.at true) E48 := envOk mixed tabOk trivial trivial trivial
noncomputable def s48 : FSpec := ⟨[.imm false (.slice 3 (.int .i64)), .imm false (.int .i64)], [.imm false (.int .i64)], fun x => S_laws_heldIntS x.1 x.2.1, true⟩
theorem ok48 : FOk Tryz.prog fa 48 s48 := fn_says env48 Tryz.func48 rfl fun x y h => let ⟨N, hN⟩ := lim_some h; ⟨N, (r48 N x.1 x.2.1).trans hN⟩
theorem enters48 : Enters Tryz.prog 48 := enters Tryz.func48 (by kernel_rfl) rfl
noncomputable def E96 : Env := { tab := tab, sig := [(48, s48)], clos := [], live := [(0, [0, 1, 5], [])], eqs := [], inl := [] }
set_option maxRecDepth 100000 in
theorem r96 (N : Nat) (a0 : List (List Int)) (a1 : Int) : runF N E96 Tryz.f96 [.imm false (.slice 25 (.slice 3 (.int .i64))), .imm false (.int .i64)] [.imm false (.int .i64)] (a0, a1, ()) = p_laws_heldIntSS N a0 a1 := by kernel_rfl
theorem env96 : EnvOk Tryz.prog (fa.at true) E96 := envOk mixed tabOk ⟨⟨enters48, ok48, fun _ => rfl⟩, trivial⟩ trivial trivial
noncomputable def s96 : FSpec := ⟨[.imm false (.slice 25 (.slice 3 (.int .i64))), .imm false (.int .i64)], [.imm false (.int .i64)], fun x => S_laws_heldIntSS x.1 x.2.1, true⟩
theorem ok96 : FOk Tryz.prog fa 96 s96 := fn_says env96 Tryz.func96 rfl fun x y h => let ⟨N, hN⟩ := lim_some h; ⟨N, (r96 N x.1 x.2.1).trans hN⟩
theorem enters96 : Enters Tryz.prog 96 := enters Tryz.func96 (by kernel_rfl) rfl
noncomputable def E38 : Env := { tab := tab, sig := [(96, s96), (48, s48)], clos := [], live := [], eqs := [], inl := [] }
set_option maxRecDepth 100000 in
theorem r38 (N : Nat) (a0 : T0) (a1 : Int) : runF N E38 Tryz.f38 [.imm true (.pair (.int .i64) (.pair (.int .i64) (.pair (.slice 25 (.slice 3 (.int .i64))) (.pair (.slice 3 (.int .i64)) .unit)))), .imm false (.int .i64)] [.imm false (.int .i64)] (a0, a1, ()) = p_laws_heldWatch N a0 a1 := by kernel_rfl
theorem env38 : EnvOk Tryz.prog (fa.at true) E38 := envOk mixed tabOk ⟨⟨enters96, ok96, fun _ => rfl⟩, ⟨enters48, ok48, fun _ => rfl⟩, trivial⟩ trivial trivial
noncomputable def s38 : FSpec := ⟨[.imm true (.pair (.int .i64) (.pair (.int .i64) (.pair (.slice 25 (.slice 3 (.int .i64))) (.pair (.slice 3 (.int .i64)) .unit)))), .imm false (.int .i64)], [.imm false (.int .i64)], fun x => S_laws_heldWatch x.1 x.2.1, true⟩
theorem ok38 : FOk Tryz.prog fa 38 s38 := fn_says env38 Tryz.func38 rfl fun x y h => ⟨0, (r38 0 x.1 x.2.1).trans h⟩
theorem enters38 : Enters Tryz.prog 38 := enters Tryz.func38 (by kernel_rfl) rfl
noncomputable def E39 : Env := { tab := tab, sig := [(96, s96)], clos := [], live := [(0, [0, 1, 5], [])], eqs := [], inl := [] }
set_option maxRecDepth 100000 in
theorem r39 (N : Nat) (a0 : List (List (List Int))) (a1 : Int) : runF N E39 Tryz.f39 [.imm false (.slice 24 (.slice 25 (.slice 3 (.int .i64)))), .imm false (.int .i64)] [.imm false (.int .i64)] (a0, a1, ()) = p_laws_heldIntSSS N a0 a1 := by kernel_rfl
theorem env39 : EnvOk Tryz.prog (fa.at true) E39 := envOk mixed tabOk ⟨⟨enters96, ok96, fun _ => rfl⟩, trivial⟩ trivial trivial
noncomputable def s39 : FSpec := ⟨[.imm false (.slice 24 (.slice 25 (.slice 3 (.int .i64)))), .imm false (.int .i64)], [.imm false (.int .i64)], fun x => S_laws_heldIntSSS x.1 x.2.1, true⟩
theorem ok39 : FOk Tryz.prog fa 39 s39 := fn_says env39 Tryz.func39 rfl fun x y h => let ⟨N, hN⟩ := lim_some h; ⟨N, (r39 N x.1 x.2.1).trans hN⟩
theorem enters39 : Enters Tryz.prog 39 := enters Tryz.func39 (by kernel_rfl) rfl
noncomputable def E4 : Env := { tab := tab, sig := [(30, s30), (31, s31), (23, s23), (20, s20), (32, s32), (33, s33), (34, s34), (35, s35), (36, s36), (37, s37), (38, s38), (39, s39)], clos := [], live := [], eqs := [], inl := [] }
set_option maxRecDepth 100000 in
theorem r4 (N : Nat) (a0 : Int) (a1 : Int) (a2 : List T8) : runF N E4 Tryz.f4 [.imm false (.int .i64), .imm false (.int .i64), .imm false (.slice 66 (.pair (.int .i64) (.pair (.slice 201 (.slice 257 (.pair (.int .i64) (.pair (.int .i64) (.pair (.int .i64) (.pair (.pair (.int .i64) (.pair (.int .i64) (.pair (.int .i64) (.pair (.int .i64) (.pair (.int .i64) .unit))))) (.pair (.pair (.int .i64) (.pair (.slice 3 (.int .i64)) .unit)) .unit))))))) .unit)))] [.imm false .bool] (a0, a1, a2, ()) = p_laws_FnExactPlayWatch N a0 a1 a2 := by kernel_rfl
theorem env4 : EnvOk Tryz.prog (fa.at true) E4 := envOk mixed tabOk ⟨⟨enters30, ok30, fun _ => rfl⟩, ⟨enters31, ok31, fun _ => rfl⟩, ⟨enters23, ok23, fun _ => rfl⟩, ⟨enters20, ok20, fun _ => rfl⟩, ⟨enters32, ok32, fun _ => rfl⟩, ⟨enters33, ok33, fun _ => rfl⟩, ⟨enters34, ok34, fun _ => rfl⟩, ⟨enters35, ok35, fun _ => rfl⟩, ⟨enters36, ok36, fun _ => rfl⟩, ⟨enters37, ok37, fun _ => rfl⟩, ⟨enters38, ok38, fun _ => rfl⟩, ⟨enters39, ok39, fun _ => rfl⟩, trivial⟩ trivial trivial
end Go.Proofs.YtdcbankajhnepaaGreat.Am
