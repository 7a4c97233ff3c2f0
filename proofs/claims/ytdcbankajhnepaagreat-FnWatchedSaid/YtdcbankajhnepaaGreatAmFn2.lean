/- Functions, as they run on data. No condition. -/
import Derived.Test.YtdcbankajhnepaaGreatAmFn1
set_option linter.unusedVariables false
set_option maxRecDepth 100000
namespace Go.Proofs.YtdcbankajhnepaaGreat.Am
open Go.AM Go.AM.P Go.Proofs Go.Shelf
noncomputable def E166 : Env := { tab := tab, sig := [(173, s173), (174, s174), (177, s177)], clos := [], live := [(0, [1, 2, 4, 7, 8, 9], [])], eqs := [], inl := [], app := [33] }
set_option maxRecDepth 100000 in
theorem r166 (N : Nat) (a0 : T8) (a1 : Int) (a2 : Int) (a3 : T7) : runF N E166 Tryz.f166 [.imm true Y50, .imm false (.int .i64), .imm false (.int .i64), .imm true Y37] [.deep true Y50] (a0, a1, a2, a3, ()) = p_spec_l4Set N a0 a1 a2 a3 := by kernel_rfl
theorem env166 : EnvOk Tryz.prog (fa.at true) E166 := envOk mixed tabOk ⟨⟨enters173, ok173, fun _ => rfl⟩, ⟨enters174, ok174, fun _ => rfl⟩, ⟨enters177, ok177, fun _ => rfl⟩, trivial⟩ trivial trivial
noncomputable def s166 : FSpec := ⟨[.imm true Y50, .imm false (.int .i64), .imm false (.int .i64), .imm true Y37], [.deep true Y50], fun x => S_spec_l4Set x.1 x.2.1 x.2.2.1 x.2.2.2.1, true⟩
theorem ok166 : FOk Tryz.prog fa 166 s166 := fn_says env166 Tryz.func166 rfl fun x y h => let ⟨N, hN⟩ := lim_some h; ⟨N, (r166 N x.1 x.2.1 x.2.2.1 x.2.2.2.1).trans hN⟩
theorem enters166 : Enters Tryz.prog 166 := enters Tryz.func166 (by kernel_rfl) rfl
noncomputable def E87 : Env := { tab := tab, sig := [(143, s143), (85, s85), (164, s164), (165, s165), (86, s86), (166, s166), (67, s67)], clos := [], live := [(0, [0, 2, 3, 4], [.frz (.b 3 1) 182 Y38])], eqs := [], inl := [] }
set_option maxRecDepth 100000 in
theorem r87 (N : Nat) (a0 : T14) : runF N E87 Tryz.f87 [.ptr Y17] [.imm true Y50] (a0, ()) = p_Pspec_l1Cur_settled N a0 := by kernel_rfl
theorem env87 : EnvOk Tryz.prog (fa.at true) E87 := envOk mixed tabOk ⟨⟨enters143, ok143, fun _ => rfl⟩, ⟨enters85, ok85, fun _ => rfl⟩, ⟨enters164, ok164, fun _ => rfl⟩, ⟨enters165, ok165, fun _ => rfl⟩, ⟨enters86, ok86, fun _ => rfl⟩, ⟨enters166, ok166, fun _ => rfl⟩, ⟨enters67, ok67, fun _ => rfl⟩, trivial⟩ trivial trivial
noncomputable def s87 : FSpec := ⟨[.ptr Y17], [.imm true Y50], fun x => S_Pspec_l1Cur_settled x.1, true⟩
theorem ok87 : FOk Tryz.prog fa 87 s87 := fn_says env87 Tryz.func87 rfl fun x y h => let ⟨N, hN⟩ := lim_some h; ⟨N, (r87 N x.1).trans hN⟩
theorem enters87 : Enters Tryz.prog 87 := enters Tryz.func87 (by kernel_rfl) rfl
noncomputable def E22 : Env := { tab := tab, sig := [(67, s67), (85, s85), (86, s86), (87, s87)], clos := [], live := [(0, [5, 6, 7, 8], [.frz (.b 3 1) 182 Y38, .loose 4 []])], eqs := [], inl := [] }
set_option maxRecDepth 100000 in
theorem r22 (N : Nat) (a0 : List Int) : runF N E22 Tryz.f22 [.imm false Y0] [.imm false (.int .i64), .imm false (.int .i64), .imm false Y53] (a0, ()) = p_spec_DrawPlayWatch N a0 := by kernel_rfl
theorem env22 : EnvOk Tryz.prog (fa.at true) E22 := envOk mixed tabOk ⟨⟨enters67, ok67, fun _ => rfl⟩, ⟨enters85, ok85, fun _ => rfl⟩, ⟨enters86, ok86, fun _ => rfl⟩, ⟨enters87, ok87, fun _ => rfl⟩, trivial⟩ trivial trivial
noncomputable def s22 : FSpec := ⟨[.imm false Y0], [.imm false (.int .i64), .imm false (.int .i64), .imm false Y53], fun x => S_spec_DrawPlayWatch x.1, true⟩
theorem ok22 : FOk Tryz.prog fa 22 s22 := fn_says env22 Tryz.func22 rfl fun x y h => let ⟨N, hN⟩ := lim_some h; ⟨N, (r22 N x.1).trans hN⟩
theorem enters22 : Enters Tryz.prog 22 := enters Tryz.func22 (by kernel_rfl) rfl
noncomputable def E28 : Env := { tab := tab, sig := [(89, s89), (90, s90)], clos := [], live := [], eqs := [], inl := [] }
set_option maxRecDepth 100000 in
theorem r28 (N : Nat) (a0 : Int) (a1 : Int) : runF N E28 Tryz.f28 [.imm false (.int .i64), .imm false (.int .i64)] [.deep true Y23, .imm false .bool] (a0, a1, ()) = p_spec_NewWatch N a0 a1 := by kernel_rfl
theorem env28 : EnvOk Tryz.prog (fa.at true) E28 := envOk mixed tabOk ⟨⟨enters89, ok89, fun _ => rfl⟩, ⟨enters90, ok90, fun _ => rfl⟩, trivial⟩ trivial trivial
noncomputable def s28 : FSpec := ⟨[.imm false (.int .i64), .imm false (.int .i64)], [.deep true Y23, .imm false .bool], fun x => S_spec_NewWatch x.1 x.2.1, true⟩
theorem ok28 : FOk Tryz.prog fa 28 s28 := fn_says env28 Tryz.func28 rfl fun x y h => ⟨0, (r28 0 x.1 x.2.1).trans h⟩
theorem enters28 : Enters Tryz.prog 28 := enters Tryz.func28 (by kernel_rfl) rfl
noncomputable def E23 : Env := { tab := tab, sig := [(28, s28), (72, s72), (73, s73)], clos := [], live := [(0, [0, 6, 9, 11, 30, 31, 32, 40, 41, 42, 43], [.take (.b 4 2) 2, .take (.b 4 3) 3])], eqs := [], inl := [] }
set_option maxRecDepth 100000 in
theorem r23 (N : Nat) (a0 : Int) (a1 : Int) (a2 : List T8) : runF N E23 Tryz.f23 [.imm false (.int .i64), .imm false (.int .i64), .imm false Y53] [.deep true Y23, .deep false Y11, .imm false .bool] (a0, a1, a2, ()) = p_spec_PlayWatch N a0 a1 a2 := by kernel_rfl
theorem env23 : EnvOk Tryz.prog (fa.at true) E23 := envOk mixed tabOk ⟨⟨enters28, ok28, fun _ => rfl⟩, ⟨enters72, ok72, fun _ => rfl⟩, ⟨enters73, ok73, fun _ => rfl⟩, trivial⟩ trivial trivial
noncomputable def s23 : FSpec := ⟨[.imm false (.int .i64), .imm false (.int .i64), .imm false Y53], [.deep true Y23, .deep false Y11, .imm false .bool], fun x => S_spec_PlayWatch x.1 x.2.1 x.2.2.1, true⟩
theorem ok23 : FOk Tryz.prog fa 23 s23 := fn_says env23 Tryz.func23 rfl fun x y h => let ⟨N, hN⟩ := lim_some h; ⟨N, (r23 N x.1 x.2.1 x.2.2.1).trans hN⟩
theorem enters23 : Enters Tryz.prog 23 := enters Tryz.func23 (by kernel_rfl) rfl
noncomputable def E88 : Env := { tab := tab, sig := [(142, s142)], clos := [], live := [], eqs := [], inl := [] }
set_option maxRecDepth 100000 in
theorem r88 (N : Nat) (a0 : T14) : runF N E88 Tryz.f88 [.ptr Y17] [.imm false (.int .i64)] (a0, ()) = p_Pspec_l1Cur_group N a0 := by kernel_rfl
theorem env88 : EnvOk Tryz.prog (fa.at true) E88 := envOk mixed tabOk ⟨⟨enters142, ok142, fun _ => rfl⟩, trivial⟩ trivial trivial
noncomputable def s88 : FSpec := ⟨[.ptr Y17], [.imm false (.int .i64)], fun x => S_Pspec_l1Cur_group x.1, true⟩
theorem ok88 : FOk Tryz.prog fa 88 s88 := fn_says env88 Tryz.func88 rfl fun x y h => ⟨0, (r88 0 x.1).trans h⟩
theorem enters88 : Enters Tryz.prog 88 := enters Tryz.func88 (by kernel_rfl) rfl
noncomputable def E24 : Env := { tab := tab, sig := [(88, s88), (85, s85)], clos := [], live := [], eqs := [], inl := [] }
set_option maxRecDepth 100000 in
theorem r24 (N : Nat) (a0 : List Int) : runF N E24 Tryz.f24 [.imm false Y0] [.imm false (.int .i64), .imm false (.int .i64), .imm false (.int .i64)] (a0, ()) = p_spec_DrawWaitOf N a0 := by kernel_rfl
theorem env24 : EnvOk Tryz.prog (fa.at true) E24 := envOk mixed tabOk ⟨⟨enters88, ok88, fun _ => rfl⟩, ⟨enters85, ok85, fun _ => rfl⟩, trivial⟩ trivial trivial
noncomputable def s24 : FSpec := ⟨[.imm false Y0], [.imm false (.int .i64), .imm false (.int .i64), .imm false (.int .i64)], fun x => S_spec_DrawWaitOf x.1, true⟩
theorem ok24 : FOk Tryz.prog fa 24 s24 := fn_says env24 Tryz.func24 rfl fun x y h => ⟨0, (r24 0 x.1).trans h⟩
theorem enters24 : Enters Tryz.prog 24 := enters Tryz.func24 (by kernel_rfl) rfl
noncomputable def E25 : Env := { tab := tab, sig := [(89, s89), (90, s90), (91, s91)], clos := [], live := [], eqs := [], inl := [] }
set_option maxRecDepth 100000 in
theorem r25 (N : Nat) (a0 : Int) (a1 : Int) (a2 : Int) : runF N E25 Tryz.f25 [.imm false (.int .i64), .imm false (.int .i64), .imm false (.int .i64)] [.imm false (.int .i64), .imm false .bool] (a0, a1, a2, ()) = p_spec_WaitOf N a0 a1 a2 := by kernel_rfl
theorem env25 : EnvOk Tryz.prog (fa.at true) E25 := envOk mixed tabOk ⟨⟨enters89, ok89, fun _ => rfl⟩, ⟨enters90, ok90, fun _ => rfl⟩, ⟨enters91, ok91, fun _ => rfl⟩, trivial⟩ trivial trivial
noncomputable def s25 : FSpec := ⟨[.imm false (.int .i64), .imm false (.int .i64), .imm false (.int .i64)], [.imm false (.int .i64), .imm false .bool], fun x => S_spec_WaitOf x.1 x.2.1 x.2.2.1, true⟩
theorem ok25 : FOk Tryz.prog fa 25 s25 := fn_says env25 Tryz.func25 rfl fun x y h => ⟨0, (r25 0 x.1 x.2.1 x.2.2.1).trans h⟩
theorem enters25 : Enters Tryz.prog 25 := enters Tryz.func25 (by kernel_rfl) rfl
noncomputable def E92 : Env := { tab := tab, sig := [(88, s88), (85, s85)], clos := [], live := [], eqs := [], inl := [] }
set_option maxRecDepth 100000 in
theorem r92 (N : Nat) (a0 : List Int) : runF N E92 Tryz.f92 [.imm false Y0] [.imm false (.int .i64), .imm false (.int .i64)] (a0, ()) = p_spec_DrawNewReplica N a0 := by kernel_rfl
theorem env92 : EnvOk Tryz.prog (fa.at true) E92 := envOk mixed tabOk ⟨⟨enters88, ok88, fun _ => rfl⟩, ⟨enters85, ok85, fun _ => rfl⟩, trivial⟩ trivial trivial
noncomputable def s92 : FSpec := ⟨[.imm false Y0], [.imm false (.int .i64), .imm false (.int .i64)], fun x => S_spec_DrawNewReplica x.1, true⟩
theorem ok92 : FOk Tryz.prog fa 92 s92 := fn_says env92 Tryz.func92 rfl fun x y h => ⟨0, (r92 0 x.1).trans h⟩
theorem enters92 : Enters Tryz.prog 92 := enters Tryz.func92 (by kernel_rfl) rfl
noncomputable def E26 : Env := { tab := tab, sig := [(92, s92)], clos := [], live := [], eqs := [], inl := [] }
set_option maxRecDepth 100000 in
theorem r26 (N : Nat) (a0 : List Int) : runF N E26 Tryz.f26 [.imm false Y0] [.imm false (.int .i64), .imm false (.int .i64)] (a0, ()) = p_spec_DrawNewWatch N a0 := by kernel_rfl
theorem env26 : EnvOk Tryz.prog (fa.at true) E26 := envOk mixed tabOk ⟨⟨enters92, ok92, fun _ => rfl⟩, trivial⟩ trivial trivial
noncomputable def s26 : FSpec := ⟨[.imm false Y0], [.imm false (.int .i64), .imm false (.int .i64)], fun x => S_spec_DrawNewWatch x.1, true⟩
theorem ok26 : FOk Tryz.prog fa 26 s26 := fn_says env26 Tryz.func26 rfl fun x y h => ⟨0, (r26 0 x.1).trans h⟩
theorem enters26 : Enters Tryz.prog 26 := enters Tryz.func26 (by kernel_rfl) rfl
noncomputable def E29 : Env := { tab := tab, sig := [(16, s16)], clos := [], live := [(0, [0, 1, 12, 13], [])], eqs := [], inl := [] }
set_option maxRecDepth 100000 in
theorem r29 (N : Nat) (a0 : List (List (List Int))) (a1 : List (List (List Int))) : runF N E29 Tryz.f29 [.imm false Y11, .imm false Y11] [.imm false .bool] (a0, a1, ()) = p_laws_sameAll N a0 a1 := by kernel_rfl
theorem env29 : EnvOk Tryz.prog (fa.at true) E29 := envOk mixed tabOk ⟨⟨enters16, ok16, fun _ => rfl⟩, trivial⟩ trivial trivial
noncomputable def s29 : FSpec := ⟨[.imm false Y11, .imm false Y11], [.imm false .bool], fun x => S_laws_sameAll x.1 x.2.1, true⟩
theorem ok29 : FOk Tryz.prog fa 29 s29 := fn_says env29 Tryz.func29 rfl fun x y h => let ⟨N, hN⟩ := lim_some h; ⟨N, (r29 N x.1 x.2.1).trans hN⟩
theorem enters29 : Enters Tryz.prog 29 := enters Tryz.func29 (by kernel_rfl) rfl
noncomputable def E3 : Env := { tab := tab, sig := [(9, s9), (10, s10), (11, s11), (12, s12), (13, s13), (14, s14), (15, s15), (16, s16), (17, s17), (18, s18), (19, s19), (20, s20), (21, s21), (22, s22), (23, s23), (24, s24), (25, s25), (26, s26), (27, s27), (28, s28), (29, s29)], clos := [], live := [(0, [1, 6, 13, 14, 125, 126, 127, 138, 139, 140, 184, 185, 188, 189, 190, 191, 194, 195, 196, 199, 200, 201, 202, 203, 204, 205, 206, 207, 210, 211, 212, 213, 214, 279, 280, 281, 284, 285, 286, 289, 290, 291, 294, 295, 296, 299, 300, 301, 304, 305, 306], []), (2, [1, 6, 13, 19, 20, 184, 185, 188, 189, 190, 191, 194, 195, 196, 199, 200, 201, 202, 203, 204, 205, 206, 207, 210, 211, 212, 213, 214, 279, 280, 281, 284, 285, 286, 289, 290, 291, 294, 295, 296, 299, 300, 301, 304, 305, 306], [])], eqs := [], inl := [], brw := true, cuts := [(19, [1, 6, 13, 14, 138, 139, 140, 184, 185, 188, 189, 190, 191, 194, 195, 196, 199, 200, 201, 202, 203, 204, 205, 206, 207, 210, 211, 212, 213, 214, 279, 280, 281, 284, 285, 286, 289, 290, 291, 294, 295, 296, 299, 300, 301, 304, 305, 306], []), (29, [1, 279, 280, 281, 284, 285, 286, 289, 290, 291, 294, 295, 296, 299, 300, 301, 304, 305, 306], [])] }
set_option maxRecDepth 100000 in
theorem r3 (N : Nat) (a0 : List Int) (a1 : List Int) : runF N E3 Tryz.f3 [.imm false Y0, .imm false Y0] [.imm false .bool] (a0, a1, ()) = p_laws_FnWatched N a0 a1 := by kernel_rfl
theorem env3 : EnvOk Tryz.prog (fa.at true) E3 := envOk mixed tabOk ⟨⟨enters9, ok9, fun _ => rfl⟩, ⟨enters10, ok10, fun _ => rfl⟩, ⟨enters11, ok11, fun _ => rfl⟩, ⟨enters12, ok12, fun _ => rfl⟩, ⟨enters13, ok13, fun _ => rfl⟩, ⟨enters14, ok14, fun _ => rfl⟩, ⟨enters15, ok15, fun _ => rfl⟩, ⟨enters16, ok16, fun _ => rfl⟩, ⟨enters17, ok17, fun _ => rfl⟩, ⟨enters18, ok18, fun _ => rfl⟩, ⟨enters19, ok19, fun _ => rfl⟩, ⟨enters20, ok20, fun _ => rfl⟩, ⟨enters21, ok21, fun _ => rfl⟩, ⟨enters22, ok22, fun _ => rfl⟩, ⟨enters23, ok23, fun _ => rfl⟩, ⟨enters24, ok24, fun _ => rfl⟩, ⟨enters25, ok25, fun _ => rfl⟩, ⟨enters26, ok26, fun _ => rfl⟩, ⟨enters27, ok27, fun _ => rfl⟩, ⟨enters28, ok28, fun _ => rfl⟩, ⟨enters29, ok29, fun _ => rfl⟩, trivial⟩ trivial trivial
end Go.Proofs.YtdcbankajhnepaaGreat.Am
