/- Functions, as they run on data. No condition. -/
import Derived.Test.YtmnekhlgldljcaaGreatDoorAmFn3
set_option linter.unusedVariables false
set_option maxRecDepth 100000
namespace Go.Proofs.YtmnekhlgldljcaaGreatDoor.Am
open Go.AM Go.AM.P Go.Proofs Go.Shelf
noncomputable def E66 : Env := { tab := tab, sig := [(94, s94), (37, s37), (54, s54), (95, s95), (96, s96), (97, s97), (53, s53)], clos := [], live := [(0, [0, 4, 7, 8, 9, 35, 36, 37, 45, 46, 47, 48, 49, 56, 57, 58, 77, 78, 79, 80, 81, 82, 83], []), (2, [0, 4, 7, 9, 12, 62, 63, 64, 77, 78, 79, 80, 81, 82, 83], [])], eqs := [], inl := [] }
set_option maxRecDepth 100000 in
theorem r66 (N : Nat) (a0 : Int) (a1 : ByteArray) : runF N E66 Tryz.f66 [.imm false (.int .i64), .imm false .str] [.deep true (.pair (.int .i64) (.pair (.int .i64) (.pair (.int .i64) (.pair (.int .i64) (.pair (.int .i64) (.pair (.int .i64) (.pair (.int .i64) (.pair (.int .i64) (.pair (.pair (.int .i64) (.pair (.int .i64) (.pair (.int .i64) (.pair (.int .i64) (.pair (.int .i64) .unit))))) (.pair (.pair (.int .i64) (.pair (.slice 3 (.int .i64)) .unit)) .unit)))))))))), .imm false (.int .i64), .imm false .bool] (a0, a1, ()) = p_spec_ReadMsg N a0 a1 := by kernel_rfl
theorem env66 : EnvOk Tryz.prog (fa.at true) E66 := envOk mixed tabOk ⟨⟨enters94, ok94, fun _ => rfl⟩, ⟨enters37, ok37, fun _ => rfl⟩, ⟨enters54, ok54, fun _ => rfl⟩, ⟨enters95, ok95, fun _ => rfl⟩, ⟨enters96, ok96, fun _ => rfl⟩, ⟨enters97, ok97, fun _ => rfl⟩, ⟨enters53, ok53, fun _ => rfl⟩, trivial⟩ trivial trivial
noncomputable def s66 : FSpec := ⟨[.imm false (.int .i64), .imm false .str], [.deep true (.pair (.int .i64) (.pair (.int .i64) (.pair (.int .i64) (.pair (.int .i64) (.pair (.int .i64) (.pair (.int .i64) (.pair (.int .i64) (.pair (.int .i64) (.pair (.pair (.int .i64) (.pair (.int .i64) (.pair (.int .i64) (.pair (.int .i64) (.pair (.int .i64) .unit))))) (.pair (.pair (.int .i64) (.pair (.slice 3 (.int .i64)) .unit)) .unit)))))))))), .imm false (.int .i64), .imm false .bool], fun x => S_spec_ReadMsg x.1 x.2.1, true⟩
theorem ok66 : FOk Tryz.prog fa 66 s66 := fn_says env66 Tryz.func66 rfl fun x y h => let ⟨N, hN⟩ := lim_some h; ⟨N, (r66 N x.1 x.2.1).trans hN⟩
theorem enters66 : Enters Tryz.prog 66 := enters Tryz.func66 (by kernel_rfl) rfl
noncomputable def E38 : Env := { tab := tab, sig := [(66, s66), (31, s31), (30, s30)], clos := [], live := [], eqs := [], inl := [] }
set_option maxRecDepth 100000 in
theorem r38 (N : Nat) (a0 : Int) (a1 : ByteArray) : runF N E38 Tryz.f38 [.imm false (.int .i64), .imm false .str] [.deep true (.pair (.int .i64) (.pair (.int .i64) (.pair (.int .i64) (.pair (.int .i64) (.pair (.int .i64) (.pair (.int .i64) (.pair (.int .i64) (.pair (.int .i64) (.pair (.pair (.int .i64) (.pair (.int .i64) (.pair (.int .i64) (.pair (.int .i64) (.pair (.int .i64) .unit))))) (.pair (.pair (.int .i64) (.pair (.slice 3 (.int .i64)) .unit)) .unit)))))))))), .imm false (.int .i64)] (a0, a1, ()) = p_spec_l21One N a0 a1 := by kernel_rfl
theorem env38 : EnvOk Tryz.prog (fa.at true) E38 := envOk mixed tabOk ⟨⟨enters66, ok66, fun _ => rfl⟩, ⟨enters31, ok31, fun _ => rfl⟩, ⟨enters30, ok30, fun _ => rfl⟩, trivial⟩ trivial trivial
noncomputable def s38 : FSpec := ⟨[.imm false (.int .i64), .imm false .str], [.deep true (.pair (.int .i64) (.pair (.int .i64) (.pair (.int .i64) (.pair (.int .i64) (.pair (.int .i64) (.pair (.int .i64) (.pair (.int .i64) (.pair (.int .i64) (.pair (.pair (.int .i64) (.pair (.int .i64) (.pair (.int .i64) (.pair (.int .i64) (.pair (.int .i64) .unit))))) (.pair (.pair (.int .i64) (.pair (.slice 3 (.int .i64)) .unit)) .unit)))))))))), .imm false (.int .i64)], fun x => S_spec_l21One x.1 x.2.1, true⟩
theorem ok38 : FOk Tryz.prog fa 38 s38 := fn_says env38 Tryz.func38 rfl fun x y h => ⟨0, (r38 0 x.1 x.2.1).trans h⟩
theorem enters38 : Enters Tryz.prog 38 := enters Tryz.func38 (by kernel_rfl) rfl
noncomputable def E46 : Env := { tab := tab, sig := [(38, s38)], clos := [], live := [(0, [0, 2, 6, 8, 9], [])], eqs := [], inl := [] }
set_option maxRecDepth 100000 in
theorem r46 (N : Nat) (a0 : Int) (a1 : T15) (a2 : ByteArray) : runF N E46 Tryz.f46 [.imm false (.int .i64), .imm true (.pair .str (.pair (.int .i64) .unit)), .imm false .str] [.imm true (.pair .str (.pair (.int .i64) .unit)), .deep false (.slice 30 (.pair (.int .i64) (.pair (.int .i64) (.pair (.int .i64) (.pair (.int .i64) (.pair (.int .i64) (.pair (.int .i64) (.pair (.int .i64) (.pair (.int .i64) (.pair (.pair (.int .i64) (.pair (.int .i64) (.pair (.int .i64) (.pair (.int .i64) (.pair (.int .i64) .unit))))) (.pair (.pair (.int .i64) (.pair (.slice 3 (.int .i64)) .unit)) .unit)))))))))))] (a0, a1, a2, ()) = p_spec_l21Feed N a0 a1 a2 := by kernel_rfl
theorem env46 : EnvOk Tryz.prog (fa.at true) E46 := envOk mixed tabOk ⟨⟨enters38, ok38, fun _ => rfl⟩, trivial⟩ trivial trivial
noncomputable def s46 : FSpec := ⟨[.imm false (.int .i64), .imm true (.pair .str (.pair (.int .i64) .unit)), .imm false .str], [.imm true (.pair .str (.pair (.int .i64) .unit)), .deep false (.slice 30 (.pair (.int .i64) (.pair (.int .i64) (.pair (.int .i64) (.pair (.int .i64) (.pair (.int .i64) (.pair (.int .i64) (.pair (.int .i64) (.pair (.int .i64) (.pair (.pair (.int .i64) (.pair (.int .i64) (.pair (.int .i64) (.pair (.int .i64) (.pair (.int .i64) .unit))))) (.pair (.pair (.int .i64) (.pair (.slice 3 (.int .i64)) .unit)) .unit)))))))))))], fun x => S_spec_l21Feed x.1 x.2.1 x.2.2.1, true⟩
theorem ok46 : FOk Tryz.prog fa 46 s46 := fn_says env46 Tryz.func46 rfl fun x y h => let ⟨N, hN⟩ := lim_some h; ⟨N, (r46 N x.1 x.2.1 x.2.2.1).trans hN⟩
theorem enters46 : Enters Tryz.prog 46 := enters Tryz.func46 (by kernel_rfl) rfl
noncomputable def E22 : Env := { tab := tab, sig := [(37, s37), (45, s45), (46, s46)], clos := [], live := [], eqs := [], inl := [] }
set_option maxRecDepth 100000 in
theorem r22 (N : Nat) (a0 : Int) (a1 : T15) (a2 : ByteArray) : runF N E22 Tryz.f22 [.imm false (.int .i64), .imm true (.pair .str (.pair (.int .i64) .unit)), .imm false .str] [.imm true (.pair .str (.pair (.int .i64) .unit)), .deep false (.slice 30 (.pair (.int .i64) (.pair (.int .i64) (.pair (.int .i64) (.pair (.int .i64) (.pair (.int .i64) (.pair (.int .i64) (.pair (.int .i64) (.pair (.int .i64) (.pair (.pair (.int .i64) (.pair (.int .i64) (.pair (.int .i64) (.pair (.int .i64) (.pair (.int .i64) .unit))))) (.pair (.pair (.int .i64) (.pair (.slice 3 (.int .i64)) .unit)) .unit))))))))))), .imm false .bool] (a0, a1, a2, ()) = p_spec_FeedReader N a0 a1 a2 := by kernel_rfl
theorem env22 : EnvOk Tryz.prog (fa.at true) E22 := envOk mixed tabOk ⟨⟨enters37, ok37, fun _ => rfl⟩, ⟨enters45, ok45, fun _ => rfl⟩, ⟨enters46, ok46, fun _ => rfl⟩, trivial⟩ trivial trivial
noncomputable def s22 : FSpec := ⟨[.imm false (.int .i64), .imm true (.pair .str (.pair (.int .i64) .unit)), .imm false .str], [.imm true (.pair .str (.pair (.int .i64) .unit)), .deep false (.slice 30 (.pair (.int .i64) (.pair (.int .i64) (.pair (.int .i64) (.pair (.int .i64) (.pair (.int .i64) (.pair (.int .i64) (.pair (.int .i64) (.pair (.int .i64) (.pair (.pair (.int .i64) (.pair (.int .i64) (.pair (.int .i64) (.pair (.int .i64) (.pair (.int .i64) .unit))))) (.pair (.pair (.int .i64) (.pair (.slice 3 (.int .i64)) .unit)) .unit))))))))))), .imm false .bool], fun x => S_spec_FeedReader x.1 x.2.1 x.2.2.1, true⟩
theorem ok22 : FOk Tryz.prog fa 22 s22 := fn_says env22 Tryz.func22 rfl fun x y h => ⟨0, (r22 0 x.1 x.2.1 x.2.2.1).trans h⟩
theorem enters22 : Enters Tryz.prog 22 := enters Tryz.func22 (by kernel_rfl) rfl
noncomputable def E44 : Env := { tab := tab, sig := [(43, s43)], clos := [], live := [], eqs := [], inl := [] }
set_option maxRecDepth 100000 in
theorem r44 (N : Nat) (a0 : T14) (a1 : List ByteArray) : runF N E44 Tryz.f44 [.ptr (.pair (.slice 5 (.int .u8)) (.pair (.int .i64) (.pair (.int .u64) .unit))), .imm false (.slice 9 .str)] [.imm false .str] (a0, a1, ()) = p_Pspec_l1Cur_of N a0 a1 := by kernel_rfl
theorem env44 : EnvOk Tryz.prog (fa.at true) E44 := envOk mixed tabOk ⟨⟨enters43, ok43, fun _ => rfl⟩, trivial⟩ trivial trivial
noncomputable def s44 : FSpec := ⟨[.ptr (.pair (.slice 5 (.int .u8)) (.pair (.int .i64) (.pair (.int .u64) .unit))), .imm false (.slice 9 .str)], [.imm false .str], fun x => S_Pspec_l1Cur_of x.1 x.2.1, true⟩
theorem ok44 : FOk Tryz.prog fa 44 s44 := fn_says env44 Tryz.func44 rfl fun x y h => ⟨0, (r44 0 x.1 x.2.1).trans h⟩
theorem enters44 : Enters Tryz.prog 44 := enters Tryz.func44 (by kernel_rfl) rfl
noncomputable def E20 : Env := { tab := tab, sig := [(42, s42), (43, s43), (22, s22), (35, s35), (44, s44), (39, s39)], clos := [], live := [], eqs := [], inl := [], imm := [35] }
set_option maxRecDepth 100000 in
theorem r20 (N : Nat) (a0 : List Int) : runF N E20 Tryz.f20 [.imm false (.slice 5 (.int .u8))] [.imm false (.int .i64), .imm true (.pair .str (.pair (.int .i64) .unit)), .imm false .str] (a0, ()) = p_spec_DrawFeedReader N a0 := by kernel_rfl
theorem env20 : EnvOk Tryz.prog (fa.at true) E20 := envOk mixed tabOk ⟨⟨enters42, ok42, fun _ => rfl⟩, ⟨enters43, ok43, fun _ => rfl⟩, ⟨enters22, ok22, fun _ => rfl⟩, ⟨enters35, ok35, fun _ => rfl⟩, ⟨enters44, ok44, fun _ => rfl⟩, ⟨enters39, ok39, fun _ => rfl⟩, trivial⟩ trivial trivial
noncomputable def s20 : FSpec := ⟨[.imm false (.slice 5 (.int .u8))], [.imm false (.int .i64), .imm true (.pair .str (.pair (.int .i64) .unit)), .imm false .str], fun x => S_spec_DrawFeedReader x.1, true⟩
theorem ok20 : FOk Tryz.prog fa 20 s20 := fn_says env20 Tryz.func20 rfl fun x y h => ⟨0, (r20 0 x.1).trans h⟩
theorem enters20 : Enters Tryz.prog 20 := enters Tryz.func20 (by kernel_rfl) rfl
noncomputable def E10 : Env := { tab := tab, sig := [], clos := [], live := [(0, [3, 6, 7, 8], [])], eqs := [], inl := [] }
set_option maxRecDepth 100000 in
theorem r10 (N : Nat) (a0 : List Int) : runF N E10 Tryz.f10 [.imm false (.slice 5 (.int .u8))] [.imm false (.int .i64)] (a0, ()) = p_laws_numberOf N a0 := by kernel_rfl
theorem env10 : EnvOk Tryz.prog (fa.at true) E10 := envOk mixed tabOk trivial trivial trivial
noncomputable def s10 : FSpec := ⟨[.imm false (.slice 5 (.int .u8))], [.imm false (.int .i64)], fun x => S_laws_numberOf x.1, true⟩
theorem ok10 : FOk Tryz.prog fa 10 s10 := fn_says env10 Tryz.func10 rfl fun x y h => let ⟨N, hN⟩ := lim_some h; ⟨N, (r10 N x.1).trans hN⟩
theorem enters10 : Enters Tryz.prog 10 := enters Tryz.func10 (by kernel_rfl) rfl
noncomputable def E23 : Env := { tab := tab, sig := [(42, s42)], clos := [], live := [], eqs := [], inl := [] }
set_option maxRecDepth 100000 in
theorem r23 (N : Nat) (a0 : List Int) : runF N E23 Tryz.f23 [.imm false (.slice 5 (.int .u8))] [.imm false (.int .i64), .imm false .str] (a0, ()) = p_spec_DrawReadWire N a0 := by kernel_rfl
theorem env23 : EnvOk Tryz.prog (fa.at true) E23 := envOk mixed tabOk ⟨⟨enters42, ok42, fun _ => rfl⟩, trivial⟩ trivial trivial
noncomputable def s23 : FSpec := ⟨[.imm false (.slice 5 (.int .u8))], [.imm false (.int .i64), .imm false .str], fun x => S_spec_DrawReadWire x.1, true⟩
theorem ok23 : FOk Tryz.prog fa 23 s23 := fn_says env23 Tryz.func23 rfl fun x y h => ⟨0, (r23 0 x.1).trans h⟩
theorem enters23 : Enters Tryz.prog 23 := enters Tryz.func23 (by kernel_rfl) rfl
noncomputable def E24 : Env := { tab := tab, sig := [(37, s37), (46, s46)], clos := [], live := [], eqs := [], inl := [] }
set_option maxRecDepth 100000 in
theorem r24 (N : Nat) (a0 : Int) (a1 : ByteArray) : runF N E24 Tryz.f24 [.imm false (.int .i64), .imm false .str] [.deep false (.slice 30 (.pair (.int .i64) (.pair (.int .i64) (.pair (.int .i64) (.pair (.int .i64) (.pair (.int .i64) (.pair (.int .i64) (.pair (.int .i64) (.pair (.int .i64) (.pair (.pair (.int .i64) (.pair (.int .i64) (.pair (.int .i64) (.pair (.int .i64) (.pair (.int .i64) .unit))))) (.pair (.pair (.int .i64) (.pair (.slice 3 (.int .i64)) .unit)) .unit))))))))))), .imm false (.int .i64), .imm false .bool] (a0, a1, ()) = p_spec_ReadWire N a0 a1 := by kernel_rfl
theorem env24 : EnvOk Tryz.prog (fa.at true) E24 := envOk mixed tabOk ⟨⟨enters37, ok37, fun _ => rfl⟩, ⟨enters46, ok46, fun _ => rfl⟩, trivial⟩ trivial trivial
noncomputable def s24 : FSpec := ⟨[.imm false (.int .i64), .imm false .str], [.deep false (.slice 30 (.pair (.int .i64) (.pair (.int .i64) (.pair (.int .i64) (.pair (.int .i64) (.pair (.int .i64) (.pair (.int .i64) (.pair (.int .i64) (.pair (.int .i64) (.pair (.pair (.int .i64) (.pair (.int .i64) (.pair (.int .i64) (.pair (.int .i64) (.pair (.int .i64) .unit))))) (.pair (.pair (.int .i64) (.pair (.slice 3 (.int .i64)) .unit)) .unit))))))))))), .imm false (.int .i64), .imm false .bool], fun x => S_spec_ReadWire x.1 x.2.1, true⟩
theorem ok24 : FOk Tryz.prog fa 24 s24 := fn_says env24 Tryz.func24 rfl fun x y h => ⟨0, (r24 0 x.1 x.2.1).trans h⟩
theorem enters24 : Enters Tryz.prog 24 := enters Tryz.func24 (by kernel_rfl) rfl
noncomputable def E25 : Env := { tab := tab, sig := [(42, s42), (43, s43), (39, s39)], clos := [], live := [], eqs := [], inl := [] }
set_option maxRecDepth 100000 in
theorem r25 (N : Nat) (a0 : List Int) : runF N E25 Tryz.f25 [.imm false (.slice 5 (.int .u8))] [.imm false .str, .imm false (.int .i64), .imm false (.int .i64)] (a0, ()) = p_spec_DrawSpoilByte N a0 := by kernel_rfl
theorem env25 : EnvOk Tryz.prog (fa.at true) E25 := envOk mixed tabOk ⟨⟨enters42, ok42, fun _ => rfl⟩, ⟨enters43, ok43, fun _ => rfl⟩, ⟨enters39, ok39, fun _ => rfl⟩, trivial⟩ trivial trivial
noncomputable def s25 : FSpec := ⟨[.imm false (.slice 5 (.int .u8))], [.imm false .str, .imm false (.int .i64), .imm false (.int .i64)], fun x => S_spec_DrawSpoilByte x.1, true⟩
theorem ok25 : FOk Tryz.prog fa 25 s25 := fn_says env25 Tryz.func25 rfl fun x y h => ⟨0, (r25 0 x.1).trans h⟩
theorem enters25 : Enters Tryz.prog 25 := enters Tryz.func25 (by kernel_rfl) rfl
noncomputable def E11 : Env := { tab := tab, sig := [(33, s33)], clos := [], live := [], eqs := [], inl := [] }
set_option maxRecDepth 100000 in
theorem r11 (N : Nat) (a0 : ByteArray) (a1 : Int) (a2 : Int) : runF N E11 Tryz.f11 [.imm false .str, .imm false (.int .i64), .imm false (.int .i64)] [.imm false .str, .imm false .bool] (a0, a1, a2, ()) = p_impl_SpoilByte N a0 a1 a2 := by kernel_rfl
theorem env11 : EnvOk Tryz.prog (fa.at true) E11 := envOk mixed tabOk ⟨⟨enters33, ok33, fun _ => rfl⟩, trivial⟩ trivial trivial
noncomputable def s11 : FSpec := ⟨[.imm false .str, .imm false (.int .i64), .imm false (.int .i64)], [.imm false .str, .imm false .bool], fun x => S_impl_SpoilByte x.1 x.2.1 x.2.2.1, true⟩
theorem ok11 : FOk Tryz.prog fa 11 s11 := fn_says env11 Tryz.func11 rfl fun x y h => ⟨0, (r11 0 x.1 x.2.1 x.2.2.1).trans h⟩
theorem enters11 : Enters Tryz.prog 11 := enters Tryz.func11 (by kernel_rfl) rfl
noncomputable def E4 : Env := { tab := tab, sig := [(5, s5), (15, s15), (16, s16), (17, s17), (18, s18), (19, s19), (20, s20), (21, s21), (22, s22), (10, s10), (23, s23), (24, s24), (25, s25), (11, s11), (26, s26)], clos := [], live := [], eqs := [(50, [true, false])], inl := [], q := false, res := true, cuts := [(12, [0, 1, 119, 120, 121, 124, 125, 126, 127, 131, 132, 133, 134, 164, 165, 166, 167, 170, 171, 172, 173, 174, 175, 176, 177, 178, 179, 180, 181, 182, 183, 184, 229, 230, 231, 234, 235, 236, 239, 240, 241, 244, 245, 246], []), (23, [1, 229, 230, 231, 234, 235, 236, 239, 240, 241, 244, 245, 246], [])] }
set_option maxRecDepth 100000 in
theorem r4 (N : Nat) (a0 : List Int) (a1 : List Int) : runF N E4 Tryz.f4 [.imm false (.slice 5 (.int .u8)), .imm false (.slice 5 (.int .u8))] [.imm false .bool] (a0, a1, ()) = p_laws_FnWire N a0 a1 := by kernel_rfl
theorem env4 : EnvOk Tryz.prog (fa.at false) E4 := envOk mixed tabOk ⟨⟨enters5, ok5, fun _ => rfl⟩, ⟨enters15, ok15, fun _ => rfl⟩, ⟨enters16, ok16, fun h => h⟩, ⟨enters17, ok17, fun _ => rfl⟩, ⟨enters18, ok18, fun _ => rfl⟩, ⟨enters19, ok19, fun _ => rfl⟩, ⟨enters20, ok20, fun _ => rfl⟩, ⟨enters21, ok21, fun _ => rfl⟩, ⟨enters22, ok22, fun _ => rfl⟩, ⟨enters10, ok10, fun _ => rfl⟩, ⟨enters23, ok23, fun _ => rfl⟩, ⟨enters24, ok24, fun _ => rfl⟩, ⟨enters25, ok25, fun _ => rfl⟩, ⟨enters11, ok11, fun _ => rfl⟩, ⟨enters26, ok26, fun _ => rfl⟩, trivial⟩ trivial ⟨eq50, trivial⟩
end Go.Proofs.YtmnekhlgldljcaaGreatDoor.Am
