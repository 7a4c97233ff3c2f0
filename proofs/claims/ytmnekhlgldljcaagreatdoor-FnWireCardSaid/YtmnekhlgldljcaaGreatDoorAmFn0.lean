/- Functions, as they run on data. No condition. -/
import Derived.Test.YtmnekhlgldljcaaGreatDoorAmTab
import Derived.Test.YtmnekhlgldljcaaGreatDoorAmQ
set_option linter.unusedVariables false
set_option maxRecDepth 100000
namespace Go.Proofs.YtmnekhlgldljcaaGreatDoor.Am
open Go.AM Go.AM.P Go.Proofs Go.Shelf
noncomputable def E5 : Env := { tab := tab, sig := [], clos := [], live := [], eqs := [], inl := [] }
set_option maxRecDepth 100000 in
theorem r5 (N : Nat) (a0 : List Int) (a1 : List Int) : runF N E5 Tryz.f5 [.imm false (.slice 5 (.int .u8)), .imm false (.slice 5 (.int .u8))] [.imm false .bool] (a0, a1, ()) = p_laws_big N a0 a1 := by kernel_rfl
theorem env5 : EnvOk Tryz.prog (fa.at true) E5 := envOk mixed tabOk trivial trivial trivial
noncomputable def s5 : FSpec := ⟨[.imm false (.slice 5 (.int .u8)), .imm false (.slice 5 (.int .u8))], [.imm false .bool], fun x => S_laws_big x.1 x.2.1, true⟩
theorem ok5 : FOk Tryz.prog fa 5 s5 := fn_says env5 Tryz.func5 rfl fun x y h => ⟨0, (r5 0 x.1 x.2.1).trans h⟩
theorem enters5 : Enters Tryz.prog 5 := enters Tryz.func5 (by kernel_rfl) rfl
noncomputable def E67 : Env := { tab := tab, sig := [], clos := [], live := [], eqs := [], inl := [] }
set_option maxRecDepth 100000 in
theorem r67 (N : Nat) (a0 : T14) : runF N E67 Tryz.f67 [.ptr (.pair (.slice 5 (.int .u8)) (.pair (.int .i64) (.pair (.int .u64) .unit)))] [.imm false (.int .i64)] (a0, ()) = p_Pspec_l1Cur_next N a0 := by kernel_rfl
theorem env67 : EnvOk Tryz.prog (fa.at true) E67 := envOk mixed tabOk trivial trivial trivial
noncomputable def s67 : FSpec := ⟨[.ptr (.pair (.slice 5 (.int .u8)) (.pair (.int .i64) (.pair (.int .u64) .unit)))], [.imm false (.int .i64)], fun x => S_Pspec_l1Cur_next x.1, true⟩
theorem ok67 : FOk Tryz.prog fa 67 s67 := fn_says env67 Tryz.func67 rfl fun x y h => ⟨0, (r67 0 x.1).trans h⟩
theorem enters67 : Enters Tryz.prog 67 := enters Tryz.func67 (by kernel_rfl) rfl
noncomputable def E43 : Env := { tab := tab, sig := [(67, s67)], clos := [], live := [], eqs := [], inl := [] }
set_option maxRecDepth 100000 in
theorem r43 (N : Nat) (a0 : T14) (a1 : Int) : runF N E43 Tryz.f43 [.ptr (.pair (.slice 5 (.int .u8)) (.pair (.int .i64) (.pair (.int .u64) .unit))), .imm false (.int .i64)] [.imm false (.int .i64)] (a0, a1, ()) = p_Pspec_l1Cur_pick N a0 a1 := by kernel_rfl
theorem env43 : EnvOk Tryz.prog (fa.at true) E43 := envOk mixed tabOk ⟨⟨enters67, ok67, fun _ => rfl⟩, trivial⟩ trivial trivial
noncomputable def s43 : FSpec := ⟨[.ptr (.pair (.slice 5 (.int .u8)) (.pair (.int .i64) (.pair (.int .u64) .unit))), .imm false (.int .i64)], [.imm false (.int .i64)], fun x => S_Pspec_l1Cur_pick x.1 x.2.1, true⟩
theorem ok43 : FOk Tryz.prog fa 43 s43 := fn_says env43 Tryz.func43 rfl fun x y h => ⟨0, (r43 0 x.1 x.2.1).trans h⟩
theorem enters43 : Enters Tryz.prog 43 := enters Tryz.func43 (by kernel_rfl) rfl
noncomputable def E39 : Env := { tab := tab, sig := [(43, s43)], clos := [], live := [], eqs := [], inl := [] }
set_option maxRecDepth 100000 in
theorem r39 (N : Nat) (a0 : T14) (a1 : List Int) : runF N E39 Tryz.f39 [.ptr (.pair (.slice 5 (.int .u8)) (.pair (.int .i64) (.pair (.int .u64) .unit))), .imm false (.slice 3 (.int .i64))] [.imm false (.int .i64)] (a0, a1, ()) = p_Pspec_l1Cur_among N a0 a1 := by kernel_rfl
theorem env39 : EnvOk Tryz.prog (fa.at true) E39 := envOk mixed tabOk ⟨⟨enters43, ok43, fun _ => rfl⟩, trivial⟩ trivial trivial
noncomputable def s39 : FSpec := ⟨[.ptr (.pair (.slice 5 (.int .u8)) (.pair (.int .i64) (.pair (.int .u64) .unit))), .imm false (.slice 3 (.int .i64))], [.imm false (.int .i64)], fun x => S_Pspec_l1Cur_among x.1 x.2.1, true⟩
theorem ok39 : FOk Tryz.prog fa 39 s39 := fn_says env39 Tryz.func39 rfl fun x y h => ⟨0, (r39 0 x.1 x.2.1).trans h⟩
theorem enters39 : Enters Tryz.prog 39 := enters Tryz.func39 (by kernel_rfl) rfl
noncomputable def E69 : Env := { tab := tab, sig := [], clos := [], live := [], eqs := [], inl := [] }
set_option maxRecDepth 100000 in
theorem r69 (N : Nat) (a0 : Int) (a1 : Int) : runF N E69 Tryz.f69 [.imm false (.int .i64), .imm false (.int .i64)] [.imm false (.int .i64)] (a0, a1, ()) = p_spec_l1Most N a0 a1 := by kernel_rfl
theorem env69 : EnvOk Tryz.prog (fa.at true) E69 := envOk mixed tabOk trivial trivial trivial
noncomputable def s69 : FSpec := ⟨[.imm false (.int .i64), .imm false (.int .i64)], [.imm false (.int .i64)], fun x => S_spec_l1Most x.1 x.2.1, true⟩
theorem ok69 : FOk Tryz.prog fa 69 s69 := fn_says env69 Tryz.func69 rfl fun x y h => ⟨0, (r69 0 x.1 x.2.1).trans h⟩
theorem enters69 : Enters Tryz.prog 69 := enters Tryz.func69 (by kernel_rfl) rfl
noncomputable def E68 : Env := { tab := tab, sig := [], clos := [], live := [], eqs := [], inl := [] }
set_option maxRecDepth 100000 in
theorem r68 (N : Nat) (a0 : Int) : runF N E68 Tryz.f68 [.imm false (.int .i64)] [.deep true (.pair (.int .i64) (.pair (.slice 3 (.int .i64)) .unit))] (a0, ()) = p_spec_l3None N a0 := by kernel_rfl
theorem env68 : EnvOk Tryz.prog (fa.at true) E68 := envOk mixed tabOk trivial trivial trivial
noncomputable def s68 : FSpec := ⟨[.imm false (.int .i64)], [.deep true (.pair (.int .i64) (.pair (.slice 3 (.int .i64)) .unit))], fun x => S_spec_l3None x.1, true⟩
theorem ok68 : FOk Tryz.prog fa 68 s68 := fn_says env68 Tryz.func68 rfl fun x y h => ⟨0, (r68 0 x.1).trans h⟩
theorem enters68 : Enters Tryz.prog 68 := enters Tryz.func68 (by kernel_rfl) rfl
noncomputable def E35 : Env := { tab := tab, sig := [(43, s43)], clos := [], live := [], eqs := [], inl := [] }
set_option maxRecDepth 100000 in
theorem r35 (N : Nat) (a0 : T14) (a1 : Int) : runF N E35 Tryz.f35 [.ptr (.pair (.slice 5 (.int .u8)) (.pair (.int .i64) (.pair (.int .u64) .unit))), .imm false (.int .i64)] [.imm false .bool] (a0, a1, ()) = p_Pspec_l1Cur_one N a0 a1 := by kernel_rfl
theorem env35 : EnvOk Tryz.prog (fa.at true) E35 := envOk mixed tabOk ⟨⟨enters43, ok43, fun _ => rfl⟩, trivial⟩ trivial trivial
noncomputable def s35 : FSpec := ⟨[.ptr (.pair (.slice 5 (.int .u8)) (.pair (.int .i64) (.pair (.int .u64) .unit))), .imm false (.int .i64)], [.imm false .bool], fun x => S_Pspec_l1Cur_one x.1 x.2.1, true⟩
theorem ok35 : FOk Tryz.prog fa 35 s35 := fn_says env35 Tryz.func35 rfl fun x y h => ⟨0, (r35 0 x.1 x.2.1).trans h⟩
theorem enters35 : Enters Tryz.prog 35 := enters Tryz.func35 (by kernel_rfl) rfl
noncomputable def E70 : Env := { tab := tab, sig := [(43, s43), (35, s35)], clos := [], live := [], eqs := [], inl := [] }
set_option maxRecDepth 100000 in
theorem r70 (N : Nat) (a0 : T14) : runF N E70 Tryz.f70 [.ptr (.pair (.slice 5 (.int .u8)) (.pair (.int .i64) (.pair (.int .u64) .unit)))] [.imm true (.pair (.int .i64) (.pair (.int .i64) (.pair (.int .i64) (.pair (.int .i64) (.pair (.int .i64) .unit)))))] (a0, ()) = p_Pspec_l1Cur_cmd N a0 := by kernel_rfl
theorem env70 : EnvOk Tryz.prog (fa.at true) E70 := envOk mixed tabOk ⟨⟨enters43, ok43, fun _ => rfl⟩, ⟨enters35, ok35, fun _ => rfl⟩, trivial⟩ trivial trivial
noncomputable def s70 : FSpec := ⟨[.ptr (.pair (.slice 5 (.int .u8)) (.pair (.int .i64) (.pair (.int .u64) .unit)))], [.imm true (.pair (.int .i64) (.pair (.int .i64) (.pair (.int .i64) (.pair (.int .i64) (.pair (.int .i64) .unit)))))], fun x => S_Pspec_l1Cur_cmd x.1, true⟩
theorem ok70 : FOk Tryz.prog fa 70 s70 := fn_says env70 Tryz.func70 rfl fun x y h => ⟨0, (r70 0 x.1).trans h⟩
theorem enters70 : Enters Tryz.prog 70 := enters Tryz.func70 (by kernel_rfl) rfl
noncomputable def E71 : Env := { tab := tab, sig := [(43, s43), (39, s39)], clos := [], live := [(0, [0, 1, 4, 5, 6], [.row 2 1 3 (.int .i64) true []])], eqs := [], inl := [] }
set_option maxRecDepth 100000 in
theorem r71 (N : Nat) (a0 : T14) (a1 : Int) : runF N E71 Tryz.f71 [.ptr (.pair (.slice 5 (.int .u8)) (.pair (.int .i64) (.pair (.int .u64) .unit))), .imm false (.int .i64)] [.deep true (.pair (.int .i64) (.pair (.slice 3 (.int .i64)) .unit))] (a0, a1, ()) = p_Pspec_l1Cur_attr N a0 a1 := by kernel_rfl
theorem env71 : EnvOk Tryz.prog (fa.at true) E71 := envOk mixed tabOk ⟨⟨enters43, ok43, fun _ => rfl⟩, ⟨enters39, ok39, fun _ => rfl⟩, trivial⟩ trivial trivial
noncomputable def s71 : FSpec := ⟨[.ptr (.pair (.slice 5 (.int .u8)) (.pair (.int .i64) (.pair (.int .u64) .unit))), .imm false (.int .i64)], [.deep true (.pair (.int .i64) (.pair (.slice 3 (.int .i64)) .unit))], fun x => S_Pspec_l1Cur_attr x.1 x.2.1, true⟩
theorem ok71 : FOk Tryz.prog fa 71 s71 := fn_says env71 Tryz.func71 rfl fun x y h => let ⟨N, hN⟩ := lim_some h; ⟨N, (r71 N x.1 x.2.1).trans hN⟩
theorem enters71 : Enters Tryz.prog 71 := enters Tryz.func71 (by kernel_rfl) rfl
noncomputable def E72 : Env := { tab := tab, sig := [(39, s39), (43, s43), (70, s70), (35, s35), (68, s68)], clos := [], live := [(0, [0, 1, 4, 5, 6], [.row 3 9 3 (.int .i64) true []])], eqs := [], inl := [] }
set_option maxRecDepth 100000 in
theorem r72 (N : Nat) (a0 : T14) (a1 : Int) : runF N E72 Tryz.f72 [.ptr (.pair (.slice 5 (.int .u8)) (.pair (.int .i64) (.pair (.int .u64) .unit))), .imm false (.int .i64)] [.deep true (.pair (.int .i64) (.pair (.int .i64) (.pair (.int .i64) (.pair (.pair (.int .i64) (.pair (.int .i64) (.pair (.int .i64) (.pair (.int .i64) (.pair (.int .i64) .unit))))) (.pair (.pair (.int .i64) (.pair (.slice 3 (.int .i64)) .unit)) .unit)))))] (a0, a1, ()) = p_Pspec_l1Cur_row N a0 a1 := by kernel_rfl
theorem env72 : EnvOk Tryz.prog (fa.at true) E72 := envOk mixed tabOk ⟨⟨enters39, ok39, fun _ => rfl⟩, ⟨enters43, ok43, fun _ => rfl⟩, ⟨enters70, ok70, fun _ => rfl⟩, ⟨enters35, ok35, fun _ => rfl⟩, ⟨enters68, ok68, fun _ => rfl⟩, trivial⟩ trivial trivial
noncomputable def s72 : FSpec := ⟨[.ptr (.pair (.slice 5 (.int .u8)) (.pair (.int .i64) (.pair (.int .u64) .unit))), .imm false (.int .i64)], [.deep true (.pair (.int .i64) (.pair (.int .i64) (.pair (.int .i64) (.pair (.pair (.int .i64) (.pair (.int .i64) (.pair (.int .i64) (.pair (.int .i64) (.pair (.int .i64) .unit))))) (.pair (.pair (.int .i64) (.pair (.slice 3 (.int .i64)) .unit)) .unit)))))], fun x => S_Pspec_l1Cur_row x.1 x.2.1, true⟩
theorem ok72 : FOk Tryz.prog fa 72 s72 := fn_says env72 Tryz.func72 rfl fun x y h => let ⟨N, hN⟩ := lim_some h; ⟨N, (r72 N x.1 x.2.1).trans hN⟩
theorem enters72 : Enters Tryz.prog 72 := enters Tryz.func72 (by kernel_rfl) rfl
noncomputable def E73 : Env := { tab := tab, sig := [(70, s70), (43, s43), (39, s39)], clos := [], live := [], eqs := [], inl := [] }
set_option maxRecDepth 100000 in
theorem r73 (N : Nat) (a0 : T14) : runF N E73 Tryz.f73 [.ptr (.pair (.slice 5 (.int .u8)) (.pair (.int .i64) (.pair (.int .u64) .unit)))] [.imm true (.pair (.int .i64) (.pair (.int .i64) (.pair (.int .i64) (.pair (.int .i64) (.pair (.int .i64) .unit)))))] (a0, ()) = p_Pspec_l1Cur_anyCmd N a0 := by kernel_rfl
theorem env73 : EnvOk Tryz.prog (fa.at true) E73 := envOk mixed tabOk ⟨⟨enters70, ok70, fun _ => rfl⟩, ⟨enters43, ok43, fun _ => rfl⟩, ⟨enters39, ok39, fun _ => rfl⟩, trivial⟩ trivial trivial
noncomputable def s73 : FSpec := ⟨[.ptr (.pair (.slice 5 (.int .u8)) (.pair (.int .i64) (.pair (.int .u64) .unit)))], [.imm true (.pair (.int .i64) (.pair (.int .i64) (.pair (.int .i64) (.pair (.int .i64) (.pair (.int .i64) .unit)))))], fun x => S_Pspec_l1Cur_anyCmd x.1, true⟩
theorem ok73 : FOk Tryz.prog fa 73 s73 := fn_says env73 Tryz.func73 rfl fun x y h => ⟨0, (r73 0 x.1).trans h⟩
theorem enters73 : Enters Tryz.prog 73 := enters Tryz.func73 (by kernel_rfl) rfl
end Go.Proofs.YtmnekhlgldljcaaGreatDoor.Am
