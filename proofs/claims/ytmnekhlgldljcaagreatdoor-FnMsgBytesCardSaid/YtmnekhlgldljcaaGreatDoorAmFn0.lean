/- Functions, as they run on data. No condition. -/
import Derived.Test.YtmnekhlgldljcaaGreatDoorAmTab
import Derived.Test.YtmnekhlgldljcaaGreatDoorAmQ
set_option linter.unusedVariables false
set_option maxRecDepth 100000
namespace Go.Proofs.YtmnekhlgldljcaaGreatDoor.Am
open Go.AM Go.AM.P Go.Proofs Go.Shelf
/-! ## loop.example/g00698/laws.big -/
noncomputable def E5 : Env := { tab := tab, sig := [], clos := [], live := [], eqs := [], inl := [] }
set_option maxRecDepth 100000 in
theorem r5 (N : Nat) (a0 : List Int) (a1 : List Int) : runF N E5 Tryz.f5 [.imm false (.slice 5 (.int .u8)), .imm false (.slice 5 (.int .u8))] [.imm false .bool] (a0, a1, ()) = p_laws_big N a0 a1 := by kernel_rfl
theorem env5 : EnvOk Tryz.prog (fa.at true) E5 := envOk mixed tabOk trivial trivial trivial
noncomputable def s5 : FSpec := ⟨[.imm false (.slice 5 (.int .u8)), .imm false (.slice 5 (.int .u8))], [.imm false .bool], fun x => S_laws_big x.1 x.2.1, true⟩
theorem ok5 : FOk Tryz.prog fa 5 s5 := fn_says env5 Tryz.func5 rfl fun x y h => ⟨0, (r5 0 x.1 x.2.1).trans h⟩
theorem enters5 : Enters Tryz.prog 5 := enters Tryz.func5 (by kernel_rfl) rfl

/-! ## (*loop.example/g00698/spec.l1Cur).next -/
noncomputable def E67 : Env := { tab := tab, sig := [], clos := [], live := [], eqs := [], inl := [] }
set_option maxRecDepth 100000 in
theorem r67 (N : Nat) (a0 : T14) : runF N E67 Tryz.f67 [.ptr (.pair (.slice 5 (.int .u8)) (.pair (.int .i64) (.pair (.int .u64) .unit)))] [.imm false (.int .i64)] (a0, ()) = p_Pspec_l1Cur_next N a0 := by kernel_rfl
theorem env67 : EnvOk Tryz.prog (fa.at true) E67 := envOk mixed tabOk trivial trivial trivial
noncomputable def s67 : FSpec := ⟨[.ptr (.pair (.slice 5 (.int .u8)) (.pair (.int .i64) (.pair (.int .u64) .unit)))], [.imm false (.int .i64)], fun x => S_Pspec_l1Cur_next x.1, true⟩
theorem ok67 : FOk Tryz.prog fa 67 s67 := fn_says env67 Tryz.func67 rfl fun x y h => ⟨0, (r67 0 x.1).trans h⟩
theorem enters67 : Enters Tryz.prog 67 := enters Tryz.func67 (by kernel_rfl) rfl

/-! ## (*loop.example/g00698/spec.l1Cur).pick -/
noncomputable def E43 : Env := { tab := tab, sig := [(67, s67)], clos := [], live := [], eqs := [], inl := [] }
set_option maxRecDepth 100000 in
theorem r43 (N : Nat) (a0 : T14) (a1 : Int) : runF N E43 Tryz.f43 [.ptr (.pair (.slice 5 (.int .u8)) (.pair (.int .i64) (.pair (.int .u64) .unit))), .imm false (.int .i64)] [.imm false (.int .i64)] (a0, a1, ()) = p_Pspec_l1Cur_pick N a0 a1 := by kernel_rfl
theorem env43 : EnvOk Tryz.prog (fa.at true) E43 := envOk mixed tabOk ⟨⟨enters67, ok67, fun _ => rfl⟩, trivial⟩ trivial trivial
noncomputable def s43 : FSpec := ⟨[.ptr (.pair (.slice 5 (.int .u8)) (.pair (.int .i64) (.pair (.int .u64) .unit))), .imm false (.int .i64)], [.imm false (.int .i64)], fun x => S_Pspec_l1Cur_pick x.1 x.2.1, true⟩
theorem ok43 : FOk Tryz.prog fa 43 s43 := fn_says env43 Tryz.func43 rfl fun x y h => ⟨0, (r43 0 x.1 x.2.1).trans h⟩
theorem enters43 : Enters Tryz.prog 43 := enters Tryz.func43 (by kernel_rfl) rfl

/-! ## (*loop.example/g00698/spec.l1Cur).among -/
noncomputable def E39 : Env := { tab := tab, sig := [(43, s43)], clos := [], live := [], eqs := [], inl := [] }
set_option maxRecDepth 100000 in
theorem r39 (N : Nat) (a0 : T14) (a1 : List Int) : runF N E39 Tryz.f39 [.ptr (.pair (.slice 5 (.int .u8)) (.pair (.int .i64) (.pair (.int .u64) .unit))), .imm false (.slice 3 (.int .i64))] [.imm false (.int .i64)] (a0, a1, ()) = p_Pspec_l1Cur_among N a0 a1 := by kernel_rfl
theorem env39 : EnvOk Tryz.prog (fa.at true) E39 := envOk mixed tabOk ⟨⟨enters43, ok43, fun _ => rfl⟩, trivial⟩ trivial trivial
noncomputable def s39 : FSpec := ⟨[.ptr (.pair (.slice 5 (.int .u8)) (.pair (.int .i64) (.pair (.int .u64) .unit))), .imm false (.slice 3 (.int .i64))], [.imm false (.int .i64)], fun x => S_Pspec_l1Cur_among x.1 x.2.1, true⟩
theorem ok39 : FOk Tryz.prog fa 39 s39 := fn_says env39 Tryz.func39 rfl fun x y h => ⟨0, (r39 0 x.1 x.2.1).trans h⟩
theorem enters39 : Enters Tryz.prog 39 := enters Tryz.func39 (by kernel_rfl) rfl

/-! ## (*loop.example/g00698/spec.l1Cur).group -/
noncomputable def E47 : Env := { tab := tab, sig := [(39, s39)], clos := [], live := [], eqs := [], inl := [] }
set_option maxRecDepth 100000 in
theorem r47 (N : Nat) (a0 : T14) : runF N E47 Tryz.f47 [.ptr (.pair (.slice 5 (.int .u8)) (.pair (.int .i64) (.pair (.int .u64) .unit)))] [.imm false (.int .i64)] (a0, ()) = p_Pspec_l1Cur_group N a0 := by kernel_rfl
theorem env47 : EnvOk Tryz.prog (fa.at true) E47 := envOk mixed tabOk ⟨⟨enters39, ok39, fun _ => rfl⟩, trivial⟩ trivial trivial
noncomputable def s47 : FSpec := ⟨[.ptr (.pair (.slice 5 (.int .u8)) (.pair (.int .i64) (.pair (.int .u64) .unit)))], [.imm false (.int .i64)], fun x => S_Pspec_l1Cur_group x.1, true⟩
theorem ok47 : FOk Tryz.prog fa 47 s47 := fn_says env47 Tryz.func47 rfl fun x y h => ⟨0, (r47 0 x.1).trans h⟩
theorem enters47 : Enters Tryz.prog 47 := enters Tryz.func47 (by kernel_rfl) rfl

/-! ## loop.example/g00698/spec.l1Most -/
noncomputable def E69 : Env := { tab := tab, sig := [], clos := [], live := [], eqs := [], inl := [] }
set_option maxRecDepth 100000 in
theorem r69 (N : Nat) (a0 : Int) (a1 : Int) : runF N E69 Tryz.f69 [.imm false (.int .i64), .imm false (.int .i64)] [.imm false (.int .i64)] (a0, a1, ()) = p_spec_l1Most N a0 a1 := by kernel_rfl
theorem env69 : EnvOk Tryz.prog (fa.at true) E69 := envOk mixed tabOk trivial trivial trivial
noncomputable def s69 : FSpec := ⟨[.imm false (.int .i64), .imm false (.int .i64)], [.imm false (.int .i64)], fun x => S_spec_l1Most x.1 x.2.1, true⟩
theorem ok69 : FOk Tryz.prog fa 69 s69 := fn_says env69 Tryz.func69 rfl fun x y h => ⟨0, (r69 0 x.1 x.2.1).trans h⟩
theorem enters69 : Enters Tryz.prog 69 := enters Tryz.func69 (by kernel_rfl) rfl

/-! ## loop.example/g00698/spec.l3None -/
noncomputable def E68 : Env := { tab := tab, sig := [], clos := [], live := [], eqs := [], inl := [] }
set_option maxRecDepth 100000 in
theorem r68 (N : Nat) (a0 : Int) : runF N E68 Tryz.f68 [.imm false (.int .i64)] [.deep true (.pair (.int .i64) (.pair (.slice 3 (.int .i64)) .unit))] (a0, ()) = p_spec_l3None N a0 := by kernel_rfl
theorem env68 : EnvOk Tryz.prog (fa.at true) E68 := envOk mixed tabOk trivial trivial trivial
noncomputable def s68 : FSpec := ⟨[.imm false (.int .i64)], [.deep true (.pair (.int .i64) (.pair (.slice 3 (.int .i64)) .unit))], fun x => S_spec_l3None x.1, true⟩
theorem ok68 : FOk Tryz.prog fa 68 s68 := fn_says env68 Tryz.func68 rfl fun x y h => ⟨0, (r68 0 x.1).trans h⟩
theorem enters68 : Enters Tryz.prog 68 := enters Tryz.func68 (by kernel_rfl) rfl

/-! ## (*loop.example/g00698/spec.l1Cur).one -/
noncomputable def E35 : Env := { tab := tab, sig := [(43, s43)], clos := [], live := [], eqs := [], inl := [] }
set_option maxRecDepth 100000 in
theorem r35 (N : Nat) (a0 : T14) (a1 : Int) : runF N E35 Tryz.f35 [.ptr (.pair (.slice 5 (.int .u8)) (.pair (.int .i64) (.pair (.int .u64) .unit))), .imm false (.int .i64)] [.imm false .bool] (a0, a1, ()) = p_Pspec_l1Cur_one N a0 a1 := by kernel_rfl
theorem env35 : EnvOk Tryz.prog (fa.at true) E35 := envOk mixed tabOk ⟨⟨enters43, ok43, fun _ => rfl⟩, trivial⟩ trivial trivial
noncomputable def s35 : FSpec := ⟨[.ptr (.pair (.slice 5 (.int .u8)) (.pair (.int .i64) (.pair (.int .u64) .unit))), .imm false (.int .i64)], [.imm false .bool], fun x => S_Pspec_l1Cur_one x.1 x.2.1, true⟩
theorem ok35 : FOk Tryz.prog fa 35 s35 := fn_says env35 Tryz.func35 rfl fun x y h => ⟨0, (r35 0 x.1 x.2.1).trans h⟩
theorem enters35 : Enters Tryz.prog 35 := enters Tryz.func35 (by kernel_rfl) rfl

/-! ## (*loop.example/g00698/spec.l1Cur).cmd -/
noncomputable def E70 : Env := { tab := tab, sig := [(43, s43), (35, s35)], clos := [], live := [], eqs := [], inl := [] }
set_option maxRecDepth 100000 in
theorem r70 (N : Nat) (a0 : T14) : runF N E70 Tryz.f70 [.ptr (.pair (.slice 5 (.int .u8)) (.pair (.int .i64) (.pair (.int .u64) .unit)))] [.imm true (.pair (.int .i64) (.pair (.int .i64) (.pair (.int .i64) (.pair (.int .i64) (.pair (.int .i64) .unit)))))] (a0, ()) = p_Pspec_l1Cur_cmd N a0 := by kernel_rfl
theorem env70 : EnvOk Tryz.prog (fa.at true) E70 := envOk mixed tabOk ⟨⟨enters43, ok43, fun _ => rfl⟩, ⟨enters35, ok35, fun _ => rfl⟩, trivial⟩ trivial trivial
noncomputable def s70 : FSpec := ⟨[.ptr (.pair (.slice 5 (.int .u8)) (.pair (.int .i64) (.pair (.int .u64) .unit)))], [.imm true (.pair (.int .i64) (.pair (.int .i64) (.pair (.int .i64) (.pair (.int .i64) (.pair (.int .i64) .unit)))))], fun x => S_Pspec_l1Cur_cmd x.1, true⟩
theorem ok70 : FOk Tryz.prog fa 70 s70 := fn_says env70 Tryz.func70 rfl fun x y h => ⟨0, (r70 0 x.1).trans h⟩
theorem enters70 : Enters Tryz.prog 70 := enters Tryz.func70 (by kernel_rfl) rfl

/-! ## (*loop.example/g00698/spec.l1Cur).attr -/
noncomputable def E71 : Env := { tab := tab, sig := [(43, s43), (39, s39)], clos := [], live := [(0, [0, 1, 4, 5, 6], [.row 2 1 3 (.int .i64) true []])], eqs := [], inl := [] }
set_option maxRecDepth 100000 in
theorem r71 (N : Nat) (a0 : T14) (a1 : Int) : runF N E71 Tryz.f71 [.ptr (.pair (.slice 5 (.int .u8)) (.pair (.int .i64) (.pair (.int .u64) .unit))), .imm false (.int .i64)] [.deep true (.pair (.int .i64) (.pair (.slice 3 (.int .i64)) .unit))] (a0, a1, ()) = p_Pspec_l1Cur_attr N a0 a1 := by kernel_rfl
theorem env71 : EnvOk Tryz.prog (fa.at true) E71 := envOk mixed tabOk ⟨⟨enters43, ok43, fun _ => rfl⟩, ⟨enters39, ok39, fun _ => rfl⟩, trivial⟩ trivial trivial
noncomputable def s71 : FSpec := ⟨[.ptr (.pair (.slice 5 (.int .u8)) (.pair (.int .i64) (.pair (.int .u64) .unit))), .imm false (.int .i64)], [.deep true (.pair (.int .i64) (.pair (.slice 3 (.int .i64)) .unit))], fun x => S_Pspec_l1Cur_attr x.1 x.2.1, true⟩
theorem ok71 : FOk Tryz.prog fa 71 s71 := fn_says env71 Tryz.func71 rfl fun x y h => let ⟨N, hN⟩ := lim_some h; ⟨N, (r71 N x.1 x.2.1).trans hN⟩
theorem enters71 : Enters Tryz.prog 71 := enters Tryz.func71 (by kernel_rfl) rfl

/-! ## (*loop.example/g00698/spec.l1Cur).row -/
noncomputable def E72 : Env := { tab := tab, sig := [(39, s39), (43, s43), (70, s70), (35, s35), (68, s68)], clos := [], live := [(0, [0, 1, 4, 5, 6], [.row 3 9 3 (.int .i64) true []])], eqs := [], inl := [] }
set_option maxRecDepth 100000 in
theorem r72 (N : Nat) (a0 : T14) (a1 : Int) : runF N E72 Tryz.f72 [.ptr (.pair (.slice 5 (.int .u8)) (.pair (.int .i64) (.pair (.int .u64) .unit))), .imm false (.int .i64)] [.deep true (.pair (.int .i64) (.pair (.int .i64) (.pair (.int .i64) (.pair (.pair (.int .i64) (.pair (.int .i64) (.pair (.int .i64) (.pair (.int .i64) (.pair (.int .i64) .unit))))) (.pair (.pair (.int .i64) (.pair (.slice 3 (.int .i64)) .unit)) .unit)))))] (a0, a1, ()) = p_Pspec_l1Cur_row N a0 a1 := by kernel_rfl
theorem env72 : EnvOk Tryz.prog (fa.at true) E72 := envOk mixed tabOk ⟨⟨enters39, ok39, fun _ => rfl⟩, ⟨enters43, ok43, fun _ => rfl⟩, ⟨enters70, ok70, fun _ => rfl⟩, ⟨enters35, ok35, fun _ => rfl⟩, ⟨enters68, ok68, fun _ => rfl⟩, trivial⟩ trivial trivial
noncomputable def s72 : FSpec := ⟨[.ptr (.pair (.slice 5 (.int .u8)) (.pair (.int .i64) (.pair (.int .u64) .unit))), .imm false (.int .i64)], [.deep true (.pair (.int .i64) (.pair (.int .i64) (.pair (.int .i64) (.pair (.pair (.int .i64) (.pair (.int .i64) (.pair (.int .i64) (.pair (.int .i64) (.pair (.int .i64) .unit))))) (.pair (.pair (.int .i64) (.pair (.slice 3 (.int .i64)) .unit)) .unit)))))], fun x => S_Pspec_l1Cur_row x.1 x.2.1, true⟩
theorem ok72 : FOk Tryz.prog fa 72 s72 := fn_says env72 Tryz.func72 rfl fun x y h => let ⟨N, hN⟩ := lim_some h; ⟨N, (r72 N x.1 x.2.1).trans hN⟩
theorem enters72 : Enters Tryz.prog 72 := enters Tryz.func72 (by kernel_rfl) rfl

/-! ## (*loop.example/g00698/spec.l1Cur).anyCmd -/
noncomputable def E73 : Env := { tab := tab, sig := [(70, s70), (43, s43), (39, s39)], clos := [], live := [], eqs := [], inl := [] }
set_option maxRecDepth 100000 in
theorem r73 (N : Nat) (a0 : T14) : runF N E73 Tryz.f73 [.ptr (.pair (.slice 5 (.int .u8)) (.pair (.int .i64) (.pair (.int .u64) .unit)))] [.imm true (.pair (.int .i64) (.pair (.int .i64) (.pair (.int .i64) (.pair (.int .i64) (.pair (.int .i64) .unit)))))] (a0, ()) = p_Pspec_l1Cur_anyCmd N a0 := by kernel_rfl
theorem env73 : EnvOk Tryz.prog (fa.at true) E73 := envOk mixed tabOk ⟨⟨enters70, ok70, fun _ => rfl⟩, ⟨enters43, ok43, fun _ => rfl⟩, ⟨enters39, ok39, fun _ => rfl⟩, trivial⟩ trivial trivial
noncomputable def s73 : FSpec := ⟨[.ptr (.pair (.slice 5 (.int .u8)) (.pair (.int .i64) (.pair (.int .u64) .unit)))], [.imm true (.pair (.int .i64) (.pair (.int .i64) (.pair (.int .i64) (.pair (.int .i64) (.pair (.int .i64) .unit)))))], fun x => S_Pspec_l1Cur_anyCmd x.1, true⟩
theorem ok73 : FOk Tryz.prog fa 73 s73 := fn_says env73 Tryz.func73 rfl fun x y h => ⟨0, (r73 0 x.1).trans h⟩
theorem enters73 : Enters Tryz.prog 73 := enters Tryz.func73 (by kernel_rfl) rfl

/-! ## (*loop.example/g00698/spec.l1Cur).msg -/
noncomputable def E48 : Env := { tab := tab, sig := [(43, s43), (39, s39), (69, s69), (68, s68), (70, s70), (71, s71), (73, s73), (72, s72)], clos := [], live := [], eqs := [], inl := [] }
set_option maxRecDepth 100000 in
theorem r48 (N : Nat) (a0 : T14) (a1 : Int) : runF N E48 Tryz.f48 [.ptr (.pair (.slice 5 (.int .u8)) (.pair (.int .i64) (.pair (.int .u64) .unit))), .imm false (.int .i64)] [.deep true (.pair (.int .i64) (.pair (.int .i64) (.pair (.int .i64) (.pair (.int .i64) (.pair (.int .i64) (.pair (.int .i64) (.pair (.int .i64) (.pair (.int .i64) (.pair (.pair (.int .i64) (.pair (.int .i64) (.pair (.int .i64) (.pair (.int .i64) (.pair (.int .i64) .unit))))) (.pair (.pair (.int .i64) (.pair (.slice 3 (.int .i64)) .unit)) .unit))))))))))] (a0, a1, ()) = p_Pspec_l1Cur_msg N a0 a1 := by kernel_rfl
theorem env48 : EnvOk Tryz.prog (fa.at true) E48 := envOk mixed tabOk ⟨⟨enters43, ok43, fun _ => rfl⟩, ⟨enters39, ok39, fun _ => rfl⟩, ⟨enters69, ok69, fun _ => rfl⟩, ⟨enters68, ok68, fun _ => rfl⟩, ⟨enters70, ok70, fun _ => rfl⟩, ⟨enters71, ok71, fun _ => rfl⟩, ⟨enters73, ok73, fun _ => rfl⟩, ⟨enters72, ok72, fun _ => rfl⟩, trivial⟩ trivial trivial
noncomputable def s48 : FSpec := ⟨[.ptr (.pair (.slice 5 (.int .u8)) (.pair (.int .i64) (.pair (.int .u64) .unit))), .imm false (.int .i64)], [.deep true (.pair (.int .i64) (.pair (.int .i64) (.pair (.int .i64) (.pair (.int .i64) (.pair (.int .i64) (.pair (.int .i64) (.pair (.int .i64) (.pair (.int .i64) (.pair (.pair (.int .i64) (.pair (.int .i64) (.pair (.int .i64) (.pair (.int .i64) (.pair (.int .i64) .unit))))) (.pair (.pair (.int .i64) (.pair (.slice 3 (.int .i64)) .unit)) .unit))))))))))], fun x => S_Pspec_l1Cur_msg x.1 x.2.1, true⟩
theorem ok48 : FOk Tryz.prog fa 48 s48 := fn_says env48 Tryz.func48 rfl fun x y h => ⟨0, (r48 0 x.1 x.2.1).trans h⟩
theorem enters48 : Enters Tryz.prog 48 := enters Tryz.func48 (by kernel_rfl) rfl

/-! ## loop.example/g00698/spec.DrawGoodMsg -/
noncomputable def E27 : Env := { tab := tab, sig := [(47, s47), (48, s48)], clos := [], live := [], eqs := [], inl := [] }
set_option maxRecDepth 100000 in
theorem r27 (N : Nat) (a0 : List Int) : runF N E27 Tryz.f27 [.imm false (.slice 5 (.int .u8))] [.imm false (.int .i64), .deep true (.pair (.int .i64) (.pair (.int .i64) (.pair (.int .i64) (.pair (.int .i64) (.pair (.int .i64) (.pair (.int .i64) (.pair (.int .i64) (.pair (.int .i64) (.pair (.pair (.int .i64) (.pair (.int .i64) (.pair (.int .i64) (.pair (.int .i64) (.pair (.int .i64) .unit))))) (.pair (.pair (.int .i64) (.pair (.slice 3 (.int .i64)) .unit)) .unit))))))))))] (a0, ()) = p_spec_DrawGoodMsg N a0 := by kernel_rfl
theorem env27 : EnvOk Tryz.prog (fa.at true) E27 := envOk mixed tabOk ⟨⟨enters47, ok47, fun _ => rfl⟩, ⟨enters48, ok48, fun _ => rfl⟩, trivial⟩ trivial trivial
noncomputable def s27 : FSpec := ⟨[.imm false (.slice 5 (.int .u8))], [.imm false (.int .i64), .deep true (.pair (.int .i64) (.pair (.int .i64) (.pair (.int .i64) (.pair (.int .i64) (.pair (.int .i64) (.pair (.int .i64) (.pair (.int .i64) (.pair (.int .i64) (.pair (.pair (.int .i64) (.pair (.int .i64) (.pair (.int .i64) (.pair (.int .i64) (.pair (.int .i64) .unit))))) (.pair (.pair (.int .i64) (.pair (.slice 3 (.int .i64)) .unit)) .unit))))))))))], fun x => S_spec_DrawGoodMsg x.1, true⟩
theorem ok27 : FOk Tryz.prog fa 27 s27 := fn_says env27 Tryz.func27 rfl fun x y h => ⟨0, (r27 0 x.1).trans h⟩
theorem enters27 : Enters Tryz.prog 27 := enters Tryz.func27 (by kernel_rfl) rfl

/-! ## loop.example/g00698/spec.DrawMsgBytes -/
noncomputable def E6 : Env := { tab := tab, sig := [(27, s27)], clos := [], live := [], eqs := [], inl := [] }
set_option maxRecDepth 100000 in
theorem r6 (N : Nat) (a0 : List Int) : runF N E6 Tryz.f6 [.imm false (.slice 5 (.int .u8))] [.imm false (.int .i64), .deep true (.pair (.int .i64) (.pair (.int .i64) (.pair (.int .i64) (.pair (.int .i64) (.pair (.int .i64) (.pair (.int .i64) (.pair (.int .i64) (.pair (.int .i64) (.pair (.pair (.int .i64) (.pair (.int .i64) (.pair (.int .i64) (.pair (.int .i64) (.pair (.int .i64) .unit))))) (.pair (.pair (.int .i64) (.pair (.slice 3 (.int .i64)) .unit)) .unit))))))))))] (a0, ()) = p_spec_DrawMsgBytes N a0 := by kernel_rfl
theorem env6 : EnvOk Tryz.prog (fa.at true) E6 := envOk mixed tabOk ⟨⟨enters27, ok27, fun _ => rfl⟩, trivial⟩ trivial trivial
noncomputable def s6 : FSpec := ⟨[.imm false (.slice 5 (.int .u8))], [.imm false (.int .i64), .deep true (.pair (.int .i64) (.pair (.int .i64) (.pair (.int .i64) (.pair (.int .i64) (.pair (.int .i64) (.pair (.int .i64) (.pair (.int .i64) (.pair (.int .i64) (.pair (.pair (.int .i64) (.pair (.int .i64) (.pair (.int .i64) (.pair (.int .i64) (.pair (.int .i64) .unit))))) (.pair (.pair (.int .i64) (.pair (.slice 3 (.int .i64)) .unit)) .unit))))))))))], fun x => S_spec_DrawMsgBytes x.1, true⟩
theorem ok6 : FOk Tryz.prog fa 6 s6 := fn_says env6 Tryz.func6 rfl fun x y h => ⟨0, (r6 0 x.1).trans h⟩
theorem enters6 : Enters Tryz.prog 6 := enters Tryz.func6 (by kernel_rfl) rfl

/-! ## loop.example/g00698/impl.within -/
noncomputable def E33 : Env := { tab := tab, sig := [], clos := [], live := [], eqs := [], inl := [] }
set_option maxRecDepth 100000 in
theorem r33 (N : Nat) (a0 : Int) (a1 : Int) (a2 : Int) : runF N E33 Tryz.f33 [.imm false (.int .i64), .imm false (.int .i64), .imm false (.int .i64)] [.imm false .bool] (a0, a1, a2, ()) = p_impl_within N a0 a1 a2 := by kernel_rfl
theorem env33 : EnvOk Tryz.prog (fa.at true) E33 := envOk mixed tabOk trivial trivial trivial
noncomputable def s33 : FSpec := ⟨[.imm false (.int .i64), .imm false (.int .i64), .imm false (.int .i64)], [.imm false .bool], fun x => S_impl_within x.1 x.2.1 x.2.2.1, true⟩
theorem ok33 : FOk Tryz.prog fa 33 s33 := fn_says env33 Tryz.func33 rfl fun x y h => ⟨0, (r33 0 x.1 x.2.1 x.2.2.1).trans h⟩
theorem enters33 : Enters Tryz.prog 33 := enters Tryz.func33 (by kernel_rfl) rfl

/-! ## loop.example/g00698/impl.IsGroup -/
noncomputable def E41 : Env := { tab := tab, sig := [], clos := [], live := [], eqs := [], inl := [] }
set_option maxRecDepth 100000 in
theorem r41 (N : Nat) (a0 : Int) : runF N E41 Tryz.f41 [.imm false (.int .i64)] [.imm false .bool] (a0, ()) = p_impl_IsGroup N a0 := by kernel_rfl
theorem env41 : EnvOk Tryz.prog (fa.at true) E41 := envOk mixed tabOk trivial trivial trivial
noncomputable def s41 : FSpec := ⟨[.imm false (.int .i64)], [.imm false .bool], fun x => S_impl_IsGroup x.1, true⟩
theorem ok41 : FOk Tryz.prog fa 41 s41 := fn_says env41 Tryz.func41 rfl fun x y h => ⟨0, (r41 0 x.1).trans h⟩
theorem enters41 : Enters Tryz.prog 41 := enters Tryz.func41 (by kernel_rfl) rfl

/-! ## loop.example/g00698/impl.isInstance -/
noncomputable def E74 : Env := { tab := tab, sig := [(41, s41), (33, s33)], clos := [], live := [], eqs := [], inl := [] }
set_option maxRecDepth 100000 in
theorem r74 (N : Nat) (a0 : Int) (a1 : Int) (a2 : Int) : runF N E74 Tryz.f74 [.imm false (.int .i64), .imm false (.int .i64), .imm false (.int .i64)] [.imm false .bool] (a0, a1, a2, ()) = p_impl_isInstance N a0 a1 a2 := by kernel_rfl
theorem env74 : EnvOk Tryz.prog (fa.at true) E74 := envOk mixed tabOk ⟨⟨enters41, ok41, fun _ => rfl⟩, ⟨enters33, ok33, fun _ => rfl⟩, trivial⟩ trivial trivial
noncomputable def s74 : FSpec := ⟨[.imm false (.int .i64), .imm false (.int .i64), .imm false (.int .i64)], [.imm false .bool], fun x => S_impl_isInstance x.1 x.2.1 x.2.2.1, true⟩
theorem ok74 : FOk Tryz.prog fa 74 s74 := fn_says env74 Tryz.func74 rfl fun x y h => ⟨0, (r74 0 x.1 x.2.1 x.2.2.1).trans h⟩
theorem enters74 : Enters Tryz.prog 74 := enters Tryz.func74 (by kernel_rfl) rfl

/-! ## slices.Clone[[]int,int] -/
noncomputable def E112 : Env := { tab := tab, sig := [], clos := [], live := [], eqs := [], inl := [] }
set_option maxRecDepth 100000 in
theorem r112 (N : Nat) (a0 : List Int) : runF N E112 Tryz.f112 [.imm false (.slice 3 (.int .i64))] [.deep false (.slice 3 (.int .i64))] (a0, ()) = p_Clone_Lint_int N a0 := by kernel_rfl
theorem env112 : EnvOk Tryz.prog (fa.at true) E112 := envOk mixed tabOk trivial trivial trivial
noncomputable def s112 : FSpec := ⟨[.imm false (.slice 3 (.int .i64))], [.deep false (.slice 3 (.int .i64))], fun x => S_Clone_Lint_int x.1, true⟩
theorem ok112 : FOk Tryz.prog fa 112 s112 := fn_says env112 Tryz.func112 rfl fun x y h => ⟨0, (r112 0 x.1).trans h⟩
theorem enters112 : Enters Tryz.prog 112 := enters Tryz.func112 (by kernel_rfl) rfl

/-! ## (loop.example/g00698/impl.Attr).copied -/
noncomputable def E98 : Env := { tab := tab, sig := [(112, s112)], clos := [], live := [], eqs := [], inl := [] }
set_option maxRecDepth 100000 in
theorem r98 (N : Nat) (a0 : T6) : runF N E98 Tryz.f98 [.imm true (.pair (.int .i64) (.pair (.slice 3 (.int .i64)) .unit))] [.deep true (.pair (.int .i64) (.pair (.slice 3 (.int .i64)) .unit))] (a0, ()) = p_impl_Attr_copied N a0 := by kernel_rfl
theorem env98 : EnvOk Tryz.prog (fa.at true) E98 := envOk mixed tabOk ⟨⟨enters112, ok112, fun _ => rfl⟩, trivial⟩ trivial trivial
noncomputable def s98 : FSpec := ⟨[.imm true (.pair (.int .i64) (.pair (.slice 3 (.int .i64)) .unit))], [.deep true (.pair (.int .i64) (.pair (.slice 3 (.int .i64)) .unit))], fun x => S_impl_Attr_copied x.1, true⟩
theorem ok98 : FOk Tryz.prog fa 98 s98 := fn_says env98 Tryz.func98 rfl fun x y h => ⟨0, (r98 0 x.1).trans h⟩
theorem enters98 : Enters Tryz.prog 98 := enters Tryz.func98 (by kernel_rfl) rfl

/-! ## (loop.example/g00698/impl.Msg).row -/
noncomputable def E76 : Env := { tab := tab, sig := [(98, s98)], clos := [], live := [], eqs := [], inl := [] }
set_option maxRecDepth 100000 in
theorem r76 (N : Nat) (a0 : T11) : runF N E76 Tryz.f76 [.imm true (.pair (.int .i64) (.pair (.int .i64) (.pair (.int .i64) (.pair (.int .i64) (.pair (.int .i64) (.pair (.int .i64) (.pair (.int .i64) (.pair (.int .i64) (.pair (.pair (.int .i64) (.pair (.int .i64) (.pair (.int .i64) (.pair (.int .i64) (.pair (.int .i64) .unit))))) (.pair (.pair (.int .i64) (.pair (.slice 3 (.int .i64)) .unit)) .unit))))))))))] [.deep true (.pair (.int .i64) (.pair (.int .i64) (.pair (.int .i64) (.pair (.pair (.int .i64) (.pair (.int .i64) (.pair (.int .i64) (.pair (.int .i64) (.pair (.int .i64) .unit))))) (.pair (.pair (.int .i64) (.pair (.slice 3 (.int .i64)) .unit)) .unit)))))] (a0, ()) = p_impl_Msg_row N a0 := by kernel_rfl
theorem env76 : EnvOk Tryz.prog (fa.at true) E76 := envOk mixed tabOk ⟨⟨enters98, ok98, fun _ => rfl⟩, trivial⟩ trivial trivial
noncomputable def s76 : FSpec := ⟨[.imm true (.pair (.int .i64) (.pair (.int .i64) (.pair (.int .i64) (.pair (.int .i64) (.pair (.int .i64) (.pair (.int .i64) (.pair (.int .i64) (.pair (.int .i64) (.pair (.pair (.int .i64) (.pair (.int .i64) (.pair (.int .i64) (.pair (.int .i64) (.pair (.int .i64) .unit))))) (.pair (.pair (.int .i64) (.pair (.slice 3 (.int .i64)) .unit)) .unit))))))))))], [.deep true (.pair (.int .i64) (.pair (.int .i64) (.pair (.int .i64) (.pair (.pair (.int .i64) (.pair (.int .i64) (.pair (.int .i64) (.pair (.int .i64) (.pair (.int .i64) .unit))))) (.pair (.pair (.int .i64) (.pair (.slice 3 (.int .i64)) .unit)) .unit)))))], fun x => S_impl_Msg_row x.1, true⟩
theorem ok76 : FOk Tryz.prog fa 76 s76 := fn_says env76 Tryz.func76 rfl fun x y h => ⟨0, (r76 0 x.1).trans h⟩
theorem enters76 : Enters Tryz.prog 76 := enters Tryz.func76 (by kernel_rfl) rfl

/-! ## loop.example/g00698/impl.isAccount -/
noncomputable def E92 : Env := { tab := tab, sig := [(33, s33)], clos := [], live := [], eqs := [], inl := [] }
set_option maxRecDepth 100000 in
theorem r92 (N : Nat) (a0 : Int) : runF N E92 Tryz.f92 [.imm false (.int .i64)] [.imm false .bool] (a0, ()) = p_impl_isAccount N a0 := by kernel_rfl
theorem env92 : EnvOk Tryz.prog (fa.at true) E92 := envOk mixed tabOk ⟨⟨enters33, ok33, fun _ => rfl⟩, trivial⟩ trivial trivial
noncomputable def s92 : FSpec := ⟨[.imm false (.int .i64)], [.imm false .bool], fun x => S_impl_isAccount x.1, true⟩
theorem ok92 : FOk Tryz.prog fa 92 s92 := fn_says env92 Tryz.func92 rfl fun x y h => ⟨0, (r92 0 x.1).trans h⟩
theorem enters92 : Enters Tryz.prog 92 := enters Tryz.func92 (by kernel_rfl) rfl

/-! ## loop.example/g00698/impl.GoodCmd -/
noncomputable def E77 : Env := { tab := tab, sig := [(33, s33), (92, s92)], clos := [], live := [], eqs := [(25, 5)], inl := [] }
set_option maxRecDepth 100000 in
theorem r77 (N : Nat) (a0 : T2) : runF N E77 Tryz.f77 [.imm true (.pair (.int .i64) (.pair (.int .i64) (.pair (.int .i64) (.pair (.int .i64) (.pair (.int .i64) .unit)))))] [.imm false .bool] (a0, ()) = p_impl_GoodCmd N a0 := by kernel_rfl
theorem env77 : EnvOk Tryz.prog (fa.at true) E77 := envOk mixed tabOk ⟨⟨enters33, ok33, fun _ => rfl⟩, ⟨enters92, ok92, fun _ => rfl⟩, trivial⟩ trivial ⟨eq25, trivial⟩
noncomputable def s77 : FSpec := ⟨[.imm true (.pair (.int .i64) (.pair (.int .i64) (.pair (.int .i64) (.pair (.int .i64) (.pair (.int .i64) .unit)))))], [.imm false .bool], fun x => S_impl_GoodCmd x.1, true⟩
theorem ok77 : FOk Tryz.prog fa 77 s77 := fn_says env77 Tryz.func77 rfl fun x y h => ⟨0, (r77 0 x.1).trans h⟩
theorem enters77 : Enters Tryz.prog 77 := enters Tryz.func77 (by kernel_rfl) rfl

/-! ## slices.IndexFunc[[]int,int] -/
noncomputable def E113 : Env := { tab := tab, sig := [], clos := [], live := [(0, [0, 1, 7, 8], [])], eqs := [], inl := [] }
set_option maxRecDepth 100000 in
theorem r113 (N : Nat) (a0 : List Int) (a1 : (Int × Unit) → Option Bool) : runF N E113 Tryz.f113 [.imm false (.slice 3 (.int .i64)), .clo [(false, (.int .i64))] .bool] [.imm false (.int .i64)] (a0, a1, ()) = p_IndexFunc_Lint_int N a0 a1 := by kernel_rfl
theorem env113 : EnvOk Tryz.prog (fa.at true) E113 := envOk mixed tabOk trivial trivial trivial
noncomputable def s113 : FSpec := ⟨[.imm false (.slice 3 (.int .i64)), .clo [(false, (.int .i64))] .bool], [.imm false (.int .i64)], fun x => S_IndexFunc_Lint_int x.1 x.2.1, true⟩
theorem ok113 : FOk Tryz.prog fa 113 s113 := fn_says env113 Tryz.func113 rfl fun x y h => let ⟨N, hN⟩ := lim_some h; ⟨N, (r113 N x.1 x.2.1).trans hN⟩
theorem enters113 : Enters Tryz.prog 113 := enters Tryz.func113 (by kernel_rfl) rfl

/-! ## slices.ContainsFunc[[]int,int] -/
noncomputable def E99 : Env := { tab := tab, sig := [(113, s113)], clos := [], live := [], eqs := [], inl := [] }
set_option maxRecDepth 100000 in
theorem r99 (N : Nat) (a0 : List Int) (a1 : (Int × Unit) → Option Bool) : runF N E99 Tryz.f99 [.imm false (.slice 3 (.int .i64)), .clo [(false, (.int .i64))] .bool] [.imm false .bool] (a0, a1, ()) = p_ContainsFunc_Lint_int N a0 a1 := by kernel_rfl
theorem env99 : EnvOk Tryz.prog (fa.at true) E99 := envOk mixed tabOk ⟨⟨enters113, ok113, fun _ => rfl⟩, trivial⟩ trivial trivial
noncomputable def s99 : FSpec := ⟨[.imm false (.slice 3 (.int .i64)), .clo [(false, (.int .i64))] .bool], [.imm false .bool], fun x => S_ContainsFunc_Lint_int x.1 x.2.1, true⟩
theorem ok99 : FOk Tryz.prog fa 99 s99 := fn_says env99 Tryz.func99 rfl fun x y h => ⟨0, (r99 0 x.1 x.2.1).trans h⟩
theorem enters99 : Enters Tryz.prog 99 := enters Tryz.func99 (by kernel_rfl) rfl

/-! ## loop.example/g00698/impl.GoodAttr -/
theorem enters100 : Enters Tryz.prog 100 := enters Tryz.func100 (by kernel_rfl) rfl
noncomputable def E78 : Env := { tab := tab, sig := [(41, s41), (33, s33), (99, s99)], clos := [(100, ⟨Tryz.f100, [(false, (.int .i64))], []⟩)], live := [], eqs := [], inl := [] }
set_option maxRecDepth 100000 in
theorem r78 (N : Nat) (a0 : Int) (a1 : T6) : runF N E78 Tryz.f78 [.imm false (.int .i64), .imm true (.pair (.int .i64) (.pair (.slice 3 (.int .i64)) .unit))] [.imm false .bool] (a0, a1, ()) = p_impl_GoodAttr N a0 a1 := by kernel_rfl
theorem env78 : EnvOk Tryz.prog (fa.at true) E78 := envOk mixed tabOk ⟨⟨enters41, ok41, fun _ => rfl⟩, ⟨enters33, ok33, fun _ => rfl⟩, ⟨enters99, ok99, fun _ => rfl⟩, trivial⟩ ⟨⟨Tryz.func100, enters100⟩, trivial⟩ trivial
noncomputable def s78 : FSpec := ⟨[.imm false (.int .i64), .imm true (.pair (.int .i64) (.pair (.slice 3 (.int .i64)) .unit))], [.imm false .bool], fun x => S_impl_GoodAttr x.1 x.2.1, true⟩
theorem ok78 : FOk Tryz.prog fa 78 s78 := fn_says env78 Tryz.func78 rfl fun x y h => ⟨0, (r78 0 x.1 x.2.1).trans h⟩
theorem enters78 : Enters Tryz.prog 78 := enters Tryz.func78 (by kernel_rfl) rfl

/-! ## loop.example/g00698/impl.noneAttr -/
noncomputable def E80 : Env := { tab := tab, sig := [], clos := [], live := [], eqs := [], inl := [] }
set_option maxRecDepth 100000 in
theorem r80 (N : Nat) (a0 : Int) : runF N E80 Tryz.f80 [.imm false (.int .i64)] [.deep true (.pair (.int .i64) (.pair (.slice 3 (.int .i64)) .unit))] (a0, ()) = p_impl_noneAttr N a0 := by kernel_rfl
theorem env80 : EnvOk Tryz.prog (fa.at true) E80 := envOk mixed tabOk trivial trivial trivial
noncomputable def s80 : FSpec := ⟨[.imm false (.int .i64)], [.deep true (.pair (.int .i64) (.pair (.slice 3 (.int .i64)) .unit))], fun x => S_impl_noneAttr x.1, true⟩
theorem ok80 : FOk Tryz.prog fa 80 s80 := fn_says env80 Tryz.func80 rfl fun x y h => ⟨0, (r80 0 x.1).trans h⟩
theorem enters80 : Enters Tryz.prog 80 := enters Tryz.func80 (by kernel_rfl) rfl

/-! ## slices.Equal[[]int,int] -/
noncomputable def E101 : Env := { tab := tab, sig := [], clos := [], live := [(0, [0, 1, 12, 13], [])], eqs := [], inl := [] }
set_option maxRecDepth 100000 in
theorem r101 (N : Nat) (a0 : List Int) (a1 : List Int) : runF N E101 Tryz.f101 [.imm false (.slice 3 (.int .i64)), .imm false (.slice 3 (.int .i64))] [.imm false .bool] (a0, a1, ()) = p_Equal_Lint_int N a0 a1 := by kernel_rfl
theorem env101 : EnvOk Tryz.prog (fa.at true) E101 := envOk mixed tabOk trivial trivial trivial
noncomputable def s101 : FSpec := ⟨[.imm false (.slice 3 (.int .i64)), .imm false (.slice 3 (.int .i64))], [.imm false .bool], fun x => S_Equal_Lint_int x.1 x.2.1, true⟩
theorem ok101 : FOk Tryz.prog fa 101 s101 := fn_says env101 Tryz.func101 rfl fun x y h => let ⟨N, hN⟩ := lim_some h; ⟨N, (r101 N x.1 x.2.1).trans hN⟩
theorem enters101 : Enters Tryz.prog 101 := enters Tryz.func101 (by kernel_rfl) rfl

/-! ## loop.example/g00698/impl.SameAttr -/
noncomputable def E79 : Env := { tab := tab, sig := [(101, s101)], clos := [], live := [], eqs := [], inl := [] }
set_option maxRecDepth 100000 in
theorem r79 (N : Nat) (a0 : T6) (a1 : T6) : runF N E79 Tryz.f79 [.imm true (.pair (.int .i64) (.pair (.slice 3 (.int .i64)) .unit)), .imm true (.pair (.int .i64) (.pair (.slice 3 (.int .i64)) .unit))] [.imm false .bool] (a0, a1, ()) = p_impl_SameAttr N a0 a1 := by kernel_rfl
theorem env79 : EnvOk Tryz.prog (fa.at true) E79 := envOk mixed tabOk ⟨⟨enters101, ok101, fun _ => rfl⟩, trivial⟩ trivial trivial
noncomputable def s79 : FSpec := ⟨[.imm true (.pair (.int .i64) (.pair (.slice 3 (.int .i64)) .unit)), .imm true (.pair (.int .i64) (.pair (.slice 3 (.int .i64)) .unit))], [.imm false .bool], fun x => S_impl_SameAttr x.1 x.2.1, true⟩
theorem ok79 : FOk Tryz.prog fa 79 s79 := fn_says env79 Tryz.func79 rfl fun x y h => ⟨0, (r79 0 x.1 x.2.1).trans h⟩
theorem enters79 : Enters Tryz.prog 79 := enters Tryz.func79 (by kernel_rfl) rfl

/-! ## loop.example/g00698/impl.goodRow -/
noncomputable def E75 : Env := { tab := tab, sig := [(33, s33), (77, s77), (78, s78), (80, s80), (79, s79)], clos := [], live := [], eqs := [(25, 5)], inl := [] }
set_option maxRecDepth 100000 in
theorem r75 (N : Nat) (a0 : Int) (a1 : T7) : runF N E75 Tryz.f75 [.imm false (.int .i64), .imm true (.pair (.int .i64) (.pair (.int .i64) (.pair (.int .i64) (.pair (.pair (.int .i64) (.pair (.int .i64) (.pair (.int .i64) (.pair (.int .i64) (.pair (.int .i64) .unit))))) (.pair (.pair (.int .i64) (.pair (.slice 3 (.int .i64)) .unit)) .unit)))))] [.imm false .bool] (a0, a1, ()) = p_impl_goodRow N a0 a1 := by kernel_rfl
theorem env75 : EnvOk Tryz.prog (fa.at true) E75 := envOk mixed tabOk ⟨⟨enters33, ok33, fun _ => rfl⟩, ⟨enters77, ok77, fun _ => rfl⟩, ⟨enters78, ok78, fun _ => rfl⟩, ⟨enters80, ok80, fun _ => rfl⟩, ⟨enters79, ok79, fun _ => rfl⟩, trivial⟩ trivial ⟨eq25, trivial⟩
noncomputable def s75 : FSpec := ⟨[.imm false (.int .i64), .imm true (.pair (.int .i64) (.pair (.int .i64) (.pair (.int .i64) (.pair (.pair (.int .i64) (.pair (.int .i64) (.pair (.int .i64) (.pair (.int .i64) (.pair (.int .i64) .unit))))) (.pair (.pair (.int .i64) (.pair (.slice 3 (.int .i64)) .unit)) .unit)))))], [.imm false .bool], fun x => S_impl_goodRow x.1 x.2.1, true⟩
theorem ok75 : FOk Tryz.prog fa 75 s75 := fn_says env75 Tryz.func75 rfl fun x y h => ⟨0, (r75 0 x.1 x.2.1).trans h⟩
theorem enters75 : Enters Tryz.prog 75 := enters Tryz.func75 (by kernel_rfl) rfl

/-! ## loop.example/g00698/impl.GoodMsg -/
noncomputable def E49 : Env := { tab := tab, sig := [(33, s33), (74, s74), (76, s76), (75, s75), (77, s77), (78, s78), (80, s80), (79, s79)], clos := [], live := [], eqs := [(25, 5)], inl := [] }
set_option maxRecDepth 100000 in
theorem r49 (N : Nat) (a0 : Int) (a1 : T11) : runF N E49 Tryz.f49 [.imm false (.int .i64), .imm true (.pair (.int .i64) (.pair (.int .i64) (.pair (.int .i64) (.pair (.int .i64) (.pair (.int .i64) (.pair (.int .i64) (.pair (.int .i64) (.pair (.int .i64) (.pair (.pair (.int .i64) (.pair (.int .i64) (.pair (.int .i64) (.pair (.int .i64) (.pair (.int .i64) .unit))))) (.pair (.pair (.int .i64) (.pair (.slice 3 (.int .i64)) .unit)) .unit))))))))))] [.imm false .bool] (a0, a1, ()) = p_impl_GoodMsg N a0 a1 := by kernel_rfl
theorem env49 : EnvOk Tryz.prog (fa.at true) E49 := envOk mixed tabOk ⟨⟨enters33, ok33, fun _ => rfl⟩, ⟨enters74, ok74, fun _ => rfl⟩, ⟨enters76, ok76, fun _ => rfl⟩, ⟨enters75, ok75, fun _ => rfl⟩, ⟨enters77, ok77, fun _ => rfl⟩, ⟨enters78, ok78, fun _ => rfl⟩, ⟨enters80, ok80, fun _ => rfl⟩, ⟨enters79, ok79, fun _ => rfl⟩, trivial⟩ trivial ⟨eq25, trivial⟩
noncomputable def s49 : FSpec := ⟨[.imm false (.int .i64), .imm true (.pair (.int .i64) (.pair (.int .i64) (.pair (.int .i64) (.pair (.int .i64) (.pair (.int .i64) (.pair (.int .i64) (.pair (.int .i64) (.pair (.int .i64) (.pair (.pair (.int .i64) (.pair (.int .i64) (.pair (.int .i64) (.pair (.int .i64) (.pair (.int .i64) .unit))))) (.pair (.pair (.int .i64) (.pair (.slice 3 (.int .i64)) .unit)) .unit))))))))))], [.imm false .bool], fun x => S_impl_GoodMsg x.1 x.2.1, true⟩
theorem ok49 : FOk Tryz.prog fa 49 s49 := fn_says env49 Tryz.func49 rfl fun x y h => ⟨0, (r49 0 x.1 x.2.1).trans h⟩
theorem enters49 : Enters Tryz.prog 49 := enters Tryz.func49 (by kernel_rfl) rfl

/-! ## loop.example/g00698/impl.msgWords -/
noncomputable def E61 : Env := { tab := tab, sig := [], clos := [], live := [], eqs := [], inl := [] }
set_option maxRecDepth 100000 in
theorem r61 (N : Nat)  : runF N E61 Tryz.f61 [] [.deep false (.slice 9 .str)] (()) = p_impl_msgWords N  := by kernel_rfl
theorem env61 : EnvOk Tryz.prog (fa.at true) E61 := envOk mixed tabOk trivial trivial trivial
noncomputable def s61 : FSpec := ⟨[], [.deep false (.slice 9 .str)], fun x => S_impl_msgWords , true⟩
theorem ok61 : FOk Tryz.prog fa 61 s61 := fn_says env61 Tryz.func61 rfl fun x y h => ⟨0, (r61 0 ).trans h⟩
theorem enters61 : Enters Tryz.prog 61 := enters Tryz.func61 (by kernel_rfl) rfl

/-! ## strconv.Itoa -/
def Lay103_ren : Go.Shelf.Ren := ⟨fun | 171 => 103 | 243 => 115 | 246 => 124 | 283 => 132 | 284 => 133 | 285 => 134 | 286 => 135 | 129 => 141 | 317 => 140 | 318 => 142 | 319 => 143 | 320 => 144 | 337 => 145 | 338 => 146 | n => n, fun | 3 => 3 | 9 => 9 | 2 => 2 | 4 => 4 | 171 => 139 | 0 => 0 | 53 => 63 | 37 => 22 | 5 => 5 | 173 => 142 | 212 => 155 | 51 => 148 | 20 => 20 | 213 => 156 | 46 => 114 | 232 => 159 | 233 => 160 | n => n, fun | 17 => 3 | 18 => 4 | 19 => 5 | n => n⟩
theorem Lay103 : Go.Proofs.LaysM.n171 Tryz.prog Lay103_ren := {
  mixed := by kernel_rfl
  f129 := Tryz.func141.trans (congrArg some (by kernel_rfl))
  f171 := Tryz.func103.trans (congrArg some (by kernel_rfl))
  f243 := Tryz.func115.trans (congrArg some (by kernel_rfl))
  f246 := Tryz.func124.trans (congrArg some (by kernel_rfl))
  f283 := Tryz.func132.trans (congrArg some (by kernel_rfl))
  f284 := Tryz.func133.trans (congrArg some (by kernel_rfl))
  f285 := Tryz.func134.trans (congrArg some (by kernel_rfl))
  f286 := Tryz.func135.trans (congrArg some (by kernel_rfl))
  f317 := Tryz.func140.trans (congrArg some (by kernel_rfl))
  f318 := Tryz.func142.trans (congrArg some (by kernel_rfl))
  f319 := Tryz.func143.trans (congrArg some (by kernel_rfl))
  f320 := Tryz.func144.trans (congrArg some (by kernel_rfl))
  f337 := Tryz.func145.trans (congrArg some (by kernel_rfl))
  f338 := Tryz.func146.trans (congrArg some (by kernel_rfl))
  t0 := Tryz.underlying0
  a0 := Tryz.isAgg0
  z0 := Tryz.sizeOf0
  v0 := Tryz.zeroValue0
  t2 := Tryz.underlying2
  a2 := Tryz.isAgg2
  z2 := Tryz.sizeOf2
  v2 := Tryz.zeroValue2
  t3 := Tryz.underlying3
  a3 := Tryz.isAgg3
  z3 := Tryz.sizeOf3
  v3 := Tryz.zeroValue3
  t4 := Tryz.underlying4
  a4 := Tryz.isAgg4
  z4 := Tryz.sizeOf4
  v4 := Tryz.zeroValue4
  t5 := Tryz.underlying5
  a5 := Tryz.isAgg5
  z5 := Tryz.sizeOf5
  v5 := Tryz.zeroValue5
  t9 := Tryz.underlying9
  a9 := Tryz.isAgg9
  z9 := Tryz.sizeOf9
  v9 := Tryz.zeroValue9
  t20 := Tryz.underlying20
  a20 := Tryz.isAgg20
  z20 := Tryz.sizeOf20
  v20 := Tryz.zeroValue20
  t37 := Tryz.underlying22
  a37 := Tryz.isAgg22
  z37 := Tryz.sizeOf22
  v37 := Tryz.zeroValue22
  t46 := Tryz.underlying114
  a46 := Tryz.isAgg114
  z46 := Tryz.sizeOf114
  v46 := Tryz.zeroValue114
  t51 := Tryz.underlying148
  a51 := Tryz.isAgg148
  z51 := Tryz.sizeOf148
  v51 := Tryz.zeroValue148
  t53 := Tryz.underlying63
  a53 := Tryz.isAgg63
  z53 := Tryz.sizeOf63
  v53 := Tryz.zeroValue63
  t171 := Tryz.underlying139
  a171 := Tryz.isAgg139
  z171 := Tryz.sizeOf139
  v171 := Tryz.zeroValue139
  t173 := Tryz.underlying142
  a173 := Tryz.isAgg142
  z173 := Tryz.sizeOf142
  v173 := Tryz.zeroValue142
  t212 := Tryz.underlying155
  a212 := Tryz.isAgg155
  z212 := Tryz.sizeOf155
  v212 := Tryz.zeroValue155
  t213 := Tryz.underlying156
  a213 := Tryz.isAgg156
  z213 := Tryz.sizeOf156
  t232 := Tryz.underlying159
  a232 := Tryz.isAgg159
  z232 := Tryz.sizeOf159
  v232 := Tryz.zeroValue159
  t233 := Tryz.underlying160
  a233 := Tryz.isAgg160
  z233 := Tryz.sizeOf160
  v233 := Tryz.zeroValue160
  g17 := by kernel_rfl
  g18 := by kernel_rfl
  g19 := by kernel_rfl
  i0 := by kernel_rfl
  i2 := by kernel_rfl
  i3 := by kernel_rfl
  i4 := by kernel_rfl
  i5 := by kernel_rfl
  i9 := by kernel_rfl
  i20 := by kernel_rfl
  i37 := by kernel_rfl
  i46 := by kernel_rfl
  i51 := by kernel_rfl
  i53 := by kernel_rfl
  i171 := by kernel_rfl
  i173 := by kernel_rfl
  i212 := by kernel_rfl
  i232 := by kernel_rfl
  i233 := by kernel_rfl
  m17 := by kernel_rfl
  m18 := by kernel_rfl
  m19 := by kernel_rfl }

noncomputable def s103 : FSpec := ⟨[.imm false (.int .i64)], [.imm false .str], fun x => S_strconv_Itoa x.1, true⟩
theorem ok103 : FOk Tryz.prog fa 103 s103 := ok_Itoa Lay103 (fun W h => h.2) (g := 3) (by kernel_rfl) (by decide)
theorem enters103 : Enters Tryz.prog 103 := enters Tryz.func103 (by kernel_rfl) rfl

/-! ## strings.Join -/
def Lay114_ren : Go.Shelf.Ren := ⟨fun | 156 => 114 | 165 => 121 | 166 => 122 | 169 => 123 | 240 => 130 | 241 => 131 | 276 => 138 | 277 => 139 | n => n, fun | 31 => 75 | 9 => 9 | 3 => 3 | 4 => 4 | 0 => 0 | 20 => 20 | 72 => 130 | 76 => 134 | 70 => 128 | 37 => 22 | 75 => 133 | 127 => 138 | 164 => 151 | 5 => 5 | 80 => 136 | n => n, fun | n => n⟩
theorem Lay114 : Go.Proofs.Lays.n156 Tryz.prog Lay114_ren := {
  mixed := by kernel_rfl
  f156 := Tryz.func114.trans (congrArg some (by kernel_rfl))
  f165 := Tryz.func121.trans (congrArg some (by kernel_rfl))
  f166 := Tryz.func122.trans (congrArg some (by kernel_rfl))
  f169 := Tryz.func123.trans (congrArg some (by kernel_rfl))
  f240 := Tryz.func130.trans (congrArg some (by kernel_rfl))
  f241 := Tryz.func131.trans (congrArg some (by kernel_rfl))
  f276 := Tryz.func138.trans (congrArg some (by kernel_rfl))
  f277 := Tryz.func139.trans (congrArg some (by kernel_rfl))
  t0 := Tryz.underlying0
  a0 := Tryz.isAgg0
  z0 := Tryz.sizeOf0
  v0 := Tryz.zeroValue0
  t3 := Tryz.underlying3
  a3 := Tryz.isAgg3
  z3 := Tryz.sizeOf3
  v3 := Tryz.zeroValue3
  t4 := Tryz.underlying4
  a4 := Tryz.isAgg4
  z4 := Tryz.sizeOf4
  v4 := Tryz.zeroValue4
  t9 := Tryz.underlying9
  a9 := Tryz.isAgg9
  z9 := Tryz.sizeOf9
  v9 := Tryz.zeroValue9
  t20 := Tryz.underlying20
  a20 := Tryz.isAgg20
  z20 := Tryz.sizeOf20
  v20 := Tryz.zeroValue20
  t31 := Tryz.underlying75
  a31 := Tryz.isAgg75
  z31 := Tryz.sizeOf75
  v31 := Tryz.zeroValue75
  t37 := Tryz.underlying22
  a37 := Tryz.isAgg22
  z37 := Tryz.sizeOf22
  v37 := Tryz.zeroValue22
  t70 := Tryz.underlying128
  a70 := Tryz.isAgg128
  z70 := Tryz.sizeOf128
  v70 := Tryz.zeroValue128
  t72 := Tryz.underlying130
  a72 := Tryz.isAgg130
  z72 := Tryz.sizeOf130
  v72 := Tryz.zeroValue130
  t75 := Tryz.underlying133
  a75 := Tryz.isAgg133
  z75 := Tryz.sizeOf133
  v75 := Tryz.zeroValue133
  t76 := Tryz.underlying134
  a76 := Tryz.isAgg134
  z76 := Tryz.sizeOf134
  v76 := Tryz.zeroValue134
  t127 := Tryz.underlying138
  a127 := Tryz.isAgg138
  z127 := Tryz.sizeOf138
  v127 := Tryz.zeroValue138
  t164 := Tryz.underlying151
  a164 := Tryz.isAgg151
  z164 := Tryz.sizeOf151
  v164 := Tryz.zeroValue151 }

theorem LayX114 : Builder.Extra Tryz.prog Lay114_ren where
  sizeBuilder := by kernel_rfl
  liesBuilder := by kernel_rfl
  t5 := Tryz.underlying5
  a5 := Tryz.isAgg5
  z5 := Tryz.sizeOf5
  v5 := Tryz.zeroValue5
  infoByte := by kernel_rfl
  cellsByte := by kernel_rfl
  sizeByte := by kernel_rfl
  neB5 := by decide
noncomputable def s114 : FSpec := ⟨[.imm false (.slice 9 .str), .imm false .str], [.imm false .str], fun x => S_strings_Join x.1 x.2.1, false⟩
theorem ok114 : FOk Tryz.prog fa 114 s114 := ok_Join Lay114 LayX114
theorem enters114 : Enters Tryz.prog 114 := enters Tryz.func114 (by kernel_rfl) rfl

/-! ## loop.example/g00698/impl.joined -/
noncomputable def E102 : Env := { tab := tab, sig := [(103, s103), (114, s114)], clos := [], live := [(0, [0, 5, 9, 10, 11], [])], eqs := [], inl := [], q := false }
set_option maxRecDepth 100000 in
theorem r102 (N : Nat) (a0 : ByteArray) (a1 : List Int) : runF N E102 Tryz.f102 [.imm false .str, .imm false (.slice 3 (.int .i64))] [.imm false .str] (a0, a1, ()) = p_impl_joined N a0 a1 := by kernel_rfl
theorem env102 : EnvOk Tryz.prog (fa.at false) E102 := envOk mixed tabOk ⟨⟨enters103, ok103, fun _ => rfl⟩, ⟨enters114, ok114, fun h => h⟩, trivial⟩ trivial trivial
noncomputable def s102 : FSpec := ⟨[.imm false .str, .imm false (.slice 3 (.int .i64))], [.imm false .str], fun x => S_impl_joined x.1 x.2.1, false⟩
theorem ok102 : FOk Tryz.prog fa 102 s102 := fn_says env102 Tryz.func102 rfl fun x y h => let ⟨N, hN⟩ := lim_some h; ⟨N, (r102 N x.1 x.2.1).trans hN⟩
theorem enters102 : Enters Tryz.prog 102 := enters Tryz.func102 (by kernel_rfl) rfl

/-! ## loop.example/g00698/impl.spelled -/
noncomputable def E81 : Env := { tab := tab, sig := [(102, s102)], clos := [], live := [], eqs := [], inl := [], q := false }
set_option maxRecDepth 100000 in
theorem r81 (N : Nat) (a0 : List Int) : runF N E81 Tryz.f81 [.imm false (.slice 3 (.int .i64))] [.imm false .str] (a0, ()) = p_impl_spelled N a0 := by kernel_rfl
theorem env81 : EnvOk Tryz.prog (fa.at false) E81 := envOk mixed tabOk ⟨⟨enters102, ok102, fun h => h⟩, trivial⟩ trivial trivial
noncomputable def s81 : FSpec := ⟨[.imm false (.slice 3 (.int .i64))], [.imm false .str], fun x => S_impl_spelled x.1, false⟩
theorem ok81 : FOk Tryz.prog fa 81 s81 := fn_says env81 Tryz.func81 rfl fun x y h => ⟨0, (r81 0 x.1).trans h⟩
theorem enters81 : Enters Tryz.prog 81 := enters Tryz.func81 (by kernel_rfl) rfl

/-! ## loop.example/g00698/impl.cmdText -/
noncomputable def E82 : Env := { tab := tab, sig := [(81, s81)], clos := [], live := [], eqs := [], inl := [], q := false }
set_option maxRecDepth 100000 in
theorem r82 (N : Nat) (a0 : T2) : runF N E82 Tryz.f82 [.imm true (.pair (.int .i64) (.pair (.int .i64) (.pair (.int .i64) (.pair (.int .i64) (.pair (.int .i64) .unit)))))] [.imm false .str] (a0, ()) = p_impl_cmdText N a0 := by kernel_rfl
theorem env82 : EnvOk Tryz.prog (fa.at false) E82 := envOk mixed tabOk ⟨⟨enters81, ok81, fun h => h⟩, trivial⟩ trivial trivial
noncomputable def s82 : FSpec := ⟨[.imm true (.pair (.int .i64) (.pair (.int .i64) (.pair (.int .i64) (.pair (.int .i64) (.pair (.int .i64) .unit)))))], [.imm false .str], fun x => S_impl_cmdText x.1, false⟩
theorem ok82 : FOk Tryz.prog fa 82 s82 := fn_says env82 Tryz.func82 rfl fun x y h => ⟨0, (r82 0 x.1).trans h⟩
theorem enters82 : Enters Tryz.prog 82 := enters Tryz.func82 (by kernel_rfl) rfl

/-! ## loop.example/g00698/impl.attrText -/
noncomputable def E83 : Env := { tab := tab, sig := [(103, s103), (102, s102)], clos := [], live := [], eqs := [], inl := [], q := false }
set_option maxRecDepth 100000 in
theorem r83 (N : Nat) (a0 : T6) : runF N E83 Tryz.f83 [.imm true (.pair (.int .i64) (.pair (.slice 3 (.int .i64)) .unit))] [.imm false .str] (a0, ()) = p_impl_attrText N a0 := by kernel_rfl
theorem env83 : EnvOk Tryz.prog (fa.at false) E83 := envOk mixed tabOk ⟨⟨enters103, ok103, fun _ => rfl⟩, ⟨enters102, ok102, fun h => h⟩, trivial⟩ trivial trivial
noncomputable def s83 : FSpec := ⟨[.imm true (.pair (.int .i64) (.pair (.slice 3 (.int .i64)) .unit))], [.imm false .str], fun x => S_impl_attrText x.1, false⟩
theorem ok83 : FOk Tryz.prog fa 83 s83 := fn_says env83 Tryz.func83 rfl fun x y h => ⟨0, (r83 0 x.1).trans h⟩
theorem enters83 : Enters Tryz.prog 83 := enters Tryz.func83 (by kernel_rfl) rfl

/-! ## loop.example/g00698/impl.msgText -/
noncomputable def E50 : Env := { tab := tab, sig := [(61, s61), (81, s81), (82, s82), (83, s83)], clos := [], live := [], eqs := [], inl := [], q := false, imm := [3] }
set_option maxRecDepth 100000 in
theorem r50 (N : Nat) (a0 : T11) : runF N E50 Tryz.f50 [.imm true (.pair (.int .i64) (.pair (.int .i64) (.pair (.int .i64) (.pair (.int .i64) (.pair (.int .i64) (.pair (.int .i64) (.pair (.int .i64) (.pair (.int .i64) (.pair (.pair (.int .i64) (.pair (.int .i64) (.pair (.int .i64) (.pair (.int .i64) (.pair (.int .i64) .unit))))) (.pair (.pair (.int .i64) (.pair (.slice 3 (.int .i64)) .unit)) .unit))))))))))] [.imm false .str] (a0, ()) = p_impl_msgText N a0 := by kernel_rfl
theorem env50 : EnvOk Tryz.prog (fa.at false) E50 := envOk mixed tabOk ⟨⟨enters61, ok61, fun _ => rfl⟩, ⟨enters81, ok81, fun h => h⟩, ⟨enters82, ok82, fun h => h⟩, ⟨enters83, ok83, fun h => h⟩, trivial⟩ trivial trivial
noncomputable def s50 : FSpec := ⟨[.imm true (.pair (.int .i64) (.pair (.int .i64) (.pair (.int .i64) (.pair (.int .i64) (.pair (.int .i64) (.pair (.int .i64) (.pair (.int .i64) (.pair (.int .i64) (.pair (.pair (.int .i64) (.pair (.int .i64) (.pair (.int .i64) (.pair (.int .i64) (.pair (.int .i64) .unit))))) (.pair (.pair (.int .i64) (.pair (.slice 3 (.int .i64)) .unit)) .unit))))))))))], [.imm false .str], fun x => S_impl_msgText x.1, false⟩
theorem ok50 : FOk Tryz.prog fa 50 s50 := fn_says env50 Tryz.func50 rfl fun x y h => ⟨0, (r50 0 x.1).trans h⟩
theorem enters50 : Enters Tryz.prog 50 := enters Tryz.func50 (by kernel_rfl) rfl

/-! ## loop.example/g00698/impl.MsgText -/
noncomputable def E28 : Env := { tab := tab, sig := [(49, s49), (50, s50)], clos := [], live := [], eqs := [], inl := [], q := false }
set_option maxRecDepth 100000 in
theorem r28 (N : Nat) (a0 : Int) (a1 : T11) : runF N E28 Tryz.f28 [.imm false (.int .i64), .imm true (.pair (.int .i64) (.pair (.int .i64) (.pair (.int .i64) (.pair (.int .i64) (.pair (.int .i64) (.pair (.int .i64) (.pair (.int .i64) (.pair (.int .i64) (.pair (.pair (.int .i64) (.pair (.int .i64) (.pair (.int .i64) (.pair (.int .i64) (.pair (.int .i64) .unit))))) (.pair (.pair (.int .i64) (.pair (.slice 3 (.int .i64)) .unit)) .unit))))))))))] [.imm false .str, .imm false .bool] (a0, a1, ()) = p_impl_MsgText N a0 a1 := by kernel_rfl
theorem env28 : EnvOk Tryz.prog (fa.at false) E28 := envOk mixed tabOk ⟨⟨enters49, ok49, fun _ => rfl⟩, ⟨enters50, ok50, fun h => h⟩, trivial⟩ trivial trivial
noncomputable def s28 : FSpec := ⟨[.imm false (.int .i64), .imm true (.pair (.int .i64) (.pair (.int .i64) (.pair (.int .i64) (.pair (.int .i64) (.pair (.int .i64) (.pair (.int .i64) (.pair (.int .i64) (.pair (.int .i64) (.pair (.pair (.int .i64) (.pair (.int .i64) (.pair (.int .i64) (.pair (.int .i64) (.pair (.int .i64) .unit))))) (.pair (.pair (.int .i64) (.pair (.slice 3 (.int .i64)) .unit)) .unit))))))))))], [.imm false .str, .imm false .bool], fun x => S_impl_MsgText x.1 x.2.1, false⟩
theorem ok28 : FOk Tryz.prog fa 28 s28 := fn_says env28 Tryz.func28 rfl fun x y h => ⟨0, (r28 0 x.1 x.2.1).trans h⟩
theorem enters28 : Enters Tryz.prog 28 := enters Tryz.func28 (by kernel_rfl) rfl

/-! ## loop.example/g00698/impl.sumOf -/
noncomputable def E52 : Env := { tab := tab, sig := [], clos := [], live := [(0, [0, 1, 2, 9, 10], [])], eqs := [], inl := [] }
set_option maxRecDepth 100000 in
theorem r52 (N : Nat) (a0 : ByteArray) (a1 : Int) (a2 : Int) : runF N E52 Tryz.f52 [.imm false .str, .imm false (.int .i64), .imm false (.int .i64)] [.imm false (.int .i64)] (a0, a1, a2, ()) = p_impl_sumOf N a0 a1 a2 := by kernel_rfl
theorem env52 : EnvOk Tryz.prog (fa.at true) E52 := envOk mixed tabOk trivial trivial trivial
noncomputable def s52 : FSpec := ⟨[.imm false .str, .imm false (.int .i64), .imm false (.int .i64)], [.imm false (.int .i64)], fun x => S_impl_sumOf x.1 x.2.1 x.2.2.1, true⟩
theorem ok52 : FOk Tryz.prog fa 52 s52 := fn_says env52 Tryz.func52 rfl fun x y h => let ⟨N, hN⟩ := lim_some h; ⟨N, (r52 N x.1 x.2.1 x.2.2.1).trans hN⟩
theorem enters52 : Enters Tryz.prog 52 := enters Tryz.func52 (by kernel_rfl) rfl

/-! ## loop.example/g00698/impl.twoBytes -/
noncomputable def E51 : Env := { tab := tab, sig := [], clos := [], live := [], eqs := [], inl := [] }
set_option maxRecDepth 100000 in
theorem r51 (N : Nat) (a0 : Int) : runF N E51 Tryz.f51 [.imm false (.int .i64)] [.imm false .str] (a0, ()) = p_impl_twoBytes N a0 := by kernel_rfl
theorem env51 : EnvOk Tryz.prog (fa.at true) E51 := envOk mixed tabOk trivial trivial trivial
noncomputable def s51 : FSpec := ⟨[.imm false (.int .i64)], [.imm false .str], fun x => S_impl_twoBytes x.1, true⟩
theorem ok51 : FOk Tryz.prog fa 51 s51 := fn_says env51 Tryz.func51 rfl fun x y h => ⟨0, (r51 0 x.1).trans h⟩
theorem enters51 : Enters Tryz.prog 51 := enters Tryz.func51 (by kernel_rfl) rfl

/-! ## loop.example/g00698/impl.wireBytes -/
noncomputable def E29 : Env := { tab := tab, sig := [(52, s52), (51, s51)], clos := [], live := [], eqs := [], inl := [] }
set_option maxRecDepth 100000 in
theorem r29 (N : Nat) (a0 : ByteArray) : runF N E29 Tryz.f29 [.imm false .str] [.imm false .str] (a0, ()) = p_impl_wireBytes N a0 := by kernel_rfl
theorem env29 : EnvOk Tryz.prog (fa.at true) E29 := envOk mixed tabOk ⟨⟨enters52, ok52, fun _ => rfl⟩, ⟨enters51, ok51, fun _ => rfl⟩, trivial⟩ trivial trivial
noncomputable def s29 : FSpec := ⟨[.imm false .str], [.imm false .str], fun x => S_impl_wireBytes x.1, true⟩
theorem ok29 : FOk Tryz.prog fa 29 s29 := fn_says env29 Tryz.func29 rfl fun x y h => ⟨0, (r29 0 x.1).trans h⟩
theorem enters29 : Enters Tryz.prog 29 := enters Tryz.func29 (by kernel_rfl) rfl

/-! ## loop.example/g00698/impl.MsgBytes -/
noncomputable def E7 : Env := { tab := tab, sig := [(28, s28), (29, s29)], clos := [], live := [], eqs := [], inl := [], q := false }
set_option maxRecDepth 100000 in
theorem r7 (N : Nat) (a0 : Int) (a1 : T11) : runF N E7 Tryz.f7 [.imm false (.int .i64), .imm true (.pair (.int .i64) (.pair (.int .i64) (.pair (.int .i64) (.pair (.int .i64) (.pair (.int .i64) (.pair (.int .i64) (.pair (.int .i64) (.pair (.int .i64) (.pair (.pair (.int .i64) (.pair (.int .i64) (.pair (.int .i64) (.pair (.int .i64) (.pair (.int .i64) .unit))))) (.pair (.pair (.int .i64) (.pair (.slice 3 (.int .i64)) .unit)) .unit))))))))))] [.imm false .str, .imm false .bool] (a0, a1, ()) = p_impl_MsgBytes N a0 a1 := by kernel_rfl
theorem env7 : EnvOk Tryz.prog (fa.at false) E7 := envOk mixed tabOk ⟨⟨enters28, ok28, fun h => h⟩, ⟨enters29, ok29, fun _ => rfl⟩, trivial⟩ trivial trivial
noncomputable def s7 : FSpec := ⟨[.imm false (.int .i64), .imm true (.pair (.int .i64) (.pair (.int .i64) (.pair (.int .i64) (.pair (.int .i64) (.pair (.int .i64) (.pair (.int .i64) (.pair (.int .i64) (.pair (.int .i64) (.pair (.pair (.int .i64) (.pair (.int .i64) (.pair (.int .i64) (.pair (.int .i64) (.pair (.int .i64) .unit))))) (.pair (.pair (.int .i64) (.pair (.slice 3 (.int .i64)) .unit)) .unit))))))))))], [.imm false .str, .imm false .bool], fun x => S_impl_MsgBytes x.1 x.2.1, false⟩
theorem ok7 : FOk Tryz.prog fa 7 s7 := fn_says env7 Tryz.func7 rfl fun x y h => ⟨0, (r7 0 x.1 x.2.1).trans h⟩
theorem enters7 : Enters Tryz.prog 7 := enters Tryz.func7 (by kernel_rfl) rfl

/-! ## loop.example/g00698/spec.IsGroup -/
noncomputable def E37 : Env := { tab := tab, sig := [], clos := [], live := [], eqs := [], inl := [] }
set_option maxRecDepth 100000 in
theorem r37 (N : Nat) (a0 : Int) : runF N E37 Tryz.f37 [.imm false (.int .i64)] [.imm false .bool] (a0, ()) = p_spec_IsGroup N a0 := by kernel_rfl
theorem env37 : EnvOk Tryz.prog (fa.at true) E37 := envOk mixed tabOk trivial trivial trivial
noncomputable def s37 : FSpec := ⟨[.imm false (.int .i64)], [.imm false .bool], fun x => S_spec_IsGroup x.1, true⟩
theorem ok37 : FOk Tryz.prog fa 37 s37 := fn_says env37 Tryz.func37 rfl fun x y h => ⟨0, (r37 0 x.1).trans h⟩
theorem enters37 : Enters Tryz.prog 37 := enters Tryz.func37 (by kernel_rfl) rfl

/-! ## loop.example/g00698/spec.l1In -/
noncomputable def E45 : Env := { tab := tab, sig := [], clos := [], live := [], eqs := [], inl := [] }
set_option maxRecDepth 100000 in
theorem r45 (N : Nat) (a0 : Int) (a1 : Int) (a2 : Int) : runF N E45 Tryz.f45 [.imm false (.int .i64), .imm false (.int .i64), .imm false (.int .i64)] [.imm false .bool] (a0, a1, a2, ()) = p_spec_l1In N a0 a1 a2 := by kernel_rfl
theorem env45 : EnvOk Tryz.prog (fa.at true) E45 := envOk mixed tabOk trivial trivial trivial
noncomputable def s45 : FSpec := ⟨[.imm false (.int .i64), .imm false (.int .i64), .imm false (.int .i64)], [.imm false .bool], fun x => S_spec_l1In x.1 x.2.1 x.2.2.1, true⟩
theorem ok45 : FOk Tryz.prog fa 45 s45 := fn_says env45 Tryz.func45 rfl fun x y h => ⟨0, (r45 0 x.1 x.2.1 x.2.2.1).trans h⟩
theorem enters45 : Enters Tryz.prog 45 := enters Tryz.func45 (by kernel_rfl) rfl

/-! ## loop.example/g00698/spec.l3Inst -/
noncomputable def E84 : Env := { tab := tab, sig := [(45, s45)], clos := [], live := [], eqs := [], inl := [] }
set_option maxRecDepth 100000 in
theorem r84 (N : Nat) (a0 : Int) (a1 : Int) (a2 : Int) : runF N E84 Tryz.f84 [.imm false (.int .i64), .imm false (.int .i64), .imm false (.int .i64)] [.imm false .bool] (a0, a1, a2, ()) = p_spec_l3Inst N a0 a1 a2 := by kernel_rfl
theorem env84 : EnvOk Tryz.prog (fa.at true) E84 := envOk mixed tabOk ⟨⟨enters45, ok45, fun _ => rfl⟩, trivial⟩ trivial trivial
noncomputable def s84 : FSpec := ⟨[.imm false (.int .i64), .imm false (.int .i64), .imm false (.int .i64)], [.imm false .bool], fun x => S_spec_l3Inst x.1 x.2.1 x.2.2.1, true⟩
theorem ok84 : FOk Tryz.prog fa 84 s84 := fn_says env84 Tryz.func84 rfl fun x y h => ⟨0, (r84 0 x.1 x.2.1 x.2.2.1).trans h⟩
theorem enters84 : Enters Tryz.prog 84 := enters Tryz.func84 (by kernel_rfl) rfl

/-! ## loop.example/g00698/spec.l1Same -/
noncomputable def E106 : Env := { tab := tab, sig := [], clos := [], live := [(0, [0, 1, 12, 13], [])], eqs := [], inl := [] }
set_option maxRecDepth 100000 in
theorem r106 (N : Nat) (a0 : List Int) (a1 : List Int) : runF N E106 Tryz.f106 [.imm false (.slice 3 (.int .i64)), .imm false (.slice 3 (.int .i64))] [.imm false .bool] (a0, a1, ()) = p_spec_l1Same N a0 a1 := by kernel_rfl
theorem env106 : EnvOk Tryz.prog (fa.at true) E106 := envOk mixed tabOk trivial trivial trivial
noncomputable def s106 : FSpec := ⟨[.imm false (.slice 3 (.int .i64)), .imm false (.slice 3 (.int .i64))], [.imm false .bool], fun x => S_spec_l1Same x.1 x.2.1, true⟩
theorem ok106 : FOk Tryz.prog fa 106 s106 := fn_says env106 Tryz.func106 rfl fun x y h => let ⟨N, hN⟩ := lim_some h; ⟨N, (r106 N x.1 x.2.1).trans hN⟩
theorem enters106 : Enters Tryz.prog 106 := enters Tryz.func106 (by kernel_rfl) rfl

/-! ## loop.example/g00698/spec.SameAttr -/
noncomputable def E88 : Env := { tab := tab, sig := [(106, s106)], clos := [], live := [], eqs := [], inl := [] }
set_option maxRecDepth 100000 in
theorem r88 (N : Nat) (a0 : T6) (a1 : T6) : runF N E88 Tryz.f88 [.imm true (.pair (.int .i64) (.pair (.slice 3 (.int .i64)) .unit)), .imm true (.pair (.int .i64) (.pair (.slice 3 (.int .i64)) .unit))] [.imm false .bool] (a0, a1, ()) = p_spec_SameAttr N a0 a1 := by kernel_rfl
theorem env88 : EnvOk Tryz.prog (fa.at true) E88 := envOk mixed tabOk ⟨⟨enters106, ok106, fun _ => rfl⟩, trivial⟩ trivial trivial
noncomputable def s88 : FSpec := ⟨[.imm true (.pair (.int .i64) (.pair (.slice 3 (.int .i64)) .unit)), .imm true (.pair (.int .i64) (.pair (.slice 3 (.int .i64)) .unit))], [.imm false .bool], fun x => S_spec_SameAttr x.1 x.2.1, true⟩
theorem ok88 : FOk Tryz.prog fa 88 s88 := fn_says env88 Tryz.func88 rfl fun x y h => ⟨0, (r88 0 x.1 x.2.1).trans h⟩
theorem enters88 : Enters Tryz.prog 88 := enters Tryz.func88 (by kernel_rfl) rfl

/-! ## loop.example/g00698/spec.l2Account -/
noncomputable def E116 : Env := { tab := tab, sig := [(45, s45)], clos := [], live := [], eqs := [], inl := [] }
set_option maxRecDepth 100000 in
theorem r116 (N : Nat) (a0 : Int) : runF N E116 Tryz.f116 [.imm false (.int .i64)] [.imm false .bool] (a0, ()) = p_spec_l2Account N a0 := by kernel_rfl
theorem env116 : EnvOk Tryz.prog (fa.at true) E116 := envOk mixed tabOk ⟨⟨enters45, ok45, fun _ => rfl⟩, trivial⟩ trivial trivial
noncomputable def s116 : FSpec := ⟨[.imm false (.int .i64)], [.imm false .bool], fun x => S_spec_l2Account x.1, true⟩
theorem ok116 : FOk Tryz.prog fa 116 s116 := fn_says env116 Tryz.func116 rfl fun x y h => ⟨0, (r116 0 x.1).trans h⟩
theorem enters116 : Enters Tryz.prog 116 := enters Tryz.func116 (by kernel_rfl) rfl

/-! ## loop.example/g00698/spec.l2Code -/
noncomputable def E105 : Env := { tab := tab, sig := [(116, s116), (45, s45)], clos := [], live := [], eqs := [], inl := [] }
set_option maxRecDepth 100000 in
theorem r105 (N : Nat) (a0 : T2) : runF N E105 Tryz.f105 [.imm true (.pair (.int .i64) (.pair (.int .i64) (.pair (.int .i64) (.pair (.int .i64) (.pair (.int .i64) .unit)))))] [.imm false (.int .i64)] (a0, ()) = p_spec_l2Code N a0 := by kernel_rfl
theorem env105 : EnvOk Tryz.prog (fa.at true) E105 := envOk mixed tabOk ⟨⟨enters116, ok116, fun _ => rfl⟩, ⟨enters45, ok45, fun _ => rfl⟩, trivial⟩ trivial trivial
noncomputable def s105 : FSpec := ⟨[.imm true (.pair (.int .i64) (.pair (.int .i64) (.pair (.int .i64) (.pair (.int .i64) (.pair (.int .i64) .unit)))))], [.imm false (.int .i64)], fun x => S_spec_l2Code x.1, true⟩
theorem ok105 : FOk Tryz.prog fa 105 s105 := fn_says env105 Tryz.func105 rfl fun x y h => ⟨0, (r105 0 x.1).trans h⟩
theorem enters105 : Enters Tryz.prog 105 := enters Tryz.func105 (by kernel_rfl) rfl

/-! ## loop.example/g00698/spec.GoodCmd -/
noncomputable def E87 : Env := { tab := tab, sig := [(105, s105)], clos := [], live := [], eqs := [(25, 5)], inl := [] }
set_option maxRecDepth 100000 in
theorem r87 (N : Nat) (a0 : T2) : runF N E87 Tryz.f87 [.imm true (.pair (.int .i64) (.pair (.int .i64) (.pair (.int .i64) (.pair (.int .i64) (.pair (.int .i64) .unit)))))] [.imm false .bool] (a0, ()) = p_spec_GoodCmd N a0 := by kernel_rfl
theorem env87 : EnvOk Tryz.prog (fa.at true) E87 := envOk mixed tabOk ⟨⟨enters105, ok105, fun _ => rfl⟩, trivial⟩ trivial ⟨eq25, trivial⟩
noncomputable def s87 : FSpec := ⟨[.imm true (.pair (.int .i64) (.pair (.int .i64) (.pair (.int .i64) (.pair (.int .i64) (.pair (.int .i64) .unit)))))], [.imm false .bool], fun x => S_spec_GoodCmd x.1, true⟩
theorem ok87 : FOk Tryz.prog fa 87 s87 := fn_says env87 Tryz.func87 rfl fun x y h => ⟨0, (r87 0 x.1).trans h⟩
theorem enters87 : Enters Tryz.prog 87 := enters Tryz.func87 (by kernel_rfl) rfl

/-! ## loop.example/g00698/spec.l1All -/
noncomputable def E104 : Env := { tab := tab, sig := [(45, s45)], clos := [], live := [(0, [1, 2, 9, 10, 11], [])], eqs := [], inl := [] }
set_option maxRecDepth 100000 in
theorem r104 (N : Nat) (a0 : List Int) (a1 : Int) (a2 : Int) : runF N E104 Tryz.f104 [.imm false (.slice 3 (.int .i64)), .imm false (.int .i64), .imm false (.int .i64)] [.imm false .bool] (a0, a1, a2, ()) = p_spec_l1All N a0 a1 a2 := by kernel_rfl
theorem env104 : EnvOk Tryz.prog (fa.at true) E104 := envOk mixed tabOk ⟨⟨enters45, ok45, fun _ => rfl⟩, trivial⟩ trivial trivial
noncomputable def s104 : FSpec := ⟨[.imm false (.slice 3 (.int .i64)), .imm false (.int .i64), .imm false (.int .i64)], [.imm false .bool], fun x => S_spec_l1All x.1 x.2.1 x.2.2.1, true⟩
theorem ok104 : FOk Tryz.prog fa 104 s104 := fn_says env104 Tryz.func104 rfl fun x y h => let ⟨N, hN⟩ := lim_some h; ⟨N, (r104 N x.1 x.2.1 x.2.2.1).trans hN⟩
theorem enters104 : Enters Tryz.prog 104 := enters Tryz.func104 (by kernel_rfl) rfl

/-! ## loop.example/g00698/spec.l3Attr -/
noncomputable def E86 : Env := { tab := tab, sig := [(45, s45), (104, s104)], clos := [], live := [], eqs := [], inl := [] }
set_option maxRecDepth 100000 in
theorem r86 (N : Nat) (a0 : Int) (a1 : T6) : runF N E86 Tryz.f86 [.imm false (.int .i64), .imm true (.pair (.int .i64) (.pair (.slice 3 (.int .i64)) .unit))] [.imm false .bool] (a0, a1, ()) = p_spec_l3Attr N a0 a1 := by kernel_rfl
theorem env86 : EnvOk Tryz.prog (fa.at true) E86 := envOk mixed tabOk ⟨⟨enters45, ok45, fun _ => rfl⟩, ⟨enters104, ok104, fun _ => rfl⟩, trivial⟩ trivial trivial
noncomputable def s86 : FSpec := ⟨[.imm false (.int .i64), .imm true (.pair (.int .i64) (.pair (.slice 3 (.int .i64)) .unit))], [.imm false .bool], fun x => S_spec_l3Attr x.1 x.2.1, true⟩
theorem ok86 : FOk Tryz.prog fa 86 s86 := fn_says env86 Tryz.func86 rfl fun x y h => ⟨0, (r86 0 x.1 x.2.1).trans h⟩
theorem enters86 : Enters Tryz.prog 86 := enters Tryz.func86 (by kernel_rfl) rfl

/-! ## loop.example/g00698/spec.l4Row -/
noncomputable def E85 : Env := { tab := tab, sig := [(45, s45), (68, s68), (88, s88), (87, s87), (86, s86)], clos := [], live := [], eqs := [(25, 5)], inl := [] }
set_option maxRecDepth 100000 in
theorem r85 (N : Nat) (a0 : Int) (a1 : T7) : runF N E85 Tryz.f85 [.imm false (.int .i64), .imm true (.pair (.int .i64) (.pair (.int .i64) (.pair (.int .i64) (.pair (.pair (.int .i64) (.pair (.int .i64) (.pair (.int .i64) (.pair (.int .i64) (.pair (.int .i64) .unit))))) (.pair (.pair (.int .i64) (.pair (.slice 3 (.int .i64)) .unit)) .unit)))))] [.imm false .bool] (a0, a1, ()) = p_spec_l4Row N a0 a1 := by kernel_rfl
theorem env85 : EnvOk Tryz.prog (fa.at true) E85 := envOk mixed tabOk ⟨⟨enters45, ok45, fun _ => rfl⟩, ⟨enters68, ok68, fun _ => rfl⟩, ⟨enters88, ok88, fun _ => rfl⟩, ⟨enters87, ok87, fun _ => rfl⟩, ⟨enters86, ok86, fun _ => rfl⟩, trivial⟩ trivial ⟨eq25, trivial⟩
noncomputable def s85 : FSpec := ⟨[.imm false (.int .i64), .imm true (.pair (.int .i64) (.pair (.int .i64) (.pair (.int .i64) (.pair (.pair (.int .i64) (.pair (.int .i64) (.pair (.int .i64) (.pair (.int .i64) (.pair (.int .i64) .unit))))) (.pair (.pair (.int .i64) (.pair (.slice 3 (.int .i64)) .unit)) .unit)))))], [.imm false .bool], fun x => S_spec_l4Row x.1 x.2.1, true⟩
theorem ok85 : FOk Tryz.prog fa 85 s85 := fn_says env85 Tryz.func85 rfl fun x y h => ⟨0, (r85 0 x.1 x.2.1).trans h⟩
theorem enters85 : Enters Tryz.prog 85 := enters Tryz.func85 (by kernel_rfl) rfl

/-! ## loop.example/g00698/spec.GoodMsg -/
noncomputable def E53 : Env := { tab := tab, sig := [(37, s37), (45, s45), (84, s84), (85, s85), (86, s86), (87, s87), (68, s68), (88, s88)], clos := [], live := [], eqs := [(25, 5)], inl := [] }
set_option maxRecDepth 100000 in
theorem r53 (N : Nat) (a0 : Int) (a1 : T11) : runF N E53 Tryz.f53 [.imm false (.int .i64), .imm true (.pair (.int .i64) (.pair (.int .i64) (.pair (.int .i64) (.pair (.int .i64) (.pair (.int .i64) (.pair (.int .i64) (.pair (.int .i64) (.pair (.int .i64) (.pair (.pair (.int .i64) (.pair (.int .i64) (.pair (.int .i64) (.pair (.int .i64) (.pair (.int .i64) .unit))))) (.pair (.pair (.int .i64) (.pair (.slice 3 (.int .i64)) .unit)) .unit))))))))))] [.imm false .bool] (a0, a1, ()) = p_spec_GoodMsg N a0 a1 := by kernel_rfl
theorem env53 : EnvOk Tryz.prog (fa.at true) E53 := envOk mixed tabOk ⟨⟨enters37, ok37, fun _ => rfl⟩, ⟨enters45, ok45, fun _ => rfl⟩, ⟨enters84, ok84, fun _ => rfl⟩, ⟨enters85, ok85, fun _ => rfl⟩, ⟨enters86, ok86, fun _ => rfl⟩, ⟨enters87, ok87, fun _ => rfl⟩, ⟨enters68, ok68, fun _ => rfl⟩, ⟨enters88, ok88, fun _ => rfl⟩, trivial⟩ trivial ⟨eq25, trivial⟩
noncomputable def s53 : FSpec := ⟨[.imm false (.int .i64), .imm true (.pair (.int .i64) (.pair (.int .i64) (.pair (.int .i64) (.pair (.int .i64) (.pair (.int .i64) (.pair (.int .i64) (.pair (.int .i64) (.pair (.int .i64) (.pair (.pair (.int .i64) (.pair (.int .i64) (.pair (.int .i64) (.pair (.int .i64) (.pair (.int .i64) .unit))))) (.pair (.pair (.int .i64) (.pair (.slice 3 (.int .i64)) .unit)) .unit))))))))))], [.imm false .bool], fun x => S_spec_GoodMsg x.1 x.2.1, true⟩
theorem ok53 : FOk Tryz.prog fa 53 s53 := fn_says env53 Tryz.func53 rfl fun x y h => ⟨0, (r53 0 x.1 x.2.1).trans h⟩
theorem enters53 : Enters Tryz.prog 53 := enters Tryz.func53 (by kernel_rfl) rfl

end Go.Proofs.YtmnekhlgldljcaaGreatDoor.Am
