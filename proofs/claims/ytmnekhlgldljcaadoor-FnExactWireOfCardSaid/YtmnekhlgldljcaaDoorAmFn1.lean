/- Functions, as they run on data. No condition. -/
import Derived.Test.YtmnekhlgldljcaaDoorAmFn0
set_option linter.unusedVariables false
set_option maxRecDepth 100000
namespace Go.Proofs.YtmnekhlgldljcaaDoor.Am
open Go.AM Go.AM.P Go.Proofs Go.Shelf
/-! ## loop.example/g00698/impl.MsgText -/
noncomputable def E65 : Env := { tab := tab, sig := [(102, s102), (103, s103)], clos := [], live := [], eqs := [], inl := [], q := false }
set_option maxRecDepth 100000 in
theorem r65 (N : Nat) (a0 : Int) (a1 : T11) : runF N E65 Tryd.f65 [.imm false (.int .i64), .imm true (.pair (.int .i64) (.pair (.int .i64) (.pair (.int .i64) (.pair (.int .i64) (.pair (.int .i64) (.pair (.int .i64) (.pair (.int .i64) (.pair (.int .i64) (.pair (.pair (.int .i64) (.pair (.int .i64) (.pair (.int .i64) (.pair (.int .i64) (.pair (.int .i64) .unit))))) (.pair (.pair (.int .i64) (.pair (.slice 3 (.int .i64)) .unit)) .unit))))))))))] [.imm false .str, .imm false .bool] (a0, a1, ()) = p_impl_MsgText N a0 a1 := by kernel_rfl
theorem env65 : EnvOk Tryd.prog (fa.at false) E65 := envOk mixed tabOk ⟨⟨enters102, ok102, fun _ => rfl⟩, ⟨enters103, ok103, fun h => h⟩, trivial⟩ trivial trivial
noncomputable def s65 : FSpec := ⟨[.imm false (.int .i64), .imm true (.pair (.int .i64) (.pair (.int .i64) (.pair (.int .i64) (.pair (.int .i64) (.pair (.int .i64) (.pair (.int .i64) (.pair (.int .i64) (.pair (.int .i64) (.pair (.pair (.int .i64) (.pair (.int .i64) (.pair (.int .i64) (.pair (.int .i64) (.pair (.int .i64) .unit))))) (.pair (.pair (.int .i64) (.pair (.slice 3 (.int .i64)) .unit)) .unit))))))))))], [.imm false .str, .imm false .bool], fun x => S_impl_MsgText x.1 x.2.1, false⟩
theorem ok65 : FOk Tryd.prog fa 65 s65 := fn_says env65 Tryd.func65 rfl fun x y h => ⟨0, (r65 0 x.1 x.2.1).trans h⟩
theorem enters65 : Enters Tryd.prog 65 := enters Tryd.func65 (by kernel_rfl) rfl

/-! ## loop.example/g00698/impl.sumOf -/
noncomputable def E105 : Env := { tab := tab, sig := [], clos := [], live := [(0, [0, 1, 2, 9, 10], [])], eqs := [], inl := [] }
set_option maxRecDepth 100000 in
theorem r105 (N : Nat) (a0 : ByteArray) (a1 : Int) (a2 : Int) : runF N E105 Tryd.f105 [.imm false .str, .imm false (.int .i64), .imm false (.int .i64)] [.imm false (.int .i64)] (a0, a1, a2, ()) = p_impl_sumOf N a0 a1 a2 := by kernel_rfl
theorem env105 : EnvOk Tryd.prog (fa.at true) E105 := envOk mixed tabOk trivial trivial trivial
noncomputable def s105 : FSpec := ⟨[.imm false .str, .imm false (.int .i64), .imm false (.int .i64)], [.imm false (.int .i64)], fun x => S_impl_sumOf x.1 x.2.1 x.2.2.1, true⟩
theorem ok105 : FOk Tryd.prog fa 105 s105 := fn_says env105 Tryd.func105 rfl fun x y h => let ⟨N, hN⟩ := lim_some h; ⟨N, (r105 N x.1 x.2.1 x.2.2.1).trans hN⟩
theorem enters105 : Enters Tryd.prog 105 := enters Tryd.func105 (by kernel_rfl) rfl

/-! ## loop.example/g00698/impl.twoBytes -/
noncomputable def E104 : Env := { tab := tab, sig := [], clos := [], live := [], eqs := [], inl := [] }
set_option maxRecDepth 100000 in
theorem r104 (N : Nat) (a0 : Int) : runF N E104 Tryd.f104 [.imm false (.int .i64)] [.imm false .str] (a0, ()) = p_impl_twoBytes N a0 := by kernel_rfl
theorem env104 : EnvOk Tryd.prog (fa.at true) E104 := envOk mixed tabOk trivial trivial trivial
noncomputable def s104 : FSpec := ⟨[.imm false (.int .i64)], [.imm false .str], fun x => S_impl_twoBytes x.1, true⟩
theorem ok104 : FOk Tryd.prog fa 104 s104 := fn_says env104 Tryd.func104 rfl fun x y h => ⟨0, (r104 0 x.1).trans h⟩
theorem enters104 : Enters Tryd.prog 104 := enters Tryd.func104 (by kernel_rfl) rfl

/-! ## loop.example/g00698/impl.wireBytes -/
noncomputable def E66 : Env := { tab := tab, sig := [(105, s105), (104, s104)], clos := [], live := [], eqs := [], inl := [] }
set_option maxRecDepth 100000 in
theorem r66 (N : Nat) (a0 : ByteArray) : runF N E66 Tryd.f66 [.imm false .str] [.imm false .str] (a0, ()) = p_impl_wireBytes N a0 := by kernel_rfl
theorem env66 : EnvOk Tryd.prog (fa.at true) E66 := envOk mixed tabOk ⟨⟨enters105, ok105, fun _ => rfl⟩, ⟨enters104, ok104, fun _ => rfl⟩, trivial⟩ trivial trivial
noncomputable def s66 : FSpec := ⟨[.imm false .str], [.imm false .str], fun x => S_impl_wireBytes x.1, true⟩
theorem ok66 : FOk Tryd.prog fa 66 s66 := fn_says env66 Tryd.func66 rfl fun x y h => ⟨0, (r66 0 x.1).trans h⟩
theorem enters66 : Enters Tryd.prog 66 := enters Tryd.func66 (by kernel_rfl) rfl

/-! ## loop.example/g00698/impl.MsgBytes -/
noncomputable def E22 : Env := { tab := tab, sig := [(65, s65), (66, s66)], clos := [], live := [], eqs := [], inl := [], q := false }
set_option maxRecDepth 100000 in
theorem r22 (N : Nat) (a0 : Int) (a1 : T11) : runF N E22 Tryd.f22 [.imm false (.int .i64), .imm true (.pair (.int .i64) (.pair (.int .i64) (.pair (.int .i64) (.pair (.int .i64) (.pair (.int .i64) (.pair (.int .i64) (.pair (.int .i64) (.pair (.int .i64) (.pair (.pair (.int .i64) (.pair (.int .i64) (.pair (.int .i64) (.pair (.int .i64) (.pair (.int .i64) .unit))))) (.pair (.pair (.int .i64) (.pair (.slice 3 (.int .i64)) .unit)) .unit))))))))))] [.imm false .str, .imm false .bool] (a0, a1, ()) = p_impl_MsgBytes N a0 a1 := by kernel_rfl
theorem env22 : EnvOk Tryd.prog (fa.at false) E22 := envOk mixed tabOk ⟨⟨enters65, ok65, fun h => h⟩, ⟨enters66, ok66, fun _ => rfl⟩, trivial⟩ trivial trivial
noncomputable def s22 : FSpec := ⟨[.imm false (.int .i64), .imm true (.pair (.int .i64) (.pair (.int .i64) (.pair (.int .i64) (.pair (.int .i64) (.pair (.int .i64) (.pair (.int .i64) (.pair (.int .i64) (.pair (.int .i64) (.pair (.pair (.int .i64) (.pair (.int .i64) (.pair (.int .i64) (.pair (.int .i64) (.pair (.int .i64) .unit))))) (.pair (.pair (.int .i64) (.pair (.slice 3 (.int .i64)) .unit)) .unit))))))))))], [.imm false .str, .imm false .bool], fun x => S_impl_MsgBytes x.1 x.2.1, false⟩
theorem ok22 : FOk Tryd.prog fa 22 s22 := fn_says env22 Tryd.func22 rfl fun x y h => ⟨0, (r22 0 x.1 x.2.1).trans h⟩
theorem enters22 : Enters Tryd.prog 22 := enters Tryd.func22 (by kernel_rfl) rfl

/-! ## loop.example/g00698/impl.WireOf -/
noncomputable def E26 : Env := { tab := tab, sig := [(68, s68), (22, s22)], clos := [], live := [(0, [0, 6, 14, 15, 16, 32, 33, 34], [])], eqs := [], inl := [], q := false }
set_option maxRecDepth 100000 in
theorem r26 (N : Nat) (a0 : Int) (a1 : List T11) : runF N E26 Tryd.f26 [.imm false (.int .i64), .imm false (.slice 34 (.pair (.int .i64) (.pair (.int .i64) (.pair (.int .i64) (.pair (.int .i64) (.pair (.int .i64) (.pair (.int .i64) (.pair (.int .i64) (.pair (.int .i64) (.pair (.pair (.int .i64) (.pair (.int .i64) (.pair (.int .i64) (.pair (.int .i64) (.pair (.int .i64) .unit))))) (.pair (.pair (.int .i64) (.pair (.slice 3 (.int .i64)) .unit)) .unit)))))))))))] [.imm false .str, .imm false .bool] (a0, a1, ()) = p_impl_WireOf N a0 a1 := by kernel_rfl
theorem env26 : EnvOk Tryd.prog (fa.at false) E26 := envOk mixed tabOk ⟨⟨enters68, ok68, fun _ => rfl⟩, ⟨enters22, ok22, fun h => h⟩, trivial⟩ trivial trivial
noncomputable def s26 : FSpec := ⟨[.imm false (.int .i64), .imm false (.slice 34 (.pair (.int .i64) (.pair (.int .i64) (.pair (.int .i64) (.pair (.int .i64) (.pair (.int .i64) (.pair (.int .i64) (.pair (.int .i64) (.pair (.int .i64) (.pair (.pair (.int .i64) (.pair (.int .i64) (.pair (.int .i64) (.pair (.int .i64) (.pair (.int .i64) .unit))))) (.pair (.pair (.int .i64) (.pair (.slice 3 (.int .i64)) .unit)) .unit)))))))))))], [.imm false .str, .imm false .bool], fun x => S_impl_WireOf x.1 x.2.1, false⟩
theorem ok26 : FOk Tryd.prog fa 26 s26 := fn_says env26 Tryd.func26 rfl fun x y h => let ⟨N, hN⟩ := lim_some h; ⟨N, (r26 N x.1 x.2.1).trans hN⟩
theorem enters26 : Enters Tryd.prog 26 := enters Tryd.func26 (by kernel_rfl) rfl

/-! ## loop.example/g00698/laws.eqCmd -/
noncomputable def E51 : Env := { tab := tab, sig := [], clos := [], live := [], eqs := [], inl := [] }
set_option maxRecDepth 100000 in
theorem r51 (N : Nat) (a0 : T2) (a1 : T2) : runF N E51 Tryd.f51 [.imm true (.pair (.int .i64) (.pair (.int .i64) (.pair (.int .i64) (.pair (.int .i64) (.pair (.int .i64) .unit))))), .imm true (.pair (.int .i64) (.pair (.int .i64) (.pair (.int .i64) (.pair (.int .i64) (.pair (.int .i64) .unit)))))] [.imm false .bool] (a0, a1, ()) = p_laws_eqCmd N a0 a1 := by kernel_rfl
theorem env51 : EnvOk Tryd.prog (fa.at true) E51 := envOk mixed tabOk trivial trivial trivial
noncomputable def s51 : FSpec := ⟨[.imm true (.pair (.int .i64) (.pair (.int .i64) (.pair (.int .i64) (.pair (.int .i64) (.pair (.int .i64) .unit))))), .imm true (.pair (.int .i64) (.pair (.int .i64) (.pair (.int .i64) (.pair (.int .i64) (.pair (.int .i64) .unit)))))], [.imm false .bool], fun x => S_laws_eqCmd x.1 x.2.1, true⟩
theorem ok51 : FOk Tryd.prog fa 51 s51 := fn_says env51 Tryd.func51 rfl fun x y h => ⟨0, (r51 0 x.1 x.2.1).trans h⟩
theorem enters51 : Enters Tryd.prog 51 := enters Tryd.func51 (by kernel_rfl) rfl

/-! ## loop.example/g00698/laws.eqIntS -/
noncomputable def E62 : Env := { tab := tab, sig := [], clos := [], live := [(0, [0, 1, 5], [])], eqs := [], inl := [] }
set_option maxRecDepth 100000 in
theorem r62 (N : Nat) (a0 : List Int) (a1 : List Int) : runF N E62 Tryd.f62 [.imm false (.slice 3 (.int .i64)), .imm false (.slice 3 (.int .i64))] [.imm false .bool] (a0, a1, ()) = p_laws_eqIntS N a0 a1 := by kernel_rfl
theorem env62 : EnvOk Tryd.prog (fa.at true) E62 := envOk mixed tabOk trivial trivial trivial
noncomputable def s62 : FSpec := ⟨[.imm false (.slice 3 (.int .i64)), .imm false (.slice 3 (.int .i64))], [.imm false .bool], fun x => S_laws_eqIntS x.1 x.2.1, true⟩
theorem ok62 : FOk Tryd.prog fa 62 s62 := fn_says env62 Tryd.func62 rfl fun x y h => let ⟨N, hN⟩ := lim_some h; ⟨N, (r62 N x.1 x.2.1).trans hN⟩
theorem enters62 : Enters Tryd.prog 62 := enters Tryd.func62 (by kernel_rfl) rfl

/-! ## loop.example/g00698/laws.eqAttr -/
noncomputable def E52 : Env := { tab := tab, sig := [(62, s62)], clos := [], live := [], eqs := [], inl := [] }
set_option maxRecDepth 100000 in
theorem r52 (N : Nat) (a0 : T6) (a1 : T6) : runF N E52 Tryd.f52 [.imm true (.pair (.int .i64) (.pair (.slice 3 (.int .i64)) .unit)), .imm true (.pair (.int .i64) (.pair (.slice 3 (.int .i64)) .unit))] [.imm false .bool] (a0, a1, ()) = p_laws_eqAttr N a0 a1 := by kernel_rfl
theorem env52 : EnvOk Tryd.prog (fa.at true) E52 := envOk mixed tabOk ⟨⟨enters62, ok62, fun _ => rfl⟩, trivial⟩ trivial trivial
noncomputable def s52 : FSpec := ⟨[.imm true (.pair (.int .i64) (.pair (.slice 3 (.int .i64)) .unit)), .imm true (.pair (.int .i64) (.pair (.slice 3 (.int .i64)) .unit))], [.imm false .bool], fun x => S_laws_eqAttr x.1 x.2.1, true⟩
theorem ok52 : FOk Tryd.prog fa 52 s52 := fn_says env52 Tryd.func52 rfl fun x y h => ⟨0, (r52 0 x.1 x.2.1).trans h⟩
theorem enters52 : Enters Tryd.prog 52 := enters Tryd.func52 (by kernel_rfl) rfl

/-! ## loop.example/g00698/laws.eqMsg -/
noncomputable def E15 : Env := { tab := tab, sig := [(51, s51), (52, s52)], clos := [], live := [], eqs := [], inl := [] }
set_option maxRecDepth 100000 in
theorem r15 (N : Nat) (a0 : T11) (a1 : T11) : runF N E15 Tryd.f15 [.imm true (.pair (.int .i64) (.pair (.int .i64) (.pair (.int .i64) (.pair (.int .i64) (.pair (.int .i64) (.pair (.int .i64) (.pair (.int .i64) (.pair (.int .i64) (.pair (.pair (.int .i64) (.pair (.int .i64) (.pair (.int .i64) (.pair (.int .i64) (.pair (.int .i64) .unit))))) (.pair (.pair (.int .i64) (.pair (.slice 3 (.int .i64)) .unit)) .unit)))))))))), .imm true (.pair (.int .i64) (.pair (.int .i64) (.pair (.int .i64) (.pair (.int .i64) (.pair (.int .i64) (.pair (.int .i64) (.pair (.int .i64) (.pair (.int .i64) (.pair (.pair (.int .i64) (.pair (.int .i64) (.pair (.int .i64) (.pair (.int .i64) (.pair (.int .i64) .unit))))) (.pair (.pair (.int .i64) (.pair (.slice 3 (.int .i64)) .unit)) .unit))))))))))] [.imm false .bool] (a0, a1, ()) = p_laws_eqMsg N a0 a1 := by kernel_rfl
theorem env15 : EnvOk Tryd.prog (fa.at true) E15 := envOk mixed tabOk ⟨⟨enters51, ok51, fun _ => rfl⟩, ⟨enters52, ok52, fun _ => rfl⟩, trivial⟩ trivial trivial
noncomputable def s15 : FSpec := ⟨[.imm true (.pair (.int .i64) (.pair (.int .i64) (.pair (.int .i64) (.pair (.int .i64) (.pair (.int .i64) (.pair (.int .i64) (.pair (.int .i64) (.pair (.int .i64) (.pair (.pair (.int .i64) (.pair (.int .i64) (.pair (.int .i64) (.pair (.int .i64) (.pair (.int .i64) .unit))))) (.pair (.pair (.int .i64) (.pair (.slice 3 (.int .i64)) .unit)) .unit)))))))))), .imm true (.pair (.int .i64) (.pair (.int .i64) (.pair (.int .i64) (.pair (.int .i64) (.pair (.int .i64) (.pair (.int .i64) (.pair (.int .i64) (.pair (.int .i64) (.pair (.pair (.int .i64) (.pair (.int .i64) (.pair (.int .i64) (.pair (.int .i64) (.pair (.int .i64) .unit))))) (.pair (.pair (.int .i64) (.pair (.slice 3 (.int .i64)) .unit)) .unit))))))))))], [.imm false .bool], fun x => S_laws_eqMsg x.1 x.2.1, true⟩
theorem ok15 : FOk Tryd.prog fa 15 s15 := fn_says env15 Tryd.func15 rfl fun x y h => ⟨0, (r15 0 x.1 x.2.1).trans h⟩
theorem enters15 : Enters Tryd.prog 15 := enters Tryd.func15 (by kernel_rfl) rfl

/-! ## loop.example/g00698/laws.eqMsgS -/
noncomputable def E27 : Env := { tab := tab, sig := [(15, s15)], clos := [], live := [(0, [0, 1, 5], [])], eqs := [], inl := [] }
set_option maxRecDepth 100000 in
theorem r27 (N : Nat) (a0 : List T11) (a1 : List T11) : runF N E27 Tryd.f27 [.imm false (.slice 34 (.pair (.int .i64) (.pair (.int .i64) (.pair (.int .i64) (.pair (.int .i64) (.pair (.int .i64) (.pair (.int .i64) (.pair (.int .i64) (.pair (.int .i64) (.pair (.pair (.int .i64) (.pair (.int .i64) (.pair (.int .i64) (.pair (.int .i64) (.pair (.int .i64) .unit))))) (.pair (.pair (.int .i64) (.pair (.slice 3 (.int .i64)) .unit)) .unit))))))))))), .imm false (.slice 34 (.pair (.int .i64) (.pair (.int .i64) (.pair (.int .i64) (.pair (.int .i64) (.pair (.int .i64) (.pair (.int .i64) (.pair (.int .i64) (.pair (.int .i64) (.pair (.pair (.int .i64) (.pair (.int .i64) (.pair (.int .i64) (.pair (.int .i64) (.pair (.int .i64) .unit))))) (.pair (.pair (.int .i64) (.pair (.slice 3 (.int .i64)) .unit)) .unit)))))))))))] [.imm false .bool] (a0, a1, ()) = p_laws_eqMsgS N a0 a1 := by kernel_rfl
theorem env27 : EnvOk Tryd.prog (fa.at true) E27 := envOk mixed tabOk ⟨⟨enters15, ok15, fun _ => rfl⟩, trivial⟩ trivial trivial
noncomputable def s27 : FSpec := ⟨[.imm false (.slice 34 (.pair (.int .i64) (.pair (.int .i64) (.pair (.int .i64) (.pair (.int .i64) (.pair (.int .i64) (.pair (.int .i64) (.pair (.int .i64) (.pair (.int .i64) (.pair (.pair (.int .i64) (.pair (.int .i64) (.pair (.int .i64) (.pair (.int .i64) (.pair (.int .i64) .unit))))) (.pair (.pair (.int .i64) (.pair (.slice 3 (.int .i64)) .unit)) .unit))))))))))), .imm false (.slice 34 (.pair (.int .i64) (.pair (.int .i64) (.pair (.int .i64) (.pair (.int .i64) (.pair (.int .i64) (.pair (.int .i64) (.pair (.int .i64) (.pair (.int .i64) (.pair (.pair (.int .i64) (.pair (.int .i64) (.pair (.int .i64) (.pair (.int .i64) (.pair (.int .i64) .unit))))) (.pair (.pair (.int .i64) (.pair (.slice 3 (.int .i64)) .unit)) .unit)))))))))))], [.imm false .bool], fun x => S_laws_eqMsgS x.1 x.2.1, true⟩
theorem ok27 : FOk Tryd.prog fa 27 s27 := fn_says env27 Tryd.func27 rfl fun x y h => let ⟨N, hN⟩ := lim_some h; ⟨N, (r27 N x.1 x.2.1).trans hN⟩
theorem enters27 : Enters Tryd.prog 27 := enters Tryd.func27 (by kernel_rfl) rfl

/-! ## loop.example/g00698/laws.FnExactWireOf -/
noncomputable def E6 : Env := { tab := tab, sig := [(23, s23), (25, s25), (24, s24), (26, s26), (27, s27)], clos := [], live := [], eqs := [], inl := [], q := false }
set_option maxRecDepth 100000 in
theorem r6 (N : Nat) (a0 : Int) (a1 : List T11) : runF N E6 Tryd.f6 [.imm false (.int .i64), .imm false (.slice 28 (.pair (.int .i64) (.pair (.int .i64) (.pair (.int .i64) (.pair (.int .i64) (.pair (.int .i64) (.pair (.int .i64) (.pair (.int .i64) (.pair (.int .i64) (.pair (.pair (.int .i64) (.pair (.int .i64) (.pair (.int .i64) (.pair (.int .i64) (.pair (.int .i64) .unit))))) (.pair (.pair (.int .i64) (.pair (.slice 3 (.int .i64)) .unit)) .unit)))))))))))] [.imm false .bool] (a0, a1, ()) = p_laws_FnExactWireOf N a0 a1 := by kernel_rfl
theorem env6 : EnvOk Tryd.prog (fa.at false) E6 := envOk mixed tabOk ⟨⟨enters23, ok23, fun _ => rfl⟩, ⟨enters25, ok25, fun _ => rfl⟩, ⟨enters24, ok24, fun _ => rfl⟩, ⟨enters26, ok26, fun h => h⟩, ⟨enters27, ok27, fun _ => rfl⟩, trivial⟩ trivial trivial

end Go.Proofs.YtmnekhlgldljcaaDoor.Am
