/- Functions, as they run on data. No condition. -/
import Derived.Test.YtmnekhlgldljcaaDoorAmTab
import Derived.Test.YtmnekhlgldljcaaDoorAmQ
set_option linter.unusedVariables false
set_option maxRecDepth 100000
namespace Go.Proofs.YtmnekhlgldljcaaDoor.Am
open Go.AM Go.AM.P Go.Proofs Go.Shelf
/-! ## loop.example/g00698/laws.szIntS -/
noncomputable def E54 : Env := { tab := tab, sig := [], clos := [], live := [], eqs := [], inl := [] }
set_option maxRecDepth 100000 in
theorem r54 (N : Nat) (a0 : List Int) (a1 : Int) : runF N E54 Tryd.f54 [.imm false (.slice 3 (.int .i64)), .imm false (.int .i64)] [.imm false (.int .i64)] (a0, a1, ()) = p_laws_szIntS N a0 a1 := by kernel_rfl
theorem env54 : EnvOk Tryd.prog (fa.at true) E54 := envOk mixed tabOk trivial trivial trivial
noncomputable def s54 : FSpec := ⟨[.imm false (.slice 3 (.int .i64)), .imm false (.int .i64)], [.imm false (.int .i64)], fun x => S_laws_szIntS x.1 x.2.1, true⟩
theorem ok54 : FOk Tryd.prog fa 54 s54 := fn_says env54 Tryd.func54 rfl fun x y h => ⟨0, (r54 0 x.1 x.2.1).trans h⟩
theorem enters54 : Enters Tryd.prog 54 := enters Tryd.func54 (by kernel_rfl) rfl

/-! ## loop.example/g00698/laws.szAttr -/
noncomputable def E45 : Env := { tab := tab, sig := [(54, s54)], clos := [], live := [], eqs := [], inl := [] }
set_option maxRecDepth 100000 in
theorem r45 (N : Nat) (a0 : T6) (a1 : Int) : runF N E45 Tryd.f45 [.imm true (.pair (.int .i64) (.pair (.slice 3 (.int .i64)) .unit)), .imm false (.int .i64)] [.imm false (.int .i64)] (a0, a1, ()) = p_laws_szAttr N a0 a1 := by kernel_rfl
theorem env45 : EnvOk Tryd.prog (fa.at true) E45 := envOk mixed tabOk ⟨⟨enters54, ok54, fun _ => rfl⟩, trivial⟩ trivial trivial
noncomputable def s45 : FSpec := ⟨[.imm true (.pair (.int .i64) (.pair (.slice 3 (.int .i64)) .unit)), .imm false (.int .i64)], [.imm false (.int .i64)], fun x => S_laws_szAttr x.1 x.2.1, true⟩
theorem ok45 : FOk Tryd.prog fa 45 s45 := fn_says env45 Tryd.func45 rfl fun x y h => ⟨0, (r45 0 x.1 x.2.1).trans h⟩
theorem enters45 : Enters Tryd.prog 45 := enters Tryd.func45 (by kernel_rfl) rfl

/-! ## loop.example/g00698/laws.szMsg -/
noncomputable def E11 : Env := { tab := tab, sig := [(45, s45)], clos := [], live := [], eqs := [], inl := [] }
set_option maxRecDepth 100000 in
theorem r11 (N : Nat) (a0 : T11) (a1 : Int) : runF N E11 Tryd.f11 [.imm true (.pair (.int .i64) (.pair (.int .i64) (.pair (.int .i64) (.pair (.int .i64) (.pair (.int .i64) (.pair (.int .i64) (.pair (.int .i64) (.pair (.int .i64) (.pair (.pair (.int .i64) (.pair (.int .i64) (.pair (.int .i64) (.pair (.int .i64) (.pair (.int .i64) .unit))))) (.pair (.pair (.int .i64) (.pair (.slice 3 (.int .i64)) .unit)) .unit)))))))))), .imm false (.int .i64)] [.imm false (.int .i64)] (a0, a1, ()) = p_laws_szMsg N a0 a1 := by kernel_rfl
theorem env11 : EnvOk Tryd.prog (fa.at true) E11 := envOk mixed tabOk ⟨⟨enters45, ok45, fun _ => rfl⟩, trivial⟩ trivial trivial
noncomputable def s11 : FSpec := ⟨[.imm true (.pair (.int .i64) (.pair (.int .i64) (.pair (.int .i64) (.pair (.int .i64) (.pair (.int .i64) (.pair (.int .i64) (.pair (.int .i64) (.pair (.int .i64) (.pair (.pair (.int .i64) (.pair (.int .i64) (.pair (.int .i64) (.pair (.int .i64) (.pair (.int .i64) .unit))))) (.pair (.pair (.int .i64) (.pair (.slice 3 (.int .i64)) .unit)) .unit)))))))))), .imm false (.int .i64)], [.imm false (.int .i64)], fun x => S_laws_szMsg x.1 x.2.1, true⟩
theorem ok11 : FOk Tryd.prog fa 11 s11 := fn_says env11 Tryd.func11 rfl fun x y h => ⟨0, (r11 0 x.1 x.2.1).trans h⟩
theorem enters11 : Enters Tryd.prog 11 := enters Tryd.func11 (by kernel_rfl) rfl

/-! ## loop.example/g00698/laws.szMsgS -/
noncomputable def E23 : Env := { tab := tab, sig := [(11, s11)], clos := [], live := [(0, [0, 1, 5], [])], eqs := [], inl := [] }
set_option maxRecDepth 100000 in
theorem r23 (N : Nat) (a0 : List T11) (a1 : Int) : runF N E23 Tryd.f23 [.imm false (.slice 28 (.pair (.int .i64) (.pair (.int .i64) (.pair (.int .i64) (.pair (.int .i64) (.pair (.int .i64) (.pair (.int .i64) (.pair (.int .i64) (.pair (.int .i64) (.pair (.pair (.int .i64) (.pair (.int .i64) (.pair (.int .i64) (.pair (.int .i64) (.pair (.int .i64) .unit))))) (.pair (.pair (.int .i64) (.pair (.slice 3 (.int .i64)) .unit)) .unit))))))))))), .imm false (.int .i64)] [.imm false (.int .i64)] (a0, a1, ()) = p_laws_szMsgS N a0 a1 := by kernel_rfl
theorem env23 : EnvOk Tryd.prog (fa.at true) E23 := envOk mixed tabOk ⟨⟨enters11, ok11, fun _ => rfl⟩, trivial⟩ trivial trivial
noncomputable def s23 : FSpec := ⟨[.imm false (.slice 28 (.pair (.int .i64) (.pair (.int .i64) (.pair (.int .i64) (.pair (.int .i64) (.pair (.int .i64) (.pair (.int .i64) (.pair (.int .i64) (.pair (.int .i64) (.pair (.pair (.int .i64) (.pair (.int .i64) (.pair (.int .i64) (.pair (.int .i64) (.pair (.int .i64) .unit))))) (.pair (.pair (.int .i64) (.pair (.slice 3 (.int .i64)) .unit)) .unit))))))))))), .imm false (.int .i64)], [.imm false (.int .i64)], fun x => S_laws_szMsgS x.1 x.2.1, true⟩
theorem ok23 : FOk Tryd.prog fa 23 s23 := fn_says env23 Tryd.func23 rfl fun x y h => let ⟨N, hN⟩ := lim_some h; ⟨N, (r23 N x.1 x.2.1).trans hN⟩
theorem enters23 : Enters Tryd.prog 23 := enters Tryd.func23 (by kernel_rfl) rfl

/-! ## loop.example/g00698/laws.toCmd -/
noncomputable def E47 : Env := { tab := tab, sig := [], clos := [], live := [], eqs := [], inl := [] }
set_option maxRecDepth 100000 in
theorem r47 (N : Nat) (a0 : T2) : runF N E47 Tryd.f47 [.imm true (.pair (.int .i64) (.pair (.int .i64) (.pair (.int .i64) (.pair (.int .i64) (.pair (.int .i64) .unit)))))] [.imm true (.pair (.int .i64) (.pair (.int .i64) (.pair (.int .i64) (.pair (.int .i64) (.pair (.int .i64) .unit)))))] (a0, ()) = p_laws_toCmd N a0 := by kernel_rfl
theorem env47 : EnvOk Tryd.prog (fa.at true) E47 := envOk mixed tabOk trivial trivial trivial
noncomputable def s47 : FSpec := ⟨[.imm true (.pair (.int .i64) (.pair (.int .i64) (.pair (.int .i64) (.pair (.int .i64) (.pair (.int .i64) .unit)))))], [.imm true (.pair (.int .i64) (.pair (.int .i64) (.pair (.int .i64) (.pair (.int .i64) (.pair (.int .i64) .unit)))))], fun x => S_laws_toCmd x.1, true⟩
theorem ok47 : FOk Tryd.prog fa 47 s47 := fn_says env47 Tryd.func47 rfl fun x y h => ⟨0, (r47 0 x.1).trans h⟩
theorem enters47 : Enters Tryd.prog 47 := enters Tryd.func47 (by kernel_rfl) rfl

/-! ## loop.example/g00698/laws.toIntS -/
noncomputable def E58 : Env := { tab := tab, sig := [], clos := [], live := [(0, [0, 3, 4], [])], eqs := [], inl := [] }
set_option maxRecDepth 100000 in
theorem r58 (N : Nat) (a0 : List Int) : runF N E58 Tryd.f58 [.imm false (.slice 3 (.int .i64))] [.deep false (.slice 3 (.int .i64))] (a0, ()) = p_laws_toIntS N a0 := by kernel_rfl
theorem env58 : EnvOk Tryd.prog (fa.at true) E58 := envOk mixed tabOk trivial trivial trivial
noncomputable def s58 : FSpec := ⟨[.imm false (.slice 3 (.int .i64))], [.deep false (.slice 3 (.int .i64))], fun x => S_laws_toIntS x.1, true⟩
theorem ok58 : FOk Tryd.prog fa 58 s58 := fn_says env58 Tryd.func58 rfl fun x y h => let ⟨N, hN⟩ := lim_some h; ⟨N, (r58 N x.1).trans hN⟩
theorem enters58 : Enters Tryd.prog 58 := enters Tryd.func58 (by kernel_rfl) rfl

/-! ## loop.example/g00698/laws.toAttr -/
noncomputable def E48 : Env := { tab := tab, sig := [(58, s58)], clos := [], live := [], eqs := [], inl := [] }
set_option maxRecDepth 100000 in
theorem r48 (N : Nat) (a0 : T6) : runF N E48 Tryd.f48 [.imm true (.pair (.int .i64) (.pair (.slice 3 (.int .i64)) .unit))] [.deep true (.pair (.int .i64) (.pair (.slice 3 (.int .i64)) .unit))] (a0, ()) = p_laws_toAttr N a0 := by kernel_rfl
theorem env48 : EnvOk Tryd.prog (fa.at true) E48 := envOk mixed tabOk ⟨⟨enters58, ok58, fun _ => rfl⟩, trivial⟩ trivial trivial
noncomputable def s48 : FSpec := ⟨[.imm true (.pair (.int .i64) (.pair (.slice 3 (.int .i64)) .unit))], [.deep true (.pair (.int .i64) (.pair (.slice 3 (.int .i64)) .unit))], fun x => S_laws_toAttr x.1, true⟩
theorem ok48 : FOk Tryd.prog fa 48 s48 := fn_says env48 Tryd.func48 rfl fun x y h => ⟨0, (r48 0 x.1).trans h⟩
theorem enters48 : Enters Tryd.prog 48 := enters Tryd.func48 (by kernel_rfl) rfl

/-! ## loop.example/g00698/laws.toMsg -/
noncomputable def E13 : Env := { tab := tab, sig := [(47, s47), (48, s48)], clos := [], live := [], eqs := [], inl := [] }
set_option maxRecDepth 100000 in
theorem r13 (N : Nat) (a0 : T11) : runF N E13 Tryd.f13 [.imm true (.pair (.int .i64) (.pair (.int .i64) (.pair (.int .i64) (.pair (.int .i64) (.pair (.int .i64) (.pair (.int .i64) (.pair (.int .i64) (.pair (.int .i64) (.pair (.pair (.int .i64) (.pair (.int .i64) (.pair (.int .i64) (.pair (.int .i64) (.pair (.int .i64) .unit))))) (.pair (.pair (.int .i64) (.pair (.slice 3 (.int .i64)) .unit)) .unit))))))))))] [.deep true (.pair (.int .i64) (.pair (.int .i64) (.pair (.int .i64) (.pair (.int .i64) (.pair (.int .i64) (.pair (.int .i64) (.pair (.int .i64) (.pair (.int .i64) (.pair (.pair (.int .i64) (.pair (.int .i64) (.pair (.int .i64) (.pair (.int .i64) (.pair (.int .i64) .unit))))) (.pair (.pair (.int .i64) (.pair (.slice 3 (.int .i64)) .unit)) .unit))))))))))] (a0, ()) = p_laws_toMsg N a0 := by kernel_rfl
theorem env13 : EnvOk Tryd.prog (fa.at true) E13 := envOk mixed tabOk ⟨⟨enters47, ok47, fun _ => rfl⟩, ⟨enters48, ok48, fun _ => rfl⟩, trivial⟩ trivial trivial
noncomputable def s13 : FSpec := ⟨[.imm true (.pair (.int .i64) (.pair (.int .i64) (.pair (.int .i64) (.pair (.int .i64) (.pair (.int .i64) (.pair (.int .i64) (.pair (.int .i64) (.pair (.int .i64) (.pair (.pair (.int .i64) (.pair (.int .i64) (.pair (.int .i64) (.pair (.int .i64) (.pair (.int .i64) .unit))))) (.pair (.pair (.int .i64) (.pair (.slice 3 (.int .i64)) .unit)) .unit))))))))))], [.deep true (.pair (.int .i64) (.pair (.int .i64) (.pair (.int .i64) (.pair (.int .i64) (.pair (.int .i64) (.pair (.int .i64) (.pair (.int .i64) (.pair (.int .i64) (.pair (.pair (.int .i64) (.pair (.int .i64) (.pair (.int .i64) (.pair (.int .i64) (.pair (.int .i64) .unit))))) (.pair (.pair (.int .i64) (.pair (.slice 3 (.int .i64)) .unit)) .unit))))))))))], fun x => S_laws_toMsg x.1, true⟩
theorem ok13 : FOk Tryd.prog fa 13 s13 := fn_says env13 Tryd.func13 rfl fun x y h => ⟨0, (r13 0 x.1).trans h⟩
theorem enters13 : Enters Tryd.prog 13 := enters Tryd.func13 (by kernel_rfl) rfl

/-! ## loop.example/g00698/laws.toMsgS -/
noncomputable def E25 : Env := { tab := tab, sig := [(13, s13)], clos := [], live := [(0, [0, 3, 4], [])], eqs := [], inl := [] }
set_option maxRecDepth 100000 in
theorem r25 (N : Nat) (a0 : List T11) : runF N E25 Tryd.f25 [.imm false (.slice 28 (.pair (.int .i64) (.pair (.int .i64) (.pair (.int .i64) (.pair (.int .i64) (.pair (.int .i64) (.pair (.int .i64) (.pair (.int .i64) (.pair (.int .i64) (.pair (.pair (.int .i64) (.pair (.int .i64) (.pair (.int .i64) (.pair (.int .i64) (.pair (.int .i64) .unit))))) (.pair (.pair (.int .i64) (.pair (.slice 3 (.int .i64)) .unit)) .unit)))))))))))] [.deep false (.slice 34 (.pair (.int .i64) (.pair (.int .i64) (.pair (.int .i64) (.pair (.int .i64) (.pair (.int .i64) (.pair (.int .i64) (.pair (.int .i64) (.pair (.int .i64) (.pair (.pair (.int .i64) (.pair (.int .i64) (.pair (.int .i64) (.pair (.int .i64) (.pair (.int .i64) .unit))))) (.pair (.pair (.int .i64) (.pair (.slice 3 (.int .i64)) .unit)) .unit)))))))))))] (a0, ()) = p_laws_toMsgS N a0 := by kernel_rfl
theorem env25 : EnvOk Tryd.prog (fa.at true) E25 := envOk mixed tabOk ⟨⟨enters13, ok13, fun _ => rfl⟩, trivial⟩ trivial trivial
noncomputable def s25 : FSpec := ⟨[.imm false (.slice 28 (.pair (.int .i64) (.pair (.int .i64) (.pair (.int .i64) (.pair (.int .i64) (.pair (.int .i64) (.pair (.int .i64) (.pair (.int .i64) (.pair (.int .i64) (.pair (.pair (.int .i64) (.pair (.int .i64) (.pair (.int .i64) (.pair (.int .i64) (.pair (.int .i64) .unit))))) (.pair (.pair (.int .i64) (.pair (.slice 3 (.int .i64)) .unit)) .unit)))))))))))], [.deep false (.slice 34 (.pair (.int .i64) (.pair (.int .i64) (.pair (.int .i64) (.pair (.int .i64) (.pair (.int .i64) (.pair (.int .i64) (.pair (.int .i64) (.pair (.int .i64) (.pair (.pair (.int .i64) (.pair (.int .i64) (.pair (.int .i64) (.pair (.int .i64) (.pair (.int .i64) .unit))))) (.pair (.pair (.int .i64) (.pair (.slice 3 (.int .i64)) .unit)) .unit)))))))))))], fun x => S_laws_toMsgS x.1, true⟩
theorem ok25 : FOk Tryd.prog fa 25 s25 := fn_says env25 Tryd.func25 rfl fun x y h => let ⟨N, hN⟩ := lim_some h; ⟨N, (r25 N x.1).trans hN⟩
theorem enters25 : Enters Tryd.prog 25 := enters Tryd.func25 (by kernel_rfl) rfl

/-! ## loop.example/g00698/spec.IsGroup -/
noncomputable def E67 : Env := { tab := tab, sig := [], clos := [], live := [], eqs := [], inl := [] }
set_option maxRecDepth 100000 in
theorem r67 (N : Nat) (a0 : Int) : runF N E67 Tryd.f67 [.imm false (.int .i64)] [.imm false .bool] (a0, ()) = p_spec_IsGroup N a0 := by kernel_rfl
theorem env67 : EnvOk Tryd.prog (fa.at true) E67 := envOk mixed tabOk trivial trivial trivial
noncomputable def s67 : FSpec := ⟨[.imm false (.int .i64)], [.imm false .bool], fun x => S_spec_IsGroup x.1, true⟩
theorem ok67 : FOk Tryd.prog fa 67 s67 := fn_says env67 Tryd.func67 rfl fun x y h => ⟨0, (r67 0 x.1).trans h⟩
theorem enters67 : Enters Tryd.prog 67 := enters Tryd.func67 (by kernel_rfl) rfl

/-! ## loop.example/g00698/spec.l1In -/
noncomputable def E84 : Env := { tab := tab, sig := [], clos := [], live := [], eqs := [], inl := [] }
set_option maxRecDepth 100000 in
theorem r84 (N : Nat) (a0 : Int) (a1 : Int) (a2 : Int) : runF N E84 Tryd.f84 [.imm false (.int .i64), .imm false (.int .i64), .imm false (.int .i64)] [.imm false .bool] (a0, a1, a2, ()) = p_spec_l1In N a0 a1 a2 := by kernel_rfl
theorem env84 : EnvOk Tryd.prog (fa.at true) E84 := envOk mixed tabOk trivial trivial trivial
noncomputable def s84 : FSpec := ⟨[.imm false (.int .i64), .imm false (.int .i64), .imm false (.int .i64)], [.imm false .bool], fun x => S_spec_l1In x.1 x.2.1 x.2.2.1, true⟩
theorem ok84 : FOk Tryd.prog fa 84 s84 := fn_says env84 Tryd.func84 rfl fun x y h => ⟨0, (r84 0 x.1 x.2.1 x.2.2.1).trans h⟩
theorem enters84 : Enters Tryd.prog 84 := enters Tryd.func84 (by kernel_rfl) rfl

/-! ## loop.example/g00698/spec.l3Inst -/
noncomputable def E116 : Env := { tab := tab, sig := [(84, s84)], clos := [], live := [], eqs := [], inl := [] }
set_option maxRecDepth 100000 in
theorem r116 (N : Nat) (a0 : Int) (a1 : Int) (a2 : Int) : runF N E116 Tryd.f116 [.imm false (.int .i64), .imm false (.int .i64), .imm false (.int .i64)] [.imm false .bool] (a0, a1, a2, ()) = p_spec_l3Inst N a0 a1 a2 := by kernel_rfl
theorem env116 : EnvOk Tryd.prog (fa.at true) E116 := envOk mixed tabOk ⟨⟨enters84, ok84, fun _ => rfl⟩, trivial⟩ trivial trivial
noncomputable def s116 : FSpec := ⟨[.imm false (.int .i64), .imm false (.int .i64), .imm false (.int .i64)], [.imm false .bool], fun x => S_spec_l3Inst x.1 x.2.1 x.2.2.1, true⟩
theorem ok116 : FOk Tryd.prog fa 116 s116 := fn_says env116 Tryd.func116 rfl fun x y h => ⟨0, (r116 0 x.1 x.2.1 x.2.2.1).trans h⟩
theorem enters116 : Enters Tryd.prog 116 := enters Tryd.func116 (by kernel_rfl) rfl

/-! ## loop.example/g00698/spec.l3None -/
noncomputable def E126 : Env := { tab := tab, sig := [], clos := [], live := [], eqs := [], inl := [] }
set_option maxRecDepth 100000 in
theorem r126 (N : Nat) (a0 : Int) : runF N E126 Tryd.f126 [.imm false (.int .i64)] [.deep true (.pair (.int .i64) (.pair (.slice 3 (.int .i64)) .unit))] (a0, ()) = p_spec_l3None N a0 := by kernel_rfl
theorem env126 : EnvOk Tryd.prog (fa.at true) E126 := envOk mixed tabOk trivial trivial trivial
noncomputable def s126 : FSpec := ⟨[.imm false (.int .i64)], [.deep true (.pair (.int .i64) (.pair (.slice 3 (.int .i64)) .unit))], fun x => S_spec_l3None x.1, true⟩
theorem ok126 : FOk Tryd.prog fa 126 s126 := fn_says env126 Tryd.func126 rfl fun x y h => ⟨0, (r126 0 x.1).trans h⟩
theorem enters126 : Enters Tryd.prog 126 := enters Tryd.func126 (by kernel_rfl) rfl

/-! ## loop.example/g00698/spec.l1Same -/
noncomputable def E153 : Env := { tab := tab, sig := [], clos := [], live := [(0, [0, 1, 12, 13], [])], eqs := [], inl := [] }
set_option maxRecDepth 100000 in
theorem r153 (N : Nat) (a0 : List Int) (a1 : List Int) : runF N E153 Tryd.f153 [.imm false (.slice 3 (.int .i64)), .imm false (.slice 3 (.int .i64))] [.imm false .bool] (a0, a1, ()) = p_spec_l1Same N a0 a1 := by kernel_rfl
theorem env153 : EnvOk Tryd.prog (fa.at true) E153 := envOk mixed tabOk trivial trivial trivial
noncomputable def s153 : FSpec := ⟨[.imm false (.slice 3 (.int .i64)), .imm false (.slice 3 (.int .i64))], [.imm false .bool], fun x => S_spec_l1Same x.1 x.2.1, true⟩
theorem ok153 : FOk Tryd.prog fa 153 s153 := fn_says env153 Tryd.func153 rfl fun x y h => let ⟨N, hN⟩ := lim_some h; ⟨N, (r153 N x.1 x.2.1).trans hN⟩
theorem enters153 : Enters Tryd.prog 153 := enters Tryd.func153 (by kernel_rfl) rfl

/-! ## loop.example/g00698/spec.SameAttr -/
noncomputable def E125 : Env := { tab := tab, sig := [(153, s153)], clos := [], live := [], eqs := [], inl := [] }
set_option maxRecDepth 100000 in
theorem r125 (N : Nat) (a0 : T6) (a1 : T6) : runF N E125 Tryd.f125 [.imm true (.pair (.int .i64) (.pair (.slice 3 (.int .i64)) .unit)), .imm true (.pair (.int .i64) (.pair (.slice 3 (.int .i64)) .unit))] [.imm false .bool] (a0, a1, ()) = p_spec_SameAttr N a0 a1 := by kernel_rfl
theorem env125 : EnvOk Tryd.prog (fa.at true) E125 := envOk mixed tabOk ⟨⟨enters153, ok153, fun _ => rfl⟩, trivial⟩ trivial trivial
noncomputable def s125 : FSpec := ⟨[.imm true (.pair (.int .i64) (.pair (.slice 3 (.int .i64)) .unit)), .imm true (.pair (.int .i64) (.pair (.slice 3 (.int .i64)) .unit))], [.imm false .bool], fun x => S_spec_SameAttr x.1 x.2.1, true⟩
theorem ok125 : FOk Tryd.prog fa 125 s125 := fn_says env125 Tryd.func125 rfl fun x y h => ⟨0, (r125 0 x.1 x.2.1).trans h⟩
theorem enters125 : Enters Tryd.prog 125 := enters Tryd.func125 (by kernel_rfl) rfl

/-! ## loop.example/g00698/spec.l2Account -/
noncomputable def E171 : Env := { tab := tab, sig := [(84, s84)], clos := [], live := [], eqs := [], inl := [] }
set_option maxRecDepth 100000 in
theorem r171 (N : Nat) (a0 : Int) : runF N E171 Tryd.f171 [.imm false (.int .i64)] [.imm false .bool] (a0, ()) = p_spec_l2Account N a0 := by kernel_rfl
theorem env171 : EnvOk Tryd.prog (fa.at true) E171 := envOk mixed tabOk ⟨⟨enters84, ok84, fun _ => rfl⟩, trivial⟩ trivial trivial
noncomputable def s171 : FSpec := ⟨[.imm false (.int .i64)], [.imm false .bool], fun x => S_spec_l2Account x.1, true⟩
theorem ok171 : FOk Tryd.prog fa 171 s171 := fn_says env171 Tryd.func171 rfl fun x y h => ⟨0, (r171 0 x.1).trans h⟩
theorem enters171 : Enters Tryd.prog 171 := enters Tryd.func171 (by kernel_rfl) rfl

/-! ## loop.example/g00698/spec.l2Code -/
noncomputable def E152 : Env := { tab := tab, sig := [(171, s171), (84, s84)], clos := [], live := [], eqs := [], inl := [] }
set_option maxRecDepth 100000 in
theorem r152 (N : Nat) (a0 : T2) : runF N E152 Tryd.f152 [.imm true (.pair (.int .i64) (.pair (.int .i64) (.pair (.int .i64) (.pair (.int .i64) (.pair (.int .i64) .unit)))))] [.imm false (.int .i64)] (a0, ()) = p_spec_l2Code N a0 := by kernel_rfl
theorem env152 : EnvOk Tryd.prog (fa.at true) E152 := envOk mixed tabOk ⟨⟨enters171, ok171, fun _ => rfl⟩, ⟨enters84, ok84, fun _ => rfl⟩, trivial⟩ trivial trivial
noncomputable def s152 : FSpec := ⟨[.imm true (.pair (.int .i64) (.pair (.int .i64) (.pair (.int .i64) (.pair (.int .i64) (.pair (.int .i64) .unit)))))], [.imm false (.int .i64)], fun x => S_spec_l2Code x.1, true⟩
theorem ok152 : FOk Tryd.prog fa 152 s152 := fn_says env152 Tryd.func152 rfl fun x y h => ⟨0, (r152 0 x.1).trans h⟩
theorem enters152 : Enters Tryd.prog 152 := enters Tryd.func152 (by kernel_rfl) rfl

/-! ## loop.example/g00698/spec.GoodCmd -/
noncomputable def E124 : Env := { tab := tab, sig := [(152, s152)], clos := [], live := [], eqs := [(31, 5)], inl := [] }
set_option maxRecDepth 100000 in
theorem r124 (N : Nat) (a0 : T2) : runF N E124 Tryd.f124 [.imm true (.pair (.int .i64) (.pair (.int .i64) (.pair (.int .i64) (.pair (.int .i64) (.pair (.int .i64) .unit)))))] [.imm false .bool] (a0, ()) = p_spec_GoodCmd N a0 := by kernel_rfl
theorem env124 : EnvOk Tryd.prog (fa.at true) E124 := envOk mixed tabOk ⟨⟨enters152, ok152, fun _ => rfl⟩, trivial⟩ trivial ⟨eq31, trivial⟩
noncomputable def s124 : FSpec := ⟨[.imm true (.pair (.int .i64) (.pair (.int .i64) (.pair (.int .i64) (.pair (.int .i64) (.pair (.int .i64) .unit)))))], [.imm false .bool], fun x => S_spec_GoodCmd x.1, true⟩
theorem ok124 : FOk Tryd.prog fa 124 s124 := fn_says env124 Tryd.func124 rfl fun x y h => ⟨0, (r124 0 x.1).trans h⟩
theorem enters124 : Enters Tryd.prog 124 := enters Tryd.func124 (by kernel_rfl) rfl

/-! ## loop.example/g00698/spec.l1All -/
noncomputable def E151 : Env := { tab := tab, sig := [(84, s84)], clos := [], live := [(0, [1, 2, 9, 10, 11], [])], eqs := [], inl := [] }
set_option maxRecDepth 100000 in
theorem r151 (N : Nat) (a0 : List Int) (a1 : Int) (a2 : Int) : runF N E151 Tryd.f151 [.imm false (.slice 3 (.int .i64)), .imm false (.int .i64), .imm false (.int .i64)] [.imm false .bool] (a0, a1, a2, ()) = p_spec_l1All N a0 a1 a2 := by kernel_rfl
theorem env151 : EnvOk Tryd.prog (fa.at true) E151 := envOk mixed tabOk ⟨⟨enters84, ok84, fun _ => rfl⟩, trivial⟩ trivial trivial
noncomputable def s151 : FSpec := ⟨[.imm false (.slice 3 (.int .i64)), .imm false (.int .i64), .imm false (.int .i64)], [.imm false .bool], fun x => S_spec_l1All x.1 x.2.1 x.2.2.1, true⟩
theorem ok151 : FOk Tryd.prog fa 151 s151 := fn_says env151 Tryd.func151 rfl fun x y h => let ⟨N, hN⟩ := lim_some h; ⟨N, (r151 N x.1 x.2.1 x.2.2.1).trans hN⟩
theorem enters151 : Enters Tryd.prog 151 := enters Tryd.func151 (by kernel_rfl) rfl

/-! ## loop.example/g00698/spec.l3Attr -/
noncomputable def E123 : Env := { tab := tab, sig := [(84, s84), (151, s151)], clos := [], live := [], eqs := [], inl := [] }
set_option maxRecDepth 100000 in
theorem r123 (N : Nat) (a0 : Int) (a1 : T6) : runF N E123 Tryd.f123 [.imm false (.int .i64), .imm true (.pair (.int .i64) (.pair (.slice 3 (.int .i64)) .unit))] [.imm false .bool] (a0, a1, ()) = p_spec_l3Attr N a0 a1 := by kernel_rfl
theorem env123 : EnvOk Tryd.prog (fa.at true) E123 := envOk mixed tabOk ⟨⟨enters84, ok84, fun _ => rfl⟩, ⟨enters151, ok151, fun _ => rfl⟩, trivial⟩ trivial trivial
noncomputable def s123 : FSpec := ⟨[.imm false (.int .i64), .imm true (.pair (.int .i64) (.pair (.slice 3 (.int .i64)) .unit))], [.imm false .bool], fun x => S_spec_l3Attr x.1 x.2.1, true⟩
theorem ok123 : FOk Tryd.prog fa 123 s123 := fn_says env123 Tryd.func123 rfl fun x y h => ⟨0, (r123 0 x.1 x.2.1).trans h⟩
theorem enters123 : Enters Tryd.prog 123 := enters Tryd.func123 (by kernel_rfl) rfl

/-! ## loop.example/g00698/spec.l4Row -/
noncomputable def E122 : Env := { tab := tab, sig := [(84, s84), (126, s126), (125, s125), (124, s124), (123, s123)], clos := [], live := [], eqs := [(31, 5)], inl := [] }
set_option maxRecDepth 100000 in
theorem r122 (N : Nat) (a0 : Int) (a1 : T7) : runF N E122 Tryd.f122 [.imm false (.int .i64), .imm true (.pair (.int .i64) (.pair (.int .i64) (.pair (.int .i64) (.pair (.pair (.int .i64) (.pair (.int .i64) (.pair (.int .i64) (.pair (.int .i64) (.pair (.int .i64) .unit))))) (.pair (.pair (.int .i64) (.pair (.slice 3 (.int .i64)) .unit)) .unit)))))] [.imm false .bool] (a0, a1, ()) = p_spec_l4Row N a0 a1 := by kernel_rfl
theorem env122 : EnvOk Tryd.prog (fa.at true) E122 := envOk mixed tabOk ⟨⟨enters84, ok84, fun _ => rfl⟩, ⟨enters126, ok126, fun _ => rfl⟩, ⟨enters125, ok125, fun _ => rfl⟩, ⟨enters124, ok124, fun _ => rfl⟩, ⟨enters123, ok123, fun _ => rfl⟩, trivial⟩ trivial ⟨eq31, trivial⟩
noncomputable def s122 : FSpec := ⟨[.imm false (.int .i64), .imm true (.pair (.int .i64) (.pair (.int .i64) (.pair (.int .i64) (.pair (.pair (.int .i64) (.pair (.int .i64) (.pair (.int .i64) (.pair (.int .i64) (.pair (.int .i64) .unit))))) (.pair (.pair (.int .i64) (.pair (.slice 3 (.int .i64)) .unit)) .unit)))))], [.imm false .bool], fun x => S_spec_l4Row x.1 x.2.1, true⟩
theorem ok122 : FOk Tryd.prog fa 122 s122 := fn_says env122 Tryd.func122 rfl fun x y h => ⟨0, (r122 0 x.1 x.2.1).trans h⟩
theorem enters122 : Enters Tryd.prog 122 := enters Tryd.func122 (by kernel_rfl) rfl

/-! ## loop.example/g00698/spec.GoodMsg -/
noncomputable def E97 : Env := { tab := tab, sig := [(67, s67), (84, s84), (116, s116), (122, s122), (123, s123), (124, s124), (126, s126), (125, s125)], clos := [], live := [], eqs := [(31, 5)], inl := [] }
set_option maxRecDepth 100000 in
theorem r97 (N : Nat) (a0 : Int) (a1 : T11) : runF N E97 Tryd.f97 [.imm false (.int .i64), .imm true (.pair (.int .i64) (.pair (.int .i64) (.pair (.int .i64) (.pair (.int .i64) (.pair (.int .i64) (.pair (.int .i64) (.pair (.int .i64) (.pair (.int .i64) (.pair (.pair (.int .i64) (.pair (.int .i64) (.pair (.int .i64) (.pair (.int .i64) (.pair (.int .i64) .unit))))) (.pair (.pair (.int .i64) (.pair (.slice 3 (.int .i64)) .unit)) .unit))))))))))] [.imm false .bool] (a0, a1, ()) = p_spec_GoodMsg N a0 a1 := by kernel_rfl
theorem env97 : EnvOk Tryd.prog (fa.at true) E97 := envOk mixed tabOk ⟨⟨enters67, ok67, fun _ => rfl⟩, ⟨enters84, ok84, fun _ => rfl⟩, ⟨enters116, ok116, fun _ => rfl⟩, ⟨enters122, ok122, fun _ => rfl⟩, ⟨enters123, ok123, fun _ => rfl⟩, ⟨enters124, ok124, fun _ => rfl⟩, ⟨enters126, ok126, fun _ => rfl⟩, ⟨enters125, ok125, fun _ => rfl⟩, trivial⟩ trivial ⟨eq31, trivial⟩
noncomputable def s97 : FSpec := ⟨[.imm false (.int .i64), .imm true (.pair (.int .i64) (.pair (.int .i64) (.pair (.int .i64) (.pair (.int .i64) (.pair (.int .i64) (.pair (.int .i64) (.pair (.int .i64) (.pair (.int .i64) (.pair (.pair (.int .i64) (.pair (.int .i64) (.pair (.int .i64) (.pair (.int .i64) (.pair (.int .i64) .unit))))) (.pair (.pair (.int .i64) (.pair (.slice 3 (.int .i64)) .unit)) .unit))))))))))], [.imm false .bool], fun x => S_spec_GoodMsg x.1 x.2.1, true⟩
theorem ok97 : FOk Tryd.prog fa 97 s97 := fn_says env97 Tryd.func97 rfl fun x y h => ⟨0, (r97 0 x.1 x.2.1).trans h⟩
theorem enters97 : Enters Tryd.prog 97 := enters Tryd.func97 (by kernel_rfl) rfl

/-! ## loop.example/g00698/spec.l7Words -/
noncomputable def E98 : Env := { tab := tab, sig := [], clos := [], live := [], eqs := [], inl := [] }
set_option maxRecDepth 100000 in
theorem r98 (N : Nat)  : runF N E98 Tryd.f98 [] [.deep false (.slice 9 .str)] (()) = p_spec_l7Words N  := by kernel_rfl
theorem env98 : EnvOk Tryd.prog (fa.at true) E98 := envOk mixed tabOk trivial trivial trivial
noncomputable def s98 : FSpec := ⟨[], [.deep false (.slice 9 .str)], fun x => S_spec_l7Words , true⟩
theorem ok98 : FOk Tryd.prog fa 98 s98 := fn_says env98 Tryd.func98 rfl fun x y h => ⟨0, (r98 0 ).trans h⟩
theorem enters98 : Enters Tryd.prog 98 := enters Tryd.func98 (by kernel_rfl) rfl

/-! ## loop.example/g00698/spec.l1Num -/
noncomputable def sk86 (k : Nat) : FSpec := ⟨[.imm false (.int .i64)], [.imm false .str], fun x => p_spec_l1Num k x.1, true⟩
noncomputable def E86 (N : Nat) : Env := { tab := tab, sig := [(86, sk86 N)], clos := [], live := [], eqs := [], inl := [] }
set_option maxRecDepth 100000 in
theorem r86 (N : Nat) (a0 : Int) : runF N (E86 N) Tryd.f86 [.imm false (.int .i64)] [.imm false .str] (a0, ()) = p_spec_l1Num (N + 1) a0 := by kernel_rfl
theorem enters86 : Enters Tryd.prog 86 := enters Tryd.func86 (by kernel_rfl) rfl
theorem env86 (k : Nat) (h : FOk Tryd.prog fa 86 (sk86 k)) : EnvOk Tryd.prog (fa.at true) (E86 k) := envOk mixed tabOk ⟨⟨enters86, h, fun _ => rfl⟩, trivial⟩ trivial trivial
noncomputable def s86 : FSpec := ⟨[.imm false (.int .i64)], [.imm false .str], fun x => S_spec_l1Num x.1, true⟩
theorem okk86 : ∀ k, FOk Tryd.prog fa 86 (sk86 k)
  | 0 => fok_none fun _ => rfl
  | k + 1 => fn_says (s := sk86 (k + 1)) (env86 k (okk86 k)) Tryd.func86 rfl fun x y h => ⟨k, (r86 k x.1).trans h⟩
theorem ok86 : FOk Tryd.prog fa 86 s86 := fok_sup okk86 fun x y h => lim_some h

/-! ## loop.example/g00698/spec.l2Text -/
noncomputable def E99 : Env := { tab := tab, sig := [(86, s86)], clos := [], live := [], eqs := [], inl := [] }
set_option maxRecDepth 100000 in
theorem r99 (N : Nat) (a0 : T2) : runF N E99 Tryd.f99 [.imm true (.pair (.int .i64) (.pair (.int .i64) (.pair (.int .i64) (.pair (.int .i64) (.pair (.int .i64) .unit)))))] [.imm false .str] (a0, ()) = p_spec_l2Text N a0 := by kernel_rfl
theorem env99 : EnvOk Tryd.prog (fa.at true) E99 := envOk mixed tabOk ⟨⟨enters86, ok86, fun _ => rfl⟩, trivial⟩ trivial trivial
noncomputable def s99 : FSpec := ⟨[.imm true (.pair (.int .i64) (.pair (.int .i64) (.pair (.int .i64) (.pair (.int .i64) (.pair (.int .i64) .unit)))))], [.imm false .str], fun x => S_spec_l2Text x.1, true⟩
theorem ok99 : FOk Tryd.prog fa 99 s99 := fn_says env99 Tryd.func99 rfl fun x y h => ⟨0, (r99 0 x.1).trans h⟩
theorem enters99 : Enters Tryd.prog 99 := enters Tryd.func99 (by kernel_rfl) rfl

/-! ## loop.example/g00698/spec.l3List -/
noncomputable def E93 : Env := { tab := tab, sig := [(86, s86)], clos := [], live := [(0, [3, 6, 7, 8], [])], eqs := [], inl := [] }
set_option maxRecDepth 100000 in
theorem r93 (N : Nat) (a0 : List Int) : runF N E93 Tryd.f93 [.imm false (.slice 3 (.int .i64))] [.imm false .str] (a0, ()) = p_spec_l3List N a0 := by kernel_rfl
theorem env93 : EnvOk Tryd.prog (fa.at true) E93 := envOk mixed tabOk ⟨⟨enters86, ok86, fun _ => rfl⟩, trivial⟩ trivial trivial
noncomputable def s93 : FSpec := ⟨[.imm false (.slice 3 (.int .i64))], [.imm false .str], fun x => S_spec_l3List x.1, true⟩
theorem ok93 : FOk Tryd.prog fa 93 s93 := fn_says env93 Tryd.func93 rfl fun x y h => let ⟨N, hN⟩ := lim_some h; ⟨N, (r93 N x.1).trans hN⟩
theorem enters93 : Enters Tryd.prog 93 := enters Tryd.func93 (by kernel_rfl) rfl

/-! ## loop.example/g00698/spec.l3Text -/
noncomputable def E100 : Env := { tab := tab, sig := [(86, s86), (93, s93)], clos := [], live := [], eqs := [], inl := [] }
set_option maxRecDepth 100000 in
theorem r100 (N : Nat) (a0 : T6) : runF N E100 Tryd.f100 [.imm true (.pair (.int .i64) (.pair (.slice 3 (.int .i64)) .unit))] [.imm false .str] (a0, ()) = p_spec_l3Text N a0 := by kernel_rfl
theorem env100 : EnvOk Tryd.prog (fa.at true) E100 := envOk mixed tabOk ⟨⟨enters86, ok86, fun _ => rfl⟩, ⟨enters93, ok93, fun _ => rfl⟩, trivial⟩ trivial trivial
noncomputable def s100 : FSpec := ⟨[.imm true (.pair (.int .i64) (.pair (.slice 3 (.int .i64)) .unit))], [.imm false .str], fun x => S_spec_l3Text x.1, true⟩
theorem ok100 : FOk Tryd.prog fa 100 s100 := fn_says env100 Tryd.func100 rfl fun x y h => ⟨0, (r100 0 x.1).trans h⟩
theorem enters100 : Enters Tryd.prog 100 := enters Tryd.func100 (by kernel_rfl) rfl

/-! ## loop.example/g00698/spec.MsgText -/
noncomputable def E63 : Env := { tab := tab, sig := [(97, s97), (98, s98), (86, s86), (99, s99), (100, s100)], clos := [], live := [(0, [3, 6, 32, 33, 34], [])], eqs := [], inl := [] }
set_option maxRecDepth 100000 in
theorem r63 (N : Nat) (a0 : Int) (a1 : T11) : runF N E63 Tryd.f63 [.imm false (.int .i64), .imm true (.pair (.int .i64) (.pair (.int .i64) (.pair (.int .i64) (.pair (.int .i64) (.pair (.int .i64) (.pair (.int .i64) (.pair (.int .i64) (.pair (.int .i64) (.pair (.pair (.int .i64) (.pair (.int .i64) (.pair (.int .i64) (.pair (.int .i64) (.pair (.int .i64) .unit))))) (.pair (.pair (.int .i64) (.pair (.slice 3 (.int .i64)) .unit)) .unit))))))))))] [.imm false .str, .imm false .bool] (a0, a1, ()) = p_spec_MsgText N a0 a1 := by kernel_rfl
theorem env63 : EnvOk Tryd.prog (fa.at true) E63 := envOk mixed tabOk ⟨⟨enters97, ok97, fun _ => rfl⟩, ⟨enters98, ok98, fun _ => rfl⟩, ⟨enters86, ok86, fun _ => rfl⟩, ⟨enters99, ok99, fun _ => rfl⟩, ⟨enters100, ok100, fun _ => rfl⟩, trivial⟩ trivial trivial
noncomputable def s63 : FSpec := ⟨[.imm false (.int .i64), .imm true (.pair (.int .i64) (.pair (.int .i64) (.pair (.int .i64) (.pair (.int .i64) (.pair (.int .i64) (.pair (.int .i64) (.pair (.int .i64) (.pair (.int .i64) (.pair (.pair (.int .i64) (.pair (.int .i64) (.pair (.int .i64) (.pair (.int .i64) (.pair (.int .i64) .unit))))) (.pair (.pair (.int .i64) (.pair (.slice 3 (.int .i64)) .unit)) .unit))))))))))], [.imm false .str, .imm false .bool], fun x => S_spec_MsgText x.1 x.2.1, true⟩
theorem ok63 : FOk Tryd.prog fa 63 s63 := fn_says env63 Tryd.func63 rfl fun x y h => let ⟨N, hN⟩ := lim_some h; ⟨N, (r63 N x.1 x.2.1).trans hN⟩
theorem enters63 : Enters Tryd.prog 63 := enters Tryd.func63 (by kernel_rfl) rfl

/-! ## loop.example/g00698/spec.l21Sum -/
noncomputable def E101 : Env := { tab := tab, sig := [], clos := [], live := [(0, [0, 3, 4], [])], eqs := [], inl := [] }
set_option maxRecDepth 100000 in
theorem r101 (N : Nat) (a0 : ByteArray) : runF N E101 Tryd.f101 [.imm false .str] [.imm false (.int .i64)] (a0, ()) = p_spec_l21Sum N a0 := by kernel_rfl
theorem env101 : EnvOk Tryd.prog (fa.at true) E101 := envOk mixed tabOk trivial trivial trivial
noncomputable def s101 : FSpec := ⟨[.imm false .str], [.imm false (.int .i64)], fun x => S_spec_l21Sum x.1, true⟩
theorem ok101 : FOk Tryd.prog fa 101 s101 := fn_says env101 Tryd.func101 rfl fun x y h => let ⟨N, hN⟩ := lim_some h; ⟨N, (r101 N x.1).trans hN⟩
theorem enters101 : Enters Tryd.prog 101 := enters Tryd.func101 (by kernel_rfl) rfl

/-! ## loop.example/g00698/spec.l21Frame -/
noncomputable def E64 : Env := { tab := tab, sig := [(101, s101)], clos := [], live := [], eqs := [], inl := [] }
set_option maxRecDepth 100000 in
theorem r64 (N : Nat) (a0 : ByteArray) : runF N E64 Tryd.f64 [.imm false .str] [.imm false .str] (a0, ()) = p_spec_l21Frame N a0 := by kernel_rfl
theorem env64 : EnvOk Tryd.prog (fa.at true) E64 := envOk mixed tabOk ⟨⟨enters101, ok101, fun _ => rfl⟩, trivial⟩ trivial trivial
noncomputable def s64 : FSpec := ⟨[.imm false .str], [.imm false .str], fun x => S_spec_l21Frame x.1, true⟩
theorem ok64 : FOk Tryd.prog fa 64 s64 := fn_says env64 Tryd.func64 rfl fun x y h => ⟨0, (r64 0 x.1).trans h⟩
theorem enters64 : Enters Tryd.prog 64 := enters Tryd.func64 (by kernel_rfl) rfl

/-! ## loop.example/g00698/spec.MsgBytes -/
noncomputable def E21 : Env := { tab := tab, sig := [(63, s63), (64, s64)], clos := [], live := [], eqs := [], inl := [] }
set_option maxRecDepth 100000 in
theorem r21 (N : Nat) (a0 : Int) (a1 : T11) : runF N E21 Tryd.f21 [.imm false (.int .i64), .imm true (.pair (.int .i64) (.pair (.int .i64) (.pair (.int .i64) (.pair (.int .i64) (.pair (.int .i64) (.pair (.int .i64) (.pair (.int .i64) (.pair (.int .i64) (.pair (.pair (.int .i64) (.pair (.int .i64) (.pair (.int .i64) (.pair (.int .i64) (.pair (.int .i64) .unit))))) (.pair (.pair (.int .i64) (.pair (.slice 3 (.int .i64)) .unit)) .unit))))))))))] [.imm false .str, .imm false .bool] (a0, a1, ()) = p_spec_MsgBytes N a0 a1 := by kernel_rfl
theorem env21 : EnvOk Tryd.prog (fa.at true) E21 := envOk mixed tabOk ⟨⟨enters63, ok63, fun _ => rfl⟩, ⟨enters64, ok64, fun _ => rfl⟩, trivial⟩ trivial trivial
noncomputable def s21 : FSpec := ⟨[.imm false (.int .i64), .imm true (.pair (.int .i64) (.pair (.int .i64) (.pair (.int .i64) (.pair (.int .i64) (.pair (.int .i64) (.pair (.int .i64) (.pair (.int .i64) (.pair (.int .i64) (.pair (.pair (.int .i64) (.pair (.int .i64) (.pair (.int .i64) (.pair (.int .i64) (.pair (.int .i64) .unit))))) (.pair (.pair (.int .i64) (.pair (.slice 3 (.int .i64)) .unit)) .unit))))))))))], [.imm false .str, .imm false .bool], fun x => S_spec_MsgBytes x.1 x.2.1, true⟩
theorem ok21 : FOk Tryd.prog fa 21 s21 := fn_says env21 Tryd.func21 rfl fun x y h => ⟨0, (r21 0 x.1 x.2.1).trans h⟩
theorem enters21 : Enters Tryd.prog 21 := enters Tryd.func21 (by kernel_rfl) rfl

/-! ## loop.example/g00698/spec.WireOf -/
noncomputable def E24 : Env := { tab := tab, sig := [(21, s21), (67, s67)], clos := [], live := [(0, [0, 6, 11, 12, 13, 33, 34, 35], [])], eqs := [], inl := [] }
set_option maxRecDepth 100000 in
theorem r24 (N : Nat) (a0 : Int) (a1 : List T11) : runF N E24 Tryd.f24 [.imm false (.int .i64), .imm false (.slice 34 (.pair (.int .i64) (.pair (.int .i64) (.pair (.int .i64) (.pair (.int .i64) (.pair (.int .i64) (.pair (.int .i64) (.pair (.int .i64) (.pair (.int .i64) (.pair (.pair (.int .i64) (.pair (.int .i64) (.pair (.int .i64) (.pair (.int .i64) (.pair (.int .i64) .unit))))) (.pair (.pair (.int .i64) (.pair (.slice 3 (.int .i64)) .unit)) .unit)))))))))))] [.imm false .str, .imm false .bool] (a0, a1, ()) = p_spec_WireOf N a0 a1 := by kernel_rfl
theorem env24 : EnvOk Tryd.prog (fa.at true) E24 := envOk mixed tabOk ⟨⟨enters21, ok21, fun _ => rfl⟩, ⟨enters67, ok67, fun _ => rfl⟩, trivial⟩ trivial trivial
noncomputable def s24 : FSpec := ⟨[.imm false (.int .i64), .imm false (.slice 34 (.pair (.int .i64) (.pair (.int .i64) (.pair (.int .i64) (.pair (.int .i64) (.pair (.int .i64) (.pair (.int .i64) (.pair (.int .i64) (.pair (.int .i64) (.pair (.pair (.int .i64) (.pair (.int .i64) (.pair (.int .i64) (.pair (.int .i64) (.pair (.int .i64) .unit))))) (.pair (.pair (.int .i64) (.pair (.slice 3 (.int .i64)) .unit)) .unit)))))))))))], [.imm false .str, .imm false .bool], fun x => S_spec_WireOf x.1 x.2.1, true⟩
theorem ok24 : FOk Tryd.prog fa 24 s24 := fn_says env24 Tryd.func24 rfl fun x y h => let ⟨N, hN⟩ := lim_some h; ⟨N, (r24 N x.1 x.2.1).trans hN⟩
theorem enters24 : Enters Tryd.prog 24 := enters Tryd.func24 (by kernel_rfl) rfl

/-! ## loop.example/g00698/impl.IsGroup -/
noncomputable def E68 : Env := { tab := tab, sig := [], clos := [], live := [], eqs := [], inl := [] }
set_option maxRecDepth 100000 in
theorem r68 (N : Nat) (a0 : Int) : runF N E68 Tryd.f68 [.imm false (.int .i64)] [.imm false .bool] (a0, ()) = p_impl_IsGroup N a0 := by kernel_rfl
theorem env68 : EnvOk Tryd.prog (fa.at true) E68 := envOk mixed tabOk trivial trivial trivial
noncomputable def s68 : FSpec := ⟨[.imm false (.int .i64)], [.imm false .bool], fun x => S_impl_IsGroup x.1, true⟩
theorem ok68 : FOk Tryd.prog fa 68 s68 := fn_says env68 Tryd.func68 rfl fun x y h => ⟨0, (r68 0 x.1).trans h⟩
theorem enters68 : Enters Tryd.prog 68 := enters Tryd.func68 (by kernel_rfl) rfl

/-! ## loop.example/g00698/impl.within -/
noncomputable def E85 : Env := { tab := tab, sig := [], clos := [], live := [], eqs := [], inl := [] }
set_option maxRecDepth 100000 in
theorem r85 (N : Nat) (a0 : Int) (a1 : Int) (a2 : Int) : runF N E85 Tryd.f85 [.imm false (.int .i64), .imm false (.int .i64), .imm false (.int .i64)] [.imm false .bool] (a0, a1, a2, ()) = p_impl_within N a0 a1 a2 := by kernel_rfl
theorem env85 : EnvOk Tryd.prog (fa.at true) E85 := envOk mixed tabOk trivial trivial trivial
noncomputable def s85 : FSpec := ⟨[.imm false (.int .i64), .imm false (.int .i64), .imm false (.int .i64)], [.imm false .bool], fun x => S_impl_within x.1 x.2.1 x.2.2.1, true⟩
theorem ok85 : FOk Tryd.prog fa 85 s85 := fn_says env85 Tryd.func85 rfl fun x y h => ⟨0, (r85 0 x.1 x.2.1 x.2.2.1).trans h⟩
theorem enters85 : Enters Tryd.prog 85 := enters Tryd.func85 (by kernel_rfl) rfl

/-! ## loop.example/g00698/impl.isInstance -/
noncomputable def E117 : Env := { tab := tab, sig := [(68, s68), (85, s85)], clos := [], live := [], eqs := [], inl := [] }
set_option maxRecDepth 100000 in
theorem r117 (N : Nat) (a0 : Int) (a1 : Int) (a2 : Int) : runF N E117 Tryd.f117 [.imm false (.int .i64), .imm false (.int .i64), .imm false (.int .i64)] [.imm false .bool] (a0, a1, a2, ()) = p_impl_isInstance N a0 a1 a2 := by kernel_rfl
theorem env117 : EnvOk Tryd.prog (fa.at true) E117 := envOk mixed tabOk ⟨⟨enters68, ok68, fun _ => rfl⟩, ⟨enters85, ok85, fun _ => rfl⟩, trivial⟩ trivial trivial
noncomputable def s117 : FSpec := ⟨[.imm false (.int .i64), .imm false (.int .i64), .imm false (.int .i64)], [.imm false .bool], fun x => S_impl_isInstance x.1 x.2.1 x.2.2.1, true⟩
theorem ok117 : FOk Tryd.prog fa 117 s117 := fn_says env117 Tryd.func117 rfl fun x y h => ⟨0, (r117 0 x.1 x.2.1 x.2.2.1).trans h⟩
theorem enters117 : Enters Tryd.prog 117 := enters Tryd.func117 (by kernel_rfl) rfl

/-! ## slices.Clone[[]int,int] -/
noncomputable def E172 : Env := { tab := tab, sig := [], clos := [], live := [], eqs := [], inl := [] }
set_option maxRecDepth 100000 in
theorem r172 (N : Nat) (a0 : List Int) : runF N E172 Tryd.f172 [.imm false (.slice 3 (.int .i64))] [.deep false (.slice 3 (.int .i64))] (a0, ()) = p_Clone_Lint_int N a0 := by kernel_rfl
theorem env172 : EnvOk Tryd.prog (fa.at true) E172 := envOk mixed tabOk trivial trivial trivial
noncomputable def s172 : FSpec := ⟨[.imm false (.slice 3 (.int .i64))], [.deep false (.slice 3 (.int .i64))], fun x => S_Clone_Lint_int x.1, true⟩
theorem ok172 : FOk Tryd.prog fa 172 s172 := fn_says env172 Tryd.func172 rfl fun x y h => ⟨0, (r172 0 x.1).trans h⟩
theorem enters172 : Enters Tryd.prog 172 := enters Tryd.func172 (by kernel_rfl) rfl

/-! ## (loop.example/g00698/impl.Attr).copied -/
noncomputable def E154 : Env := { tab := tab, sig := [(172, s172)], clos := [], live := [], eqs := [], inl := [] }
set_option maxRecDepth 100000 in
theorem r154 (N : Nat) (a0 : T6) : runF N E154 Tryd.f154 [.imm true (.pair (.int .i64) (.pair (.slice 3 (.int .i64)) .unit))] [.deep true (.pair (.int .i64) (.pair (.slice 3 (.int .i64)) .unit))] (a0, ()) = p_impl_Attr_copied N a0 := by kernel_rfl
theorem env154 : EnvOk Tryd.prog (fa.at true) E154 := envOk mixed tabOk ⟨⟨enters172, ok172, fun _ => rfl⟩, trivial⟩ trivial trivial
noncomputable def s154 : FSpec := ⟨[.imm true (.pair (.int .i64) (.pair (.slice 3 (.int .i64)) .unit))], [.deep true (.pair (.int .i64) (.pair (.slice 3 (.int .i64)) .unit))], fun x => S_impl_Attr_copied x.1, true⟩
theorem ok154 : FOk Tryd.prog fa 154 s154 := fn_says env154 Tryd.func154 rfl fun x y h => ⟨0, (r154 0 x.1).trans h⟩
theorem enters154 : Enters Tryd.prog 154 := enters Tryd.func154 (by kernel_rfl) rfl

/-! ## (loop.example/g00698/impl.Msg).row -/
noncomputable def E128 : Env := { tab := tab, sig := [(154, s154)], clos := [], live := [], eqs := [], inl := [] }
set_option maxRecDepth 100000 in
theorem r128 (N : Nat) (a0 : T11) : runF N E128 Tryd.f128 [.imm true (.pair (.int .i64) (.pair (.int .i64) (.pair (.int .i64) (.pair (.int .i64) (.pair (.int .i64) (.pair (.int .i64) (.pair (.int .i64) (.pair (.int .i64) (.pair (.pair (.int .i64) (.pair (.int .i64) (.pair (.int .i64) (.pair (.int .i64) (.pair (.int .i64) .unit))))) (.pair (.pair (.int .i64) (.pair (.slice 3 (.int .i64)) .unit)) .unit))))))))))] [.deep true (.pair (.int .i64) (.pair (.int .i64) (.pair (.int .i64) (.pair (.pair (.int .i64) (.pair (.int .i64) (.pair (.int .i64) (.pair (.int .i64) (.pair (.int .i64) .unit))))) (.pair (.pair (.int .i64) (.pair (.slice 3 (.int .i64)) .unit)) .unit)))))] (a0, ()) = p_impl_Msg_row N a0 := by kernel_rfl
theorem env128 : EnvOk Tryd.prog (fa.at true) E128 := envOk mixed tabOk ⟨⟨enters154, ok154, fun _ => rfl⟩, trivial⟩ trivial trivial
noncomputable def s128 : FSpec := ⟨[.imm true (.pair (.int .i64) (.pair (.int .i64) (.pair (.int .i64) (.pair (.int .i64) (.pair (.int .i64) (.pair (.int .i64) (.pair (.int .i64) (.pair (.int .i64) (.pair (.pair (.int .i64) (.pair (.int .i64) (.pair (.int .i64) (.pair (.int .i64) (.pair (.int .i64) .unit))))) (.pair (.pair (.int .i64) (.pair (.slice 3 (.int .i64)) .unit)) .unit))))))))))], [.deep true (.pair (.int .i64) (.pair (.int .i64) (.pair (.int .i64) (.pair (.pair (.int .i64) (.pair (.int .i64) (.pair (.int .i64) (.pair (.int .i64) (.pair (.int .i64) .unit))))) (.pair (.pair (.int .i64) (.pair (.slice 3 (.int .i64)) .unit)) .unit)))))], fun x => S_impl_Msg_row x.1, true⟩
theorem ok128 : FOk Tryd.prog fa 128 s128 := fn_says env128 Tryd.func128 rfl fun x y h => ⟨0, (r128 0 x.1).trans h⟩
theorem enters128 : Enters Tryd.prog 128 := enters Tryd.func128 (by kernel_rfl) rfl

/-! ## loop.example/g00698/impl.isAccount -/
noncomputable def E142 : Env := { tab := tab, sig := [(85, s85)], clos := [], live := [], eqs := [], inl := [] }
set_option maxRecDepth 100000 in
theorem r142 (N : Nat) (a0 : Int) : runF N E142 Tryd.f142 [.imm false (.int .i64)] [.imm false .bool] (a0, ()) = p_impl_isAccount N a0 := by kernel_rfl
theorem env142 : EnvOk Tryd.prog (fa.at true) E142 := envOk mixed tabOk ⟨⟨enters85, ok85, fun _ => rfl⟩, trivial⟩ trivial trivial
noncomputable def s142 : FSpec := ⟨[.imm false (.int .i64)], [.imm false .bool], fun x => S_impl_isAccount x.1, true⟩
theorem ok142 : FOk Tryd.prog fa 142 s142 := fn_says env142 Tryd.func142 rfl fun x y h => ⟨0, (r142 0 x.1).trans h⟩
theorem enters142 : Enters Tryd.prog 142 := enters Tryd.func142 (by kernel_rfl) rfl

/-! ## loop.example/g00698/impl.GoodCmd -/
noncomputable def E129 : Env := { tab := tab, sig := [(85, s85), (142, s142)], clos := [], live := [], eqs := [(31, 5)], inl := [] }
set_option maxRecDepth 100000 in
theorem r129 (N : Nat) (a0 : T2) : runF N E129 Tryd.f129 [.imm true (.pair (.int .i64) (.pair (.int .i64) (.pair (.int .i64) (.pair (.int .i64) (.pair (.int .i64) .unit)))))] [.imm false .bool] (a0, ()) = p_impl_GoodCmd N a0 := by kernel_rfl
theorem env129 : EnvOk Tryd.prog (fa.at true) E129 := envOk mixed tabOk ⟨⟨enters85, ok85, fun _ => rfl⟩, ⟨enters142, ok142, fun _ => rfl⟩, trivial⟩ trivial ⟨eq31, trivial⟩
noncomputable def s129 : FSpec := ⟨[.imm true (.pair (.int .i64) (.pair (.int .i64) (.pair (.int .i64) (.pair (.int .i64) (.pair (.int .i64) .unit)))))], [.imm false .bool], fun x => S_impl_GoodCmd x.1, true⟩
theorem ok129 : FOk Tryd.prog fa 129 s129 := fn_says env129 Tryd.func129 rfl fun x y h => ⟨0, (r129 0 x.1).trans h⟩
theorem enters129 : Enters Tryd.prog 129 := enters Tryd.func129 (by kernel_rfl) rfl

/-! ## slices.IndexFunc[[]int,int] -/
noncomputable def E150 : Env := { tab := tab, sig := [], clos := [], live := [(0, [0, 1, 7, 8], [])], eqs := [], inl := [] }
set_option maxRecDepth 100000 in
theorem r150 (N : Nat) (a0 : List Int) (a1 : (Int × Unit) → Option Bool) : runF N E150 Tryd.f150 [.imm false (.slice 3 (.int .i64)), .clo [(false, (.int .i64))] .bool] [.imm false (.int .i64)] (a0, a1, ()) = p_IndexFunc_Lint_int N a0 a1 := by kernel_rfl
theorem env150 : EnvOk Tryd.prog (fa.at true) E150 := envOk mixed tabOk trivial trivial trivial
noncomputable def s150 : FSpec := ⟨[.imm false (.slice 3 (.int .i64)), .clo [(false, (.int .i64))] .bool], [.imm false (.int .i64)], fun x => S_IndexFunc_Lint_int x.1 x.2.1, true⟩
theorem ok150 : FOk Tryd.prog fa 150 s150 := fn_says env150 Tryd.func150 rfl fun x y h => let ⟨N, hN⟩ := lim_some h; ⟨N, (r150 N x.1 x.2.1).trans hN⟩
theorem enters150 : Enters Tryd.prog 150 := enters Tryd.func150 (by kernel_rfl) rfl

/-! ## slices.ContainsFunc[[]int,int] -/
noncomputable def E119 : Env := { tab := tab, sig := [(150, s150)], clos := [], live := [], eqs := [], inl := [] }
set_option maxRecDepth 100000 in
theorem r119 (N : Nat) (a0 : List Int) (a1 : (Int × Unit) → Option Bool) : runF N E119 Tryd.f119 [.imm false (.slice 3 (.int .i64)), .clo [(false, (.int .i64))] .bool] [.imm false .bool] (a0, a1, ()) = p_ContainsFunc_Lint_int N a0 a1 := by kernel_rfl
theorem env119 : EnvOk Tryd.prog (fa.at true) E119 := envOk mixed tabOk ⟨⟨enters150, ok150, fun _ => rfl⟩, trivial⟩ trivial trivial
noncomputable def s119 : FSpec := ⟨[.imm false (.slice 3 (.int .i64)), .clo [(false, (.int .i64))] .bool], [.imm false .bool], fun x => S_ContainsFunc_Lint_int x.1 x.2.1, true⟩
theorem ok119 : FOk Tryd.prog fa 119 s119 := fn_says env119 Tryd.func119 rfl fun x y h => ⟨0, (r119 0 x.1 x.2.1).trans h⟩
theorem enters119 : Enters Tryd.prog 119 := enters Tryd.func119 (by kernel_rfl) rfl

/-! ## loop.example/g00698/impl.GoodAttr -/
theorem enters155 : Enters Tryd.prog 155 := enters Tryd.func155 (by kernel_rfl) rfl
noncomputable def E130 : Env := { tab := tab, sig := [(68, s68), (85, s85), (119, s119)], clos := [(155, ⟨Tryd.f155, [(false, (.int .i64))], []⟩)], live := [], eqs := [], inl := [] }
set_option maxRecDepth 100000 in
theorem r130 (N : Nat) (a0 : Int) (a1 : T6) : runF N E130 Tryd.f130 [.imm false (.int .i64), .imm true (.pair (.int .i64) (.pair (.slice 3 (.int .i64)) .unit))] [.imm false .bool] (a0, a1, ()) = p_impl_GoodAttr N a0 a1 := by kernel_rfl
theorem env130 : EnvOk Tryd.prog (fa.at true) E130 := envOk mixed tabOk ⟨⟨enters68, ok68, fun _ => rfl⟩, ⟨enters85, ok85, fun _ => rfl⟩, ⟨enters119, ok119, fun _ => rfl⟩, trivial⟩ ⟨⟨Tryd.func155, enters155⟩, trivial⟩ trivial
noncomputable def s130 : FSpec := ⟨[.imm false (.int .i64), .imm true (.pair (.int .i64) (.pair (.slice 3 (.int .i64)) .unit))], [.imm false .bool], fun x => S_impl_GoodAttr x.1 x.2.1, true⟩
theorem ok130 : FOk Tryd.prog fa 130 s130 := fn_says env130 Tryd.func130 rfl fun x y h => ⟨0, (r130 0 x.1 x.2.1).trans h⟩
theorem enters130 : Enters Tryd.prog 130 := enters Tryd.func130 (by kernel_rfl) rfl

/-! ## loop.example/g00698/impl.noneAttr -/
noncomputable def E132 : Env := { tab := tab, sig := [], clos := [], live := [], eqs := [], inl := [] }
set_option maxRecDepth 100000 in
theorem r132 (N : Nat) (a0 : Int) : runF N E132 Tryd.f132 [.imm false (.int .i64)] [.deep true (.pair (.int .i64) (.pair (.slice 3 (.int .i64)) .unit))] (a0, ()) = p_impl_noneAttr N a0 := by kernel_rfl
theorem env132 : EnvOk Tryd.prog (fa.at true) E132 := envOk mixed tabOk trivial trivial trivial
noncomputable def s132 : FSpec := ⟨[.imm false (.int .i64)], [.deep true (.pair (.int .i64) (.pair (.slice 3 (.int .i64)) .unit))], fun x => S_impl_noneAttr x.1, true⟩
theorem ok132 : FOk Tryd.prog fa 132 s132 := fn_says env132 Tryd.func132 rfl fun x y h => ⟨0, (r132 0 x.1).trans h⟩
theorem enters132 : Enters Tryd.prog 132 := enters Tryd.func132 (by kernel_rfl) rfl

/-! ## slices.Equal[[]int,int] -/
noncomputable def E156 : Env := { tab := tab, sig := [], clos := [], live := [(0, [0, 1, 12, 13], [])], eqs := [], inl := [] }
set_option maxRecDepth 100000 in
theorem r156 (N : Nat) (a0 : List Int) (a1 : List Int) : runF N E156 Tryd.f156 [.imm false (.slice 3 (.int .i64)), .imm false (.slice 3 (.int .i64))] [.imm false .bool] (a0, a1, ()) = p_Equal_Lint_int N a0 a1 := by kernel_rfl
theorem env156 : EnvOk Tryd.prog (fa.at true) E156 := envOk mixed tabOk trivial trivial trivial
noncomputable def s156 : FSpec := ⟨[.imm false (.slice 3 (.int .i64)), .imm false (.slice 3 (.int .i64))], [.imm false .bool], fun x => S_Equal_Lint_int x.1 x.2.1, true⟩
theorem ok156 : FOk Tryd.prog fa 156 s156 := fn_says env156 Tryd.func156 rfl fun x y h => let ⟨N, hN⟩ := lim_some h; ⟨N, (r156 N x.1 x.2.1).trans hN⟩
theorem enters156 : Enters Tryd.prog 156 := enters Tryd.func156 (by kernel_rfl) rfl

/-! ## loop.example/g00698/impl.SameAttr -/
noncomputable def E131 : Env := { tab := tab, sig := [(156, s156)], clos := [], live := [], eqs := [], inl := [] }
set_option maxRecDepth 100000 in
theorem r131 (N : Nat) (a0 : T6) (a1 : T6) : runF N E131 Tryd.f131 [.imm true (.pair (.int .i64) (.pair (.slice 3 (.int .i64)) .unit)), .imm true (.pair (.int .i64) (.pair (.slice 3 (.int .i64)) .unit))] [.imm false .bool] (a0, a1, ()) = p_impl_SameAttr N a0 a1 := by kernel_rfl
theorem env131 : EnvOk Tryd.prog (fa.at true) E131 := envOk mixed tabOk ⟨⟨enters156, ok156, fun _ => rfl⟩, trivial⟩ trivial trivial
noncomputable def s131 : FSpec := ⟨[.imm true (.pair (.int .i64) (.pair (.slice 3 (.int .i64)) .unit)), .imm true (.pair (.int .i64) (.pair (.slice 3 (.int .i64)) .unit))], [.imm false .bool], fun x => S_impl_SameAttr x.1 x.2.1, true⟩
theorem ok131 : FOk Tryd.prog fa 131 s131 := fn_says env131 Tryd.func131 rfl fun x y h => ⟨0, (r131 0 x.1 x.2.1).trans h⟩
theorem enters131 : Enters Tryd.prog 131 := enters Tryd.func131 (by kernel_rfl) rfl

/-! ## loop.example/g00698/impl.goodRow -/
noncomputable def E127 : Env := { tab := tab, sig := [(85, s85), (129, s129), (130, s130), (132, s132), (131, s131)], clos := [], live := [], eqs := [(31, 5)], inl := [] }
set_option maxRecDepth 100000 in
theorem r127 (N : Nat) (a0 : Int) (a1 : T7) : runF N E127 Tryd.f127 [.imm false (.int .i64), .imm true (.pair (.int .i64) (.pair (.int .i64) (.pair (.int .i64) (.pair (.pair (.int .i64) (.pair (.int .i64) (.pair (.int .i64) (.pair (.int .i64) (.pair (.int .i64) .unit))))) (.pair (.pair (.int .i64) (.pair (.slice 3 (.int .i64)) .unit)) .unit)))))] [.imm false .bool] (a0, a1, ()) = p_impl_goodRow N a0 a1 := by kernel_rfl
theorem env127 : EnvOk Tryd.prog (fa.at true) E127 := envOk mixed tabOk ⟨⟨enters85, ok85, fun _ => rfl⟩, ⟨enters129, ok129, fun _ => rfl⟩, ⟨enters130, ok130, fun _ => rfl⟩, ⟨enters132, ok132, fun _ => rfl⟩, ⟨enters131, ok131, fun _ => rfl⟩, trivial⟩ trivial ⟨eq31, trivial⟩
noncomputable def s127 : FSpec := ⟨[.imm false (.int .i64), .imm true (.pair (.int .i64) (.pair (.int .i64) (.pair (.int .i64) (.pair (.pair (.int .i64) (.pair (.int .i64) (.pair (.int .i64) (.pair (.int .i64) (.pair (.int .i64) .unit))))) (.pair (.pair (.int .i64) (.pair (.slice 3 (.int .i64)) .unit)) .unit)))))], [.imm false .bool], fun x => S_impl_goodRow x.1 x.2.1, true⟩
theorem ok127 : FOk Tryd.prog fa 127 s127 := fn_says env127 Tryd.func127 rfl fun x y h => ⟨0, (r127 0 x.1 x.2.1).trans h⟩
theorem enters127 : Enters Tryd.prog 127 := enters Tryd.func127 (by kernel_rfl) rfl

/-! ## loop.example/g00698/impl.GoodMsg -/
noncomputable def E102 : Env := { tab := tab, sig := [(85, s85), (117, s117), (128, s128), (127, s127), (129, s129), (130, s130), (132, s132), (131, s131)], clos := [], live := [], eqs := [(31, 5)], inl := [] }
set_option maxRecDepth 100000 in
theorem r102 (N : Nat) (a0 : Int) (a1 : T11) : runF N E102 Tryd.f102 [.imm false (.int .i64), .imm true (.pair (.int .i64) (.pair (.int .i64) (.pair (.int .i64) (.pair (.int .i64) (.pair (.int .i64) (.pair (.int .i64) (.pair (.int .i64) (.pair (.int .i64) (.pair (.pair (.int .i64) (.pair (.int .i64) (.pair (.int .i64) (.pair (.int .i64) (.pair (.int .i64) .unit))))) (.pair (.pair (.int .i64) (.pair (.slice 3 (.int .i64)) .unit)) .unit))))))))))] [.imm false .bool] (a0, a1, ()) = p_impl_GoodMsg N a0 a1 := by kernel_rfl
theorem env102 : EnvOk Tryd.prog (fa.at true) E102 := envOk mixed tabOk ⟨⟨enters85, ok85, fun _ => rfl⟩, ⟨enters117, ok117, fun _ => rfl⟩, ⟨enters128, ok128, fun _ => rfl⟩, ⟨enters127, ok127, fun _ => rfl⟩, ⟨enters129, ok129, fun _ => rfl⟩, ⟨enters130, ok130, fun _ => rfl⟩, ⟨enters132, ok132, fun _ => rfl⟩, ⟨enters131, ok131, fun _ => rfl⟩, trivial⟩ trivial ⟨eq31, trivial⟩
noncomputable def s102 : FSpec := ⟨[.imm false (.int .i64), .imm true (.pair (.int .i64) (.pair (.int .i64) (.pair (.int .i64) (.pair (.int .i64) (.pair (.int .i64) (.pair (.int .i64) (.pair (.int .i64) (.pair (.int .i64) (.pair (.pair (.int .i64) (.pair (.int .i64) (.pair (.int .i64) (.pair (.int .i64) (.pair (.int .i64) .unit))))) (.pair (.pair (.int .i64) (.pair (.slice 3 (.int .i64)) .unit)) .unit))))))))))], [.imm false .bool], fun x => S_impl_GoodMsg x.1 x.2.1, true⟩
theorem ok102 : FOk Tryd.prog fa 102 s102 := fn_says env102 Tryd.func102 rfl fun x y h => ⟨0, (r102 0 x.1 x.2.1).trans h⟩
theorem enters102 : Enters Tryd.prog 102 := enters Tryd.func102 (by kernel_rfl) rfl

/-! ## loop.example/g00698/impl.msgWords -/
noncomputable def E110 : Env := { tab := tab, sig := [], clos := [], live := [], eqs := [], inl := [] }
set_option maxRecDepth 100000 in
theorem r110 (N : Nat)  : runF N E110 Tryd.f110 [] [.deep false (.slice 9 .str)] (()) = p_impl_msgWords N  := by kernel_rfl
theorem env110 : EnvOk Tryd.prog (fa.at true) E110 := envOk mixed tabOk trivial trivial trivial
noncomputable def s110 : FSpec := ⟨[], [.deep false (.slice 9 .str)], fun x => S_impl_msgWords , true⟩
theorem ok110 : FOk Tryd.prog fa 110 s110 := fn_says env110 Tryd.func110 rfl fun x y h => ⟨0, (r110 0 ).trans h⟩
theorem enters110 : Enters Tryd.prog 110 := enters Tryd.func110 (by kernel_rfl) rfl

/-! ## strconv.Itoa -/
def Lay49_ren : Go.Shelf.Ren := ⟨fun | 171 => 49 | 243 => 87 | 246 => 113 | 283 => 143 | 284 => 144 | 285 => 145 | 286 => 146 | 129 => 166 | 317 => 165 | 318 => 167 | 319 => 168 | 320 => 169 | 337 => 176 | 338 => 177 | n => n, fun | 3 => 3 | 9 => 9 | 2 => 2 | 4 => 4 | 171 => 150 | 0 => 0 | 53 => 151 | 37 => 111 | 5 => 5 | 173 => 154 | 212 => 170 | 51 => 171 | 20 => 20 | 213 => 172 | 46 => 166 | 232 => 181 | 233 => 182 | n => n, fun | 17 => 1 | 18 => 4 | 19 => 5 | n => n⟩
theorem Lay49 : Go.Proofs.LaysM.n171 Tryd.prog Lay49_ren := {
  mixed := by kernel_rfl
  f129 := Tryd.func166.trans (congrArg some (by kernel_rfl))
  f171 := Tryd.func49.trans (congrArg some (by kernel_rfl))
  f243 := Tryd.func87.trans (congrArg some (by kernel_rfl))
  f246 := Tryd.func113.trans (congrArg some (by kernel_rfl))
  f283 := Tryd.func143.trans (congrArg some (by kernel_rfl))
  f284 := Tryd.func144.trans (congrArg some (by kernel_rfl))
  f285 := Tryd.func145.trans (congrArg some (by kernel_rfl))
  f286 := Tryd.func146.trans (congrArg some (by kernel_rfl))
  f317 := Tryd.func165.trans (congrArg some (by kernel_rfl))
  f318 := Tryd.func167.trans (congrArg some (by kernel_rfl))
  f319 := Tryd.func168.trans (congrArg some (by kernel_rfl))
  f320 := Tryd.func169.trans (congrArg some (by kernel_rfl))
  f337 := Tryd.func176.trans (congrArg some (by kernel_rfl))
  f338 := Tryd.func177.trans (congrArg some (by kernel_rfl))
  t0 := Tryd.underlying0
  a0 := Tryd.isAgg0
  z0 := Tryd.sizeOf0
  v0 := Tryd.zeroValue0
  t2 := Tryd.underlying2
  a2 := Tryd.isAgg2
  z2 := Tryd.sizeOf2
  v2 := Tryd.zeroValue2
  t3 := Tryd.underlying3
  a3 := Tryd.isAgg3
  z3 := Tryd.sizeOf3
  v3 := Tryd.zeroValue3
  t4 := Tryd.underlying4
  a4 := Tryd.isAgg4
  z4 := Tryd.sizeOf4
  v4 := Tryd.zeroValue4
  t5 := Tryd.underlying5
  a5 := Tryd.isAgg5
  z5 := Tryd.sizeOf5
  v5 := Tryd.zeroValue5
  t9 := Tryd.underlying9
  a9 := Tryd.isAgg9
  z9 := Tryd.sizeOf9
  v9 := Tryd.zeroValue9
  t20 := Tryd.underlying20
  a20 := Tryd.isAgg20
  z20 := Tryd.sizeOf20
  v20 := Tryd.zeroValue20
  t37 := Tryd.underlying111
  a37 := Tryd.isAgg111
  z37 := Tryd.sizeOf111
  v37 := Tryd.zeroValue111
  t46 := Tryd.underlying166
  a46 := Tryd.isAgg166
  z46 := Tryd.sizeOf166
  v46 := Tryd.zeroValue166
  t51 := Tryd.underlying171
  a51 := Tryd.isAgg171
  z51 := Tryd.sizeOf171
  v51 := Tryd.zeroValue171
  t53 := Tryd.underlying151
  a53 := Tryd.isAgg151
  z53 := Tryd.sizeOf151
  v53 := Tryd.zeroValue151
  t171 := Tryd.underlying150
  a171 := Tryd.isAgg150
  z171 := Tryd.sizeOf150
  v171 := Tryd.zeroValue150
  t173 := Tryd.underlying154
  a173 := Tryd.isAgg154
  z173 := Tryd.sizeOf154
  v173 := Tryd.zeroValue154
  t212 := Tryd.underlying170
  a212 := Tryd.isAgg170
  z212 := Tryd.sizeOf170
  v212 := Tryd.zeroValue170
  t213 := Tryd.underlying172
  a213 := Tryd.isAgg172
  z213 := Tryd.sizeOf172
  t232 := Tryd.underlying181
  a232 := Tryd.isAgg181
  z232 := Tryd.sizeOf181
  v232 := Tryd.zeroValue181
  t233 := Tryd.underlying182
  a233 := Tryd.isAgg182
  z233 := Tryd.sizeOf182
  v233 := Tryd.zeroValue182
  g17 := by kernel_rfl
  g18 := by kernel_rfl
  g19 := by kernel_rfl
  i0 := by kernel_rfl
  i2 := by kernel_rfl
  i3 := by kernel_rfl
  i4 := by kernel_rfl
  i5 := by kernel_rfl
  i9 := by kernel_rfl
  i20 := by kernel_rfl
  i37 := by kernel_rfl
  i46 := by kernel_rfl
  i51 := by kernel_rfl
  i53 := by kernel_rfl
  i171 := by kernel_rfl
  i173 := by kernel_rfl
  i212 := by kernel_rfl
  i232 := by kernel_rfl
  i233 := by kernel_rfl
  m17 := by kernel_rfl
  m18 := by kernel_rfl
  m19 := by kernel_rfl }

noncomputable def s49 : FSpec := ⟨[.imm false (.int .i64)], [.imm false .str], fun x => S_strconv_Itoa x.1, true⟩
theorem ok49 : FOk Tryd.prog fa 49 s49 := ok_Itoa Lay49 (fun W h => h.2) (g := 1) (by kernel_rfl) (by decide)
theorem enters49 : Enters Tryd.prog 49 := enters Tryd.func49 (by kernel_rfl) rfl

/-! ## strings.Join -/
def Lay50_ren : Go.Shelf.Ren := ⟨fun | 156 => 50 | 165 => 88 | 166 => 89 | 169 => 90 | 240 => 114 | 241 => 115 | 276 => 147 | 277 => 148 | n => n, fun | 31 => 80 | 9 => 9 | 3 => 3 | 4 => 4 | 0 => 0 | 20 => 20 | 72 => 113 | 76 => 117 | 70 => 110 | 37 => 111 | 75 => 116 | 127 => 136 | 164 => 156 | 5 => 5 | 80 => 119 | n => n, fun | n => n⟩
theorem Lay50 : Go.Proofs.Lays.n156 Tryd.prog Lay50_ren := {
  mixed := by kernel_rfl
  f156 := Tryd.func50.trans (congrArg some (by kernel_rfl))
  f165 := Tryd.func88.trans (congrArg some (by kernel_rfl))
  f166 := Tryd.func89.trans (congrArg some (by kernel_rfl))
  f169 := Tryd.func90.trans (congrArg some (by kernel_rfl))
  f240 := Tryd.func114.trans (congrArg some (by kernel_rfl))
  f241 := Tryd.func115.trans (congrArg some (by kernel_rfl))
  f276 := Tryd.func147.trans (congrArg some (by kernel_rfl))
  f277 := Tryd.func148.trans (congrArg some (by kernel_rfl))
  t0 := Tryd.underlying0
  a0 := Tryd.isAgg0
  z0 := Tryd.sizeOf0
  v0 := Tryd.zeroValue0
  t3 := Tryd.underlying3
  a3 := Tryd.isAgg3
  z3 := Tryd.sizeOf3
  v3 := Tryd.zeroValue3
  t4 := Tryd.underlying4
  a4 := Tryd.isAgg4
  z4 := Tryd.sizeOf4
  v4 := Tryd.zeroValue4
  t9 := Tryd.underlying9
  a9 := Tryd.isAgg9
  z9 := Tryd.sizeOf9
  v9 := Tryd.zeroValue9
  t20 := Tryd.underlying20
  a20 := Tryd.isAgg20
  z20 := Tryd.sizeOf20
  v20 := Tryd.zeroValue20
  t31 := Tryd.underlying80
  a31 := Tryd.isAgg80
  z31 := Tryd.sizeOf80
  v31 := Tryd.zeroValue80
  t37 := Tryd.underlying111
  a37 := Tryd.isAgg111
  z37 := Tryd.sizeOf111
  v37 := Tryd.zeroValue111
  t70 := Tryd.underlying110
  a70 := Tryd.isAgg110
  z70 := Tryd.sizeOf110
  v70 := Tryd.zeroValue110
  t72 := Tryd.underlying113
  a72 := Tryd.isAgg113
  z72 := Tryd.sizeOf113
  v72 := Tryd.zeroValue113
  t75 := Tryd.underlying116
  a75 := Tryd.isAgg116
  z75 := Tryd.sizeOf116
  v75 := Tryd.zeroValue116
  t76 := Tryd.underlying117
  a76 := Tryd.isAgg117
  z76 := Tryd.sizeOf117
  v76 := Tryd.zeroValue117
  t127 := Tryd.underlying136
  a127 := Tryd.isAgg136
  z127 := Tryd.sizeOf136
  v127 := Tryd.zeroValue136
  t164 := Tryd.underlying156
  a164 := Tryd.isAgg156
  z164 := Tryd.sizeOf156
  v164 := Tryd.zeroValue156 }

theorem LayX50 : Builder.Extra Tryd.prog Lay50_ren where
  sizeBuilder := by kernel_rfl
  liesBuilder := by kernel_rfl
  t5 := Tryd.underlying5
  a5 := Tryd.isAgg5
  z5 := Tryd.sizeOf5
  v5 := Tryd.zeroValue5
  infoByte := by kernel_rfl
  cellsByte := by kernel_rfl
  sizeByte := by kernel_rfl
  neB5 := by decide
noncomputable def s50 : FSpec := ⟨[.imm false (.slice 9 .str), .imm false .str], [.imm false .str], fun x => S_strings_Join x.1 x.2.1, false⟩
theorem ok50 : FOk Tryd.prog fa 50 s50 := ok_Join Lay50 LayX50
theorem enters50 : Enters Tryd.prog 50 := enters Tryd.func50 (by kernel_rfl) rfl

/-! ## loop.example/g00698/impl.joined -/
noncomputable def E96 : Env := { tab := tab, sig := [(49, s49), (50, s50)], clos := [], live := [(0, [0, 5, 9, 10, 11], [])], eqs := [], inl := [], q := false }
set_option maxRecDepth 100000 in
theorem r96 (N : Nat) (a0 : ByteArray) (a1 : List Int) : runF N E96 Tryd.f96 [.imm false .str, .imm false (.slice 3 (.int .i64))] [.imm false .str] (a0, a1, ()) = p_impl_joined N a0 a1 := by kernel_rfl
theorem env96 : EnvOk Tryd.prog (fa.at false) E96 := envOk mixed tabOk ⟨⟨enters49, ok49, fun _ => rfl⟩, ⟨enters50, ok50, fun h => h⟩, trivial⟩ trivial trivial
noncomputable def s96 : FSpec := ⟨[.imm false .str, .imm false (.slice 3 (.int .i64))], [.imm false .str], fun x => S_impl_joined x.1 x.2.1, false⟩
theorem ok96 : FOk Tryd.prog fa 96 s96 := fn_says env96 Tryd.func96 rfl fun x y h => let ⟨N, hN⟩ := lim_some h; ⟨N, (r96 N x.1 x.2.1).trans hN⟩
theorem enters96 : Enters Tryd.prog 96 := enters Tryd.func96 (by kernel_rfl) rfl

/-! ## loop.example/g00698/impl.spelled -/
noncomputable def E133 : Env := { tab := tab, sig := [(96, s96)], clos := [], live := [], eqs := [], inl := [], q := false }
set_option maxRecDepth 100000 in
theorem r133 (N : Nat) (a0 : List Int) : runF N E133 Tryd.f133 [.imm false (.slice 3 (.int .i64))] [.imm false .str] (a0, ()) = p_impl_spelled N a0 := by kernel_rfl
theorem env133 : EnvOk Tryd.prog (fa.at false) E133 := envOk mixed tabOk ⟨⟨enters96, ok96, fun h => h⟩, trivial⟩ trivial trivial
noncomputable def s133 : FSpec := ⟨[.imm false (.slice 3 (.int .i64))], [.imm false .str], fun x => S_impl_spelled x.1, false⟩
theorem ok133 : FOk Tryd.prog fa 133 s133 := fn_says env133 Tryd.func133 rfl fun x y h => ⟨0, (r133 0 x.1).trans h⟩
theorem enters133 : Enters Tryd.prog 133 := enters Tryd.func133 (by kernel_rfl) rfl

/-! ## loop.example/g00698/impl.cmdText -/
noncomputable def E134 : Env := { tab := tab, sig := [(133, s133)], clos := [], live := [], eqs := [], inl := [], q := false }
set_option maxRecDepth 100000 in
theorem r134 (N : Nat) (a0 : T2) : runF N E134 Tryd.f134 [.imm true (.pair (.int .i64) (.pair (.int .i64) (.pair (.int .i64) (.pair (.int .i64) (.pair (.int .i64) .unit)))))] [.imm false .str] (a0, ()) = p_impl_cmdText N a0 := by kernel_rfl
theorem env134 : EnvOk Tryd.prog (fa.at false) E134 := envOk mixed tabOk ⟨⟨enters133, ok133, fun h => h⟩, trivial⟩ trivial trivial
noncomputable def s134 : FSpec := ⟨[.imm true (.pair (.int .i64) (.pair (.int .i64) (.pair (.int .i64) (.pair (.int .i64) (.pair (.int .i64) .unit)))))], [.imm false .str], fun x => S_impl_cmdText x.1, false⟩
theorem ok134 : FOk Tryd.prog fa 134 s134 := fn_says env134 Tryd.func134 rfl fun x y h => ⟨0, (r134 0 x.1).trans h⟩
theorem enters134 : Enters Tryd.prog 134 := enters Tryd.func134 (by kernel_rfl) rfl

/-! ## loop.example/g00698/impl.attrText -/
noncomputable def E135 : Env := { tab := tab, sig := [(49, s49), (96, s96)], clos := [], live := [], eqs := [], inl := [], q := false }
set_option maxRecDepth 100000 in
theorem r135 (N : Nat) (a0 : T6) : runF N E135 Tryd.f135 [.imm true (.pair (.int .i64) (.pair (.slice 3 (.int .i64)) .unit))] [.imm false .str] (a0, ()) = p_impl_attrText N a0 := by kernel_rfl
theorem env135 : EnvOk Tryd.prog (fa.at false) E135 := envOk mixed tabOk ⟨⟨enters49, ok49, fun _ => rfl⟩, ⟨enters96, ok96, fun h => h⟩, trivial⟩ trivial trivial
noncomputable def s135 : FSpec := ⟨[.imm true (.pair (.int .i64) (.pair (.slice 3 (.int .i64)) .unit))], [.imm false .str], fun x => S_impl_attrText x.1, false⟩
theorem ok135 : FOk Tryd.prog fa 135 s135 := fn_says env135 Tryd.func135 rfl fun x y h => ⟨0, (r135 0 x.1).trans h⟩
theorem enters135 : Enters Tryd.prog 135 := enters Tryd.func135 (by kernel_rfl) rfl

/-! ## loop.example/g00698/impl.msgText -/
noncomputable def E103 : Env := { tab := tab, sig := [(110, s110), (133, s133), (134, s134), (135, s135)], clos := [], live := [], eqs := [], inl := [], q := false, imm := [3] }
set_option maxRecDepth 100000 in
theorem r103 (N : Nat) (a0 : T11) : runF N E103 Tryd.f103 [.imm true (.pair (.int .i64) (.pair (.int .i64) (.pair (.int .i64) (.pair (.int .i64) (.pair (.int .i64) (.pair (.int .i64) (.pair (.int .i64) (.pair (.int .i64) (.pair (.pair (.int .i64) (.pair (.int .i64) (.pair (.int .i64) (.pair (.int .i64) (.pair (.int .i64) .unit))))) (.pair (.pair (.int .i64) (.pair (.slice 3 (.int .i64)) .unit)) .unit))))))))))] [.imm false .str] (a0, ()) = p_impl_msgText N a0 := by kernel_rfl
theorem env103 : EnvOk Tryd.prog (fa.at false) E103 := envOk mixed tabOk ⟨⟨enters110, ok110, fun _ => rfl⟩, ⟨enters133, ok133, fun h => h⟩, ⟨enters134, ok134, fun h => h⟩, ⟨enters135, ok135, fun h => h⟩, trivial⟩ trivial trivial
noncomputable def s103 : FSpec := ⟨[.imm true (.pair (.int .i64) (.pair (.int .i64) (.pair (.int .i64) (.pair (.int .i64) (.pair (.int .i64) (.pair (.int .i64) (.pair (.int .i64) (.pair (.int .i64) (.pair (.pair (.int .i64) (.pair (.int .i64) (.pair (.int .i64) (.pair (.int .i64) (.pair (.int .i64) .unit))))) (.pair (.pair (.int .i64) (.pair (.slice 3 (.int .i64)) .unit)) .unit))))))))))], [.imm false .str], fun x => S_impl_msgText x.1, false⟩
theorem ok103 : FOk Tryd.prog fa 103 s103 := fn_says env103 Tryd.func103 rfl fun x y h => ⟨0, (r103 0 x.1).trans h⟩
theorem enters103 : Enters Tryd.prog 103 := enters Tryd.func103 (by kernel_rfl) rfl

end Go.Proofs.YtmnekhlgldljcaaDoor.Am
