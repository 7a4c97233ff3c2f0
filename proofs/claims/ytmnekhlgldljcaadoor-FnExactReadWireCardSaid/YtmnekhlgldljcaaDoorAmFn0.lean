/- Functions, as they run on data. No condition. -/
import Derived.Test.YtmnekhlgldljcaaDoorAmTab
import Derived.Test.YtmnekhlgldljcaaDoorAmQ
set_option linter.unusedVariables false
set_option maxRecDepth 100000
namespace Go.Proofs.YtmnekhlgldljcaaDoor.Am
open Go.AM Go.AM.P Go.Proofs Go.Shelf
/-! ## loop.example/g00698/spec.IsGroup -/
noncomputable def E67 : Env := { tab := tab, sig := [], clos := [], live := [], eqs := [], inl := [] }
set_option maxRecDepth 100000 in
theorem r67 (N : Nat) (a0 : Int) : runF N E67 Tryd.f67 [.imm false (.int .i64)] [.imm false .bool] (a0, ()) = p_spec_IsGroup N a0 := by kernel_rfl
theorem env67 : EnvOk Tryd.prog (fa.at true) E67 := envOk mixed tabOk trivial trivial trivial
noncomputable def s67 : FSpec := ⟨[.imm false (.int .i64)], [.imm false .bool], fun x => S_spec_IsGroup x.1, true⟩
theorem ok67 : FOk Tryd.prog fa 67 s67 := fn_says env67 Tryd.func67 rfl fun x y h => ⟨0, (r67 0 x.1).trans h⟩
theorem enters67 : Enters Tryd.prog 67 := enters Tryd.func67 (by kernel_rfl) rfl

/-! ## loop.example/g00698/spec.l1Split -/
noncomputable def E69 : Env := { tab := tab, sig := [], clos := [], live := [(0, [0, 1, 5, 6, 7], [])], eqs := [], inl := [] }
set_option maxRecDepth 100000 in
theorem r69 (N : Nat) (a0 : ByteArray) (a1 : Int) : runF N E69 Tryd.f69 [.imm false .str, .imm false (.int .u8)] [.deep false (.slice 9 .str)] (a0, a1, ()) = p_spec_l1Split N a0 a1 := by kernel_rfl
theorem env69 : EnvOk Tryd.prog (fa.at true) E69 := envOk mixed tabOk trivial trivial trivial
noncomputable def s69 : FSpec := ⟨[.imm false .str, .imm false (.int .u8)], [.deep false (.slice 9 .str)], fun x => S_spec_l1Split x.1 x.2.1, true⟩
theorem ok69 : FOk Tryd.prog fa 69 s69 := fn_says env69 Tryd.func69 rfl fun x y h => let ⟨N, hN⟩ := lim_some h; ⟨N, (r69 N x.1 x.2.1).trans hN⟩
theorem enters69 : Enters Tryd.prog 69 := enters Tryd.func69 (by kernel_rfl) rfl

/-! ## loop.example/g00698/spec.l7Words -/
noncomputable def E98 : Env := { tab := tab, sig := [], clos := [], live := [], eqs := [], inl := [] }
set_option maxRecDepth 100000 in
theorem r98 (N : Nat)  : runF N E98 Tryd.f98 [] [.deep false (.slice 9 .str)] (()) = p_spec_l7Words N  := by kernel_rfl
theorem env98 : EnvOk Tryd.prog (fa.at true) E98 := envOk mixed tabOk trivial trivial trivial
noncomputable def s98 : FSpec := ⟨[], [.deep false (.slice 9 .str)], fun x => S_spec_l7Words , true⟩
theorem ok98 : FOk Tryd.prog fa 98 s98 := fn_says env98 Tryd.func98 rfl fun x y h => ⟨0, (r98 0 ).trans h⟩
theorem enters98 : Enters Tryd.prog 98 := enters Tryd.func98 (by kernel_rfl) rfl

/-! ## loop.example/g00698/spec.l1In -/
noncomputable def E84 : Env := { tab := tab, sig := [], clos := [], live := [], eqs := [], inl := [] }
set_option maxRecDepth 100000 in
theorem r84 (N : Nat) (a0 : Int) (a1 : Int) (a2 : Int) : runF N E84 Tryd.f84 [.imm false (.int .i64), .imm false (.int .i64), .imm false (.int .i64)] [.imm false .bool] (a0, a1, a2, ()) = p_spec_l1In N a0 a1 a2 := by kernel_rfl
theorem env84 : EnvOk Tryd.prog (fa.at true) E84 := envOk mixed tabOk trivial trivial trivial
noncomputable def s84 : FSpec := ⟨[.imm false (.int .i64), .imm false (.int .i64), .imm false (.int .i64)], [.imm false .bool], fun x => S_spec_l1In x.1 x.2.1 x.2.2.1, true⟩
theorem ok84 : FOk Tryd.prog fa 84 s84 := fn_says env84 Tryd.func84 rfl fun x y h => ⟨0, (r84 0 x.1 x.2.1 x.2.2.1).trans h⟩
theorem enters84 : Enters Tryd.prog 84 := enters Tryd.func84 (by kernel_rfl) rfl

/-! ## loop.example/g00698/spec.l1Read -/
noncomputable def E70 : Env := { tab := tab, sig := [(84, s84)], clos := [], live := [(0, [0, 3, 4, 30, 31, 32, 33], [])], eqs := [], inl := [] }
set_option maxRecDepth 100000 in
theorem r70 (N : Nat) (a0 : ByteArray) : runF N E70 Tryd.f70 [.imm false .str] [.imm false (.int .i64)] (a0, ()) = p_spec_l1Read N a0 := by kernel_rfl
theorem env70 : EnvOk Tryd.prog (fa.at true) E70 := envOk mixed tabOk ⟨⟨enters84, ok84, fun _ => rfl⟩, trivial⟩ trivial trivial
noncomputable def s70 : FSpec := ⟨[.imm false .str], [.imm false (.int .i64)], fun x => S_spec_l1Read x.1, true⟩
theorem ok70 : FOk Tryd.prog fa 70 s70 := fn_says env70 Tryd.func70 rfl fun x y h => let ⟨N, hN⟩ := lim_some h; ⟨N, (r70 N x.1).trans hN⟩
theorem enters70 : Enters Tryd.prog 70 := enters Tryd.func70 (by kernel_rfl) rfl

/-! ## loop.example/g00698/spec.l2Account -/
noncomputable def E171 : Env := { tab := tab, sig := [(84, s84)], clos := [], live := [], eqs := [], inl := [] }
set_option maxRecDepth 100000 in
theorem r171 (N : Nat) (a0 : Int) : runF N E171 Tryd.f171 [.imm false (.int .i64)] [.imm false .bool] (a0, ()) = p_spec_l2Account N a0 := by kernel_rfl
theorem env171 : EnvOk Tryd.prog (fa.at true) E171 := envOk mixed tabOk ⟨⟨enters84, ok84, fun _ => rfl⟩, trivial⟩ trivial trivial
noncomputable def s171 : FSpec := ⟨[.imm false (.int .i64)], [.imm false .bool], fun x => S_spec_l2Account x.1, true⟩
theorem ok171 : FOk Tryd.prog fa 171 s171 := fn_says env171 Tryd.func171 rfl fun x y h => ⟨0, (r171 0 x.1).trans h⟩
theorem enters171 : Enters Tryd.prog 171 := enters Tryd.func171 (by kernel_rfl) rfl

/-! ## loop.example/g00698/spec.l2Code -/
noncomputable def E152 : Env := { tab := tab, sig := [(171, s171), (84, s84)], clos := [], live := [], eqs := [], inl := [] }
set_option maxRecDepth 100000 in
theorem r152 (N : Nat) (a0 : T2) : runF N E152 Tryd.f152 [.imm true (.pair (.int .i64) (.pair (.int .i64) (.pair (.int .i64) (.pair (.int .i64) (.pair (.int .i64) .unit)))))] [.imm false (.int .i64)] (a0, ()) = p_spec_l2Code N a0 := by kernel_rfl
theorem env152 : EnvOk Tryd.prog (fa.at true) E152 := envOk mixed tabOk ⟨⟨enters171, ok171, fun _ => rfl⟩, ⟨enters84, ok84, fun _ => rfl⟩, trivial⟩ trivial trivial
noncomputable def s152 : FSpec := ⟨[.imm true (.pair (.int .i64) (.pair (.int .i64) (.pair (.int .i64) (.pair (.int .i64) (.pair (.int .i64) .unit)))))], [.imm false (.int .i64)], fun x => S_spec_l2Code x.1, true⟩
theorem ok152 : FOk Tryd.prog fa 152 s152 := fn_says env152 Tryd.func152 rfl fun x y h => ⟨0, (r152 0 x.1).trans h⟩
theorem enters152 : Enters Tryd.prog 152 := enters Tryd.func152 (by kernel_rfl) rfl

/-! ## loop.example/g00698/spec.ReadCmd -/
noncomputable def E140 : Env := { tab := tab, sig := [(69, s69), (70, s70), (152, s152)], clos := [], live := [(1, [2, 7, 8, 32, 33, 34, 48, 49, 50, 51, 52], [])], eqs := [], inl := [] }
set_option maxRecDepth 100000 in
theorem r140 (N : Nat) (a0 : ByteArray) : runF N E140 Tryd.f140 [.imm false .str] [.imm true (.pair (.int .i64) (.pair (.int .i64) (.pair (.int .i64) (.pair (.int .i64) (.pair (.int .i64) .unit))))), .imm false (.int .i64), .imm false .bool] (a0, ()) = p_spec_ReadCmd N a0 := by kernel_rfl
theorem env140 : EnvOk Tryd.prog (fa.at true) E140 := envOk mixed tabOk ⟨⟨enters69, ok69, fun _ => rfl⟩, ⟨enters70, ok70, fun _ => rfl⟩, ⟨enters152, ok152, fun _ => rfl⟩, trivial⟩ trivial trivial
noncomputable def s140 : FSpec := ⟨[.imm false .str], [.imm true (.pair (.int .i64) (.pair (.int .i64) (.pair (.int .i64) (.pair (.int .i64) (.pair (.int .i64) .unit))))), .imm false (.int .i64), .imm false .bool], fun x => S_spec_ReadCmd x.1, true⟩
theorem ok140 : FOk Tryd.prog fa 140 s140 := fn_says env140 Tryd.func140 rfl fun x y h => let ⟨N, hN⟩ := lim_some h; ⟨N, (r140 N x.1).trans hN⟩
theorem enters140 : Enters Tryd.prog 140 := enters Tryd.func140 (by kernel_rfl) rfl

/-! ## loop.example/g00698/spec.l1All -/
noncomputable def E151 : Env := { tab := tab, sig := [(84, s84)], clos := [], live := [(0, [1, 2, 9, 10, 11], [])], eqs := [], inl := [] }
set_option maxRecDepth 100000 in
theorem r151 (N : Nat) (a0 : List Int) (a1 : Int) (a2 : Int) : runF N E151 Tryd.f151 [.imm false (.slice 3 (.int .i64)), .imm false (.int .i64), .imm false (.int .i64)] [.imm false .bool] (a0, a1, a2, ()) = p_spec_l1All N a0 a1 a2 := by kernel_rfl
theorem env151 : EnvOk Tryd.prog (fa.at true) E151 := envOk mixed tabOk ⟨⟨enters84, ok84, fun _ => rfl⟩, trivial⟩ trivial trivial
noncomputable def s151 : FSpec := ⟨[.imm false (.slice 3 (.int .i64)), .imm false (.int .i64), .imm false (.int .i64)], [.imm false .bool], fun x => S_spec_l1All x.1 x.2.1 x.2.2.1, true⟩
theorem ok151 : FOk Tryd.prog fa 151 s151 := fn_says env151 Tryd.func151 rfl fun x y h => let ⟨N, hN⟩ := lim_some h; ⟨N, (r151 N x.1 x.2.1 x.2.2.1).trans hN⟩
theorem enters151 : Enters Tryd.prog 151 := enters Tryd.func151 (by kernel_rfl) rfl

/-! ## loop.example/g00698/spec.l3Attr -/
noncomputable def E123 : Env := { tab := tab, sig := [(84, s84), (151, s151)], clos := [], live := [], eqs := [], inl := [] }
set_option maxRecDepth 100000 in
theorem r123 (N : Nat) (a0 : Int) (a1 : T6) : runF N E123 Tryd.f123 [.imm false (.int .i64), .imm true (.pair (.int .i64) (.pair (.slice 3 (.int .i64)) .unit))] [.imm false .bool] (a0, a1, ()) = p_spec_l3Attr N a0 a1 := by kernel_rfl
theorem env123 : EnvOk Tryd.prog (fa.at true) E123 := envOk mixed tabOk ⟨⟨enters84, ok84, fun _ => rfl⟩, ⟨enters151, ok151, fun _ => rfl⟩, trivial⟩ trivial trivial
noncomputable def s123 : FSpec := ⟨[.imm false (.int .i64), .imm true (.pair (.int .i64) (.pair (.slice 3 (.int .i64)) .unit))], [.imm false .bool], fun x => S_spec_l3Attr x.1 x.2.1, true⟩
theorem ok123 : FOk Tryd.prog fa 123 s123 := fn_says env123 Tryd.func123 rfl fun x y h => ⟨0, (r123 0 x.1 x.2.1).trans h⟩
theorem enters123 : Enters Tryd.prog 123 := enters Tryd.func123 (by kernel_rfl) rfl

/-! ## loop.example/g00698/spec.GoodAttr -/
noncomputable def E164 : Env := { tab := tab, sig := [(67, s67), (123, s123)], clos := [], live := [], eqs := [], inl := [] }
set_option maxRecDepth 100000 in
theorem r164 (N : Nat) (a0 : Int) (a1 : T6) : runF N E164 Tryd.f164 [.imm false (.int .i64), .imm true (.pair (.int .i64) (.pair (.slice 3 (.int .i64)) .unit))] [.imm false .bool] (a0, a1, ()) = p_spec_GoodAttr N a0 a1 := by kernel_rfl
theorem env164 : EnvOk Tryd.prog (fa.at true) E164 := envOk mixed tabOk ⟨⟨enters67, ok67, fun _ => rfl⟩, ⟨enters123, ok123, fun _ => rfl⟩, trivial⟩ trivial trivial
noncomputable def s164 : FSpec := ⟨[.imm false (.int .i64), .imm true (.pair (.int .i64) (.pair (.slice 3 (.int .i64)) .unit))], [.imm false .bool], fun x => S_spec_GoodAttr x.1 x.2.1, true⟩
theorem ok164 : FOk Tryd.prog fa 164 s164 := fn_says env164 Tryd.func164 rfl fun x y h => ⟨0, (r164 0 x.1 x.2.1).trans h⟩
theorem enters164 : Enters Tryd.prog 164 := enters Tryd.func164 (by kernel_rfl) rfl

/-! ## loop.example/g00698/spec.ReadAttr -/
noncomputable def E141 : Env := { tab := tab, sig := [(69, s69), (70, s70), (164, s164)], clos := [], live := [(0, [0, 4, 7, 29, 30, 31], [.row 2 1 3 (.int .i64) true []])], eqs := [], inl := [] }
set_option maxRecDepth 100000 in
theorem r141 (N : Nat) (a0 : Int) (a1 : ByteArray) : runF N E141 Tryd.f141 [.imm false (.int .i64), .imm false .str] [.deep true (.pair (.int .i64) (.pair (.slice 3 (.int .i64)) .unit)), .imm false .bool] (a0, a1, ()) = p_spec_ReadAttr N a0 a1 := by kernel_rfl
theorem env141 : EnvOk Tryd.prog (fa.at true) E141 := envOk mixed tabOk ⟨⟨enters69, ok69, fun _ => rfl⟩, ⟨enters70, ok70, fun _ => rfl⟩, ⟨enters164, ok164, fun _ => rfl⟩, trivial⟩ trivial trivial
noncomputable def s141 : FSpec := ⟨[.imm false (.int .i64), .imm false .str], [.deep true (.pair (.int .i64) (.pair (.slice 3 (.int .i64)) .unit)), .imm false .bool], fun x => S_spec_ReadAttr x.1 x.2.1, true⟩
theorem ok141 : FOk Tryd.prog fa 141 s141 := fn_says env141 Tryd.func141 rfl fun x y h => let ⟨N, hN⟩ := lim_some h; ⟨N, (r141 N x.1 x.2.1).trans hN⟩
theorem enters141 : Enters Tryd.prog 141 := enters Tryd.func141 (by kernel_rfl) rfl

/-! ## loop.example/g00698/spec.l3Inst -/
noncomputable def E116 : Env := { tab := tab, sig := [(84, s84)], clos := [], live := [], eqs := [], inl := [] }
set_option maxRecDepth 100000 in
theorem r116 (N : Nat) (a0 : Int) (a1 : Int) (a2 : Int) : runF N E116 Tryd.f116 [.imm false (.int .i64), .imm false (.int .i64), .imm false (.int .i64)] [.imm false .bool] (a0, a1, a2, ()) = p_spec_l3Inst N a0 a1 a2 := by kernel_rfl
theorem env116 : EnvOk Tryd.prog (fa.at true) E116 := envOk mixed tabOk ⟨⟨enters84, ok84, fun _ => rfl⟩, trivial⟩ trivial trivial
noncomputable def s116 : FSpec := ⟨[.imm false (.int .i64), .imm false (.int .i64), .imm false (.int .i64)], [.imm false .bool], fun x => S_spec_l3Inst x.1 x.2.1 x.2.2.1, true⟩
theorem ok116 : FOk Tryd.prog fa 116 s116 := fn_says env116 Tryd.func116 rfl fun x y h => ⟨0, (r116 0 x.1 x.2.1 x.2.2.1).trans h⟩
theorem enters116 : Enters Tryd.prog 116 := enters Tryd.func116 (by kernel_rfl) rfl

/-! ## loop.example/g00698/spec.l3None -/
noncomputable def E126 : Env := { tab := tab, sig := [], clos := [], live := [], eqs := [], inl := [] }
set_option maxRecDepth 100000 in
theorem r126 (N : Nat) (a0 : Int) : runF N E126 Tryd.f126 [.imm false (.int .i64)] [.deep true (.pair (.int .i64) (.pair (.slice 3 (.int .i64)) .unit))] (a0, ()) = p_spec_l3None N a0 := by kernel_rfl
theorem env126 : EnvOk Tryd.prog (fa.at true) E126 := envOk mixed tabOk trivial trivial trivial
noncomputable def s126 : FSpec := ⟨[.imm false (.int .i64)], [.deep true (.pair (.int .i64) (.pair (.slice 3 (.int .i64)) .unit))], fun x => S_spec_l3None x.1, true⟩
theorem ok126 : FOk Tryd.prog fa 126 s126 := fn_says env126 Tryd.func126 rfl fun x y h => ⟨0, (r126 0 x.1).trans h⟩
theorem enters126 : Enters Tryd.prog 126 := enters Tryd.func126 (by kernel_rfl) rfl

/-! ## loop.example/g00698/spec.l1Same -/
noncomputable def E153 : Env := { tab := tab, sig := [], clos := [], live := [(0, [0, 1, 12, 13], [])], eqs := [], inl := [] }
set_option maxRecDepth 100000 in
theorem r153 (N : Nat) (a0 : List Int) (a1 : List Int) : runF N E153 Tryd.f153 [.imm false (.slice 3 (.int .i64)), .imm false (.slice 3 (.int .i64))] [.imm false .bool] (a0, a1, ()) = p_spec_l1Same N a0 a1 := by kernel_rfl
theorem env153 : EnvOk Tryd.prog (fa.at true) E153 := envOk mixed tabOk trivial trivial trivial
noncomputable def s153 : FSpec := ⟨[.imm false (.slice 3 (.int .i64)), .imm false (.slice 3 (.int .i64))], [.imm false .bool], fun x => S_spec_l1Same x.1 x.2.1, true⟩
theorem ok153 : FOk Tryd.prog fa 153 s153 := fn_says env153 Tryd.func153 rfl fun x y h => let ⟨N, hN⟩ := lim_some h; ⟨N, (r153 N x.1 x.2.1).trans hN⟩
theorem enters153 : Enters Tryd.prog 153 := enters Tryd.func153 (by kernel_rfl) rfl

/-! ## loop.example/g00698/spec.SameAttr -/
noncomputable def E125 : Env := { tab := tab, sig := [(153, s153)], clos := [], live := [], eqs := [], inl := [] }
set_option maxRecDepth 100000 in
theorem r125 (N : Nat) (a0 : T6) (a1 : T6) : runF N E125 Tryd.f125 [.imm true (.pair (.int .i64) (.pair (.slice 3 (.int .i64)) .unit)), .imm true (.pair (.int .i64) (.pair (.slice 3 (.int .i64)) .unit))] [.imm false .bool] (a0, a1, ()) = p_spec_SameAttr N a0 a1 := by kernel_rfl
theorem env125 : EnvOk Tryd.prog (fa.at true) E125 := envOk mixed tabOk ⟨⟨enters153, ok153, fun _ => rfl⟩, trivial⟩ trivial trivial
noncomputable def s125 : FSpec := ⟨[.imm true (.pair (.int .i64) (.pair (.slice 3 (.int .i64)) .unit)), .imm true (.pair (.int .i64) (.pair (.slice 3 (.int .i64)) .unit))], [.imm false .bool], fun x => S_spec_SameAttr x.1 x.2.1, true⟩
theorem ok125 : FOk Tryd.prog fa 125 s125 := fn_says env125 Tryd.func125 rfl fun x y h => ⟨0, (r125 0 x.1 x.2.1).trans h⟩
theorem enters125 : Enters Tryd.prog 125 := enters Tryd.func125 (by kernel_rfl) rfl

/-! ## loop.example/g00698/spec.GoodCmd -/
noncomputable def E124 : Env := { tab := tab, sig := [(152, s152)], clos := [], live := [], eqs := [(31, 5)], inl := [] }
set_option maxRecDepth 100000 in
theorem r124 (N : Nat) (a0 : T2) : runF N E124 Tryd.f124 [.imm true (.pair (.int .i64) (.pair (.int .i64) (.pair (.int .i64) (.pair (.int .i64) (.pair (.int .i64) .unit)))))] [.imm false .bool] (a0, ()) = p_spec_GoodCmd N a0 := by kernel_rfl
theorem env124 : EnvOk Tryd.prog (fa.at true) E124 := envOk mixed tabOk ⟨⟨enters152, ok152, fun _ => rfl⟩, trivial⟩ trivial ⟨eq31, trivial⟩
noncomputable def s124 : FSpec := ⟨[.imm true (.pair (.int .i64) (.pair (.int .i64) (.pair (.int .i64) (.pair (.int .i64) (.pair (.int .i64) .unit)))))], [.imm false .bool], fun x => S_spec_GoodCmd x.1, true⟩
theorem ok124 : FOk Tryd.prog fa 124 s124 := fn_says env124 Tryd.func124 rfl fun x y h => ⟨0, (r124 0 x.1).trans h⟩
theorem enters124 : Enters Tryd.prog 124 := enters Tryd.func124 (by kernel_rfl) rfl

/-! ## loop.example/g00698/spec.l4Row -/
noncomputable def E122 : Env := { tab := tab, sig := [(84, s84), (126, s126), (125, s125), (124, s124), (123, s123)], clos := [], live := [], eqs := [(31, 5)], inl := [] }
set_option maxRecDepth 100000 in
theorem r122 (N : Nat) (a0 : Int) (a1 : T7) : runF N E122 Tryd.f122 [.imm false (.int .i64), .imm true (.pair (.int .i64) (.pair (.int .i64) (.pair (.int .i64) (.pair (.pair (.int .i64) (.pair (.int .i64) (.pair (.int .i64) (.pair (.int .i64) (.pair (.int .i64) .unit))))) (.pair (.pair (.int .i64) (.pair (.slice 3 (.int .i64)) .unit)) .unit)))))] [.imm false .bool] (a0, a1, ()) = p_spec_l4Row N a0 a1 := by kernel_rfl
theorem env122 : EnvOk Tryd.prog (fa.at true) E122 := envOk mixed tabOk ⟨⟨enters84, ok84, fun _ => rfl⟩, ⟨enters126, ok126, fun _ => rfl⟩, ⟨enters125, ok125, fun _ => rfl⟩, ⟨enters124, ok124, fun _ => rfl⟩, ⟨enters123, ok123, fun _ => rfl⟩, trivial⟩ trivial ⟨eq31, trivial⟩
noncomputable def s122 : FSpec := ⟨[.imm false (.int .i64), .imm true (.pair (.int .i64) (.pair (.int .i64) (.pair (.int .i64) (.pair (.pair (.int .i64) (.pair (.int .i64) (.pair (.int .i64) (.pair (.int .i64) (.pair (.int .i64) .unit))))) (.pair (.pair (.int .i64) (.pair (.slice 3 (.int .i64)) .unit)) .unit)))))], [.imm false .bool], fun x => S_spec_l4Row x.1 x.2.1, true⟩
theorem ok122 : FOk Tryd.prog fa 122 s122 := fn_says env122 Tryd.func122 rfl fun x y h => ⟨0, (r122 0 x.1 x.2.1).trans h⟩
theorem enters122 : Enters Tryd.prog 122 := enters Tryd.func122 (by kernel_rfl) rfl

/-! ## loop.example/g00698/spec.GoodMsg -/
noncomputable def E97 : Env := { tab := tab, sig := [(67, s67), (84, s84), (116, s116), (122, s122), (123, s123), (124, s124), (126, s126), (125, s125)], clos := [], live := [], eqs := [(31, 5)], inl := [] }
set_option maxRecDepth 100000 in
theorem r97 (N : Nat) (a0 : Int) (a1 : T11) : runF N E97 Tryd.f97 [.imm false (.int .i64), .imm true (.pair (.int .i64) (.pair (.int .i64) (.pair (.int .i64) (.pair (.int .i64) (.pair (.int .i64) (.pair (.int .i64) (.pair (.int .i64) (.pair (.int .i64) (.pair (.pair (.int .i64) (.pair (.int .i64) (.pair (.int .i64) (.pair (.int .i64) (.pair (.int .i64) .unit))))) (.pair (.pair (.int .i64) (.pair (.slice 3 (.int .i64)) .unit)) .unit))))))))))] [.imm false .bool] (a0, a1, ()) = p_spec_GoodMsg N a0 a1 := by kernel_rfl
theorem env97 : EnvOk Tryd.prog (fa.at true) E97 := envOk mixed tabOk ⟨⟨enters67, ok67, fun _ => rfl⟩, ⟨enters84, ok84, fun _ => rfl⟩, ⟨enters116, ok116, fun _ => rfl⟩, ⟨enters122, ok122, fun _ => rfl⟩, ⟨enters123, ok123, fun _ => rfl⟩, ⟨enters124, ok124, fun _ => rfl⟩, ⟨enters126, ok126, fun _ => rfl⟩, ⟨enters125, ok125, fun _ => rfl⟩, trivial⟩ trivial ⟨eq31, trivial⟩
noncomputable def s97 : FSpec := ⟨[.imm false (.int .i64), .imm true (.pair (.int .i64) (.pair (.int .i64) (.pair (.int .i64) (.pair (.int .i64) (.pair (.int .i64) (.pair (.int .i64) (.pair (.int .i64) (.pair (.int .i64) (.pair (.pair (.int .i64) (.pair (.int .i64) (.pair (.int .i64) (.pair (.int .i64) (.pair (.int .i64) .unit))))) (.pair (.pair (.int .i64) (.pair (.slice 3 (.int .i64)) .unit)) .unit))))))))))], [.imm false .bool], fun x => S_spec_GoodMsg x.1 x.2.1, true⟩
theorem ok97 : FOk Tryd.prog fa 97 s97 := fn_says env97 Tryd.func97 rfl fun x y h => ⟨0, (r97 0 x.1 x.2.1).trans h⟩
theorem enters97 : Enters Tryd.prog 97 := enters Tryd.func97 (by kernel_rfl) rfl

/-! ## loop.example/g00698/spec.ReadMsg -/
noncomputable def E108 : Env := { tab := tab, sig := [(69, s69), (67, s67), (98, s98), (70, s70), (140, s140), (141, s141), (97, s97)], clos := [], live := [(0, [0, 4, 7, 8, 9, 35, 36, 37, 45, 46, 47, 48, 49, 56, 57, 58, 77, 78, 79, 80, 81, 82, 83], []), (2, [0, 4, 7, 9, 12, 62, 63, 64, 77, 78, 79, 80, 81, 82, 83], [])], eqs := [], inl := [] }
set_option maxRecDepth 100000 in
theorem r108 (N : Nat) (a0 : Int) (a1 : ByteArray) : runF N E108 Tryd.f108 [.imm false (.int .i64), .imm false .str] [.deep true (.pair (.int .i64) (.pair (.int .i64) (.pair (.int .i64) (.pair (.int .i64) (.pair (.int .i64) (.pair (.int .i64) (.pair (.int .i64) (.pair (.int .i64) (.pair (.pair (.int .i64) (.pair (.int .i64) (.pair (.int .i64) (.pair (.int .i64) (.pair (.int .i64) .unit))))) (.pair (.pair (.int .i64) (.pair (.slice 3 (.int .i64)) .unit)) .unit)))))))))), .imm false (.int .i64), .imm false .bool] (a0, a1, ()) = p_spec_ReadMsg N a0 a1 := by kernel_rfl
theorem env108 : EnvOk Tryd.prog (fa.at true) E108 := envOk mixed tabOk ⟨⟨enters69, ok69, fun _ => rfl⟩, ⟨enters67, ok67, fun _ => rfl⟩, ⟨enters98, ok98, fun _ => rfl⟩, ⟨enters70, ok70, fun _ => rfl⟩, ⟨enters140, ok140, fun _ => rfl⟩, ⟨enters141, ok141, fun _ => rfl⟩, ⟨enters97, ok97, fun _ => rfl⟩, trivial⟩ trivial trivial
noncomputable def s108 : FSpec := ⟨[.imm false (.int .i64), .imm false .str], [.deep true (.pair (.int .i64) (.pair (.int .i64) (.pair (.int .i64) (.pair (.int .i64) (.pair (.int .i64) (.pair (.int .i64) (.pair (.int .i64) (.pair (.int .i64) (.pair (.pair (.int .i64) (.pair (.int .i64) (.pair (.int .i64) (.pair (.int .i64) (.pair (.int .i64) .unit))))) (.pair (.pair (.int .i64) (.pair (.slice 3 (.int .i64)) .unit)) .unit)))))))))), .imm false (.int .i64), .imm false .bool], fun x => S_spec_ReadMsg x.1 x.2.1, true⟩
theorem ok108 : FOk Tryd.prog fa 108 s108 := fn_says env108 Tryd.func108 rfl fun x y h => let ⟨N, hN⟩ := lim_some h; ⟨N, (r108 N x.1 x.2.1).trans hN⟩
theorem enters108 : Enters Tryd.prog 108 := enters Tryd.func108 (by kernel_rfl) rfl

/-! ## loop.example/g00698/spec.l21Sum -/
noncomputable def E101 : Env := { tab := tab, sig := [], clos := [], live := [(0, [0, 3, 4], [])], eqs := [], inl := [] }
set_option maxRecDepth 100000 in
theorem r101 (N : Nat) (a0 : ByteArray) : runF N E101 Tryd.f101 [.imm false .str] [.imm false (.int .i64)] (a0, ()) = p_spec_l21Sum N a0 := by kernel_rfl
theorem env101 : EnvOk Tryd.prog (fa.at true) E101 := envOk mixed tabOk trivial trivial trivial
noncomputable def s101 : FSpec := ⟨[.imm false .str], [.imm false (.int .i64)], fun x => S_spec_l21Sum x.1, true⟩
theorem ok101 : FOk Tryd.prog fa 101 s101 := fn_says env101 Tryd.func101 rfl fun x y h => let ⟨N, hN⟩ := lim_some h; ⟨N, (r101 N x.1).trans hN⟩
theorem enters101 : Enters Tryd.prog 101 := enters Tryd.func101 (by kernel_rfl) rfl

/-! ## loop.example/g00698/spec.l21Frame -/
noncomputable def E64 : Env := { tab := tab, sig := [(101, s101)], clos := [], live := [], eqs := [], inl := [] }
set_option maxRecDepth 100000 in
theorem r64 (N : Nat) (a0 : ByteArray) : runF N E64 Tryd.f64 [.imm false .str] [.imm false .str] (a0, ()) = p_spec_l21Frame N a0 := by kernel_rfl
theorem env64 : EnvOk Tryd.prog (fa.at true) E64 := envOk mixed tabOk ⟨⟨enters101, ok101, fun _ => rfl⟩, trivial⟩ trivial trivial
noncomputable def s64 : FSpec := ⟨[.imm false .str], [.imm false .str], fun x => S_spec_l21Frame x.1, true⟩
theorem ok64 : FOk Tryd.prog fa 64 s64 := fn_says env64 Tryd.func64 rfl fun x y h => ⟨0, (r64 0 x.1).trans h⟩
theorem enters64 : Enters Tryd.prog 64 := enters Tryd.func64 (by kernel_rfl) rfl

/-! ## loop.example/g00698/spec.l1Num -/
noncomputable def sk86 (k : Nat) : FSpec := ⟨[.imm false (.int .i64)], [.imm false .str], fun x => p_spec_l1Num k x.1, true⟩
noncomputable def E86 (N : Nat) : Env := { tab := tab, sig := [(86, sk86 N)], clos := [], live := [], eqs := [], inl := [] }
set_option maxRecDepth 100000 in
theorem r86 (N : Nat) (a0 : Int) : runF N (E86 N) Tryd.f86 [.imm false (.int .i64)] [.imm false .str] (a0, ()) = p_spec_l1Num (N + 1) a0 := by kernel_rfl
theorem enters86 : Enters Tryd.prog 86 := enters Tryd.func86 (by kernel_rfl) rfl
theorem env86 (k : Nat) (h : FOk Tryd.prog fa 86 (sk86 k)) : EnvOk Tryd.prog (fa.at true) (E86 k) := envOk mixed tabOk ⟨⟨enters86, h, fun _ => rfl⟩, trivial⟩ trivial trivial
noncomputable def s86 : FSpec := ⟨[.imm false (.int .i64)], [.imm false .str], fun x => S_spec_l1Num x.1, true⟩
theorem okk86 : ∀ k, FOk Tryd.prog fa 86 (sk86 k)
  | 0 => fok_none fun _ => rfl
  | k + 1 => fn_says (s := sk86 (k + 1)) (env86 k (okk86 k)) Tryd.func86 rfl fun x y h => ⟨k, (r86 k x.1).trans h⟩
theorem ok86 : FOk Tryd.prog fa 86 s86 := fok_sup okk86 fun x y h => lim_some h

/-! ## loop.example/g00698/spec.l2Text -/
noncomputable def E99 : Env := { tab := tab, sig := [(86, s86)], clos := [], live := [], eqs := [], inl := [] }
set_option maxRecDepth 100000 in
theorem r99 (N : Nat) (a0 : T2) : runF N E99 Tryd.f99 [.imm true (.pair (.int .i64) (.pair (.int .i64) (.pair (.int .i64) (.pair (.int .i64) (.pair (.int .i64) .unit)))))] [.imm false .str] (a0, ()) = p_spec_l2Text N a0 := by kernel_rfl
theorem env99 : EnvOk Tryd.prog (fa.at true) E99 := envOk mixed tabOk ⟨⟨enters86, ok86, fun _ => rfl⟩, trivial⟩ trivial trivial
noncomputable def s99 : FSpec := ⟨[.imm true (.pair (.int .i64) (.pair (.int .i64) (.pair (.int .i64) (.pair (.int .i64) (.pair (.int .i64) .unit)))))], [.imm false .str], fun x => S_spec_l2Text x.1, true⟩
theorem ok99 : FOk Tryd.prog fa 99 s99 := fn_says env99 Tryd.func99 rfl fun x y h => ⟨0, (r99 0 x.1).trans h⟩
theorem enters99 : Enters Tryd.prog 99 := enters Tryd.func99 (by kernel_rfl) rfl

/-! ## loop.example/g00698/spec.l3List -/
noncomputable def E93 : Env := { tab := tab, sig := [(86, s86)], clos := [], live := [(0, [3, 6, 7, 8], [])], eqs := [], inl := [] }
set_option maxRecDepth 100000 in
theorem r93 (N : Nat) (a0 : List Int) : runF N E93 Tryd.f93 [.imm false (.slice 3 (.int .i64))] [.imm false .str] (a0, ()) = p_spec_l3List N a0 := by kernel_rfl
theorem env93 : EnvOk Tryd.prog (fa.at true) E93 := envOk mixed tabOk ⟨⟨enters86, ok86, fun _ => rfl⟩, trivial⟩ trivial trivial
noncomputable def s93 : FSpec := ⟨[.imm false (.slice 3 (.int .i64))], [.imm false .str], fun x => S_spec_l3List x.1, true⟩
theorem ok93 : FOk Tryd.prog fa 93 s93 := fn_says env93 Tryd.func93 rfl fun x y h => let ⟨N, hN⟩ := lim_some h; ⟨N, (r93 N x.1).trans hN⟩
theorem enters93 : Enters Tryd.prog 93 := enters Tryd.func93 (by kernel_rfl) rfl

/-! ## loop.example/g00698/spec.l3Text -/
noncomputable def E100 : Env := { tab := tab, sig := [(86, s86), (93, s93)], clos := [], live := [], eqs := [], inl := [] }
set_option maxRecDepth 100000 in
theorem r100 (N : Nat) (a0 : T6) : runF N E100 Tryd.f100 [.imm true (.pair (.int .i64) (.pair (.slice 3 (.int .i64)) .unit))] [.imm false .str] (a0, ()) = p_spec_l3Text N a0 := by kernel_rfl
theorem env100 : EnvOk Tryd.prog (fa.at true) E100 := envOk mixed tabOk ⟨⟨enters86, ok86, fun _ => rfl⟩, ⟨enters93, ok93, fun _ => rfl⟩, trivial⟩ trivial trivial
noncomputable def s100 : FSpec := ⟨[.imm true (.pair (.int .i64) (.pair (.slice 3 (.int .i64)) .unit))], [.imm false .str], fun x => S_spec_l3Text x.1, true⟩
theorem ok100 : FOk Tryd.prog fa 100 s100 := fn_says env100 Tryd.func100 rfl fun x y h => ⟨0, (r100 0 x.1).trans h⟩
theorem enters100 : Enters Tryd.prog 100 := enters Tryd.func100 (by kernel_rfl) rfl

/-! ## loop.example/g00698/spec.MsgText -/
noncomputable def E63 : Env := { tab := tab, sig := [(97, s97), (98, s98), (86, s86), (99, s99), (100, s100)], clos := [], live := [(0, [3, 6, 32, 33, 34], [])], eqs := [], inl := [] }
set_option maxRecDepth 100000 in
theorem r63 (N : Nat) (a0 : Int) (a1 : T11) : runF N E63 Tryd.f63 [.imm false (.int .i64), .imm true (.pair (.int .i64) (.pair (.int .i64) (.pair (.int .i64) (.pair (.int .i64) (.pair (.int .i64) (.pair (.int .i64) (.pair (.int .i64) (.pair (.int .i64) (.pair (.pair (.int .i64) (.pair (.int .i64) (.pair (.int .i64) (.pair (.int .i64) (.pair (.int .i64) .unit))))) (.pair (.pair (.int .i64) (.pair (.slice 3 (.int .i64)) .unit)) .unit))))))))))] [.imm false .str, .imm false .bool] (a0, a1, ()) = p_spec_MsgText N a0 a1 := by kernel_rfl
theorem env63 : EnvOk Tryd.prog (fa.at true) E63 := envOk mixed tabOk ⟨⟨enters97, ok97, fun _ => rfl⟩, ⟨enters98, ok98, fun _ => rfl⟩, ⟨enters86, ok86, fun _ => rfl⟩, ⟨enters99, ok99, fun _ => rfl⟩, ⟨enters100, ok100, fun _ => rfl⟩, trivial⟩ trivial trivial
noncomputable def s63 : FSpec := ⟨[.imm false (.int .i64), .imm true (.pair (.int .i64) (.pair (.int .i64) (.pair (.int .i64) (.pair (.int .i64) (.pair (.int .i64) (.pair (.int .i64) (.pair (.int .i64) (.pair (.int .i64) (.pair (.pair (.int .i64) (.pair (.int .i64) (.pair (.int .i64) (.pair (.int .i64) (.pair (.int .i64) .unit))))) (.pair (.pair (.int .i64) (.pair (.slice 3 (.int .i64)) .unit)) .unit))))))))))], [.imm false .str, .imm false .bool], fun x => S_spec_MsgText x.1 x.2.1, true⟩
theorem ok63 : FOk Tryd.prog fa 63 s63 := fn_says env63 Tryd.func63 rfl fun x y h => let ⟨N, hN⟩ := lim_some h; ⟨N, (r63 N x.1 x.2.1).trans hN⟩
theorem enters63 : Enters Tryd.prog 63 := enters Tryd.func63 (by kernel_rfl) rfl

/-! ## loop.example/g00698/spec.l21One -/
noncomputable def E79 : Env := { tab := tab, sig := [(108, s108), (64, s64), (63, s63)], clos := [], live := [], eqs := [], inl := [] }
set_option maxRecDepth 100000 in
theorem r79 (N : Nat) (a0 : Int) (a1 : ByteArray) : runF N E79 Tryd.f79 [.imm false (.int .i64), .imm false .str] [.deep true (.pair (.int .i64) (.pair (.int .i64) (.pair (.int .i64) (.pair (.int .i64) (.pair (.int .i64) (.pair (.int .i64) (.pair (.int .i64) (.pair (.int .i64) (.pair (.pair (.int .i64) (.pair (.int .i64) (.pair (.int .i64) (.pair (.int .i64) (.pair (.int .i64) .unit))))) (.pair (.pair (.int .i64) (.pair (.slice 3 (.int .i64)) .unit)) .unit)))))))))), .imm false (.int .i64)] (a0, a1, ()) = p_spec_l21One N a0 a1 := by kernel_rfl
theorem env79 : EnvOk Tryd.prog (fa.at true) E79 := envOk mixed tabOk ⟨⟨enters108, ok108, fun _ => rfl⟩, ⟨enters64, ok64, fun _ => rfl⟩, ⟨enters63, ok63, fun _ => rfl⟩, trivial⟩ trivial trivial
noncomputable def s79 : FSpec := ⟨[.imm false (.int .i64), .imm false .str], [.deep true (.pair (.int .i64) (.pair (.int .i64) (.pair (.int .i64) (.pair (.int .i64) (.pair (.int .i64) (.pair (.int .i64) (.pair (.int .i64) (.pair (.int .i64) (.pair (.pair (.int .i64) (.pair (.int .i64) (.pair (.int .i64) (.pair (.int .i64) (.pair (.int .i64) .unit))))) (.pair (.pair (.int .i64) (.pair (.slice 3 (.int .i64)) .unit)) .unit)))))))))), .imm false (.int .i64)], fun x => S_spec_l21One x.1 x.2.1, true⟩
theorem ok79 : FOk Tryd.prog fa 79 s79 := fn_says env79 Tryd.func79 rfl fun x y h => ⟨0, (r79 0 x.1 x.2.1).trans h⟩
theorem enters79 : Enters Tryd.prog 79 := enters Tryd.func79 (by kernel_rfl) rfl

/-! ## loop.example/g00698/spec.l21Feed -/
noncomputable def E83 : Env := { tab := tab, sig := [(79, s79)], clos := [], live := [(0, [0, 2, 6, 8, 9], [])], eqs := [], inl := [] }
set_option maxRecDepth 100000 in
theorem r83 (N : Nat) (a0 : Int) (a1 : T15) (a2 : ByteArray) : runF N E83 Tryd.f83 [.imm false (.int .i64), .imm true (.pair .str (.pair (.int .i64) .unit)), .imm false .str] [.imm true (.pair .str (.pair (.int .i64) .unit)), .deep false (.slice 34 (.pair (.int .i64) (.pair (.int .i64) (.pair (.int .i64) (.pair (.int .i64) (.pair (.int .i64) (.pair (.int .i64) (.pair (.int .i64) (.pair (.int .i64) (.pair (.pair (.int .i64) (.pair (.int .i64) (.pair (.int .i64) (.pair (.int .i64) (.pair (.int .i64) .unit))))) (.pair (.pair (.int .i64) (.pair (.slice 3 (.int .i64)) .unit)) .unit)))))))))))] (a0, a1, a2, ()) = p_spec_l21Feed N a0 a1 a2 := by kernel_rfl
theorem env83 : EnvOk Tryd.prog (fa.at true) E83 := envOk mixed tabOk ⟨⟨enters79, ok79, fun _ => rfl⟩, trivial⟩ trivial trivial
noncomputable def s83 : FSpec := ⟨[.imm false (.int .i64), .imm true (.pair .str (.pair (.int .i64) .unit)), .imm false .str], [.imm true (.pair .str (.pair (.int .i64) .unit)), .deep false (.slice 34 (.pair (.int .i64) (.pair (.int .i64) (.pair (.int .i64) (.pair (.int .i64) (.pair (.int .i64) (.pair (.int .i64) (.pair (.int .i64) (.pair (.int .i64) (.pair (.pair (.int .i64) (.pair (.int .i64) (.pair (.int .i64) (.pair (.int .i64) (.pair (.int .i64) .unit))))) (.pair (.pair (.int .i64) (.pair (.slice 3 (.int .i64)) .unit)) .unit)))))))))))], fun x => S_spec_l21Feed x.1 x.2.1 x.2.2.1, true⟩
theorem ok83 : FOk Tryd.prog fa 83 s83 := fn_says env83 Tryd.func83 rfl fun x y h => let ⟨N, hN⟩ := lim_some h; ⟨N, (r83 N x.1 x.2.1 x.2.2.1).trans hN⟩
theorem enters83 : Enters Tryd.prog 83 := enters Tryd.func83 (by kernel_rfl) rfl

/-! ## loop.example/g00698/spec.ReadWire -/
noncomputable def E36 : Env := { tab := tab, sig := [(67, s67), (83, s83)], clos := [], live := [], eqs := [], inl := [] }
set_option maxRecDepth 100000 in
theorem r36 (N : Nat) (a0 : Int) (a1 : ByteArray) : runF N E36 Tryd.f36 [.imm false (.int .i64), .imm false .str] [.deep false (.slice 34 (.pair (.int .i64) (.pair (.int .i64) (.pair (.int .i64) (.pair (.int .i64) (.pair (.int .i64) (.pair (.int .i64) (.pair (.int .i64) (.pair (.int .i64) (.pair (.pair (.int .i64) (.pair (.int .i64) (.pair (.int .i64) (.pair (.int .i64) (.pair (.int .i64) .unit))))) (.pair (.pair (.int .i64) (.pair (.slice 3 (.int .i64)) .unit)) .unit))))))))))), .imm false (.int .i64), .imm false .bool] (a0, a1, ()) = p_spec_ReadWire N a0 a1 := by kernel_rfl
theorem env36 : EnvOk Tryd.prog (fa.at true) E36 := envOk mixed tabOk ⟨⟨enters67, ok67, fun _ => rfl⟩, ⟨enters83, ok83, fun _ => rfl⟩, trivial⟩ trivial trivial
noncomputable def s36 : FSpec := ⟨[.imm false (.int .i64), .imm false .str], [.deep false (.slice 34 (.pair (.int .i64) (.pair (.int .i64) (.pair (.int .i64) (.pair (.int .i64) (.pair (.int .i64) (.pair (.int .i64) (.pair (.int .i64) (.pair (.int .i64) (.pair (.pair (.int .i64) (.pair (.int .i64) (.pair (.int .i64) (.pair (.int .i64) (.pair (.int .i64) .unit))))) (.pair (.pair (.int .i64) (.pair (.slice 3 (.int .i64)) .unit)) .unit))))))))))), .imm false (.int .i64), .imm false .bool], fun x => S_spec_ReadWire x.1 x.2.1, true⟩
theorem ok36 : FOk Tryd.prog fa 36 s36 := fn_says env36 Tryd.func36 rfl fun x y h => ⟨0, (r36 0 x.1 x.2.1).trans h⟩
theorem enters36 : Enters Tryd.prog 36 := enters Tryd.func36 (by kernel_rfl) rfl

/-! ## loop.example/g00698/impl.IsGroup -/
noncomputable def E68 : Env := { tab := tab, sig := [], clos := [], live := [], eqs := [], inl := [] }
set_option maxRecDepth 100000 in
theorem r68 (N : Nat) (a0 : Int) : runF N E68 Tryd.f68 [.imm false (.int .i64)] [.imm false .bool] (a0, ()) = p_impl_IsGroup N a0 := by kernel_rfl
theorem env68 : EnvOk Tryd.prog (fa.at true) E68 := envOk mixed tabOk trivial trivial trivial
noncomputable def s68 : FSpec := ⟨[.imm false (.int .i64)], [.imm false .bool], fun x => S_impl_IsGroup x.1, true⟩
theorem ok68 : FOk Tryd.prog fa 68 s68 := fn_says env68 Tryd.func68 rfl fun x y h => ⟨0, (r68 0 x.1).trans h⟩
theorem enters68 : Enters Tryd.prog 68 := enters Tryd.func68 (by kernel_rfl) rfl

/-! ## loop.example/g00698/impl.within -/
noncomputable def E85 : Env := { tab := tab, sig := [], clos := [], live := [], eqs := [], inl := [] }
set_option maxRecDepth 100000 in
theorem r85 (N : Nat) (a0 : Int) (a1 : Int) (a2 : Int) : runF N E85 Tryd.f85 [.imm false (.int .i64), .imm false (.int .i64), .imm false (.int .i64)] [.imm false .bool] (a0, a1, a2, ()) = p_impl_within N a0 a1 a2 := by kernel_rfl
theorem env85 : EnvOk Tryd.prog (fa.at true) E85 := envOk mixed tabOk trivial trivial trivial
noncomputable def s85 : FSpec := ⟨[.imm false (.int .i64), .imm false (.int .i64), .imm false (.int .i64)], [.imm false .bool], fun x => S_impl_within x.1 x.2.1 x.2.2.1, true⟩
theorem ok85 : FOk Tryd.prog fa 85 s85 := fn_says env85 Tryd.func85 rfl fun x y h => ⟨0, (r85 0 x.1 x.2.1 x.2.2.1).trans h⟩
theorem enters85 : Enters Tryd.prog 85 := enters Tryd.func85 (by kernel_rfl) rfl

/-! ## strings.Split -/
def Lay73_ren : Go.Shelf.Ren := ⟨fun | 146 => 73 | 221 => 107 | 268 => 137 | 138 => 138 | 143 => 139 | 195 => 161 | 197 => 162 | 218 => 163 | 219 => 136 | 260 => 175 | 217 => 157 | 225 => 158 | 224 => 159 | 267 => 160 | 266 => 173 | 314 => 174 | n => n, fun | 9 => 9 | 31 => 80 | 3 => 3 | 4 => 4 | 0 => 0 | 105 => 167 | 21 => 21 | 5 => 5 | 46 => 166 | 119 => 177 | 139 => 180 | 138 => 179 | 146 => 174 | 51 => 171 | n => n, fun | 1 => 0 | 3 => 2 | 4 => 3 | n => n⟩
theorem Lay73 : Go.Proofs.LaysM.n146 Tryd.prog Lay73_ren := {
  mixed := by kernel_rfl
  f138 := Tryd.func138.trans (congrArg some (by kernel_rfl))
  f143 := Tryd.func139.trans (congrArg some (by kernel_rfl))
  f146 := Tryd.func73.trans (congrArg some (by kernel_rfl))
  f195 := Tryd.func161.trans (congrArg some (by kernel_rfl))
  f197 := Tryd.func162.trans (congrArg some (by kernel_rfl))
  f217 := Tryd.func157.trans (congrArg some (by kernel_rfl))
  f218 := Tryd.func163.trans (congrArg some (by kernel_rfl))
  f219 := Tryd.func136.trans (congrArg some (by kernel_rfl))
  f221 := Tryd.func107.trans (congrArg some (by kernel_rfl))
  f224 := Tryd.func159.trans (congrArg some (by kernel_rfl))
  f225 := Tryd.func158.trans (congrArg some (by kernel_rfl))
  f260 := Tryd.func175.trans (congrArg some (by kernel_rfl))
  f266 := Tryd.func173.trans (congrArg some (by kernel_rfl))
  f267 := Tryd.func160.trans (congrArg some (by kernel_rfl))
  f268 := Tryd.func137.trans (congrArg some (by kernel_rfl))
  f314 := Tryd.func174.trans (congrArg some (by kernel_rfl))
  t0 := Tryd.underlying0
  a0 := Tryd.isAgg0
  z0 := Tryd.sizeOf0
  v0 := Tryd.zeroValue0
  t3 := Tryd.underlying3
  a3 := Tryd.isAgg3
  z3 := Tryd.sizeOf3
  v3 := Tryd.zeroValue3
  t4 := Tryd.underlying4
  a4 := Tryd.isAgg4
  z4 := Tryd.sizeOf4
  v4 := Tryd.zeroValue4
  t5 := Tryd.underlying5
  a5 := Tryd.isAgg5
  z5 := Tryd.sizeOf5
  v5 := Tryd.zeroValue5
  t9 := Tryd.underlying9
  a9 := Tryd.isAgg9
  z9 := Tryd.sizeOf9
  v9 := Tryd.zeroValue9
  t21 := Tryd.underlying21
  a21 := Tryd.isAgg21
  z21 := Tryd.sizeOf21
  v21 := Tryd.zeroValue21
  t31 := Tryd.underlying80
  a31 := Tryd.isAgg80
  z31 := Tryd.sizeOf80
  v31 := Tryd.zeroValue80
  t46 := Tryd.underlying166
  a46 := Tryd.isAgg166
  z46 := Tryd.sizeOf166
  v46 := Tryd.zeroValue166
  t51 := Tryd.underlying171
  a51 := Tryd.isAgg171
  z51 := Tryd.sizeOf171
  v51 := Tryd.zeroValue171
  t105 := Tryd.underlying167
  a105 := Tryd.isAgg167
  z105 := Tryd.sizeOf167
  v105 := Tryd.zeroValue167
  t119 := Tryd.underlying177
  a119 := Tryd.isAgg177
  z119 := Tryd.sizeOf177
  t138 := Tryd.underlying179
  a138 := Tryd.isAgg179
  z138 := Tryd.sizeOf179
  v138 := Tryd.zeroValue179
  t139 := Tryd.underlying180
  a139 := Tryd.isAgg180
  z139 := Tryd.sizeOf180
  v139 := Tryd.zeroValue180
  t146 := Tryd.underlying174
  a146 := Tryd.isAgg174
  z146 := Tryd.sizeOf174
  v146 := Tryd.zeroValue174
  g1 := by kernel_rfl
  g3 := by kernel_rfl
  g4 := by kernel_rfl
  i0 := by kernel_rfl
  i3 := by kernel_rfl
  i4 := by kernel_rfl
  i5 := by kernel_rfl
  i9 := by kernel_rfl
  i21 := by kernel_rfl
  i31 := by kernel_rfl
  i46 := by kernel_rfl
  i51 := by kernel_rfl
  i105 := by kernel_rfl
  i138 := by kernel_rfl
  i139 := by kernel_rfl
  i146 := by kernel_rfl
  m1 := by kernel_rfl
  s1_3 := fun w h => Go.Proofs.cell_of_shapedOpen_int (zero := #[.int .i64 0]) (t := 3) h (of_decide_eq_true (by kernel_rfl)) (by kernel_rfl) rfl (by kernel_rfl) (by kernel_rfl) Tryd.underlying3
  m3 := by kernel_rfl
  m4 := by kernel_rfl }

noncomputable def s73 : FSpec := ⟨[.imm false .str, .imm false .str], [.deep false (.slice 9 .str)], fun x => S_strings_Split x.1 x.2.1, true⟩
theorem ok73 : FOk Tryd.prog fa 73 s73 := ok_Split Lay73 (fun W h => h) (by decide)
theorem enters73 : Enters Tryd.prog 73 := enters Tryd.func73 (by kernel_rfl) rfl

/-! ## loop.example/g00698/impl.msgWords -/
noncomputable def E110 : Env := { tab := tab, sig := [], clos := [], live := [], eqs := [], inl := [] }
set_option maxRecDepth 100000 in
theorem r110 (N : Nat)  : runF N E110 Tryd.f110 [] [.deep false (.slice 9 .str)] (()) = p_impl_msgWords N  := by kernel_rfl
theorem env110 : EnvOk Tryd.prog (fa.at true) E110 := envOk mixed tabOk trivial trivial trivial
noncomputable def s110 : FSpec := ⟨[], [.deep false (.slice 9 .str)], fun x => S_impl_msgWords , true⟩
theorem ok110 : FOk Tryd.prog fa 110 s110 := fn_says env110 Tryd.func110 rfl fun x y h => ⟨0, (r110 0 ).trans h⟩
theorem enters110 : Enters Tryd.prog 110 := enters Tryd.func110 (by kernel_rfl) rfl

/-! ## slices.Index[[]string,string] -/
noncomputable def E109 : Env := { tab := tab, sig := [], clos := [], live := [(0, [0, 1, 7, 8], [])], eqs := [], inl := [] }
set_option maxRecDepth 100000 in
theorem r109 (N : Nat) (a0 : List ByteArray) (a1 : ByteArray) : runF N E109 Tryd.f109 [.imm false (.slice 9 .str), .imm false .str] [.imm false (.int .i64)] (a0, a1, ()) = p_Index_Lstring_string N a0 a1 := by kernel_rfl
theorem env109 : EnvOk Tryd.prog (fa.at true) E109 := envOk mixed tabOk trivial trivial trivial
noncomputable def s109 : FSpec := ⟨[.imm false (.slice 9 .str), .imm false .str], [.imm false (.int .i64)], fun x => S_Index_Lstring_string x.1 x.2.1, true⟩
theorem ok109 : FOk Tryd.prog fa 109 s109 := fn_says env109 Tryd.func109 rfl fun x y h => let ⟨N, hN⟩ := lim_some h; ⟨N, (r109 N x.1 x.2.1).trans hN⟩
theorem enters109 : Enters Tryd.prog 109 := enters Tryd.func109 (by kernel_rfl) rfl

/-! ## loop.example/g00698/impl.digits -/
noncomputable def E74 : Env := { tab := tab, sig := [], clos := [], live := [(0, [0, 1, 5, 8, 9, 17, 18, 19, 20, 23, 24, 25, 39, 40, 41, 42, 43, 44, 45, 46], [])], eqs := [], inl := [] }
set_option maxRecDepth 100000 in
theorem r74 (N : Nat) (a0 : ByteArray) (a1 : Int) : runF N E74 Tryd.f74 [.imm false .str, .imm false (.int .i64)] [.imm false (.int .i64)] (a0, a1, ()) = p_impl_digits N a0 a1 := by kernel_rfl
theorem env74 : EnvOk Tryd.prog (fa.at true) E74 := envOk mixed tabOk trivial trivial trivial
noncomputable def s74 : FSpec := ⟨[.imm false .str, .imm false (.int .i64)], [.imm false (.int .i64)], fun x => S_impl_digits x.1 x.2.1, true⟩
theorem ok74 : FOk Tryd.prog fa 74 s74 := fn_says env74 Tryd.func74 rfl fun x y h => let ⟨N, hN⟩ := lim_some h; ⟨N, (r74 N x.1 x.2.1).trans hN⟩
theorem enters74 : Enters Tryd.prog 74 := enters Tryd.func74 (by kernel_rfl) rfl

/-! ## loop.example/g00698/impl.numbers -/
noncomputable def E72 : Env := { tab := tab, sig := [(74, s74)], clos := [], live := [(0, [1, 6, 11, 12, 13], [])], eqs := [], inl := [] }
set_option maxRecDepth 100000 in
theorem r72 (N : Nat) (a0 : List ByteArray) (a1 : Int) : runF N E72 Tryd.f72 [.imm false (.slice 9 .str), .imm false (.int .i64)] [.deep false (.slice 3 (.int .i64)), .imm false .bool] (a0, a1, ()) = p_impl_numbers N a0 a1 := by kernel_rfl
theorem env72 : EnvOk Tryd.prog (fa.at true) E72 := envOk mixed tabOk ⟨⟨enters74, ok74, fun _ => rfl⟩, trivial⟩ trivial trivial
noncomputable def s72 : FSpec := ⟨[.imm false (.slice 9 .str), .imm false (.int .i64)], [.deep false (.slice 3 (.int .i64)), .imm false .bool], fun x => S_impl_numbers x.1 x.2.1, true⟩
theorem ok72 : FOk Tryd.prog fa 72 s72 := fn_says env72 Tryd.func72 rfl fun x y h => let ⟨N, hN⟩ := lim_some h; ⟨N, (r72 N x.1 x.2.1).trans hN⟩
theorem enters72 : Enters Tryd.prog 72 := enters Tryd.func72 (by kernel_rfl) rfl

/-! ## loop.example/g00698/impl.isAccount -/
noncomputable def E142 : Env := { tab := tab, sig := [(85, s85)], clos := [], live := [], eqs := [], inl := [] }
set_option maxRecDepth 100000 in
theorem r142 (N : Nat) (a0 : Int) : runF N E142 Tryd.f142 [.imm false (.int .i64)] [.imm false .bool] (a0, ()) = p_impl_isAccount N a0 := by kernel_rfl
theorem env142 : EnvOk Tryd.prog (fa.at true) E142 := envOk mixed tabOk ⟨⟨enters85, ok85, fun _ => rfl⟩, trivial⟩ trivial trivial
noncomputable def s142 : FSpec := ⟨[.imm false (.int .i64)], [.imm false .bool], fun x => S_impl_isAccount x.1, true⟩
theorem ok142 : FOk Tryd.prog fa 142 s142 := fn_says env142 Tryd.func142 rfl fun x y h => ⟨0, (r142 0 x.1).trans h⟩
theorem enters142 : Enters Tryd.prog 142 := enters Tryd.func142 (by kernel_rfl) rfl

/-! ## loop.example/g00698/impl.GoodCmd -/
noncomputable def E129 : Env := { tab := tab, sig := [(85, s85), (142, s142)], clos := [], live := [], eqs := [(31, 5)], inl := [] }
set_option maxRecDepth 100000 in
theorem r129 (N : Nat) (a0 : T2) : runF N E129 Tryd.f129 [.imm true (.pair (.int .i64) (.pair (.int .i64) (.pair (.int .i64) (.pair (.int .i64) (.pair (.int .i64) .unit)))))] [.imm false .bool] (a0, ()) = p_impl_GoodCmd N a0 := by kernel_rfl
theorem env129 : EnvOk Tryd.prog (fa.at true) E129 := envOk mixed tabOk ⟨⟨enters85, ok85, fun _ => rfl⟩, ⟨enters142, ok142, fun _ => rfl⟩, trivial⟩ trivial ⟨eq31, trivial⟩
noncomputable def s129 : FSpec := ⟨[.imm true (.pair (.int .i64) (.pair (.int .i64) (.pair (.int .i64) (.pair (.int .i64) (.pair (.int .i64) .unit)))))], [.imm false .bool], fun x => S_impl_GoodCmd x.1, true⟩
theorem ok129 : FOk Tryd.prog fa 129 s129 := fn_says env129 Tryd.func129 rfl fun x y h => ⟨0, (r129 0 x.1).trans h⟩
theorem enters129 : Enters Tryd.prog 129 := enters Tryd.func129 (by kernel_rfl) rfl

/-! ## loop.example/g00698/impl.ReadCmd -/
noncomputable def E111 : Env := { tab := tab, sig := [(73, s73), (109, s109), (72, s72), (142, s142), (129, s129)], clos := [], live := [], eqs := [], inl := [], imm := [11, 16, 21, 31, 71, 76, 93] }
set_option maxRecDepth 100000 in
theorem r111 (N : Nat) (a0 : ByteArray) : runF N E111 Tryd.f111 [.imm false .str] [.imm true (.pair (.int .i64) (.pair (.int .i64) (.pair (.int .i64) (.pair (.int .i64) (.pair (.int .i64) .unit))))), .imm false (.int .i64), .imm false .bool] (a0, ()) = p_impl_ReadCmd N a0 := by kernel_rfl
theorem env111 : EnvOk Tryd.prog (fa.at true) E111 := envOk mixed tabOk ⟨⟨enters73, ok73, fun _ => rfl⟩, ⟨enters109, ok109, fun _ => rfl⟩, ⟨enters72, ok72, fun _ => rfl⟩, ⟨enters142, ok142, fun _ => rfl⟩, ⟨enters129, ok129, fun _ => rfl⟩, trivial⟩ trivial trivial
noncomputable def s111 : FSpec := ⟨[.imm false .str], [.imm true (.pair (.int .i64) (.pair (.int .i64) (.pair (.int .i64) (.pair (.int .i64) (.pair (.int .i64) .unit))))), .imm false (.int .i64), .imm false .bool], fun x => S_impl_ReadCmd x.1, true⟩
theorem ok111 : FOk Tryd.prog fa 111 s111 := fn_says env111 Tryd.func111 rfl fun x y h => ⟨0, (r111 0 x.1).trans h⟩
theorem enters111 : Enters Tryd.prog 111 := enters Tryd.func111 (by kernel_rfl) rfl

/-! ## strings.Cut -/
def Lay71_ren : Go.Shelf.Ren := ⟨fun | 145 => 71 | 220 => 106 | 219 => 136 | 217 => 157 | 225 => 158 | 224 => 159 | 267 => 160 | 266 => 173 | 314 => 174 | n => n, fun | 9 => 9 | 4 => 4 | 59 => 96 | 3 => 3 | 5 => 5 | 46 => 166 | 146 => 174 | 51 => 171 | n => n, fun | 1 => 0 | n => n⟩
theorem Lay71 : Go.Proofs.LaysM.n145 Tryd.prog Lay71_ren := {
  mixed := by kernel_rfl
  f145 := Tryd.func71.trans (congrArg some (by kernel_rfl))
  f217 := Tryd.func157.trans (congrArg some (by kernel_rfl))
  f219 := Tryd.func136.trans (congrArg some (by kernel_rfl))
  f220 := Tryd.func106.trans (congrArg some (by kernel_rfl))
  f224 := Tryd.func159.trans (congrArg some (by kernel_rfl))
  f225 := Tryd.func158.trans (congrArg some (by kernel_rfl))
  f266 := Tryd.func173.trans (congrArg some (by kernel_rfl))
  f267 := Tryd.func160.trans (congrArg some (by kernel_rfl))
  f314 := Tryd.func174.trans (congrArg some (by kernel_rfl))
  t3 := Tryd.underlying3
  a3 := Tryd.isAgg3
  z3 := Tryd.sizeOf3
  v3 := Tryd.zeroValue3
  t4 := Tryd.underlying4
  a4 := Tryd.isAgg4
  z4 := Tryd.sizeOf4
  v4 := Tryd.zeroValue4
  t5 := Tryd.underlying5
  a5 := Tryd.isAgg5
  z5 := Tryd.sizeOf5
  v5 := Tryd.zeroValue5
  t9 := Tryd.underlying9
  a9 := Tryd.isAgg9
  z9 := Tryd.sizeOf9
  v9 := Tryd.zeroValue9
  t46 := Tryd.underlying166
  a46 := Tryd.isAgg166
  z46 := Tryd.sizeOf166
  v46 := Tryd.zeroValue166
  t51 := Tryd.underlying171
  a51 := Tryd.isAgg171
  z51 := Tryd.sizeOf171
  v51 := Tryd.zeroValue171
  t59 := Tryd.underlying96
  a59 := Tryd.isAgg96
  z59 := Tryd.sizeOf96
  v59 := Tryd.zeroValue96
  t146 := Tryd.underlying174
  a146 := Tryd.isAgg174
  z146 := Tryd.sizeOf174
  v146 := Tryd.zeroValue174
  g1 := by kernel_rfl
  i3 := by kernel_rfl
  i4 := by kernel_rfl
  i5 := by kernel_rfl
  i9 := by kernel_rfl
  i46 := by kernel_rfl
  i51 := by kernel_rfl
  i59 := by kernel_rfl
  i146 := by kernel_rfl
  m1 := by kernel_rfl
  s1_3 := fun w h => Go.Proofs.cell_of_shapedOpen_int (zero := #[.int .i64 0]) (t := 3) h (of_decide_eq_true (by kernel_rfl)) (by kernel_rfl) rfl (by kernel_rfl) (by kernel_rfl) Tryd.underlying3 }

noncomputable def s71 : FSpec := ⟨[.imm false .str, .imm false .str], [.imm false .str, .imm false .str, .imm false .bool], fun x => S_strings_Cut x.1 x.2.1, true⟩
theorem ok71 : FOk Tryd.prog fa 71 s71 := ok_Cut Lay71 (fun W h => h) (by decide)
theorem enters71 : Enters Tryd.prog 71 := enters Tryd.func71 (by kernel_rfl) rfl

/-! ## slices.IndexFunc[[]int,int] -/
noncomputable def E150 : Env := { tab := tab, sig := [], clos := [], live := [(0, [0, 1, 7, 8], [])], eqs := [], inl := [] }
set_option maxRecDepth 100000 in
theorem r150 (N : Nat) (a0 : List Int) (a1 : (Int × Unit) → Option Bool) : runF N E150 Tryd.f150 [.imm false (.slice 3 (.int .i64)), .clo [(false, (.int .i64))] .bool] [.imm false (.int .i64)] (a0, a1, ()) = p_IndexFunc_Lint_int N a0 a1 := by kernel_rfl
theorem env150 : EnvOk Tryd.prog (fa.at true) E150 := envOk mixed tabOk trivial trivial trivial
noncomputable def s150 : FSpec := ⟨[.imm false (.slice 3 (.int .i64)), .clo [(false, (.int .i64))] .bool], [.imm false (.int .i64)], fun x => S_IndexFunc_Lint_int x.1 x.2.1, true⟩
theorem ok150 : FOk Tryd.prog fa 150 s150 := fn_says env150 Tryd.func150 rfl fun x y h => let ⟨N, hN⟩ := lim_some h; ⟨N, (r150 N x.1 x.2.1).trans hN⟩
theorem enters150 : Enters Tryd.prog 150 := enters Tryd.func150 (by kernel_rfl) rfl

/-! ## slices.ContainsFunc[[]int,int] -/
noncomputable def E119 : Env := { tab := tab, sig := [(150, s150)], clos := [], live := [], eqs := [], inl := [] }
set_option maxRecDepth 100000 in
theorem r119 (N : Nat) (a0 : List Int) (a1 : (Int × Unit) → Option Bool) : runF N E119 Tryd.f119 [.imm false (.slice 3 (.int .i64)), .clo [(false, (.int .i64))] .bool] [.imm false .bool] (a0, a1, ()) = p_ContainsFunc_Lint_int N a0 a1 := by kernel_rfl
theorem env119 : EnvOk Tryd.prog (fa.at true) E119 := envOk mixed tabOk ⟨⟨enters150, ok150, fun _ => rfl⟩, trivial⟩ trivial trivial
noncomputable def s119 : FSpec := ⟨[.imm false (.slice 3 (.int .i64)), .clo [(false, (.int .i64))] .bool], [.imm false .bool], fun x => S_ContainsFunc_Lint_int x.1 x.2.1, true⟩
theorem ok119 : FOk Tryd.prog fa 119 s119 := fn_says env119 Tryd.func119 rfl fun x y h => ⟨0, (r119 0 x.1 x.2.1).trans h⟩
theorem enters119 : Enters Tryd.prog 119 := enters Tryd.func119 (by kernel_rfl) rfl

/-! ## loop.example/g00698/impl.GoodAttr -/
theorem enters155 : Enters Tryd.prog 155 := enters Tryd.func155 (by kernel_rfl) rfl
noncomputable def E130 : Env := { tab := tab, sig := [(68, s68), (85, s85), (119, s119)], clos := [(155, ⟨Tryd.f155, [(false, (.int .i64))], []⟩)], live := [], eqs := [], inl := [] }
set_option maxRecDepth 100000 in
theorem r130 (N : Nat) (a0 : Int) (a1 : T6) : runF N E130 Tryd.f130 [.imm false (.int .i64), .imm true (.pair (.int .i64) (.pair (.slice 3 (.int .i64)) .unit))] [.imm false .bool] (a0, a1, ()) = p_impl_GoodAttr N a0 a1 := by kernel_rfl
theorem env130 : EnvOk Tryd.prog (fa.at true) E130 := envOk mixed tabOk ⟨⟨enters68, ok68, fun _ => rfl⟩, ⟨enters85, ok85, fun _ => rfl⟩, ⟨enters119, ok119, fun _ => rfl⟩, trivial⟩ ⟨⟨Tryd.func155, enters155⟩, trivial⟩ trivial
noncomputable def s130 : FSpec := ⟨[.imm false (.int .i64), .imm true (.pair (.int .i64) (.pair (.slice 3 (.int .i64)) .unit))], [.imm false .bool], fun x => S_impl_GoodAttr x.1 x.2.1, true⟩
theorem ok130 : FOk Tryd.prog fa 130 s130 := fn_says env130 Tryd.func130 rfl fun x y h => ⟨0, (r130 0 x.1 x.2.1).trans h⟩
theorem enters130 : Enters Tryd.prog 130 := enters Tryd.func130 (by kernel_rfl) rfl

/-! ## loop.example/g00698/impl.ReadAttr -/
noncomputable def E112 : Env := { tab := tab, sig := [(71, s71), (74, s74), (73, s73), (72, s72), (130, s130)], clos := [], live := [], eqs := [], inl := [] }
set_option maxRecDepth 100000 in
theorem r112 (N : Nat) (a0 : Int) (a1 : ByteArray) : runF N E112 Tryd.f112 [.imm false (.int .i64), .imm false .str] [.deep true (.pair (.int .i64) (.pair (.slice 3 (.int .i64)) .unit)), .imm false .bool] (a0, a1, ()) = p_impl_ReadAttr N a0 a1 := by kernel_rfl
theorem env112 : EnvOk Tryd.prog (fa.at true) E112 := envOk mixed tabOk ⟨⟨enters71, ok71, fun _ => rfl⟩, ⟨enters74, ok74, fun _ => rfl⟩, ⟨enters73, ok73, fun _ => rfl⟩, ⟨enters72, ok72, fun _ => rfl⟩, ⟨enters130, ok130, fun _ => rfl⟩, trivial⟩ trivial trivial
noncomputable def s112 : FSpec := ⟨[.imm false (.int .i64), .imm false .str], [.deep true (.pair (.int .i64) (.pair (.slice 3 (.int .i64)) .unit)), .imm false .bool], fun x => S_impl_ReadAttr x.1 x.2.1, true⟩
theorem ok112 : FOk Tryd.prog fa 112 s112 := fn_says env112 Tryd.func112 rfl fun x y h => ⟨0, (r112 0 x.1 x.2.1).trans h⟩
theorem enters112 : Enters Tryd.prog 112 := enters Tryd.func112 (by kernel_rfl) rfl

/-! ## loop.example/g00698/impl.isInstance -/
noncomputable def E117 : Env := { tab := tab, sig := [(68, s68), (85, s85)], clos := [], live := [], eqs := [], inl := [] }
set_option maxRecDepth 100000 in
theorem r117 (N : Nat) (a0 : Int) (a1 : Int) (a2 : Int) : runF N E117 Tryd.f117 [.imm false (.int .i64), .imm false (.int .i64), .imm false (.int .i64)] [.imm false .bool] (a0, a1, a2, ()) = p_impl_isInstance N a0 a1 a2 := by kernel_rfl
theorem env117 : EnvOk Tryd.prog (fa.at true) E117 := envOk mixed tabOk ⟨⟨enters68, ok68, fun _ => rfl⟩, ⟨enters85, ok85, fun _ => rfl⟩, trivial⟩ trivial trivial
noncomputable def s117 : FSpec := ⟨[.imm false (.int .i64), .imm false (.int .i64), .imm false (.int .i64)], [.imm false .bool], fun x => S_impl_isInstance x.1 x.2.1 x.2.2.1, true⟩
theorem ok117 : FOk Tryd.prog fa 117 s117 := fn_says env117 Tryd.func117 rfl fun x y h => ⟨0, (r117 0 x.1 x.2.1 x.2.2.1).trans h⟩
theorem enters117 : Enters Tryd.prog 117 := enters Tryd.func117 (by kernel_rfl) rfl

/-! ## slices.Clone[[]int,int] -/
noncomputable def E172 : Env := { tab := tab, sig := [], clos := [], live := [], eqs := [], inl := [] }
set_option maxRecDepth 100000 in
theorem r172 (N : Nat) (a0 : List Int) : runF N E172 Tryd.f172 [.imm false (.slice 3 (.int .i64))] [.deep false (.slice 3 (.int .i64))] (a0, ()) = p_Clone_Lint_int N a0 := by kernel_rfl
theorem env172 : EnvOk Tryd.prog (fa.at true) E172 := envOk mixed tabOk trivial trivial trivial
noncomputable def s172 : FSpec := ⟨[.imm false (.slice 3 (.int .i64))], [.deep false (.slice 3 (.int .i64))], fun x => S_Clone_Lint_int x.1, true⟩
theorem ok172 : FOk Tryd.prog fa 172 s172 := fn_says env172 Tryd.func172 rfl fun x y h => ⟨0, (r172 0 x.1).trans h⟩
theorem enters172 : Enters Tryd.prog 172 := enters Tryd.func172 (by kernel_rfl) rfl

/-! ## (loop.example/g00698/impl.Attr).copied -/
noncomputable def E154 : Env := { tab := tab, sig := [(172, s172)], clos := [], live := [], eqs := [], inl := [] }
set_option maxRecDepth 100000 in
theorem r154 (N : Nat) (a0 : T6) : runF N E154 Tryd.f154 [.imm true (.pair (.int .i64) (.pair (.slice 3 (.int .i64)) .unit))] [.deep true (.pair (.int .i64) (.pair (.slice 3 (.int .i64)) .unit))] (a0, ()) = p_impl_Attr_copied N a0 := by kernel_rfl
theorem env154 : EnvOk Tryd.prog (fa.at true) E154 := envOk mixed tabOk ⟨⟨enters172, ok172, fun _ => rfl⟩, trivial⟩ trivial trivial
noncomputable def s154 : FSpec := ⟨[.imm true (.pair (.int .i64) (.pair (.slice 3 (.int .i64)) .unit))], [.deep true (.pair (.int .i64) (.pair (.slice 3 (.int .i64)) .unit))], fun x => S_impl_Attr_copied x.1, true⟩
theorem ok154 : FOk Tryd.prog fa 154 s154 := fn_says env154 Tryd.func154 rfl fun x y h => ⟨0, (r154 0 x.1).trans h⟩
theorem enters154 : Enters Tryd.prog 154 := enters Tryd.func154 (by kernel_rfl) rfl

/-! ## (loop.example/g00698/impl.Msg).row -/
noncomputable def E128 : Env := { tab := tab, sig := [(154, s154)], clos := [], live := [], eqs := [], inl := [] }
set_option maxRecDepth 100000 in
theorem r128 (N : Nat) (a0 : T11) : runF N E128 Tryd.f128 [.imm true (.pair (.int .i64) (.pair (.int .i64) (.pair (.int .i64) (.pair (.int .i64) (.pair (.int .i64) (.pair (.int .i64) (.pair (.int .i64) (.pair (.int .i64) (.pair (.pair (.int .i64) (.pair (.int .i64) (.pair (.int .i64) (.pair (.int .i64) (.pair (.int .i64) .unit))))) (.pair (.pair (.int .i64) (.pair (.slice 3 (.int .i64)) .unit)) .unit))))))))))] [.deep true (.pair (.int .i64) (.pair (.int .i64) (.pair (.int .i64) (.pair (.pair (.int .i64) (.pair (.int .i64) (.pair (.int .i64) (.pair (.int .i64) (.pair (.int .i64) .unit))))) (.pair (.pair (.int .i64) (.pair (.slice 3 (.int .i64)) .unit)) .unit)))))] (a0, ()) = p_impl_Msg_row N a0 := by kernel_rfl
theorem env128 : EnvOk Tryd.prog (fa.at true) E128 := envOk mixed tabOk ⟨⟨enters154, ok154, fun _ => rfl⟩, trivial⟩ trivial trivial
noncomputable def s128 : FSpec := ⟨[.imm true (.pair (.int .i64) (.pair (.int .i64) (.pair (.int .i64) (.pair (.int .i64) (.pair (.int .i64) (.pair (.int .i64) (.pair (.int .i64) (.pair (.int .i64) (.pair (.pair (.int .i64) (.pair (.int .i64) (.pair (.int .i64) (.pair (.int .i64) (.pair (.int .i64) .unit))))) (.pair (.pair (.int .i64) (.pair (.slice 3 (.int .i64)) .unit)) .unit))))))))))], [.deep true (.pair (.int .i64) (.pair (.int .i64) (.pair (.int .i64) (.pair (.pair (.int .i64) (.pair (.int .i64) (.pair (.int .i64) (.pair (.int .i64) (.pair (.int .i64) .unit))))) (.pair (.pair (.int .i64) (.pair (.slice 3 (.int .i64)) .unit)) .unit)))))], fun x => S_impl_Msg_row x.1, true⟩
theorem ok128 : FOk Tryd.prog fa 128 s128 := fn_says env128 Tryd.func128 rfl fun x y h => ⟨0, (r128 0 x.1).trans h⟩
theorem enters128 : Enters Tryd.prog 128 := enters Tryd.func128 (by kernel_rfl) rfl

/-! ## loop.example/g00698/impl.noneAttr -/
noncomputable def E132 : Env := { tab := tab, sig := [], clos := [], live := [], eqs := [], inl := [] }
set_option maxRecDepth 100000 in
theorem r132 (N : Nat) (a0 : Int) : runF N E132 Tryd.f132 [.imm false (.int .i64)] [.deep true (.pair (.int .i64) (.pair (.slice 3 (.int .i64)) .unit))] (a0, ()) = p_impl_noneAttr N a0 := by kernel_rfl
theorem env132 : EnvOk Tryd.prog (fa.at true) E132 := envOk mixed tabOk trivial trivial trivial
noncomputable def s132 : FSpec := ⟨[.imm false (.int .i64)], [.deep true (.pair (.int .i64) (.pair (.slice 3 (.int .i64)) .unit))], fun x => S_impl_noneAttr x.1, true⟩
theorem ok132 : FOk Tryd.prog fa 132 s132 := fn_says env132 Tryd.func132 rfl fun x y h => ⟨0, (r132 0 x.1).trans h⟩
theorem enters132 : Enters Tryd.prog 132 := enters Tryd.func132 (by kernel_rfl) rfl

/-! ## slices.Equal[[]int,int] -/
noncomputable def E156 : Env := { tab := tab, sig := [], clos := [], live := [(0, [0, 1, 12, 13], [])], eqs := [], inl := [] }
set_option maxRecDepth 100000 in
theorem r156 (N : Nat) (a0 : List Int) (a1 : List Int) : runF N E156 Tryd.f156 [.imm false (.slice 3 (.int .i64)), .imm false (.slice 3 (.int .i64))] [.imm false .bool] (a0, a1, ()) = p_Equal_Lint_int N a0 a1 := by kernel_rfl
theorem env156 : EnvOk Tryd.prog (fa.at true) E156 := envOk mixed tabOk trivial trivial trivial
noncomputable def s156 : FSpec := ⟨[.imm false (.slice 3 (.int .i64)), .imm false (.slice 3 (.int .i64))], [.imm false .bool], fun x => S_Equal_Lint_int x.1 x.2.1, true⟩
theorem ok156 : FOk Tryd.prog fa 156 s156 := fn_says env156 Tryd.func156 rfl fun x y h => let ⟨N, hN⟩ := lim_some h; ⟨N, (r156 N x.1 x.2.1).trans hN⟩
theorem enters156 : Enters Tryd.prog 156 := enters Tryd.func156 (by kernel_rfl) rfl

/-! ## loop.example/g00698/impl.SameAttr -/
noncomputable def E131 : Env := { tab := tab, sig := [(156, s156)], clos := [], live := [], eqs := [], inl := [] }
set_option maxRecDepth 100000 in
theorem r131 (N : Nat) (a0 : T6) (a1 : T6) : runF N E131 Tryd.f131 [.imm true (.pair (.int .i64) (.pair (.slice 3 (.int .i64)) .unit)), .imm true (.pair (.int .i64) (.pair (.slice 3 (.int .i64)) .unit))] [.imm false .bool] (a0, a1, ()) = p_impl_SameAttr N a0 a1 := by kernel_rfl
theorem env131 : EnvOk Tryd.prog (fa.at true) E131 := envOk mixed tabOk ⟨⟨enters156, ok156, fun _ => rfl⟩, trivial⟩ trivial trivial
noncomputable def s131 : FSpec := ⟨[.imm true (.pair (.int .i64) (.pair (.slice 3 (.int .i64)) .unit)), .imm true (.pair (.int .i64) (.pair (.slice 3 (.int .i64)) .unit))], [.imm false .bool], fun x => S_impl_SameAttr x.1 x.2.1, true⟩
theorem ok131 : FOk Tryd.prog fa 131 s131 := fn_says env131 Tryd.func131 rfl fun x y h => ⟨0, (r131 0 x.1 x.2.1).trans h⟩
theorem enters131 : Enters Tryd.prog 131 := enters Tryd.func131 (by kernel_rfl) rfl

/-! ## loop.example/g00698/impl.goodRow -/
noncomputable def E127 : Env := { tab := tab, sig := [(85, s85), (129, s129), (130, s130), (132, s132), (131, s131)], clos := [], live := [], eqs := [(31, 5)], inl := [] }
set_option maxRecDepth 100000 in
theorem r127 (N : Nat) (a0 : Int) (a1 : T7) : runF N E127 Tryd.f127 [.imm false (.int .i64), .imm true (.pair (.int .i64) (.pair (.int .i64) (.pair (.int .i64) (.pair (.pair (.int .i64) (.pair (.int .i64) (.pair (.int .i64) (.pair (.int .i64) (.pair (.int .i64) .unit))))) (.pair (.pair (.int .i64) (.pair (.slice 3 (.int .i64)) .unit)) .unit)))))] [.imm false .bool] (a0, a1, ()) = p_impl_goodRow N a0 a1 := by kernel_rfl
theorem env127 : EnvOk Tryd.prog (fa.at true) E127 := envOk mixed tabOk ⟨⟨enters85, ok85, fun _ => rfl⟩, ⟨enters129, ok129, fun _ => rfl⟩, ⟨enters130, ok130, fun _ => rfl⟩, ⟨enters132, ok132, fun _ => rfl⟩, ⟨enters131, ok131, fun _ => rfl⟩, trivial⟩ trivial ⟨eq31, trivial⟩
noncomputable def s127 : FSpec := ⟨[.imm false (.int .i64), .imm true (.pair (.int .i64) (.pair (.int .i64) (.pair (.int .i64) (.pair (.pair (.int .i64) (.pair (.int .i64) (.pair (.int .i64) (.pair (.int .i64) (.pair (.int .i64) .unit))))) (.pair (.pair (.int .i64) (.pair (.slice 3 (.int .i64)) .unit)) .unit)))))], [.imm false .bool], fun x => S_impl_goodRow x.1 x.2.1, true⟩
theorem ok127 : FOk Tryd.prog fa 127 s127 := fn_says env127 Tryd.func127 rfl fun x y h => ⟨0, (r127 0 x.1 x.2.1).trans h⟩
theorem enters127 : Enters Tryd.prog 127 := enters Tryd.func127 (by kernel_rfl) rfl

/-! ## loop.example/g00698/impl.GoodMsg -/
noncomputable def E102 : Env := { tab := tab, sig := [(85, s85), (117, s117), (128, s128), (127, s127), (129, s129), (130, s130), (132, s132), (131, s131)], clos := [], live := [], eqs := [(31, 5)], inl := [] }
set_option maxRecDepth 100000 in
theorem r102 (N : Nat) (a0 : Int) (a1 : T11) : runF N E102 Tryd.f102 [.imm false (.int .i64), .imm true (.pair (.int .i64) (.pair (.int .i64) (.pair (.int .i64) (.pair (.int .i64) (.pair (.int .i64) (.pair (.int .i64) (.pair (.int .i64) (.pair (.int .i64) (.pair (.pair (.int .i64) (.pair (.int .i64) (.pair (.int .i64) (.pair (.int .i64) (.pair (.int .i64) .unit))))) (.pair (.pair (.int .i64) (.pair (.slice 3 (.int .i64)) .unit)) .unit))))))))))] [.imm false .bool] (a0, a1, ()) = p_impl_GoodMsg N a0 a1 := by kernel_rfl
theorem env102 : EnvOk Tryd.prog (fa.at true) E102 := envOk mixed tabOk ⟨⟨enters85, ok85, fun _ => rfl⟩, ⟨enters117, ok117, fun _ => rfl⟩, ⟨enters128, ok128, fun _ => rfl⟩, ⟨enters127, ok127, fun _ => rfl⟩, ⟨enters129, ok129, fun _ => rfl⟩, ⟨enters130, ok130, fun _ => rfl⟩, ⟨enters132, ok132, fun _ => rfl⟩, ⟨enters131, ok131, fun _ => rfl⟩, trivial⟩ trivial ⟨eq31, trivial⟩
noncomputable def s102 : FSpec := ⟨[.imm false (.int .i64), .imm true (.pair (.int .i64) (.pair (.int .i64) (.pair (.int .i64) (.pair (.int .i64) (.pair (.int .i64) (.pair (.int .i64) (.pair (.int .i64) (.pair (.int .i64) (.pair (.pair (.int .i64) (.pair (.int .i64) (.pair (.int .i64) (.pair (.int .i64) (.pair (.int .i64) .unit))))) (.pair (.pair (.int .i64) (.pair (.slice 3 (.int .i64)) .unit)) .unit))))))))))], [.imm false .bool], fun x => S_impl_GoodMsg x.1 x.2.1, true⟩
theorem ok102 : FOk Tryd.prog fa 102 s102 := fn_says env102 Tryd.func102 rfl fun x y h => ⟨0, (r102 0 x.1 x.2.1).trans h⟩
theorem enters102 : Enters Tryd.prog 102 := enters Tryd.func102 (by kernel_rfl) rfl

/-! ## loop.example/g00698/impl.ReadMsg -/
noncomputable def E80 : Env := { tab := tab, sig := [(73, s73), (68, s68), (110, s110), (109, s109), (72, s72), (111, s111), (112, s112), (102, s102)], clos := [], live := [], eqs := [], inl := [], imm := [31] }
set_option maxRecDepth 100000 in
theorem r80 (N : Nat) (a0 : Int) (a1 : ByteArray) : runF N E80 Tryd.f80 [.imm false (.int .i64), .imm false .str] [.deep true (.pair (.int .i64) (.pair (.int .i64) (.pair (.int .i64) (.pair (.int .i64) (.pair (.int .i64) (.pair (.int .i64) (.pair (.int .i64) (.pair (.int .i64) (.pair (.pair (.int .i64) (.pair (.int .i64) (.pair (.int .i64) (.pair (.int .i64) (.pair (.int .i64) .unit))))) (.pair (.pair (.int .i64) (.pair (.slice 3 (.int .i64)) .unit)) .unit)))))))))), .imm false (.int .i64), .imm false .bool] (a0, a1, ()) = p_impl_ReadMsg N a0 a1 := by kernel_rfl
theorem env80 : EnvOk Tryd.prog (fa.at true) E80 := envOk mixed tabOk ⟨⟨enters73, ok73, fun _ => rfl⟩, ⟨enters68, ok68, fun _ => rfl⟩, ⟨enters110, ok110, fun _ => rfl⟩, ⟨enters109, ok109, fun _ => rfl⟩, ⟨enters72, ok72, fun _ => rfl⟩, ⟨enters111, ok111, fun _ => rfl⟩, ⟨enters112, ok112, fun _ => rfl⟩, ⟨enters102, ok102, fun _ => rfl⟩, trivial⟩ trivial trivial
noncomputable def s80 : FSpec := ⟨[.imm false (.int .i64), .imm false .str], [.deep true (.pair (.int .i64) (.pair (.int .i64) (.pair (.int .i64) (.pair (.int .i64) (.pair (.int .i64) (.pair (.int .i64) (.pair (.int .i64) (.pair (.int .i64) (.pair (.pair (.int .i64) (.pair (.int .i64) (.pair (.int .i64) (.pair (.int .i64) (.pair (.int .i64) .unit))))) (.pair (.pair (.int .i64) (.pair (.slice 3 (.int .i64)) .unit)) .unit)))))))))), .imm false (.int .i64), .imm false .bool], fun x => S_impl_ReadMsg x.1 x.2.1, true⟩
theorem ok80 : FOk Tryd.prog fa 80 s80 := fn_says env80 Tryd.func80 rfl fun x y h => ⟨0, (r80 0 x.1 x.2.1).trans h⟩
theorem enters80 : Enters Tryd.prog 80 := enters Tryd.func80 (by kernel_rfl) rfl

/-! ## loop.example/g00698/impl.sumOf -/
noncomputable def E105 : Env := { tab := tab, sig := [], clos := [], live := [(0, [0, 1, 2, 9, 10], [])], eqs := [], inl := [] }
set_option maxRecDepth 100000 in
theorem r105 (N : Nat) (a0 : ByteArray) (a1 : Int) (a2 : Int) : runF N E105 Tryd.f105 [.imm false .str, .imm false (.int .i64), .imm false (.int .i64)] [.imm false (.int .i64)] (a0, a1, a2, ()) = p_impl_sumOf N a0 a1 a2 := by kernel_rfl
theorem env105 : EnvOk Tryd.prog (fa.at true) E105 := envOk mixed tabOk trivial trivial trivial
noncomputable def s105 : FSpec := ⟨[.imm false .str, .imm false (.int .i64), .imm false (.int .i64)], [.imm false (.int .i64)], fun x => S_impl_sumOf x.1 x.2.1 x.2.2.1, true⟩
theorem ok105 : FOk Tryd.prog fa 105 s105 := fn_says env105 Tryd.func105 rfl fun x y h => let ⟨N, hN⟩ := lim_some h; ⟨N, (r105 N x.1 x.2.1 x.2.2.1).trans hN⟩
theorem enters105 : Enters Tryd.prog 105 := enters Tryd.func105 (by kernel_rfl) rfl

end Go.Proofs.YtmnekhlgldljcaaDoor.Am
