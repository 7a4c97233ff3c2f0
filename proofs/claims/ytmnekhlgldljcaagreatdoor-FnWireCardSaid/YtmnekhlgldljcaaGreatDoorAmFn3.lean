/- Functions, as they run on data. No condition. -/
import Derived.Test.YtmnekhlgldljcaaGreatDoorAmFn2
set_option linter.unusedVariables false
set_option maxRecDepth 100000
namespace Go.Proofs.YtmnekhlgldljcaaGreatDoor.Am
open Go.AM Go.AM.P Go.Proofs Go.Shelf
noncomputable def E91 : Env := { tab := tab, sig := [], clos := [], live := [(0, [0, 1, 5, 8, 9, 17, 18, 19, 20, 23, 24, 25, 39, 40, 41, 42, 43, 44, 45, 46], [])], eqs := [], inl := [] }
set_option maxRecDepth 100000 in
theorem r91 (N : Nat) (a0 : ByteArray) (a1 : Int) : runF N E91 Tryz.f91 [.imm false .str, .imm false (.int .i64)] [.imm false (.int .i64)] (a0, a1, ()) = p_impl_digits N a0 a1 := by kernel_rfl
theorem env91 : EnvOk Tryz.prog (fa.at true) E91 := envOk mixed tabOk trivial trivial trivial
noncomputable def s91 : FSpec := ⟨[.imm false .str, .imm false (.int .i64)], [.imm false (.int .i64)], fun x => S_impl_digits x.1 x.2.1, true⟩
theorem ok91 : FOk Tryz.prog fa 91 s91 := fn_says env91 Tryz.func91 rfl fun x y h => let ⟨N, hN⟩ := lim_some h; ⟨N, (r91 N x.1 x.2.1).trans hN⟩
theorem enters91 : Enters Tryz.prog 91 := enters Tryz.func91 (by kernel_rfl) rfl
noncomputable def E62 : Env := { tab := tab, sig := [(91, s91)], clos := [], live := [(0, [1, 6, 11, 12, 13], [])], eqs := [], inl := [] }
set_option maxRecDepth 100000 in
theorem r62 (N : Nat) (a0 : List ByteArray) (a1 : Int) : runF N E62 Tryz.f62 [.imm false (.slice 9 .str), .imm false (.int .i64)] [.deep false (.slice 3 (.int .i64)), .imm false .bool] (a0, a1, ()) = p_impl_numbers N a0 a1 := by kernel_rfl
theorem env62 : EnvOk Tryz.prog (fa.at true) E62 := envOk mixed tabOk ⟨⟨enters91, ok91, fun _ => rfl⟩, trivial⟩ trivial trivial
noncomputable def s62 : FSpec := ⟨[.imm false (.slice 9 .str), .imm false (.int .i64)], [.deep false (.slice 3 (.int .i64)), .imm false .bool], fun x => S_impl_numbers x.1 x.2.1, true⟩
theorem ok62 : FOk Tryz.prog fa 62 s62 := fn_says env62 Tryz.func62 rfl fun x y h => let ⟨N, hN⟩ := lim_some h; ⟨N, (r62 N x.1 x.2.1).trans hN⟩
theorem enters62 : Enters Tryz.prog 62 := enters Tryz.func62 (by kernel_rfl) rfl
noncomputable def E63 : Env := { tab := tab, sig := [(59, s59), (60, s60), (62, s62), (92, s92), (77, s77)], clos := [], live := [], eqs := [], inl := [], imm := [11, 16, 21, 31, 71, 76, 93] }
set_option maxRecDepth 100000 in
theorem r63 (N : Nat) (a0 : ByteArray) : runF N E63 Tryz.f63 [.imm false .str] [.imm true (.pair (.int .i64) (.pair (.int .i64) (.pair (.int .i64) (.pair (.int .i64) (.pair (.int .i64) .unit))))), .imm false (.int .i64), .imm false .bool] (a0, ()) = p_impl_ReadCmd N a0 := by kernel_rfl
theorem env63 : EnvOk Tryz.prog (fa.at true) E63 := envOk mixed tabOk ⟨⟨enters59, ok59, fun _ => rfl⟩, ⟨enters60, ok60, fun _ => rfl⟩, ⟨enters62, ok62, fun _ => rfl⟩, ⟨enters92, ok92, fun _ => rfl⟩, ⟨enters77, ok77, fun _ => rfl⟩, trivial⟩ trivial trivial
noncomputable def s63 : FSpec := ⟨[.imm false .str], [.imm true (.pair (.int .i64) (.pair (.int .i64) (.pair (.int .i64) (.pair (.int .i64) (.pair (.int .i64) .unit))))), .imm false (.int .i64), .imm false .bool], fun x => S_impl_ReadCmd x.1, true⟩
theorem ok63 : FOk Tryz.prog fa 63 s63 := fn_says env63 Tryz.func63 rfl fun x y h => ⟨0, (r63 0 x.1).trans h⟩
theorem enters63 : Enters Tryz.prog 63 := enters Tryz.func63 (by kernel_rfl) rfl
def Lay93_ren : Go.Shelf.Ren := ⟨fun | 145 => 93 | 220 => 110 | 219 => 120 | 217 => 126 | 225 => 127 | 224 => 128 | 267 => 129 | 266 => 136 | 314 => 137 | n => n, fun | 9 => 9 | 4 => 4 | 59 => 111 | 3 => 3 | 5 => 5 | 46 => 114 | 146 => 149 | 51 => 148 | n => n, fun | 1 => 0 | n => n⟩
theorem Lay93 : Go.Proofs.LaysM.n145 Tryz.prog Lay93_ren := {
  mixed := by kernel_rfl
  f145 := Tryz.func93.trans (congrArg some (by kernel_rfl))
  f217 := Tryz.func126.trans (congrArg some (by kernel_rfl))
  f219 := Tryz.func120.trans (congrArg some (by kernel_rfl))
  f220 := Tryz.func110.trans (congrArg some (by kernel_rfl))
  f224 := Tryz.func128.trans (congrArg some (by kernel_rfl))
  f225 := Tryz.func127.trans (congrArg some (by kernel_rfl))
  f266 := Tryz.func136.trans (congrArg some (by kernel_rfl))
  f267 := Tryz.func129.trans (congrArg some (by kernel_rfl))
  f314 := Tryz.func137.trans (congrArg some (by kernel_rfl))
  t3 := Tryz.underlying3
  a3 := Tryz.isAgg3
  z3 := Tryz.sizeOf3
  v3 := Tryz.zeroValue3
  t4 := Tryz.underlying4
  a4 := Tryz.isAgg4
  z4 := Tryz.sizeOf4
  v4 := Tryz.zeroValue4
  t5 := Tryz.underlying5
  a5 := Tryz.isAgg5
  z5 := Tryz.sizeOf5
  v5 := Tryz.zeroValue5
  t9 := Tryz.underlying9
  a9 := Tryz.isAgg9
  z9 := Tryz.sizeOf9
  v9 := Tryz.zeroValue9
  t46 := Tryz.underlying114
  a46 := Tryz.isAgg114
  z46 := Tryz.sizeOf114
  v46 := Tryz.zeroValue114
  t51 := Tryz.underlying148
  a51 := Tryz.isAgg148
  z51 := Tryz.sizeOf148
  v51 := Tryz.zeroValue148
  t59 := Tryz.underlying111
  a59 := Tryz.isAgg111
  z59 := Tryz.sizeOf111
  v59 := Tryz.zeroValue111
  t146 := Tryz.underlying149
  a146 := Tryz.isAgg149
  z146 := Tryz.sizeOf149
  v146 := Tryz.zeroValue149
  g1 := by kernel_rfl
  i3 := by kernel_rfl
  i4 := by kernel_rfl
  i5 := by kernel_rfl
  i9 := by kernel_rfl
  i46 := by kernel_rfl
  i51 := by kernel_rfl
  i59 := by kernel_rfl
  i146 := by kernel_rfl
  m1 := by kernel_rfl
  s1_3 := fun w h => Go.Proofs.cell_of_shapedOpen_int (zero := #[.int .i64 0]) (t := 3) h (of_decide_eq_true (by kernel_rfl)) (by kernel_rfl) rfl (by kernel_rfl) (by kernel_rfl) Tryz.underlying3 }
noncomputable def s93 : FSpec := ⟨[.imm false .str, .imm false .str], [.imm false .str, .imm false .str, .imm false .bool], fun x => S_strings_Cut x.1 x.2.1, true⟩
theorem ok93 : FOk Tryz.prog fa 93 s93 := ok_Cut Lay93 (fun W h => h.1) (by decide)
theorem enters93 : Enters Tryz.prog 93 := enters Tryz.func93 (by kernel_rfl) rfl
noncomputable def E64 : Env := { tab := tab, sig := [(93, s93), (91, s91), (59, s59), (62, s62), (78, s78)], clos := [], live := [], eqs := [], inl := [] }
set_option maxRecDepth 100000 in
theorem r64 (N : Nat) (a0 : Int) (a1 : ByteArray) : runF N E64 Tryz.f64 [.imm false (.int .i64), .imm false .str] [.deep true (.pair (.int .i64) (.pair (.slice 3 (.int .i64)) .unit)), .imm false .bool] (a0, a1, ()) = p_impl_ReadAttr N a0 a1 := by kernel_rfl
theorem env64 : EnvOk Tryz.prog (fa.at true) E64 := envOk mixed tabOk ⟨⟨enters93, ok93, fun _ => rfl⟩, ⟨enters91, ok91, fun _ => rfl⟩, ⟨enters59, ok59, fun _ => rfl⟩, ⟨enters62, ok62, fun _ => rfl⟩, ⟨enters78, ok78, fun _ => rfl⟩, trivial⟩ trivial trivial
noncomputable def s64 : FSpec := ⟨[.imm false (.int .i64), .imm false .str], [.deep true (.pair (.int .i64) (.pair (.slice 3 (.int .i64)) .unit)), .imm false .bool], fun x => S_impl_ReadAttr x.1 x.2.1, true⟩
theorem ok64 : FOk Tryz.prog fa 64 s64 := fn_says env64 Tryz.func64 rfl fun x y h => ⟨0, (r64 0 x.1 x.2.1).trans h⟩
theorem enters64 : Enters Tryz.prog 64 := enters Tryz.func64 (by kernel_rfl) rfl
noncomputable def E32 : Env := { tab := tab, sig := [(59, s59), (41, s41), (61, s61), (60, s60), (62, s62), (63, s63), (64, s64), (49, s49)], clos := [], live := [], eqs := [], inl := [], imm := [31] }
set_option maxRecDepth 100000 in
theorem r32 (N : Nat) (a0 : Int) (a1 : ByteArray) : runF N E32 Tryz.f32 [.imm false (.int .i64), .imm false .str] [.deep true (.pair (.int .i64) (.pair (.int .i64) (.pair (.int .i64) (.pair (.int .i64) (.pair (.int .i64) (.pair (.int .i64) (.pair (.int .i64) (.pair (.int .i64) (.pair (.pair (.int .i64) (.pair (.int .i64) (.pair (.int .i64) (.pair (.int .i64) (.pair (.int .i64) .unit))))) (.pair (.pair (.int .i64) (.pair (.slice 3 (.int .i64)) .unit)) .unit)))))))))), .imm false (.int .i64), .imm false .bool] (a0, a1, ()) = p_impl_ReadMsg N a0 a1 := by kernel_rfl
theorem env32 : EnvOk Tryz.prog (fa.at true) E32 := envOk mixed tabOk ⟨⟨enters59, ok59, fun _ => rfl⟩, ⟨enters41, ok41, fun _ => rfl⟩, ⟨enters61, ok61, fun _ => rfl⟩, ⟨enters60, ok60, fun _ => rfl⟩, ⟨enters62, ok62, fun _ => rfl⟩, ⟨enters63, ok63, fun _ => rfl⟩, ⟨enters64, ok64, fun _ => rfl⟩, ⟨enters49, ok49, fun _ => rfl⟩, trivial⟩ trivial trivial
noncomputable def s32 : FSpec := ⟨[.imm false (.int .i64), .imm false .str], [.deep true (.pair (.int .i64) (.pair (.int .i64) (.pair (.int .i64) (.pair (.int .i64) (.pair (.int .i64) (.pair (.int .i64) (.pair (.int .i64) (.pair (.int .i64) (.pair (.pair (.int .i64) (.pair (.int .i64) (.pair (.int .i64) (.pair (.int .i64) (.pair (.int .i64) .unit))))) (.pair (.pair (.int .i64) (.pair (.slice 3 (.int .i64)) .unit)) .unit)))))))))), .imm false (.int .i64), .imm false .bool], fun x => S_impl_ReadMsg x.1 x.2.1, true⟩
theorem ok32 : FOk Tryz.prog fa 32 s32 := fn_says env32 Tryz.func32 rfl fun x y h => ⟨0, (r32 0 x.1 x.2.1).trans h⟩
theorem enters32 : Enters Tryz.prog 32 := enters Tryz.func32 (by kernel_rfl) rfl
noncomputable def E9 : Env := { tab := tab, sig := [(32, s32), (29, s29)], clos := [], live := [], eqs := [], inl := [] }
set_option maxRecDepth 100000 in
theorem r9 (N : Nat) (a0 : Int) (a1 : ByteArray) : runF N E9 Tryz.f9 [.imm false (.int .i64), .imm false .str] [.deep true (.pair (.int .i64) (.pair (.int .i64) (.pair (.int .i64) (.pair (.int .i64) (.pair (.int .i64) (.pair (.int .i64) (.pair (.int .i64) (.pair (.int .i64) (.pair (.pair (.int .i64) (.pair (.int .i64) (.pair (.int .i64) (.pair (.int .i64) (.pair (.int .i64) .unit))))) (.pair (.pair (.int .i64) (.pair (.slice 3 (.int .i64)) .unit)) .unit)))))))))), .imm false .bool] (a0, a1, ()) = p_impl_ReadMsgBytes N a0 a1 := by kernel_rfl
theorem env9 : EnvOk Tryz.prog (fa.at true) E9 := envOk mixed tabOk ⟨⟨enters32, ok32, fun _ => rfl⟩, ⟨enters29, ok29, fun _ => rfl⟩, trivial⟩ trivial trivial
noncomputable def s9 : FSpec := ⟨[.imm false (.int .i64), .imm false .str], [.deep true (.pair (.int .i64) (.pair (.int .i64) (.pair (.int .i64) (.pair (.int .i64) (.pair (.int .i64) (.pair (.int .i64) (.pair (.int .i64) (.pair (.int .i64) (.pair (.pair (.int .i64) (.pair (.int .i64) (.pair (.int .i64) (.pair (.int .i64) (.pair (.int .i64) .unit))))) (.pair (.pair (.int .i64) (.pair (.slice 3 (.int .i64)) .unit)) .unit)))))))))), .imm false .bool], fun x => S_impl_ReadMsgBytes x.1 x.2.1, true⟩
theorem ok9 : FOk Tryz.prog fa 9 s9 := fn_says env9 Tryz.func9 rfl fun x y h => ⟨0, (r9 0 x.1 x.2.1).trans h⟩
theorem enters9 : Enters Tryz.prog 9 := enters Tryz.func9 (by kernel_rfl) rfl
noncomputable def E21 : Env := { tab := tab, sig := [(41, s41), (33, s33), (9, s9)], clos := [], live := [(0, [0, 4, 6, 9, 10, 55, 56, 57, 58], [])], eqs := [], inl := [] }
set_option maxRecDepth 100000 in
theorem r21 (N : Nat) (a0 : Int) (a1 : T15) (a2 : ByteArray) : runF N E21 Tryz.f21 [.imm false (.int .i64), .imm true (.pair .str (.pair (.int .i64) .unit)), .imm false .str] [.imm true (.pair .str (.pair (.int .i64) .unit)), .deep false (.slice 30 (.pair (.int .i64) (.pair (.int .i64) (.pair (.int .i64) (.pair (.int .i64) (.pair (.int .i64) (.pair (.int .i64) (.pair (.int .i64) (.pair (.int .i64) (.pair (.pair (.int .i64) (.pair (.int .i64) (.pair (.int .i64) (.pair (.int .i64) (.pair (.int .i64) .unit))))) (.pair (.pair (.int .i64) (.pair (.slice 3 (.int .i64)) .unit)) .unit))))))))))), .imm false .bool] (a0, a1, a2, ()) = p_impl_FeedReader N a0 a1 a2 := by kernel_rfl
theorem env21 : EnvOk Tryz.prog (fa.at true) E21 := envOk mixed tabOk ⟨⟨enters41, ok41, fun _ => rfl⟩, ⟨enters33, ok33, fun _ => rfl⟩, ⟨enters9, ok9, fun _ => rfl⟩, trivial⟩ trivial trivial
noncomputable def s21 : FSpec := ⟨[.imm false (.int .i64), .imm true (.pair .str (.pair (.int .i64) .unit)), .imm false .str], [.imm true (.pair .str (.pair (.int .i64) .unit)), .deep false (.slice 30 (.pair (.int .i64) (.pair (.int .i64) (.pair (.int .i64) (.pair (.int .i64) (.pair (.int .i64) (.pair (.int .i64) (.pair (.int .i64) (.pair (.int .i64) (.pair (.pair (.int .i64) (.pair (.int .i64) (.pair (.int .i64) (.pair (.int .i64) (.pair (.int .i64) .unit))))) (.pair (.pair (.int .i64) (.pair (.slice 3 (.int .i64)) .unit)) .unit))))))))))), .imm false .bool], fun x => S_impl_FeedReader x.1 x.2.1 x.2.2.1, true⟩
theorem ok21 : FOk Tryz.prog fa 21 s21 := fn_says env21 Tryz.func21 rfl fun x y h => let ⟨N, hN⟩ := lim_some h; ⟨N, (r21 N x.1 x.2.1 x.2.2.1).trans hN⟩
theorem enters21 : Enters Tryz.prog 21 := enters Tryz.func21 (by kernel_rfl) rfl
noncomputable def E18 : Env := { tab := tab, sig := [(21, s21)], clos := [], live := [], eqs := [], inl := [] }
set_option maxRecDepth 100000 in
theorem r18 (N : Nat) (a0 : Int) (a1 : ByteArray) : runF N E18 Tryz.f18 [.imm false (.int .i64), .imm false .str] [.deep false (.slice 30 (.pair (.int .i64) (.pair (.int .i64) (.pair (.int .i64) (.pair (.int .i64) (.pair (.int .i64) (.pair (.int .i64) (.pair (.int .i64) (.pair (.int .i64) (.pair (.pair (.int .i64) (.pair (.int .i64) (.pair (.int .i64) (.pair (.int .i64) (.pair (.int .i64) .unit))))) (.pair (.pair (.int .i64) (.pair (.slice 3 (.int .i64)) .unit)) .unit))))))))))), .imm false (.int .i64), .imm false .bool] (a0, a1, ()) = p_impl_ReadWire N a0 a1 := by kernel_rfl
theorem env18 : EnvOk Tryz.prog (fa.at true) E18 := envOk mixed tabOk ⟨⟨enters21, ok21, fun _ => rfl⟩, trivial⟩ trivial trivial
noncomputable def s18 : FSpec := ⟨[.imm false (.int .i64), .imm false .str], [.deep false (.slice 30 (.pair (.int .i64) (.pair (.int .i64) (.pair (.int .i64) (.pair (.int .i64) (.pair (.int .i64) (.pair (.int .i64) (.pair (.int .i64) (.pair (.int .i64) (.pair (.pair (.int .i64) (.pair (.int .i64) (.pair (.int .i64) (.pair (.int .i64) (.pair (.int .i64) .unit))))) (.pair (.pair (.int .i64) (.pair (.slice 3 (.int .i64)) .unit)) .unit))))))))))), .imm false (.int .i64), .imm false .bool], fun x => S_impl_ReadWire x.1 x.2.1, true⟩
theorem ok18 : FOk Tryz.prog fa 18 s18 := fn_says env18 Tryz.func18 rfl fun x y h => ⟨0, (r18 0 x.1 x.2.1).trans h⟩
theorem enters18 : Enters Tryz.prog 18 := enters Tryz.func18 (by kernel_rfl) rfl
noncomputable def E65 : Env := { tab := tab, sig := [], clos := [], live := [(0, [0, 1, 12, 13], [])], eqs := [], inl := [] }
set_option maxRecDepth 100000 in
theorem r65 (N : Nat) (a0 : List Int) (a1 : List Int) : runF N E65 Tryz.f65 [.imm false (.slice 3 (.int .i64)), .imm false (.slice 3 (.int .i64))] [.imm false .bool] (a0, a1, ()) = p_laws_sameInts N a0 a1 := by kernel_rfl
theorem env65 : EnvOk Tryz.prog (fa.at true) E65 := envOk mixed tabOk trivial trivial trivial
noncomputable def s65 : FSpec := ⟨[.imm false (.slice 3 (.int .i64)), .imm false (.slice 3 (.int .i64))], [.imm false .bool], fun x => S_laws_sameInts x.1 x.2.1, true⟩
theorem ok65 : FOk Tryz.prog fa 65 s65 := fn_says env65 Tryz.func65 rfl fun x y h => let ⟨N, hN⟩ := lim_some h; ⟨N, (r65 N x.1 x.2.1).trans hN⟩
theorem enters65 : Enters Tryz.prog 65 := enters Tryz.func65 (by kernel_rfl) rfl
noncomputable def E34 : Env := { tab := tab, sig := [(65, s65)], clos := [], live := [], eqs := [], inl := [] }
set_option maxRecDepth 100000 in
theorem r34 (N : Nat) (a0 : T6) (a1 : T6) : runF N E34 Tryz.f34 [.imm true (.pair (.int .i64) (.pair (.slice 3 (.int .i64)) .unit)), .imm true (.pair (.int .i64) (.pair (.slice 3 (.int .i64)) .unit))] [.imm false .bool] (a0, a1, ()) = p_laws_sameAttr N a0 a1 := by kernel_rfl
theorem env34 : EnvOk Tryz.prog (fa.at true) E34 := envOk mixed tabOk ⟨⟨enters65, ok65, fun _ => rfl⟩, trivial⟩ trivial trivial
noncomputable def s34 : FSpec := ⟨[.imm true (.pair (.int .i64) (.pair (.slice 3 (.int .i64)) .unit)), .imm true (.pair (.int .i64) (.pair (.slice 3 (.int .i64)) .unit))], [.imm false .bool], fun x => S_laws_sameAttr x.1 x.2.1, true⟩
theorem ok34 : FOk Tryz.prog fa 34 s34 := fn_says env34 Tryz.func34 rfl fun x y h => ⟨0, (r34 0 x.1 x.2.1).trans h⟩
theorem enters34 : Enters Tryz.prog 34 := enters Tryz.func34 (by kernel_rfl) rfl
noncomputable def E12 : Env := { tab := tab, sig := [(34, s34)], clos := [], live := [], eqs := [(25, [false, false, false, false, false])], inl := [] }
set_option maxRecDepth 100000 in
theorem r12 (N : Nat) (a0 : T11) (a1 : T11) : runF N E12 Tryz.f12 [.imm true (.pair (.int .i64) (.pair (.int .i64) (.pair (.int .i64) (.pair (.int .i64) (.pair (.int .i64) (.pair (.int .i64) (.pair (.int .i64) (.pair (.int .i64) (.pair (.pair (.int .i64) (.pair (.int .i64) (.pair (.int .i64) (.pair (.int .i64) (.pair (.int .i64) .unit))))) (.pair (.pair (.int .i64) (.pair (.slice 3 (.int .i64)) .unit)) .unit)))))))))), .imm true (.pair (.int .i64) (.pair (.int .i64) (.pair (.int .i64) (.pair (.int .i64) (.pair (.int .i64) (.pair (.int .i64) (.pair (.int .i64) (.pair (.int .i64) (.pair (.pair (.int .i64) (.pair (.int .i64) (.pair (.int .i64) (.pair (.int .i64) (.pair (.int .i64) .unit))))) (.pair (.pair (.int .i64) (.pair (.slice 3 (.int .i64)) .unit)) .unit))))))))))] [.imm false .bool] (a0, a1, ()) = p_laws_sameMsg N a0 a1 := by kernel_rfl
theorem env12 : EnvOk Tryz.prog (fa.at true) E12 := envOk mixed tabOk ⟨⟨enters34, ok34, fun _ => rfl⟩, trivial⟩ trivial ⟨eq25, trivial⟩
noncomputable def s12 : FSpec := ⟨[.imm true (.pair (.int .i64) (.pair (.int .i64) (.pair (.int .i64) (.pair (.int .i64) (.pair (.int .i64) (.pair (.int .i64) (.pair (.int .i64) (.pair (.int .i64) (.pair (.pair (.int .i64) (.pair (.int .i64) (.pair (.int .i64) (.pair (.int .i64) (.pair (.int .i64) .unit))))) (.pair (.pair (.int .i64) (.pair (.slice 3 (.int .i64)) .unit)) .unit)))))))))), .imm true (.pair (.int .i64) (.pair (.int .i64) (.pair (.int .i64) (.pair (.int .i64) (.pair (.int .i64) (.pair (.int .i64) (.pair (.int .i64) (.pair (.int .i64) (.pair (.pair (.int .i64) (.pair (.int .i64) (.pair (.int .i64) (.pair (.int .i64) (.pair (.int .i64) .unit))))) (.pair (.pair (.int .i64) (.pair (.slice 3 (.int .i64)) .unit)) .unit))))))))))], [.imm false .bool], fun x => S_laws_sameMsg x.1 x.2.1, true⟩
theorem ok12 : FOk Tryz.prog fa 12 s12 := fn_says env12 Tryz.func12 rfl fun x y h => ⟨0, (r12 0 x.1 x.2.1).trans h⟩
theorem enters12 : Enters Tryz.prog 12 := enters Tryz.func12 (by kernel_rfl) rfl
noncomputable def E19 : Env := { tab := tab, sig := [(12, s12)], clos := [], live := [(0, [0, 1, 12, 13], [])], eqs := [], inl := [] }
set_option maxRecDepth 100000 in
theorem r19 (N : Nat) (a0 : List T11) (a1 : List T11) : runF N E19 Tryz.f19 [.imm false (.slice 30 (.pair (.int .i64) (.pair (.int .i64) (.pair (.int .i64) (.pair (.int .i64) (.pair (.int .i64) (.pair (.int .i64) (.pair (.int .i64) (.pair (.int .i64) (.pair (.pair (.int .i64) (.pair (.int .i64) (.pair (.int .i64) (.pair (.int .i64) (.pair (.int .i64) .unit))))) (.pair (.pair (.int .i64) (.pair (.slice 3 (.int .i64)) .unit)) .unit))))))))))), .imm false (.slice 30 (.pair (.int .i64) (.pair (.int .i64) (.pair (.int .i64) (.pair (.int .i64) (.pair (.int .i64) (.pair (.int .i64) (.pair (.int .i64) (.pair (.int .i64) (.pair (.pair (.int .i64) (.pair (.int .i64) (.pair (.int .i64) (.pair (.int .i64) (.pair (.int .i64) .unit))))) (.pair (.pair (.int .i64) (.pair (.slice 3 (.int .i64)) .unit)) .unit)))))))))))] [.imm false .bool] (a0, a1, ()) = p_laws_sameMsgs N a0 a1 := by kernel_rfl
theorem env19 : EnvOk Tryz.prog (fa.at true) E19 := envOk mixed tabOk ⟨⟨enters12, ok12, fun _ => rfl⟩, trivial⟩ trivial trivial
noncomputable def s19 : FSpec := ⟨[.imm false (.slice 30 (.pair (.int .i64) (.pair (.int .i64) (.pair (.int .i64) (.pair (.int .i64) (.pair (.int .i64) (.pair (.int .i64) (.pair (.int .i64) (.pair (.int .i64) (.pair (.pair (.int .i64) (.pair (.int .i64) (.pair (.int .i64) (.pair (.int .i64) (.pair (.int .i64) .unit))))) (.pair (.pair (.int .i64) (.pair (.slice 3 (.int .i64)) .unit)) .unit))))))))))), .imm false (.slice 30 (.pair (.int .i64) (.pair (.int .i64) (.pair (.int .i64) (.pair (.int .i64) (.pair (.int .i64) (.pair (.int .i64) (.pair (.int .i64) (.pair (.int .i64) (.pair (.pair (.int .i64) (.pair (.int .i64) (.pair (.int .i64) (.pair (.int .i64) (.pair (.int .i64) .unit))))) (.pair (.pair (.int .i64) (.pair (.slice 3 (.int .i64)) .unit)) .unit)))))))))))], [.imm false .bool], fun x => S_laws_sameMsgs x.1 x.2.1, true⟩
theorem ok19 : FOk Tryz.prog fa 19 s19 := fn_says env19 Tryz.func19 rfl fun x y h => let ⟨N, hN⟩ := lim_some h; ⟨N, (r19 N x.1 x.2.1).trans hN⟩
theorem enters19 : Enters Tryz.prog 19 := enters Tryz.func19 (by kernel_rfl) rfl
noncomputable def E36 : Env := { tab := tab, sig := [(43, s43)], clos := [], live := [(0, [0, 1, 2, 7, 16, 17, 18], [])], eqs := [], inl := [] }
set_option maxRecDepth 100000 in
theorem r36 (N : Nat) (a0 : T14) (a1 : ByteArray) (a2 : ByteArray) : runF N E36 Tryz.f36 [.ptr (.pair (.slice 5 (.int .u8)) (.pair (.int .i64) (.pair (.int .u64) .unit))), .imm false .str, .imm false .str] [.imm false .str] (a0, a1, a2, ()) = p_Pspec_l1Cur_spoilt N a0 a1 a2 := by kernel_rfl
theorem env36 : EnvOk Tryz.prog (fa.at true) E36 := envOk mixed tabOk ⟨⟨enters43, ok43, fun _ => rfl⟩, trivial⟩ trivial trivial
noncomputable def s36 : FSpec := ⟨[.ptr (.pair (.slice 5 (.int .u8)) (.pair (.int .i64) (.pair (.int .u64) .unit))), .imm false .str, .imm false .str], [.imm false .str], fun x => S_Pspec_l1Cur_spoilt x.1 x.2.1 x.2.2.1, true⟩
theorem ok36 : FOk Tryz.prog fa 36 s36 := fn_says env36 Tryz.func36 rfl fun x y h => let ⟨N, hN⟩ := lim_some h; ⟨N, (r36 N x.1 x.2.1 x.2.2.1).trans hN⟩
theorem enters36 : Enters Tryz.prog 36 := enters Tryz.func36 (by kernel_rfl) rfl
noncomputable def E26 : Env := { tab := tab, sig := [(45, s45)], clos := [], live := [], eqs := [], inl := [] }
set_option maxRecDepth 100000 in
theorem r26 (N : Nat) (a0 : ByteArray) (a1 : Int) (a2 : Int) : runF N E26 Tryz.f26 [.imm false .str, .imm false (.int .i64), .imm false (.int .i64)] [.imm false .str, .imm false .bool] (a0, a1, a2, ()) = p_spec_SpoilByte N a0 a1 a2 := by kernel_rfl
theorem env26 : EnvOk Tryz.prog (fa.at true) E26 := envOk mixed tabOk ⟨⟨enters45, ok45, fun _ => rfl⟩, trivial⟩ trivial trivial
noncomputable def s26 : FSpec := ⟨[.imm false .str, .imm false (.int .i64), .imm false (.int .i64)], [.imm false .str, .imm false .bool], fun x => S_spec_SpoilByte x.1 x.2.1 x.2.2.1, true⟩
theorem ok26 : FOk Tryz.prog fa 26 s26 := fn_says env26 Tryz.func26 rfl fun x y h => ⟨0, (r26 0 x.1 x.2.1 x.2.2.1).trans h⟩
theorem enters26 : Enters Tryz.prog 26 := enters Tryz.func26 (by kernel_rfl) rfl
noncomputable def E42 : Env := { tab := tab, sig := [(39, s39), (40, s40), (8, s8), (43, s43), (36, s36), (26, s26)], clos := [], live := [(0, [0, 4, 5, 17, 18, 19], [])], eqs := [], inl := [] }
set_option maxRecDepth 100000 in
theorem r42 (N : Nat) (a0 : T14) : runF N E42 Tryz.f42 [.ptr (.pair (.slice 5 (.int .u8)) (.pair (.int .i64) (.pair (.int .u64) .unit)))] [.imm false (.int .i64), .imm false .str] (a0, ()) = p_Pspec_l1Cur_wire N a0 := by kernel_rfl
theorem env42 : EnvOk Tryz.prog (fa.at true) E42 := envOk mixed tabOk ⟨⟨enters39, ok39, fun _ => rfl⟩, ⟨enters40, ok40, fun _ => rfl⟩, ⟨enters8, ok8, fun _ => rfl⟩, ⟨enters43, ok43, fun _ => rfl⟩, ⟨enters36, ok36, fun _ => rfl⟩, ⟨enters26, ok26, fun _ => rfl⟩, trivial⟩ trivial trivial
noncomputable def s42 : FSpec := ⟨[.ptr (.pair (.slice 5 (.int .u8)) (.pair (.int .i64) (.pair (.int .u64) .unit)))], [.imm false (.int .i64), .imm false .str], fun x => S_Pspec_l1Cur_wire x.1, true⟩
theorem ok42 : FOk Tryz.prog fa 42 s42 := fn_says env42 Tryz.func42 rfl fun x y h => let ⟨N, hN⟩ := lim_some h; ⟨N, (r42 N x.1).trans hN⟩
theorem enters42 : Enters Tryz.prog 42 := enters Tryz.func42 (by kernel_rfl) rfl
noncomputable def E94 : Env := { tab := tab, sig := [], clos := [], live := [(0, [0, 1, 5, 6, 7], [])], eqs := [], inl := [] }
set_option maxRecDepth 100000 in
theorem r94 (N : Nat) (a0 : ByteArray) (a1 : Int) : runF N E94 Tryz.f94 [.imm false .str, .imm false (.int .u8)] [.deep false (.slice 9 .str)] (a0, a1, ()) = p_spec_l1Split N a0 a1 := by kernel_rfl
theorem env94 : EnvOk Tryz.prog (fa.at true) E94 := envOk mixed tabOk trivial trivial trivial
noncomputable def s94 : FSpec := ⟨[.imm false .str, .imm false (.int .u8)], [.deep false (.slice 9 .str)], fun x => S_spec_l1Split x.1 x.2.1, true⟩
theorem ok94 : FOk Tryz.prog fa 94 s94 := fn_says env94 Tryz.func94 rfl fun x y h => let ⟨N, hN⟩ := lim_some h; ⟨N, (r94 N x.1 x.2.1).trans hN⟩
theorem enters94 : Enters Tryz.prog 94 := enters Tryz.func94 (by kernel_rfl) rfl
noncomputable def E95 : Env := { tab := tab, sig := [(45, s45)], clos := [], live := [(0, [0, 3, 4, 30, 31, 32, 33], [])], eqs := [], inl := [] }
set_option maxRecDepth 100000 in
theorem r95 (N : Nat) (a0 : ByteArray) : runF N E95 Tryz.f95 [.imm false .str] [.imm false (.int .i64)] (a0, ()) = p_spec_l1Read N a0 := by kernel_rfl
theorem env95 : EnvOk Tryz.prog (fa.at true) E95 := envOk mixed tabOk ⟨⟨enters45, ok45, fun _ => rfl⟩, trivial⟩ trivial trivial
noncomputable def s95 : FSpec := ⟨[.imm false .str], [.imm false (.int .i64)], fun x => S_spec_l1Read x.1, true⟩
theorem ok95 : FOk Tryz.prog fa 95 s95 := fn_says env95 Tryz.func95 rfl fun x y h => let ⟨N, hN⟩ := lim_some h; ⟨N, (r95 N x.1).trans hN⟩
theorem enters95 : Enters Tryz.prog 95 := enters Tryz.func95 (by kernel_rfl) rfl
noncomputable def E96 : Env := { tab := tab, sig := [(94, s94), (95, s95), (105, s105)], clos := [], live := [(1, [2, 7, 8, 32, 33, 34, 48, 49, 50, 51, 52], [])], eqs := [], inl := [] }
set_option maxRecDepth 100000 in
theorem r96 (N : Nat) (a0 : ByteArray) : runF N E96 Tryz.f96 [.imm false .str] [.imm true (.pair (.int .i64) (.pair (.int .i64) (.pair (.int .i64) (.pair (.int .i64) (.pair (.int .i64) .unit))))), .imm false (.int .i64), .imm false .bool] (a0, ()) = p_spec_ReadCmd N a0 := by kernel_rfl
theorem env96 : EnvOk Tryz.prog (fa.at true) E96 := envOk mixed tabOk ⟨⟨enters94, ok94, fun _ => rfl⟩, ⟨enters95, ok95, fun _ => rfl⟩, ⟨enters105, ok105, fun _ => rfl⟩, trivial⟩ trivial trivial
noncomputable def s96 : FSpec := ⟨[.imm false .str], [.imm true (.pair (.int .i64) (.pair (.int .i64) (.pair (.int .i64) (.pair (.int .i64) (.pair (.int .i64) .unit))))), .imm false (.int .i64), .imm false .bool], fun x => S_spec_ReadCmd x.1, true⟩
theorem ok96 : FOk Tryz.prog fa 96 s96 := fn_says env96 Tryz.func96 rfl fun x y h => let ⟨N, hN⟩ := lim_some h; ⟨N, (r96 N x.1).trans hN⟩
theorem enters96 : Enters Tryz.prog 96 := enters Tryz.func96 (by kernel_rfl) rfl
noncomputable def E111 : Env := { tab := tab, sig := [(37, s37), (86, s86)], clos := [], live := [], eqs := [], inl := [] }
set_option maxRecDepth 100000 in
theorem r111 (N : Nat) (a0 : Int) (a1 : T6) : runF N E111 Tryz.f111 [.imm false (.int .i64), .imm true (.pair (.int .i64) (.pair (.slice 3 (.int .i64)) .unit))] [.imm false .bool] (a0, a1, ()) = p_spec_GoodAttr N a0 a1 := by kernel_rfl
theorem env111 : EnvOk Tryz.prog (fa.at true) E111 := envOk mixed tabOk ⟨⟨enters37, ok37, fun _ => rfl⟩, ⟨enters86, ok86, fun _ => rfl⟩, trivial⟩ trivial trivial
noncomputable def s111 : FSpec := ⟨[.imm false (.int .i64), .imm true (.pair (.int .i64) (.pair (.slice 3 (.int .i64)) .unit))], [.imm false .bool], fun x => S_spec_GoodAttr x.1 x.2.1, true⟩
theorem ok111 : FOk Tryz.prog fa 111 s111 := fn_says env111 Tryz.func111 rfl fun x y h => ⟨0, (r111 0 x.1 x.2.1).trans h⟩
theorem enters111 : Enters Tryz.prog 111 := enters Tryz.func111 (by kernel_rfl) rfl
noncomputable def E97 : Env := { tab := tab, sig := [(94, s94), (95, s95), (111, s111)], clos := [], live := [(0, [0, 4, 7, 29, 30, 31], [.row 2 1 3 (.int .i64) true []])], eqs := [], inl := [] }
set_option maxRecDepth 100000 in
theorem r97 (N : Nat) (a0 : Int) (a1 : ByteArray) : runF N E97 Tryz.f97 [.imm false (.int .i64), .imm false .str] [.deep true (.pair (.int .i64) (.pair (.slice 3 (.int .i64)) .unit)), .imm false .bool] (a0, a1, ()) = p_spec_ReadAttr N a0 a1 := by kernel_rfl
theorem env97 : EnvOk Tryz.prog (fa.at true) E97 := envOk mixed tabOk ⟨⟨enters94, ok94, fun _ => rfl⟩, ⟨enters95, ok95, fun _ => rfl⟩, ⟨enters111, ok111, fun _ => rfl⟩, trivial⟩ trivial trivial
noncomputable def s97 : FSpec := ⟨[.imm false (.int .i64), .imm false .str], [.deep true (.pair (.int .i64) (.pair (.slice 3 (.int .i64)) .unit)), .imm false .bool], fun x => S_spec_ReadAttr x.1 x.2.1, true⟩
theorem ok97 : FOk Tryz.prog fa 97 s97 := fn_says env97 Tryz.func97 rfl fun x y h => let ⟨N, hN⟩ := lim_some h; ⟨N, (r97 N x.1 x.2.1).trans hN⟩
theorem enters97 : Enters Tryz.prog 97 := enters Tryz.func97 (by kernel_rfl) rfl
end Go.Proofs.YtmnekhlgldljcaaGreatDoor.Am
