/- Functions, as they run on data. No condition. -/
import Derived.Test.YtmnekhlgldljcaaGreatDoorAmFn0
set_option linter.unusedVariables false
set_option maxRecDepth 100000
namespace Go.Proofs.YtmnekhlgldljcaaGreatDoor.Am
open Go.AM Go.AM.P Go.Proofs Go.Shelf
/-! ## loop.example/g00698/spec.l7Words -/
noncomputable def E54 : Env := { tab := tab, sig := [], clos := [], live := [], eqs := [], inl := [] }
set_option maxRecDepth 100000 in
theorem r54 (N : Nat)  : runF N E54 Tryz.f54 [] [.deep false (.slice 9 .str)] (()) = p_spec_l7Words N  := by kernel_rfl
theorem env54 : EnvOk Tryz.prog (fa.at true) E54 := envOk mixed tabOk trivial trivial trivial
noncomputable def s54 : FSpec := ⟨[], [.deep false (.slice 9 .str)], fun x => S_spec_l7Words , true⟩
theorem ok54 : FOk Tryz.prog fa 54 s54 := fn_says env54 Tryz.func54 rfl fun x y h => ⟨0, (r54 0 ).trans h⟩
theorem enters54 : Enters Tryz.prog 54 := enters Tryz.func54 (by kernel_rfl) rfl

/-! ## loop.example/g00698/spec.l1Num -/
noncomputable def sk55 (k : Nat) : FSpec := ⟨[.imm false (.int .i64)], [.imm false .str], fun x => p_spec_l1Num k x.1, true⟩
noncomputable def E55 (N : Nat) : Env := { tab := tab, sig := [(55, sk55 N)], clos := [], live := [], eqs := [], inl := [] }
set_option maxRecDepth 100000 in
theorem r55 (N : Nat) (a0 : Int) : runF N (E55 N) Tryz.f55 [.imm false (.int .i64)] [.imm false .str] (a0, ()) = p_spec_l1Num (N + 1) a0 := by kernel_rfl
theorem enters55 : Enters Tryz.prog 55 := enters Tryz.func55 (by kernel_rfl) rfl
theorem env55 (k : Nat) (h : FOk Tryz.prog fa 55 (sk55 k)) : EnvOk Tryz.prog (fa.at true) (E55 k) := envOk mixed tabOk ⟨⟨enters55, h, fun _ => rfl⟩, trivial⟩ trivial trivial
noncomputable def s55 : FSpec := ⟨[.imm false (.int .i64)], [.imm false .str], fun x => S_spec_l1Num x.1, true⟩
theorem okk55 : ∀ k, FOk Tryz.prog fa 55 (sk55 k)
  | 0 => fok_none fun _ => rfl
  | k + 1 => fn_says (s := sk55 (k + 1)) (env55 k (okk55 k)) Tryz.func55 rfl fun x y h => ⟨k, (r55 k x.1).trans h⟩
theorem ok55 : FOk Tryz.prog fa 55 s55 := fok_sup okk55 fun x y h => lim_some h

/-! ## loop.example/g00698/spec.l2Text -/
noncomputable def E56 : Env := { tab := tab, sig := [(55, s55)], clos := [], live := [], eqs := [], inl := [] }
set_option maxRecDepth 100000 in
theorem r56 (N : Nat) (a0 : T2) : runF N E56 Tryz.f56 [.imm true (.pair (.int .i64) (.pair (.int .i64) (.pair (.int .i64) (.pair (.int .i64) (.pair (.int .i64) .unit)))))] [.imm false .str] (a0, ()) = p_spec_l2Text N a0 := by kernel_rfl
theorem env56 : EnvOk Tryz.prog (fa.at true) E56 := envOk mixed tabOk ⟨⟨enters55, ok55, fun _ => rfl⟩, trivial⟩ trivial trivial
noncomputable def s56 : FSpec := ⟨[.imm true (.pair (.int .i64) (.pair (.int .i64) (.pair (.int .i64) (.pair (.int .i64) (.pair (.int .i64) .unit)))))], [.imm false .str], fun x => S_spec_l2Text x.1, true⟩
theorem ok56 : FOk Tryz.prog fa 56 s56 := fn_says env56 Tryz.func56 rfl fun x y h => ⟨0, (r56 0 x.1).trans h⟩
theorem enters56 : Enters Tryz.prog 56 := enters Tryz.func56 (by kernel_rfl) rfl

/-! ## loop.example/g00698/spec.l3List -/
noncomputable def E89 : Env := { tab := tab, sig := [(55, s55)], clos := [], live := [(0, [3, 6, 7, 8], [])], eqs := [], inl := [] }
set_option maxRecDepth 100000 in
theorem r89 (N : Nat) (a0 : List Int) : runF N E89 Tryz.f89 [.imm false (.slice 3 (.int .i64))] [.imm false .str] (a0, ()) = p_spec_l3List N a0 := by kernel_rfl
theorem env89 : EnvOk Tryz.prog (fa.at true) E89 := envOk mixed tabOk ⟨⟨enters55, ok55, fun _ => rfl⟩, trivial⟩ trivial trivial
noncomputable def s89 : FSpec := ⟨[.imm false (.slice 3 (.int .i64))], [.imm false .str], fun x => S_spec_l3List x.1, true⟩
theorem ok89 : FOk Tryz.prog fa 89 s89 := fn_says env89 Tryz.func89 rfl fun x y h => let ⟨N, hN⟩ := lim_some h; ⟨N, (r89 N x.1).trans hN⟩
theorem enters89 : Enters Tryz.prog 89 := enters Tryz.func89 (by kernel_rfl) rfl

/-! ## loop.example/g00698/spec.l3Text -/
noncomputable def E57 : Env := { tab := tab, sig := [(55, s55), (89, s89)], clos := [], live := [], eqs := [], inl := [] }
set_option maxRecDepth 100000 in
theorem r57 (N : Nat) (a0 : T6) : runF N E57 Tryz.f57 [.imm true (.pair (.int .i64) (.pair (.slice 3 (.int .i64)) .unit))] [.imm false .str] (a0, ()) = p_spec_l3Text N a0 := by kernel_rfl
theorem env57 : EnvOk Tryz.prog (fa.at true) E57 := envOk mixed tabOk ⟨⟨enters55, ok55, fun _ => rfl⟩, ⟨enters89, ok89, fun _ => rfl⟩, trivial⟩ trivial trivial
noncomputable def s57 : FSpec := ⟨[.imm true (.pair (.int .i64) (.pair (.slice 3 (.int .i64)) .unit))], [.imm false .str], fun x => S_spec_l3Text x.1, true⟩
theorem ok57 : FOk Tryz.prog fa 57 s57 := fn_says env57 Tryz.func57 rfl fun x y h => ⟨0, (r57 0 x.1).trans h⟩
theorem enters57 : Enters Tryz.prog 57 := enters Tryz.func57 (by kernel_rfl) rfl

/-! ## loop.example/g00698/spec.MsgText -/
noncomputable def E30 : Env := { tab := tab, sig := [(53, s53), (54, s54), (55, s55), (56, s56), (57, s57)], clos := [], live := [(0, [3, 6, 32, 33, 34], [])], eqs := [], inl := [] }
set_option maxRecDepth 100000 in
theorem r30 (N : Nat) (a0 : Int) (a1 : T11) : runF N E30 Tryz.f30 [.imm false (.int .i64), .imm true (.pair (.int .i64) (.pair (.int .i64) (.pair (.int .i64) (.pair (.int .i64) (.pair (.int .i64) (.pair (.int .i64) (.pair (.int .i64) (.pair (.int .i64) (.pair (.pair (.int .i64) (.pair (.int .i64) (.pair (.int .i64) (.pair (.int .i64) (.pair (.int .i64) .unit))))) (.pair (.pair (.int .i64) (.pair (.slice 3 (.int .i64)) .unit)) .unit))))))))))] [.imm false .str, .imm false .bool] (a0, a1, ()) = p_spec_MsgText N a0 a1 := by kernel_rfl
theorem env30 : EnvOk Tryz.prog (fa.at true) E30 := envOk mixed tabOk ⟨⟨enters53, ok53, fun _ => rfl⟩, ⟨enters54, ok54, fun _ => rfl⟩, ⟨enters55, ok55, fun _ => rfl⟩, ⟨enters56, ok56, fun _ => rfl⟩, ⟨enters57, ok57, fun _ => rfl⟩, trivial⟩ trivial trivial
noncomputable def s30 : FSpec := ⟨[.imm false (.int .i64), .imm true (.pair (.int .i64) (.pair (.int .i64) (.pair (.int .i64) (.pair (.int .i64) (.pair (.int .i64) (.pair (.int .i64) (.pair (.int .i64) (.pair (.int .i64) (.pair (.pair (.int .i64) (.pair (.int .i64) (.pair (.int .i64) (.pair (.int .i64) (.pair (.int .i64) .unit))))) (.pair (.pair (.int .i64) (.pair (.slice 3 (.int .i64)) .unit)) .unit))))))))))], [.imm false .str, .imm false .bool], fun x => S_spec_MsgText x.1 x.2.1, true⟩
theorem ok30 : FOk Tryz.prog fa 30 s30 := fn_says env30 Tryz.func30 rfl fun x y h => let ⟨N, hN⟩ := lim_some h; ⟨N, (r30 N x.1 x.2.1).trans hN⟩
theorem enters30 : Enters Tryz.prog 30 := enters Tryz.func30 (by kernel_rfl) rfl

/-! ## loop.example/g00698/spec.l21Sum -/
noncomputable def E58 : Env := { tab := tab, sig := [], clos := [], live := [(0, [0, 3, 4], [])], eqs := [], inl := [] }
set_option maxRecDepth 100000 in
theorem r58 (N : Nat) (a0 : ByteArray) : runF N E58 Tryz.f58 [.imm false .str] [.imm false (.int .i64)] (a0, ()) = p_spec_l21Sum N a0 := by kernel_rfl
theorem env58 : EnvOk Tryz.prog (fa.at true) E58 := envOk mixed tabOk trivial trivial trivial
noncomputable def s58 : FSpec := ⟨[.imm false .str], [.imm false (.int .i64)], fun x => S_spec_l21Sum x.1, true⟩
theorem ok58 : FOk Tryz.prog fa 58 s58 := fn_says env58 Tryz.func58 rfl fun x y h => let ⟨N, hN⟩ := lim_some h; ⟨N, (r58 N x.1).trans hN⟩
theorem enters58 : Enters Tryz.prog 58 := enters Tryz.func58 (by kernel_rfl) rfl

/-! ## loop.example/g00698/spec.l21Frame -/
noncomputable def E31 : Env := { tab := tab, sig := [(58, s58)], clos := [], live := [], eqs := [], inl := [] }
set_option maxRecDepth 100000 in
theorem r31 (N : Nat) (a0 : ByteArray) : runF N E31 Tryz.f31 [.imm false .str] [.imm false .str] (a0, ()) = p_spec_l21Frame N a0 := by kernel_rfl
theorem env31 : EnvOk Tryz.prog (fa.at true) E31 := envOk mixed tabOk ⟨⟨enters58, ok58, fun _ => rfl⟩, trivial⟩ trivial trivial
noncomputable def s31 : FSpec := ⟨[.imm false .str], [.imm false .str], fun x => S_spec_l21Frame x.1, true⟩
theorem ok31 : FOk Tryz.prog fa 31 s31 := fn_says env31 Tryz.func31 rfl fun x y h => ⟨0, (r31 0 x.1).trans h⟩
theorem enters31 : Enters Tryz.prog 31 := enters Tryz.func31 (by kernel_rfl) rfl

/-! ## loop.example/g00698/spec.MsgBytes -/
noncomputable def E8 : Env := { tab := tab, sig := [(30, s30), (31, s31)], clos := [], live := [], eqs := [], inl := [] }
set_option maxRecDepth 100000 in
theorem r8 (N : Nat) (a0 : Int) (a1 : T11) : runF N E8 Tryz.f8 [.imm false (.int .i64), .imm true (.pair (.int .i64) (.pair (.int .i64) (.pair (.int .i64) (.pair (.int .i64) (.pair (.int .i64) (.pair (.int .i64) (.pair (.int .i64) (.pair (.int .i64) (.pair (.pair (.int .i64) (.pair (.int .i64) (.pair (.int .i64) (.pair (.int .i64) (.pair (.int .i64) .unit))))) (.pair (.pair (.int .i64) (.pair (.slice 3 (.int .i64)) .unit)) .unit))))))))))] [.imm false .str, .imm false .bool] (a0, a1, ()) = p_spec_MsgBytes N a0 a1 := by kernel_rfl
theorem env8 : EnvOk Tryz.prog (fa.at true) E8 := envOk mixed tabOk ⟨⟨enters30, ok30, fun _ => rfl⟩, ⟨enters31, ok31, fun _ => rfl⟩, trivial⟩ trivial trivial
noncomputable def s8 : FSpec := ⟨[.imm false (.int .i64), .imm true (.pair (.int .i64) (.pair (.int .i64) (.pair (.int .i64) (.pair (.int .i64) (.pair (.int .i64) (.pair (.int .i64) (.pair (.int .i64) (.pair (.int .i64) (.pair (.pair (.int .i64) (.pair (.int .i64) (.pair (.int .i64) (.pair (.int .i64) (.pair (.int .i64) .unit))))) (.pair (.pair (.int .i64) (.pair (.slice 3 (.int .i64)) .unit)) .unit))))))))))], [.imm false .str, .imm false .bool], fun x => S_spec_MsgBytes x.1 x.2.1, true⟩
theorem ok8 : FOk Tryz.prog fa 8 s8 := fn_says env8 Tryz.func8 rfl fun x y h => ⟨0, (r8 0 x.1 x.2.1).trans h⟩
theorem enters8 : Enters Tryz.prog 8 := enters Tryz.func8 (by kernel_rfl) rfl

/-! ## strings.Split -/
def Lay59_ren : Go.Shelf.Ren := ⟨fun | 146 => 59 | 221 => 90 | 268 => 107 | 138 => 108 | 143 => 109 | 195 => 117 | 197 => 118 | 218 => 119 | 219 => 120 | 260 => 125 | 217 => 126 | 225 => 127 | 224 => 128 | 267 => 129 | 266 => 136 | 314 => 137 | n => n, fun | 9 => 9 | 31 => 75 | 3 => 3 | 4 => 4 | 0 => 0 | 105 => 125 | 21 => 21 | 5 => 5 | 46 => 114 | 119 => 144 | 139 => 147 | 138 => 146 | 146 => 149 | 51 => 148 | n => n, fun | 1 => 0 | 3 => 1 | 4 => 2 | n => n⟩
theorem Lay59 : Go.Proofs.LaysM.n146 Tryz.prog Lay59_ren := {
  mixed := by kernel_rfl
  f138 := Tryz.func108.trans (congrArg some (by kernel_rfl))
  f143 := Tryz.func109.trans (congrArg some (by kernel_rfl))
  f146 := Tryz.func59.trans (congrArg some (by kernel_rfl))
  f195 := Tryz.func117.trans (congrArg some (by kernel_rfl))
  f197 := Tryz.func118.trans (congrArg some (by kernel_rfl))
  f217 := Tryz.func126.trans (congrArg some (by kernel_rfl))
  f218 := Tryz.func119.trans (congrArg some (by kernel_rfl))
  f219 := Tryz.func120.trans (congrArg some (by kernel_rfl))
  f221 := Tryz.func90.trans (congrArg some (by kernel_rfl))
  f224 := Tryz.func128.trans (congrArg some (by kernel_rfl))
  f225 := Tryz.func127.trans (congrArg some (by kernel_rfl))
  f260 := Tryz.func125.trans (congrArg some (by kernel_rfl))
  f266 := Tryz.func136.trans (congrArg some (by kernel_rfl))
  f267 := Tryz.func129.trans (congrArg some (by kernel_rfl))
  f268 := Tryz.func107.trans (congrArg some (by kernel_rfl))
  f314 := Tryz.func137.trans (congrArg some (by kernel_rfl))
  t0 := Tryz.underlying0
  a0 := Tryz.isAgg0
  z0 := Tryz.sizeOf0
  v0 := Tryz.zeroValue0
  t3 := Tryz.underlying3
  a3 := Tryz.isAgg3
  z3 := Tryz.sizeOf3
  v3 := Tryz.zeroValue3
  t4 := Tryz.underlying4
  a4 := Tryz.isAgg4
  z4 := Tryz.sizeOf4
  v4 := Tryz.zeroValue4
  t5 := Tryz.underlying5
  a5 := Tryz.isAgg5
  z5 := Tryz.sizeOf5
  v5 := Tryz.zeroValue5
  t9 := Tryz.underlying9
  a9 := Tryz.isAgg9
  z9 := Tryz.sizeOf9
  v9 := Tryz.zeroValue9
  t21 := Tryz.underlying21
  a21 := Tryz.isAgg21
  z21 := Tryz.sizeOf21
  v21 := Tryz.zeroValue21
  t31 := Tryz.underlying75
  a31 := Tryz.isAgg75
  z31 := Tryz.sizeOf75
  v31 := Tryz.zeroValue75
  t46 := Tryz.underlying114
  a46 := Tryz.isAgg114
  z46 := Tryz.sizeOf114
  v46 := Tryz.zeroValue114
  t51 := Tryz.underlying148
  a51 := Tryz.isAgg148
  z51 := Tryz.sizeOf148
  v51 := Tryz.zeroValue148
  t105 := Tryz.underlying125
  a105 := Tryz.isAgg125
  z105 := Tryz.sizeOf125
  v105 := Tryz.zeroValue125
  t119 := Tryz.underlying144
  a119 := Tryz.isAgg144
  z119 := Tryz.sizeOf144
  t138 := Tryz.underlying146
  a138 := Tryz.isAgg146
  z138 := Tryz.sizeOf146
  v138 := Tryz.zeroValue146
  t139 := Tryz.underlying147
  a139 := Tryz.isAgg147
  z139 := Tryz.sizeOf147
  v139 := Tryz.zeroValue147
  t146 := Tryz.underlying149
  a146 := Tryz.isAgg149
  z146 := Tryz.sizeOf149
  v146 := Tryz.zeroValue149
  g1 := by kernel_rfl
  g3 := by kernel_rfl
  g4 := by kernel_rfl
  i0 := by kernel_rfl
  i3 := by kernel_rfl
  i4 := by kernel_rfl
  i5 := by kernel_rfl
  i9 := by kernel_rfl
  i21 := by kernel_rfl
  i31 := by kernel_rfl
  i46 := by kernel_rfl
  i51 := by kernel_rfl
  i105 := by kernel_rfl
  i138 := by kernel_rfl
  i139 := by kernel_rfl
  i146 := by kernel_rfl
  m1 := by kernel_rfl
  s1_3 := fun w h => Go.Proofs.cell_of_shapedOpen_int (zero := #[.int .i64 0]) (t := 3) h (of_decide_eq_true (by kernel_rfl)) (by kernel_rfl) rfl (by kernel_rfl) (by kernel_rfl) Tryz.underlying3
  m3 := by kernel_rfl
  m4 := by kernel_rfl }

noncomputable def s59 : FSpec := ⟨[.imm false .str, .imm false .str], [.deep false (.slice 9 .str)], fun x => S_strings_Split x.1 x.2.1, true⟩
theorem ok59 : FOk Tryz.prog fa 59 s59 := ok_Split Lay59 (fun W h => h.1) (by decide)
theorem enters59 : Enters Tryz.prog 59 := enters Tryz.func59 (by kernel_rfl) rfl

/-! ## slices.Index[[]string,string] -/
noncomputable def E60 : Env := { tab := tab, sig := [], clos := [], live := [(0, [0, 1, 7, 8], [])], eqs := [], inl := [] }
set_option maxRecDepth 100000 in
theorem r60 (N : Nat) (a0 : List ByteArray) (a1 : ByteArray) : runF N E60 Tryz.f60 [.imm false (.slice 9 .str), .imm false .str] [.imm false (.int .i64)] (a0, a1, ()) = p_Index_Lstring_string N a0 a1 := by kernel_rfl
theorem env60 : EnvOk Tryz.prog (fa.at true) E60 := envOk mixed tabOk trivial trivial trivial
noncomputable def s60 : FSpec := ⟨[.imm false (.slice 9 .str), .imm false .str], [.imm false (.int .i64)], fun x => S_Index_Lstring_string x.1 x.2.1, true⟩
theorem ok60 : FOk Tryz.prog fa 60 s60 := fn_says env60 Tryz.func60 rfl fun x y h => let ⟨N, hN⟩ := lim_some h; ⟨N, (r60 N x.1 x.2.1).trans hN⟩
theorem enters60 : Enters Tryz.prog 60 := enters Tryz.func60 (by kernel_rfl) rfl

/-! ## loop.example/g00698/impl.digits -/
noncomputable def E91 : Env := { tab := tab, sig := [], clos := [], live := [(0, [0, 1, 5, 8, 9, 17, 18, 19, 20, 23, 24, 25, 39, 40, 41, 42, 43, 44, 45, 46], [])], eqs := [], inl := [] }
set_option maxRecDepth 100000 in
theorem r91 (N : Nat) (a0 : ByteArray) (a1 : Int) : runF N E91 Tryz.f91 [.imm false .str, .imm false (.int .i64)] [.imm false (.int .i64)] (a0, a1, ()) = p_impl_digits N a0 a1 := by kernel_rfl
theorem env91 : EnvOk Tryz.prog (fa.at true) E91 := envOk mixed tabOk trivial trivial trivial
noncomputable def s91 : FSpec := ⟨[.imm false .str, .imm false (.int .i64)], [.imm false (.int .i64)], fun x => S_impl_digits x.1 x.2.1, true⟩
theorem ok91 : FOk Tryz.prog fa 91 s91 := fn_says env91 Tryz.func91 rfl fun x y h => let ⟨N, hN⟩ := lim_some h; ⟨N, (r91 N x.1 x.2.1).trans hN⟩
theorem enters91 : Enters Tryz.prog 91 := enters Tryz.func91 (by kernel_rfl) rfl

/-! ## loop.example/g00698/impl.numbers -/
noncomputable def E62 : Env := { tab := tab, sig := [(91, s91)], clos := [], live := [(0, [1, 6, 11, 12, 13], [])], eqs := [], inl := [] }
set_option maxRecDepth 100000 in
theorem r62 (N : Nat) (a0 : List ByteArray) (a1 : Int) : runF N E62 Tryz.f62 [.imm false (.slice 9 .str), .imm false (.int .i64)] [.deep false (.slice 3 (.int .i64)), .imm false .bool] (a0, a1, ()) = p_impl_numbers N a0 a1 := by kernel_rfl
theorem env62 : EnvOk Tryz.prog (fa.at true) E62 := envOk mixed tabOk ⟨⟨enters91, ok91, fun _ => rfl⟩, trivial⟩ trivial trivial
noncomputable def s62 : FSpec := ⟨[.imm false (.slice 9 .str), .imm false (.int .i64)], [.deep false (.slice 3 (.int .i64)), .imm false .bool], fun x => S_impl_numbers x.1 x.2.1, true⟩
theorem ok62 : FOk Tryz.prog fa 62 s62 := fn_says env62 Tryz.func62 rfl fun x y h => let ⟨N, hN⟩ := lim_some h; ⟨N, (r62 N x.1 x.2.1).trans hN⟩
theorem enters62 : Enters Tryz.prog 62 := enters Tryz.func62 (by kernel_rfl) rfl

/-! ## loop.example/g00698/impl.ReadCmd -/
noncomputable def E63 : Env := { tab := tab, sig := [(59, s59), (60, s60), (62, s62), (92, s92), (77, s77)], clos := [], live := [], eqs := [], inl := [], imm := [11, 16, 21, 31, 71, 76, 93] }
set_option maxRecDepth 100000 in
theorem r63 (N : Nat) (a0 : ByteArray) : runF N E63 Tryz.f63 [.imm false .str] [.imm true (.pair (.int .i64) (.pair (.int .i64) (.pair (.int .i64) (.pair (.int .i64) (.pair (.int .i64) .unit))))), .imm false (.int .i64), .imm false .bool] (a0, ()) = p_impl_ReadCmd N a0 := by kernel_rfl
theorem env63 : EnvOk Tryz.prog (fa.at true) E63 := envOk mixed tabOk ⟨⟨enters59, ok59, fun _ => rfl⟩, ⟨enters60, ok60, fun _ => rfl⟩, ⟨enters62, ok62, fun _ => rfl⟩, ⟨enters92, ok92, fun _ => rfl⟩, ⟨enters77, ok77, fun _ => rfl⟩, trivial⟩ trivial trivial
noncomputable def s63 : FSpec := ⟨[.imm false .str], [.imm true (.pair (.int .i64) (.pair (.int .i64) (.pair (.int .i64) (.pair (.int .i64) (.pair (.int .i64) .unit))))), .imm false (.int .i64), .imm false .bool], fun x => S_impl_ReadCmd x.1, true⟩
theorem ok63 : FOk Tryz.prog fa 63 s63 := fn_says env63 Tryz.func63 rfl fun x y h => ⟨0, (r63 0 x.1).trans h⟩
theorem enters63 : Enters Tryz.prog 63 := enters Tryz.func63 (by kernel_rfl) rfl

/-! ## strings.Cut -/
def Lay93_ren : Go.Shelf.Ren := ⟨fun | 145 => 93 | 220 => 110 | 219 => 120 | 217 => 126 | 225 => 127 | 224 => 128 | 267 => 129 | 266 => 136 | 314 => 137 | n => n, fun | 9 => 9 | 4 => 4 | 59 => 111 | 3 => 3 | 5 => 5 | 46 => 114 | 146 => 149 | 51 => 148 | n => n, fun | 1 => 0 | n => n⟩
theorem Lay93 : Go.Proofs.LaysM.n145 Tryz.prog Lay93_ren := {
  mixed := by kernel_rfl
  f145 := Tryz.func93.trans (congrArg some (by kernel_rfl))
  f217 := Tryz.func126.trans (congrArg some (by kernel_rfl))
  f219 := Tryz.func120.trans (congrArg some (by kernel_rfl))
  f220 := Tryz.func110.trans (congrArg some (by kernel_rfl))
  f224 := Tryz.func128.trans (congrArg some (by kernel_rfl))
  f225 := Tryz.func127.trans (congrArg some (by kernel_rfl))
  f266 := Tryz.func136.trans (congrArg some (by kernel_rfl))
  f267 := Tryz.func129.trans (congrArg some (by kernel_rfl))
  f314 := Tryz.func137.trans (congrArg some (by kernel_rfl))
  t3 := Tryz.underlying3
  a3 := Tryz.isAgg3
  z3 := Tryz.sizeOf3
  v3 := Tryz.zeroValue3
  t4 := Tryz.underlying4
  a4 := Tryz.isAgg4
  z4 := Tryz.sizeOf4
  v4 := Tryz.zeroValue4
  t5 := Tryz.underlying5
  a5 := Tryz.isAgg5
  z5 := Tryz.sizeOf5
  v5 := Tryz.zeroValue5
  t9 := Tryz.underlying9
  a9 := Tryz.isAgg9
  z9 := Tryz.sizeOf9
  v9 := Tryz.zeroValue9
  t46 := Tryz.underlying114
  a46 := Tryz.isAgg114
  z46 := Tryz.sizeOf114
  v46 := Tryz.zeroValue114
  t51 := Tryz.underlying148
  a51 := Tryz.isAgg148
  z51 := Tryz.sizeOf148
  v51 := Tryz.zeroValue148
  t59 := Tryz.underlying111
  a59 := Tryz.isAgg111
  z59 := Tryz.sizeOf111
  v59 := Tryz.zeroValue111
  t146 := Tryz.underlying149
  a146 := Tryz.isAgg149
  z146 := Tryz.sizeOf149
  v146 := Tryz.zeroValue149
  g1 := by kernel_rfl
  i3 := by kernel_rfl
  i4 := by kernel_rfl
  i5 := by kernel_rfl
  i9 := by kernel_rfl
  i46 := by kernel_rfl
  i51 := by kernel_rfl
  i59 := by kernel_rfl
  i146 := by kernel_rfl
  m1 := by kernel_rfl
  s1_3 := fun w h => Go.Proofs.cell_of_shapedOpen_int (zero := #[.int .i64 0]) (t := 3) h (of_decide_eq_true (by kernel_rfl)) (by kernel_rfl) rfl (by kernel_rfl) (by kernel_rfl) Tryz.underlying3 }

noncomputable def s93 : FSpec := ⟨[.imm false .str, .imm false .str], [.imm false .str, .imm false .str, .imm false .bool], fun x => S_strings_Cut x.1 x.2.1, true⟩
theorem ok93 : FOk Tryz.prog fa 93 s93 := ok_Cut Lay93 (fun W h => h.1) (by decide)
theorem enters93 : Enters Tryz.prog 93 := enters Tryz.func93 (by kernel_rfl) rfl

/-! ## loop.example/g00698/impl.ReadAttr -/
noncomputable def E64 : Env := { tab := tab, sig := [(93, s93), (91, s91), (59, s59), (62, s62), (78, s78)], clos := [], live := [], eqs := [], inl := [] }
set_option maxRecDepth 100000 in
theorem r64 (N : Nat) (a0 : Int) (a1 : ByteArray) : runF N E64 Tryz.f64 [.imm false (.int .i64), .imm false .str] [.deep true (.pair (.int .i64) (.pair (.slice 3 (.int .i64)) .unit)), .imm false .bool] (a0, a1, ()) = p_impl_ReadAttr N a0 a1 := by kernel_rfl
theorem env64 : EnvOk Tryz.prog (fa.at true) E64 := envOk mixed tabOk ⟨⟨enters93, ok93, fun _ => rfl⟩, ⟨enters91, ok91, fun _ => rfl⟩, ⟨enters59, ok59, fun _ => rfl⟩, ⟨enters62, ok62, fun _ => rfl⟩, ⟨enters78, ok78, fun _ => rfl⟩, trivial⟩ trivial trivial
noncomputable def s64 : FSpec := ⟨[.imm false (.int .i64), .imm false .str], [.deep true (.pair (.int .i64) (.pair (.slice 3 (.int .i64)) .unit)), .imm false .bool], fun x => S_impl_ReadAttr x.1 x.2.1, true⟩
theorem ok64 : FOk Tryz.prog fa 64 s64 := fn_says env64 Tryz.func64 rfl fun x y h => ⟨0, (r64 0 x.1 x.2.1).trans h⟩
theorem enters64 : Enters Tryz.prog 64 := enters Tryz.func64 (by kernel_rfl) rfl

/-! ## loop.example/g00698/impl.ReadMsg -/
noncomputable def E32 : Env := { tab := tab, sig := [(59, s59), (41, s41), (61, s61), (60, s60), (62, s62), (63, s63), (64, s64), (49, s49)], clos := [], live := [], eqs := [], inl := [], imm := [31] }
set_option maxRecDepth 100000 in
theorem r32 (N : Nat) (a0 : Int) (a1 : ByteArray) : runF N E32 Tryz.f32 [.imm false (.int .i64), .imm false .str] [.deep true (.pair (.int .i64) (.pair (.int .i64) (.pair (.int .i64) (.pair (.int .i64) (.pair (.int .i64) (.pair (.int .i64) (.pair (.int .i64) (.pair (.int .i64) (.pair (.pair (.int .i64) (.pair (.int .i64) (.pair (.int .i64) (.pair (.int .i64) (.pair (.int .i64) .unit))))) (.pair (.pair (.int .i64) (.pair (.slice 3 (.int .i64)) .unit)) .unit)))))))))), .imm false (.int .i64), .imm false .bool] (a0, a1, ()) = p_impl_ReadMsg N a0 a1 := by kernel_rfl
theorem env32 : EnvOk Tryz.prog (fa.at true) E32 := envOk mixed tabOk ⟨⟨enters59, ok59, fun _ => rfl⟩, ⟨enters41, ok41, fun _ => rfl⟩, ⟨enters61, ok61, fun _ => rfl⟩, ⟨enters60, ok60, fun _ => rfl⟩, ⟨enters62, ok62, fun _ => rfl⟩, ⟨enters63, ok63, fun _ => rfl⟩, ⟨enters64, ok64, fun _ => rfl⟩, ⟨enters49, ok49, fun _ => rfl⟩, trivial⟩ trivial trivial
noncomputable def s32 : FSpec := ⟨[.imm false (.int .i64), .imm false .str], [.deep true (.pair (.int .i64) (.pair (.int .i64) (.pair (.int .i64) (.pair (.int .i64) (.pair (.int .i64) (.pair (.int .i64) (.pair (.int .i64) (.pair (.int .i64) (.pair (.pair (.int .i64) (.pair (.int .i64) (.pair (.int .i64) (.pair (.int .i64) (.pair (.int .i64) .unit))))) (.pair (.pair (.int .i64) (.pair (.slice 3 (.int .i64)) .unit)) .unit)))))))))), .imm false (.int .i64), .imm false .bool], fun x => S_impl_ReadMsg x.1 x.2.1, true⟩
theorem ok32 : FOk Tryz.prog fa 32 s32 := fn_says env32 Tryz.func32 rfl fun x y h => ⟨0, (r32 0 x.1 x.2.1).trans h⟩
theorem enters32 : Enters Tryz.prog 32 := enters Tryz.func32 (by kernel_rfl) rfl

/-! ## loop.example/g00698/impl.ReadMsgBytes -/
noncomputable def E9 : Env := { tab := tab, sig := [(32, s32), (29, s29)], clos := [], live := [], eqs := [], inl := [] }
set_option maxRecDepth 100000 in
theorem r9 (N : Nat) (a0 : Int) (a1 : ByteArray) : runF N E9 Tryz.f9 [.imm false (.int .i64), .imm false .str] [.deep true (.pair (.int .i64) (.pair (.int .i64) (.pair (.int .i64) (.pair (.int .i64) (.pair (.int .i64) (.pair (.int .i64) (.pair (.int .i64) (.pair (.int .i64) (.pair (.pair (.int .i64) (.pair (.int .i64) (.pair (.int .i64) (.pair (.int .i64) (.pair (.int .i64) .unit))))) (.pair (.pair (.int .i64) (.pair (.slice 3 (.int .i64)) .unit)) .unit)))))))))), .imm false .bool] (a0, a1, ()) = p_impl_ReadMsgBytes N a0 a1 := by kernel_rfl
theorem env9 : EnvOk Tryz.prog (fa.at true) E9 := envOk mixed tabOk ⟨⟨enters32, ok32, fun _ => rfl⟩, ⟨enters29, ok29, fun _ => rfl⟩, trivial⟩ trivial trivial
noncomputable def s9 : FSpec := ⟨[.imm false (.int .i64), .imm false .str], [.deep true (.pair (.int .i64) (.pair (.int .i64) (.pair (.int .i64) (.pair (.int .i64) (.pair (.int .i64) (.pair (.int .i64) (.pair (.int .i64) (.pair (.int .i64) (.pair (.pair (.int .i64) (.pair (.int .i64) (.pair (.int .i64) (.pair (.int .i64) (.pair (.int .i64) .unit))))) (.pair (.pair (.int .i64) (.pair (.slice 3 (.int .i64)) .unit)) .unit)))))))))), .imm false .bool], fun x => S_impl_ReadMsgBytes x.1 x.2.1, true⟩
theorem ok9 : FOk Tryz.prog fa 9 s9 := fn_says env9 Tryz.func9 rfl fun x y h => ⟨0, (r9 0 x.1 x.2.1).trans h⟩
theorem enters9 : Enters Tryz.prog 9 := enters Tryz.func9 (by kernel_rfl) rfl

/-! ## loop.example/g00698/laws.numberOf -/
noncomputable def E10 : Env := { tab := tab, sig := [], clos := [], live := [(0, [3, 6, 7, 8], [])], eqs := [], inl := [] }
set_option maxRecDepth 100000 in
theorem r10 (N : Nat) (a0 : List Int) : runF N E10 Tryz.f10 [.imm false (.slice 5 (.int .u8))] [.imm false (.int .i64)] (a0, ()) = p_laws_numberOf N a0 := by kernel_rfl
theorem env10 : EnvOk Tryz.prog (fa.at true) E10 := envOk mixed tabOk trivial trivial trivial
noncomputable def s10 : FSpec := ⟨[.imm false (.slice 5 (.int .u8))], [.imm false (.int .i64)], fun x => S_laws_numberOf x.1, true⟩
theorem ok10 : FOk Tryz.prog fa 10 s10 := fn_says env10 Tryz.func10 rfl fun x y h => let ⟨N, hN⟩ := lim_some h; ⟨N, (r10 N x.1).trans hN⟩
theorem enters10 : Enters Tryz.prog 10 := enters Tryz.func10 (by kernel_rfl) rfl

/-! ## loop.example/g00698/impl.SpoilByte -/
noncomputable def E11 : Env := { tab := tab, sig := [(33, s33)], clos := [], live := [], eqs := [], inl := [] }
set_option maxRecDepth 100000 in
theorem r11 (N : Nat) (a0 : ByteArray) (a1 : Int) (a2 : Int) : runF N E11 Tryz.f11 [.imm false .str, .imm false (.int .i64), .imm false (.int .i64)] [.imm false .str, .imm false .bool] (a0, a1, a2, ()) = p_impl_SpoilByte N a0 a1 a2 := by kernel_rfl
theorem env11 : EnvOk Tryz.prog (fa.at true) E11 := envOk mixed tabOk ⟨⟨enters33, ok33, fun _ => rfl⟩, trivial⟩ trivial trivial
noncomputable def s11 : FSpec := ⟨[.imm false .str, .imm false (.int .i64), .imm false (.int .i64)], [.imm false .str, .imm false .bool], fun x => S_impl_SpoilByte x.1 x.2.1 x.2.2.1, true⟩
theorem ok11 : FOk Tryz.prog fa 11 s11 := fn_says env11 Tryz.func11 rfl fun x y h => ⟨0, (r11 0 x.1 x.2.1 x.2.2.1).trans h⟩
theorem enters11 : Enters Tryz.prog 11 := enters Tryz.func11 (by kernel_rfl) rfl

/-! ## loop.example/g00698/laws.sameInts -/
noncomputable def E65 : Env := { tab := tab, sig := [], clos := [], live := [(0, [0, 1, 12, 13], [])], eqs := [], inl := [] }
set_option maxRecDepth 100000 in
theorem r65 (N : Nat) (a0 : List Int) (a1 : List Int) : runF N E65 Tryz.f65 [.imm false (.slice 3 (.int .i64)), .imm false (.slice 3 (.int .i64))] [.imm false .bool] (a0, a1, ()) = p_laws_sameInts N a0 a1 := by kernel_rfl
theorem env65 : EnvOk Tryz.prog (fa.at true) E65 := envOk mixed tabOk trivial trivial trivial
noncomputable def s65 : FSpec := ⟨[.imm false (.slice 3 (.int .i64)), .imm false (.slice 3 (.int .i64))], [.imm false .bool], fun x => S_laws_sameInts x.1 x.2.1, true⟩
theorem ok65 : FOk Tryz.prog fa 65 s65 := fn_says env65 Tryz.func65 rfl fun x y h => let ⟨N, hN⟩ := lim_some h; ⟨N, (r65 N x.1 x.2.1).trans hN⟩
theorem enters65 : Enters Tryz.prog 65 := enters Tryz.func65 (by kernel_rfl) rfl

/-! ## loop.example/g00698/laws.sameAttr -/
noncomputable def E34 : Env := { tab := tab, sig := [(65, s65)], clos := [], live := [], eqs := [], inl := [] }
set_option maxRecDepth 100000 in
theorem r34 (N : Nat) (a0 : T6) (a1 : T6) : runF N E34 Tryz.f34 [.imm true (.pair (.int .i64) (.pair (.slice 3 (.int .i64)) .unit)), .imm true (.pair (.int .i64) (.pair (.slice 3 (.int .i64)) .unit))] [.imm false .bool] (a0, a1, ()) = p_laws_sameAttr N a0 a1 := by kernel_rfl
theorem env34 : EnvOk Tryz.prog (fa.at true) E34 := envOk mixed tabOk ⟨⟨enters65, ok65, fun _ => rfl⟩, trivial⟩ trivial trivial
noncomputable def s34 : FSpec := ⟨[.imm true (.pair (.int .i64) (.pair (.slice 3 (.int .i64)) .unit)), .imm true (.pair (.int .i64) (.pair (.slice 3 (.int .i64)) .unit))], [.imm false .bool], fun x => S_laws_sameAttr x.1 x.2.1, true⟩
theorem ok34 : FOk Tryz.prog fa 34 s34 := fn_says env34 Tryz.func34 rfl fun x y h => ⟨0, (r34 0 x.1 x.2.1).trans h⟩
theorem enters34 : Enters Tryz.prog 34 := enters Tryz.func34 (by kernel_rfl) rfl

/-! ## loop.example/g00698/laws.sameMsg -/
noncomputable def E12 : Env := { tab := tab, sig := [(34, s34)], clos := [], live := [], eqs := [(25, 5)], inl := [] }
set_option maxRecDepth 100000 in
theorem r12 (N : Nat) (a0 : T11) (a1 : T11) : runF N E12 Tryz.f12 [.imm true (.pair (.int .i64) (.pair (.int .i64) (.pair (.int .i64) (.pair (.int .i64) (.pair (.int .i64) (.pair (.int .i64) (.pair (.int .i64) (.pair (.int .i64) (.pair (.pair (.int .i64) (.pair (.int .i64) (.pair (.int .i64) (.pair (.int .i64) (.pair (.int .i64) .unit))))) (.pair (.pair (.int .i64) (.pair (.slice 3 (.int .i64)) .unit)) .unit)))))))))), .imm true (.pair (.int .i64) (.pair (.int .i64) (.pair (.int .i64) (.pair (.int .i64) (.pair (.int .i64) (.pair (.int .i64) (.pair (.int .i64) (.pair (.int .i64) (.pair (.pair (.int .i64) (.pair (.int .i64) (.pair (.int .i64) (.pair (.int .i64) (.pair (.int .i64) .unit))))) (.pair (.pair (.int .i64) (.pair (.slice 3 (.int .i64)) .unit)) .unit))))))))))] [.imm false .bool] (a0, a1, ()) = p_laws_sameMsg N a0 a1 := by kernel_rfl
theorem env12 : EnvOk Tryz.prog (fa.at true) E12 := envOk mixed tabOk ⟨⟨enters34, ok34, fun _ => rfl⟩, trivial⟩ trivial ⟨eq25, trivial⟩
noncomputable def s12 : FSpec := ⟨[.imm true (.pair (.int .i64) (.pair (.int .i64) (.pair (.int .i64) (.pair (.int .i64) (.pair (.int .i64) (.pair (.int .i64) (.pair (.int .i64) (.pair (.int .i64) (.pair (.pair (.int .i64) (.pair (.int .i64) (.pair (.int .i64) (.pair (.int .i64) (.pair (.int .i64) .unit))))) (.pair (.pair (.int .i64) (.pair (.slice 3 (.int .i64)) .unit)) .unit)))))))))), .imm true (.pair (.int .i64) (.pair (.int .i64) (.pair (.int .i64) (.pair (.int .i64) (.pair (.int .i64) (.pair (.int .i64) (.pair (.int .i64) (.pair (.int .i64) (.pair (.pair (.int .i64) (.pair (.int .i64) (.pair (.int .i64) (.pair (.int .i64) (.pair (.int .i64) .unit))))) (.pair (.pair (.int .i64) (.pair (.slice 3 (.int .i64)) .unit)) .unit))))))))))], [.imm false .bool], fun x => S_laws_sameMsg x.1 x.2.1, true⟩
theorem ok12 : FOk Tryz.prog fa 12 s12 := fn_says env12 Tryz.func12 rfl fun x y h => ⟨0, (r12 0 x.1 x.2.1).trans h⟩
theorem enters12 : Enters Tryz.prog 12 := enters Tryz.func12 (by kernel_rfl) rfl

/-! ## (*loop.example/g00698/spec.l1Cur).spoilt -/
noncomputable def E36 : Env := { tab := tab, sig := [(43, s43)], clos := [], live := [(0, [0, 1, 2, 7, 16, 17, 18], [])], eqs := [], inl := [] }
set_option maxRecDepth 100000 in
theorem r36 (N : Nat) (a0 : T14) (a1 : ByteArray) (a2 : ByteArray) : runF N E36 Tryz.f36 [.ptr (.pair (.slice 5 (.int .u8)) (.pair (.int .i64) (.pair (.int .u64) .unit))), .imm false .str, .imm false .str] [.imm false .str] (a0, a1, a2, ()) = p_Pspec_l1Cur_spoilt N a0 a1 a2 := by kernel_rfl
theorem env36 : EnvOk Tryz.prog (fa.at true) E36 := envOk mixed tabOk ⟨⟨enters43, ok43, fun _ => rfl⟩, trivial⟩ trivial trivial
noncomputable def s36 : FSpec := ⟨[.ptr (.pair (.slice 5 (.int .u8)) (.pair (.int .i64) (.pair (.int .u64) .unit))), .imm false .str, .imm false .str], [.imm false .str], fun x => S_Pspec_l1Cur_spoilt x.1 x.2.1 x.2.2.1, true⟩
theorem ok36 : FOk Tryz.prog fa 36 s36 := fn_says env36 Tryz.func36 rfl fun x y h => let ⟨N, hN⟩ := lim_some h; ⟨N, (r36 N x.1 x.2.1 x.2.2.1).trans hN⟩
theorem enters36 : Enters Tryz.prog 36 := enters Tryz.func36 (by kernel_rfl) rfl

/-! ## loop.example/g00698/spec.DrawReadMsgBytes -/
noncomputable def E13 : Env := { tab := tab, sig := [(27, s27), (8, s8), (35, s35), (36, s36)], clos := [], live := [], eqs := [], inl := [] }
set_option maxRecDepth 100000 in
theorem r13 (N : Nat) (a0 : List Int) : runF N E13 Tryz.f13 [.imm false (.slice 5 (.int .u8))] [.imm false (.int .i64), .imm false .str] (a0, ()) = p_spec_DrawReadMsgBytes N a0 := by kernel_rfl
theorem env13 : EnvOk Tryz.prog (fa.at true) E13 := envOk mixed tabOk ⟨⟨enters27, ok27, fun _ => rfl⟩, ⟨enters8, ok8, fun _ => rfl⟩, ⟨enters35, ok35, fun _ => rfl⟩, ⟨enters36, ok36, fun _ => rfl⟩, trivial⟩ trivial trivial
noncomputable def s13 : FSpec := ⟨[.imm false (.slice 5 (.int .u8))], [.imm false (.int .i64), .imm false .str], fun x => S_spec_DrawReadMsgBytes x.1, true⟩
theorem ok13 : FOk Tryz.prog fa 13 s13 := fn_says env13 Tryz.func13 rfl fun x y h => ⟨0, (r13 0 x.1).trans h⟩
theorem enters13 : Enters Tryz.prog 13 := enters Tryz.func13 (by kernel_rfl) rfl

/-! ## loop.example/g00698/spec.l1Split -/
noncomputable def E94 : Env := { tab := tab, sig := [], clos := [], live := [(0, [0, 1, 5, 6, 7], [])], eqs := [], inl := [] }
set_option maxRecDepth 100000 in
theorem r94 (N : Nat) (a0 : ByteArray) (a1 : Int) : runF N E94 Tryz.f94 [.imm false .str, .imm false (.int .u8)] [.deep false (.slice 9 .str)] (a0, a1, ()) = p_spec_l1Split N a0 a1 := by kernel_rfl
theorem env94 : EnvOk Tryz.prog (fa.at true) E94 := envOk mixed tabOk trivial trivial trivial
noncomputable def s94 : FSpec := ⟨[.imm false .str, .imm false (.int .u8)], [.deep false (.slice 9 .str)], fun x => S_spec_l1Split x.1 x.2.1, true⟩
theorem ok94 : FOk Tryz.prog fa 94 s94 := fn_says env94 Tryz.func94 rfl fun x y h => let ⟨N, hN⟩ := lim_some h; ⟨N, (r94 N x.1 x.2.1).trans hN⟩
theorem enters94 : Enters Tryz.prog 94 := enters Tryz.func94 (by kernel_rfl) rfl

/-! ## loop.example/g00698/spec.l1Read -/
noncomputable def E95 : Env := { tab := tab, sig := [(45, s45)], clos := [], live := [(0, [0, 3, 4, 30, 31, 32, 33], [])], eqs := [], inl := [] }
set_option maxRecDepth 100000 in
theorem r95 (N : Nat) (a0 : ByteArray) : runF N E95 Tryz.f95 [.imm false .str] [.imm false (.int .i64)] (a0, ()) = p_spec_l1Read N a0 := by kernel_rfl
theorem env95 : EnvOk Tryz.prog (fa.at true) E95 := envOk mixed tabOk ⟨⟨enters45, ok45, fun _ => rfl⟩, trivial⟩ trivial trivial
noncomputable def s95 : FSpec := ⟨[.imm false .str], [.imm false (.int .i64)], fun x => S_spec_l1Read x.1, true⟩
theorem ok95 : FOk Tryz.prog fa 95 s95 := fn_says env95 Tryz.func95 rfl fun x y h => let ⟨N, hN⟩ := lim_some h; ⟨N, (r95 N x.1).trans hN⟩
theorem enters95 : Enters Tryz.prog 95 := enters Tryz.func95 (by kernel_rfl) rfl

/-! ## loop.example/g00698/spec.ReadCmd -/
noncomputable def E96 : Env := { tab := tab, sig := [(94, s94), (95, s95), (105, s105)], clos := [], live := [(1, [2, 7, 8, 32, 33, 34, 48, 49, 50, 51, 52], [])], eqs := [], inl := [] }
set_option maxRecDepth 100000 in
theorem r96 (N : Nat) (a0 : ByteArray) : runF N E96 Tryz.f96 [.imm false .str] [.imm true (.pair (.int .i64) (.pair (.int .i64) (.pair (.int .i64) (.pair (.int .i64) (.pair (.int .i64) .unit))))), .imm false (.int .i64), .imm false .bool] (a0, ()) = p_spec_ReadCmd N a0 := by kernel_rfl
theorem env96 : EnvOk Tryz.prog (fa.at true) E96 := envOk mixed tabOk ⟨⟨enters94, ok94, fun _ => rfl⟩, ⟨enters95, ok95, fun _ => rfl⟩, ⟨enters105, ok105, fun _ => rfl⟩, trivial⟩ trivial trivial
noncomputable def s96 : FSpec := ⟨[.imm false .str], [.imm true (.pair (.int .i64) (.pair (.int .i64) (.pair (.int .i64) (.pair (.int .i64) (.pair (.int .i64) .unit))))), .imm false (.int .i64), .imm false .bool], fun x => S_spec_ReadCmd x.1, true⟩
theorem ok96 : FOk Tryz.prog fa 96 s96 := fn_says env96 Tryz.func96 rfl fun x y h => let ⟨N, hN⟩ := lim_some h; ⟨N, (r96 N x.1).trans hN⟩
theorem enters96 : Enters Tryz.prog 96 := enters Tryz.func96 (by kernel_rfl) rfl

/-! ## loop.example/g00698/spec.GoodAttr -/
noncomputable def E111 : Env := { tab := tab, sig := [(37, s37), (86, s86)], clos := [], live := [], eqs := [], inl := [] }
set_option maxRecDepth 100000 in
theorem r111 (N : Nat) (a0 : Int) (a1 : T6) : runF N E111 Tryz.f111 [.imm false (.int .i64), .imm true (.pair (.int .i64) (.pair (.slice 3 (.int .i64)) .unit))] [.imm false .bool] (a0, a1, ()) = p_spec_GoodAttr N a0 a1 := by kernel_rfl
theorem env111 : EnvOk Tryz.prog (fa.at true) E111 := envOk mixed tabOk ⟨⟨enters37, ok37, fun _ => rfl⟩, ⟨enters86, ok86, fun _ => rfl⟩, trivial⟩ trivial trivial
noncomputable def s111 : FSpec := ⟨[.imm false (.int .i64), .imm true (.pair (.int .i64) (.pair (.slice 3 (.int .i64)) .unit))], [.imm false .bool], fun x => S_spec_GoodAttr x.1 x.2.1, true⟩
theorem ok111 : FOk Tryz.prog fa 111 s111 := fn_says env111 Tryz.func111 rfl fun x y h => ⟨0, (r111 0 x.1 x.2.1).trans h⟩
theorem enters111 : Enters Tryz.prog 111 := enters Tryz.func111 (by kernel_rfl) rfl

/-! ## loop.example/g00698/spec.ReadAttr -/
noncomputable def E97 : Env := { tab := tab, sig := [(94, s94), (95, s95), (111, s111)], clos := [], live := [(0, [0, 4, 7, 29, 30, 31], [.row 2 1 3 (.int .i64) true []])], eqs := [], inl := [] }
set_option maxRecDepth 100000 in
theorem r97 (N : Nat) (a0 : Int) (a1 : ByteArray) : runF N E97 Tryz.f97 [.imm false (.int .i64), .imm false .str] [.deep true (.pair (.int .i64) (.pair (.slice 3 (.int .i64)) .unit)), .imm false .bool] (a0, a1, ()) = p_spec_ReadAttr N a0 a1 := by kernel_rfl
theorem env97 : EnvOk Tryz.prog (fa.at true) E97 := envOk mixed tabOk ⟨⟨enters94, ok94, fun _ => rfl⟩, ⟨enters95, ok95, fun _ => rfl⟩, ⟨enters111, ok111, fun _ => rfl⟩, trivial⟩ trivial trivial
noncomputable def s97 : FSpec := ⟨[.imm false (.int .i64), .imm false .str], [.deep true (.pair (.int .i64) (.pair (.slice 3 (.int .i64)) .unit)), .imm false .bool], fun x => S_spec_ReadAttr x.1 x.2.1, true⟩
theorem ok97 : FOk Tryz.prog fa 97 s97 := fn_says env97 Tryz.func97 rfl fun x y h => let ⟨N, hN⟩ := lim_some h; ⟨N, (r97 N x.1 x.2.1).trans hN⟩
theorem enters97 : Enters Tryz.prog 97 := enters Tryz.func97 (by kernel_rfl) rfl

/-! ## loop.example/g00698/spec.ReadMsg -/
noncomputable def E66 : Env := { tab := tab, sig := [(94, s94), (37, s37), (54, s54), (95, s95), (96, s96), (97, s97), (53, s53)], clos := [], live := [(0, [0, 4, 7, 8, 9, 35, 36, 37, 45, 46, 47, 48, 49, 56, 57, 58, 77, 78, 79, 80, 81, 82, 83], []), (2, [0, 4, 7, 9, 12, 62, 63, 64, 77, 78, 79, 80, 81, 82, 83], [])], eqs := [], inl := [] }
set_option maxRecDepth 100000 in
theorem r66 (N : Nat) (a0 : Int) (a1 : ByteArray) : runF N E66 Tryz.f66 [.imm false (.int .i64), .imm false .str] [.deep true (.pair (.int .i64) (.pair (.int .i64) (.pair (.int .i64) (.pair (.int .i64) (.pair (.int .i64) (.pair (.int .i64) (.pair (.int .i64) (.pair (.int .i64) (.pair (.pair (.int .i64) (.pair (.int .i64) (.pair (.int .i64) (.pair (.int .i64) (.pair (.int .i64) .unit))))) (.pair (.pair (.int .i64) (.pair (.slice 3 (.int .i64)) .unit)) .unit)))))))))), .imm false (.int .i64), .imm false .bool] (a0, a1, ()) = p_spec_ReadMsg N a0 a1 := by kernel_rfl
theorem env66 : EnvOk Tryz.prog (fa.at true) E66 := envOk mixed tabOk ⟨⟨enters94, ok94, fun _ => rfl⟩, ⟨enters37, ok37, fun _ => rfl⟩, ⟨enters54, ok54, fun _ => rfl⟩, ⟨enters95, ok95, fun _ => rfl⟩, ⟨enters96, ok96, fun _ => rfl⟩, ⟨enters97, ok97, fun _ => rfl⟩, ⟨enters53, ok53, fun _ => rfl⟩, trivial⟩ trivial trivial
noncomputable def s66 : FSpec := ⟨[.imm false (.int .i64), .imm false .str], [.deep true (.pair (.int .i64) (.pair (.int .i64) (.pair (.int .i64) (.pair (.int .i64) (.pair (.int .i64) (.pair (.int .i64) (.pair (.int .i64) (.pair (.int .i64) (.pair (.pair (.int .i64) (.pair (.int .i64) (.pair (.int .i64) (.pair (.int .i64) (.pair (.int .i64) .unit))))) (.pair (.pair (.int .i64) (.pair (.slice 3 (.int .i64)) .unit)) .unit)))))))))), .imm false (.int .i64), .imm false .bool], fun x => S_spec_ReadMsg x.1 x.2.1, true⟩
theorem ok66 : FOk Tryz.prog fa 66 s66 := fn_says env66 Tryz.func66 rfl fun x y h => let ⟨N, hN⟩ := lim_some h; ⟨N, (r66 N x.1 x.2.1).trans hN⟩
theorem enters66 : Enters Tryz.prog 66 := enters Tryz.func66 (by kernel_rfl) rfl

/-! ## loop.example/g00698/spec.l21One -/
noncomputable def E38 : Env := { tab := tab, sig := [(66, s66), (31, s31), (30, s30)], clos := [], live := [], eqs := [], inl := [] }
set_option maxRecDepth 100000 in
theorem r38 (N : Nat) (a0 : Int) (a1 : ByteArray) : runF N E38 Tryz.f38 [.imm false (.int .i64), .imm false .str] [.deep true (.pair (.int .i64) (.pair (.int .i64) (.pair (.int .i64) (.pair (.int .i64) (.pair (.int .i64) (.pair (.int .i64) (.pair (.int .i64) (.pair (.int .i64) (.pair (.pair (.int .i64) (.pair (.int .i64) (.pair (.int .i64) (.pair (.int .i64) (.pair (.int .i64) .unit))))) (.pair (.pair (.int .i64) (.pair (.slice 3 (.int .i64)) .unit)) .unit)))))))))), .imm false (.int .i64)] (a0, a1, ()) = p_spec_l21One N a0 a1 := by kernel_rfl
theorem env38 : EnvOk Tryz.prog (fa.at true) E38 := envOk mixed tabOk ⟨⟨enters66, ok66, fun _ => rfl⟩, ⟨enters31, ok31, fun _ => rfl⟩, ⟨enters30, ok30, fun _ => rfl⟩, trivial⟩ trivial trivial
noncomputable def s38 : FSpec := ⟨[.imm false (.int .i64), .imm false .str], [.deep true (.pair (.int .i64) (.pair (.int .i64) (.pair (.int .i64) (.pair (.int .i64) (.pair (.int .i64) (.pair (.int .i64) (.pair (.int .i64) (.pair (.int .i64) (.pair (.pair (.int .i64) (.pair (.int .i64) (.pair (.int .i64) (.pair (.int .i64) (.pair (.int .i64) .unit))))) (.pair (.pair (.int .i64) (.pair (.slice 3 (.int .i64)) .unit)) .unit)))))))))), .imm false (.int .i64)], fun x => S_spec_l21One x.1 x.2.1, true⟩
theorem ok38 : FOk Tryz.prog fa 38 s38 := fn_says env38 Tryz.func38 rfl fun x y h => ⟨0, (r38 0 x.1 x.2.1).trans h⟩
theorem enters38 : Enters Tryz.prog 38 := enters Tryz.func38 (by kernel_rfl) rfl

/-! ## loop.example/g00698/spec.ReadMsgBytes -/
noncomputable def E14 : Env := { tab := tab, sig := [(37, s37), (38, s38)], clos := [], live := [], eqs := [], inl := [] }
set_option maxRecDepth 100000 in
theorem r14 (N : Nat) (a0 : Int) (a1 : ByteArray) : runF N E14 Tryz.f14 [.imm false (.int .i64), .imm false .str] [.deep true (.pair (.int .i64) (.pair (.int .i64) (.pair (.int .i64) (.pair (.int .i64) (.pair (.int .i64) (.pair (.int .i64) (.pair (.int .i64) (.pair (.int .i64) (.pair (.pair (.int .i64) (.pair (.int .i64) (.pair (.int .i64) (.pair (.int .i64) (.pair (.int .i64) .unit))))) (.pair (.pair (.int .i64) (.pair (.slice 3 (.int .i64)) .unit)) .unit)))))))))), .imm false .bool] (a0, a1, ()) = p_spec_ReadMsgBytes N a0 a1 := by kernel_rfl
theorem env14 : EnvOk Tryz.prog (fa.at true) E14 := envOk mixed tabOk ⟨⟨enters37, ok37, fun _ => rfl⟩, ⟨enters38, ok38, fun _ => rfl⟩, trivial⟩ trivial trivial
noncomputable def s14 : FSpec := ⟨[.imm false (.int .i64), .imm false .str], [.deep true (.pair (.int .i64) (.pair (.int .i64) (.pair (.int .i64) (.pair (.int .i64) (.pair (.int .i64) (.pair (.int .i64) (.pair (.int .i64) (.pair (.int .i64) (.pair (.pair (.int .i64) (.pair (.int .i64) (.pair (.int .i64) (.pair (.int .i64) (.pair (.int .i64) .unit))))) (.pair (.pair (.int .i64) (.pair (.slice 3 (.int .i64)) .unit)) .unit)))))))))), .imm false .bool], fun x => S_spec_ReadMsgBytes x.1 x.2.1, true⟩
theorem ok14 : FOk Tryz.prog fa 14 s14 := fn_says env14 Tryz.func14 rfl fun x y h => ⟨0, (r14 0 x.1 x.2.1).trans h⟩
theorem enters14 : Enters Tryz.prog 14 := enters Tryz.func14 (by kernel_rfl) rfl

/-! ## loop.example/g00698/laws.FnMsgBytes -/
noncomputable def E3 : Env := { tab := tab, sig := [(5, s5), (6, s6), (7, s7), (8, s8), (9, s9), (10, s10), (11, s11), (12, s12), (13, s13), (14, s14)], clos := [], live := [], eqs := [], inl := [], q := false }
set_option maxRecDepth 100000 in
theorem r3 (N : Nat) (a0 : List Int) (a1 : List Int) : runF N E3 Tryz.f3 [.imm false (.slice 5 (.int .u8)), .imm false (.slice 5 (.int .u8))] [.imm false .bool] (a0, a1, ()) = p_laws_FnMsgBytes N a0 a1 := by kernel_rfl
theorem env3 : EnvOk Tryz.prog (fa.at false) E3 := envOk mixed tabOk ⟨⟨enters5, ok5, fun _ => rfl⟩, ⟨enters6, ok6, fun _ => rfl⟩, ⟨enters7, ok7, fun h => h⟩, ⟨enters8, ok8, fun _ => rfl⟩, ⟨enters9, ok9, fun _ => rfl⟩, ⟨enters10, ok10, fun _ => rfl⟩, ⟨enters11, ok11, fun _ => rfl⟩, ⟨enters12, ok12, fun _ => rfl⟩, ⟨enters13, ok13, fun _ => rfl⟩, ⟨enters14, ok14, fun _ => rfl⟩, trivial⟩ trivial trivial

end Go.Proofs.YtmnekhlgldljcaaGreatDoor.Am
