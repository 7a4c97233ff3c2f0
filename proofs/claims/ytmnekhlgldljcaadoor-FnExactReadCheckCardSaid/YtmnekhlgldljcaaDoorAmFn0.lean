/- Functions, as they run on data. No condition. -/
import Derived.Test.YtmnekhlgldljcaaDoorAmTab
import Derived.Test.YtmnekhlgldljcaaDoorAmQ
set_option linter.unusedVariables false
set_option maxRecDepth 100000
namespace Go.Proofs.YtmnekhlgldljcaaDoor.Am
open Go.AM Go.AM.P Go.Proofs Go.Shelf
/-! ## loop.example/g00698/spec.l1Split -/
noncomputable def E69 : Env := { tab := tab, sig := [], clos := [], live := [(0, [0, 1, 5, 6, 7], [])], eqs := [], inl := [] }
set_option maxRecDepth 100000 in
theorem r69 (N : Nat) (a0 : ByteArray) (a1 : Int) : runF N E69 Tryd.f69 [.imm false .str, .imm false (.int .u8)] [.deep false (.slice 9 .str)] (a0, a1, ()) = p_spec_l1Split N a0 a1 := by kernel_rfl
theorem env69 : EnvOk Tryd.prog (fa.at true) E69 := envOk mixed tabOk trivial trivial trivial
noncomputable def s69 : FSpec := ⟨[.imm false .str, .imm false (.int .u8)], [.deep false (.slice 9 .str)], fun x => S_spec_l1Split x.1 x.2.1, true⟩
theorem ok69 : FOk Tryd.prog fa 69 s69 := fn_says env69 Tryd.func69 rfl fun x y h => let ⟨N, hN⟩ := lim_some h; ⟨N, (r69 N x.1 x.2.1).trans hN⟩
theorem enters69 : Enters Tryd.prog 69 := enters Tryd.func69 (by kernel_rfl) rfl

/-! ## loop.example/g00698/spec.l1In -/
noncomputable def E84 : Env := { tab := tab, sig := [], clos := [], live := [], eqs := [], inl := [] }
set_option maxRecDepth 100000 in
theorem r84 (N : Nat) (a0 : Int) (a1 : Int) (a2 : Int) : runF N E84 Tryd.f84 [.imm false (.int .i64), .imm false (.int .i64), .imm false (.int .i64)] [.imm false .bool] (a0, a1, a2, ()) = p_spec_l1In N a0 a1 a2 := by kernel_rfl
theorem env84 : EnvOk Tryd.prog (fa.at true) E84 := envOk mixed tabOk trivial trivial trivial
noncomputable def s84 : FSpec := ⟨[.imm false (.int .i64), .imm false (.int .i64), .imm false (.int .i64)], [.imm false .bool], fun x => S_spec_l1In x.1 x.2.1 x.2.2.1, true⟩
theorem ok84 : FOk Tryd.prog fa 84 s84 := fn_says env84 Tryd.func84 rfl fun x y h => ⟨0, (r84 0 x.1 x.2.1 x.2.2.1).trans h⟩
theorem enters84 : Enters Tryd.prog 84 := enters Tryd.func84 (by kernel_rfl) rfl

/-! ## loop.example/g00698/spec.l1Read -/
noncomputable def E70 : Env := { tab := tab, sig := [(84, s84)], clos := [], live := [(0, [0, 3, 4, 30, 31, 32, 33], [])], eqs := [], inl := [] }
set_option maxRecDepth 100000 in
theorem r70 (N : Nat) (a0 : ByteArray) : runF N E70 Tryd.f70 [.imm false .str] [.imm false (.int .i64)] (a0, ()) = p_spec_l1Read N a0 := by kernel_rfl
theorem env70 : EnvOk Tryd.prog (fa.at true) E70 := envOk mixed tabOk ⟨⟨enters84, ok84, fun _ => rfl⟩, trivial⟩ trivial trivial
noncomputable def s70 : FSpec := ⟨[.imm false .str], [.imm false (.int .i64)], fun x => S_spec_l1Read x.1, true⟩
theorem ok70 : FOk Tryd.prog fa 70 s70 := fn_says env70 Tryd.func70 rfl fun x y h => let ⟨N, hN⟩ := lim_some h; ⟨N, (r70 N x.1).trans hN⟩
theorem enters70 : Enters Tryd.prog 70 := enters Tryd.func70 (by kernel_rfl) rfl

/-! ## loop.example/g00698/spec.IsGroup -/
noncomputable def E67 : Env := { tab := tab, sig := [], clos := [], live := [], eqs := [], inl := [] }
set_option maxRecDepth 100000 in
theorem r67 (N : Nat) (a0 : Int) : runF N E67 Tryd.f67 [.imm false (.int .i64)] [.imm false .bool] (a0, ()) = p_spec_IsGroup N a0 := by kernel_rfl
theorem env67 : EnvOk Tryd.prog (fa.at true) E67 := envOk mixed tabOk trivial trivial trivial
noncomputable def s67 : FSpec := ⟨[.imm false (.int .i64)], [.imm false .bool], fun x => S_spec_IsGroup x.1, true⟩
theorem ok67 : FOk Tryd.prog fa 67 s67 := fn_says env67 Tryd.func67 rfl fun x y h => ⟨0, (r67 0 x.1).trans h⟩
theorem enters67 : Enters Tryd.prog 67 := enters Tryd.func67 (by kernel_rfl) rfl

/-! ## loop.example/g00698/spec.l3Inst -/
noncomputable def E116 : Env := { tab := tab, sig := [(84, s84)], clos := [], live := [], eqs := [], inl := [] }
set_option maxRecDepth 100000 in
theorem r116 (N : Nat) (a0 : Int) (a1 : Int) (a2 : Int) : runF N E116 Tryd.f116 [.imm false (.int .i64), .imm false (.int .i64), .imm false (.int .i64)] [.imm false .bool] (a0, a1, a2, ()) = p_spec_l3Inst N a0 a1 a2 := by kernel_rfl
theorem env116 : EnvOk Tryd.prog (fa.at true) E116 := envOk mixed tabOk ⟨⟨enters84, ok84, fun _ => rfl⟩, trivial⟩ trivial trivial
noncomputable def s116 : FSpec := ⟨[.imm false (.int .i64), .imm false (.int .i64), .imm false (.int .i64)], [.imm false .bool], fun x => S_spec_l3Inst x.1 x.2.1 x.2.2.1, true⟩
theorem ok116 : FOk Tryd.prog fa 116 s116 := fn_says env116 Tryd.func116 rfl fun x y h => ⟨0, (r116 0 x.1 x.2.1 x.2.2.1).trans h⟩
theorem enters116 : Enters Tryd.prog 116 := enters Tryd.func116 (by kernel_rfl) rfl

/-! ## loop.example/g00698/spec.l18Done -/
noncomputable def E91 : Env := { tab := tab, sig := [(116, s116)], clos := [], live := [(0, [0, 1, 7, 8, 9, 18, 19, 20, 21, 22, 23, 24, 25, 26, 31, 32, 33, 34, 35, 36, 37, 38, 39, 40, 41, 42, 43, 44, 45, 46, 47, 48, 49, 50, 51, 52, 53, 54, 55, 56, 57, 58, 59, 60, 61, 62, 63, 64, 65, 66, 67], [])], eqs := [], inl := [] }
set_option maxRecDepth 100000 in
theorem r91 (N : Nat) (a0 : Int) (a1 : List (List Int)) : runF N E91 Tryd.f91 [.imm false (.int .i64), .imm false (.slice 24 (.slice 3 (.int .i64)))] [.imm false .bool] (a0, a1, ()) = p_spec_l18Done N a0 a1 := by kernel_rfl
theorem env91 : EnvOk Tryd.prog (fa.at true) E91 := envOk mixed tabOk ⟨⟨enters116, ok116, fun _ => rfl⟩, trivial⟩ trivial trivial
noncomputable def s91 : FSpec := ⟨[.imm false (.int .i64), .imm false (.slice 24 (.slice 3 (.int .i64)))], [.imm false .bool], fun x => S_spec_l18Done x.1 x.2.1, true⟩
theorem ok91 : FOk Tryd.prog fa 91 s91 := fn_says env91 Tryd.func91 rfl fun x y h => let ⟨N, hN⟩ := lim_some h; ⟨N, (r91 N x.1 x.2.1).trans hN⟩
theorem enters91 : Enters Tryd.prog 91 := enters Tryd.func91 (by kernel_rfl) rfl

/-! ## loop.example/g00698/spec.GoodSums -/
noncomputable def E92 : Env := { tab := tab, sig := [(84, s84)], clos := [], live := [(0, [0, 3, 6, 7, 8, 23, 24], [])], eqs := [], inl := [] }
set_option maxRecDepth 100000 in
theorem r92 (N : Nat) (a0 : List Int) : runF N E92 Tryd.f92 [.imm false (.slice 3 (.int .i64))] [.imm false .bool] (a0, ()) = p_spec_GoodSums N a0 := by kernel_rfl
theorem env92 : EnvOk Tryd.prog (fa.at true) E92 := envOk mixed tabOk ⟨⟨enters84, ok84, fun _ => rfl⟩, trivial⟩ trivial trivial
noncomputable def s92 : FSpec := ⟨[.imm false (.slice 3 (.int .i64))], [.imm false .bool], fun x => S_spec_GoodSums x.1, true⟩
theorem ok92 : FOk Tryd.prog fa 92 s92 := fn_says env92 Tryd.func92 rfl fun x y h => let ⟨N, hN⟩ := lim_some h; ⟨N, (r92 N x.1).trans hN⟩
theorem enters92 : Enters Tryd.prog 92 := enters Tryd.func92 (by kernel_rfl) rfl

/-! ## loop.example/g00698/spec.GoodCheck -/
noncomputable def E55 : Env := { tab := tab, sig := [(67, s67), (91, s91), (92, s92)], clos := [], live := [], eqs := [], inl := [] }
set_option maxRecDepth 100000 in
theorem r55 (N : Nat) (a0 : Int) (a1 : T1) : runF N E55 Tryd.f55 [.imm false (.int .i64), .imm true (.pair (.slice 24 (.slice 3 (.int .i64))) (.pair (.slice 3 (.int .i64)) .unit))] [.imm false .bool] (a0, a1, ()) = p_spec_GoodCheck N a0 a1 := by kernel_rfl
theorem env55 : EnvOk Tryd.prog (fa.at true) E55 := envOk mixed tabOk ⟨⟨enters67, ok67, fun _ => rfl⟩, ⟨enters91, ok91, fun _ => rfl⟩, ⟨enters92, ok92, fun _ => rfl⟩, trivial⟩ trivial trivial
noncomputable def s55 : FSpec := ⟨[.imm false (.int .i64), .imm true (.pair (.slice 24 (.slice 3 (.int .i64))) (.pair (.slice 3 (.int .i64)) .unit))], [.imm false .bool], fun x => S_spec_GoodCheck x.1 x.2.1, true⟩
theorem ok55 : FOk Tryd.prog fa 55 s55 := fn_says env55 Tryd.func55 rfl fun x y h => ⟨0, (r55 0 x.1 x.2.1).trans h⟩
theorem enters55 : Enters Tryd.prog 55 := enters Tryd.func55 (by kernel_rfl) rfl

/-! ## loop.example/g00698/spec.ReadCheck -/
noncomputable def E28 : Env := { tab := tab, sig := [(69, s69), (70, s70), (55, s55)], clos := [], live := [(0, [0, 4, 6, 7, 29, 30, 31], [.row 2 0 24 (.slice 3 (.int .i64)) true []]), (2, [0, 4, 6, 7, 10, 29, 30, 31, 40, 41, 42], []), (4, [0, 4, 7, 62, 63, 64], [.row 2 1 3 (.int .i64) true []])], eqs := [], inl := [] }
set_option maxRecDepth 100000 in
theorem r28 (N : Nat) (a0 : Int) (a1 : ByteArray) : runF N E28 Tryd.f28 [.imm false (.int .i64), .imm false .str] [.deep true (.pair (.slice 24 (.slice 3 (.int .i64))) (.pair (.slice 3 (.int .i64)) .unit)), .imm false .bool] (a0, a1, ()) = p_spec_ReadCheck N a0 a1 := by kernel_rfl
theorem env28 : EnvOk Tryd.prog (fa.at true) E28 := envOk mixed tabOk ⟨⟨enters69, ok69, fun _ => rfl⟩, ⟨enters70, ok70, fun _ => rfl⟩, ⟨enters55, ok55, fun _ => rfl⟩, trivial⟩ trivial trivial
noncomputable def s28 : FSpec := ⟨[.imm false (.int .i64), .imm false .str], [.deep true (.pair (.slice 24 (.slice 3 (.int .i64))) (.pair (.slice 3 (.int .i64)) .unit)), .imm false .bool], fun x => S_spec_ReadCheck x.1 x.2.1, true⟩
theorem ok28 : FOk Tryd.prog fa 28 s28 := fn_says env28 Tryd.func28 rfl fun x y h => let ⟨N, hN⟩ := lim_some h; ⟨N, (r28 N x.1 x.2.1).trans hN⟩
theorem enters28 : Enters Tryd.prog 28 := enters Tryd.func28 (by kernel_rfl) rfl

/-! ## strings.Cut -/
def Lay71_ren : Go.Shelf.Ren := ⟨fun | 145 => 71 | 220 => 106 | 219 => 136 | 217 => 157 | 225 => 158 | 224 => 159 | 267 => 160 | 266 => 173 | 314 => 174 | n => n, fun | 9 => 9 | 4 => 4 | 59 => 96 | 3 => 3 | 5 => 5 | 46 => 166 | 146 => 174 | 51 => 171 | n => n, fun | 1 => 0 | n => n⟩
theorem Lay71 : Go.Proofs.LaysM.n145 Tryd.prog Lay71_ren := {
  mixed := by kernel_rfl
  f145 := Tryd.func71.trans (congrArg some (by kernel_rfl))
  f217 := Tryd.func157.trans (congrArg some (by kernel_rfl))
  f219 := Tryd.func136.trans (congrArg some (by kernel_rfl))
  f220 := Tryd.func106.trans (congrArg some (by kernel_rfl))
  f224 := Tryd.func159.trans (congrArg some (by kernel_rfl))
  f225 := Tryd.func158.trans (congrArg some (by kernel_rfl))
  f266 := Tryd.func173.trans (congrArg some (by kernel_rfl))
  f267 := Tryd.func160.trans (congrArg some (by kernel_rfl))
  f314 := Tryd.func174.trans (congrArg some (by kernel_rfl))
  t3 := Tryd.underlying3
  a3 := Tryd.isAgg3
  z3 := Tryd.sizeOf3
  v3 := Tryd.zeroValue3
  t4 := Tryd.underlying4
  a4 := Tryd.isAgg4
  z4 := Tryd.sizeOf4
  v4 := Tryd.zeroValue4
  t5 := Tryd.underlying5
  a5 := Tryd.isAgg5
  z5 := Tryd.sizeOf5
  v5 := Tryd.zeroValue5
  t9 := Tryd.underlying9
  a9 := Tryd.isAgg9
  z9 := Tryd.sizeOf9
  v9 := Tryd.zeroValue9
  t46 := Tryd.underlying166
  a46 := Tryd.isAgg166
  z46 := Tryd.sizeOf166
  v46 := Tryd.zeroValue166
  t51 := Tryd.underlying171
  a51 := Tryd.isAgg171
  z51 := Tryd.sizeOf171
  v51 := Tryd.zeroValue171
  t59 := Tryd.underlying96
  a59 := Tryd.isAgg96
  z59 := Tryd.sizeOf96
  v59 := Tryd.zeroValue96
  t146 := Tryd.underlying174
  a146 := Tryd.isAgg174
  z146 := Tryd.sizeOf174
  v146 := Tryd.zeroValue174
  g1 := by kernel_rfl
  i3 := by kernel_rfl
  i4 := by kernel_rfl
  i5 := by kernel_rfl
  i9 := by kernel_rfl
  i46 := by kernel_rfl
  i51 := by kernel_rfl
  i59 := by kernel_rfl
  i146 := by kernel_rfl
  m1 := by kernel_rfl
  s1_3 := fun w h => Go.Proofs.cell_of_shapedOpen_int (zero := #[.int .i64 0]) (t := 3) h (of_decide_eq_true (by kernel_rfl)) (by kernel_rfl) rfl (by kernel_rfl) (by kernel_rfl) Tryd.underlying3 }

noncomputable def s71 : FSpec := ⟨[.imm false .str, .imm false .str], [.imm false .str, .imm false .str, .imm false .bool], fun x => S_strings_Cut x.1 x.2.1, true⟩
theorem ok71 : FOk Tryd.prog fa 71 s71 := ok_Cut Lay71 (fun W h => h.1) (by decide)
theorem enters71 : Enters Tryd.prog 71 := enters Tryd.func71 (by kernel_rfl) rfl

/-! ## strings.Split -/
def Lay73_ren : Go.Shelf.Ren := ⟨fun | 146 => 73 | 221 => 107 | 268 => 137 | 138 => 138 | 143 => 139 | 195 => 161 | 197 => 162 | 218 => 163 | 219 => 136 | 260 => 175 | 217 => 157 | 225 => 158 | 224 => 159 | 267 => 160 | 266 => 173 | 314 => 174 | n => n, fun | 9 => 9 | 31 => 80 | 3 => 3 | 4 => 4 | 0 => 0 | 105 => 167 | 21 => 21 | 5 => 5 | 46 => 166 | 119 => 177 | 139 => 180 | 138 => 179 | 146 => 174 | 51 => 171 | n => n, fun | 1 => 0 | 3 => 2 | 4 => 3 | n => n⟩
theorem Lay73 : Go.Proofs.LaysM.n146 Tryd.prog Lay73_ren := {
  mixed := by kernel_rfl
  f138 := Tryd.func138.trans (congrArg some (by kernel_rfl))
  f143 := Tryd.func139.trans (congrArg some (by kernel_rfl))
  f146 := Tryd.func73.trans (congrArg some (by kernel_rfl))
  f195 := Tryd.func161.trans (congrArg some (by kernel_rfl))
  f197 := Tryd.func162.trans (congrArg some (by kernel_rfl))
  f217 := Tryd.func157.trans (congrArg some (by kernel_rfl))
  f218 := Tryd.func163.trans (congrArg some (by kernel_rfl))
  f219 := Tryd.func136.trans (congrArg some (by kernel_rfl))
  f221 := Tryd.func107.trans (congrArg some (by kernel_rfl))
  f224 := Tryd.func159.trans (congrArg some (by kernel_rfl))
  f225 := Tryd.func158.trans (congrArg some (by kernel_rfl))
  f260 := Tryd.func175.trans (congrArg some (by kernel_rfl))
  f266 := Tryd.func173.trans (congrArg some (by kernel_rfl))
  f267 := Tryd.func160.trans (congrArg some (by kernel_rfl))
  f268 := Tryd.func137.trans (congrArg some (by kernel_rfl))
  f314 := Tryd.func174.trans (congrArg some (by kernel_rfl))
  t0 := Tryd.underlying0
  a0 := Tryd.isAgg0
  z0 := Tryd.sizeOf0
  v0 := Tryd.zeroValue0
  t3 := Tryd.underlying3
  a3 := Tryd.isAgg3
  z3 := Tryd.sizeOf3
  v3 := Tryd.zeroValue3
  t4 := Tryd.underlying4
  a4 := Tryd.isAgg4
  z4 := Tryd.sizeOf4
  v4 := Tryd.zeroValue4
  t5 := Tryd.underlying5
  a5 := Tryd.isAgg5
  z5 := Tryd.sizeOf5
  v5 := Tryd.zeroValue5
  t9 := Tryd.underlying9
  a9 := Tryd.isAgg9
  z9 := Tryd.sizeOf9
  v9 := Tryd.zeroValue9
  t21 := Tryd.underlying21
  a21 := Tryd.isAgg21
  z21 := Tryd.sizeOf21
  v21 := Tryd.zeroValue21
  t31 := Tryd.underlying80
  a31 := Tryd.isAgg80
  z31 := Tryd.sizeOf80
  v31 := Tryd.zeroValue80
  t46 := Tryd.underlying166
  a46 := Tryd.isAgg166
  z46 := Tryd.sizeOf166
  v46 := Tryd.zeroValue166
  t51 := Tryd.underlying171
  a51 := Tryd.isAgg171
  z51 := Tryd.sizeOf171
  v51 := Tryd.zeroValue171
  t105 := Tryd.underlying167
  a105 := Tryd.isAgg167
  z105 := Tryd.sizeOf167
  v105 := Tryd.zeroValue167
  t119 := Tryd.underlying177
  a119 := Tryd.isAgg177
  z119 := Tryd.sizeOf177
  t138 := Tryd.underlying179
  a138 := Tryd.isAgg179
  z138 := Tryd.sizeOf179
  v138 := Tryd.zeroValue179
  t139 := Tryd.underlying180
  a139 := Tryd.isAgg180
  z139 := Tryd.sizeOf180
  v139 := Tryd.zeroValue180
  t146 := Tryd.underlying174
  a146 := Tryd.isAgg174
  z146 := Tryd.sizeOf174
  v146 := Tryd.zeroValue174
  g1 := by kernel_rfl
  g3 := by kernel_rfl
  g4 := by kernel_rfl
  i0 := by kernel_rfl
  i3 := by kernel_rfl
  i4 := by kernel_rfl
  i5 := by kernel_rfl
  i9 := by kernel_rfl
  i21 := by kernel_rfl
  i31 := by kernel_rfl
  i46 := by kernel_rfl
  i51 := by kernel_rfl
  i105 := by kernel_rfl
  i138 := by kernel_rfl
  i139 := by kernel_rfl
  i146 := by kernel_rfl
  m1 := by kernel_rfl
  s1_3 := fun w h => Go.Proofs.cell_of_shapedOpen_int (zero := #[.int .i64 0]) (t := 3) h (of_decide_eq_true (by kernel_rfl)) (by kernel_rfl) rfl (by kernel_rfl) (by kernel_rfl) Tryd.underlying3
  m3 := by kernel_rfl
  m4 := by kernel_rfl }

noncomputable def s73 : FSpec := ⟨[.imm false .str, .imm false .str], [.deep false (.slice 9 .str)], fun x => S_strings_Split x.1 x.2.1, true⟩
theorem ok73 : FOk Tryd.prog fa 73 s73 := ok_Split Lay73 (fun W h => h.1) (by decide)
theorem enters73 : Enters Tryd.prog 73 := enters Tryd.func73 (by kernel_rfl) rfl

/-! ## loop.example/g00698/impl.digits -/
noncomputable def E74 : Env := { tab := tab, sig := [], clos := [], live := [(0, [0, 1, 5, 8, 9, 17, 18, 19, 20, 23, 24, 25, 39, 40, 41, 42, 43, 44, 45, 46], [])], eqs := [], inl := [] }
set_option maxRecDepth 100000 in
theorem r74 (N : Nat) (a0 : ByteArray) (a1 : Int) : runF N E74 Tryd.f74 [.imm false .str, .imm false (.int .i64)] [.imm false (.int .i64)] (a0, a1, ()) = p_impl_digits N a0 a1 := by kernel_rfl
theorem env74 : EnvOk Tryd.prog (fa.at true) E74 := envOk mixed tabOk trivial trivial trivial
noncomputable def s74 : FSpec := ⟨[.imm false .str, .imm false (.int .i64)], [.imm false (.int .i64)], fun x => S_impl_digits x.1 x.2.1, true⟩
theorem ok74 : FOk Tryd.prog fa 74 s74 := fn_says env74 Tryd.func74 rfl fun x y h => let ⟨N, hN⟩ := lim_some h; ⟨N, (r74 N x.1 x.2.1).trans hN⟩
theorem enters74 : Enters Tryd.prog 74 := enters Tryd.func74 (by kernel_rfl) rfl

/-! ## loop.example/g00698/impl.numbers -/
noncomputable def E72 : Env := { tab := tab, sig := [(74, s74)], clos := [], live := [(0, [1, 6, 11, 12, 13], [])], eqs := [], inl := [] }
set_option maxRecDepth 100000 in
theorem r72 (N : Nat) (a0 : List ByteArray) (a1 : Int) : runF N E72 Tryd.f72 [.imm false (.slice 9 .str), .imm false (.int .i64)] [.deep false (.slice 3 (.int .i64)), .imm false .bool] (a0, a1, ()) = p_impl_numbers N a0 a1 := by kernel_rfl
theorem env72 : EnvOk Tryd.prog (fa.at true) E72 := envOk mixed tabOk ⟨⟨enters74, ok74, fun _ => rfl⟩, trivial⟩ trivial trivial
noncomputable def s72 : FSpec := ⟨[.imm false (.slice 9 .str), .imm false (.int .i64)], [.deep false (.slice 3 (.int .i64)), .imm false .bool], fun x => S_impl_numbers x.1 x.2.1, true⟩
theorem ok72 : FOk Tryd.prog fa 72 s72 := fn_says env72 Tryd.func72 rfl fun x y h => let ⟨N, hN⟩ := lim_some h; ⟨N, (r72 N x.1 x.2.1).trans hN⟩
theorem enters72 : Enters Tryd.prog 72 := enters Tryd.func72 (by kernel_rfl) rfl

/-! ## loop.example/g00698/impl.IsGroup -/
noncomputable def E68 : Env := { tab := tab, sig := [], clos := [], live := [], eqs := [], inl := [] }
set_option maxRecDepth 100000 in
theorem r68 (N : Nat) (a0 : Int) : runF N E68 Tryd.f68 [.imm false (.int .i64)] [.imm false .bool] (a0, ()) = p_impl_IsGroup N a0 := by kernel_rfl
theorem env68 : EnvOk Tryd.prog (fa.at true) E68 := envOk mixed tabOk trivial trivial trivial
noncomputable def s68 : FSpec := ⟨[.imm false (.int .i64)], [.imm false .bool], fun x => S_impl_IsGroup x.1, true⟩
theorem ok68 : FOk Tryd.prog fa 68 s68 := fn_says env68 Tryd.func68 rfl fun x y h => ⟨0, (r68 0 x.1).trans h⟩
theorem enters68 : Enters Tryd.prog 68 := enters Tryd.func68 (by kernel_rfl) rfl

/-! ## loop.example/g00698/impl.within -/
noncomputable def E85 : Env := { tab := tab, sig := [], clos := [], live := [], eqs := [], inl := [] }
set_option maxRecDepth 100000 in
theorem r85 (N : Nat) (a0 : Int) (a1 : Int) (a2 : Int) : runF N E85 Tryd.f85 [.imm false (.int .i64), .imm false (.int .i64), .imm false (.int .i64)] [.imm false .bool] (a0, a1, a2, ()) = p_impl_within N a0 a1 a2 := by kernel_rfl
theorem env85 : EnvOk Tryd.prog (fa.at true) E85 := envOk mixed tabOk trivial trivial trivial
noncomputable def s85 : FSpec := ⟨[.imm false (.int .i64), .imm false (.int .i64), .imm false (.int .i64)], [.imm false .bool], fun x => S_impl_within x.1 x.2.1 x.2.2.1, true⟩
theorem ok85 : FOk Tryd.prog fa 85 s85 := fn_says env85 Tryd.func85 rfl fun x y h => ⟨0, (r85 0 x.1 x.2.1 x.2.2.1).trans h⟩
theorem enters85 : Enters Tryd.prog 85 := enters Tryd.func85 (by kernel_rfl) rfl

/-! ## loop.example/g00698/impl.isInstance -/
noncomputable def E117 : Env := { tab := tab, sig := [(68, s68), (85, s85)], clos := [], live := [], eqs := [], inl := [] }
set_option maxRecDepth 100000 in
theorem r117 (N : Nat) (a0 : Int) (a1 : Int) (a2 : Int) : runF N E117 Tryd.f117 [.imm false (.int .i64), .imm false (.int .i64), .imm false (.int .i64)] [.imm false .bool] (a0, a1, a2, ()) = p_impl_isInstance N a0 a1 a2 := by kernel_rfl
theorem env117 : EnvOk Tryd.prog (fa.at true) E117 := envOk mixed tabOk ⟨⟨enters68, ok68, fun _ => rfl⟩, ⟨enters85, ok85, fun _ => rfl⟩, trivial⟩ trivial trivial
noncomputable def s117 : FSpec := ⟨[.imm false (.int .i64), .imm false (.int .i64), .imm false (.int .i64)], [.imm false .bool], fun x => S_impl_isInstance x.1 x.2.1 x.2.2.1, true⟩
theorem ok117 : FOk Tryd.prog fa 117 s117 := fn_says env117 Tryd.func117 rfl fun x y h => ⟨0, (r117 0 x.1 x.2.1 x.2.2.1).trans h⟩
theorem enters117 : Enters Tryd.prog 117 := enters Tryd.func117 (by kernel_rfl) rfl

/-! ## cmp.isNaN[int] -/
noncomputable def E170 : Env := { tab := tab, sig := [], clos := [], live := [], eqs := [], inl := [] }
set_option maxRecDepth 100000 in
theorem r170 (N : Nat) (a0 : Int) : runF N E170 Tryd.f170 [.imm false (.int .i64)] [.imm false .bool] (a0, ()) = p_cmp_isNaN_int N a0 := by kernel_rfl
theorem env170 : EnvOk Tryd.prog (fa.at true) E170 := envOk mixed tabOk trivial trivial trivial
noncomputable def s170 : FSpec := ⟨[.imm false (.int .i64)], [.imm false .bool], fun x => S_cmp_isNaN_int x.1, true⟩
theorem ok170 : FOk Tryd.prog fa 170 s170 := fn_says env170 Tryd.func170 rfl fun x y h => ⟨0, (r170 0 x.1).trans h⟩
theorem enters170 : Enters Tryd.prog 170 := enters Tryd.func170 (by kernel_rfl) rfl

/-! ## cmp.Compare[int] -/
noncomputable def E149 : Env := { tab := tab, sig := [(170, s170)], clos := [], live := [], eqs := [], inl := [] }
set_option maxRecDepth 100000 in
theorem r149 (N : Nat) (a0 : Int) (a1 : Int) : runF N E149 Tryd.f149 [.imm false (.int .i64), .imm false (.int .i64)] [.imm false (.int .i64)] (a0, a1, ()) = p_cmp_Compare_int N a0 a1 := by kernel_rfl
theorem env149 : EnvOk Tryd.prog (fa.at true) E149 := envOk mixed tabOk ⟨⟨enters170, ok170, fun _ => rfl⟩, trivial⟩ trivial trivial
noncomputable def s149 : FSpec := ⟨[.imm false (.int .i64), .imm false (.int .i64)], [.imm false (.int .i64)], fun x => S_cmp_Compare_int x.1 x.2.1, true⟩
theorem ok149 : FOk Tryd.prog fa 149 s149 := fn_says env149 Tryd.func149 rfl fun x y h => ⟨0, (r149 0 x.1 x.2.1).trans h⟩
theorem enters149 : Enters Tryd.prog 149 := enters Tryd.func149 (by kernel_rfl) rfl

/-! ## slices.Compare[[]int,int] -/
noncomputable def E118 : Env := { tab := tab, sig := [(149, s149)], clos := [], live := [(0, [0, 1, 9, 10, 11], [])], eqs := [], inl := [] }
set_option maxRecDepth 100000 in
theorem r118 (N : Nat) (a0 : List Int) (a1 : List Int) : runF N E118 Tryd.f118 [.imm false (.slice 3 (.int .i64)), .imm false (.slice 3 (.int .i64))] [.imm false (.int .i64)] (a0, a1, ()) = p_Compare_Lint_int N a0 a1 := by kernel_rfl
theorem env118 : EnvOk Tryd.prog (fa.at true) E118 := envOk mixed tabOk ⟨⟨enters149, ok149, fun _ => rfl⟩, trivial⟩ trivial trivial
noncomputable def s118 : FSpec := ⟨[.imm false (.slice 3 (.int .i64)), .imm false (.slice 3 (.int .i64))], [.imm false (.int .i64)], fun x => S_Compare_Lint_int x.1 x.2.1, true⟩
theorem ok118 : FOk Tryd.prog fa 118 s118 := fn_says env118 Tryd.func118 rfl fun x y h => let ⟨N, hN⟩ := lim_some h; ⟨N, (r118 N x.1 x.2.1).trans hN⟩
theorem enters118 : Enters Tryd.prog 118 := enters Tryd.func118 (by kernel_rfl) rfl

/-! ## loop.example/g00698/impl.riseInstances -/
noncomputable def E94 : Env := { tab := tab, sig := [(117, s117), (118, s118)], clos := [], live := [(0, [0, 1, 7, 8, 9, 18, 19, 20, 21, 22, 23, 24, 25, 26, 29, 30, 31, 32, 33, 34, 35, 36, 37, 38, 39, 40], [])], eqs := [], inl := [] }
set_option maxRecDepth 100000 in
theorem r94 (N : Nat) (a0 : Int) (a1 : List (List Int)) : runF N E94 Tryd.f94 [.imm false (.int .i64), .imm false (.slice 24 (.slice 3 (.int .i64)))] [.imm false .bool] (a0, a1, ()) = p_impl_riseInstances N a0 a1 := by kernel_rfl
theorem env94 : EnvOk Tryd.prog (fa.at true) E94 := envOk mixed tabOk ⟨⟨enters117, ok117, fun _ => rfl⟩, ⟨enters118, ok118, fun _ => rfl⟩, trivial⟩ trivial trivial
noncomputable def s94 : FSpec := ⟨[.imm false (.int .i64), .imm false (.slice 24 (.slice 3 (.int .i64)))], [.imm false .bool], fun x => S_impl_riseInstances x.1 x.2.1, true⟩
theorem ok94 : FOk Tryd.prog fa 94 s94 := fn_says env94 Tryd.func94 rfl fun x y h => let ⟨N, hN⟩ := lim_some h; ⟨N, (r94 N x.1 x.2.1).trans hN⟩
theorem enters94 : Enters Tryd.prog 94 := enters Tryd.func94 (by kernel_rfl) rfl

/-! ## slices.IndexFunc[[]int,int] -/
noncomputable def E150 : Env := { tab := tab, sig := [], clos := [], live := [(0, [0, 1, 7, 8], [])], eqs := [], inl := [] }
set_option maxRecDepth 100000 in
theorem r150 (N : Nat) (a0 : List Int) (a1 : (Int × Unit) → Option Bool) : runF N E150 Tryd.f150 [.imm false (.slice 3 (.int .i64)), .clo [(false, (.int .i64))] .bool] [.imm false (.int .i64)] (a0, a1, ()) = p_IndexFunc_Lint_int N a0 a1 := by kernel_rfl
theorem env150 : EnvOk Tryd.prog (fa.at true) E150 := envOk mixed tabOk trivial trivial trivial
noncomputable def s150 : FSpec := ⟨[.imm false (.slice 3 (.int .i64)), .clo [(false, (.int .i64))] .bool], [.imm false (.int .i64)], fun x => S_IndexFunc_Lint_int x.1 x.2.1, true⟩
theorem ok150 : FOk Tryd.prog fa 150 s150 := fn_says env150 Tryd.func150 rfl fun x y h => let ⟨N, hN⟩ := lim_some h; ⟨N, (r150 N x.1 x.2.1).trans hN⟩
theorem enters150 : Enters Tryd.prog 150 := enters Tryd.func150 (by kernel_rfl) rfl

/-! ## slices.ContainsFunc[[]int,int] -/
noncomputable def E119 : Env := { tab := tab, sig := [(150, s150)], clos := [], live := [], eqs := [], inl := [] }
set_option maxRecDepth 100000 in
theorem r119 (N : Nat) (a0 : List Int) (a1 : (Int × Unit) → Option Bool) : runF N E119 Tryd.f119 [.imm false (.slice 3 (.int .i64)), .clo [(false, (.int .i64))] .bool] [.imm false .bool] (a0, a1, ()) = p_ContainsFunc_Lint_int N a0 a1 := by kernel_rfl
theorem env119 : EnvOk Tryd.prog (fa.at true) E119 := envOk mixed tabOk ⟨⟨enters150, ok150, fun _ => rfl⟩, trivial⟩ trivial trivial
noncomputable def s119 : FSpec := ⟨[.imm false (.slice 3 (.int .i64)), .clo [(false, (.int .i64))] .bool], [.imm false .bool], fun x => S_ContainsFunc_Lint_int x.1 x.2.1, true⟩
theorem ok119 : FOk Tryd.prog fa 119 s119 := fn_says env119 Tryd.func119 rfl fun x y h => ⟨0, (r119 0 x.1 x.2.1).trans h⟩
theorem enters119 : Enters Tryd.prog 119 := enters Tryd.func119 (by kernel_rfl) rfl

/-! ## loop.example/g00698/impl.total -/
noncomputable def E121 : Env := { tab := tab, sig := [], clos := [], live := [(0, [3, 6, 7, 8], [])], eqs := [], inl := [] }
set_option maxRecDepth 100000 in
theorem r121 (N : Nat) (a0 : List Int) : runF N E121 Tryd.f121 [.imm false (.slice 3 (.int .i64))] [.imm false (.int .i64)] (a0, ()) = p_impl_total N a0 := by kernel_rfl
theorem env121 : EnvOk Tryd.prog (fa.at true) E121 := envOk mixed tabOk trivial trivial trivial
noncomputable def s121 : FSpec := ⟨[.imm false (.slice 3 (.int .i64))], [.imm false (.int .i64)], fun x => S_impl_total x.1, true⟩
theorem ok121 : FOk Tryd.prog fa 121 s121 := fn_says env121 Tryd.func121 rfl fun x y h => let ⟨N, hN⟩ := lim_some h; ⟨N, (r121 N x.1).trans hN⟩
theorem enters121 : Enters Tryd.prog 121 := enters Tryd.func121 (by kernel_rfl) rfl

/-! ## loop.example/g00698/impl.GoodSums -/
theorem enters120 : Enters Tryd.prog 120 := enters Tryd.func120 (by kernel_rfl) rfl
noncomputable def E95 : Env := { tab := tab, sig := [(119, s119), (85, s85), (121, s121)], clos := [(120, ⟨Tryd.f120, [(false, (.int .i64))], []⟩)], live := [], eqs := [], inl := [] }
set_option maxRecDepth 100000 in
theorem r95 (N : Nat) (a0 : List Int) : runF N E95 Tryd.f95 [.imm false (.slice 3 (.int .i64))] [.imm false .bool] (a0, ()) = p_impl_GoodSums N a0 := by kernel_rfl
theorem env95 : EnvOk Tryd.prog (fa.at true) E95 := envOk mixed tabOk ⟨⟨enters119, ok119, fun _ => rfl⟩, ⟨enters85, ok85, fun _ => rfl⟩, ⟨enters121, ok121, fun _ => rfl⟩, trivial⟩ ⟨⟨Tryd.func120, enters120⟩, trivial⟩ trivial
noncomputable def s95 : FSpec := ⟨[.imm false (.slice 3 (.int .i64))], [.imm false .bool], fun x => S_impl_GoodSums x.1, true⟩
theorem ok95 : FOk Tryd.prog fa 95 s95 := fn_says env95 Tryd.func95 rfl fun x y h => ⟨0, (r95 0 x.1).trans h⟩
theorem enters95 : Enters Tryd.prog 95 := enters Tryd.func95 (by kernel_rfl) rfl

/-! ## loop.example/g00698/impl.GoodCheck -/
noncomputable def E59 : Env := { tab := tab, sig := [(68, s68), (94, s94), (95, s95)], clos := [], live := [], eqs := [], inl := [] }
set_option maxRecDepth 100000 in
theorem r59 (N : Nat) (a0 : Int) (a1 : T1) : runF N E59 Tryd.f59 [.imm false (.int .i64), .imm true (.pair (.slice 24 (.slice 3 (.int .i64))) (.pair (.slice 3 (.int .i64)) .unit))] [.imm false .bool] (a0, a1, ()) = p_impl_GoodCheck N a0 a1 := by kernel_rfl
theorem env59 : EnvOk Tryd.prog (fa.at true) E59 := envOk mixed tabOk ⟨⟨enters68, ok68, fun _ => rfl⟩, ⟨enters94, ok94, fun _ => rfl⟩, ⟨enters95, ok95, fun _ => rfl⟩, trivial⟩ trivial trivial
noncomputable def s59 : FSpec := ⟨[.imm false (.int .i64), .imm true (.pair (.slice 24 (.slice 3 (.int .i64))) (.pair (.slice 3 (.int .i64)) .unit))], [.imm false .bool], fun x => S_impl_GoodCheck x.1 x.2.1, true⟩
theorem ok59 : FOk Tryd.prog fa 59 s59 := fn_says env59 Tryd.func59 rfl fun x y h => ⟨0, (r59 0 x.1 x.2.1).trans h⟩
theorem enters59 : Enters Tryd.prog 59 := enters Tryd.func59 (by kernel_rfl) rfl

/-! ## strconv.Itoa -/
def Lay49_ren : Go.Shelf.Ren := ⟨fun | 171 => 49 | 243 => 87 | 246 => 113 | 283 => 143 | 284 => 144 | 285 => 145 | 286 => 146 | 129 => 166 | 317 => 165 | 318 => 167 | 319 => 168 | 320 => 169 | 337 => 176 | 338 => 177 | n => n, fun | 3 => 3 | 9 => 9 | 2 => 2 | 4 => 4 | 171 => 150 | 0 => 0 | 53 => 151 | 37 => 111 | 5 => 5 | 173 => 154 | 212 => 170 | 51 => 171 | 20 => 20 | 213 => 172 | 46 => 166 | 232 => 181 | 233 => 182 | n => n, fun | 17 => 1 | 18 => 4 | 19 => 5 | n => n⟩
theorem Lay49 : Go.Proofs.LaysM.n171 Tryd.prog Lay49_ren := {
  mixed := by kernel_rfl
  f129 := Tryd.func166.trans (congrArg some (by kernel_rfl))
  f171 := Tryd.func49.trans (congrArg some (by kernel_rfl))
  f243 := Tryd.func87.trans (congrArg some (by kernel_rfl))
  f246 := Tryd.func113.trans (congrArg some (by kernel_rfl))
  f283 := Tryd.func143.trans (congrArg some (by kernel_rfl))
  f284 := Tryd.func144.trans (congrArg some (by kernel_rfl))
  f285 := Tryd.func145.trans (congrArg some (by kernel_rfl))
  f286 := Tryd.func146.trans (congrArg some (by kernel_rfl))
  f317 := Tryd.func165.trans (congrArg some (by kernel_rfl))
  f318 := Tryd.func167.trans (congrArg some (by kernel_rfl))
  f319 := Tryd.func168.trans (congrArg some (by kernel_rfl))
  f320 := Tryd.func169.trans (congrArg some (by kernel_rfl))
  f337 := Tryd.func176.trans (congrArg some (by kernel_rfl))
  f338 := Tryd.func177.trans (congrArg some (by kernel_rfl))
  t0 := Tryd.underlying0
  a0 := Tryd.isAgg0
  z0 := Tryd.sizeOf0
  v0 := Tryd.zeroValue0
  t2 := Tryd.underlying2
  a2 := Tryd.isAgg2
  z2 := Tryd.sizeOf2
  v2 := Tryd.zeroValue2
  t3 := Tryd.underlying3
  a3 := Tryd.isAgg3
  z3 := Tryd.sizeOf3
  v3 := Tryd.zeroValue3
  t4 := Tryd.underlying4
  a4 := Tryd.isAgg4
  z4 := Tryd.sizeOf4
  v4 := Tryd.zeroValue4
  t5 := Tryd.underlying5
  a5 := Tryd.isAgg5
  z5 := Tryd.sizeOf5
  v5 := Tryd.zeroValue5
  t9 := Tryd.underlying9
  a9 := Tryd.isAgg9
  z9 := Tryd.sizeOf9
  v9 := Tryd.zeroValue9
  t20 := Tryd.underlying20
  a20 := Tryd.isAgg20
  z20 := Tryd.sizeOf20
  v20 := Tryd.zeroValue20
  t37 := Tryd.underlying111
  a37 := Tryd.isAgg111
  z37 := Tryd.sizeOf111
  v37 := Tryd.zeroValue111
  t46 := Tryd.underlying166
  a46 := Tryd.isAgg166
  z46 := Tryd.sizeOf166
  v46 := Tryd.zeroValue166
  t51 := Tryd.underlying171
  a51 := Tryd.isAgg171
  z51 := Tryd.sizeOf171
  v51 := Tryd.zeroValue171
  t53 := Tryd.underlying151
  a53 := Tryd.isAgg151
  z53 := Tryd.sizeOf151
  v53 := Tryd.zeroValue151
  t171 := Tryd.underlying150
  a171 := Tryd.isAgg150
  z171 := Tryd.sizeOf150
  v171 := Tryd.zeroValue150
  t173 := Tryd.underlying154
  a173 := Tryd.isAgg154
  z173 := Tryd.sizeOf154
  v173 := Tryd.zeroValue154
  t212 := Tryd.underlying170
  a212 := Tryd.isAgg170
  z212 := Tryd.sizeOf170
  v212 := Tryd.zeroValue170
  t213 := Tryd.underlying172
  a213 := Tryd.isAgg172
  z213 := Tryd.sizeOf172
  t232 := Tryd.underlying181
  a232 := Tryd.isAgg181
  z232 := Tryd.sizeOf181
  v232 := Tryd.zeroValue181
  t233 := Tryd.underlying182
  a233 := Tryd.isAgg182
  z233 := Tryd.sizeOf182
  v233 := Tryd.zeroValue182
  g17 := by kernel_rfl
  g18 := by kernel_rfl
  g19 := by kernel_rfl
  i0 := by kernel_rfl
  i2 := by kernel_rfl
  i3 := by kernel_rfl
  i4 := by kernel_rfl
  i5 := by kernel_rfl
  i9 := by kernel_rfl
  i20 := by kernel_rfl
  i37 := by kernel_rfl
  i46 := by kernel_rfl
  i51 := by kernel_rfl
  i53 := by kernel_rfl
  i171 := by kernel_rfl
  i173 := by kernel_rfl
  i212 := by kernel_rfl
  i232 := by kernel_rfl
  i233 := by kernel_rfl
  m17 := by kernel_rfl
  m18 := by kernel_rfl
  m19 := by kernel_rfl }

noncomputable def s49 : FSpec := ⟨[.imm false (.int .i64)], [.imm false .str], fun x => S_strconv_Itoa x.1, true⟩
theorem ok49 : FOk Tryd.prog fa 49 s49 := ok_Itoa Lay49 (fun W h => h.2) (g := 1) (by kernel_rfl) (by decide)
theorem enters49 : Enters Tryd.prog 49 := enters Tryd.func49 (by kernel_rfl) rfl

/-! ## strings.Join -/
def Lay50_ren : Go.Shelf.Ren := ⟨fun | 156 => 50 | 165 => 88 | 166 => 89 | 169 => 90 | 240 => 114 | 241 => 115 | 276 => 147 | 277 => 148 | n => n, fun | 31 => 80 | 9 => 9 | 3 => 3 | 4 => 4 | 0 => 0 | 20 => 20 | 72 => 113 | 76 => 117 | 70 => 110 | 37 => 111 | 75 => 116 | 127 => 136 | 164 => 156 | 5 => 5 | 80 => 119 | n => n, fun | n => n⟩
theorem Lay50 : Go.Proofs.Lays.n156 Tryd.prog Lay50_ren := {
  mixed := by kernel_rfl
  f156 := Tryd.func50.trans (congrArg some (by kernel_rfl))
  f165 := Tryd.func88.trans (congrArg some (by kernel_rfl))
  f166 := Tryd.func89.trans (congrArg some (by kernel_rfl))
  f169 := Tryd.func90.trans (congrArg some (by kernel_rfl))
  f240 := Tryd.func114.trans (congrArg some (by kernel_rfl))
  f241 := Tryd.func115.trans (congrArg some (by kernel_rfl))
  f276 := Tryd.func147.trans (congrArg some (by kernel_rfl))
  f277 := Tryd.func148.trans (congrArg some (by kernel_rfl))
  t0 := Tryd.underlying0
  a0 := Tryd.isAgg0
  z0 := Tryd.sizeOf0
  v0 := Tryd.zeroValue0
  t3 := Tryd.underlying3
  a3 := Tryd.isAgg3
  z3 := Tryd.sizeOf3
  v3 := Tryd.zeroValue3
  t4 := Tryd.underlying4
  a4 := Tryd.isAgg4
  z4 := Tryd.sizeOf4
  v4 := Tryd.zeroValue4
  t9 := Tryd.underlying9
  a9 := Tryd.isAgg9
  z9 := Tryd.sizeOf9
  v9 := Tryd.zeroValue9
  t20 := Tryd.underlying20
  a20 := Tryd.isAgg20
  z20 := Tryd.sizeOf20
  v20 := Tryd.zeroValue20
  t31 := Tryd.underlying80
  a31 := Tryd.isAgg80
  z31 := Tryd.sizeOf80
  v31 := Tryd.zeroValue80
  t37 := Tryd.underlying111
  a37 := Tryd.isAgg111
  z37 := Tryd.sizeOf111
  v37 := Tryd.zeroValue111
  t70 := Tryd.underlying110
  a70 := Tryd.isAgg110
  z70 := Tryd.sizeOf110
  v70 := Tryd.zeroValue110
  t72 := Tryd.underlying113
  a72 := Tryd.isAgg113
  z72 := Tryd.sizeOf113
  v72 := Tryd.zeroValue113
  t75 := Tryd.underlying116
  a75 := Tryd.isAgg116
  z75 := Tryd.sizeOf116
  v75 := Tryd.zeroValue116
  t76 := Tryd.underlying117
  a76 := Tryd.isAgg117
  z76 := Tryd.sizeOf117
  v76 := Tryd.zeroValue117
  t127 := Tryd.underlying136
  a127 := Tryd.isAgg136
  z127 := Tryd.sizeOf136
  v127 := Tryd.zeroValue136
  t164 := Tryd.underlying156
  a164 := Tryd.isAgg156
  z164 := Tryd.sizeOf156
  v164 := Tryd.zeroValue156 }

theorem LayX50 : Builder.Extra Tryd.prog Lay50_ren where
  sizeBuilder := by kernel_rfl
  liesBuilder := by kernel_rfl
  t5 := Tryd.underlying5
  a5 := Tryd.isAgg5
  z5 := Tryd.sizeOf5
  v5 := Tryd.zeroValue5
  infoByte := by kernel_rfl
  cellsByte := by kernel_rfl
  sizeByte := by kernel_rfl
  neB5 := by decide
noncomputable def s50 : FSpec := ⟨[.imm false (.slice 9 .str), .imm false .str], [.imm false .str], fun x => S_strings_Join x.1 x.2.1, false⟩
theorem ok50 : FOk Tryd.prog fa 50 s50 := ok_Join Lay50 LayX50
theorem enters50 : Enters Tryd.prog 50 := enters Tryd.func50 (by kernel_rfl) rfl

/-! ## loop.example/g00698/impl.joined -/
noncomputable def E96 : Env := { tab := tab, sig := [(49, s49), (50, s50)], clos := [], live := [(0, [0, 5, 9, 10, 11], [])], eqs := [], inl := [], q := false }
set_option maxRecDepth 100000 in
theorem r96 (N : Nat) (a0 : ByteArray) (a1 : List Int) : runF N E96 Tryd.f96 [.imm false .str, .imm false (.slice 3 (.int .i64))] [.imm false .str] (a0, a1, ()) = p_impl_joined N a0 a1 := by kernel_rfl
theorem env96 : EnvOk Tryd.prog (fa.at false) E96 := envOk mixed tabOk ⟨⟨enters49, ok49, fun _ => rfl⟩, ⟨enters50, ok50, fun h => h⟩, trivial⟩ trivial trivial
noncomputable def s96 : FSpec := ⟨[.imm false .str, .imm false (.slice 3 (.int .i64))], [.imm false .str], fun x => S_impl_joined x.1 x.2.1, false⟩
theorem ok96 : FOk Tryd.prog fa 96 s96 := fn_says env96 Tryd.func96 rfl fun x y h => let ⟨N, hN⟩ := lim_some h; ⟨N, (r96 N x.1 x.2.1).trans hN⟩
theorem enters96 : Enters Tryd.prog 96 := enters Tryd.func96 (by kernel_rfl) rfl

/-! ## loop.example/g00698/impl.checkText -/
noncomputable def E60 : Env := { tab := tab, sig := [(49, s49), (50, s50), (96, s96)], clos := [], live := [(0, [1, 3, 8, 9, 10], [])], eqs := [], inl := [], q := false }
set_option maxRecDepth 100000 in
theorem r60 (N : Nat) (a0 : T1) : runF N E60 Tryd.f60 [.imm true (.pair (.slice 24 (.slice 3 (.int .i64))) (.pair (.slice 3 (.int .i64)) .unit))] [.imm false .str] (a0, ()) = p_impl_checkText N a0 := by kernel_rfl
theorem env60 : EnvOk Tryd.prog (fa.at false) E60 := envOk mixed tabOk ⟨⟨enters49, ok49, fun _ => rfl⟩, ⟨enters50, ok50, fun h => h⟩, ⟨enters96, ok96, fun h => h⟩, trivial⟩ trivial trivial
noncomputable def s60 : FSpec := ⟨[.imm true (.pair (.slice 24 (.slice 3 (.int .i64))) (.pair (.slice 3 (.int .i64)) .unit))], [.imm false .str], fun x => S_impl_checkText x.1, false⟩
theorem ok60 : FOk Tryd.prog fa 60 s60 := fn_says env60 Tryd.func60 rfl fun x y h => let ⟨N, hN⟩ := lim_some h; ⟨N, (r60 N x.1).trans hN⟩
theorem enters60 : Enters Tryd.prog 60 := enters Tryd.func60 (by kernel_rfl) rfl

/-! ## loop.example/g00698/impl.ReadCheck -/
noncomputable def E29 : Env := { tab := tab, sig := [(71, s71), (73, s73), (72, s72), (59, s59), (60, s60), (74, s74)], clos := [], live := [(0, [0, 1, 4, 6, 10, 11, 32, 33, 34, 48, 64, 65, 66, 69, 70, 71, 72, 75, 76, 77, 78], [.row 3 0 24 (.slice 3 (.int .i64)) true []])], eqs := [], inl := [], q := false }
set_option maxRecDepth 100000 in
theorem r29 (N : Nat) (a0 : Int) (a1 : ByteArray) : runF N E29 Tryd.f29 [.imm false (.int .i64), .imm false .str] [.deep true (.pair (.slice 24 (.slice 3 (.int .i64))) (.pair (.slice 3 (.int .i64)) .unit)), .imm false .bool] (a0, a1, ()) = p_impl_ReadCheck N a0 a1 := by kernel_rfl
theorem env29 : EnvOk Tryd.prog (fa.at false) E29 := envOk mixed tabOk ⟨⟨enters71, ok71, fun _ => rfl⟩, ⟨enters73, ok73, fun _ => rfl⟩, ⟨enters72, ok72, fun _ => rfl⟩, ⟨enters59, ok59, fun _ => rfl⟩, ⟨enters60, ok60, fun h => h⟩, ⟨enters74, ok74, fun _ => rfl⟩, trivial⟩ trivial trivial
noncomputable def s29 : FSpec := ⟨[.imm false (.int .i64), .imm false .str], [.deep true (.pair (.slice 24 (.slice 3 (.int .i64))) (.pair (.slice 3 (.int .i64)) .unit)), .imm false .bool], fun x => S_impl_ReadCheck x.1 x.2.1, false⟩
theorem ok29 : FOk Tryd.prog fa 29 s29 := fn_says env29 Tryd.func29 rfl fun x y h => let ⟨N, hN⟩ := lim_some h; ⟨N, (r29 N x.1 x.2.1).trans hN⟩
theorem enters29 : Enters Tryd.prog 29 := enters Tryd.func29 (by kernel_rfl) rfl

/-! ## loop.example/g00698/laws.eqIntS -/
noncomputable def E62 : Env := { tab := tab, sig := [], clos := [], live := [(0, [0, 1, 5], [])], eqs := [], inl := [] }
set_option maxRecDepth 100000 in
theorem r62 (N : Nat) (a0 : List Int) (a1 : List Int) : runF N E62 Tryd.f62 [.imm false (.slice 3 (.int .i64)), .imm false (.slice 3 (.int .i64))] [.imm false .bool] (a0, a1, ()) = p_laws_eqIntS N a0 a1 := by kernel_rfl
theorem env62 : EnvOk Tryd.prog (fa.at true) E62 := envOk mixed tabOk trivial trivial trivial
noncomputable def s62 : FSpec := ⟨[.imm false (.slice 3 (.int .i64)), .imm false (.slice 3 (.int .i64))], [.imm false .bool], fun x => S_laws_eqIntS x.1 x.2.1, true⟩
theorem ok62 : FOk Tryd.prog fa 62 s62 := fn_says env62 Tryd.func62 rfl fun x y h => let ⟨N, hN⟩ := lim_some h; ⟨N, (r62 N x.1 x.2.1).trans hN⟩
theorem enters62 : Enters Tryd.prog 62 := enters Tryd.func62 (by kernel_rfl) rfl

/-! ## loop.example/g00698/laws.eqIntSS -/
noncomputable def E61 : Env := { tab := tab, sig := [(62, s62)], clos := [], live := [(0, [0, 1, 5], [])], eqs := [], inl := [] }
set_option maxRecDepth 100000 in
theorem r61 (N : Nat) (a0 : List (List Int)) (a1 : List (List Int)) : runF N E61 Tryd.f61 [.imm false (.slice 24 (.slice 3 (.int .i64))), .imm false (.slice 24 (.slice 3 (.int .i64)))] [.imm false .bool] (a0, a1, ()) = p_laws_eqIntSS N a0 a1 := by kernel_rfl
theorem env61 : EnvOk Tryd.prog (fa.at true) E61 := envOk mixed tabOk ⟨⟨enters62, ok62, fun _ => rfl⟩, trivial⟩ trivial trivial
noncomputable def s61 : FSpec := ⟨[.imm false (.slice 24 (.slice 3 (.int .i64))), .imm false (.slice 24 (.slice 3 (.int .i64)))], [.imm false .bool], fun x => S_laws_eqIntSS x.1 x.2.1, true⟩
theorem ok61 : FOk Tryd.prog fa 61 s61 := fn_says env61 Tryd.func61 rfl fun x y h => let ⟨N, hN⟩ := lim_some h; ⟨N, (r61 N x.1 x.2.1).trans hN⟩
theorem enters61 : Enters Tryd.prog 61 := enters Tryd.func61 (by kernel_rfl) rfl

/-! ## loop.example/g00698/laws.eqCheck -/
noncomputable def E20 : Env := { tab := tab, sig := [(61, s61), (62, s62)], clos := [], live := [], eqs := [], inl := [] }
set_option maxRecDepth 100000 in
theorem r20 (N : Nat) (a0 : T1) (a1 : T1) : runF N E20 Tryd.f20 [.imm true (.pair (.slice 24 (.slice 3 (.int .i64))) (.pair (.slice 3 (.int .i64)) .unit)), .imm true (.pair (.slice 24 (.slice 3 (.int .i64))) (.pair (.slice 3 (.int .i64)) .unit))] [.imm false .bool] (a0, a1, ()) = p_laws_eqCheck N a0 a1 := by kernel_rfl
theorem env20 : EnvOk Tryd.prog (fa.at true) E20 := envOk mixed tabOk ⟨⟨enters61, ok61, fun _ => rfl⟩, ⟨enters62, ok62, fun _ => rfl⟩, trivial⟩ trivial trivial
noncomputable def s20 : FSpec := ⟨[.imm true (.pair (.slice 24 (.slice 3 (.int .i64))) (.pair (.slice 3 (.int .i64)) .unit)), .imm true (.pair (.slice 24 (.slice 3 (.int .i64))) (.pair (.slice 3 (.int .i64)) .unit))], [.imm false .bool], fun x => S_laws_eqCheck x.1 x.2.1, true⟩
theorem ok20 : FOk Tryd.prog fa 20 s20 := fn_says env20 Tryd.func20 rfl fun x y h => ⟨0, (r20 0 x.1 x.2.1).trans h⟩
theorem enters20 : Enters Tryd.prog 20 := enters Tryd.func20 (by kernel_rfl) rfl

/-! ## loop.example/g00698/laws.markIntS -/
noncomputable def E76 : Env := { tab := tab, sig := [], clos := [], live := [(0, [0, 1, 5], [])], eqs := [], inl := [] }
set_option maxRecDepth 100000 in
theorem r76 (N : Nat) (a0 : List Int) (a1 : Int) : runF N E76 Tryd.f76 [.mut false (.slice 3 (.int .i64)), .imm false (.int .i64)] [.imm false (.int .i64)] (a0, a1, ()) = p_laws_markIntS N a0 a1 := by kernel_rfl
theorem env76 : EnvOk Tryd.prog (fa.at true) E76 := envOk mixed tabOk trivial trivial trivial
noncomputable def s76 : FSpec := ⟨[.mut false (.slice 3 (.int .i64)), .imm false (.int .i64)], [.imm false (.int .i64)], fun x => S_laws_markIntS x.1 x.2.1, true⟩
theorem ok76 : FOk Tryd.prog fa 76 s76 := fn_says env76 Tryd.func76 rfl fun x y h => let ⟨N, hN⟩ := lim_some h; ⟨N, (r76 N x.1 x.2.1).trans hN⟩
theorem enters76 : Enters Tryd.prog 76 := enters Tryd.func76 (by kernel_rfl) rfl

/-! ## loop.example/g00698/laws.markIntSS -/
noncomputable def E75 : Env := { tab := tab, sig := [(76, s76)], clos := [], live := [(0, [0, 1, 5], [])], eqs := [], inl := [] }
set_option maxRecDepth 100000 in
theorem r75 (N : Nat) (a0 : List (List Int)) (a1 : Int) : runF N E75 Tryd.f75 [.mut false (.slice 24 (.slice 3 (.int .i64))), .imm false (.int .i64)] [.imm false (.int .i64)] (a0, a1, ()) = p_laws_markIntSS N a0 a1 := by kernel_rfl
theorem env75 : EnvOk Tryd.prog (fa.at true) E75 := envOk mixed tabOk ⟨⟨enters76, ok76, fun _ => rfl⟩, trivial⟩ trivial trivial
noncomputable def s75 : FSpec := ⟨[.mut false (.slice 24 (.slice 3 (.int .i64))), .imm false (.int .i64)], [.imm false (.int .i64)], fun x => S_laws_markIntSS x.1 x.2.1, true⟩
theorem ok75 : FOk Tryd.prog fa 75 s75 := fn_says env75 Tryd.func75 rfl fun x y h => let ⟨N, hN⟩ := lim_some h; ⟨N, (r75 N x.1 x.2.1).trans hN⟩
theorem enters75 : Enters Tryd.prog 75 := enters Tryd.func75 (by kernel_rfl) rfl

/-! ## loop.example/g00698/laws.markCheck -/
noncomputable def E30 : Env := { tab := tab, sig := [(75, s75), (76, s76)], clos := [], live := [], eqs := [], inl := [] }
set_option maxRecDepth 100000 in
theorem r30 (N : Nat) (a0 : T1) (a1 : Int) : runF N E30 Tryd.f30 [.mut true (.pair (.slice 24 (.slice 3 (.int .i64))) (.pair (.slice 3 (.int .i64)) .unit)), .imm false (.int .i64)] [.imm false (.int .i64)] (a0, a1, ()) = p_laws_markCheck N a0 a1 := by kernel_rfl
theorem env30 : EnvOk Tryd.prog (fa.at true) E30 := envOk mixed tabOk ⟨⟨enters75, ok75, fun _ => rfl⟩, ⟨enters76, ok76, fun _ => rfl⟩, trivial⟩ trivial trivial
noncomputable def s30 : FSpec := ⟨[.mut true (.pair (.slice 24 (.slice 3 (.int .i64))) (.pair (.slice 3 (.int .i64)) .unit)), .imm false (.int .i64)], [.imm false (.int .i64)], fun x => S_laws_markCheck x.1 x.2.1, true⟩
theorem ok30 : FOk Tryd.prog fa 30 s30 := fn_says env30 Tryd.func30 rfl fun x y h => ⟨0, (r30 0 x.1 x.2.1).trans h⟩
theorem enters30 : Enters Tryd.prog 30 := enters Tryd.func30 (by kernel_rfl) rfl

/-! ## loop.example/g00698/laws.heldIntS -/
noncomputable def E78 : Env := { tab := tab, sig := [], clos := [], live := [(0, [0, 1, 5], [])], eqs := [], inl := [] }
set_option maxRecDepth 100000 in
theorem r78 (N : Nat) (a0 : List Int) (a1 : Int) : runF N E78 Tryd.f78 [.imm false (.slice 3 (.int .i64)), .imm false (.int .i64)] [.imm false (.int .i64)] (a0, a1, ()) = p_laws_heldIntS N a0 a1 := by kernel_rfl
theorem env78 : EnvOk Tryd.prog (fa.at true) E78 := envOk mixed tabOk trivial trivial trivial
noncomputable def s78 : FSpec := ⟨[.imm false (.slice 3 (.int .i64)), .imm false (.int .i64)], [.imm false (.int .i64)], fun x => S_laws_heldIntS x.1 x.2.1, true⟩
theorem ok78 : FOk Tryd.prog fa 78 s78 := fn_says env78 Tryd.func78 rfl fun x y h => let ⟨N, hN⟩ := lim_some h; ⟨N, (r78 N x.1 x.2.1).trans hN⟩
theorem enters78 : Enters Tryd.prog 78 := enters Tryd.func78 (by kernel_rfl) rfl

/-! ## loop.example/g00698/laws.heldIntSS -/
noncomputable def E77 : Env := { tab := tab, sig := [(78, s78)], clos := [], live := [(0, [0, 1, 5], [])], eqs := [], inl := [] }
set_option maxRecDepth 100000 in
theorem r77 (N : Nat) (a0 : List (List Int)) (a1 : Int) : runF N E77 Tryd.f77 [.imm false (.slice 24 (.slice 3 (.int .i64))), .imm false (.int .i64)] [.imm false (.int .i64)] (a0, a1, ()) = p_laws_heldIntSS N a0 a1 := by kernel_rfl
theorem env77 : EnvOk Tryd.prog (fa.at true) E77 := envOk mixed tabOk ⟨⟨enters78, ok78, fun _ => rfl⟩, trivial⟩ trivial trivial
noncomputable def s77 : FSpec := ⟨[.imm false (.slice 24 (.slice 3 (.int .i64))), .imm false (.int .i64)], [.imm false (.int .i64)], fun x => S_laws_heldIntSS x.1 x.2.1, true⟩
theorem ok77 : FOk Tryd.prog fa 77 s77 := fn_says env77 Tryd.func77 rfl fun x y h => let ⟨N, hN⟩ := lim_some h; ⟨N, (r77 N x.1 x.2.1).trans hN⟩
theorem enters77 : Enters Tryd.prog 77 := enters Tryd.func77 (by kernel_rfl) rfl

/-! ## loop.example/g00698/laws.heldCheck -/
noncomputable def E31 : Env := { tab := tab, sig := [(77, s77), (78, s78)], clos := [], live := [], eqs := [], inl := [] }
set_option maxRecDepth 100000 in
theorem r31 (N : Nat) (a0 : T1) (a1 : Int) : runF N E31 Tryd.f31 [.imm true (.pair (.slice 24 (.slice 3 (.int .i64))) (.pair (.slice 3 (.int .i64)) .unit)), .imm false (.int .i64)] [.imm false (.int .i64)] (a0, a1, ()) = p_laws_heldCheck N a0 a1 := by kernel_rfl
theorem env31 : EnvOk Tryd.prog (fa.at true) E31 := envOk mixed tabOk ⟨⟨enters77, ok77, fun _ => rfl⟩, ⟨enters78, ok78, fun _ => rfl⟩, trivial⟩ trivial trivial
noncomputable def s31 : FSpec := ⟨[.imm true (.pair (.slice 24 (.slice 3 (.int .i64))) (.pair (.slice 3 (.int .i64)) .unit)), .imm false (.int .i64)], [.imm false (.int .i64)], fun x => S_laws_heldCheck x.1 x.2.1, true⟩
theorem ok31 : FOk Tryd.prog fa 31 s31 := fn_says env31 Tryd.func31 rfl fun x y h => ⟨0, (r31 0 x.1 x.2.1).trans h⟩
theorem enters31 : Enters Tryd.prog 31 := enters Tryd.func31 (by kernel_rfl) rfl

/-! ## loop.example/g00698/laws.FnExactReadCheck -/
noncomputable def E7 : Env := { tab := tab, sig := [(28, s28), (29, s29), (20, s20), (30, s30), (31, s31)], clos := [], live := [], eqs := [], inl := [], q := false }
set_option maxRecDepth 100000 in
theorem r7 (N : Nat) (a0 : Int) (a1 : ByteArray) : runF N E7 Tryd.f7 [.imm false (.int .i64), .imm false .str] [.imm false .bool] (a0, a1, ()) = p_laws_FnExactReadCheck N a0 a1 := by kernel_rfl
theorem env7 : EnvOk Tryd.prog (fa.at false) E7 := envOk mixed tabOk ⟨⟨enters28, ok28, fun _ => rfl⟩, ⟨enters29, ok29, fun h => h⟩, ⟨enters20, ok20, fun _ => rfl⟩, ⟨enters30, ok30, fun _ => rfl⟩, ⟨enters31, ok31, fun _ => rfl⟩, trivial⟩ trivial trivial

end Go.Proofs.YtmnekhlgldljcaaDoor.Am
