/- Functions, as they run on data. No condition. -/
import Derived.Test.YtmnekhlgldljcaaDoorAmTab
import Derived.Test.YtmnekhlgldljcaaDoorAmQ
set_option linter.unusedVariables false
set_option maxRecDepth 100000
namespace Go.Proofs.YtmnekhlgldljcaaDoor.Am
open Go.AM Go.AM.P Go.Proofs Go.Shelf
/-! ## loop.example/g00698/laws.szIntS -/
noncomputable def E54 : Env := { tab := tab, sig := [], clos := [], live := [], eqs := [], inl := [] }
set_option maxRecDepth 100000 in
theorem r54 (N : Nat) (a0 : List Int) (a1 : Int) : runF N E54 Tryd.f54 [.imm false (.slice 3 (.int .i64)), .imm false (.int .i64)] [.imm false (.int .i64)] (a0, a1, ()) = p_laws_szIntS N a0 a1 := by kernel_rfl
theorem env54 : EnvOk Tryd.prog (fa.at true) E54 := envOk mixed tabOk trivial trivial trivial
noncomputable def s54 : FSpec := ⟨[.imm false (.slice 3 (.int .i64)), .imm false (.int .i64)], [.imm false (.int .i64)], fun x => S_laws_szIntS x.1 x.2.1, true⟩
theorem ok54 : FOk Tryd.prog fa 54 s54 := fn_says env54 Tryd.func54 rfl fun x y h => ⟨0, (r54 0 x.1 x.2.1).trans h⟩
theorem enters54 : Enters Tryd.prog 54 := enters Tryd.func54 (by kernel_rfl) rfl

/-! ## loop.example/g00698/laws.szAttr -/
noncomputable def E45 : Env := { tab := tab, sig := [(54, s54)], clos := [], live := [], eqs := [], inl := [] }
set_option maxRecDepth 100000 in
theorem r45 (N : Nat) (a0 : T6) (a1 : Int) : runF N E45 Tryd.f45 [.imm true (.pair (.int .i64) (.pair (.slice 3 (.int .i64)) .unit)), .imm false (.int .i64)] [.imm false (.int .i64)] (a0, a1, ()) = p_laws_szAttr N a0 a1 := by kernel_rfl
theorem env45 : EnvOk Tryd.prog (fa.at true) E45 := envOk mixed tabOk ⟨⟨enters54, ok54, fun _ => rfl⟩, trivial⟩ trivial trivial
noncomputable def s45 : FSpec := ⟨[.imm true (.pair (.int .i64) (.pair (.slice 3 (.int .i64)) .unit)), .imm false (.int .i64)], [.imm false (.int .i64)], fun x => S_laws_szAttr x.1 x.2.1, true⟩
theorem ok45 : FOk Tryd.prog fa 45 s45 := fn_says env45 Tryd.func45 rfl fun x y h => ⟨0, (r45 0 x.1 x.2.1).trans h⟩
theorem enters45 : Enters Tryd.prog 45 := enters Tryd.func45 (by kernel_rfl) rfl

/-! ## loop.example/g00698/laws.szMsg -/
noncomputable def E11 : Env := { tab := tab, sig := [(45, s45)], clos := [], live := [], eqs := [], inl := [] }
set_option maxRecDepth 100000 in
theorem r11 (N : Nat) (a0 : T11) (a1 : Int) : runF N E11 Tryd.f11 [.imm true (.pair (.int .i64) (.pair (.int .i64) (.pair (.int .i64) (.pair (.int .i64) (.pair (.int .i64) (.pair (.int .i64) (.pair (.int .i64) (.pair (.int .i64) (.pair (.pair (.int .i64) (.pair (.int .i64) (.pair (.int .i64) (.pair (.int .i64) (.pair (.int .i64) .unit))))) (.pair (.pair (.int .i64) (.pair (.slice 3 (.int .i64)) .unit)) .unit)))))))))), .imm false (.int .i64)] [.imm false (.int .i64)] (a0, a1, ()) = p_laws_szMsg N a0 a1 := by kernel_rfl
theorem env11 : EnvOk Tryd.prog (fa.at true) E11 := envOk mixed tabOk ⟨⟨enters45, ok45, fun _ => rfl⟩, trivial⟩ trivial trivial
noncomputable def s11 : FSpec := ⟨[.imm true (.pair (.int .i64) (.pair (.int .i64) (.pair (.int .i64) (.pair (.int .i64) (.pair (.int .i64) (.pair (.int .i64) (.pair (.int .i64) (.pair (.int .i64) (.pair (.pair (.int .i64) (.pair (.int .i64) (.pair (.int .i64) (.pair (.int .i64) (.pair (.int .i64) .unit))))) (.pair (.pair (.int .i64) (.pair (.slice 3 (.int .i64)) .unit)) .unit)))))))))), .imm false (.int .i64)], [.imm false (.int .i64)], fun x => S_laws_szMsg x.1 x.2.1, true⟩
theorem ok11 : FOk Tryd.prog fa 11 s11 := fn_says env11 Tryd.func11 rfl fun x y h => ⟨0, (r11 0 x.1 x.2.1).trans h⟩
theorem enters11 : Enters Tryd.prog 11 := enters Tryd.func11 (by kernel_rfl) rfl

/-! ## loop.example/g00698/laws.toCmd -/
noncomputable def E47 : Env := { tab := tab, sig := [], clos := [], live := [], eqs := [], inl := [] }
set_option maxRecDepth 100000 in
theorem r47 (N : Nat) (a0 : T2) : runF N E47 Tryd.f47 [.imm true (.pair (.int .i64) (.pair (.int .i64) (.pair (.int .i64) (.pair (.int .i64) (.pair (.int .i64) .unit)))))] [.imm true (.pair (.int .i64) (.pair (.int .i64) (.pair (.int .i64) (.pair (.int .i64) (.pair (.int .i64) .unit)))))] (a0, ()) = p_laws_toCmd N a0 := by kernel_rfl
theorem env47 : EnvOk Tryd.prog (fa.at true) E47 := envOk mixed tabOk trivial trivial trivial
noncomputable def s47 : FSpec := ⟨[.imm true (.pair (.int .i64) (.pair (.int .i64) (.pair (.int .i64) (.pair (.int .i64) (.pair (.int .i64) .unit)))))], [.imm true (.pair (.int .i64) (.pair (.int .i64) (.pair (.int .i64) (.pair (.int .i64) (.pair (.int .i64) .unit)))))], fun x => S_laws_toCmd x.1, true⟩
theorem ok47 : FOk Tryd.prog fa 47 s47 := fn_says env47 Tryd.func47 rfl fun x y h => ⟨0, (r47 0 x.1).trans h⟩
theorem enters47 : Enters Tryd.prog 47 := enters Tryd.func47 (by kernel_rfl) rfl

/-! ## loop.example/g00698/laws.toIntS -/
noncomputable def E58 : Env := { tab := tab, sig := [], clos := [], live := [(0, [0, 3, 4], [])], eqs := [], inl := [] }
set_option maxRecDepth 100000 in
theorem r58 (N : Nat) (a0 : List Int) : runF N E58 Tryd.f58 [.imm false (.slice 3 (.int .i64))] [.deep false (.slice 3 (.int .i64))] (a0, ()) = p_laws_toIntS N a0 := by kernel_rfl
theorem env58 : EnvOk Tryd.prog (fa.at true) E58 := envOk mixed tabOk trivial trivial trivial
noncomputable def s58 : FSpec := ⟨[.imm false (.slice 3 (.int .i64))], [.deep false (.slice 3 (.int .i64))], fun x => S_laws_toIntS x.1, true⟩
theorem ok58 : FOk Tryd.prog fa 58 s58 := fn_says env58 Tryd.func58 rfl fun x y h => let ⟨N, hN⟩ := lim_some h; ⟨N, (r58 N x.1).trans hN⟩
theorem enters58 : Enters Tryd.prog 58 := enters Tryd.func58 (by kernel_rfl) rfl

/-! ## loop.example/g00698/laws.toAttr -/
noncomputable def E48 : Env := { tab := tab, sig := [(58, s58)], clos := [], live := [], eqs := [], inl := [] }
set_option maxRecDepth 100000 in
theorem r48 (N : Nat) (a0 : T6) : runF N E48 Tryd.f48 [.imm true (.pair (.int .i64) (.pair (.slice 3 (.int .i64)) .unit))] [.deep true (.pair (.int .i64) (.pair (.slice 3 (.int .i64)) .unit))] (a0, ()) = p_laws_toAttr N a0 := by kernel_rfl
theorem env48 : EnvOk Tryd.prog (fa.at true) E48 := envOk mixed tabOk ⟨⟨enters58, ok58, fun _ => rfl⟩, trivial⟩ trivial trivial
noncomputable def s48 : FSpec := ⟨[.imm true (.pair (.int .i64) (.pair (.slice 3 (.int .i64)) .unit))], [.deep true (.pair (.int .i64) (.pair (.slice 3 (.int .i64)) .unit))], fun x => S_laws_toAttr x.1, true⟩
theorem ok48 : FOk Tryd.prog fa 48 s48 := fn_says env48 Tryd.func48 rfl fun x y h => ⟨0, (r48 0 x.1).trans h⟩
theorem enters48 : Enters Tryd.prog 48 := enters Tryd.func48 (by kernel_rfl) rfl

/-! ## loop.example/g00698/laws.toMsg -/
noncomputable def E13 : Env := { tab := tab, sig := [(47, s47), (48, s48)], clos := [], live := [], eqs := [], inl := [] }
set_option maxRecDepth 100000 in
theorem r13 (N : Nat) (a0 : T11) : runF N E13 Tryd.f13 [.imm true (.pair (.int .i64) (.pair (.int .i64) (.pair (.int .i64) (.pair (.int .i64) (.pair (.int .i64) (.pair (.int .i64) (.pair (.int .i64) (.pair (.int .i64) (.pair (.pair (.int .i64) (.pair (.int .i64) (.pair (.int .i64) (.pair (.int .i64) (.pair (.int .i64) .unit))))) (.pair (.pair (.int .i64) (.pair (.slice 3 (.int .i64)) .unit)) .unit))))))))))] [.deep true (.pair (.int .i64) (.pair (.int .i64) (.pair (.int .i64) (.pair (.int .i64) (.pair (.int .i64) (.pair (.int .i64) (.pair (.int .i64) (.pair (.int .i64) (.pair (.pair (.int .i64) (.pair (.int .i64) (.pair (.int .i64) (.pair (.int .i64) (.pair (.int .i64) .unit))))) (.pair (.pair (.int .i64) (.pair (.slice 3 (.int .i64)) .unit)) .unit))))))))))] (a0, ()) = p_laws_toMsg N a0 := by kernel_rfl
theorem env13 : EnvOk Tryd.prog (fa.at true) E13 := envOk mixed tabOk ⟨⟨enters47, ok47, fun _ => rfl⟩, ⟨enters48, ok48, fun _ => rfl⟩, trivial⟩ trivial trivial
noncomputable def s13 : FSpec := ⟨[.imm true (.pair (.int .i64) (.pair (.int .i64) (.pair (.int .i64) (.pair (.int .i64) (.pair (.int .i64) (.pair (.int .i64) (.pair (.int .i64) (.pair (.int .i64) (.pair (.pair (.int .i64) (.pair (.int .i64) (.pair (.int .i64) (.pair (.int .i64) (.pair (.int .i64) .unit))))) (.pair (.pair (.int .i64) (.pair (.slice 3 (.int .i64)) .unit)) .unit))))))))))], [.deep true (.pair (.int .i64) (.pair (.int .i64) (.pair (.int .i64) (.pair (.int .i64) (.pair (.int .i64) (.pair (.int .i64) (.pair (.int .i64) (.pair (.int .i64) (.pair (.pair (.int .i64) (.pair (.int .i64) (.pair (.int .i64) (.pair (.int .i64) (.pair (.int .i64) .unit))))) (.pair (.pair (.int .i64) (.pair (.slice 3 (.int .i64)) .unit)) .unit))))))))))], fun x => S_laws_toMsg x.1, true⟩
theorem ok13 : FOk Tryd.prog fa 13 s13 := fn_says env13 Tryd.func13 rfl fun x y h => ⟨0, (r13 0 x.1).trans h⟩
theorem enters13 : Enters Tryd.prog 13 := enters Tryd.func13 (by kernel_rfl) rfl

/-! ## loop.example/g00698/spec.l1Num -/
noncomputable def sk86 (k : Nat) : FSpec := ⟨[.imm false (.int .i64)], [.imm false .str], fun x => p_spec_l1Num k x.1, true⟩
noncomputable def E86 (N : Nat) : Env := { tab := tab, sig := [(86, sk86 N)], clos := [], live := [], eqs := [], inl := [] }
set_option maxRecDepth 100000 in
theorem r86 (N : Nat) (a0 : Int) : runF N (E86 N) Tryd.f86 [.imm false (.int .i64)] [.imm false .str] (a0, ()) = p_spec_l1Num (N + 1) a0 := by kernel_rfl
theorem enters86 : Enters Tryd.prog 86 := enters Tryd.func86 (by kernel_rfl) rfl
theorem env86 (k : Nat) (h : FOk Tryd.prog fa 86 (sk86 k)) : EnvOk Tryd.prog (fa.at true) (E86 k) := envOk mixed tabOk ⟨⟨enters86, h, fun _ => rfl⟩, trivial⟩ trivial trivial
noncomputable def s86 : FSpec := ⟨[.imm false (.int .i64)], [.imm false .str], fun x => S_spec_l1Num x.1, true⟩
theorem okk86 : ∀ k, FOk Tryd.prog fa 86 (sk86 k)
  | 0 => fok_none fun _ => rfl
  | k + 1 => fn_says (s := sk86 (k + 1)) (env86 k (okk86 k)) Tryd.func86 rfl fun x y h => ⟨k, (r86 k x.1).trans h⟩
theorem ok86 : FOk Tryd.prog fa 86 s86 := fok_sup okk86 fun x y h => lim_some h

/-! ## loop.example/g00698/spec.l17Int -/
noncomputable def E46 : Env := { tab := tab, sig := [(86, s86)], clos := [], live := [], eqs := [], inl := [] }
set_option maxRecDepth 100000 in
theorem r46 (N : Nat) (a0 : Int) : runF N E46 Tryd.f46 [.imm false (.int .i64)] [.imm false .str] (a0, ()) = p_spec_l17Int N a0 := by kernel_rfl
theorem env46 : EnvOk Tryd.prog (fa.at true) E46 := envOk mixed tabOk ⟨⟨enters86, ok86, fun _ => rfl⟩, trivial⟩ trivial trivial
noncomputable def s46 : FSpec := ⟨[.imm false (.int .i64)], [.imm false .str], fun x => S_spec_l17Int x.1, true⟩
theorem ok46 : FOk Tryd.prog fa 46 s46 := fn_says env46 Tryd.func46 rfl fun x y h => ⟨0, (r46 0 x.1).trans h⟩
theorem enters46 : Enters Tryd.prog 46 := enters Tryd.func46 (by kernel_rfl) rfl

/-! ## loop.example/g00698/spec.MsgLine -/
noncomputable def E12 : Env := { tab := tab, sig := [(46, s46)], clos := [], live := [(0, [3, 23, 24, 25], [])], eqs := [], inl := [] }
set_option maxRecDepth 100000 in
theorem r12 (N : Nat) (a0 : T11) : runF N E12 Tryd.f12 [.imm true (.pair (.int .i64) (.pair (.int .i64) (.pair (.int .i64) (.pair (.int .i64) (.pair (.int .i64) (.pair (.int .i64) (.pair (.int .i64) (.pair (.int .i64) (.pair (.pair (.int .i64) (.pair (.int .i64) (.pair (.int .i64) (.pair (.int .i64) (.pair (.int .i64) .unit))))) (.pair (.pair (.int .i64) (.pair (.slice 3 (.int .i64)) .unit)) .unit))))))))))] [.imm false .str] (a0, ()) = p_spec_MsgLine N a0 := by kernel_rfl
theorem env12 : EnvOk Tryd.prog (fa.at true) E12 := envOk mixed tabOk ⟨⟨enters46, ok46, fun _ => rfl⟩, trivial⟩ trivial trivial
noncomputable def s12 : FSpec := ⟨[.imm true (.pair (.int .i64) (.pair (.int .i64) (.pair (.int .i64) (.pair (.int .i64) (.pair (.int .i64) (.pair (.int .i64) (.pair (.int .i64) (.pair (.int .i64) (.pair (.pair (.int .i64) (.pair (.int .i64) (.pair (.int .i64) (.pair (.int .i64) (.pair (.int .i64) .unit))))) (.pair (.pair (.int .i64) (.pair (.slice 3 (.int .i64)) .unit)) .unit))))))))))], [.imm false .str], fun x => S_spec_MsgLine x.1, true⟩
theorem ok12 : FOk Tryd.prog fa 12 s12 := fn_says env12 Tryd.func12 rfl fun x y h => let ⟨N, hN⟩ := lim_some h; ⟨N, (r12 N x.1).trans hN⟩
theorem enters12 : Enters Tryd.prog 12 := enters Tryd.func12 (by kernel_rfl) rfl

/-! ## strconv.Itoa -/
def Lay49_ren : Go.Shelf.Ren := ⟨fun | 171 => 49 | 243 => 87 | 246 => 113 | 283 => 143 | 284 => 144 | 285 => 145 | 286 => 146 | 129 => 166 | 317 => 165 | 318 => 167 | 319 => 168 | 320 => 169 | 337 => 176 | 338 => 177 | n => n, fun | 3 => 3 | 9 => 9 | 2 => 2 | 4 => 4 | 171 => 150 | 0 => 0 | 53 => 151 | 37 => 111 | 5 => 5 | 173 => 154 | 212 => 170 | 51 => 171 | 20 => 20 | 213 => 172 | 46 => 166 | 232 => 181 | 233 => 182 | n => n, fun | 17 => 1 | 18 => 4 | 19 => 5 | n => n⟩
theorem Lay49 : Go.Proofs.LaysM.n171 Tryd.prog Lay49_ren := {
  mixed := by kernel_rfl
  f129 := Tryd.func166.trans (congrArg some (by kernel_rfl))
  f171 := Tryd.func49.trans (congrArg some (by kernel_rfl))
  f243 := Tryd.func87.trans (congrArg some (by kernel_rfl))
  f246 := Tryd.func113.trans (congrArg some (by kernel_rfl))
  f283 := Tryd.func143.trans (congrArg some (by kernel_rfl))
  f284 := Tryd.func144.trans (congrArg some (by kernel_rfl))
  f285 := Tryd.func145.trans (congrArg some (by kernel_rfl))
  f286 := Tryd.func146.trans (congrArg some (by kernel_rfl))
  f317 := Tryd.func165.trans (congrArg some (by kernel_rfl))
  f318 := Tryd.func167.trans (congrArg some (by kernel_rfl))
  f319 := Tryd.func168.trans (congrArg some (by kernel_rfl))
  f320 := Tryd.func169.trans (congrArg some (by kernel_rfl))
  f337 := Tryd.func176.trans (congrArg some (by kernel_rfl))
  f338 := Tryd.func177.trans (congrArg some (by kernel_rfl))
  t0 := Tryd.underlying0
  a0 := Tryd.isAgg0
  z0 := Tryd.sizeOf0
  v0 := Tryd.zeroValue0
  t2 := Tryd.underlying2
  a2 := Tryd.isAgg2
  z2 := Tryd.sizeOf2
  v2 := Tryd.zeroValue2
  t3 := Tryd.underlying3
  a3 := Tryd.isAgg3
  z3 := Tryd.sizeOf3
  v3 := Tryd.zeroValue3
  t4 := Tryd.underlying4
  a4 := Tryd.isAgg4
  z4 := Tryd.sizeOf4
  v4 := Tryd.zeroValue4
  t5 := Tryd.underlying5
  a5 := Tryd.isAgg5
  z5 := Tryd.sizeOf5
  v5 := Tryd.zeroValue5
  t9 := Tryd.underlying9
  a9 := Tryd.isAgg9
  z9 := Tryd.sizeOf9
  v9 := Tryd.zeroValue9
  t20 := Tryd.underlying20
  a20 := Tryd.isAgg20
  z20 := Tryd.sizeOf20
  v20 := Tryd.zeroValue20
  t37 := Tryd.underlying111
  a37 := Tryd.isAgg111
  z37 := Tryd.sizeOf111
  v37 := Tryd.zeroValue111
  t46 := Tryd.underlying166
  a46 := Tryd.isAgg166
  z46 := Tryd.sizeOf166
  v46 := Tryd.zeroValue166
  t51 := Tryd.underlying171
  a51 := Tryd.isAgg171
  z51 := Tryd.sizeOf171
  v51 := Tryd.zeroValue171
  t53 := Tryd.underlying151
  a53 := Tryd.isAgg151
  z53 := Tryd.sizeOf151
  v53 := Tryd.zeroValue151
  t171 := Tryd.underlying150
  a171 := Tryd.isAgg150
  z171 := Tryd.sizeOf150
  v171 := Tryd.zeroValue150
  t173 := Tryd.underlying154
  a173 := Tryd.isAgg154
  z173 := Tryd.sizeOf154
  v173 := Tryd.zeroValue154
  t212 := Tryd.underlying170
  a212 := Tryd.isAgg170
  z212 := Tryd.sizeOf170
  v212 := Tryd.zeroValue170
  t213 := Tryd.underlying172
  a213 := Tryd.isAgg172
  z213 := Tryd.sizeOf172
  t232 := Tryd.underlying181
  a232 := Tryd.isAgg181
  z232 := Tryd.sizeOf181
  v232 := Tryd.zeroValue181
  t233 := Tryd.underlying182
  a233 := Tryd.isAgg182
  z233 := Tryd.sizeOf182
  v233 := Tryd.zeroValue182
  g17 := by kernel_rfl
  g18 := by kernel_rfl
  g19 := by kernel_rfl
  i0 := by kernel_rfl
  i2 := by kernel_rfl
  i3 := by kernel_rfl
  i4 := by kernel_rfl
  i5 := by kernel_rfl
  i9 := by kernel_rfl
  i20 := by kernel_rfl
  i37 := by kernel_rfl
  i46 := by kernel_rfl
  i51 := by kernel_rfl
  i53 := by kernel_rfl
  i171 := by kernel_rfl
  i173 := by kernel_rfl
  i212 := by kernel_rfl
  i232 := by kernel_rfl
  i233 := by kernel_rfl
  m17 := by kernel_rfl
  m18 := by kernel_rfl
  m19 := by kernel_rfl }

noncomputable def s49 : FSpec := ⟨[.imm false (.int .i64)], [.imm false .str], fun x => S_strconv_Itoa x.1, true⟩
theorem ok49 : FOk Tryd.prog fa 49 s49 := ok_Itoa Lay49 (fun W h => h.2) (g := 1) (by kernel_rfl) (by decide)
theorem enters49 : Enters Tryd.prog 49 := enters Tryd.func49 (by kernel_rfl) rfl

/-! ## strings.Join -/
def Lay50_ren : Go.Shelf.Ren := ⟨fun | 156 => 50 | 165 => 88 | 166 => 89 | 169 => 90 | 240 => 114 | 241 => 115 | 276 => 147 | 277 => 148 | n => n, fun | 31 => 80 | 9 => 9 | 3 => 3 | 4 => 4 | 0 => 0 | 20 => 20 | 72 => 113 | 76 => 117 | 70 => 110 | 37 => 111 | 75 => 116 | 127 => 136 | 164 => 156 | 5 => 5 | 80 => 119 | n => n, fun | n => n⟩
theorem Lay50 : Go.Proofs.Lays.n156 Tryd.prog Lay50_ren := {
  mixed := by kernel_rfl
  f156 := Tryd.func50.trans (congrArg some (by kernel_rfl))
  f165 := Tryd.func88.trans (congrArg some (by kernel_rfl))
  f166 := Tryd.func89.trans (congrArg some (by kernel_rfl))
  f169 := Tryd.func90.trans (congrArg some (by kernel_rfl))
  f240 := Tryd.func114.trans (congrArg some (by kernel_rfl))
  f241 := Tryd.func115.trans (congrArg some (by kernel_rfl))
  f276 := Tryd.func147.trans (congrArg some (by kernel_rfl))
  f277 := Tryd.func148.trans (congrArg some (by kernel_rfl))
  t0 := Tryd.underlying0
  a0 := Tryd.isAgg0
  z0 := Tryd.sizeOf0
  v0 := Tryd.zeroValue0
  t3 := Tryd.underlying3
  a3 := Tryd.isAgg3
  z3 := Tryd.sizeOf3
  v3 := Tryd.zeroValue3
  t4 := Tryd.underlying4
  a4 := Tryd.isAgg4
  z4 := Tryd.sizeOf4
  v4 := Tryd.zeroValue4
  t9 := Tryd.underlying9
  a9 := Tryd.isAgg9
  z9 := Tryd.sizeOf9
  v9 := Tryd.zeroValue9
  t20 := Tryd.underlying20
  a20 := Tryd.isAgg20
  z20 := Tryd.sizeOf20
  v20 := Tryd.zeroValue20
  t31 := Tryd.underlying80
  a31 := Tryd.isAgg80
  z31 := Tryd.sizeOf80
  v31 := Tryd.zeroValue80
  t37 := Tryd.underlying111
  a37 := Tryd.isAgg111
  z37 := Tryd.sizeOf111
  v37 := Tryd.zeroValue111
  t70 := Tryd.underlying110
  a70 := Tryd.isAgg110
  z70 := Tryd.sizeOf110
  v70 := Tryd.zeroValue110
  t72 := Tryd.underlying113
  a72 := Tryd.isAgg113
  z72 := Tryd.sizeOf113
  v72 := Tryd.zeroValue113
  t75 := Tryd.underlying116
  a75 := Tryd.isAgg116
  z75 := Tryd.sizeOf116
  v75 := Tryd.zeroValue116
  t76 := Tryd.underlying117
  a76 := Tryd.isAgg117
  z76 := Tryd.sizeOf117
  v76 := Tryd.zeroValue117
  t127 := Tryd.underlying136
  a127 := Tryd.isAgg136
  z127 := Tryd.sizeOf136
  v127 := Tryd.zeroValue136
  t164 := Tryd.underlying156
  a164 := Tryd.isAgg156
  z164 := Tryd.sizeOf156
  v164 := Tryd.zeroValue156 }

theorem LayX50 : Builder.Extra Tryd.prog Lay50_ren where
  sizeBuilder := by kernel_rfl
  liesBuilder := by kernel_rfl
  t5 := Tryd.underlying5
  a5 := Tryd.isAgg5
  z5 := Tryd.sizeOf5
  v5 := Tryd.zeroValue5
  infoByte := by kernel_rfl
  cellsByte := by kernel_rfl
  sizeByte := by kernel_rfl
  neB5 := by decide
noncomputable def s50 : FSpec := ⟨[.imm false (.slice 9 .str), .imm false .str], [.imm false .str], fun x => S_strings_Join x.1 x.2.1, false⟩
theorem ok50 : FOk Tryd.prog fa 50 s50 := ok_Join Lay50 LayX50
theorem enters50 : Enters Tryd.prog 50 := enters Tryd.func50 (by kernel_rfl) rfl

/-! ## loop.example/g00698/impl.MsgLine -/
noncomputable def E14 : Env := { tab := tab, sig := [(49, s49), (50, s50)], clos := [], live := [(0, [3, 23, 24, 25], [])], eqs := [], inl := [], q := false }
set_option maxRecDepth 100000 in
theorem r14 (N : Nat) (a0 : T11) : runF N E14 Tryd.f14 [.imm true (.pair (.int .i64) (.pair (.int .i64) (.pair (.int .i64) (.pair (.int .i64) (.pair (.int .i64) (.pair (.int .i64) (.pair (.int .i64) (.pair (.int .i64) (.pair (.pair (.int .i64) (.pair (.int .i64) (.pair (.int .i64) (.pair (.int .i64) (.pair (.int .i64) .unit))))) (.pair (.pair (.int .i64) (.pair (.slice 3 (.int .i64)) .unit)) .unit))))))))))] [.imm false .str] (a0, ()) = p_impl_MsgLine N a0 := by kernel_rfl
theorem env14 : EnvOk Tryd.prog (fa.at false) E14 := envOk mixed tabOk ⟨⟨enters49, ok49, fun _ => rfl⟩, ⟨enters50, ok50, fun h => h⟩, trivial⟩ trivial trivial
noncomputable def s14 : FSpec := ⟨[.imm true (.pair (.int .i64) (.pair (.int .i64) (.pair (.int .i64) (.pair (.int .i64) (.pair (.int .i64) (.pair (.int .i64) (.pair (.int .i64) (.pair (.int .i64) (.pair (.pair (.int .i64) (.pair (.int .i64) (.pair (.int .i64) (.pair (.int .i64) (.pair (.int .i64) .unit))))) (.pair (.pair (.int .i64) (.pair (.slice 3 (.int .i64)) .unit)) .unit))))))))))], [.imm false .str], fun x => S_impl_MsgLine x.1, false⟩
theorem ok14 : FOk Tryd.prog fa 14 s14 := fn_says env14 Tryd.func14 rfl fun x y h => let ⟨N, hN⟩ := lim_some h; ⟨N, (r14 N x.1).trans hN⟩
theorem enters14 : Enters Tryd.prog 14 := enters Tryd.func14 (by kernel_rfl) rfl

/-! ## loop.example/g00698/laws.eqCmd -/
noncomputable def E51 : Env := { tab := tab, sig := [], clos := [], live := [], eqs := [], inl := [] }
set_option maxRecDepth 100000 in
theorem r51 (N : Nat) (a0 : T2) (a1 : T2) : runF N E51 Tryd.f51 [.imm true (.pair (.int .i64) (.pair (.int .i64) (.pair (.int .i64) (.pair (.int .i64) (.pair (.int .i64) .unit))))), .imm true (.pair (.int .i64) (.pair (.int .i64) (.pair (.int .i64) (.pair (.int .i64) (.pair (.int .i64) .unit)))))] [.imm false .bool] (a0, a1, ()) = p_laws_eqCmd N a0 a1 := by kernel_rfl
theorem env51 : EnvOk Tryd.prog (fa.at true) E51 := envOk mixed tabOk trivial trivial trivial
noncomputable def s51 : FSpec := ⟨[.imm true (.pair (.int .i64) (.pair (.int .i64) (.pair (.int .i64) (.pair (.int .i64) (.pair (.int .i64) .unit))))), .imm true (.pair (.int .i64) (.pair (.int .i64) (.pair (.int .i64) (.pair (.int .i64) (.pair (.int .i64) .unit)))))], [.imm false .bool], fun x => S_laws_eqCmd x.1 x.2.1, true⟩
theorem ok51 : FOk Tryd.prog fa 51 s51 := fn_says env51 Tryd.func51 rfl fun x y h => ⟨0, (r51 0 x.1 x.2.1).trans h⟩
theorem enters51 : Enters Tryd.prog 51 := enters Tryd.func51 (by kernel_rfl) rfl

/-! ## loop.example/g00698/laws.eqIntS -/
noncomputable def E62 : Env := { tab := tab, sig := [], clos := [], live := [(0, [0, 1, 5], [])], eqs := [], inl := [] }
set_option maxRecDepth 100000 in
theorem r62 (N : Nat) (a0 : List Int) (a1 : List Int) : runF N E62 Tryd.f62 [.imm false (.slice 3 (.int .i64)), .imm false (.slice 3 (.int .i64))] [.imm false .bool] (a0, a1, ()) = p_laws_eqIntS N a0 a1 := by kernel_rfl
theorem env62 : EnvOk Tryd.prog (fa.at true) E62 := envOk mixed tabOk trivial trivial trivial
noncomputable def s62 : FSpec := ⟨[.imm false (.slice 3 (.int .i64)), .imm false (.slice 3 (.int .i64))], [.imm false .bool], fun x => S_laws_eqIntS x.1 x.2.1, true⟩
theorem ok62 : FOk Tryd.prog fa 62 s62 := fn_says env62 Tryd.func62 rfl fun x y h => let ⟨N, hN⟩ := lim_some h; ⟨N, (r62 N x.1 x.2.1).trans hN⟩
theorem enters62 : Enters Tryd.prog 62 := enters Tryd.func62 (by kernel_rfl) rfl

/-! ## loop.example/g00698/laws.eqAttr -/
noncomputable def E52 : Env := { tab := tab, sig := [(62, s62)], clos := [], live := [], eqs := [], inl := [] }
set_option maxRecDepth 100000 in
theorem r52 (N : Nat) (a0 : T6) (a1 : T6) : runF N E52 Tryd.f52 [.imm true (.pair (.int .i64) (.pair (.slice 3 (.int .i64)) .unit)), .imm true (.pair (.int .i64) (.pair (.slice 3 (.int .i64)) .unit))] [.imm false .bool] (a0, a1, ()) = p_laws_eqAttr N a0 a1 := by kernel_rfl
theorem env52 : EnvOk Tryd.prog (fa.at true) E52 := envOk mixed tabOk ⟨⟨enters62, ok62, fun _ => rfl⟩, trivial⟩ trivial trivial
noncomputable def s52 : FSpec := ⟨[.imm true (.pair (.int .i64) (.pair (.slice 3 (.int .i64)) .unit)), .imm true (.pair (.int .i64) (.pair (.slice 3 (.int .i64)) .unit))], [.imm false .bool], fun x => S_laws_eqAttr x.1 x.2.1, true⟩
theorem ok52 : FOk Tryd.prog fa 52 s52 := fn_says env52 Tryd.func52 rfl fun x y h => ⟨0, (r52 0 x.1 x.2.1).trans h⟩
theorem enters52 : Enters Tryd.prog 52 := enters Tryd.func52 (by kernel_rfl) rfl

/-! ## loop.example/g00698/laws.eqMsg -/
noncomputable def E15 : Env := { tab := tab, sig := [(51, s51), (52, s52)], clos := [], live := [], eqs := [], inl := [] }
set_option maxRecDepth 100000 in
theorem r15 (N : Nat) (a0 : T11) (a1 : T11) : runF N E15 Tryd.f15 [.imm true (.pair (.int .i64) (.pair (.int .i64) (.pair (.int .i64) (.pair (.int .i64) (.pair (.int .i64) (.pair (.int .i64) (.pair (.int .i64) (.pair (.int .i64) (.pair (.pair (.int .i64) (.pair (.int .i64) (.pair (.int .i64) (.pair (.int .i64) (.pair (.int .i64) .unit))))) (.pair (.pair (.int .i64) (.pair (.slice 3 (.int .i64)) .unit)) .unit)))))))))), .imm true (.pair (.int .i64) (.pair (.int .i64) (.pair (.int .i64) (.pair (.int .i64) (.pair (.int .i64) (.pair (.int .i64) (.pair (.int .i64) (.pair (.int .i64) (.pair (.pair (.int .i64) (.pair (.int .i64) (.pair (.int .i64) (.pair (.int .i64) (.pair (.int .i64) .unit))))) (.pair (.pair (.int .i64) (.pair (.slice 3 (.int .i64)) .unit)) .unit))))))))))] [.imm false .bool] (a0, a1, ()) = p_laws_eqMsg N a0 a1 := by kernel_rfl
theorem env15 : EnvOk Tryd.prog (fa.at true) E15 := envOk mixed tabOk ⟨⟨enters51, ok51, fun _ => rfl⟩, ⟨enters52, ok52, fun _ => rfl⟩, trivial⟩ trivial trivial
noncomputable def s15 : FSpec := ⟨[.imm true (.pair (.int .i64) (.pair (.int .i64) (.pair (.int .i64) (.pair (.int .i64) (.pair (.int .i64) (.pair (.int .i64) (.pair (.int .i64) (.pair (.int .i64) (.pair (.pair (.int .i64) (.pair (.int .i64) (.pair (.int .i64) (.pair (.int .i64) (.pair (.int .i64) .unit))))) (.pair (.pair (.int .i64) (.pair (.slice 3 (.int .i64)) .unit)) .unit)))))))))), .imm true (.pair (.int .i64) (.pair (.int .i64) (.pair (.int .i64) (.pair (.int .i64) (.pair (.int .i64) (.pair (.int .i64) (.pair (.int .i64) (.pair (.int .i64) (.pair (.pair (.int .i64) (.pair (.int .i64) (.pair (.int .i64) (.pair (.int .i64) (.pair (.int .i64) .unit))))) (.pair (.pair (.int .i64) (.pair (.slice 3 (.int .i64)) .unit)) .unit))))))))))], [.imm false .bool], fun x => S_laws_eqMsg x.1 x.2.1, true⟩
theorem ok15 : FOk Tryd.prog fa 15 s15 := fn_says env15 Tryd.func15 rfl fun x y h => ⟨0, (r15 0 x.1 x.2.1).trans h⟩
theorem enters15 : Enters Tryd.prog 15 := enters Tryd.func15 (by kernel_rfl) rfl

/-! ## loop.example/g00698/laws.FnExactMsgLine -/
noncomputable def E3 : Env := { tab := tab, sig := [(11, s11), (13, s13), (12, s12), (14, s14), (15, s15)], clos := [], live := [], eqs := [], inl := [], q := false }
set_option maxRecDepth 100000 in
theorem r3 (N : Nat) (a0 : T11) : runF N E3 Tryd.f3 [.imm true (.pair (.int .i64) (.pair (.int .i64) (.pair (.int .i64) (.pair (.int .i64) (.pair (.int .i64) (.pair (.int .i64) (.pair (.int .i64) (.pair (.int .i64) (.pair (.pair (.int .i64) (.pair (.int .i64) (.pair (.int .i64) (.pair (.int .i64) (.pair (.int .i64) .unit))))) (.pair (.pair (.int .i64) (.pair (.slice 3 (.int .i64)) .unit)) .unit))))))))))] [.imm false .bool] (a0, ()) = p_laws_FnExactMsgLine N a0 := by kernel_rfl
theorem env3 : EnvOk Tryd.prog (fa.at false) E3 := envOk mixed tabOk ⟨⟨enters11, ok11, fun _ => rfl⟩, ⟨enters13, ok13, fun _ => rfl⟩, ⟨enters12, ok12, fun _ => rfl⟩, ⟨enters14, ok14, fun h => h⟩, ⟨enters15, ok15, fun _ => rfl⟩, trivial⟩ trivial trivial

end Go.Proofs.YtmnekhlgldljcaaDoor.Am
