/- Functions, as they run on data. No condition. -/
import Derived.Test.YtmnekhlgldljcaaDoorAmTab
import Derived.Test.YtmnekhlgldljcaaDoorAmQ
set_option linter.unusedVariables false
set_option maxRecDepth 100000
namespace Go.Proofs.YtmnekhlgldljcaaDoor.Am
open Go.AM Go.AM.P Go.Proofs Go.Shelf
/-! ## loop.example/g00698/laws.szIntS -/
noncomputable def E54 : Env := { tab := tab, sig := [], clos := [], live := [], eqs := [], inl := [] }
set_option maxRecDepth 100000 in
theorem r54 (N : Nat) (a0 : List Int) (a1 : Int) : runF N E54 Tryd.f54 [.imm false (.slice 3 (.int .i64)), .imm false (.int .i64)] [.imm false (.int .i64)] (a0, a1, ()) = p_laws_szIntS N a0 a1 := by kernel_rfl
theorem env54 : EnvOk Tryd.prog (fa.at true) E54 := envOk mixed tabOk trivial trivial trivial
noncomputable def s54 : FSpec := ⟨[.imm false (.slice 3 (.int .i64)), .imm false (.int .i64)], [.imm false (.int .i64)], fun x => S_laws_szIntS x.1 x.2.1, true⟩
theorem ok54 : FOk Tryd.prog fa 54 s54 := fn_says env54 Tryd.func54 rfl fun x y h => ⟨0, (r54 0 x.1 x.2.1).trans h⟩
theorem enters54 : Enters Tryd.prog 54 := enters Tryd.func54 (by kernel_rfl) rfl

/-! ## loop.example/g00698/laws.szIntSS -/
noncomputable def E53 : Env := { tab := tab, sig := [(54, s54)], clos := [], live := [(0, [0, 1, 5], [])], eqs := [], inl := [] }
set_option maxRecDepth 100000 in
theorem r53 (N : Nat) (a0 : List (List Int)) (a1 : Int) : runF N E53 Tryd.f53 [.imm false (.slice 24 (.slice 3 (.int .i64))), .imm false (.int .i64)] [.imm false (.int .i64)] (a0, a1, ()) = p_laws_szIntSS N a0 a1 := by kernel_rfl
theorem env53 : EnvOk Tryd.prog (fa.at true) E53 := envOk mixed tabOk ⟨⟨enters54, ok54, fun _ => rfl⟩, trivial⟩ trivial trivial
noncomputable def s53 : FSpec := ⟨[.imm false (.slice 24 (.slice 3 (.int .i64))), .imm false (.int .i64)], [.imm false (.int .i64)], fun x => S_laws_szIntSS x.1 x.2.1, true⟩
theorem ok53 : FOk Tryd.prog fa 53 s53 := fn_says env53 Tryd.func53 rfl fun x y h => let ⟨N, hN⟩ := lim_some h; ⟨N, (r53 N x.1 x.2.1).trans hN⟩
theorem enters53 : Enters Tryd.prog 53 := enters Tryd.func53 (by kernel_rfl) rfl

/-! ## loop.example/g00698/laws.szCheck -/
noncomputable def E16 : Env := { tab := tab, sig := [(53, s53), (54, s54)], clos := [], live := [], eqs := [], inl := [] }
set_option maxRecDepth 100000 in
theorem r16 (N : Nat) (a0 : T1) (a1 : Int) : runF N E16 Tryd.f16 [.imm true (.pair (.slice 24 (.slice 3 (.int .i64))) (.pair (.slice 3 (.int .i64)) .unit)), .imm false (.int .i64)] [.imm false (.int .i64)] (a0, a1, ()) = p_laws_szCheck N a0 a1 := by kernel_rfl
theorem env16 : EnvOk Tryd.prog (fa.at true) E16 := envOk mixed tabOk ⟨⟨enters53, ok53, fun _ => rfl⟩, ⟨enters54, ok54, fun _ => rfl⟩, trivial⟩ trivial trivial
noncomputable def s16 : FSpec := ⟨[.imm true (.pair (.slice 24 (.slice 3 (.int .i64))) (.pair (.slice 3 (.int .i64)) .unit)), .imm false (.int .i64)], [.imm false (.int .i64)], fun x => S_laws_szCheck x.1 x.2.1, true⟩
theorem ok16 : FOk Tryd.prog fa 16 s16 := fn_says env16 Tryd.func16 rfl fun x y h => ⟨0, (r16 0 x.1 x.2.1).trans h⟩
theorem enters16 : Enters Tryd.prog 16 := enters Tryd.func16 (by kernel_rfl) rfl

/-! ## loop.example/g00698/laws.toIntS -/
noncomputable def E58 : Env := { tab := tab, sig := [], clos := [], live := [(0, [0, 3, 4], [])], eqs := [], inl := [] }
set_option maxRecDepth 100000 in
theorem r58 (N : Nat) (a0 : List Int) : runF N E58 Tryd.f58 [.imm false (.slice 3 (.int .i64))] [.deep false (.slice 3 (.int .i64))] (a0, ()) = p_laws_toIntS N a0 := by kernel_rfl
theorem env58 : EnvOk Tryd.prog (fa.at true) E58 := envOk mixed tabOk trivial trivial trivial
noncomputable def s58 : FSpec := ⟨[.imm false (.slice 3 (.int .i64))], [.deep false (.slice 3 (.int .i64))], fun x => S_laws_toIntS x.1, true⟩
theorem ok58 : FOk Tryd.prog fa 58 s58 := fn_says env58 Tryd.func58 rfl fun x y h => let ⟨N, hN⟩ := lim_some h; ⟨N, (r58 N x.1).trans hN⟩
theorem enters58 : Enters Tryd.prog 58 := enters Tryd.func58 (by kernel_rfl) rfl

/-! ## loop.example/g00698/laws.toIntSS -/
noncomputable def E57 : Env := { tab := tab, sig := [(58, s58)], clos := [], live := [(0, [0, 3, 4], [])], eqs := [], inl := [] }
set_option maxRecDepth 100000 in
theorem r57 (N : Nat) (a0 : List (List Int)) : runF N E57 Tryd.f57 [.imm false (.slice 24 (.slice 3 (.int .i64)))] [.deep false (.slice 24 (.slice 3 (.int .i64)))] (a0, ()) = p_laws_toIntSS N a0 := by kernel_rfl
theorem env57 : EnvOk Tryd.prog (fa.at true) E57 := envOk mixed tabOk ⟨⟨enters58, ok58, fun _ => rfl⟩, trivial⟩ trivial trivial
noncomputable def s57 : FSpec := ⟨[.imm false (.slice 24 (.slice 3 (.int .i64)))], [.deep false (.slice 24 (.slice 3 (.int .i64)))], fun x => S_laws_toIntSS x.1, true⟩
theorem ok57 : FOk Tryd.prog fa 57 s57 := fn_says env57 Tryd.func57 rfl fun x y h => let ⟨N, hN⟩ := lim_some h; ⟨N, (r57 N x.1).trans hN⟩
theorem enters57 : Enters Tryd.prog 57 := enters Tryd.func57 (by kernel_rfl) rfl

/-! ## loop.example/g00698/laws.toCheck -/
noncomputable def E18 : Env := { tab := tab, sig := [(57, s57), (58, s58)], clos := [], live := [], eqs := [], inl := [] }
set_option maxRecDepth 100000 in
theorem r18 (N : Nat) (a0 : T1) : runF N E18 Tryd.f18 [.imm true (.pair (.slice 24 (.slice 3 (.int .i64))) (.pair (.slice 3 (.int .i64)) .unit))] [.deep true (.pair (.slice 24 (.slice 3 (.int .i64))) (.pair (.slice 3 (.int .i64)) .unit))] (a0, ()) = p_laws_toCheck N a0 := by kernel_rfl
theorem env18 : EnvOk Tryd.prog (fa.at true) E18 := envOk mixed tabOk ⟨⟨enters57, ok57, fun _ => rfl⟩, ⟨enters58, ok58, fun _ => rfl⟩, trivial⟩ trivial trivial
noncomputable def s18 : FSpec := ⟨[.imm true (.pair (.slice 24 (.slice 3 (.int .i64))) (.pair (.slice 3 (.int .i64)) .unit))], [.deep true (.pair (.slice 24 (.slice 3 (.int .i64))) (.pair (.slice 3 (.int .i64)) .unit))], fun x => S_laws_toCheck x.1, true⟩
theorem ok18 : FOk Tryd.prog fa 18 s18 := fn_says env18 Tryd.func18 rfl fun x y h => ⟨0, (r18 0 x.1).trans h⟩
theorem enters18 : Enters Tryd.prog 18 := enters Tryd.func18 (by kernel_rfl) rfl

/-! ## loop.example/g00698/spec.IsGroup -/
noncomputable def E67 : Env := { tab := tab, sig := [], clos := [], live := [], eqs := [], inl := [] }
set_option maxRecDepth 100000 in
theorem r67 (N : Nat) (a0 : Int) : runF N E67 Tryd.f67 [.imm false (.int .i64)] [.imm false .bool] (a0, ()) = p_spec_IsGroup N a0 := by kernel_rfl
theorem env67 : EnvOk Tryd.prog (fa.at true) E67 := envOk mixed tabOk trivial trivial trivial
noncomputable def s67 : FSpec := ⟨[.imm false (.int .i64)], [.imm false .bool], fun x => S_spec_IsGroup x.1, true⟩
theorem ok67 : FOk Tryd.prog fa 67 s67 := fn_says env67 Tryd.func67 rfl fun x y h => ⟨0, (r67 0 x.1).trans h⟩
theorem enters67 : Enters Tryd.prog 67 := enters Tryd.func67 (by kernel_rfl) rfl

/-! ## loop.example/g00698/spec.l1In -/
noncomputable def E84 : Env := { tab := tab, sig := [], clos := [], live := [], eqs := [], inl := [] }
set_option maxRecDepth 100000 in
theorem r84 (N : Nat) (a0 : Int) (a1 : Int) (a2 : Int) : runF N E84 Tryd.f84 [.imm false (.int .i64), .imm false (.int .i64), .imm false (.int .i64)] [.imm false .bool] (a0, a1, a2, ()) = p_spec_l1In N a0 a1 a2 := by kernel_rfl
theorem env84 : EnvOk Tryd.prog (fa.at true) E84 := envOk mixed tabOk trivial trivial trivial
noncomputable def s84 : FSpec := ⟨[.imm false (.int .i64), .imm false (.int .i64), .imm false (.int .i64)], [.imm false .bool], fun x => S_spec_l1In x.1 x.2.1 x.2.2.1, true⟩
theorem ok84 : FOk Tryd.prog fa 84 s84 := fn_says env84 Tryd.func84 rfl fun x y h => ⟨0, (r84 0 x.1 x.2.1 x.2.2.1).trans h⟩
theorem enters84 : Enters Tryd.prog 84 := enters Tryd.func84 (by kernel_rfl) rfl

/-! ## loop.example/g00698/spec.l3Inst -/
noncomputable def E116 : Env := { tab := tab, sig := [(84, s84)], clos := [], live := [], eqs := [], inl := [] }
set_option maxRecDepth 100000 in
theorem r116 (N : Nat) (a0 : Int) (a1 : Int) (a2 : Int) : runF N E116 Tryd.f116 [.imm false (.int .i64), .imm false (.int .i64), .imm false (.int .i64)] [.imm false .bool] (a0, a1, a2, ()) = p_spec_l3Inst N a0 a1 a2 := by kernel_rfl
theorem env116 : EnvOk Tryd.prog (fa.at true) E116 := envOk mixed tabOk ⟨⟨enters84, ok84, fun _ => rfl⟩, trivial⟩ trivial trivial
noncomputable def s116 : FSpec := ⟨[.imm false (.int .i64), .imm false (.int .i64), .imm false (.int .i64)], [.imm false .bool], fun x => S_spec_l3Inst x.1 x.2.1 x.2.2.1, true⟩
theorem ok116 : FOk Tryd.prog fa 116 s116 := fn_says env116 Tryd.func116 rfl fun x y h => ⟨0, (r116 0 x.1 x.2.1 x.2.2.1).trans h⟩
theorem enters116 : Enters Tryd.prog 116 := enters Tryd.func116 (by kernel_rfl) rfl

/-! ## loop.example/g00698/spec.l18Done -/
noncomputable def E91 : Env := { tab := tab, sig := [(116, s116)], clos := [], live := [(0, [0, 1, 7, 8, 9, 18, 19, 20, 21, 22, 23, 24, 25, 26, 31, 32, 33, 34, 35, 36, 37, 38, 39, 40, 41, 42, 43, 44, 45, 46, 47, 48, 49, 50, 51, 52, 53, 54, 55, 56, 57, 58, 59, 60, 61, 62, 63, 64, 65, 66, 67], [])], eqs := [], inl := [] }
set_option maxRecDepth 100000 in
theorem r91 (N : Nat) (a0 : Int) (a1 : List (List Int)) : runF N E91 Tryd.f91 [.imm false (.int .i64), .imm false (.slice 24 (.slice 3 (.int .i64)))] [.imm false .bool] (a0, a1, ()) = p_spec_l18Done N a0 a1 := by kernel_rfl
theorem env91 : EnvOk Tryd.prog (fa.at true) E91 := envOk mixed tabOk ⟨⟨enters116, ok116, fun _ => rfl⟩, trivial⟩ trivial trivial
noncomputable def s91 : FSpec := ⟨[.imm false (.int .i64), .imm false (.slice 24 (.slice 3 (.int .i64)))], [.imm false .bool], fun x => S_spec_l18Done x.1 x.2.1, true⟩
theorem ok91 : FOk Tryd.prog fa 91 s91 := fn_says env91 Tryd.func91 rfl fun x y h => let ⟨N, hN⟩ := lim_some h; ⟨N, (r91 N x.1 x.2.1).trans hN⟩
theorem enters91 : Enters Tryd.prog 91 := enters Tryd.func91 (by kernel_rfl) rfl

/-! ## loop.example/g00698/spec.GoodSums -/
noncomputable def E92 : Env := { tab := tab, sig := [(84, s84)], clos := [], live := [(0, [0, 3, 6, 7, 8, 23, 24], [])], eqs := [], inl := [] }
set_option maxRecDepth 100000 in
theorem r92 (N : Nat) (a0 : List Int) : runF N E92 Tryd.f92 [.imm false (.slice 3 (.int .i64))] [.imm false .bool] (a0, ()) = p_spec_GoodSums N a0 := by kernel_rfl
theorem env92 : EnvOk Tryd.prog (fa.at true) E92 := envOk mixed tabOk ⟨⟨enters84, ok84, fun _ => rfl⟩, trivial⟩ trivial trivial
noncomputable def s92 : FSpec := ⟨[.imm false (.slice 3 (.int .i64))], [.imm false .bool], fun x => S_spec_GoodSums x.1, true⟩
theorem ok92 : FOk Tryd.prog fa 92 s92 := fn_says env92 Tryd.func92 rfl fun x y h => let ⟨N, hN⟩ := lim_some h; ⟨N, (r92 N x.1).trans hN⟩
theorem enters92 : Enters Tryd.prog 92 := enters Tryd.func92 (by kernel_rfl) rfl

/-! ## loop.example/g00698/spec.GoodCheck -/
noncomputable def E55 : Env := { tab := tab, sig := [(67, s67), (91, s91), (92, s92)], clos := [], live := [], eqs := [], inl := [] }
set_option maxRecDepth 100000 in
theorem r55 (N : Nat) (a0 : Int) (a1 : T1) : runF N E55 Tryd.f55 [.imm false (.int .i64), .imm true (.pair (.slice 24 (.slice 3 (.int .i64))) (.pair (.slice 3 (.int .i64)) .unit))] [.imm false .bool] (a0, a1, ()) = p_spec_GoodCheck N a0 a1 := by kernel_rfl
theorem env55 : EnvOk Tryd.prog (fa.at true) E55 := envOk mixed tabOk ⟨⟨enters67, ok67, fun _ => rfl⟩, ⟨enters91, ok91, fun _ => rfl⟩, ⟨enters92, ok92, fun _ => rfl⟩, trivial⟩ trivial trivial
noncomputable def s55 : FSpec := ⟨[.imm false (.int .i64), .imm true (.pair (.slice 24 (.slice 3 (.int .i64))) (.pair (.slice 3 (.int .i64)) .unit))], [.imm false .bool], fun x => S_spec_GoodCheck x.1 x.2.1, true⟩
theorem ok55 : FOk Tryd.prog fa 55 s55 := fn_says env55 Tryd.func55 rfl fun x y h => ⟨0, (r55 0 x.1 x.2.1).trans h⟩
theorem enters55 : Enters Tryd.prog 55 := enters Tryd.func55 (by kernel_rfl) rfl

/-! ## loop.example/g00698/spec.l1Num -/
noncomputable def sk86 (k : Nat) : FSpec := ⟨[.imm false (.int .i64)], [.imm false .str], fun x => p_spec_l1Num k x.1, true⟩
noncomputable def E86 (N : Nat) : Env := { tab := tab, sig := [(86, sk86 N)], clos := [], live := [], eqs := [], inl := [] }
set_option maxRecDepth 100000 in
theorem r86 (N : Nat) (a0 : Int) : runF N (E86 N) Tryd.f86 [.imm false (.int .i64)] [.imm false .str] (a0, ()) = p_spec_l1Num (N + 1) a0 := by kernel_rfl
theorem enters86 : Enters Tryd.prog 86 := enters Tryd.func86 (by kernel_rfl) rfl
theorem env86 (k : Nat) (h : FOk Tryd.prog fa 86 (sk86 k)) : EnvOk Tryd.prog (fa.at true) (E86 k) := envOk mixed tabOk ⟨⟨enters86, h, fun _ => rfl⟩, trivial⟩ trivial trivial
noncomputable def s86 : FSpec := ⟨[.imm false (.int .i64)], [.imm false .str], fun x => S_spec_l1Num x.1, true⟩
theorem okk86 : ∀ k, FOk Tryd.prog fa 86 (sk86 k)
  | 0 => fok_none fun _ => rfl
  | k + 1 => fn_says (s := sk86 (k + 1)) (env86 k (okk86 k)) Tryd.func86 rfl fun x y h => ⟨k, (r86 k x.1).trans h⟩
theorem ok86 : FOk Tryd.prog fa 86 s86 := fok_sup okk86 fun x y h => lim_some h

/-! ## loop.example/g00698/spec.l3List -/
noncomputable def E93 : Env := { tab := tab, sig := [(86, s86)], clos := [], live := [(0, [3, 6, 7, 8], [])], eqs := [], inl := [] }
set_option maxRecDepth 100000 in
theorem r93 (N : Nat) (a0 : List Int) : runF N E93 Tryd.f93 [.imm false (.slice 3 (.int .i64))] [.imm false .str] (a0, ()) = p_spec_l3List N a0 := by kernel_rfl
theorem env93 : EnvOk Tryd.prog (fa.at true) E93 := envOk mixed tabOk ⟨⟨enters86, ok86, fun _ => rfl⟩, trivial⟩ trivial trivial
noncomputable def s93 : FSpec := ⟨[.imm false (.slice 3 (.int .i64))], [.imm false .str], fun x => S_spec_l3List x.1, true⟩
theorem ok93 : FOk Tryd.prog fa 93 s93 := fn_says env93 Tryd.func93 rfl fun x y h => let ⟨N, hN⟩ := lim_some h; ⟨N, (r93 N x.1).trans hN⟩
theorem enters93 : Enters Tryd.prog 93 := enters Tryd.func93 (by kernel_rfl) rfl

/-! ## loop.example/g00698/spec.l18Text -/
noncomputable def E56 : Env := { tab := tab, sig := [(86, s86), (93, s93)], clos := [], live := [(0, [1, 3, 7, 8, 9], [])], eqs := [], inl := [] }
set_option maxRecDepth 100000 in
theorem r56 (N : Nat) (a0 : T1) : runF N E56 Tryd.f56 [.imm true (.pair (.slice 24 (.slice 3 (.int .i64))) (.pair (.slice 3 (.int .i64)) .unit))] [.imm false .str] (a0, ()) = p_spec_l18Text N a0 := by kernel_rfl
theorem env56 : EnvOk Tryd.prog (fa.at true) E56 := envOk mixed tabOk ⟨⟨enters86, ok86, fun _ => rfl⟩, ⟨enters93, ok93, fun _ => rfl⟩, trivial⟩ trivial trivial
noncomputable def s56 : FSpec := ⟨[.imm true (.pair (.slice 24 (.slice 3 (.int .i64))) (.pair (.slice 3 (.int .i64)) .unit))], [.imm false .str], fun x => S_spec_l18Text x.1, true⟩
theorem ok56 : FOk Tryd.prog fa 56 s56 := fn_says env56 Tryd.func56 rfl fun x y h => let ⟨N, hN⟩ := lim_some h; ⟨N, (r56 N x.1).trans hN⟩
theorem enters56 : Enters Tryd.prog 56 := enters Tryd.func56 (by kernel_rfl) rfl

/-! ## loop.example/g00698/spec.CheckText -/
noncomputable def E17 : Env := { tab := tab, sig := [(55, s55), (56, s56)], clos := [], live := [], eqs := [], inl := [] }
set_option maxRecDepth 100000 in
theorem r17 (N : Nat) (a0 : Int) (a1 : T1) : runF N E17 Tryd.f17 [.imm false (.int .i64), .imm true (.pair (.slice 24 (.slice 3 (.int .i64))) (.pair (.slice 3 (.int .i64)) .unit))] [.imm false .str, .imm false .bool] (a0, a1, ()) = p_spec_CheckText N a0 a1 := by kernel_rfl
theorem env17 : EnvOk Tryd.prog (fa.at true) E17 := envOk mixed tabOk ⟨⟨enters55, ok55, fun _ => rfl⟩, ⟨enters56, ok56, fun _ => rfl⟩, trivial⟩ trivial trivial
noncomputable def s17 : FSpec := ⟨[.imm false (.int .i64), .imm true (.pair (.slice 24 (.slice 3 (.int .i64))) (.pair (.slice 3 (.int .i64)) .unit))], [.imm false .str, .imm false .bool], fun x => S_spec_CheckText x.1 x.2.1, true⟩
theorem ok17 : FOk Tryd.prog fa 17 s17 := fn_says env17 Tryd.func17 rfl fun x y h => ⟨0, (r17 0 x.1 x.2.1).trans h⟩
theorem enters17 : Enters Tryd.prog 17 := enters Tryd.func17 (by kernel_rfl) rfl

/-! ## loop.example/g00698/impl.IsGroup -/
noncomputable def E68 : Env := { tab := tab, sig := [], clos := [], live := [], eqs := [], inl := [] }
set_option maxRecDepth 100000 in
theorem r68 (N : Nat) (a0 : Int) : runF N E68 Tryd.f68 [.imm false (.int .i64)] [.imm false .bool] (a0, ()) = p_impl_IsGroup N a0 := by kernel_rfl
theorem env68 : EnvOk Tryd.prog (fa.at true) E68 := envOk mixed tabOk trivial trivial trivial
noncomputable def s68 : FSpec := ⟨[.imm false (.int .i64)], [.imm false .bool], fun x => S_impl_IsGroup x.1, true⟩
theorem ok68 : FOk Tryd.prog fa 68 s68 := fn_says env68 Tryd.func68 rfl fun x y h => ⟨0, (r68 0 x.1).trans h⟩
theorem enters68 : Enters Tryd.prog 68 := enters Tryd.func68 (by kernel_rfl) rfl

/-! ## loop.example/g00698/impl.within -/
noncomputable def E85 : Env := { tab := tab, sig := [], clos := [], live := [], eqs := [], inl := [] }
set_option maxRecDepth 100000 in
theorem r85 (N : Nat) (a0 : Int) (a1 : Int) (a2 : Int) : runF N E85 Tryd.f85 [.imm false (.int .i64), .imm false (.int .i64), .imm false (.int .i64)] [.imm false .bool] (a0, a1, a2, ()) = p_impl_within N a0 a1 a2 := by kernel_rfl
theorem env85 : EnvOk Tryd.prog (fa.at true) E85 := envOk mixed tabOk trivial trivial trivial
noncomputable def s85 : FSpec := ⟨[.imm false (.int .i64), .imm false (.int .i64), .imm false (.int .i64)], [.imm false .bool], fun x => S_impl_within x.1 x.2.1 x.2.2.1, true⟩
theorem ok85 : FOk Tryd.prog fa 85 s85 := fn_says env85 Tryd.func85 rfl fun x y h => ⟨0, (r85 0 x.1 x.2.1 x.2.2.1).trans h⟩
theorem enters85 : Enters Tryd.prog 85 := enters Tryd.func85 (by kernel_rfl) rfl

/-! ## loop.example/g00698/impl.isInstance -/
noncomputable def E117 : Env := { tab := tab, sig := [(68, s68), (85, s85)], clos := [], live := [], eqs := [], inl := [] }
set_option maxRecDepth 100000 in
theorem r117 (N : Nat) (a0 : Int) (a1 : Int) (a2 : Int) : runF N E117 Tryd.f117 [.imm false (.int .i64), .imm false (.int .i64), .imm false (.int .i64)] [.imm false .bool] (a0, a1, a2, ()) = p_impl_isInstance N a0 a1 a2 := by kernel_rfl
theorem env117 : EnvOk Tryd.prog (fa.at true) E117 := envOk mixed tabOk ⟨⟨enters68, ok68, fun _ => rfl⟩, ⟨enters85, ok85, fun _ => rfl⟩, trivial⟩ trivial trivial
noncomputable def s117 : FSpec := ⟨[.imm false (.int .i64), .imm false (.int .i64), .imm false (.int .i64)], [.imm false .bool], fun x => S_impl_isInstance x.1 x.2.1 x.2.2.1, true⟩
theorem ok117 : FOk Tryd.prog fa 117 s117 := fn_says env117 Tryd.func117 rfl fun x y h => ⟨0, (r117 0 x.1 x.2.1 x.2.2.1).trans h⟩
theorem enters117 : Enters Tryd.prog 117 := enters Tryd.func117 (by kernel_rfl) rfl

/-! ## cmp.isNaN[int] -/
noncomputable def E170 : Env := { tab := tab, sig := [], clos := [], live := [], eqs := [], inl := [] }
set_option maxRecDepth 100000 in
theorem r170 (N : Nat) (a0 : Int) : runF N E170 Tryd.f170 [.imm false (.int .i64)] [.imm false .bool] (a0, ()) = p_cmp_isNaN_int N a0 := by kernel_rfl
theorem env170 : EnvOk Tryd.prog (fa.at true) E170 := envOk mixed tabOk trivial trivial trivial
noncomputable def s170 : FSpec := ⟨[.imm false (.int .i64)], [.imm false .bool], fun x => S_cmp_isNaN_int x.1, true⟩
theorem ok170 : FOk Tryd.prog fa 170 s170 := fn_says env170 Tryd.func170 rfl fun x y h => ⟨0, (r170 0 x.1).trans h⟩
theorem enters170 : Enters Tryd.prog 170 := enters Tryd.func170 (by kernel_rfl) rfl

/-! ## cmp.Compare[int] -/
noncomputable def E149 : Env := { tab := tab, sig := [(170, s170)], clos := [], live := [], eqs := [], inl := [] }
set_option maxRecDepth 100000 in
theorem r149 (N : Nat) (a0 : Int) (a1 : Int) : runF N E149 Tryd.f149 [.imm false (.int .i64), .imm false (.int .i64)] [.imm false (.int .i64)] (a0, a1, ()) = p_cmp_Compare_int N a0 a1 := by kernel_rfl
theorem env149 : EnvOk Tryd.prog (fa.at true) E149 := envOk mixed tabOk ⟨⟨enters170, ok170, fun _ => rfl⟩, trivial⟩ trivial trivial
noncomputable def s149 : FSpec := ⟨[.imm false (.int .i64), .imm false (.int .i64)], [.imm false (.int .i64)], fun x => S_cmp_Compare_int x.1 x.2.1, true⟩
theorem ok149 : FOk Tryd.prog fa 149 s149 := fn_says env149 Tryd.func149 rfl fun x y h => ⟨0, (r149 0 x.1 x.2.1).trans h⟩
theorem enters149 : Enters Tryd.prog 149 := enters Tryd.func149 (by kernel_rfl) rfl

/-! ## slices.Compare[[]int,int] -/
noncomputable def E118 : Env := { tab := tab, sig := [(149, s149)], clos := [], live := [(0, [0, 1, 9, 10, 11], [])], eqs := [], inl := [] }
set_option maxRecDepth 100000 in
theorem r118 (N : Nat) (a0 : List Int) (a1 : List Int) : runF N E118 Tryd.f118 [.imm false (.slice 3 (.int .i64)), .imm false (.slice 3 (.int .i64))] [.imm false (.int .i64)] (a0, a1, ()) = p_Compare_Lint_int N a0 a1 := by kernel_rfl
theorem env118 : EnvOk Tryd.prog (fa.at true) E118 := envOk mixed tabOk ⟨⟨enters149, ok149, fun _ => rfl⟩, trivial⟩ trivial trivial
noncomputable def s118 : FSpec := ⟨[.imm false (.slice 3 (.int .i64)), .imm false (.slice 3 (.int .i64))], [.imm false (.int .i64)], fun x => S_Compare_Lint_int x.1 x.2.1, true⟩
theorem ok118 : FOk Tryd.prog fa 118 s118 := fn_says env118 Tryd.func118 rfl fun x y h => let ⟨N, hN⟩ := lim_some h; ⟨N, (r118 N x.1 x.2.1).trans hN⟩
theorem enters118 : Enters Tryd.prog 118 := enters Tryd.func118 (by kernel_rfl) rfl

/-! ## loop.example/g00698/impl.riseInstances -/
noncomputable def E94 : Env := { tab := tab, sig := [(117, s117), (118, s118)], clos := [], live := [(0, [0, 1, 7, 8, 9, 18, 19, 20, 21, 22, 23, 24, 25, 26, 29, 30, 31, 32, 33, 34, 35, 36, 37, 38, 39, 40], [])], eqs := [], inl := [] }
set_option maxRecDepth 100000 in
theorem r94 (N : Nat) (a0 : Int) (a1 : List (List Int)) : runF N E94 Tryd.f94 [.imm false (.int .i64), .imm false (.slice 24 (.slice 3 (.int .i64)))] [.imm false .bool] (a0, a1, ()) = p_impl_riseInstances N a0 a1 := by kernel_rfl
theorem env94 : EnvOk Tryd.prog (fa.at true) E94 := envOk mixed tabOk ⟨⟨enters117, ok117, fun _ => rfl⟩, ⟨enters118, ok118, fun _ => rfl⟩, trivial⟩ trivial trivial
noncomputable def s94 : FSpec := ⟨[.imm false (.int .i64), .imm false (.slice 24 (.slice 3 (.int .i64)))], [.imm false .bool], fun x => S_impl_riseInstances x.1 x.2.1, true⟩
theorem ok94 : FOk Tryd.prog fa 94 s94 := fn_says env94 Tryd.func94 rfl fun x y h => let ⟨N, hN⟩ := lim_some h; ⟨N, (r94 N x.1 x.2.1).trans hN⟩
theorem enters94 : Enters Tryd.prog 94 := enters Tryd.func94 (by kernel_rfl) rfl

/-! ## slices.IndexFunc[[]int,int] -/
noncomputable def E150 : Env := { tab := tab, sig := [], clos := [], live := [(0, [0, 1, 7, 8], [])], eqs := [], inl := [] }
set_option maxRecDepth 100000 in
theorem r150 (N : Nat) (a0 : List Int) (a1 : (Int × Unit) → Option Bool) : runF N E150 Tryd.f150 [.imm false (.slice 3 (.int .i64)), .clo [(false, (.int .i64))] .bool] [.imm false (.int .i64)] (a0, a1, ()) = p_IndexFunc_Lint_int N a0 a1 := by kernel_rfl
theorem env150 : EnvOk Tryd.prog (fa.at true) E150 := envOk mixed tabOk trivial trivial trivial
noncomputable def s150 : FSpec := ⟨[.imm false (.slice 3 (.int .i64)), .clo [(false, (.int .i64))] .bool], [.imm false (.int .i64)], fun x => S_IndexFunc_Lint_int x.1 x.2.1, true⟩
theorem ok150 : FOk Tryd.prog fa 150 s150 := fn_says env150 Tryd.func150 rfl fun x y h => let ⟨N, hN⟩ := lim_some h; ⟨N, (r150 N x.1 x.2.1).trans hN⟩
theorem enters150 : Enters Tryd.prog 150 := enters Tryd.func150 (by kernel_rfl) rfl

/-! ## slices.ContainsFunc[[]int,int] -/
noncomputable def E119 : Env := { tab := tab, sig := [(150, s150)], clos := [], live := [], eqs := [], inl := [] }
set_option maxRecDepth 100000 in
theorem r119 (N : Nat) (a0 : List Int) (a1 : (Int × Unit) → Option Bool) : runF N E119 Tryd.f119 [.imm false (.slice 3 (.int .i64)), .clo [(false, (.int .i64))] .bool] [.imm false .bool] (a0, a1, ()) = p_ContainsFunc_Lint_int N a0 a1 := by kernel_rfl
theorem env119 : EnvOk Tryd.prog (fa.at true) E119 := envOk mixed tabOk ⟨⟨enters150, ok150, fun _ => rfl⟩, trivial⟩ trivial trivial
noncomputable def s119 : FSpec := ⟨[.imm false (.slice 3 (.int .i64)), .clo [(false, (.int .i64))] .bool], [.imm false .bool], fun x => S_ContainsFunc_Lint_int x.1 x.2.1, true⟩
theorem ok119 : FOk Tryd.prog fa 119 s119 := fn_says env119 Tryd.func119 rfl fun x y h => ⟨0, (r119 0 x.1 x.2.1).trans h⟩
theorem enters119 : Enters Tryd.prog 119 := enters Tryd.func119 (by kernel_rfl) rfl

/-! ## loop.example/g00698/impl.total -/
noncomputable def E121 : Env := { tab := tab, sig := [], clos := [], live := [(0, [3, 6, 7, 8], [])], eqs := [], inl := [] }
set_option maxRecDepth 100000 in
theorem r121 (N : Nat) (a0 : List Int) : runF N E121 Tryd.f121 [.imm false (.slice 3 (.int .i64))] [.imm false (.int .i64)] (a0, ()) = p_impl_total N a0 := by kernel_rfl
theorem env121 : EnvOk Tryd.prog (fa.at true) E121 := envOk mixed tabOk trivial trivial trivial
noncomputable def s121 : FSpec := ⟨[.imm false (.slice 3 (.int .i64))], [.imm false (.int .i64)], fun x => S_impl_total x.1, true⟩
theorem ok121 : FOk Tryd.prog fa 121 s121 := fn_says env121 Tryd.func121 rfl fun x y h => let ⟨N, hN⟩ := lim_some h; ⟨N, (r121 N x.1).trans hN⟩
theorem enters121 : Enters Tryd.prog 121 := enters Tryd.func121 (by kernel_rfl) rfl

/-! ## loop.example/g00698/impl.GoodSums -/
theorem enters120 : Enters Tryd.prog 120 := enters Tryd.func120 (by kernel_rfl) rfl
noncomputable def E95 : Env := { tab := tab, sig := [(119, s119), (85, s85), (121, s121)], clos := [(120, ⟨Tryd.f120, [(false, (.int .i64))], []⟩)], live := [], eqs := [], inl := [] }
set_option maxRecDepth 100000 in
theorem r95 (N : Nat) (a0 : List Int) : runF N E95 Tryd.f95 [.imm false (.slice 3 (.int .i64))] [.imm false .bool] (a0, ()) = p_impl_GoodSums N a0 := by kernel_rfl
theorem env95 : EnvOk Tryd.prog (fa.at true) E95 := envOk mixed tabOk ⟨⟨enters119, ok119, fun _ => rfl⟩, ⟨enters85, ok85, fun _ => rfl⟩, ⟨enters121, ok121, fun _ => rfl⟩, trivial⟩ ⟨⟨Tryd.func120, enters120⟩, trivial⟩ trivial
noncomputable def s95 : FSpec := ⟨[.imm false (.slice 3 (.int .i64))], [.imm false .bool], fun x => S_impl_GoodSums x.1, true⟩
theorem ok95 : FOk Tryd.prog fa 95 s95 := fn_says env95 Tryd.func95 rfl fun x y h => ⟨0, (r95 0 x.1).trans h⟩
theorem enters95 : Enters Tryd.prog 95 := enters Tryd.func95 (by kernel_rfl) rfl

/-! ## loop.example/g00698/impl.GoodCheck -/
noncomputable def E59 : Env := { tab := tab, sig := [(68, s68), (94, s94), (95, s95)], clos := [], live := [], eqs := [], inl := [] }
set_option maxRecDepth 100000 in
theorem r59 (N : Nat) (a0 : Int) (a1 : T1) : runF N E59 Tryd.f59 [.imm false (.int .i64), .imm true (.pair (.slice 24 (.slice 3 (.int .i64))) (.pair (.slice 3 (.int .i64)) .unit))] [.imm false .bool] (a0, a1, ()) = p_impl_GoodCheck N a0 a1 := by kernel_rfl
theorem env59 : EnvOk Tryd.prog (fa.at true) E59 := envOk mixed tabOk ⟨⟨enters68, ok68, fun _ => rfl⟩, ⟨enters94, ok94, fun _ => rfl⟩, ⟨enters95, ok95, fun _ => rfl⟩, trivial⟩ trivial trivial
noncomputable def s59 : FSpec := ⟨[.imm false (.int .i64), .imm true (.pair (.slice 24 (.slice 3 (.int .i64))) (.pair (.slice 3 (.int .i64)) .unit))], [.imm false .bool], fun x => S_impl_GoodCheck x.1 x.2.1, true⟩
theorem ok59 : FOk Tryd.prog fa 59 s59 := fn_says env59 Tryd.func59 rfl fun x y h => ⟨0, (r59 0 x.1 x.2.1).trans h⟩
theorem enters59 : Enters Tryd.prog 59 := enters Tryd.func59 (by kernel_rfl) rfl

/-! ## strconv.Itoa -/
def Lay49_ren : Go.Shelf.Ren := ⟨fun | 171 => 49 | 243 => 87 | 246 => 113 | 283 => 143 | 284 => 144 | 285 => 145 | 286 => 146 | 129 => 166 | 317 => 165 | 318 => 167 | 319 => 168 | 320 => 169 | 337 => 176 | 338 => 177 | n => n, fun | 3 => 3 | 9 => 9 | 2 => 2 | 4 => 4 | 171 => 150 | 0 => 0 | 53 => 151 | 37 => 111 | 5 => 5 | 173 => 154 | 212 => 170 | 51 => 171 | 20 => 20 | 213 => 172 | 46 => 166 | 232 => 181 | 233 => 182 | n => n, fun | 17 => 1 | 18 => 4 | 19 => 5 | n => n⟩
theorem Lay49 : Go.Proofs.LaysM.n171 Tryd.prog Lay49_ren := {
  mixed := by kernel_rfl
  f129 := Tryd.func166.trans (congrArg some (by kernel_rfl))
  f171 := Tryd.func49.trans (congrArg some (by kernel_rfl))
  f243 := Tryd.func87.trans (congrArg some (by kernel_rfl))
  f246 := Tryd.func113.trans (congrArg some (by kernel_rfl))
  f283 := Tryd.func143.trans (congrArg some (by kernel_rfl))
  f284 := Tryd.func144.trans (congrArg some (by kernel_rfl))
  f285 := Tryd.func145.trans (congrArg some (by kernel_rfl))
  f286 := Tryd.func146.trans (congrArg some (by kernel_rfl))
  f317 := Tryd.func165.trans (congrArg some (by kernel_rfl))
  f318 := Tryd.func167.trans (congrArg some (by kernel_rfl))
  f319 := Tryd.func168.trans (congrArg some (by kernel_rfl))
  f320 := Tryd.func169.trans (congrArg some (by kernel_rfl))
  f337 := Tryd.func176.trans (congrArg some (by kernel_rfl))
  f338 := Tryd.func177.trans (congrArg some (by kernel_rfl))
  t0 := Tryd.underlying0
  a0 := Tryd.isAgg0
  z0 := Tryd.sizeOf0
  v0 := Tryd.zeroValue0
  t2 := Tryd.underlying2
  a2 := Tryd.isAgg2
  z2 := Tryd.sizeOf2
  v2 := Tryd.zeroValue2
  t3 := Tryd.underlying3
  a3 := Tryd.isAgg3
  z3 := Tryd.sizeOf3
  v3 := Tryd.zeroValue3
  t4 := Tryd.underlying4
  a4 := Tryd.isAgg4
  z4 := Tryd.sizeOf4
  v4 := Tryd.zeroValue4
  t5 := Tryd.underlying5
  a5 := Tryd.isAgg5
  z5 := Tryd.sizeOf5
  v5 := Tryd.zeroValue5
  t9 := Tryd.underlying9
  a9 := Tryd.isAgg9
  z9 := Tryd.sizeOf9
  v9 := Tryd.zeroValue9
  t20 := Tryd.underlying20
  a20 := Tryd.isAgg20
  z20 := Tryd.sizeOf20
  v20 := Tryd.zeroValue20
  t37 := Tryd.underlying111
  a37 := Tryd.isAgg111
  z37 := Tryd.sizeOf111
  v37 := Tryd.zeroValue111
  t46 := Tryd.underlying166
  a46 := Tryd.isAgg166
  z46 := Tryd.sizeOf166
  v46 := Tryd.zeroValue166
  t51 := Tryd.underlying171
  a51 := Tryd.isAgg171
  z51 := Tryd.sizeOf171
  v51 := Tryd.zeroValue171
  t53 := Tryd.underlying151
  a53 := Tryd.isAgg151
  z53 := Tryd.sizeOf151
  v53 := Tryd.zeroValue151
  t171 := Tryd.underlying150
  a171 := Tryd.isAgg150
  z171 := Tryd.sizeOf150
  v171 := Tryd.zeroValue150
  t173 := Tryd.underlying154
  a173 := Tryd.isAgg154
  z173 := Tryd.sizeOf154
  v173 := Tryd.zeroValue154
  t212 := Tryd.underlying170
  a212 := Tryd.isAgg170
  z212 := Tryd.sizeOf170
  v212 := Tryd.zeroValue170
  t213 := Tryd.underlying172
  a213 := Tryd.isAgg172
  z213 := Tryd.sizeOf172
  t232 := Tryd.underlying181
  a232 := Tryd.isAgg181
  z232 := Tryd.sizeOf181
  v232 := Tryd.zeroValue181
  t233 := Tryd.underlying182
  a233 := Tryd.isAgg182
  z233 := Tryd.sizeOf182
  v233 := Tryd.zeroValue182
  g17 := by kernel_rfl
  g18 := by kernel_rfl
  g19 := by kernel_rfl
  i0 := by kernel_rfl
  i2 := by kernel_rfl
  i3 := by kernel_rfl
  i4 := by kernel_rfl
  i5 := by kernel_rfl
  i9 := by kernel_rfl
  i20 := by kernel_rfl
  i37 := by kernel_rfl
  i46 := by kernel_rfl
  i51 := by kernel_rfl
  i53 := by kernel_rfl
  i171 := by kernel_rfl
  i173 := by kernel_rfl
  i212 := by kernel_rfl
  i232 := by kernel_rfl
  i233 := by kernel_rfl
  m17 := by kernel_rfl
  m18 := by kernel_rfl
  m19 := by kernel_rfl }

noncomputable def s49 : FSpec := ⟨[.imm false (.int .i64)], [.imm false .str], fun x => S_strconv_Itoa x.1, true⟩
theorem ok49 : FOk Tryd.prog fa 49 s49 := ok_Itoa Lay49 (fun W h => h.2) (g := 1) (by kernel_rfl) (by decide)
theorem enters49 : Enters Tryd.prog 49 := enters Tryd.func49 (by kernel_rfl) rfl

/-! ## strings.Join -/
def Lay50_ren : Go.Shelf.Ren := ⟨fun | 156 => 50 | 165 => 88 | 166 => 89 | 169 => 90 | 240 => 114 | 241 => 115 | 276 => 147 | 277 => 148 | n => n, fun | 31 => 80 | 9 => 9 | 3 => 3 | 4 => 4 | 0 => 0 | 20 => 20 | 72 => 113 | 76 => 117 | 70 => 110 | 37 => 111 | 75 => 116 | 127 => 136 | 164 => 156 | 5 => 5 | 80 => 119 | n => n, fun | n => n⟩
theorem Lay50 : Go.Proofs.Lays.n156 Tryd.prog Lay50_ren := {
  mixed := by kernel_rfl
  f156 := Tryd.func50.trans (congrArg some (by kernel_rfl))
  f165 := Tryd.func88.trans (congrArg some (by kernel_rfl))
  f166 := Tryd.func89.trans (congrArg some (by kernel_rfl))
  f169 := Tryd.func90.trans (congrArg some (by kernel_rfl))
  f240 := Tryd.func114.trans (congrArg some (by kernel_rfl))
  f241 := Tryd.func115.trans (congrArg some (by kernel_rfl))
  f276 := Tryd.func147.trans (congrArg some (by kernel_rfl))
  f277 := Tryd.func148.trans (congrArg some (by kernel_rfl))
  t0 := Tryd.underlying0
  a0 := Tryd.isAgg0
  z0 := Tryd.sizeOf0
  v0 := Tryd.zeroValue0
  t3 := Tryd.underlying3
  a3 := Tryd.isAgg3
  z3 := Tryd.sizeOf3
  v3 := Tryd.zeroValue3
  t4 := Tryd.underlying4
  a4 := Tryd.isAgg4
  z4 := Tryd.sizeOf4
  v4 := Tryd.zeroValue4
  t9 := Tryd.underlying9
  a9 := Tryd.isAgg9
  z9 := Tryd.sizeOf9
  v9 := Tryd.zeroValue9
  t20 := Tryd.underlying20
  a20 := Tryd.isAgg20
  z20 := Tryd.sizeOf20
  v20 := Tryd.zeroValue20
  t31 := Tryd.underlying80
  a31 := Tryd.isAgg80
  z31 := Tryd.sizeOf80
  v31 := Tryd.zeroValue80
  t37 := Tryd.underlying111
  a37 := Tryd.isAgg111
  z37 := Tryd.sizeOf111
  v37 := Tryd.zeroValue111
  t70 := Tryd.underlying110
  a70 := Tryd.isAgg110
  z70 := Tryd.sizeOf110
  v70 := Tryd.zeroValue110
  t72 := Tryd.underlying113
  a72 := Tryd.isAgg113
  z72 := Tryd.sizeOf113
  v72 := Tryd.zeroValue113
  t75 := Tryd.underlying116
  a75 := Tryd.isAgg116
  z75 := Tryd.sizeOf116
  v75 := Tryd.zeroValue116
  t76 := Tryd.underlying117
  a76 := Tryd.isAgg117
  z76 := Tryd.sizeOf117
  v76 := Tryd.zeroValue117
  t127 := Tryd.underlying136
  a127 := Tryd.isAgg136
  z127 := Tryd.sizeOf136
  v127 := Tryd.zeroValue136
  t164 := Tryd.underlying156
  a164 := Tryd.isAgg156
  z164 := Tryd.sizeOf156
  v164 := Tryd.zeroValue156 }

theorem LayX50 : Builder.Extra Tryd.prog Lay50_ren where
  sizeBuilder := by kernel_rfl
  liesBuilder := by kernel_rfl
  t5 := Tryd.underlying5
  a5 := Tryd.isAgg5
  z5 := Tryd.sizeOf5
  v5 := Tryd.zeroValue5
  infoByte := by kernel_rfl
  cellsByte := by kernel_rfl
  sizeByte := by kernel_rfl
  neB5 := by decide
noncomputable def s50 : FSpec := ⟨[.imm false (.slice 9 .str), .imm false .str], [.imm false .str], fun x => S_strings_Join x.1 x.2.1, false⟩
theorem ok50 : FOk Tryd.prog fa 50 s50 := ok_Join Lay50 LayX50
theorem enters50 : Enters Tryd.prog 50 := enters Tryd.func50 (by kernel_rfl) rfl

/-! ## loop.example/g00698/impl.joined -/
noncomputable def E96 : Env := { tab := tab, sig := [(49, s49), (50, s50)], clos := [], live := [(0, [0, 5, 9, 10, 11], [])], eqs := [], inl := [], q := false }
set_option maxRecDepth 100000 in
theorem r96 (N : Nat) (a0 : ByteArray) (a1 : List Int) : runF N E96 Tryd.f96 [.imm false .str, .imm false (.slice 3 (.int .i64))] [.imm false .str] (a0, a1, ()) = p_impl_joined N a0 a1 := by kernel_rfl
theorem env96 : EnvOk Tryd.prog (fa.at false) E96 := envOk mixed tabOk ⟨⟨enters49, ok49, fun _ => rfl⟩, ⟨enters50, ok50, fun h => h⟩, trivial⟩ trivial trivial
noncomputable def s96 : FSpec := ⟨[.imm false .str, .imm false (.slice 3 (.int .i64))], [.imm false .str], fun x => S_impl_joined x.1 x.2.1, false⟩
theorem ok96 : FOk Tryd.prog fa 96 s96 := fn_says env96 Tryd.func96 rfl fun x y h => let ⟨N, hN⟩ := lim_some h; ⟨N, (r96 N x.1 x.2.1).trans hN⟩
theorem enters96 : Enters Tryd.prog 96 := enters Tryd.func96 (by kernel_rfl) rfl

/-! ## loop.example/g00698/impl.checkText -/
noncomputable def E60 : Env := { tab := tab, sig := [(49, s49), (50, s50), (96, s96)], clos := [], live := [(0, [1, 3, 8, 9, 10], [])], eqs := [], inl := [], q := false }
set_option maxRecDepth 100000 in
theorem r60 (N : Nat) (a0 : T1) : runF N E60 Tryd.f60 [.imm true (.pair (.slice 24 (.slice 3 (.int .i64))) (.pair (.slice 3 (.int .i64)) .unit))] [.imm false .str] (a0, ()) = p_impl_checkText N a0 := by kernel_rfl
theorem env60 : EnvOk Tryd.prog (fa.at false) E60 := envOk mixed tabOk ⟨⟨enters49, ok49, fun _ => rfl⟩, ⟨enters50, ok50, fun h => h⟩, ⟨enters96, ok96, fun h => h⟩, trivial⟩ trivial trivial
noncomputable def s60 : FSpec := ⟨[.imm true (.pair (.slice 24 (.slice 3 (.int .i64))) (.pair (.slice 3 (.int .i64)) .unit))], [.imm false .str], fun x => S_impl_checkText x.1, false⟩
theorem ok60 : FOk Tryd.prog fa 60 s60 := fn_says env60 Tryd.func60 rfl fun x y h => let ⟨N, hN⟩ := lim_some h; ⟨N, (r60 N x.1).trans hN⟩
theorem enters60 : Enters Tryd.prog 60 := enters Tryd.func60 (by kernel_rfl) rfl

/-! ## loop.example/g00698/impl.CheckText -/
noncomputable def E19 : Env := { tab := tab, sig := [(59, s59), (60, s60)], clos := [], live := [], eqs := [], inl := [], q := false }
set_option maxRecDepth 100000 in
theorem r19 (N : Nat) (a0 : Int) (a1 : T1) : runF N E19 Tryd.f19 [.imm false (.int .i64), .imm true (.pair (.slice 24 (.slice 3 (.int .i64))) (.pair (.slice 3 (.int .i64)) .unit))] [.imm false .str, .imm false .bool] (a0, a1, ()) = p_impl_CheckText N a0 a1 := by kernel_rfl
theorem env19 : EnvOk Tryd.prog (fa.at false) E19 := envOk mixed tabOk ⟨⟨enters59, ok59, fun _ => rfl⟩, ⟨enters60, ok60, fun h => h⟩, trivial⟩ trivial trivial
noncomputable def s19 : FSpec := ⟨[.imm false (.int .i64), .imm true (.pair (.slice 24 (.slice 3 (.int .i64))) (.pair (.slice 3 (.int .i64)) .unit))], [.imm false .str, .imm false .bool], fun x => S_impl_CheckText x.1 x.2.1, false⟩
theorem ok19 : FOk Tryd.prog fa 19 s19 := fn_says env19 Tryd.func19 rfl fun x y h => ⟨0, (r19 0 x.1 x.2.1).trans h⟩
theorem enters19 : Enters Tryd.prog 19 := enters Tryd.func19 (by kernel_rfl) rfl

/-! ## loop.example/g00698/laws.eqIntS -/
noncomputable def E62 : Env := { tab := tab, sig := [], clos := [], live := [(0, [0, 1, 5], [])], eqs := [], inl := [] }
set_option maxRecDepth 100000 in
theorem r62 (N : Nat) (a0 : List Int) (a1 : List Int) : runF N E62 Tryd.f62 [.imm false (.slice 3 (.int .i64)), .imm false (.slice 3 (.int .i64))] [.imm false .bool] (a0, a1, ()) = p_laws_eqIntS N a0 a1 := by kernel_rfl
theorem env62 : EnvOk Tryd.prog (fa.at true) E62 := envOk mixed tabOk trivial trivial trivial
noncomputable def s62 : FSpec := ⟨[.imm false (.slice 3 (.int .i64)), .imm false (.slice 3 (.int .i64))], [.imm false .bool], fun x => S_laws_eqIntS x.1 x.2.1, true⟩
theorem ok62 : FOk Tryd.prog fa 62 s62 := fn_says env62 Tryd.func62 rfl fun x y h => let ⟨N, hN⟩ := lim_some h; ⟨N, (r62 N x.1 x.2.1).trans hN⟩
theorem enters62 : Enters Tryd.prog 62 := enters Tryd.func62 (by kernel_rfl) rfl

/-! ## loop.example/g00698/laws.eqIntSS -/
noncomputable def E61 : Env := { tab := tab, sig := [(62, s62)], clos := [], live := [(0, [0, 1, 5], [])], eqs := [], inl := [] }
set_option maxRecDepth 100000 in
theorem r61 (N : Nat) (a0 : List (List Int)) (a1 : List (List Int)) : runF N E61 Tryd.f61 [.imm false (.slice 24 (.slice 3 (.int .i64))), .imm false (.slice 24 (.slice 3 (.int .i64)))] [.imm false .bool] (a0, a1, ()) = p_laws_eqIntSS N a0 a1 := by kernel_rfl
theorem env61 : EnvOk Tryd.prog (fa.at true) E61 := envOk mixed tabOk ⟨⟨enters62, ok62, fun _ => rfl⟩, trivial⟩ trivial trivial
noncomputable def s61 : FSpec := ⟨[.imm false (.slice 24 (.slice 3 (.int .i64))), .imm false (.slice 24 (.slice 3 (.int .i64)))], [.imm false .bool], fun x => S_laws_eqIntSS x.1 x.2.1, true⟩
theorem ok61 : FOk Tryd.prog fa 61 s61 := fn_says env61 Tryd.func61 rfl fun x y h => let ⟨N, hN⟩ := lim_some h; ⟨N, (r61 N x.1 x.2.1).trans hN⟩
theorem enters61 : Enters Tryd.prog 61 := enters Tryd.func61 (by kernel_rfl) rfl

/-! ## loop.example/g00698/laws.eqCheck -/
noncomputable def E20 : Env := { tab := tab, sig := [(61, s61), (62, s62)], clos := [], live := [], eqs := [], inl := [] }
set_option maxRecDepth 100000 in
theorem r20 (N : Nat) (a0 : T1) (a1 : T1) : runF N E20 Tryd.f20 [.imm true (.pair (.slice 24 (.slice 3 (.int .i64))) (.pair (.slice 3 (.int .i64)) .unit)), .imm true (.pair (.slice 24 (.slice 3 (.int .i64))) (.pair (.slice 3 (.int .i64)) .unit))] [.imm false .bool] (a0, a1, ()) = p_laws_eqCheck N a0 a1 := by kernel_rfl
theorem env20 : EnvOk Tryd.prog (fa.at true) E20 := envOk mixed tabOk ⟨⟨enters61, ok61, fun _ => rfl⟩, ⟨enters62, ok62, fun _ => rfl⟩, trivial⟩ trivial trivial
noncomputable def s20 : FSpec := ⟨[.imm true (.pair (.slice 24 (.slice 3 (.int .i64))) (.pair (.slice 3 (.int .i64)) .unit)), .imm true (.pair (.slice 24 (.slice 3 (.int .i64))) (.pair (.slice 3 (.int .i64)) .unit))], [.imm false .bool], fun x => S_laws_eqCheck x.1 x.2.1, true⟩
theorem ok20 : FOk Tryd.prog fa 20 s20 := fn_says env20 Tryd.func20 rfl fun x y h => ⟨0, (r20 0 x.1 x.2.1).trans h⟩
theorem enters20 : Enters Tryd.prog 20 := enters Tryd.func20 (by kernel_rfl) rfl

/-! ## loop.example/g00698/laws.FnExactCheckText -/
noncomputable def E4 : Env := { tab := tab, sig := [(16, s16), (18, s18), (17, s17), (19, s19), (20, s20)], clos := [], live := [], eqs := [], inl := [], q := false }
set_option maxRecDepth 100000 in
theorem r4 (N : Nat) (a0 : Int) (a1 : T1) : runF N E4 Tryd.f4 [.imm false (.int .i64), .imm true (.pair (.slice 24 (.slice 3 (.int .i64))) (.pair (.slice 3 (.int .i64)) .unit))] [.imm false .bool] (a0, a1, ()) = p_laws_FnExactCheckText N a0 a1 := by kernel_rfl
theorem env4 : EnvOk Tryd.prog (fa.at false) E4 := envOk mixed tabOk ⟨⟨enters16, ok16, fun _ => rfl⟩, ⟨enters18, ok18, fun _ => rfl⟩, ⟨enters17, ok17, fun _ => rfl⟩, ⟨enters19, ok19, fun h => h⟩, ⟨enters20, ok20, fun _ => rfl⟩, trivial⟩ trivial trivial

end Go.Proofs.YtmnekhlgldljcaaDoor.Am
