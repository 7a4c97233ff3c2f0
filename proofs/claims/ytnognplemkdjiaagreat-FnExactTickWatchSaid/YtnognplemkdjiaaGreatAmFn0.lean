/- Functions, as they run on data. No condition. -/
import Derived.Test.YtnognplemkdjiaaGreatAmTab
import Derived.Test.YtnognplemkdjiaaGreatAmQ
set_option linter.unusedVariables false
set_option maxRecDepth 100000
namespace Go.Proofs.YtnognplemkdjiaaGreat.Am
open Go.AM Go.AM.P Go.Proofs
/-! ## loop.example/g00698/laws.szIntS -/
noncomputable def E46 : Env := { tab := tab, sig := [], clos := [], live := [], eqs := [], inl := [] }
set_option maxRecDepth 100000 in
theorem r46 (N : Nat) (a0 : List Int) (a1 : Int) : runF N E46 Tryz.f46 [.imm false (.slice 3 (.int .i64)), .imm false (.int .i64)] [.imm false (.int .i64)] (a0, a1, ()) = p_laws_szIntS N a0 a1 := by kernel_rfl
theorem env46 : EnvOk Tryz.prog E46 := envOk mixed tabOk trivial trivial trivial
noncomputable def s46 : FSpec := ⟨[.imm false (.slice 3 (.int .i64)), .imm false (.int .i64)], [.imm false (.int .i64)], fun x => S_laws_szIntS x.1 x.2.1⟩
theorem ok46 : FOk Tryz.prog 46 s46 := fn_says env46 Tryz.func46 rfl fun x y h => ⟨0, (r46 0 x.1 x.2.1).trans h⟩
theorem enters46 : Enters Tryz.prog 46 := enters Tryz.func46 (by kernel_rfl) rfl

/-! ## loop.example/g00698/laws.szIntSS -/
noncomputable def E45 : Env := { tab := tab, sig := [(46, s46)], clos := [], live := [(0, [0, 1, 5], [])], eqs := [], inl := [] }
set_option maxRecDepth 100000 in
theorem r45 (N : Nat) (a0 : List (List Int)) (a1 : Int) : runF N E45 Tryz.f45 [.imm false (.slice 23 (.slice 3 (.int .i64))), .imm false (.int .i64)] [.imm false (.int .i64)] (a0, a1, ()) = p_laws_szIntSS N a0 a1 := by kernel_rfl
theorem env45 : EnvOk Tryz.prog E45 := envOk mixed tabOk ⟨⟨enters46, ok46⟩, trivial⟩ trivial trivial
noncomputable def s45 : FSpec := ⟨[.imm false (.slice 23 (.slice 3 (.int .i64))), .imm false (.int .i64)], [.imm false (.int .i64)], fun x => S_laws_szIntSS x.1 x.2.1⟩
theorem ok45 : FOk Tryz.prog 45 s45 := fn_says env45 Tryz.func45 rfl fun x y h => let ⟨N, hN⟩ := lim_some h; ⟨N, (r45 N x.1 x.2.1).trans hN⟩
theorem enters45 : Enters Tryz.prog 45 := enters Tryz.func45 (by kernel_rfl) rfl

/-! ## loop.example/g00698/laws.szWatch -/
noncomputable def E8 : Env := { tab := tab, sig := [(45, s45), (46, s46)], clos := [], live := [], eqs := [], inl := [] }
set_option maxRecDepth 100000 in
theorem r8 (N : Nat) (a0 : T0) (a1 : Int) : runF N E8 Tryz.f8 [.imm true (.pair (.int .i64) (.pair (.int .i64) (.pair (.slice 23 (.slice 3 (.int .i64))) (.pair (.slice 3 (.int .i64)) .unit)))), .imm false (.int .i64)] [.imm false (.int .i64)] (a0, a1, ()) = p_laws_szWatch N a0 a1 := by kernel_rfl
theorem env8 : EnvOk Tryz.prog E8 := envOk mixed tabOk ⟨⟨enters45, ok45⟩, ⟨enters46, ok46⟩, trivial⟩ trivial trivial
noncomputable def s8 : FSpec := ⟨[.imm true (.pair (.int .i64) (.pair (.int .i64) (.pair (.slice 23 (.slice 3 (.int .i64))) (.pair (.slice 3 (.int .i64)) .unit)))), .imm false (.int .i64)], [.imm false (.int .i64)], fun x => S_laws_szWatch x.1 x.2.1⟩
theorem ok8 : FOk Tryz.prog 8 s8 := fn_says env8 Tryz.func8 rfl fun x y h => ⟨0, (r8 0 x.1 x.2.1).trans h⟩
theorem enters8 : Enters Tryz.prog 8 := enters Tryz.func8 (by kernel_rfl) rfl

/-! ## loop.example/g00698/laws.szAttr -/
noncomputable def E212 : Env := { tab := tab, sig := [(46, s46)], clos := [], live := [], eqs := [], inl := [] }
set_option maxRecDepth 100000 in
theorem r212 (N : Nat) (a0 : T6) (a1 : Int) : runF N E212 Tryz.f212 [.imm true (.pair (.int .i64) (.pair (.slice 3 (.int .i64)) .unit)), .imm false (.int .i64)] [.imm false (.int .i64)] (a0, a1, ()) = p_laws_szAttr N a0 a1 := by kernel_rfl
theorem env212 : EnvOk Tryz.prog E212 := envOk mixed tabOk ⟨⟨enters46, ok46⟩, trivial⟩ trivial trivial
noncomputable def s212 : FSpec := ⟨[.imm true (.pair (.int .i64) (.pair (.slice 3 (.int .i64)) .unit)), .imm false (.int .i64)], [.imm false (.int .i64)], fun x => S_laws_szAttr x.1 x.2.1⟩
theorem ok212 : FOk Tryz.prog 212 s212 := fn_says env212 Tryz.func212 rfl fun x y h => ⟨0, (r212 0 x.1 x.2.1).trans h⟩
theorem enters212 : Enters Tryz.prog 212 := enters Tryz.func212 (by kernel_rfl) rfl

/-! ## loop.example/g00698/laws.szRow -/
noncomputable def E167 : Env := { tab := tab, sig := [(212, s212)], clos := [], live := [], eqs := [], inl := [] }
set_option maxRecDepth 100000 in
theorem r167 (N : Nat) (a0 : T7) (a1 : Int) : runF N E167 Tryz.f167 [.imm true (.pair (.int .i64) (.pair (.int .i64) (.pair (.int .i64) (.pair (.pair (.int .i64) (.pair (.int .i64) (.pair (.int .i64) (.pair (.int .i64) (.pair (.int .i64) .unit))))) (.pair (.pair (.int .i64) (.pair (.slice 3 (.int .i64)) .unit)) .unit))))), .imm false (.int .i64)] [.imm false (.int .i64)] (a0, a1, ()) = p_laws_szRow N a0 a1 := by kernel_rfl
theorem env167 : EnvOk Tryz.prog E167 := envOk mixed tabOk ⟨⟨enters212, ok212⟩, trivial⟩ trivial trivial
noncomputable def s167 : FSpec := ⟨[.imm true (.pair (.int .i64) (.pair (.int .i64) (.pair (.int .i64) (.pair (.pair (.int .i64) (.pair (.int .i64) (.pair (.int .i64) (.pair (.int .i64) (.pair (.int .i64) .unit))))) (.pair (.pair (.int .i64) (.pair (.slice 3 (.int .i64)) .unit)) .unit))))), .imm false (.int .i64)], [.imm false (.int .i64)], fun x => S_laws_szRow x.1 x.2.1⟩
theorem ok167 : FOk Tryz.prog 167 s167 := fn_says env167 Tryz.func167 rfl fun x y h => ⟨0, (r167 0 x.1 x.2.1).trans h⟩
theorem enters167 : Enters Tryz.prog 167 := enters Tryz.func167 (by kernel_rfl) rfl

/-! ## loop.example/g00698/laws.szRowS -/
noncomputable def E99 : Env := { tab := tab, sig := [(167, s167)], clos := [], live := [(0, [0, 1, 5], [])], eqs := [], inl := [] }
set_option maxRecDepth 100000 in
theorem r99 (N : Nat) (a0 : List T7) (a1 : Int) : runF N E99 Tryz.f99 [.imm false (.slice 210 (.pair (.int .i64) (.pair (.int .i64) (.pair (.int .i64) (.pair (.pair (.int .i64) (.pair (.int .i64) (.pair (.int .i64) (.pair (.int .i64) (.pair (.int .i64) .unit))))) (.pair (.pair (.int .i64) (.pair (.slice 3 (.int .i64)) .unit)) .unit)))))), .imm false (.int .i64)] [.imm false (.int .i64)] (a0, a1, ()) = p_laws_szRowS N a0 a1 := by kernel_rfl
theorem env99 : EnvOk Tryz.prog E99 := envOk mixed tabOk ⟨⟨enters167, ok167⟩, trivial⟩ trivial trivial
noncomputable def s99 : FSpec := ⟨[.imm false (.slice 210 (.pair (.int .i64) (.pair (.int .i64) (.pair (.int .i64) (.pair (.pair (.int .i64) (.pair (.int .i64) (.pair (.int .i64) (.pair (.int .i64) (.pair (.int .i64) .unit))))) (.pair (.pair (.int .i64) (.pair (.slice 3 (.int .i64)) .unit)) .unit)))))), .imm false (.int .i64)], [.imm false (.int .i64)], fun x => S_laws_szRowS x.1 x.2.1⟩
theorem ok99 : FOk Tryz.prog 99 s99 := fn_says env99 Tryz.func99 rfl fun x y h => let ⟨N, hN⟩ := lim_some h; ⟨N, (r99 N x.1 x.2.1).trans hN⟩
theorem enters99 : Enters Tryz.prog 99 := enters Tryz.func99 (by kernel_rfl) rfl

/-! ## loop.example/g00698/laws.szRowSS -/
noncomputable def E47 : Env := { tab := tab, sig := [(99, s99)], clos := [], live := [(0, [0, 1, 5], [])], eqs := [], inl := [] }
set_option maxRecDepth 100000 in
theorem r47 (N : Nat) (a0 : List (List T7)) (a1 : Int) : runF N E47 Tryz.f47 [.imm false (.slice 144 (.slice 210 (.pair (.int .i64) (.pair (.int .i64) (.pair (.int .i64) (.pair (.pair (.int .i64) (.pair (.int .i64) (.pair (.int .i64) (.pair (.int .i64) (.pair (.int .i64) .unit))))) (.pair (.pair (.int .i64) (.pair (.slice 3 (.int .i64)) .unit)) .unit))))))), .imm false (.int .i64)] [.imm false (.int .i64)] (a0, a1, ()) = p_laws_szRowSS N a0 a1 := by kernel_rfl
theorem env47 : EnvOk Tryz.prog E47 := envOk mixed tabOk ⟨⟨enters99, ok99⟩, trivial⟩ trivial trivial
noncomputable def s47 : FSpec := ⟨[.imm false (.slice 144 (.slice 210 (.pair (.int .i64) (.pair (.int .i64) (.pair (.int .i64) (.pair (.pair (.int .i64) (.pair (.int .i64) (.pair (.int .i64) (.pair (.int .i64) (.pair (.int .i64) .unit))))) (.pair (.pair (.int .i64) (.pair (.slice 3 (.int .i64)) .unit)) .unit))))))), .imm false (.int .i64)], [.imm false (.int .i64)], fun x => S_laws_szRowSS x.1 x.2.1⟩
theorem ok47 : FOk Tryz.prog 47 s47 := fn_says env47 Tryz.func47 rfl fun x y h => let ⟨N, hN⟩ := lim_some h; ⟨N, (r47 N x.1 x.2.1).trans hN⟩
theorem enters47 : Enters Tryz.prog 47 := enters Tryz.func47 (by kernel_rfl) rfl

/-! ## loop.example/g00698/laws.szTable -/
noncomputable def E9 : Env := { tab := tab, sig := [(47, s47)], clos := [], live := [], eqs := [], inl := [] }
set_option maxRecDepth 100000 in
theorem r9 (N : Nat) (a0 : T8) (a1 : Int) : runF N E9 Tryz.f9 [.imm true (.pair (.int .i64) (.pair (.slice 144 (.slice 210 (.pair (.int .i64) (.pair (.int .i64) (.pair (.int .i64) (.pair (.pair (.int .i64) (.pair (.int .i64) (.pair (.int .i64) (.pair (.int .i64) (.pair (.int .i64) .unit))))) (.pair (.pair (.int .i64) (.pair (.slice 3 (.int .i64)) .unit)) .unit))))))) .unit)), .imm false (.int .i64)] [.imm false (.int .i64)] (a0, a1, ()) = p_laws_szTable N a0 a1 := by kernel_rfl
theorem env9 : EnvOk Tryz.prog E9 := envOk mixed tabOk ⟨⟨enters47, ok47⟩, trivial⟩ trivial trivial
noncomputable def s9 : FSpec := ⟨[.imm true (.pair (.int .i64) (.pair (.slice 144 (.slice 210 (.pair (.int .i64) (.pair (.int .i64) (.pair (.int .i64) (.pair (.pair (.int .i64) (.pair (.int .i64) (.pair (.int .i64) (.pair (.int .i64) (.pair (.int .i64) .unit))))) (.pair (.pair (.int .i64) (.pair (.slice 3 (.int .i64)) .unit)) .unit))))))) .unit)), .imm false (.int .i64)], [.imm false (.int .i64)], fun x => S_laws_szTable x.1 x.2.1⟩
theorem ok9 : FOk Tryz.prog 9 s9 := fn_says env9 Tryz.func9 rfl fun x y h => ⟨0, (r9 0 x.1 x.2.1).trans h⟩
theorem enters9 : Enters Tryz.prog 9 := enters Tryz.func9 (by kernel_rfl) rfl

/-! ## loop.example/g00698/laws.toIntS -/
noncomputable def E52 : Env := { tab := tab, sig := [], clos := [], live := [(0, [0, 3, 4], [])], eqs := [], inl := [] }
set_option maxRecDepth 100000 in
theorem r52 (N : Nat) (a0 : List Int) : runF N E52 Tryz.f52 [.imm false (.slice 3 (.int .i64))] [.deep false (.slice 3 (.int .i64))] (a0, ()) = p_laws_toIntS N a0 := by kernel_rfl
theorem env52 : EnvOk Tryz.prog E52 := envOk mixed tabOk trivial trivial trivial
noncomputable def s52 : FSpec := ⟨[.imm false (.slice 3 (.int .i64))], [.deep false (.slice 3 (.int .i64))], fun x => S_laws_toIntS x.1⟩
theorem ok52 : FOk Tryz.prog 52 s52 := fn_says env52 Tryz.func52 rfl fun x y h => let ⟨N, hN⟩ := lim_some h; ⟨N, (r52 N x.1).trans hN⟩
theorem enters52 : Enters Tryz.prog 52 := enters Tryz.func52 (by kernel_rfl) rfl

/-! ## loop.example/g00698/laws.toIntSS -/
noncomputable def E51 : Env := { tab := tab, sig := [(52, s52)], clos := [], live := [(0, [0, 3, 4], [])], eqs := [], inl := [] }
set_option maxRecDepth 100000 in
theorem r51 (N : Nat) (a0 : List (List Int)) : runF N E51 Tryz.f51 [.imm false (.slice 23 (.slice 3 (.int .i64)))] [.deep false (.slice 23 (.slice 3 (.int .i64)))] (a0, ()) = p_laws_toIntSS N a0 := by kernel_rfl
theorem env51 : EnvOk Tryz.prog E51 := envOk mixed tabOk ⟨⟨enters52, ok52⟩, trivial⟩ trivial trivial
noncomputable def s51 : FSpec := ⟨[.imm false (.slice 23 (.slice 3 (.int .i64)))], [.deep false (.slice 23 (.slice 3 (.int .i64)))], fun x => S_laws_toIntSS x.1⟩
theorem ok51 : FOk Tryz.prog 51 s51 := fn_says env51 Tryz.func51 rfl fun x y h => let ⟨N, hN⟩ := lim_some h; ⟨N, (r51 N x.1).trans hN⟩
theorem enters51 : Enters Tryz.prog 51 := enters Tryz.func51 (by kernel_rfl) rfl

/-! ## loop.example/g00698/laws.toWatch -/
noncomputable def E11 : Env := { tab := tab, sig := [(51, s51), (52, s52)], clos := [], live := [], eqs := [], inl := [] }
set_option maxRecDepth 100000 in
theorem r11 (N : Nat) (a0 : T0) : runF N E11 Tryz.f11 [.imm true (.pair (.int .i64) (.pair (.int .i64) (.pair (.slice 23 (.slice 3 (.int .i64))) (.pair (.slice 3 (.int .i64)) .unit))))] [.deep true (.pair (.int .i64) (.pair (.int .i64) (.pair (.slice 23 (.slice 3 (.int .i64))) (.pair (.slice 3 (.int .i64)) .unit))))] (a0, ()) = p_laws_toWatch N a0 := by kernel_rfl
theorem env11 : EnvOk Tryz.prog E11 := envOk mixed tabOk ⟨⟨enters51, ok51⟩, ⟨enters52, ok52⟩, trivial⟩ trivial trivial
noncomputable def s11 : FSpec := ⟨[.imm true (.pair (.int .i64) (.pair (.int .i64) (.pair (.slice 23 (.slice 3 (.int .i64))) (.pair (.slice 3 (.int .i64)) .unit))))], [.deep true (.pair (.int .i64) (.pair (.int .i64) (.pair (.slice 23 (.slice 3 (.int .i64))) (.pair (.slice 3 (.int .i64)) .unit))))], fun x => S_laws_toWatch x.1⟩
theorem ok11 : FOk Tryz.prog 11 s11 := fn_says env11 Tryz.func11 rfl fun x y h => ⟨0, (r11 0 x.1).trans h⟩
theorem enters11 : Enters Tryz.prog 11 := enters Tryz.func11 (by kernel_rfl) rfl

/-! ## loop.example/g00698/laws.toCmd -/
noncomputable def E215 : Env := { tab := tab, sig := [], clos := [], live := [], eqs := [], inl := [] }
set_option maxRecDepth 100000 in
theorem r215 (N : Nat) (a0 : T2) : runF N E215 Tryz.f215 [.imm true (.pair (.int .i64) (.pair (.int .i64) (.pair (.int .i64) (.pair (.int .i64) (.pair (.int .i64) .unit)))))] [.imm true (.pair (.int .i64) (.pair (.int .i64) (.pair (.int .i64) (.pair (.int .i64) (.pair (.int .i64) .unit)))))] (a0, ()) = p_laws_toCmd N a0 := by kernel_rfl
theorem env215 : EnvOk Tryz.prog E215 := envOk mixed tabOk trivial trivial trivial
noncomputable def s215 : FSpec := ⟨[.imm true (.pair (.int .i64) (.pair (.int .i64) (.pair (.int .i64) (.pair (.int .i64) (.pair (.int .i64) .unit)))))], [.imm true (.pair (.int .i64) (.pair (.int .i64) (.pair (.int .i64) (.pair (.int .i64) (.pair (.int .i64) .unit)))))], fun x => S_laws_toCmd x.1⟩
theorem ok215 : FOk Tryz.prog 215 s215 := fn_says env215 Tryz.func215 rfl fun x y h => ⟨0, (r215 0 x.1).trans h⟩
theorem enters215 : Enters Tryz.prog 215 := enters Tryz.func215 (by kernel_rfl) rfl

/-! ## loop.example/g00698/laws.toAttr -/
noncomputable def E216 : Env := { tab := tab, sig := [(52, s52)], clos := [], live := [], eqs := [], inl := [] }
set_option maxRecDepth 100000 in
theorem r216 (N : Nat) (a0 : T6) : runF N E216 Tryz.f216 [.imm true (.pair (.int .i64) (.pair (.slice 3 (.int .i64)) .unit))] [.deep true (.pair (.int .i64) (.pair (.slice 3 (.int .i64)) .unit))] (a0, ()) = p_laws_toAttr N a0 := by kernel_rfl
theorem env216 : EnvOk Tryz.prog E216 := envOk mixed tabOk ⟨⟨enters52, ok52⟩, trivial⟩ trivial trivial
noncomputable def s216 : FSpec := ⟨[.imm true (.pair (.int .i64) (.pair (.slice 3 (.int .i64)) .unit))], [.deep true (.pair (.int .i64) (.pair (.slice 3 (.int .i64)) .unit))], fun x => S_laws_toAttr x.1⟩
theorem ok216 : FOk Tryz.prog 216 s216 := fn_says env216 Tryz.func216 rfl fun x y h => ⟨0, (r216 0 x.1).trans h⟩
theorem enters216 : Enters Tryz.prog 216 := enters Tryz.func216 (by kernel_rfl) rfl

/-! ## loop.example/g00698/laws.toRow -/
noncomputable def E173 : Env := { tab := tab, sig := [(215, s215), (216, s216)], clos := [], live := [], eqs := [], inl := [] }
set_option maxRecDepth 100000 in
theorem r173 (N : Nat) (a0 : T7) : runF N E173 Tryz.f173 [.imm true (.pair (.int .i64) (.pair (.int .i64) (.pair (.int .i64) (.pair (.pair (.int .i64) (.pair (.int .i64) (.pair (.int .i64) (.pair (.int .i64) (.pair (.int .i64) .unit))))) (.pair (.pair (.int .i64) (.pair (.slice 3 (.int .i64)) .unit)) .unit)))))] [.deep true (.pair (.int .i64) (.pair (.int .i64) (.pair (.int .i64) (.pair (.pair (.int .i64) (.pair (.int .i64) (.pair (.int .i64) (.pair (.int .i64) (.pair (.int .i64) .unit))))) (.pair (.pair (.int .i64) (.pair (.slice 3 (.int .i64)) .unit)) .unit)))))] (a0, ()) = p_laws_toRow N a0 := by kernel_rfl
theorem env173 : EnvOk Tryz.prog E173 := envOk mixed tabOk ⟨⟨enters215, ok215⟩, ⟨enters216, ok216⟩, trivial⟩ trivial trivial
noncomputable def s173 : FSpec := ⟨[.imm true (.pair (.int .i64) (.pair (.int .i64) (.pair (.int .i64) (.pair (.pair (.int .i64) (.pair (.int .i64) (.pair (.int .i64) (.pair (.int .i64) (.pair (.int .i64) .unit))))) (.pair (.pair (.int .i64) (.pair (.slice 3 (.int .i64)) .unit)) .unit)))))], [.deep true (.pair (.int .i64) (.pair (.int .i64) (.pair (.int .i64) (.pair (.pair (.int .i64) (.pair (.int .i64) (.pair (.int .i64) (.pair (.int .i64) (.pair (.int .i64) .unit))))) (.pair (.pair (.int .i64) (.pair (.slice 3 (.int .i64)) .unit)) .unit)))))], fun x => S_laws_toRow x.1⟩
theorem ok173 : FOk Tryz.prog 173 s173 := fn_says env173 Tryz.func173 rfl fun x y h => ⟨0, (r173 0 x.1).trans h⟩
theorem enters173 : Enters Tryz.prog 173 := enters Tryz.func173 (by kernel_rfl) rfl

/-! ## loop.example/g00698/laws.toRowS -/
noncomputable def E106 : Env := { tab := tab, sig := [(173, s173)], clos := [], live := [(0, [0, 3, 4], [])], eqs := [], inl := [] }
set_option maxRecDepth 100000 in
theorem r106 (N : Nat) (a0 : List T7) : runF N E106 Tryz.f106 [.imm false (.slice 210 (.pair (.int .i64) (.pair (.int .i64) (.pair (.int .i64) (.pair (.pair (.int .i64) (.pair (.int .i64) (.pair (.int .i64) (.pair (.int .i64) (.pair (.int .i64) .unit))))) (.pair (.pair (.int .i64) (.pair (.slice 3 (.int .i64)) .unit)) .unit))))))] [.deep false (.slice 104 (.pair (.int .i64) (.pair (.int .i64) (.pair (.int .i64) (.pair (.pair (.int .i64) (.pair (.int .i64) (.pair (.int .i64) (.pair (.int .i64) (.pair (.int .i64) .unit))))) (.pair (.pair (.int .i64) (.pair (.slice 3 (.int .i64)) .unit)) .unit))))))] (a0, ()) = p_laws_toRowS N a0 := by kernel_rfl
theorem env106 : EnvOk Tryz.prog E106 := envOk mixed tabOk ⟨⟨enters173, ok173⟩, trivial⟩ trivial trivial
noncomputable def s106 : FSpec := ⟨[.imm false (.slice 210 (.pair (.int .i64) (.pair (.int .i64) (.pair (.int .i64) (.pair (.pair (.int .i64) (.pair (.int .i64) (.pair (.int .i64) (.pair (.int .i64) (.pair (.int .i64) .unit))))) (.pair (.pair (.int .i64) (.pair (.slice 3 (.int .i64)) .unit)) .unit))))))], [.deep false (.slice 104 (.pair (.int .i64) (.pair (.int .i64) (.pair (.int .i64) (.pair (.pair (.int .i64) (.pair (.int .i64) (.pair (.int .i64) (.pair (.int .i64) (.pair (.int .i64) .unit))))) (.pair (.pair (.int .i64) (.pair (.slice 3 (.int .i64)) .unit)) .unit))))))], fun x => S_laws_toRowS x.1⟩
theorem ok106 : FOk Tryz.prog 106 s106 := fn_says env106 Tryz.func106 rfl fun x y h => let ⟨N, hN⟩ := lim_some h; ⟨N, (r106 N x.1).trans hN⟩
theorem enters106 : Enters Tryz.prog 106 := enters Tryz.func106 (by kernel_rfl) rfl

/-! ## loop.example/g00698/laws.toRowSS -/
noncomputable def E53 : Env := { tab := tab, sig := [(106, s106)], clos := [], live := [(0, [0, 3, 4], [])], eqs := [], inl := [] }
set_option maxRecDepth 100000 in
theorem r53 (N : Nat) (a0 : List (List T7)) : runF N E53 Tryz.f53 [.imm false (.slice 144 (.slice 210 (.pair (.int .i64) (.pair (.int .i64) (.pair (.int .i64) (.pair (.pair (.int .i64) (.pair (.int .i64) (.pair (.int .i64) (.pair (.int .i64) (.pair (.int .i64) .unit))))) (.pair (.pair (.int .i64) (.pair (.slice 3 (.int .i64)) .unit)) .unit)))))))] [.deep false (.slice 148 (.slice 104 (.pair (.int .i64) (.pair (.int .i64) (.pair (.int .i64) (.pair (.pair (.int .i64) (.pair (.int .i64) (.pair (.int .i64) (.pair (.int .i64) (.pair (.int .i64) .unit))))) (.pair (.pair (.int .i64) (.pair (.slice 3 (.int .i64)) .unit)) .unit)))))))] (a0, ()) = p_laws_toRowSS N a0 := by kernel_rfl
theorem env53 : EnvOk Tryz.prog E53 := envOk mixed tabOk ⟨⟨enters106, ok106⟩, trivial⟩ trivial trivial
noncomputable def s53 : FSpec := ⟨[.imm false (.slice 144 (.slice 210 (.pair (.int .i64) (.pair (.int .i64) (.pair (.int .i64) (.pair (.pair (.int .i64) (.pair (.int .i64) (.pair (.int .i64) (.pair (.int .i64) (.pair (.int .i64) .unit))))) (.pair (.pair (.int .i64) (.pair (.slice 3 (.int .i64)) .unit)) .unit)))))))], [.deep false (.slice 148 (.slice 104 (.pair (.int .i64) (.pair (.int .i64) (.pair (.int .i64) (.pair (.pair (.int .i64) (.pair (.int .i64) (.pair (.int .i64) (.pair (.int .i64) (.pair (.int .i64) .unit))))) (.pair (.pair (.int .i64) (.pair (.slice 3 (.int .i64)) .unit)) .unit)))))))], fun x => S_laws_toRowSS x.1⟩
theorem ok53 : FOk Tryz.prog 53 s53 := fn_says env53 Tryz.func53 rfl fun x y h => let ⟨N, hN⟩ := lim_some h; ⟨N, (r53 N x.1).trans hN⟩
theorem enters53 : Enters Tryz.prog 53 := enters Tryz.func53 (by kernel_rfl) rfl

/-! ## loop.example/g00698/laws.toTable -/
noncomputable def E12 : Env := { tab := tab, sig := [(53, s53)], clos := [], live := [], eqs := [], inl := [] }
set_option maxRecDepth 100000 in
theorem r12 (N : Nat) (a0 : T8) : runF N E12 Tryz.f12 [.imm true (.pair (.int .i64) (.pair (.slice 144 (.slice 210 (.pair (.int .i64) (.pair (.int .i64) (.pair (.int .i64) (.pair (.pair (.int .i64) (.pair (.int .i64) (.pair (.int .i64) (.pair (.int .i64) (.pair (.int .i64) .unit))))) (.pair (.pair (.int .i64) (.pair (.slice 3 (.int .i64)) .unit)) .unit))))))) .unit))] [.deep true (.pair (.int .i64) (.pair (.slice 148 (.slice 104 (.pair (.int .i64) (.pair (.int .i64) (.pair (.int .i64) (.pair (.pair (.int .i64) (.pair (.int .i64) (.pair (.int .i64) (.pair (.int .i64) (.pair (.int .i64) .unit))))) (.pair (.pair (.int .i64) (.pair (.slice 3 (.int .i64)) .unit)) .unit))))))) .unit))] (a0, ()) = p_laws_toTable N a0 := by kernel_rfl
theorem env12 : EnvOk Tryz.prog E12 := envOk mixed tabOk ⟨⟨enters53, ok53⟩, trivial⟩ trivial trivial
noncomputable def s12 : FSpec := ⟨[.imm true (.pair (.int .i64) (.pair (.slice 144 (.slice 210 (.pair (.int .i64) (.pair (.int .i64) (.pair (.int .i64) (.pair (.pair (.int .i64) (.pair (.int .i64) (.pair (.int .i64) (.pair (.int .i64) (.pair (.int .i64) .unit))))) (.pair (.pair (.int .i64) (.pair (.slice 3 (.int .i64)) .unit)) .unit))))))) .unit))], [.deep true (.pair (.int .i64) (.pair (.slice 148 (.slice 104 (.pair (.int .i64) (.pair (.int .i64) (.pair (.int .i64) (.pair (.pair (.int .i64) (.pair (.int .i64) (.pair (.int .i64) (.pair (.int .i64) (.pair (.int .i64) .unit))))) (.pair (.pair (.int .i64) (.pair (.slice 3 (.int .i64)) .unit)) .unit))))))) .unit))], fun x => S_laws_toTable x.1⟩
theorem ok12 : FOk Tryz.prog 12 s12 := fn_says env12 Tryz.func12 rfl fun x y h => ⟨0, (r12 0 x.1).trans h⟩
theorem enters12 : Enters Tryz.prog 12 := enters Tryz.func12 (by kernel_rfl) rfl

/-! ## loop.example/g00698/spec.IsGroup -/
noncomputable def E100 : Env := { tab := tab, sig := [], clos := [], live := [], eqs := [], inl := [] }
set_option maxRecDepth 100000 in
theorem r100 (N : Nat) (a0 : Int) : runF N E100 Tryz.f100 [.imm false (.int .i64)] [.imm false .bool] (a0, ()) = p_spec_IsGroup N a0 := by kernel_rfl
theorem env100 : EnvOk Tryz.prog E100 := envOk mixed tabOk trivial trivial trivial
noncomputable def s100 : FSpec := ⟨[.imm false (.int .i64)], [.imm false .bool], fun x => S_spec_IsGroup x.1⟩
theorem ok100 : FOk Tryz.prog 100 s100 := fn_says env100 Tryz.func100 rfl fun x y h => ⟨0, (r100 0 x.1).trans h⟩
theorem enters100 : Enters Tryz.prog 100 := enters Tryz.func100 (by kernel_rfl) rfl

/-! ## loop.example/g00698/spec.l1In -/
noncomputable def E62 : Env := { tab := tab, sig := [], clos := [], live := [], eqs := [], inl := [] }
set_option maxRecDepth 100000 in
theorem r62 (N : Nat) (a0 : Int) (a1 : Int) (a2 : Int) : runF N E62 Tryz.f62 [.imm false (.int .i64), .imm false (.int .i64), .imm false (.int .i64)] [.imm false .bool] (a0, a1, a2, ()) = p_spec_l1In N a0 a1 a2 := by kernel_rfl
theorem env62 : EnvOk Tryz.prog E62 := envOk mixed tabOk trivial trivial trivial
noncomputable def s62 : FSpec := ⟨[.imm false (.int .i64), .imm false (.int .i64), .imm false (.int .i64)], [.imm false .bool], fun x => S_spec_l1In x.1 x.2.1 x.2.2.1⟩
theorem ok62 : FOk Tryz.prog 62 s62 := fn_says env62 Tryz.func62 rfl fun x y h => ⟨0, (r62 0 x.1 x.2.1 x.2.2.1).trans h⟩
theorem enters62 : Enters Tryz.prog 62 := enters Tryz.func62 (by kernel_rfl) rfl

/-! ## loop.example/g00698/spec.l3Inst -/
noncomputable def E168 : Env := { tab := tab, sig := [(62, s62)], clos := [], live := [], eqs := [], inl := [] }
set_option maxRecDepth 100000 in
theorem r168 (N : Nat) (a0 : Int) (a1 : Int) (a2 : Int) : runF N E168 Tryz.f168 [.imm false (.int .i64), .imm false (.int .i64), .imm false (.int .i64)] [.imm false .bool] (a0, a1, a2, ()) = p_spec_l3Inst N a0 a1 a2 := by kernel_rfl
theorem env168 : EnvOk Tryz.prog E168 := envOk mixed tabOk ⟨⟨enters62, ok62⟩, trivial⟩ trivial trivial
noncomputable def s168 : FSpec := ⟨[.imm false (.int .i64), .imm false (.int .i64), .imm false (.int .i64)], [.imm false .bool], fun x => S_spec_l3Inst x.1 x.2.1 x.2.2.1⟩
theorem ok168 : FOk Tryz.prog 168 s168 := fn_says env168 Tryz.func168 rfl fun x y h => ⟨0, (r168 0 x.1 x.2.1 x.2.2.1).trans h⟩
theorem enters168 : Enters Tryz.prog 168 := enters Tryz.func168 (by kernel_rfl) rfl

/-! ## loop.example/g00698/spec.l18Done -/
noncomputable def E101 : Env := { tab := tab, sig := [(168, s168)], clos := [], live := [(0, [0, 1, 7, 8, 9, 18, 19, 20, 21, 22, 23, 24, 25, 26, 31, 32, 33, 34, 35, 36, 37, 38, 39, 40, 41, 42, 43, 44, 45, 46, 47, 48, 49, 50, 51, 52, 53, 54, 55, 56, 57, 58, 59, 60, 61, 62, 63, 64, 65, 66, 67], [])], eqs := [], inl := [] }
set_option maxRecDepth 100000 in
theorem r101 (N : Nat) (a0 : Int) (a1 : List (List Int)) : runF N E101 Tryz.f101 [.imm false (.int .i64), .imm false (.slice 23 (.slice 3 (.int .i64)))] [.imm false .bool] (a0, a1, ()) = p_spec_l18Done N a0 a1 := by kernel_rfl
theorem env101 : EnvOk Tryz.prog E101 := envOk mixed tabOk ⟨⟨enters168, ok168⟩, trivial⟩ trivial trivial
noncomputable def s101 : FSpec := ⟨[.imm false (.int .i64), .imm false (.slice 23 (.slice 3 (.int .i64)))], [.imm false .bool], fun x => S_spec_l18Done x.1 x.2.1⟩
theorem ok101 : FOk Tryz.prog 101 s101 := fn_says env101 Tryz.func101 rfl fun x y h => let ⟨N, hN⟩ := lim_some h; ⟨N, (r101 N x.1 x.2.1).trans hN⟩
theorem enters101 : Enters Tryz.prog 101 := enters Tryz.func101 (by kernel_rfl) rfl

/-! ## loop.example/g00698/spec.l1All -/
noncomputable def E102 : Env := { tab := tab, sig := [(62, s62)], clos := [], live := [(0, [1, 2, 9, 10, 11], [])], eqs := [], inl := [] }
set_option maxRecDepth 100000 in
theorem r102 (N : Nat) (a0 : List Int) (a1 : Int) (a2 : Int) : runF N E102 Tryz.f102 [.imm false (.slice 3 (.int .i64)), .imm false (.int .i64), .imm false (.int .i64)] [.imm false .bool] (a0, a1, a2, ()) = p_spec_l1All N a0 a1 a2 := by kernel_rfl
theorem env102 : EnvOk Tryz.prog E102 := envOk mixed tabOk ⟨⟨enters62, ok62⟩, trivial⟩ trivial trivial
noncomputable def s102 : FSpec := ⟨[.imm false (.slice 3 (.int .i64)), .imm false (.int .i64), .imm false (.int .i64)], [.imm false .bool], fun x => S_spec_l1All x.1 x.2.1 x.2.2.1⟩
theorem ok102 : FOk Tryz.prog 102 s102 := fn_says env102 Tryz.func102 rfl fun x y h => let ⟨N, hN⟩ := lim_some h; ⟨N, (r102 N x.1 x.2.1 x.2.2.1).trans hN⟩
theorem enters102 : Enters Tryz.prog 102 := enters Tryz.func102 (by kernel_rfl) rfl

/-! ## loop.example/g00698/spec.l20Good -/
noncomputable def E48 : Env := { tab := tab, sig := [(100, s100), (62, s62), (101, s101), (102, s102)], clos := [], live := [], eqs := [], inl := [] }
set_option maxRecDepth 100000 in
theorem r48 (N : Nat) (a0 : T0) : runF N E48 Tryz.f48 [.imm true (.pair (.int .i64) (.pair (.int .i64) (.pair (.slice 23 (.slice 3 (.int .i64))) (.pair (.slice 3 (.int .i64)) .unit))))] [.imm false .bool] (a0, ()) = p_spec_l20Good N a0 := by kernel_rfl
theorem env48 : EnvOk Tryz.prog E48 := envOk mixed tabOk ⟨⟨enters100, ok100⟩, ⟨enters62, ok62⟩, ⟨enters101, ok101⟩, ⟨enters102, ok102⟩, trivial⟩ trivial trivial
noncomputable def s48 : FSpec := ⟨[.imm true (.pair (.int .i64) (.pair (.int .i64) (.pair (.slice 23 (.slice 3 (.int .i64))) (.pair (.slice 3 (.int .i64)) .unit))))], [.imm false .bool], fun x => S_spec_l20Good x.1⟩
theorem ok48 : FOk Tryz.prog 48 s48 := fn_says env48 Tryz.func48 rfl fun x y h => ⟨0, (r48 0 x.1).trans h⟩
theorem enters48 : Enters Tryz.prog 48 := enters Tryz.func48 (by kernel_rfl) rfl

/-! ## loop.example/g00698/spec.l3None -/
noncomputable def E126 : Env := { tab := tab, sig := [], clos := [], live := [], eqs := [], inl := [] }
set_option maxRecDepth 100000 in
theorem r126 (N : Nat) (a0 : Int) : runF N E126 Tryz.f126 [.imm false (.int .i64)] [.deep true (.pair (.int .i64) (.pair (.slice 3 (.int .i64)) .unit))] (a0, ()) = p_spec_l3None N a0 := by kernel_rfl
theorem env126 : EnvOk Tryz.prog E126 := envOk mixed tabOk trivial trivial trivial
noncomputable def s126 : FSpec := ⟨[.imm false (.int .i64)], [.deep true (.pair (.int .i64) (.pair (.slice 3 (.int .i64)) .unit))], fun x => S_spec_l3None x.1⟩
theorem ok126 : FOk Tryz.prog 126 s126 := fn_says env126 Tryz.func126 rfl fun x y h => ⟨0, (r126 0 x.1).trans h⟩
theorem enters126 : Enters Tryz.prog 126 := enters Tryz.func126 (by kernel_rfl) rfl

/-! ## loop.example/g00698/spec.l1Same -/
noncomputable def E141 : Env := { tab := tab, sig := [], clos := [], live := [(0, [0, 1, 12, 13], [])], eqs := [], inl := [] }
set_option maxRecDepth 100000 in
theorem r141 (N : Nat) (a0 : List Int) (a1 : List Int) : runF N E141 Tryz.f141 [.imm false (.slice 3 (.int .i64)), .imm false (.slice 3 (.int .i64))] [.imm false .bool] (a0, a1, ()) = p_spec_l1Same N a0 a1 := by kernel_rfl
theorem env141 : EnvOk Tryz.prog E141 := envOk mixed tabOk trivial trivial trivial
noncomputable def s141 : FSpec := ⟨[.imm false (.slice 3 (.int .i64)), .imm false (.slice 3 (.int .i64))], [.imm false .bool], fun x => S_spec_l1Same x.1 x.2.1⟩
theorem ok141 : FOk Tryz.prog 141 s141 := fn_says env141 Tryz.func141 rfl fun x y h => let ⟨N, hN⟩ := lim_some h; ⟨N, (r141 N x.1 x.2.1).trans hN⟩
theorem enters141 : Enters Tryz.prog 141 := enters Tryz.func141 (by kernel_rfl) rfl

/-! ## loop.example/g00698/spec.SameAttr -/
noncomputable def E169 : Env := { tab := tab, sig := [(141, s141)], clos := [], live := [], eqs := [], inl := [] }
set_option maxRecDepth 100000 in
theorem r169 (N : Nat) (a0 : T6) (a1 : T6) : runF N E169 Tryz.f169 [.imm true (.pair (.int .i64) (.pair (.slice 3 (.int .i64)) .unit)), .imm true (.pair (.int .i64) (.pair (.slice 3 (.int .i64)) .unit))] [.imm false .bool] (a0, a1, ()) = p_spec_SameAttr N a0 a1 := by kernel_rfl
theorem env169 : EnvOk Tryz.prog E169 := envOk mixed tabOk ⟨⟨enters141, ok141⟩, trivial⟩ trivial trivial
noncomputable def s169 : FSpec := ⟨[.imm true (.pair (.int .i64) (.pair (.slice 3 (.int .i64)) .unit)), .imm true (.pair (.int .i64) (.pair (.slice 3 (.int .i64)) .unit))], [.imm false .bool], fun x => S_spec_SameAttr x.1 x.2.1⟩
theorem ok169 : FOk Tryz.prog 169 s169 := fn_says env169 Tryz.func169 rfl fun x y h => ⟨0, (r169 0 x.1 x.2.1).trans h⟩
theorem enters169 : Enters Tryz.prog 169 := enters Tryz.func169 (by kernel_rfl) rfl

/-! ## loop.example/g00698/spec.l2Account -/
noncomputable def E255 : Env := { tab := tab, sig := [(62, s62)], clos := [], live := [], eqs := [], inl := [] }
set_option maxRecDepth 100000 in
theorem r255 (N : Nat) (a0 : Int) : runF N E255 Tryz.f255 [.imm false (.int .i64)] [.imm false .bool] (a0, ()) = p_spec_l2Account N a0 := by kernel_rfl
theorem env255 : EnvOk Tryz.prog E255 := envOk mixed tabOk ⟨⟨enters62, ok62⟩, trivial⟩ trivial trivial
noncomputable def s255 : FSpec := ⟨[.imm false (.int .i64)], [.imm false .bool], fun x => S_spec_l2Account x.1⟩
theorem ok255 : FOk Tryz.prog 255 s255 := fn_says env255 Tryz.func255 rfl fun x y h => ⟨0, (r255 0 x.1).trans h⟩
theorem enters255 : Enters Tryz.prog 255 := enters Tryz.func255 (by kernel_rfl) rfl

/-! ## loop.example/g00698/spec.l2Code -/
noncomputable def E227 : Env := { tab := tab, sig := [(255, s255), (62, s62)], clos := [], live := [], eqs := [], inl := [] }
set_option maxRecDepth 100000 in
theorem r227 (N : Nat) (a0 : T2) : runF N E227 Tryz.f227 [.imm true (.pair (.int .i64) (.pair (.int .i64) (.pair (.int .i64) (.pair (.int .i64) (.pair (.int .i64) .unit)))))] [.imm false (.int .i64)] (a0, ()) = p_spec_l2Code N a0 := by kernel_rfl
theorem env227 : EnvOk Tryz.prog E227 := envOk mixed tabOk ⟨⟨enters255, ok255⟩, ⟨enters62, ok62⟩, trivial⟩ trivial trivial
noncomputable def s227 : FSpec := ⟨[.imm true (.pair (.int .i64) (.pair (.int .i64) (.pair (.int .i64) (.pair (.int .i64) (.pair (.int .i64) .unit)))))], [.imm false (.int .i64)], fun x => S_spec_l2Code x.1⟩
theorem ok227 : FOk Tryz.prog 227 s227 := fn_says env227 Tryz.func227 rfl fun x y h => ⟨0, (r227 0 x.1).trans h⟩
theorem enters227 : Enters Tryz.prog 227 := enters Tryz.func227 (by kernel_rfl) rfl

/-! ## loop.example/g00698/spec.GoodCmd -/
noncomputable def E170 : Env := { tab := tab, sig := [(227, s227)], clos := [], live := [], eqs := [(100, 5)], inl := [] }
set_option maxRecDepth 100000 in
theorem r170 (N : Nat) (a0 : T2) : runF N E170 Tryz.f170 [.imm true (.pair (.int .i64) (.pair (.int .i64) (.pair (.int .i64) (.pair (.int .i64) (.pair (.int .i64) .unit)))))] [.imm false .bool] (a0, ()) = p_spec_GoodCmd N a0 := by kernel_rfl
theorem env170 : EnvOk Tryz.prog E170 := envOk mixed tabOk ⟨⟨enters227, ok227⟩, trivial⟩ trivial ⟨eq100, trivial⟩
noncomputable def s170 : FSpec := ⟨[.imm true (.pair (.int .i64) (.pair (.int .i64) (.pair (.int .i64) (.pair (.int .i64) (.pair (.int .i64) .unit)))))], [.imm false .bool], fun x => S_spec_GoodCmd x.1⟩
theorem ok170 : FOk Tryz.prog 170 s170 := fn_says env170 Tryz.func170 rfl fun x y h => ⟨0, (r170 0 x.1).trans h⟩
theorem enters170 : Enters Tryz.prog 170 := enters Tryz.func170 (by kernel_rfl) rfl

/-! ## loop.example/g00698/spec.l3Attr -/
noncomputable def E171 : Env := { tab := tab, sig := [(62, s62), (102, s102)], clos := [], live := [], eqs := [], inl := [] }
set_option maxRecDepth 100000 in
theorem r171 (N : Nat) (a0 : Int) (a1 : T6) : runF N E171 Tryz.f171 [.imm false (.int .i64), .imm true (.pair (.int .i64) (.pair (.slice 3 (.int .i64)) .unit))] [.imm false .bool] (a0, a1, ()) = p_spec_l3Attr N a0 a1 := by kernel_rfl
theorem env171 : EnvOk Tryz.prog E171 := envOk mixed tabOk ⟨⟨enters62, ok62⟩, ⟨enters102, ok102⟩, trivial⟩ trivial trivial
noncomputable def s171 : FSpec := ⟨[.imm false (.int .i64), .imm true (.pair (.int .i64) (.pair (.slice 3 (.int .i64)) .unit))], [.imm false .bool], fun x => S_spec_l3Attr x.1 x.2.1⟩
theorem ok171 : FOk Tryz.prog 171 s171 := fn_says env171 Tryz.func171 rfl fun x y h => ⟨0, (r171 0 x.1 x.2.1).trans h⟩
theorem enters171 : Enters Tryz.prog 171 := enters Tryz.func171 (by kernel_rfl) rfl

/-! ## loop.example/g00698/spec.l4Row -/
noncomputable def E103 : Env := { tab := tab, sig := [(62, s62), (126, s126), (169, s169), (170, s170), (171, s171)], clos := [], live := [], eqs := [(100, 5)], inl := [] }
set_option maxRecDepth 100000 in
theorem r103 (N : Nat) (a0 : Int) (a1 : T7) : runF N E103 Tryz.f103 [.imm false (.int .i64), .imm true (.pair (.int .i64) (.pair (.int .i64) (.pair (.int .i64) (.pair (.pair (.int .i64) (.pair (.int .i64) (.pair (.int .i64) (.pair (.int .i64) (.pair (.int .i64) .unit))))) (.pair (.pair (.int .i64) (.pair (.slice 3 (.int .i64)) .unit)) .unit)))))] [.imm false .bool] (a0, a1, ()) = p_spec_l4Row N a0 a1 := by kernel_rfl
theorem env103 : EnvOk Tryz.prog E103 := envOk mixed tabOk ⟨⟨enters62, ok62⟩, ⟨enters126, ok126⟩, ⟨enters169, ok169⟩, ⟨enters170, ok170⟩, ⟨enters171, ok171⟩, trivial⟩ trivial ⟨eq100, trivial⟩
noncomputable def s103 : FSpec := ⟨[.imm false (.int .i64), .imm true (.pair (.int .i64) (.pair (.int .i64) (.pair (.int .i64) (.pair (.pair (.int .i64) (.pair (.int .i64) (.pair (.int .i64) (.pair (.int .i64) (.pair (.int .i64) .unit))))) (.pair (.pair (.int .i64) (.pair (.slice 3 (.int .i64)) .unit)) .unit)))))], [.imm false .bool], fun x => S_spec_l4Row x.1 x.2.1⟩
theorem ok103 : FOk Tryz.prog 103 s103 := fn_says env103 Tryz.func103 rfl fun x y h => ⟨0, (r103 0 x.1 x.2.1).trans h⟩
theorem enters103 : Enters Tryz.prog 103 := enters Tryz.func103 (by kernel_rfl) rfl

/-! ## loop.example/g00698/spec.GoodTable -/
noncomputable def E49 : Env := { tab := tab, sig := [(100, s100), (103, s103)], clos := [], live := [(0, [1, 20, 21, 22], []), (2, [1, 4, 20, 21, 22, 26, 27, 28], [])], eqs := [], inl := [] }
set_option maxRecDepth 100000 in
theorem r49 (N : Nat) (a0 : T8) : runF N E49 Tryz.f49 [.imm true (.pair (.int .i64) (.pair (.slice 148 (.slice 104 (.pair (.int .i64) (.pair (.int .i64) (.pair (.int .i64) (.pair (.pair (.int .i64) (.pair (.int .i64) (.pair (.int .i64) (.pair (.int .i64) (.pair (.int .i64) .unit))))) (.pair (.pair (.int .i64) (.pair (.slice 3 (.int .i64)) .unit)) .unit))))))) .unit))] [.imm false .bool] (a0, ()) = p_spec_GoodTable N a0 := by kernel_rfl
theorem env49 : EnvOk Tryz.prog E49 := envOk mixed tabOk ⟨⟨enters100, ok100⟩, ⟨enters103, ok103⟩, trivial⟩ trivial trivial
noncomputable def s49 : FSpec := ⟨[.imm true (.pair (.int .i64) (.pair (.slice 148 (.slice 104 (.pair (.int .i64) (.pair (.int .i64) (.pair (.int .i64) (.pair (.pair (.int .i64) (.pair (.int .i64) (.pair (.int .i64) (.pair (.int .i64) (.pair (.int .i64) .unit))))) (.pair (.pair (.int .i64) (.pair (.slice 3 (.int .i64)) .unit)) .unit))))))) .unit))], [.imm false .bool], fun x => S_spec_GoodTable x.1⟩
theorem ok49 : FOk Tryz.prog 49 s49 := fn_says env49 Tryz.func49 rfl fun x y h => let ⟨N, hN⟩ := lim_some h; ⟨N, (r49 N x.1).trans hN⟩
theorem enters49 : Enters Tryz.prog 49 := enters Tryz.func49 (by kernel_rfl) rfl

/-! ## loop.example/g00698/spec.l1Most -/
noncomputable def E228 : Env := { tab := tab, sig := [], clos := [], live := [], eqs := [], inl := [] }
set_option maxRecDepth 100000 in
theorem r228 (N : Nat) (a0 : Int) (a1 : Int) : runF N E228 Tryz.f228 [.imm false (.int .i64), .imm false (.int .i64)] [.imm false (.int .i64)] (a0, a1, ()) = p_spec_l1Most N a0 a1 := by kernel_rfl
theorem env228 : EnvOk Tryz.prog E228 := envOk mixed tabOk trivial trivial trivial
noncomputable def s228 : FSpec := ⟨[.imm false (.int .i64), .imm false (.int .i64)], [.imm false (.int .i64)], fun x => S_spec_l1Most x.1 x.2.1⟩
theorem ok228 : FOk Tryz.prog 228 s228 := fn_says env228 Tryz.func228 rfl fun x y h => ⟨0, (r228 0 x.1 x.2.1).trans h⟩
theorem enters228 : Enters Tryz.prog 228 := enters Tryz.func228 (by kernel_rfl) rfl

/-! ## loop.example/g00698/spec.l1Own -/
noncomputable def E74 : Env := { tab := tab, sig := [], clos := [], live := [], eqs := [], inl := [] }
set_option maxRecDepth 100000 in
theorem r74 (N : Nat) (a0 : List Int) : runF N E74 Tryz.f74 [.imm false (.slice 3 (.int .i64))] [.deep false (.slice 3 (.int .i64))] (a0, ()) = p_spec_l1Own N a0 := by kernel_rfl
theorem env74 : EnvOk Tryz.prog E74 := envOk mixed tabOk trivial trivial trivial
noncomputable def s74 : FSpec := ⟨[.imm false (.slice 3 (.int .i64))], [.deep false (.slice 3 (.int .i64))], fun x => S_spec_l1Own x.1⟩
theorem ok74 : FOk Tryz.prog 74 s74 := fn_says env74 Tryz.func74 rfl fun x y h => ⟨0, (r74 0 x.1).trans h⟩
theorem enters74 : Enters Tryz.prog 74 := enters Tryz.func74 (by kernel_rfl) rfl

/-! ## loop.example/g00698/spec.l4OwnAttr -/
noncomputable def E193 : Env := { tab := tab, sig := [(74, s74)], clos := [], live := [], eqs := [], inl := [] }
set_option maxRecDepth 100000 in
theorem r193 (N : Nat) (a0 : T6) : runF N E193 Tryz.f193 [.imm true (.pair (.int .i64) (.pair (.slice 3 (.int .i64)) .unit))] [.deep true (.pair (.int .i64) (.pair (.slice 3 (.int .i64)) .unit))] (a0, ()) = p_spec_l4OwnAttr N a0 := by kernel_rfl
theorem env193 : EnvOk Tryz.prog E193 := envOk mixed tabOk ⟨⟨enters74, ok74⟩, trivial⟩ trivial trivial
noncomputable def s193 : FSpec := ⟨[.imm true (.pair (.int .i64) (.pair (.slice 3 (.int .i64)) .unit))], [.deep true (.pair (.int .i64) (.pair (.slice 3 (.int .i64)) .unit))], fun x => S_spec_l4OwnAttr x.1⟩
theorem ok193 : FOk Tryz.prog 193 s193 := fn_says env193 Tryz.func193 rfl fun x y h => ⟨0, (r193 0 x.1).trans h⟩
theorem enters193 : Enters Tryz.prog 193 := enters Tryz.func193 (by kernel_rfl) rfl

/-! ## loop.example/g00698/spec.l4OwnRow -/
noncomputable def E129 : Env := { tab := tab, sig := [(193, s193)], clos := [], live := [], eqs := [], inl := [] }
set_option maxRecDepth 100000 in
theorem r129 (N : Nat) (a0 : T7) : runF N E129 Tryz.f129 [.imm true (.pair (.int .i64) (.pair (.int .i64) (.pair (.int .i64) (.pair (.pair (.int .i64) (.pair (.int .i64) (.pair (.int .i64) (.pair (.int .i64) (.pair (.int .i64) .unit))))) (.pair (.pair (.int .i64) (.pair (.slice 3 (.int .i64)) .unit)) .unit)))))] [.deep true (.pair (.int .i64) (.pair (.int .i64) (.pair (.int .i64) (.pair (.pair (.int .i64) (.pair (.int .i64) (.pair (.int .i64) (.pair (.int .i64) (.pair (.int .i64) .unit))))) (.pair (.pair (.int .i64) (.pair (.slice 3 (.int .i64)) .unit)) .unit)))))] (a0, ()) = p_spec_l4OwnRow N a0 := by kernel_rfl
theorem env129 : EnvOk Tryz.prog E129 := envOk mixed tabOk ⟨⟨enters193, ok193⟩, trivial⟩ trivial trivial
noncomputable def s129 : FSpec := ⟨[.imm true (.pair (.int .i64) (.pair (.int .i64) (.pair (.int .i64) (.pair (.pair (.int .i64) (.pair (.int .i64) (.pair (.int .i64) (.pair (.int .i64) (.pair (.int .i64) .unit))))) (.pair (.pair (.int .i64) (.pair (.slice 3 (.int .i64)) .unit)) .unit)))))], [.deep true (.pair (.int .i64) (.pair (.int .i64) (.pair (.int .i64) (.pair (.pair (.int .i64) (.pair (.int .i64) (.pair (.int .i64) (.pair (.int .i64) (.pair (.int .i64) .unit))))) (.pair (.pair (.int .i64) (.pair (.slice 3 (.int .i64)) .unit)) .unit)))))], fun x => S_spec_l4OwnRow x.1⟩
theorem ok129 : FOk Tryz.prog 129 s129 := fn_says env129 Tryz.func129 rfl fun x y h => ⟨0, (r129 0 x.1).trans h⟩
theorem enters129 : Enters Tryz.prog 129 := enters Tryz.func129 (by kernel_rfl) rfl

/-! ## loop.example/g00698/spec.l4At -/
noncomputable def E64 : Env := { tab := tab, sig := [(126, s126), (129, s129)], clos := [], live := [], eqs := [], inl := [] }
set_option maxRecDepth 100000 in
theorem r64 (N : Nat) (a0 : T8) (a1 : Int) (a2 : Int) : runF N E64 Tryz.f64 [.imm true (.pair (.int .i64) (.pair (.slice 148 (.slice 104 (.pair (.int .i64) (.pair (.int .i64) (.pair (.int .i64) (.pair (.pair (.int .i64) (.pair (.int .i64) (.pair (.int .i64) (.pair (.int .i64) (.pair (.int .i64) .unit))))) (.pair (.pair (.int .i64) (.pair (.slice 3 (.int .i64)) .unit)) .unit))))))) .unit)), .imm false (.int .i64), .imm false (.int .i64)] [.deep true (.pair (.int .i64) (.pair (.int .i64) (.pair (.int .i64) (.pair (.pair (.int .i64) (.pair (.int .i64) (.pair (.int .i64) (.pair (.int .i64) (.pair (.int .i64) .unit))))) (.pair (.pair (.int .i64) (.pair (.slice 3 (.int .i64)) .unit)) .unit)))))] (a0, a1, a2, ()) = p_spec_l4At N a0 a1 a2 := by kernel_rfl
theorem env64 : EnvOk Tryz.prog E64 := envOk mixed tabOk ⟨⟨enters126, ok126⟩, ⟨enters129, ok129⟩, trivial⟩ trivial trivial
noncomputable def s64 : FSpec := ⟨[.imm true (.pair (.int .i64) (.pair (.slice 148 (.slice 104 (.pair (.int .i64) (.pair (.int .i64) (.pair (.int .i64) (.pair (.pair (.int .i64) (.pair (.int .i64) (.pair (.int .i64) (.pair (.int .i64) (.pair (.int .i64) .unit))))) (.pair (.pair (.int .i64) (.pair (.slice 3 (.int .i64)) .unit)) .unit))))))) .unit)), .imm false (.int .i64), .imm false (.int .i64)], [.deep true (.pair (.int .i64) (.pair (.int .i64) (.pair (.int .i64) (.pair (.pair (.int .i64) (.pair (.int .i64) (.pair (.int .i64) (.pair (.int .i64) (.pair (.int .i64) .unit))))) (.pair (.pair (.int .i64) (.pair (.slice 3 (.int .i64)) .unit)) .unit)))))], fun x => S_spec_l4At x.1 x.2.1 x.2.2.1⟩
theorem ok64 : FOk Tryz.prog 64 s64 := fn_says env64 Tryz.func64 rfl fun x y h => ⟨0, (r64 0 x.1 x.2.1 x.2.2.1).trans h⟩
theorem enters64 : Enters Tryz.prog 64 := enters Tryz.func64 (by kernel_rfl) rfl

/-! ## loop.example/g00698/spec.l10Open -/
noncomputable def E172 : Env := { tab := tab, sig := [(228, s228), (64, s64)], clos := [], live := [(0, [1, 2, 5, 6, 27, 28, 29, 109, 110, 111, 112, 113, 114, 115, 116, 117, 118, 119], []), (2, [1, 2, 5, 6, 27, 28, 29, 40, 41, 42, 109, 110, 111, 112, 113, 114, 115, 116, 117, 118, 119], []), (4, [1, 2, 5, 6, 27, 28, 29, 40, 41, 42, 57, 58, 59, 109, 110, 111, 112, 113, 114, 115, 116, 117, 118, 119], []), (6, [1, 2, 5, 6, 13, 27, 28, 29, 40, 41, 42, 57, 58, 59, 65, 66, 67, 109, 110, 111, 112, 113, 114, 115, 116, 117, 118, 119], []), (8, [1, 2, 5, 6, 16, 17, 109, 110, 111, 112, 113, 114, 115, 116, 117, 118, 119], []), (10, [1, 2, 5, 6, 16, 17, 18, 109, 110, 111, 112, 113, 114, 115, 116, 117, 118, 119], []), (12, [1, 2, 5, 6, 16, 17, 18, 19, 101, 102, 103, 109, 110, 111, 112, 113, 114, 115, 116, 117, 118, 119], [])], eqs := [], inl := [] }
set_option maxRecDepth 100000 in
theorem r172 (N : Nat) (a0 : T13) (a1 : List Int) : runF N E172 Tryz.f172 [.imm true (.pair (.slice 131 (.pair (.int .i64) (.pair (.pair (.int .i64) (.pair (.slice 148 (.slice 104 (.pair (.int .i64) (.pair (.int .i64) (.pair (.int .i64) (.pair (.pair (.int .i64) (.pair (.int .i64) (.pair (.int .i64) (.pair (.int .i64) (.pair (.int .i64) .unit))))) (.pair (.pair (.int .i64) (.pair (.slice 3 (.int .i64)) .unit)) .unit))))))) .unit)) (.pair (.slice 242 (.pair (.int .i64) (.pair (.int .i64) (.pair (.int .i64) (.pair (.int .i64) (.pair (.pair (.int .i64) (.pair (.int .i64) (.pair (.int .i64) (.pair (.int .i64) (.pair (.int .i64) .unit))))) (.pair (.pair (.int .i64) (.pair (.slice 3 (.int .i64)) .unit)) (.pair (.pair (.int .i64) (.pair (.slice 3 (.int .i64)) .unit)) (.pair .bool (.pair (.slice 3 (.int .i64)) (.pair (.slice 104 (.pair (.int .i64) (.pair (.int .i64) (.pair (.int .i64) (.pair (.pair (.int .i64) (.pair (.int .i64) (.pair (.int .i64) (.pair (.int .i64) (.pair (.int .i64) .unit))))) (.pair (.pair (.int .i64) (.pair (.slice 3 (.int .i64)) .unit)) .unit)))))) .unit))))))))))) .unit)))) (.pair (.slice 190 (.pair (.int .i64) (.pair (.int .i64) (.pair (.int .i64) (.pair (.int .i64) (.pair (.int .i64) (.pair (.int .i64) (.pair (.int .i64) (.pair (.int .i64) (.pair (.pair (.int .i64) (.pair (.int .i64) (.pair (.int .i64) (.pair (.int .i64) (.pair (.int .i64) .unit))))) (.pair (.pair (.int .i64) (.pair (.slice 3 (.int .i64)) .unit)) .unit))))))))))) (.pair (.slice 195 (.pair (.int .i64) (.pair (.int .i64) (.pair (.pair (.int .i64) (.pair (.int .i64) (.pair (.int .i64) (.pair (.int .i64) (.pair (.int .i64) .unit))))) .unit)))) .unit))), .imm false (.slice 3 (.int .i64))] [.deep false (.slice 23 (.slice 3 (.int .i64)))] (a0, a1, ()) = p_spec_l10Open N a0 a1 := by kernel_rfl
theorem env172 : EnvOk Tryz.prog E172 := envOk mixed tabOk ⟨⟨enters228, ok228⟩, ⟨enters64, ok64⟩, trivial⟩ trivial trivial
noncomputable def s172 : FSpec := ⟨[.imm true (.pair (.slice 131 (.pair (.int .i64) (.pair (.pair (.int .i64) (.pair (.slice 148 (.slice 104 (.pair (.int .i64) (.pair (.int .i64) (.pair (.int .i64) (.pair (.pair (.int .i64) (.pair (.int .i64) (.pair (.int .i64) (.pair (.int .i64) (.pair (.int .i64) .unit))))) (.pair (.pair (.int .i64) (.pair (.slice 3 (.int .i64)) .unit)) .unit))))))) .unit)) (.pair (.slice 242 (.pair (.int .i64) (.pair (.int .i64) (.pair (.int .i64) (.pair (.int .i64) (.pair (.pair (.int .i64) (.pair (.int .i64) (.pair (.int .i64) (.pair (.int .i64) (.pair (.int .i64) .unit))))) (.pair (.pair (.int .i64) (.pair (.slice 3 (.int .i64)) .unit)) (.pair (.pair (.int .i64) (.pair (.slice 3 (.int .i64)) .unit)) (.pair .bool (.pair (.slice 3 (.int .i64)) (.pair (.slice 104 (.pair (.int .i64) (.pair (.int .i64) (.pair (.int .i64) (.pair (.pair (.int .i64) (.pair (.int .i64) (.pair (.int .i64) (.pair (.int .i64) (.pair (.int .i64) .unit))))) (.pair (.pair (.int .i64) (.pair (.slice 3 (.int .i64)) .unit)) .unit)))))) .unit))))))))))) .unit)))) (.pair (.slice 190 (.pair (.int .i64) (.pair (.int .i64) (.pair (.int .i64) (.pair (.int .i64) (.pair (.int .i64) (.pair (.int .i64) (.pair (.int .i64) (.pair (.int .i64) (.pair (.pair (.int .i64) (.pair (.int .i64) (.pair (.int .i64) (.pair (.int .i64) (.pair (.int .i64) .unit))))) (.pair (.pair (.int .i64) (.pair (.slice 3 (.int .i64)) .unit)) .unit))))))))))) (.pair (.slice 195 (.pair (.int .i64) (.pair (.int .i64) (.pair (.pair (.int .i64) (.pair (.int .i64) (.pair (.int .i64) (.pair (.int .i64) (.pair (.int .i64) .unit))))) .unit)))) .unit))), .imm false (.slice 3 (.int .i64))], [.deep false (.slice 23 (.slice 3 (.int .i64)))], fun x => S_spec_l10Open x.1 x.2.1⟩
theorem ok172 : FOk Tryz.prog 172 s172 := fn_says env172 Tryz.func172 rfl fun x y h => let ⟨N, hN⟩ := lim_some h; ⟨N, (r172 N x.1 x.2.1).trans hN⟩
theorem enters172 : Enters Tryz.prog 172 := enters Tryz.func172 (by kernel_rfl) rfl

/-! ## loop.example/g00698/spec.l20Open -/
noncomputable def E104 : Env := { tab := tab, sig := [(172, s172)], clos := [], live := [(0, [1, 3, 4], [.row 2 0 131 (.pair (.int .i64) (.pair (.pair (.int .i64) (.pair (.slice 148 (.slice 104 (.pair (.int .i64) (.pair (.int .i64) (.pair (.int .i64) (.pair (.pair (.int .i64) (.pair (.int .i64) (.pair (.int .i64) (.pair (.int .i64) (.pair (.int .i64) .unit))))) (.pair (.pair (.int .i64) (.pair (.slice 3 (.int .i64)) .unit)) .unit))))))) .unit)) (.pair (.slice 242 (.pair (.int .i64) (.pair (.int .i64) (.pair (.int .i64) (.pair (.int .i64) (.pair (.pair (.int .i64) (.pair (.int .i64) (.pair (.int .i64) (.pair (.int .i64) (.pair (.int .i64) .unit))))) (.pair (.pair (.int .i64) (.pair (.slice 3 (.int .i64)) .unit)) (.pair (.pair (.int .i64) (.pair (.slice 3 (.int .i64)) .unit)) (.pair .bool (.pair (.slice 3 (.int .i64)) (.pair (.slice 104 (.pair (.int .i64) (.pair (.int .i64) (.pair (.int .i64) (.pair (.pair (.int .i64) (.pair (.int .i64) (.pair (.int .i64) (.pair (.int .i64) (.pair (.int .i64) .unit))))) (.pair (.pair (.int .i64) (.pair (.slice 3 (.int .i64)) .unit)) .unit)))))) .unit))))))))))) .unit))) false []])], eqs := [], inl := [] }
set_option maxRecDepth 100000 in
theorem r104 (N : Nat) (a0 : T8) : runF N E104 Tryz.f104 [.imm true (.pair (.int .i64) (.pair (.slice 148 (.slice 104 (.pair (.int .i64) (.pair (.int .i64) (.pair (.int .i64) (.pair (.pair (.int .i64) (.pair (.int .i64) (.pair (.int .i64) (.pair (.int .i64) (.pair (.int .i64) .unit))))) (.pair (.pair (.int .i64) (.pair (.slice 3 (.int .i64)) .unit)) .unit))))))) .unit))] [.deep false (.slice 23 (.slice 3 (.int .i64)))] (a0, ()) = p_spec_l20Open N a0 := by kernel_rfl
theorem env104 : EnvOk Tryz.prog E104 := envOk mixed tabOk ⟨⟨enters172, ok172⟩, trivial⟩ trivial trivial
noncomputable def s104 : FSpec := ⟨[.imm true (.pair (.int .i64) (.pair (.slice 148 (.slice 104 (.pair (.int .i64) (.pair (.int .i64) (.pair (.int .i64) (.pair (.pair (.int .i64) (.pair (.int .i64) (.pair (.int .i64) (.pair (.int .i64) (.pair (.int .i64) .unit))))) (.pair (.pair (.int .i64) (.pair (.slice 3 (.int .i64)) .unit)) .unit))))))) .unit))], [.deep false (.slice 23 (.slice 3 (.int .i64)))], fun x => S_spec_l20Open x.1⟩
theorem ok104 : FOk Tryz.prog 104 s104 := fn_says env104 Tryz.func104 rfl fun x y h => let ⟨N, hN⟩ := lim_some h; ⟨N, (r104 N x.1).trans hN⟩
theorem enters104 : Enters Tryz.prog 104 := enters Tryz.func104 (by kernel_rfl) rfl

/-! ## loop.example/g00698/spec.l6Find -/
noncomputable def E75 : Env := { tab := tab, sig := [(141, s141)], clos := [], live := [(0, [1, 7, 8, 9], [])], eqs := [], inl := [] }
set_option maxRecDepth 100000 in
theorem r75 (N : Nat) (a0 : List (List Int)) (a1 : List Int) : runF N E75 Tryz.f75 [.imm false (.slice 23 (.slice 3 (.int .i64))), .imm false (.slice 3 (.int .i64))] [.imm false (.int .i64)] (a0, a1, ()) = p_spec_l6Find N a0 a1 := by kernel_rfl
theorem env75 : EnvOk Tryz.prog E75 := envOk mixed tabOk ⟨⟨enters141, ok141⟩, trivial⟩ trivial trivial
noncomputable def s75 : FSpec := ⟨[.imm false (.slice 23 (.slice 3 (.int .i64))), .imm false (.slice 3 (.int .i64))], [.imm false (.int .i64)], fun x => S_spec_l6Find x.1 x.2.1⟩
theorem ok75 : FOk Tryz.prog 75 s75 := fn_says env75 Tryz.func75 rfl fun x y h => let ⟨N, hN⟩ := lim_some h; ⟨N, (r75 N x.1 x.2.1).trans hN⟩
theorem enters75 : Enters Tryz.prog 75 := enters Tryz.func75 (by kernel_rfl) rfl

/-! ## loop.example/g00698/spec.l1Least -/
noncomputable def E87 : Env := { tab := tab, sig := [], clos := [], live := [], eqs := [], inl := [] }
set_option maxRecDepth 100000 in
theorem r87 (N : Nat) (a0 : Int) (a1 : Int) : runF N E87 Tryz.f87 [.imm false (.int .i64), .imm false (.int .i64)] [.imm false (.int .i64)] (a0, a1, ()) = p_spec_l1Least N a0 a1 := by kernel_rfl
theorem env87 : EnvOk Tryz.prog E87 := envOk mixed tabOk trivial trivial trivial
noncomputable def s87 : FSpec := ⟨[.imm false (.int .i64), .imm false (.int .i64)], [.imm false (.int .i64)], fun x => S_spec_l1Least x.1 x.2.1⟩
theorem ok87 : FOk Tryz.prog 87 s87 := fn_says env87 Tryz.func87 rfl fun x y h => ⟨0, (r87 0 x.1 x.2.1).trans h⟩
theorem enters87 : Enters Tryz.prog 87 := enters Tryz.func87 (by kernel_rfl) rfl

/-! ## loop.example/g00698/spec.l20Wait -/
noncomputable def E105 : Env := { tab := tab, sig := [], clos := [], live := [], eqs := [], inl := [] }
set_option maxRecDepth 100000 in
theorem r105 (N : Nat) (a0 : Int) (a1 : Int) (a2 : Int) : runF N E105 Tryz.f105 [.imm false (.int .i64), .imm false (.int .i64), .imm false (.int .i64)] [.imm false (.int .i64)] (a0, a1, a2, ()) = p_spec_l20Wait N a0 a1 a2 := by kernel_rfl
theorem env105 : EnvOk Tryz.prog E105 := envOk mixed tabOk trivial trivial trivial
noncomputable def s105 : FSpec := ⟨[.imm false (.int .i64), .imm false (.int .i64), .imm false (.int .i64)], [.imm false (.int .i64)], fun x => S_spec_l20Wait x.1 x.2.1 x.2.2.1⟩
theorem ok105 : FOk Tryz.prog 105 s105 := fn_says env105 Tryz.func105 rfl fun x y h => ⟨0, (r105 0 x.1 x.2.1 x.2.2.1).trans h⟩
theorem enters105 : Enters Tryz.prog 105 := enters Tryz.func105 (by kernel_rfl) rfl

/-! ## loop.example/g00698/spec.l20Tick -/
noncomputable def E50 : Env := { tab := tab, sig := [(104, s104), (75, s75), (87, s87), (105, s105)], clos := [], live := [(0, [2, 4, 6, 7, 18, 19, 20, 58, 59, 60, 61, 62, 63, 64, 65, 66, 67, 68], [.row 4 2 23 (.slice 3 (.int .i64)) false [], .row 4 3 3 (.int .i64) true [], .loose 5 []])], eqs := [], inl := [], brw := true }
set_option maxRecDepth 100000 in
theorem r50 (N : Nat) (a0 : T0) (a1 : T8) : runF N E50 Tryz.f50 [.imm true (.pair (.int .i64) (.pair (.int .i64) (.pair (.slice 23 (.slice 3 (.int .i64))) (.pair (.slice 3 (.int .i64)) .unit)))), .imm true (.pair (.int .i64) (.pair (.slice 148 (.slice 104 (.pair (.int .i64) (.pair (.int .i64) (.pair (.int .i64) (.pair (.pair (.int .i64) (.pair (.int .i64) (.pair (.int .i64) (.pair (.int .i64) (.pair (.int .i64) .unit))))) (.pair (.pair (.int .i64) (.pair (.slice 3 (.int .i64)) .unit)) .unit))))))) .unit))] [.imm true (.pair (.int .i64) (.pair (.int .i64) (.pair (.slice 23 (.slice 3 (.int .i64))) (.pair (.slice 3 (.int .i64)) .unit)))), .imm false (.slice 23 (.slice 3 (.int .i64)))] (a0, a1, ()) = p_spec_l20Tick N a0 a1 := by kernel_rfl
theorem env50 : EnvOk Tryz.prog E50 := envOk mixed tabOk ⟨⟨enters104, ok104⟩, ⟨enters75, ok75⟩, ⟨enters87, ok87⟩, ⟨enters105, ok105⟩, trivial⟩ trivial trivial
noncomputable def s50 : FSpec := ⟨[.imm true (.pair (.int .i64) (.pair (.int .i64) (.pair (.slice 23 (.slice 3 (.int .i64))) (.pair (.slice 3 (.int .i64)) .unit)))), .imm true (.pair (.int .i64) (.pair (.slice 148 (.slice 104 (.pair (.int .i64) (.pair (.int .i64) (.pair (.int .i64) (.pair (.pair (.int .i64) (.pair (.int .i64) (.pair (.int .i64) (.pair (.int .i64) (.pair (.int .i64) .unit))))) (.pair (.pair (.int .i64) (.pair (.slice 3 (.int .i64)) .unit)) .unit))))))) .unit))], [.imm true (.pair (.int .i64) (.pair (.int .i64) (.pair (.slice 23 (.slice 3 (.int .i64))) (.pair (.slice 3 (.int .i64)) .unit)))), .imm false (.slice 23 (.slice 3 (.int .i64)))], fun x => S_spec_l20Tick x.1 x.2.1⟩
theorem ok50 : FOk Tryz.prog 50 s50 := fn_says env50 Tryz.func50 rfl fun x y h => let ⟨N, hN⟩ := lim_some h; ⟨N, (r50 N x.1 x.2.1).trans hN⟩
theorem enters50 : Enters Tryz.prog 50 := enters Tryz.func50 (by kernel_rfl) rfl

/-! ## loop.example/g00698/spec.TickWatch -/
noncomputable def E10 : Env := { tab := tab, sig := [(48, s48), (49, s49), (50, s50)], clos := [], live := [], eqs := [], inl := [] }
set_option maxRecDepth 100000 in
theorem r10 (N : Nat) (a0 : T0) (a1 : T8) : runF N E10 Tryz.f10 [.imm true (.pair (.int .i64) (.pair (.int .i64) (.pair (.slice 23 (.slice 3 (.int .i64))) (.pair (.slice 3 (.int .i64)) .unit)))), .imm true (.pair (.int .i64) (.pair (.slice 148 (.slice 104 (.pair (.int .i64) (.pair (.int .i64) (.pair (.int .i64) (.pair (.pair (.int .i64) (.pair (.int .i64) (.pair (.int .i64) (.pair (.int .i64) (.pair (.int .i64) .unit))))) (.pair (.pair (.int .i64) (.pair (.slice 3 (.int .i64)) .unit)) .unit))))))) .unit))] [.imm true (.pair (.int .i64) (.pair (.int .i64) (.pair (.slice 23 (.slice 3 (.int .i64))) (.pair (.slice 3 (.int .i64)) .unit)))), .imm false (.slice 23 (.slice 3 (.int .i64))), .imm false .bool] (a0, a1, ()) = p_spec_TickWatch N a0 a1 := by kernel_rfl
theorem env10 : EnvOk Tryz.prog E10 := envOk mixed tabOk ⟨⟨enters48, ok48⟩, ⟨enters49, ok49⟩, ⟨enters50, ok50⟩, trivial⟩ trivial trivial
noncomputable def s10 : FSpec := ⟨[.imm true (.pair (.int .i64) (.pair (.int .i64) (.pair (.slice 23 (.slice 3 (.int .i64))) (.pair (.slice 3 (.int .i64)) .unit)))), .imm true (.pair (.int .i64) (.pair (.slice 148 (.slice 104 (.pair (.int .i64) (.pair (.int .i64) (.pair (.int .i64) (.pair (.pair (.int .i64) (.pair (.int .i64) (.pair (.int .i64) (.pair (.int .i64) (.pair (.int .i64) .unit))))) (.pair (.pair (.int .i64) (.pair (.slice 3 (.int .i64)) .unit)) .unit))))))) .unit))], [.imm true (.pair (.int .i64) (.pair (.int .i64) (.pair (.slice 23 (.slice 3 (.int .i64))) (.pair (.slice 3 (.int .i64)) .unit)))), .imm false (.slice 23 (.slice 3 (.int .i64))), .imm false .bool], fun x => S_spec_TickWatch x.1 x.2.1⟩
theorem ok10 : FOk Tryz.prog 10 s10 := fn_says env10 Tryz.func10 rfl fun x y h => ⟨0, (r10 0 x.1 x.2.1).trans h⟩
theorem enters10 : Enters Tryz.prog 10 := enters Tryz.func10 (by kernel_rfl) rfl

/-! ## loop.example/g00698/impl.IsGroup -/
noncomputable def E107 : Env := { tab := tab, sig := [], clos := [], live := [], eqs := [], inl := [] }
set_option maxRecDepth 100000 in
theorem r107 (N : Nat) (a0 : Int) : runF N E107 Tryz.f107 [.imm false (.int .i64)] [.imm false .bool] (a0, ()) = p_impl_IsGroup N a0 := by kernel_rfl
theorem env107 : EnvOk Tryz.prog E107 := envOk mixed tabOk trivial trivial trivial
noncomputable def s107 : FSpec := ⟨[.imm false (.int .i64)], [.imm false .bool], fun x => S_impl_IsGroup x.1⟩
theorem ok107 : FOk Tryz.prog 107 s107 := fn_says env107 Tryz.func107 rfl fun x y h => ⟨0, (r107 0 x.1).trans h⟩
theorem enters107 : Enters Tryz.prog 107 := enters Tryz.func107 (by kernel_rfl) rfl

/-! ## loop.example/g00698/impl.within -/
noncomputable def E67 : Env := { tab := tab, sig := [], clos := [], live := [], eqs := [], inl := [] }
set_option maxRecDepth 100000 in
theorem r67 (N : Nat) (a0 : Int) (a1 : Int) (a2 : Int) : runF N E67 Tryz.f67 [.imm false (.int .i64), .imm false (.int .i64), .imm false (.int .i64)] [.imm false .bool] (a0, a1, a2, ()) = p_impl_within N a0 a1 a2 := by kernel_rfl
theorem env67 : EnvOk Tryz.prog E67 := envOk mixed tabOk trivial trivial trivial
noncomputable def s67 : FSpec := ⟨[.imm false (.int .i64), .imm false (.int .i64), .imm false (.int .i64)], [.imm false .bool], fun x => S_impl_within x.1 x.2.1 x.2.2.1⟩
theorem ok67 : FOk Tryz.prog 67 s67 := fn_says env67 Tryz.func67 rfl fun x y h => ⟨0, (r67 0 x.1 x.2.1 x.2.2.1).trans h⟩
theorem enters67 : Enters Tryz.prog 67 := enters Tryz.func67 (by kernel_rfl) rfl

/-! ## loop.example/g00698/impl.isInstance -/
noncomputable def E159 : Env := { tab := tab, sig := [(107, s107), (67, s67)], clos := [], live := [], eqs := [], inl := [] }
set_option maxRecDepth 100000 in
theorem r159 (N : Nat) (a0 : Int) (a1 : Int) (a2 : Int) : runF N E159 Tryz.f159 [.imm false (.int .i64), .imm false (.int .i64), .imm false (.int .i64)] [.imm false .bool] (a0, a1, a2, ()) = p_impl_isInstance N a0 a1 a2 := by kernel_rfl
theorem env159 : EnvOk Tryz.prog E159 := envOk mixed tabOk ⟨⟨enters107, ok107⟩, ⟨enters67, ok67⟩, trivial⟩ trivial trivial
noncomputable def s159 : FSpec := ⟨[.imm false (.int .i64), .imm false (.int .i64), .imm false (.int .i64)], [.imm false .bool], fun x => S_impl_isInstance x.1 x.2.1 x.2.2.1⟩
theorem ok159 : FOk Tryz.prog 159 s159 := fn_says env159 Tryz.func159 rfl fun x y h => ⟨0, (r159 0 x.1 x.2.1 x.2.2.1).trans h⟩
theorem enters159 : Enters Tryz.prog 159 := enters Tryz.func159 (by kernel_rfl) rfl

/-! ## cmp.isNaN[int] -/
noncomputable def E208 : Env := { tab := tab, sig := [], clos := [], live := [], eqs := [], inl := [] }
set_option maxRecDepth 100000 in
theorem r208 (N : Nat) (a0 : Int) : runF N E208 Tryz.f208 [.imm false (.int .i64)] [.imm false .bool] (a0, ()) = p_cmp_isNaN_int N a0 := by kernel_rfl
theorem env208 : EnvOk Tryz.prog E208 := envOk mixed tabOk trivial trivial trivial
noncomputable def s208 : FSpec := ⟨[.imm false (.int .i64)], [.imm false .bool], fun x => S_cmp_isNaN_int x.1⟩
theorem ok208 : FOk Tryz.prog 208 s208 := fn_says env208 Tryz.func208 rfl fun x y h => ⟨0, (r208 0 x.1).trans h⟩
theorem enters208 : Enters Tryz.prog 208 := enters Tryz.func208 (by kernel_rfl) rfl

/-! ## cmp.Compare[int] -/
noncomputable def E139 : Env := { tab := tab, sig := [(208, s208)], clos := [], live := [], eqs := [], inl := [] }
set_option maxRecDepth 100000 in
theorem r139 (N : Nat) (a0 : Int) (a1 : Int) : runF N E139 Tryz.f139 [.imm false (.int .i64), .imm false (.int .i64)] [.imm false (.int .i64)] (a0, a1, ()) = p_cmp_Compare_int N a0 a1 := by kernel_rfl
theorem env139 : EnvOk Tryz.prog E139 := envOk mixed tabOk ⟨⟨enters208, ok208⟩, trivial⟩ trivial trivial
noncomputable def s139 : FSpec := ⟨[.imm false (.int .i64), .imm false (.int .i64)], [.imm false (.int .i64)], fun x => S_cmp_Compare_int x.1 x.2.1⟩
theorem ok139 : FOk Tryz.prog 139 s139 := fn_says env139 Tryz.func139 rfl fun x y h => ⟨0, (r139 0 x.1 x.2.1).trans h⟩
theorem enters139 : Enters Tryz.prog 139 := enters Tryz.func139 (by kernel_rfl) rfl

end Go.Proofs.YtnognplemkdjiaaGreat.Am
