/- Functions, as they run on data. No condition. -/
import Derived.Test.YthijgmbdlkeebaaAmTab
import Derived.Test.YthijgmbdlkeebaaAmQ
set_option linter.unusedVariables false
set_option maxRecDepth 100000
namespace Go.Proofs.Ythijgmbdlkeebaa.Am
open Go.AM Go.AM.P Go.Proofs
/-! ## loop.example/g00698/laws.szIntS -/
noncomputable def E81 : Env := { tab := tab, sig := [], clos := [], live := [], eqs := [], inl := [] }
set_option maxRecDepth 100000 in
theorem r81 (N : Nat) (a0 : List Int) (a1 : Int) : runF N E81 Try.f81 [.imm false (.slice 3 (.int .i64)), .imm false (.int .i64)] [.imm false (.int .i64)] (a0, a1, ()) = p_laws_szIntS N a0 a1 := by kernel_rfl
theorem env81 : EnvOk Try.prog E81 := envOk mixed tabOk trivial trivial trivial
noncomputable def s81 : FSpec := ⟨[.imm false (.slice 3 (.int .i64)), .imm false (.int .i64)], [.imm false (.int .i64)], fun x => S_laws_szIntS x.1 x.2.1⟩
theorem ok81 : FOk Try.prog 81 s81 := fn_says env81 Try.func81 rfl fun x y h => ⟨0, (r81 0 x.1 x.2.1).trans h⟩
theorem enters81 : Enters Try.prog 81 := enters Try.func81 (by kernel_rfl) rfl

/-! ## loop.example/g00698/laws.szAttr -/
noncomputable def E169 : Env := { tab := tab, sig := [(81, s81)], clos := [], live := [], eqs := [], inl := [] }
set_option maxRecDepth 100000 in
theorem r169 (N : Nat) (a0 : T6) (a1 : Int) : runF N E169 Try.f169 [.imm true (.pair (.int .i64) (.pair (.slice 3 (.int .i64)) .unit)), .imm false (.int .i64)] [.imm false (.int .i64)] (a0, a1, ()) = p_laws_szAttr N a0 a1 := by kernel_rfl
theorem env169 : EnvOk Try.prog E169 := envOk mixed tabOk ⟨⟨enters81, ok81⟩, trivial⟩ trivial trivial
noncomputable def s169 : FSpec := ⟨[.imm true (.pair (.int .i64) (.pair (.slice 3 (.int .i64)) .unit)), .imm false (.int .i64)], [.imm false (.int .i64)], fun x => S_laws_szAttr x.1 x.2.1⟩
theorem ok169 : FOk Try.prog 169 s169 := fn_says env169 Try.func169 rfl fun x y h => ⟨0, (r169 0 x.1 x.2.1).trans h⟩
theorem enters169 : Enters Try.prog 169 := enters Try.func169 (by kernel_rfl) rfl

/-! ## loop.example/g00698/laws.szRow -/
noncomputable def E150 : Env := { tab := tab, sig := [(169, s169)], clos := [], live := [], eqs := [], inl := [] }
set_option maxRecDepth 100000 in
theorem r150 (N : Nat) (a0 : T7) (a1 : Int) : runF N E150 Try.f150 [.imm true (.pair (.int .i64) (.pair (.int .i64) (.pair (.int .i64) (.pair (.pair (.int .i64) (.pair (.int .i64) (.pair (.int .i64) (.pair (.int .i64) (.pair (.int .i64) .unit))))) (.pair (.pair (.int .i64) (.pair (.slice 3 (.int .i64)) .unit)) .unit))))), .imm false (.int .i64)] [.imm false (.int .i64)] (a0, a1, ()) = p_laws_szRow N a0 a1 := by kernel_rfl
theorem env150 : EnvOk Try.prog E150 := envOk mixed tabOk ⟨⟨enters169, ok169⟩, trivial⟩ trivial trivial
noncomputable def s150 : FSpec := ⟨[.imm true (.pair (.int .i64) (.pair (.int .i64) (.pair (.int .i64) (.pair (.pair (.int .i64) (.pair (.int .i64) (.pair (.int .i64) (.pair (.int .i64) (.pair (.int .i64) .unit))))) (.pair (.pair (.int .i64) (.pair (.slice 3 (.int .i64)) .unit)) .unit))))), .imm false (.int .i64)], [.imm false (.int .i64)], fun x => S_laws_szRow x.1 x.2.1⟩
theorem ok150 : FOk Try.prog 150 s150 := fn_says env150 Try.func150 rfl fun x y h => ⟨0, (r150 0 x.1 x.2.1).trans h⟩
theorem enters150 : Enters Try.prog 150 := enters Try.func150 (by kernel_rfl) rfl

/-! ## loop.example/g00698/laws.szRowS -/
noncomputable def E112 : Env := { tab := tab, sig := [(150, s150)], clos := [], live := [(0, [0, 1, 5], [])], eqs := [], inl := [] }
set_option maxRecDepth 100000 in
theorem r112 (N : Nat) (a0 : List T7) (a1 : Int) : runF N E112 Try.f112 [.imm false (.slice 189 (.pair (.int .i64) (.pair (.int .i64) (.pair (.int .i64) (.pair (.pair (.int .i64) (.pair (.int .i64) (.pair (.int .i64) (.pair (.int .i64) (.pair (.int .i64) .unit))))) (.pair (.pair (.int .i64) (.pair (.slice 3 (.int .i64)) .unit)) .unit)))))), .imm false (.int .i64)] [.imm false (.int .i64)] (a0, a1, ()) = p_laws_szRowS N a0 a1 := by kernel_rfl
theorem env112 : EnvOk Try.prog E112 := envOk mixed tabOk ⟨⟨enters150, ok150⟩, trivial⟩ trivial trivial
noncomputable def s112 : FSpec := ⟨[.imm false (.slice 189 (.pair (.int .i64) (.pair (.int .i64) (.pair (.int .i64) (.pair (.pair (.int .i64) (.pair (.int .i64) (.pair (.int .i64) (.pair (.int .i64) (.pair (.int .i64) .unit))))) (.pair (.pair (.int .i64) (.pair (.slice 3 (.int .i64)) .unit)) .unit)))))), .imm false (.int .i64)], [.imm false (.int .i64)], fun x => S_laws_szRowS x.1 x.2.1⟩
theorem ok112 : FOk Try.prog 112 s112 := fn_says env112 Try.func112 rfl fun x y h => let ⟨N, hN⟩ := lim_some h; ⟨N, (r112 N x.1 x.2.1).trans hN⟩
theorem enters112 : Enters Try.prog 112 := enters Try.func112 (by kernel_rfl) rfl

/-! ## loop.example/g00698/laws.szRowSS -/
noncomputable def E68 : Env := { tab := tab, sig := [(112, s112)], clos := [], live := [(0, [0, 1, 5], [])], eqs := [], inl := [] }
set_option maxRecDepth 100000 in
theorem r68 (N : Nat) (a0 : List (List T7)) (a1 : Int) : runF N E68 Try.f68 [.imm false (.slice 146 (.slice 189 (.pair (.int .i64) (.pair (.int .i64) (.pair (.int .i64) (.pair (.pair (.int .i64) (.pair (.int .i64) (.pair (.int .i64) (.pair (.int .i64) (.pair (.int .i64) .unit))))) (.pair (.pair (.int .i64) (.pair (.slice 3 (.int .i64)) .unit)) .unit))))))), .imm false (.int .i64)] [.imm false (.int .i64)] (a0, a1, ()) = p_laws_szRowSS N a0 a1 := by kernel_rfl
theorem env68 : EnvOk Try.prog E68 := envOk mixed tabOk ⟨⟨enters112, ok112⟩, trivial⟩ trivial trivial
noncomputable def s68 : FSpec := ⟨[.imm false (.slice 146 (.slice 189 (.pair (.int .i64) (.pair (.int .i64) (.pair (.int .i64) (.pair (.pair (.int .i64) (.pair (.int .i64) (.pair (.int .i64) (.pair (.int .i64) (.pair (.int .i64) .unit))))) (.pair (.pair (.int .i64) (.pair (.slice 3 (.int .i64)) .unit)) .unit))))))), .imm false (.int .i64)], [.imm false (.int .i64)], fun x => S_laws_szRowSS x.1 x.2.1⟩
theorem ok68 : FOk Try.prog 68 s68 := fn_says env68 Try.func68 rfl fun x y h => let ⟨N, hN⟩ := lim_some h; ⟨N, (r68 N x.1 x.2.1).trans hN⟩
theorem enters68 : Enters Try.prog 68 := enters Try.func68 (by kernel_rfl) rfl

/-! ## loop.example/g00698/laws.szTable -/
noncomputable def E27 : Env := { tab := tab, sig := [(68, s68)], clos := [], live := [], eqs := [], inl := [] }
set_option maxRecDepth 100000 in
theorem r27 (N : Nat) (a0 : T8) (a1 : Int) : runF N E27 Try.f27 [.imm true (.pair (.int .i64) (.pair (.slice 146 (.slice 189 (.pair (.int .i64) (.pair (.int .i64) (.pair (.int .i64) (.pair (.pair (.int .i64) (.pair (.int .i64) (.pair (.int .i64) (.pair (.int .i64) (.pair (.int .i64) .unit))))) (.pair (.pair (.int .i64) (.pair (.slice 3 (.int .i64)) .unit)) .unit))))))) .unit)), .imm false (.int .i64)] [.imm false (.int .i64)] (a0, a1, ()) = p_laws_szTable N a0 a1 := by kernel_rfl
theorem env27 : EnvOk Try.prog E27 := envOk mixed tabOk ⟨⟨enters68, ok68⟩, trivial⟩ trivial trivial
noncomputable def s27 : FSpec := ⟨[.imm true (.pair (.int .i64) (.pair (.slice 146 (.slice 189 (.pair (.int .i64) (.pair (.int .i64) (.pair (.int .i64) (.pair (.pair (.int .i64) (.pair (.int .i64) (.pair (.int .i64) (.pair (.int .i64) (.pair (.int .i64) .unit))))) (.pair (.pair (.int .i64) (.pair (.slice 3 (.int .i64)) .unit)) .unit))))))) .unit)), .imm false (.int .i64)], [.imm false (.int .i64)], fun x => S_laws_szTable x.1 x.2.1⟩
theorem ok27 : FOk Try.prog 27 s27 := fn_says env27 Try.func27 rfl fun x y h => ⟨0, (r27 0 x.1 x.2.1).trans h⟩
theorem enters27 : Enters Try.prog 27 := enters Try.func27 (by kernel_rfl) rfl

/-! ## loop.example/g00698/laws.toCmd -/
noncomputable def E105 : Env := { tab := tab, sig := [], clos := [], live := [], eqs := [], inl := [] }
set_option maxRecDepth 100000 in
theorem r105 (N : Nat) (a0 : T2) : runF N E105 Try.f105 [.imm true (.pair (.int .i64) (.pair (.int .i64) (.pair (.int .i64) (.pair (.int .i64) (.pair (.int .i64) .unit)))))] [.imm true (.pair (.int .i64) (.pair (.int .i64) (.pair (.int .i64) (.pair (.int .i64) (.pair (.int .i64) .unit)))))] (a0, ()) = p_laws_toCmd N a0 := by kernel_rfl
theorem env105 : EnvOk Try.prog E105 := envOk mixed tabOk trivial trivial trivial
noncomputable def s105 : FSpec := ⟨[.imm true (.pair (.int .i64) (.pair (.int .i64) (.pair (.int .i64) (.pair (.int .i64) (.pair (.int .i64) .unit)))))], [.imm true (.pair (.int .i64) (.pair (.int .i64) (.pair (.int .i64) (.pair (.int .i64) (.pair (.int .i64) .unit)))))], fun x => S_laws_toCmd x.1⟩
theorem ok105 : FOk Try.prog 105 s105 := fn_says env105 Try.func105 rfl fun x y h => ⟨0, (r105 0 x.1).trans h⟩
theorem enters105 : Enters Try.prog 105 := enters Try.func105 (by kernel_rfl) rfl

/-! ## loop.example/g00698/laws.toIntS -/
noncomputable def E13 : Env := { tab := tab, sig := [], clos := [], live := [(0, [0, 3, 4], [])], eqs := [], inl := [] }
set_option maxRecDepth 100000 in
theorem r13 (N : Nat) (a0 : List Int) : runF N E13 Try.f13 [.imm false (.slice 3 (.int .i64))] [.deep false (.slice 3 (.int .i64))] (a0, ()) = p_laws_toIntS N a0 := by kernel_rfl
theorem env13 : EnvOk Try.prog E13 := envOk mixed tabOk trivial trivial trivial
noncomputable def s13 : FSpec := ⟨[.imm false (.slice 3 (.int .i64))], [.deep false (.slice 3 (.int .i64))], fun x => S_laws_toIntS x.1⟩
theorem ok13 : FOk Try.prog 13 s13 := fn_says env13 Try.func13 rfl fun x y h => let ⟨N, hN⟩ := lim_some h; ⟨N, (r13 N x.1).trans hN⟩
theorem enters13 : Enters Try.prog 13 := enters Try.func13 (by kernel_rfl) rfl

/-! ## loop.example/g00698/laws.toAttr -/
noncomputable def E171 : Env := { tab := tab, sig := [(13, s13)], clos := [], live := [], eqs := [], inl := [] }
set_option maxRecDepth 100000 in
theorem r171 (N : Nat) (a0 : T6) : runF N E171 Try.f171 [.imm true (.pair (.int .i64) (.pair (.slice 3 (.int .i64)) .unit))] [.deep true (.pair (.int .i64) (.pair (.slice 3 (.int .i64)) .unit))] (a0, ()) = p_laws_toAttr N a0 := by kernel_rfl
theorem env171 : EnvOk Try.prog E171 := envOk mixed tabOk ⟨⟨enters13, ok13⟩, trivial⟩ trivial trivial
noncomputable def s171 : FSpec := ⟨[.imm true (.pair (.int .i64) (.pair (.slice 3 (.int .i64)) .unit))], [.deep true (.pair (.int .i64) (.pair (.slice 3 (.int .i64)) .unit))], fun x => S_laws_toAttr x.1⟩
theorem ok171 : FOk Try.prog 171 s171 := fn_says env171 Try.func171 rfl fun x y h => ⟨0, (r171 0 x.1).trans h⟩
theorem enters171 : Enters Try.prog 171 := enters Try.func171 (by kernel_rfl) rfl

/-! ## loop.example/g00698/laws.toRow -/
noncomputable def E154 : Env := { tab := tab, sig := [(105, s105), (171, s171)], clos := [], live := [], eqs := [], inl := [] }
set_option maxRecDepth 100000 in
theorem r154 (N : Nat) (a0 : T7) : runF N E154 Try.f154 [.imm true (.pair (.int .i64) (.pair (.int .i64) (.pair (.int .i64) (.pair (.pair (.int .i64) (.pair (.int .i64) (.pair (.int .i64) (.pair (.int .i64) (.pair (.int .i64) .unit))))) (.pair (.pair (.int .i64) (.pair (.slice 3 (.int .i64)) .unit)) .unit)))))] [.deep true (.pair (.int .i64) (.pair (.int .i64) (.pair (.int .i64) (.pair (.pair (.int .i64) (.pair (.int .i64) (.pair (.int .i64) (.pair (.int .i64) (.pair (.int .i64) .unit))))) (.pair (.pair (.int .i64) (.pair (.slice 3 (.int .i64)) .unit)) .unit)))))] (a0, ()) = p_laws_toRow N a0 := by kernel_rfl
theorem env154 : EnvOk Try.prog E154 := envOk mixed tabOk ⟨⟨enters105, ok105⟩, ⟨enters171, ok171⟩, trivial⟩ trivial trivial
noncomputable def s154 : FSpec := ⟨[.imm true (.pair (.int .i64) (.pair (.int .i64) (.pair (.int .i64) (.pair (.pair (.int .i64) (.pair (.int .i64) (.pair (.int .i64) (.pair (.int .i64) (.pair (.int .i64) .unit))))) (.pair (.pair (.int .i64) (.pair (.slice 3 (.int .i64)) .unit)) .unit)))))], [.deep true (.pair (.int .i64) (.pair (.int .i64) (.pair (.int .i64) (.pair (.pair (.int .i64) (.pair (.int .i64) (.pair (.int .i64) (.pair (.int .i64) (.pair (.int .i64) .unit))))) (.pair (.pair (.int .i64) (.pair (.slice 3 (.int .i64)) .unit)) .unit)))))], fun x => S_laws_toRow x.1⟩
theorem ok154 : FOk Try.prog 154 s154 := fn_says env154 Try.func154 rfl fun x y h => ⟨0, (r154 0 x.1).trans h⟩
theorem enters154 : Enters Try.prog 154 := enters Try.func154 (by kernel_rfl) rfl

/-! ## loop.example/g00698/laws.toRowS -/
noncomputable def E114 : Env := { tab := tab, sig := [(154, s154)], clos := [], live := [(0, [0, 3, 4], [])], eqs := [], inl := [] }
set_option maxRecDepth 100000 in
theorem r114 (N : Nat) (a0 : List T7) : runF N E114 Try.f114 [.imm false (.slice 189 (.pair (.int .i64) (.pair (.int .i64) (.pair (.int .i64) (.pair (.pair (.int .i64) (.pair (.int .i64) (.pair (.int .i64) (.pair (.int .i64) (.pair (.int .i64) .unit))))) (.pair (.pair (.int .i64) (.pair (.slice 3 (.int .i64)) .unit)) .unit))))))] [.deep false (.slice 150 (.pair (.int .i64) (.pair (.int .i64) (.pair (.int .i64) (.pair (.pair (.int .i64) (.pair (.int .i64) (.pair (.int .i64) (.pair (.int .i64) (.pair (.int .i64) .unit))))) (.pair (.pair (.int .i64) (.pair (.slice 3 (.int .i64)) .unit)) .unit))))))] (a0, ()) = p_laws_toRowS N a0 := by kernel_rfl
theorem env114 : EnvOk Try.prog E114 := envOk mixed tabOk ⟨⟨enters154, ok154⟩, trivial⟩ trivial trivial
noncomputable def s114 : FSpec := ⟨[.imm false (.slice 189 (.pair (.int .i64) (.pair (.int .i64) (.pair (.int .i64) (.pair (.pair (.int .i64) (.pair (.int .i64) (.pair (.int .i64) (.pair (.int .i64) (.pair (.int .i64) .unit))))) (.pair (.pair (.int .i64) (.pair (.slice 3 (.int .i64)) .unit)) .unit))))))], [.deep false (.slice 150 (.pair (.int .i64) (.pair (.int .i64) (.pair (.int .i64) (.pair (.pair (.int .i64) (.pair (.int .i64) (.pair (.int .i64) (.pair (.int .i64) (.pair (.int .i64) .unit))))) (.pair (.pair (.int .i64) (.pair (.slice 3 (.int .i64)) .unit)) .unit))))))], fun x => S_laws_toRowS x.1⟩
theorem ok114 : FOk Try.prog 114 s114 := fn_says env114 Try.func114 rfl fun x y h => let ⟨N, hN⟩ := lim_some h; ⟨N, (r114 N x.1).trans hN⟩
theorem enters114 : Enters Try.prog 114 := enters Try.func114 (by kernel_rfl) rfl

/-! ## loop.example/g00698/laws.toRowSS -/
noncomputable def E72 : Env := { tab := tab, sig := [(114, s114)], clos := [], live := [(0, [0, 3, 4], [])], eqs := [], inl := [] }
set_option maxRecDepth 100000 in
theorem r72 (N : Nat) (a0 : List (List T7)) : runF N E72 Try.f72 [.imm false (.slice 146 (.slice 189 (.pair (.int .i64) (.pair (.int .i64) (.pair (.int .i64) (.pair (.pair (.int .i64) (.pair (.int .i64) (.pair (.int .i64) (.pair (.int .i64) (.pair (.int .i64) .unit))))) (.pair (.pair (.int .i64) (.pair (.slice 3 (.int .i64)) .unit)) .unit)))))))] [.deep false (.slice 107 (.slice 150 (.pair (.int .i64) (.pair (.int .i64) (.pair (.int .i64) (.pair (.pair (.int .i64) (.pair (.int .i64) (.pair (.int .i64) (.pair (.int .i64) (.pair (.int .i64) .unit))))) (.pair (.pair (.int .i64) (.pair (.slice 3 (.int .i64)) .unit)) .unit)))))))] (a0, ()) = p_laws_toRowSS N a0 := by kernel_rfl
theorem env72 : EnvOk Try.prog E72 := envOk mixed tabOk ⟨⟨enters114, ok114⟩, trivial⟩ trivial trivial
noncomputable def s72 : FSpec := ⟨[.imm false (.slice 146 (.slice 189 (.pair (.int .i64) (.pair (.int .i64) (.pair (.int .i64) (.pair (.pair (.int .i64) (.pair (.int .i64) (.pair (.int .i64) (.pair (.int .i64) (.pair (.int .i64) .unit))))) (.pair (.pair (.int .i64) (.pair (.slice 3 (.int .i64)) .unit)) .unit)))))))], [.deep false (.slice 107 (.slice 150 (.pair (.int .i64) (.pair (.int .i64) (.pair (.int .i64) (.pair (.pair (.int .i64) (.pair (.int .i64) (.pair (.int .i64) (.pair (.int .i64) (.pair (.int .i64) .unit))))) (.pair (.pair (.int .i64) (.pair (.slice 3 (.int .i64)) .unit)) .unit)))))))], fun x => S_laws_toRowSS x.1⟩
theorem ok72 : FOk Try.prog 72 s72 := fn_says env72 Try.func72 rfl fun x y h => let ⟨N, hN⟩ := lim_some h; ⟨N, (r72 N x.1).trans hN⟩
theorem enters72 : Enters Try.prog 72 := enters Try.func72 (by kernel_rfl) rfl

/-! ## loop.example/g00698/laws.toTable -/
noncomputable def E29 : Env := { tab := tab, sig := [(72, s72)], clos := [], live := [], eqs := [], inl := [] }
set_option maxRecDepth 100000 in
theorem r29 (N : Nat) (a0 : T8) : runF N E29 Try.f29 [.imm true (.pair (.int .i64) (.pair (.slice 146 (.slice 189 (.pair (.int .i64) (.pair (.int .i64) (.pair (.int .i64) (.pair (.pair (.int .i64) (.pair (.int .i64) (.pair (.int .i64) (.pair (.int .i64) (.pair (.int .i64) .unit))))) (.pair (.pair (.int .i64) (.pair (.slice 3 (.int .i64)) .unit)) .unit))))))) .unit))] [.deep true (.pair (.int .i64) (.pair (.slice 107 (.slice 150 (.pair (.int .i64) (.pair (.int .i64) (.pair (.int .i64) (.pair (.pair (.int .i64) (.pair (.int .i64) (.pair (.int .i64) (.pair (.int .i64) (.pair (.int .i64) .unit))))) (.pair (.pair (.int .i64) (.pair (.slice 3 (.int .i64)) .unit)) .unit))))))) .unit))] (a0, ()) = p_laws_toTable N a0 := by kernel_rfl
theorem env29 : EnvOk Try.prog E29 := envOk mixed tabOk ⟨⟨enters72, ok72⟩, trivial⟩ trivial trivial
noncomputable def s29 : FSpec := ⟨[.imm true (.pair (.int .i64) (.pair (.slice 146 (.slice 189 (.pair (.int .i64) (.pair (.int .i64) (.pair (.int .i64) (.pair (.pair (.int .i64) (.pair (.int .i64) (.pair (.int .i64) (.pair (.int .i64) (.pair (.int .i64) .unit))))) (.pair (.pair (.int .i64) (.pair (.slice 3 (.int .i64)) .unit)) .unit))))))) .unit))], [.deep true (.pair (.int .i64) (.pair (.slice 107 (.slice 150 (.pair (.int .i64) (.pair (.int .i64) (.pair (.int .i64) (.pair (.pair (.int .i64) (.pair (.int .i64) (.pair (.int .i64) (.pair (.int .i64) (.pair (.int .i64) .unit))))) (.pair (.pair (.int .i64) (.pair (.slice 3 (.int .i64)) .unit)) .unit))))))) .unit))], fun x => S_laws_toTable x.1⟩
theorem ok29 : FOk Try.prog 29 s29 := fn_says env29 Try.func29 rfl fun x y h => ⟨0, (r29 0 x.1).trans h⟩
theorem enters29 : Enters Try.prog 29 := enters Try.func29 (by kernel_rfl) rfl

/-! ## loop.example/g00698/spec.IsGroup -/
noncomputable def E95 : Env := { tab := tab, sig := [], clos := [], live := [], eqs := [], inl := [] }
set_option maxRecDepth 100000 in
theorem r95 (N : Nat) (a0 : Int) : runF N E95 Try.f95 [.imm false (.int .i64)] [.imm false .bool] (a0, ()) = p_spec_IsGroup N a0 := by kernel_rfl
theorem env95 : EnvOk Try.prog E95 := envOk mixed tabOk trivial trivial trivial
noncomputable def s95 : FSpec := ⟨[.imm false (.int .i64)], [.imm false .bool], fun x => S_spec_IsGroup x.1⟩
theorem ok95 : FOk Try.prog 95 s95 := fn_says env95 Try.func95 rfl fun x y h => ⟨0, (r95 0 x.1).trans h⟩
theorem enters95 : Enters Try.prog 95 := enters Try.func95 (by kernel_rfl) rfl

/-! ## loop.example/g00698/spec.l1In -/
noncomputable def E82 : Env := { tab := tab, sig := [], clos := [], live := [], eqs := [], inl := [] }
set_option maxRecDepth 100000 in
theorem r82 (N : Nat) (a0 : Int) (a1 : Int) (a2 : Int) : runF N E82 Try.f82 [.imm false (.int .i64), .imm false (.int .i64), .imm false (.int .i64)] [.imm false .bool] (a0, a1, a2, ()) = p_spec_l1In N a0 a1 a2 := by kernel_rfl
theorem env82 : EnvOk Try.prog E82 := envOk mixed tabOk trivial trivial trivial
noncomputable def s82 : FSpec := ⟨[.imm false (.int .i64), .imm false (.int .i64), .imm false (.int .i64)], [.imm false .bool], fun x => S_spec_l1In x.1 x.2.1 x.2.2.1⟩
theorem ok82 : FOk Try.prog 82 s82 := fn_says env82 Try.func82 rfl fun x y h => ⟨0, (r82 0 x.1 x.2.1 x.2.2.1).trans h⟩
theorem enters82 : Enters Try.prog 82 := enters Try.func82 (by kernel_rfl) rfl

/-! ## loop.example/g00698/spec.l3None -/
noncomputable def E152 : Env := { tab := tab, sig := [], clos := [], live := [], eqs := [], inl := [] }
set_option maxRecDepth 100000 in
theorem r152 (N : Nat) (a0 : Int) : runF N E152 Try.f152 [.imm false (.int .i64)] [.deep true (.pair (.int .i64) (.pair (.slice 3 (.int .i64)) .unit))] (a0, ()) = p_spec_l3None N a0 := by kernel_rfl
theorem env152 : EnvOk Try.prog E152 := envOk mixed tabOk trivial trivial trivial
noncomputable def s152 : FSpec := ⟨[.imm false (.int .i64)], [.deep true (.pair (.int .i64) (.pair (.slice 3 (.int .i64)) .unit))], fun x => S_spec_l3None x.1⟩
theorem ok152 : FOk Try.prog 152 s152 := fn_says env152 Try.func152 rfl fun x y h => ⟨0, (r152 0 x.1).trans h⟩
theorem enters152 : Enters Try.prog 152 := enters Try.func152 (by kernel_rfl) rfl

/-! ## loop.example/g00698/spec.l1Same -/
noncomputable def E170 : Env := { tab := tab, sig := [], clos := [], live := [(0, [0, 1, 12, 13], [])], eqs := [], inl := [] }
set_option maxRecDepth 100000 in
theorem r170 (N : Nat) (a0 : List Int) (a1 : List Int) : runF N E170 Try.f170 [.imm false (.slice 3 (.int .i64)), .imm false (.slice 3 (.int .i64))] [.imm false .bool] (a0, a1, ()) = p_spec_l1Same N a0 a1 := by kernel_rfl
theorem env170 : EnvOk Try.prog E170 := envOk mixed tabOk trivial trivial trivial
noncomputable def s170 : FSpec := ⟨[.imm false (.slice 3 (.int .i64)), .imm false (.slice 3 (.int .i64))], [.imm false .bool], fun x => S_spec_l1Same x.1 x.2.1⟩
theorem ok170 : FOk Try.prog 170 s170 := fn_says env170 Try.func170 rfl fun x y h => let ⟨N, hN⟩ := lim_some h; ⟨N, (r170 N x.1 x.2.1).trans hN⟩
theorem enters170 : Enters Try.prog 170 := enters Try.func170 (by kernel_rfl) rfl

/-! ## loop.example/g00698/spec.SameAttr -/
noncomputable def E151 : Env := { tab := tab, sig := [(170, s170)], clos := [], live := [], eqs := [], inl := [] }
set_option maxRecDepth 100000 in
theorem r151 (N : Nat) (a0 : T6) (a1 : T6) : runF N E151 Try.f151 [.imm true (.pair (.int .i64) (.pair (.slice 3 (.int .i64)) .unit)), .imm true (.pair (.int .i64) (.pair (.slice 3 (.int .i64)) .unit))] [.imm false .bool] (a0, a1, ()) = p_spec_SameAttr N a0 a1 := by kernel_rfl
theorem env151 : EnvOk Try.prog E151 := envOk mixed tabOk ⟨⟨enters170, ok170⟩, trivial⟩ trivial trivial
noncomputable def s151 : FSpec := ⟨[.imm true (.pair (.int .i64) (.pair (.slice 3 (.int .i64)) .unit)), .imm true (.pair (.int .i64) (.pair (.slice 3 (.int .i64)) .unit))], [.imm false .bool], fun x => S_spec_SameAttr x.1 x.2.1⟩
theorem ok151 : FOk Try.prog 151 s151 := fn_says env151 Try.func151 rfl fun x y h => ⟨0, (r151 0 x.1 x.2.1).trans h⟩
theorem enters151 : Enters Try.prog 151 := enters Try.func151 (by kernel_rfl) rfl

/-! ## loop.example/g00698/spec.l2Account -/
noncomputable def E102 : Env := { tab := tab, sig := [(82, s82)], clos := [], live := [], eqs := [], inl := [] }
set_option maxRecDepth 100000 in
theorem r102 (N : Nat) (a0 : Int) : runF N E102 Try.f102 [.imm false (.int .i64)] [.imm false .bool] (a0, ()) = p_spec_l2Account N a0 := by kernel_rfl
theorem env102 : EnvOk Try.prog E102 := envOk mixed tabOk ⟨⟨enters82, ok82⟩, trivial⟩ trivial trivial
noncomputable def s102 : FSpec := ⟨[.imm false (.int .i64)], [.imm false .bool], fun x => S_spec_l2Account x.1⟩
theorem ok102 : FOk Try.prog 102 s102 := fn_says env102 Try.func102 rfl fun x y h => ⟨0, (r102 0 x.1).trans h⟩
theorem enters102 : Enters Try.prog 102 := enters Try.func102 (by kernel_rfl) rfl

/-! ## loop.example/g00698/spec.l2Code -/
noncomputable def E145 : Env := { tab := tab, sig := [(102, s102), (82, s82)], clos := [], live := [], eqs := [], inl := [] }
set_option maxRecDepth 100000 in
theorem r145 (N : Nat) (a0 : T2) : runF N E145 Try.f145 [.imm true (.pair (.int .i64) (.pair (.int .i64) (.pair (.int .i64) (.pair (.int .i64) (.pair (.int .i64) .unit)))))] [.imm false (.int .i64)] (a0, ()) = p_spec_l2Code N a0 := by kernel_rfl
theorem env145 : EnvOk Try.prog E145 := envOk mixed tabOk ⟨⟨enters102, ok102⟩, ⟨enters82, ok82⟩, trivial⟩ trivial trivial
noncomputable def s145 : FSpec := ⟨[.imm true (.pair (.int .i64) (.pair (.int .i64) (.pair (.int .i64) (.pair (.int .i64) (.pair (.int .i64) .unit)))))], [.imm false (.int .i64)], fun x => S_spec_l2Code x.1⟩
theorem ok145 : FOk Try.prog 145 s145 := fn_says env145 Try.func145 rfl fun x y h => ⟨0, (r145 0 x.1).trans h⟩
theorem enters145 : Enters Try.prog 145 := enters Try.func145 (by kernel_rfl) rfl

/-! ## loop.example/g00698/spec.GoodCmd -/
noncomputable def E103 : Env := { tab := tab, sig := [(145, s145)], clos := [], live := [], eqs := [(75, 5)], inl := [] }
set_option maxRecDepth 100000 in
theorem r103 (N : Nat) (a0 : T2) : runF N E103 Try.f103 [.imm true (.pair (.int .i64) (.pair (.int .i64) (.pair (.int .i64) (.pair (.int .i64) (.pair (.int .i64) .unit)))))] [.imm false .bool] (a0, ()) = p_spec_GoodCmd N a0 := by kernel_rfl
theorem env103 : EnvOk Try.prog E103 := envOk mixed tabOk ⟨⟨enters145, ok145⟩, trivial⟩ trivial ⟨eq75, trivial⟩
noncomputable def s103 : FSpec := ⟨[.imm true (.pair (.int .i64) (.pair (.int .i64) (.pair (.int .i64) (.pair (.int .i64) (.pair (.int .i64) .unit)))))], [.imm false .bool], fun x => S_spec_GoodCmd x.1⟩
theorem ok103 : FOk Try.prog 103 s103 := fn_says env103 Try.func103 rfl fun x y h => ⟨0, (r103 0 x.1).trans h⟩
theorem enters103 : Enters Try.prog 103 := enters Try.func103 (by kernel_rfl) rfl

/-! ## loop.example/g00698/spec.l1All -/
noncomputable def E70 : Env := { tab := tab, sig := [(82, s82)], clos := [], live := [(0, [1, 2, 9, 10, 11], [])], eqs := [], inl := [] }
set_option maxRecDepth 100000 in
theorem r70 (N : Nat) (a0 : List Int) (a1 : Int) (a2 : Int) : runF N E70 Try.f70 [.imm false (.slice 3 (.int .i64)), .imm false (.int .i64), .imm false (.int .i64)] [.imm false .bool] (a0, a1, a2, ()) = p_spec_l1All N a0 a1 a2 := by kernel_rfl
theorem env70 : EnvOk Try.prog E70 := envOk mixed tabOk ⟨⟨enters82, ok82⟩, trivial⟩ trivial trivial
noncomputable def s70 : FSpec := ⟨[.imm false (.slice 3 (.int .i64)), .imm false (.int .i64), .imm false (.int .i64)], [.imm false .bool], fun x => S_spec_l1All x.1 x.2.1 x.2.2.1⟩
theorem ok70 : FOk Try.prog 70 s70 := fn_says env70 Try.func70 rfl fun x y h => let ⟨N, hN⟩ := lim_some h; ⟨N, (r70 N x.1 x.2.1 x.2.2.1).trans hN⟩
theorem enters70 : Enters Try.prog 70 := enters Try.func70 (by kernel_rfl) rfl

/-! ## loop.example/g00698/spec.l3Attr -/
noncomputable def E153 : Env := { tab := tab, sig := [(82, s82), (70, s70)], clos := [], live := [], eqs := [], inl := [] }
set_option maxRecDepth 100000 in
theorem r153 (N : Nat) (a0 : Int) (a1 : T6) : runF N E153 Try.f153 [.imm false (.int .i64), .imm true (.pair (.int .i64) (.pair (.slice 3 (.int .i64)) .unit))] [.imm false .bool] (a0, a1, ()) = p_spec_l3Attr N a0 a1 := by kernel_rfl
theorem env153 : EnvOk Try.prog E153 := envOk mixed tabOk ⟨⟨enters82, ok82⟩, ⟨enters70, ok70⟩, trivial⟩ trivial trivial
noncomputable def s153 : FSpec := ⟨[.imm false (.int .i64), .imm true (.pair (.int .i64) (.pair (.slice 3 (.int .i64)) .unit))], [.imm false .bool], fun x => S_spec_l3Attr x.1 x.2.1⟩
theorem ok153 : FOk Try.prog 153 s153 := fn_says env153 Try.func153 rfl fun x y h => ⟨0, (r153 0 x.1 x.2.1).trans h⟩
theorem enters153 : Enters Try.prog 153 := enters Try.func153 (by kernel_rfl) rfl

/-! ## loop.example/g00698/spec.l4Row -/
noncomputable def E113 : Env := { tab := tab, sig := [(82, s82), (152, s152), (151, s151), (103, s103), (153, s153)], clos := [], live := [], eqs := [(75, 5)], inl := [] }
set_option maxRecDepth 100000 in
theorem r113 (N : Nat) (a0 : Int) (a1 : T7) : runF N E113 Try.f113 [.imm false (.int .i64), .imm true (.pair (.int .i64) (.pair (.int .i64) (.pair (.int .i64) (.pair (.pair (.int .i64) (.pair (.int .i64) (.pair (.int .i64) (.pair (.int .i64) (.pair (.int .i64) .unit))))) (.pair (.pair (.int .i64) (.pair (.slice 3 (.int .i64)) .unit)) .unit)))))] [.imm false .bool] (a0, a1, ()) = p_spec_l4Row N a0 a1 := by kernel_rfl
theorem env113 : EnvOk Try.prog E113 := envOk mixed tabOk ⟨⟨enters82, ok82⟩, ⟨enters152, ok152⟩, ⟨enters151, ok151⟩, ⟨enters103, ok103⟩, ⟨enters153, ok153⟩, trivial⟩ trivial ⟨eq75, trivial⟩
noncomputable def s113 : FSpec := ⟨[.imm false (.int .i64), .imm true (.pair (.int .i64) (.pair (.int .i64) (.pair (.int .i64) (.pair (.pair (.int .i64) (.pair (.int .i64) (.pair (.int .i64) (.pair (.int .i64) (.pair (.int .i64) .unit))))) (.pair (.pair (.int .i64) (.pair (.slice 3 (.int .i64)) .unit)) .unit)))))], [.imm false .bool], fun x => S_spec_l4Row x.1 x.2.1⟩
theorem ok113 : FOk Try.prog 113 s113 := fn_says env113 Try.func113 rfl fun x y h => ⟨0, (r113 0 x.1 x.2.1).trans h⟩
theorem enters113 : Enters Try.prog 113 := enters Try.func113 (by kernel_rfl) rfl

/-! ## loop.example/g00698/spec.GoodTable -/
noncomputable def E69 : Env := { tab := tab, sig := [(95, s95), (113, s113)], clos := [], live := [(0, [1, 20, 21, 22], []), (2, [1, 4, 20, 21, 22, 26, 27, 28], [])], eqs := [], inl := [] }
set_option maxRecDepth 100000 in
theorem r69 (N : Nat) (a0 : T8) : runF N E69 Try.f69 [.imm true (.pair (.int .i64) (.pair (.slice 107 (.slice 150 (.pair (.int .i64) (.pair (.int .i64) (.pair (.int .i64) (.pair (.pair (.int .i64) (.pair (.int .i64) (.pair (.int .i64) (.pair (.int .i64) (.pair (.int .i64) .unit))))) (.pair (.pair (.int .i64) (.pair (.slice 3 (.int .i64)) .unit)) .unit))))))) .unit))] [.imm false .bool] (a0, ()) = p_spec_GoodTable N a0 := by kernel_rfl
theorem env69 : EnvOk Try.prog E69 := envOk mixed tabOk ⟨⟨enters95, ok95⟩, ⟨enters113, ok113⟩, trivial⟩ trivial trivial
noncomputable def s69 : FSpec := ⟨[.imm true (.pair (.int .i64) (.pair (.slice 107 (.slice 150 (.pair (.int .i64) (.pair (.int .i64) (.pair (.int .i64) (.pair (.pair (.int .i64) (.pair (.int .i64) (.pair (.int .i64) (.pair (.int .i64) (.pair (.int .i64) .unit))))) (.pair (.pair (.int .i64) (.pair (.slice 3 (.int .i64)) .unit)) .unit))))))) .unit))], [.imm false .bool], fun x => S_spec_GoodTable x.1⟩
theorem ok69 : FOk Try.prog 69 s69 := fn_says env69 Try.func69 rfl fun x y h => let ⟨N, hN⟩ := lim_some h; ⟨N, (r69 N x.1).trans hN⟩
theorem enters69 : Enters Try.prog 69 := enters Try.func69 (by kernel_rfl) rfl

/-! ## loop.example/g00698/spec.l1Most -/
noncomputable def E71 : Env := { tab := tab, sig := [], clos := [], live := [], eqs := [], inl := [] }
set_option maxRecDepth 100000 in
theorem r71 (N : Nat) (a0 : Int) (a1 : Int) : runF N E71 Try.f71 [.imm false (.int .i64), .imm false (.int .i64)] [.imm false (.int .i64)] (a0, a1, ()) = p_spec_l1Most N a0 a1 := by kernel_rfl
theorem env71 : EnvOk Try.prog E71 := envOk mixed tabOk trivial trivial trivial
noncomputable def s71 : FSpec := ⟨[.imm false (.int .i64), .imm false (.int .i64)], [.imm false (.int .i64)], fun x => S_spec_l1Most x.1 x.2.1⟩
theorem ok71 : FOk Try.prog 71 s71 := fn_says env71 Try.func71 rfl fun x y h => ⟨0, (r71 0 x.1 x.2.1).trans h⟩
theorem enters71 : Enters Try.prog 71 := enters Try.func71 (by kernel_rfl) rfl

/-! ## loop.example/g00698/spec.l1Own -/
noncomputable def E178 : Env := { tab := tab, sig := [], clos := [], live := [], eqs := [], inl := [] }
set_option maxRecDepth 100000 in
theorem r178 (N : Nat) (a0 : List Int) : runF N E178 Try.f178 [.imm false (.slice 3 (.int .i64))] [.deep false (.slice 3 (.int .i64))] (a0, ()) = p_spec_l1Own N a0 := by kernel_rfl
theorem env178 : EnvOk Try.prog E178 := envOk mixed tabOk trivial trivial trivial
noncomputable def s178 : FSpec := ⟨[.imm false (.slice 3 (.int .i64))], [.deep false (.slice 3 (.int .i64))], fun x => S_spec_l1Own x.1⟩
theorem ok178 : FOk Try.prog 178 s178 := fn_says env178 Try.func178 rfl fun x y h => ⟨0, (r178 0 x.1).trans h⟩
theorem enters178 : Enters Try.prog 178 := enters Try.func178 (by kernel_rfl) rfl

/-! ## loop.example/g00698/spec.l4OwnAttr -/
noncomputable def E181 : Env := { tab := tab, sig := [(178, s178)], clos := [], live := [], eqs := [], inl := [] }
set_option maxRecDepth 100000 in
theorem r181 (N : Nat) (a0 : T6) : runF N E181 Try.f181 [.imm true (.pair (.int .i64) (.pair (.slice 3 (.int .i64)) .unit))] [.deep true (.pair (.int .i64) (.pair (.slice 3 (.int .i64)) .unit))] (a0, ()) = p_spec_l4OwnAttr N a0 := by kernel_rfl
theorem env181 : EnvOk Try.prog E181 := envOk mixed tabOk ⟨⟨enters178, ok178⟩, trivial⟩ trivial trivial
noncomputable def s181 : FSpec := ⟨[.imm true (.pair (.int .i64) (.pair (.slice 3 (.int .i64)) .unit))], [.deep true (.pair (.int .i64) (.pair (.slice 3 (.int .i64)) .unit))], fun x => S_spec_l4OwnAttr x.1⟩
theorem ok181 : FOk Try.prog 181 s181 := fn_says env181 Try.func181 rfl fun x y h => ⟨0, (r181 0 x.1).trans h⟩
theorem enters181 : Enters Try.prog 181 := enters Try.func181 (by kernel_rfl) rfl

/-! ## loop.example/g00698/spec.l4OwnRow -/
noncomputable def E176 : Env := { tab := tab, sig := [(181, s181)], clos := [], live := [], eqs := [], inl := [] }
set_option maxRecDepth 100000 in
theorem r176 (N : Nat) (a0 : T7) : runF N E176 Try.f176 [.imm true (.pair (.int .i64) (.pair (.int .i64) (.pair (.int .i64) (.pair (.pair (.int .i64) (.pair (.int .i64) (.pair (.int .i64) (.pair (.int .i64) (.pair (.int .i64) .unit))))) (.pair (.pair (.int .i64) (.pair (.slice 3 (.int .i64)) .unit)) .unit)))))] [.deep true (.pair (.int .i64) (.pair (.int .i64) (.pair (.int .i64) (.pair (.pair (.int .i64) (.pair (.int .i64) (.pair (.int .i64) (.pair (.int .i64) (.pair (.int .i64) .unit))))) (.pair (.pair (.int .i64) (.pair (.slice 3 (.int .i64)) .unit)) .unit)))))] (a0, ()) = p_spec_l4OwnRow N a0 := by kernel_rfl
theorem env176 : EnvOk Try.prog E176 := envOk mixed tabOk ⟨⟨enters181, ok181⟩, trivial⟩ trivial trivial
noncomputable def s176 : FSpec := ⟨[.imm true (.pair (.int .i64) (.pair (.int .i64) (.pair (.int .i64) (.pair (.pair (.int .i64) (.pair (.int .i64) (.pair (.int .i64) (.pair (.int .i64) (.pair (.int .i64) .unit))))) (.pair (.pair (.int .i64) (.pair (.slice 3 (.int .i64)) .unit)) .unit)))))], [.deep true (.pair (.int .i64) (.pair (.int .i64) (.pair (.int .i64) (.pair (.pair (.int .i64) (.pair (.int .i64) (.pair (.int .i64) (.pair (.int .i64) (.pair (.int .i64) .unit))))) (.pair (.pair (.int .i64) (.pair (.slice 3 (.int .i64)) .unit)) .unit)))))], fun x => S_spec_l4OwnRow x.1⟩
theorem ok176 : FOk Try.prog 176 s176 := fn_says env176 Try.func176 rfl fun x y h => ⟨0, (r176 0 x.1).trans h⟩
theorem enters176 : Enters Try.prog 176 := enters Try.func176 (by kernel_rfl) rfl

/-! ## loop.example/g00698/spec.l4At -/
noncomputable def E162 : Env := { tab := tab, sig := [(152, s152), (176, s176)], clos := [], live := [], eqs := [], inl := [] }
set_option maxRecDepth 100000 in
theorem r162 (N : Nat) (a0 : T8) (a1 : Int) (a2 : Int) : runF N E162 Try.f162 [.imm true (.pair (.int .i64) (.pair (.slice 107 (.slice 150 (.pair (.int .i64) (.pair (.int .i64) (.pair (.int .i64) (.pair (.pair (.int .i64) (.pair (.int .i64) (.pair (.int .i64) (.pair (.int .i64) (.pair (.int .i64) .unit))))) (.pair (.pair (.int .i64) (.pair (.slice 3 (.int .i64)) .unit)) .unit))))))) .unit)), .imm false (.int .i64), .imm false (.int .i64)] [.deep true (.pair (.int .i64) (.pair (.int .i64) (.pair (.int .i64) (.pair (.pair (.int .i64) (.pair (.int .i64) (.pair (.int .i64) (.pair (.int .i64) (.pair (.int .i64) .unit))))) (.pair (.pair (.int .i64) (.pair (.slice 3 (.int .i64)) .unit)) .unit)))))] (a0, a1, a2, ()) = p_spec_l4At N a0 a1 a2 := by kernel_rfl
theorem env162 : EnvOk Try.prog E162 := envOk mixed tabOk ⟨⟨enters152, ok152⟩, ⟨enters176, ok176⟩, trivial⟩ trivial trivial
noncomputable def s162 : FSpec := ⟨[.imm true (.pair (.int .i64) (.pair (.slice 107 (.slice 150 (.pair (.int .i64) (.pair (.int .i64) (.pair (.int .i64) (.pair (.pair (.int .i64) (.pair (.int .i64) (.pair (.int .i64) (.pair (.int .i64) (.pair (.int .i64) .unit))))) (.pair (.pair (.int .i64) (.pair (.slice 3 (.int .i64)) .unit)) .unit))))))) .unit)), .imm false (.int .i64), .imm false (.int .i64)], [.deep true (.pair (.int .i64) (.pair (.int .i64) (.pair (.int .i64) (.pair (.pair (.int .i64) (.pair (.int .i64) (.pair (.int .i64) (.pair (.int .i64) (.pair (.int .i64) .unit))))) (.pair (.pair (.int .i64) (.pair (.slice 3 (.int .i64)) .unit)) .unit)))))], fun x => S_spec_l4At x.1 x.2.1 x.2.2.1⟩
theorem ok162 : FOk Try.prog 162 s162 := fn_says env162 Try.func162 rfl fun x y h => ⟨0, (r162 0 x.1 x.2.1 x.2.2.1).trans h⟩
theorem enters162 : Enters Try.prog 162 := enters Try.func162 (by kernel_rfl) rfl

/-! ## loop.example/g00698/spec.l10Open -/
noncomputable def E127 : Env := { tab := tab, sig := [(71, s71), (162, s162)], clos := [], live := [(0, [1, 2, 5, 6, 27, 28, 29, 109, 110, 111, 112, 113, 114, 115, 116, 117, 118, 119], []), (2, [1, 2, 5, 6, 27, 28, 29, 40, 41, 42, 109, 110, 111, 112, 113, 114, 115, 116, 117, 118, 119], []), (4, [1, 2, 5, 6, 27, 28, 29, 40, 41, 42, 57, 58, 59, 109, 110, 111, 112, 113, 114, 115, 116, 117, 118, 119], []), (6, [1, 2, 5, 6, 13, 27, 28, 29, 40, 41, 42, 57, 58, 59, 65, 66, 67, 109, 110, 111, 112, 113, 114, 115, 116, 117, 118, 119], []), (8, [1, 2, 5, 6, 16, 17, 109, 110, 111, 112, 113, 114, 115, 116, 117, 118, 119], []), (10, [1, 2, 5, 6, 16, 17, 18, 109, 110, 111, 112, 113, 114, 115, 116, 117, 118, 119], []), (12, [1, 2, 5, 6, 16, 17, 18, 19, 101, 102, 103, 109, 110, 111, 112, 113, 114, 115, 116, 117, 118, 119], [])], eqs := [], inl := [] }
set_option maxRecDepth 100000 in
theorem r127 (N : Nat) (a0 : T13) (a1 : List Int) : runF N E127 Try.f127 [.imm true (.pair (.slice 171 (.pair (.int .i64) (.pair (.pair (.int .i64) (.pair (.slice 107 (.slice 150 (.pair (.int .i64) (.pair (.int .i64) (.pair (.int .i64) (.pair (.pair (.int .i64) (.pair (.int .i64) (.pair (.int .i64) (.pair (.int .i64) (.pair (.int .i64) .unit))))) (.pair (.pair (.int .i64) (.pair (.slice 3 (.int .i64)) .unit)) .unit))))))) .unit)) (.pair (.slice 237 (.pair (.int .i64) (.pair (.int .i64) (.pair (.int .i64) (.pair (.int .i64) (.pair (.pair (.int .i64) (.pair (.int .i64) (.pair (.int .i64) (.pair (.int .i64) (.pair (.int .i64) .unit))))) (.pair (.pair (.int .i64) (.pair (.slice 3 (.int .i64)) .unit)) (.pair (.pair (.int .i64) (.pair (.slice 3 (.int .i64)) .unit)) (.pair .bool (.pair (.slice 3 (.int .i64)) (.pair (.slice 150 (.pair (.int .i64) (.pair (.int .i64) (.pair (.int .i64) (.pair (.pair (.int .i64) (.pair (.int .i64) (.pair (.int .i64) (.pair (.int .i64) (.pair (.int .i64) .unit))))) (.pair (.pair (.int .i64) (.pair (.slice 3 (.int .i64)) .unit)) .unit)))))) .unit))))))))))) .unit)))) (.pair (.slice 233 (.pair (.int .i64) (.pair (.int .i64) (.pair (.int .i64) (.pair (.int .i64) (.pair (.int .i64) (.pair (.int .i64) (.pair (.int .i64) (.pair (.int .i64) (.pair (.pair (.int .i64) (.pair (.int .i64) (.pair (.int .i64) (.pair (.int .i64) (.pair (.int .i64) .unit))))) (.pair (.pair (.int .i64) (.pair (.slice 3 (.int .i64)) .unit)) .unit))))))))))) (.pair (.slice 235 (.pair (.int .i64) (.pair (.int .i64) (.pair (.pair (.int .i64) (.pair (.int .i64) (.pair (.int .i64) (.pair (.int .i64) (.pair (.int .i64) .unit))))) .unit)))) .unit))), .imm false (.slice 3 (.int .i64))] [.deep false (.slice 23 (.slice 3 (.int .i64)))] (a0, a1, ()) = p_spec_l10Open N a0 a1 := by kernel_rfl
theorem env127 : EnvOk Try.prog E127 := envOk mixed tabOk ⟨⟨enters71, ok71⟩, ⟨enters162, ok162⟩, trivial⟩ trivial trivial
noncomputable def s127 : FSpec := ⟨[.imm true (.pair (.slice 171 (.pair (.int .i64) (.pair (.pair (.int .i64) (.pair (.slice 107 (.slice 150 (.pair (.int .i64) (.pair (.int .i64) (.pair (.int .i64) (.pair (.pair (.int .i64) (.pair (.int .i64) (.pair (.int .i64) (.pair (.int .i64) (.pair (.int .i64) .unit))))) (.pair (.pair (.int .i64) (.pair (.slice 3 (.int .i64)) .unit)) .unit))))))) .unit)) (.pair (.slice 237 (.pair (.int .i64) (.pair (.int .i64) (.pair (.int .i64) (.pair (.int .i64) (.pair (.pair (.int .i64) (.pair (.int .i64) (.pair (.int .i64) (.pair (.int .i64) (.pair (.int .i64) .unit))))) (.pair (.pair (.int .i64) (.pair (.slice 3 (.int .i64)) .unit)) (.pair (.pair (.int .i64) (.pair (.slice 3 (.int .i64)) .unit)) (.pair .bool (.pair (.slice 3 (.int .i64)) (.pair (.slice 150 (.pair (.int .i64) (.pair (.int .i64) (.pair (.int .i64) (.pair (.pair (.int .i64) (.pair (.int .i64) (.pair (.int .i64) (.pair (.int .i64) (.pair (.int .i64) .unit))))) (.pair (.pair (.int .i64) (.pair (.slice 3 (.int .i64)) .unit)) .unit)))))) .unit))))))))))) .unit)))) (.pair (.slice 233 (.pair (.int .i64) (.pair (.int .i64) (.pair (.int .i64) (.pair (.int .i64) (.pair (.int .i64) (.pair (.int .i64) (.pair (.int .i64) (.pair (.int .i64) (.pair (.pair (.int .i64) (.pair (.int .i64) (.pair (.int .i64) (.pair (.int .i64) (.pair (.int .i64) .unit))))) (.pair (.pair (.int .i64) (.pair (.slice 3 (.int .i64)) .unit)) .unit))))))))))) (.pair (.slice 235 (.pair (.int .i64) (.pair (.int .i64) (.pair (.pair (.int .i64) (.pair (.int .i64) (.pair (.int .i64) (.pair (.int .i64) (.pair (.int .i64) .unit))))) .unit)))) .unit))), .imm false (.slice 3 (.int .i64))], [.deep false (.slice 23 (.slice 3 (.int .i64)))], fun x => S_spec_l10Open x.1 x.2.1⟩
theorem ok127 : FOk Try.prog 127 s127 := fn_says env127 Try.func127 rfl fun x y h => let ⟨N, hN⟩ := lim_some h; ⟨N, (r127 N x.1 x.2.1).trans hN⟩
theorem enters127 : Enters Try.prog 127 := enters Try.func127 (by kernel_rfl) rfl

/-! ## loop.example/g00698/spec.l20Open -/
noncomputable def E83 : Env := { tab := tab, sig := [(127, s127)], clos := [], live := [(0, [1, 3, 4], [.row 2 0 171 (.pair (.int .i64) (.pair (.pair (.int .i64) (.pair (.slice 107 (.slice 150 (.pair (.int .i64) (.pair (.int .i64) (.pair (.int .i64) (.pair (.pair (.int .i64) (.pair (.int .i64) (.pair (.int .i64) (.pair (.int .i64) (.pair (.int .i64) .unit))))) (.pair (.pair (.int .i64) (.pair (.slice 3 (.int .i64)) .unit)) .unit))))))) .unit)) (.pair (.slice 237 (.pair (.int .i64) (.pair (.int .i64) (.pair (.int .i64) (.pair (.int .i64) (.pair (.pair (.int .i64) (.pair (.int .i64) (.pair (.int .i64) (.pair (.int .i64) (.pair (.int .i64) .unit))))) (.pair (.pair (.int .i64) (.pair (.slice 3 (.int .i64)) .unit)) (.pair (.pair (.int .i64) (.pair (.slice 3 (.int .i64)) .unit)) (.pair .bool (.pair (.slice 3 (.int .i64)) (.pair (.slice 150 (.pair (.int .i64) (.pair (.int .i64) (.pair (.int .i64) (.pair (.pair (.int .i64) (.pair (.int .i64) (.pair (.int .i64) (.pair (.int .i64) (.pair (.int .i64) .unit))))) (.pair (.pair (.int .i64) (.pair (.slice 3 (.int .i64)) .unit)) .unit)))))) .unit))))))))))) .unit))) false []])], eqs := [], inl := [] }
set_option maxRecDepth 100000 in
theorem r83 (N : Nat) (a0 : T8) : runF N E83 Try.f83 [.imm true (.pair (.int .i64) (.pair (.slice 107 (.slice 150 (.pair (.int .i64) (.pair (.int .i64) (.pair (.int .i64) (.pair (.pair (.int .i64) (.pair (.int .i64) (.pair (.int .i64) (.pair (.int .i64) (.pair (.int .i64) .unit))))) (.pair (.pair (.int .i64) (.pair (.slice 3 (.int .i64)) .unit)) .unit))))))) .unit))] [.deep false (.slice 23 (.slice 3 (.int .i64)))] (a0, ()) = p_spec_l20Open N a0 := by kernel_rfl
theorem env83 : EnvOk Try.prog E83 := envOk mixed tabOk ⟨⟨enters127, ok127⟩, trivial⟩ trivial trivial
noncomputable def s83 : FSpec := ⟨[.imm true (.pair (.int .i64) (.pair (.slice 107 (.slice 150 (.pair (.int .i64) (.pair (.int .i64) (.pair (.int .i64) (.pair (.pair (.int .i64) (.pair (.int .i64) (.pair (.int .i64) (.pair (.int .i64) (.pair (.int .i64) .unit))))) (.pair (.pair (.int .i64) (.pair (.slice 3 (.int .i64)) .unit)) .unit))))))) .unit))], [.deep false (.slice 23 (.slice 3 (.int .i64)))], fun x => S_spec_l20Open x.1⟩
theorem ok83 : FOk Try.prog 83 s83 := fn_says env83 Try.func83 rfl fun x y h => let ⟨N, hN⟩ := lim_some h; ⟨N, (r83 N x.1).trans hN⟩
theorem enters83 : Enters Try.prog 83 := enters Try.func83 (by kernel_rfl) rfl

/-! ## loop.example/g00698/spec.OpenIn -/
noncomputable def E41 : Env := { tab := tab, sig := [(69, s69), (83, s83)], clos := [], live := [], eqs := [], inl := [] }
set_option maxRecDepth 100000 in
theorem r41 (N : Nat) (a0 : T8) : runF N E41 Try.f41 [.imm true (.pair (.int .i64) (.pair (.slice 107 (.slice 150 (.pair (.int .i64) (.pair (.int .i64) (.pair (.int .i64) (.pair (.pair (.int .i64) (.pair (.int .i64) (.pair (.int .i64) (.pair (.int .i64) (.pair (.int .i64) .unit))))) (.pair (.pair (.int .i64) (.pair (.slice 3 (.int .i64)) .unit)) .unit))))))) .unit))] [.deep false (.slice 23 (.slice 3 (.int .i64))), .imm false .bool] (a0, ()) = p_spec_OpenIn N a0 := by kernel_rfl
theorem env41 : EnvOk Try.prog E41 := envOk mixed tabOk ⟨⟨enters69, ok69⟩, ⟨enters83, ok83⟩, trivial⟩ trivial trivial
noncomputable def s41 : FSpec := ⟨[.imm true (.pair (.int .i64) (.pair (.slice 107 (.slice 150 (.pair (.int .i64) (.pair (.int .i64) (.pair (.int .i64) (.pair (.pair (.int .i64) (.pair (.int .i64) (.pair (.int .i64) (.pair (.int .i64) (.pair (.int .i64) .unit))))) (.pair (.pair (.int .i64) (.pair (.slice 3 (.int .i64)) .unit)) .unit))))))) .unit))], [.deep false (.slice 23 (.slice 3 (.int .i64))), .imm false .bool], fun x => S_spec_OpenIn x.1⟩
theorem ok41 : FOk Try.prog 41 s41 := fn_says env41 Try.func41 rfl fun x y h => ⟨0, (r41 0 x.1).trans h⟩
theorem enters41 : Enters Try.prog 41 := enters Try.func41 (by kernel_rfl) rfl

/-! ## loop.example/g00698/impl.IsGroup -/
noncomputable def E90 : Env := { tab := tab, sig := [], clos := [], live := [], eqs := [], inl := [] }
set_option maxRecDepth 100000 in
theorem r90 (N : Nat) (a0 : Int) : runF N E90 Try.f90 [.imm false (.int .i64)] [.imm false .bool] (a0, ()) = p_impl_IsGroup N a0 := by kernel_rfl
theorem env90 : EnvOk Try.prog E90 := envOk mixed tabOk trivial trivial trivial
noncomputable def s90 : FSpec := ⟨[.imm false (.int .i64)], [.imm false .bool], fun x => S_impl_IsGroup x.1⟩
theorem ok90 : FOk Try.prog 90 s90 := fn_says env90 Try.func90 rfl fun x y h => ⟨0, (r90 0 x.1).trans h⟩
theorem enters90 : Enters Try.prog 90 := enters Try.func90 (by kernel_rfl) rfl

/-! ## loop.example/g00698/impl.within -/
noncomputable def E76 : Env := { tab := tab, sig := [], clos := [], live := [], eqs := [], inl := [] }
set_option maxRecDepth 100000 in
theorem r76 (N : Nat) (a0 : Int) (a1 : Int) (a2 : Int) : runF N E76 Try.f76 [.imm false (.int .i64), .imm false (.int .i64), .imm false (.int .i64)] [.imm false .bool] (a0, a1, a2, ()) = p_impl_within N a0 a1 a2 := by kernel_rfl
theorem env76 : EnvOk Try.prog E76 := envOk mixed tabOk trivial trivial trivial
noncomputable def s76 : FSpec := ⟨[.imm false (.int .i64), .imm false (.int .i64), .imm false (.int .i64)], [.imm false .bool], fun x => S_impl_within x.1 x.2.1 x.2.2.1⟩
theorem ok76 : FOk Try.prog 76 s76 := fn_says env76 Try.func76 rfl fun x y h => ⟨0, (r76 0 x.1 x.2.1 x.2.2.1).trans h⟩
theorem enters76 : Enters Try.prog 76 := enters Try.func76 (by kernel_rfl) rfl

/-! ## loop.example/g00698/impl.isAccount -/
noncomputable def E98 : Env := { tab := tab, sig := [(76, s76)], clos := [], live := [], eqs := [], inl := [] }
set_option maxRecDepth 100000 in
theorem r98 (N : Nat) (a0 : Int) : runF N E98 Try.f98 [.imm false (.int .i64)] [.imm false .bool] (a0, ()) = p_impl_isAccount N a0 := by kernel_rfl
theorem env98 : EnvOk Try.prog E98 := envOk mixed tabOk ⟨⟨enters76, ok76⟩, trivial⟩ trivial trivial
noncomputable def s98 : FSpec := ⟨[.imm false (.int .i64)], [.imm false .bool], fun x => S_impl_isAccount x.1⟩
theorem ok98 : FOk Try.prog 98 s98 := fn_says env98 Try.func98 rfl fun x y h => ⟨0, (r98 0 x.1).trans h⟩
theorem enters98 : Enters Try.prog 98 := enters Try.func98 (by kernel_rfl) rfl

/-! ## loop.example/g00698/impl.GoodCmd -/
noncomputable def E142 : Env := { tab := tab, sig := [(76, s76), (98, s98)], clos := [], live := [], eqs := [(75, 5)], inl := [] }
set_option maxRecDepth 100000 in
theorem r142 (N : Nat) (a0 : T2) : runF N E142 Try.f142 [.imm true (.pair (.int .i64) (.pair (.int .i64) (.pair (.int .i64) (.pair (.int .i64) (.pair (.int .i64) .unit)))))] [.imm false .bool] (a0, ()) = p_impl_GoodCmd N a0 := by kernel_rfl
theorem env142 : EnvOk Try.prog E142 := envOk mixed tabOk ⟨⟨enters76, ok76⟩, ⟨enters98, ok98⟩, trivial⟩ trivial ⟨eq75, trivial⟩
noncomputable def s142 : FSpec := ⟨[.imm true (.pair (.int .i64) (.pair (.int .i64) (.pair (.int .i64) (.pair (.int .i64) (.pair (.int .i64) .unit)))))], [.imm false .bool], fun x => S_impl_GoodCmd x.1⟩
theorem ok142 : FOk Try.prog 142 s142 := fn_says env142 Try.func142 rfl fun x y h => ⟨0, (r142 0 x.1).trans h⟩
theorem enters142 : Enters Try.prog 142 := enters Try.func142 (by kernel_rfl) rfl

/-! ## slices.IndexFunc[[]int,int] -/
noncomputable def E120 : Env := { tab := tab, sig := [], clos := [], live := [(0, [0, 1, 7, 8], [])], eqs := [], inl := [] }
set_option maxRecDepth 100000 in
theorem r120 (N : Nat) (a0 : List Int) (a1 : (Int × Unit) → Option Bool) : runF N E120 Try.f120 [.imm false (.slice 3 (.int .i64)), .clo [(false, (.int .i64))] .bool] [.imm false (.int .i64)] (a0, a1, ()) = p_IndexFunc_Lint_int N a0 a1 := by kernel_rfl
theorem env120 : EnvOk Try.prog E120 := envOk mixed tabOk trivial trivial trivial
noncomputable def s120 : FSpec := ⟨[.imm false (.slice 3 (.int .i64)), .clo [(false, (.int .i64))] .bool], [.imm false (.int .i64)], fun x => S_IndexFunc_Lint_int x.1 x.2.1⟩
theorem ok120 : FOk Try.prog 120 s120 := fn_says env120 Try.func120 rfl fun x y h => let ⟨N, hN⟩ := lim_some h; ⟨N, (r120 N x.1 x.2.1).trans hN⟩
theorem enters120 : Enters Try.prog 120 := enters Try.func120 (by kernel_rfl) rfl

/-! ## slices.ContainsFunc[[]int,int] -/
noncomputable def E74 : Env := { tab := tab, sig := [(120, s120)], clos := [], live := [], eqs := [], inl := [] }
set_option maxRecDepth 100000 in
theorem r74 (N : Nat) (a0 : List Int) (a1 : (Int × Unit) → Option Bool) : runF N E74 Try.f74 [.imm false (.slice 3 (.int .i64)), .clo [(false, (.int .i64))] .bool] [.imm false .bool] (a0, a1, ()) = p_ContainsFunc_Lint_int N a0 a1 := by kernel_rfl
theorem env74 : EnvOk Try.prog E74 := envOk mixed tabOk ⟨⟨enters120, ok120⟩, trivial⟩ trivial trivial
noncomputable def s74 : FSpec := ⟨[.imm false (.slice 3 (.int .i64)), .clo [(false, (.int .i64))] .bool], [.imm false .bool], fun x => S_ContainsFunc_Lint_int x.1 x.2.1⟩
theorem ok74 : FOk Try.prog 74 s74 := fn_says env74 Try.func74 rfl fun x y h => ⟨0, (r74 0 x.1 x.2.1).trans h⟩
theorem enters74 : Enters Try.prog 74 := enters Try.func74 (by kernel_rfl) rfl

/-! ## loop.example/g00698/impl.GoodAttr -/
theorem enters172 : Enters Try.prog 172 := enters Try.func172 (by kernel_rfl) rfl
noncomputable def E157 : Env := { tab := tab, sig := [(90, s90), (76, s76), (74, s74)], clos := [(172, ⟨Try.f172, [(false, (.int .i64))], []⟩)], live := [], eqs := [], inl := [] }
set_option maxRecDepth 100000 in
theorem r157 (N : Nat) (a0 : Int) (a1 : T6) : runF N E157 Try.f157 [.imm false (.int .i64), .imm true (.pair (.int .i64) (.pair (.slice 3 (.int .i64)) .unit))] [.imm false .bool] (a0, a1, ()) = p_impl_GoodAttr N a0 a1 := by kernel_rfl
theorem env157 : EnvOk Try.prog E157 := envOk mixed tabOk ⟨⟨enters90, ok90⟩, ⟨enters76, ok76⟩, ⟨enters74, ok74⟩, trivial⟩ ⟨⟨Try.func172, enters172⟩, trivial⟩ trivial
noncomputable def s157 : FSpec := ⟨[.imm false (.int .i64), .imm true (.pair (.int .i64) (.pair (.slice 3 (.int .i64)) .unit))], [.imm false .bool], fun x => S_impl_GoodAttr x.1 x.2.1⟩
theorem ok157 : FOk Try.prog 157 s157 := fn_says env157 Try.func157 rfl fun x y h => ⟨0, (r157 0 x.1 x.2.1).trans h⟩
theorem enters157 : Enters Try.prog 157 := enters Try.func157 (by kernel_rfl) rfl

/-! ## loop.example/g00698/impl.noneAttr -/
noncomputable def E159 : Env := { tab := tab, sig := [], clos := [], live := [], eqs := [], inl := [] }
set_option maxRecDepth 100000 in
theorem r159 (N : Nat) (a0 : Int) : runF N E159 Try.f159 [.imm false (.int .i64)] [.deep true (.pair (.int .i64) (.pair (.slice 3 (.int .i64)) .unit))] (a0, ()) = p_impl_noneAttr N a0 := by kernel_rfl
theorem env159 : EnvOk Try.prog E159 := envOk mixed tabOk trivial trivial trivial
noncomputable def s159 : FSpec := ⟨[.imm false (.int .i64)], [.deep true (.pair (.int .i64) (.pair (.slice 3 (.int .i64)) .unit))], fun x => S_impl_noneAttr x.1⟩
theorem ok159 : FOk Try.prog 159 s159 := fn_says env159 Try.func159 rfl fun x y h => ⟨0, (r159 0 x.1).trans h⟩
theorem enters159 : Enters Try.prog 159 := enters Try.func159 (by kernel_rfl) rfl

/-! ## slices.Equal[[]int,int] -/
noncomputable def E173 : Env := { tab := tab, sig := [], clos := [], live := [(0, [0, 1, 12, 13], [])], eqs := [], inl := [] }
set_option maxRecDepth 100000 in
theorem r173 (N : Nat) (a0 : List Int) (a1 : List Int) : runF N E173 Try.f173 [.imm false (.slice 3 (.int .i64)), .imm false (.slice 3 (.int .i64))] [.imm false .bool] (a0, a1, ()) = p_Equal_Lint_int N a0 a1 := by kernel_rfl
theorem env173 : EnvOk Try.prog E173 := envOk mixed tabOk trivial trivial trivial
noncomputable def s173 : FSpec := ⟨[.imm false (.slice 3 (.int .i64)), .imm false (.slice 3 (.int .i64))], [.imm false .bool], fun x => S_Equal_Lint_int x.1 x.2.1⟩
theorem ok173 : FOk Try.prog 173 s173 := fn_says env173 Try.func173 rfl fun x y h => let ⟨N, hN⟩ := lim_some h; ⟨N, (r173 N x.1 x.2.1).trans hN⟩
theorem enters173 : Enters Try.prog 173 := enters Try.func173 (by kernel_rfl) rfl

/-! ## loop.example/g00698/impl.SameAttr -/
noncomputable def E158 : Env := { tab := tab, sig := [(173, s173)], clos := [], live := [], eqs := [], inl := [] }
set_option maxRecDepth 100000 in
theorem r158 (N : Nat) (a0 : T6) (a1 : T6) : runF N E158 Try.f158 [.imm true (.pair (.int .i64) (.pair (.slice 3 (.int .i64)) .unit)), .imm true (.pair (.int .i64) (.pair (.slice 3 (.int .i64)) .unit))] [.imm false .bool] (a0, a1, ()) = p_impl_SameAttr N a0 a1 := by kernel_rfl
theorem env158 : EnvOk Try.prog E158 := envOk mixed tabOk ⟨⟨enters173, ok173⟩, trivial⟩ trivial trivial
noncomputable def s158 : FSpec := ⟨[.imm true (.pair (.int .i64) (.pair (.slice 3 (.int .i64)) .unit)), .imm true (.pair (.int .i64) (.pair (.slice 3 (.int .i64)) .unit))], [.imm false .bool], fun x => S_impl_SameAttr x.1 x.2.1⟩
theorem ok158 : FOk Try.prog 158 s158 := fn_says env158 Try.func158 rfl fun x y h => ⟨0, (r158 0 x.1 x.2.1).trans h⟩
theorem enters158 : Enters Try.prog 158 := enters Try.func158 (by kernel_rfl) rfl

/-! ## loop.example/g00698/impl.goodRow -/
noncomputable def E119 : Env := { tab := tab, sig := [(76, s76), (142, s142), (157, s157), (159, s159), (158, s158)], clos := [], live := [], eqs := [(75, 5)], inl := [] }
set_option maxRecDepth 100000 in
theorem r119 (N : Nat) (a0 : Int) (a1 : T7) : runF N E119 Try.f119 [.imm false (.int .i64), .imm true (.pair (.int .i64) (.pair (.int .i64) (.pair (.int .i64) (.pair (.pair (.int .i64) (.pair (.int .i64) (.pair (.int .i64) (.pair (.int .i64) (.pair (.int .i64) .unit))))) (.pair (.pair (.int .i64) (.pair (.slice 3 (.int .i64)) .unit)) .unit)))))] [.imm false .bool] (a0, a1, ()) = p_impl_goodRow N a0 a1 := by kernel_rfl
theorem env119 : EnvOk Try.prog E119 := envOk mixed tabOk ⟨⟨enters76, ok76⟩, ⟨enters142, ok142⟩, ⟨enters157, ok157⟩, ⟨enters159, ok159⟩, ⟨enters158, ok158⟩, trivial⟩ trivial ⟨eq75, trivial⟩
noncomputable def s119 : FSpec := ⟨[.imm false (.int .i64), .imm true (.pair (.int .i64) (.pair (.int .i64) (.pair (.int .i64) (.pair (.pair (.int .i64) (.pair (.int .i64) (.pair (.int .i64) (.pair (.int .i64) (.pair (.int .i64) .unit))))) (.pair (.pair (.int .i64) (.pair (.slice 3 (.int .i64)) .unit)) .unit)))))], [.imm false .bool], fun x => S_impl_goodRow x.1 x.2.1⟩
theorem ok119 : FOk Try.prog 119 s119 := fn_says env119 Try.func119 rfl fun x y h => ⟨0, (r119 0 x.1 x.2.1).trans h⟩
theorem enters119 : Enters Try.prog 119 := enters Try.func119 (by kernel_rfl) rfl

/-! ## slices.IndexFunc[[]loop.example/g00698/impl.Row,loop.example/g00698/impl.Row] -/
noncomputable def E156 : Env := { tab := tab, sig := [], clos := [], live := [(0, [0, 1, 7, 8], [])], eqs := [], inl := [] }
set_option maxRecDepth 100000 in
theorem r156 (N : Nat) (a0 : List T7) (a1 : (T7 × Unit) → Option Bool) : runF N E156 Try.f156 [.imm false (.slice 150 (.pair (.int .i64) (.pair (.int .i64) (.pair (.int .i64) (.pair (.pair (.int .i64) (.pair (.int .i64) (.pair (.int .i64) (.pair (.int .i64) (.pair (.int .i64) .unit))))) (.pair (.pair (.int .i64) (.pair (.slice 3 (.int .i64)) .unit)) .unit)))))), .clo [(true, (.pair (.int .i64) (.pair (.int .i64) (.pair (.int .i64) (.pair (.pair (.int .i64) (.pair (.int .i64) (.pair (.int .i64) (.pair (.int .i64) (.pair (.int .i64) .unit))))) (.pair (.pair (.int .i64) (.pair (.slice 3 (.int .i64)) .unit)) .unit))))))] .bool] [.imm false (.int .i64)] (a0, a1, ()) = p_IndexFunc_Limpl_Row_impl_Row N a0 a1 := by kernel_rfl
theorem env156 : EnvOk Try.prog E156 := envOk mixed tabOk trivial trivial trivial
noncomputable def s156 : FSpec := ⟨[.imm false (.slice 150 (.pair (.int .i64) (.pair (.int .i64) (.pair (.int .i64) (.pair (.pair (.int .i64) (.pair (.int .i64) (.pair (.int .i64) (.pair (.int .i64) (.pair (.int .i64) .unit))))) (.pair (.pair (.int .i64) (.pair (.slice 3 (.int .i64)) .unit)) .unit)))))), .clo [(true, (.pair (.int .i64) (.pair (.int .i64) (.pair (.int .i64) (.pair (.pair (.int .i64) (.pair (.int .i64) (.pair (.int .i64) (.pair (.int .i64) (.pair (.int .i64) .unit))))) (.pair (.pair (.int .i64) (.pair (.slice 3 (.int .i64)) .unit)) .unit))))))] .bool], [.imm false (.int .i64)], fun x => S_IndexFunc_Limpl_Row_impl_Row x.1 x.2.1⟩
theorem ok156 : FOk Try.prog 156 s156 := fn_says env156 Try.func156 rfl fun x y h => let ⟨N, hN⟩ := lim_some h; ⟨N, (r156 N x.1 x.2.1).trans hN⟩
theorem enters156 : Enters Try.prog 156 := enters Try.func156 (by kernel_rfl) rfl

/-! ## slices.ContainsFunc[[]loop.example/g00698/impl.Row,loop.example/g00698/impl.Row] -/
noncomputable def E117 : Env := { tab := tab, sig := [(156, s156)], clos := [], live := [], eqs := [], inl := [] }
set_option maxRecDepth 100000 in
theorem r117 (N : Nat) (a0 : List T7) (a1 : (T7 × Unit) → Option Bool) : runF N E117 Try.f117 [.imm false (.slice 150 (.pair (.int .i64) (.pair (.int .i64) (.pair (.int .i64) (.pair (.pair (.int .i64) (.pair (.int .i64) (.pair (.int .i64) (.pair (.int .i64) (.pair (.int .i64) .unit))))) (.pair (.pair (.int .i64) (.pair (.slice 3 (.int .i64)) .unit)) .unit)))))), .clo [(true, (.pair (.int .i64) (.pair (.int .i64) (.pair (.int .i64) (.pair (.pair (.int .i64) (.pair (.int .i64) (.pair (.int .i64) (.pair (.int .i64) (.pair (.int .i64) .unit))))) (.pair (.pair (.int .i64) (.pair (.slice 3 (.int .i64)) .unit)) .unit))))))] .bool] [.imm false .bool] (a0, a1, ()) = p_ContainsFunc_Limpl_Row_impl_Row N a0 a1 := by kernel_rfl
theorem env117 : EnvOk Try.prog E117 := envOk mixed tabOk ⟨⟨enters156, ok156⟩, trivial⟩ trivial trivial
noncomputable def s117 : FSpec := ⟨[.imm false (.slice 150 (.pair (.int .i64) (.pair (.int .i64) (.pair (.int .i64) (.pair (.pair (.int .i64) (.pair (.int .i64) (.pair (.int .i64) (.pair (.int .i64) (.pair (.int .i64) .unit))))) (.pair (.pair (.int .i64) (.pair (.slice 3 (.int .i64)) .unit)) .unit)))))), .clo [(true, (.pair (.int .i64) (.pair (.int .i64) (.pair (.int .i64) (.pair (.pair (.int .i64) (.pair (.int .i64) (.pair (.int .i64) (.pair (.int .i64) (.pair (.int .i64) .unit))))) (.pair (.pair (.int .i64) (.pair (.slice 3 (.int .i64)) .unit)) .unit))))))] .bool], [.imm false .bool], fun x => S_ContainsFunc_Limpl_Row_impl_Row x.1 x.2.1⟩
theorem ok117 : FOk Try.prog 117 s117 := fn_says env117 Try.func117 rfl fun x y h => ⟨0, (r117 0 x.1 x.2.1).trans h⟩
theorem enters117 : Enters Try.prog 117 := enters Try.func117 (by kernel_rfl) rfl

/-! ## slices.IndexFunc[[][]loop.example/g00698/impl.Row,[]loop.example/g00698/impl.Row] -/
noncomputable def E155 : Env := { tab := tab, sig := [], clos := [], live := [(0, [0, 1, 7, 8], [])], eqs := [], inl := [] }
set_option maxRecDepth 100000 in
theorem r155 (N : Nat) (a0 : List (List T7)) (a1 : (List T7 × Unit) → Option Bool) : runF N E155 Try.f155 [.imm false (.slice 107 (.slice 150 (.pair (.int .i64) (.pair (.int .i64) (.pair (.int .i64) (.pair (.pair (.int .i64) (.pair (.int .i64) (.pair (.int .i64) (.pair (.int .i64) (.pair (.int .i64) .unit))))) (.pair (.pair (.int .i64) (.pair (.slice 3 (.int .i64)) .unit)) .unit))))))), .clo [(false, (.slice 150 (.pair (.int .i64) (.pair (.int .i64) (.pair (.int .i64) (.pair (.pair (.int .i64) (.pair (.int .i64) (.pair (.int .i64) (.pair (.int .i64) (.pair (.int .i64) .unit))))) (.pair (.pair (.int .i64) (.pair (.slice 3 (.int .i64)) .unit)) .unit)))))))] .bool] [.imm false (.int .i64)] (a0, a1, ()) = p_IndexFunc_LLimpl_Row_Limpl_Row N a0 a1 := by kernel_rfl
theorem env155 : EnvOk Try.prog E155 := envOk mixed tabOk trivial trivial trivial
noncomputable def s155 : FSpec := ⟨[.imm false (.slice 107 (.slice 150 (.pair (.int .i64) (.pair (.int .i64) (.pair (.int .i64) (.pair (.pair (.int .i64) (.pair (.int .i64) (.pair (.int .i64) (.pair (.int .i64) (.pair (.int .i64) .unit))))) (.pair (.pair (.int .i64) (.pair (.slice 3 (.int .i64)) .unit)) .unit))))))), .clo [(false, (.slice 150 (.pair (.int .i64) (.pair (.int .i64) (.pair (.int .i64) (.pair (.pair (.int .i64) (.pair (.int .i64) (.pair (.int .i64) (.pair (.int .i64) (.pair (.int .i64) .unit))))) (.pair (.pair (.int .i64) (.pair (.slice 3 (.int .i64)) .unit)) .unit)))))))] .bool], [.imm false (.int .i64)], fun x => S_IndexFunc_LLimpl_Row_Limpl_Row x.1 x.2.1⟩
theorem ok155 : FOk Try.prog 155 s155 := fn_says env155 Try.func155 rfl fun x y h => let ⟨N, hN⟩ := lim_some h; ⟨N, (r155 N x.1 x.2.1).trans hN⟩
theorem enters155 : Enters Try.prog 155 := enters Try.func155 (by kernel_rfl) rfl

end Go.Proofs.Ythijgmbdlkeebaa.Am
