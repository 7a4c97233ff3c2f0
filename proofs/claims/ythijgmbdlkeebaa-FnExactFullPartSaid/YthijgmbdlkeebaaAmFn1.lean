/- Functions, as they run on data. No condition. -/
import Derived.Test.YthijgmbdlkeebaaAmFn0
set_option linter.unusedVariables false
set_option maxRecDepth 100000
namespace Go.Proofs.Ythijgmbdlkeebaa.Am
open Go.AM Go.AM.P Go.Proofs
/-! ## loop.example/g00698/laws.szRow -/
noncomputable def E150 : Env := { tab := tab, sig := [(169, s169)], clos := [], live := [], eqs := [], inl := [] }
set_option maxRecDepth 100000 in
theorem r150 (N : Nat) (a0 : T7) (a1 : Int) : runF N E150 Try.f150 [.imm true (.pair (.int .i64) (.pair (.int .i64) (.pair (.int .i64) (.pair (.pair (.int .i64) (.pair (.int .i64) (.pair (.int .i64) (.pair (.int .i64) (.pair (.int .i64) .unit))))) (.pair (.pair (.int .i64) (.pair (.slice 3 (.int .i64)) .unit)) .unit))))), .imm false (.int .i64)] [.imm false (.int .i64)] (a0, a1, ()) = p_laws_szRow N a0 a1 := by kernel_rfl
theorem env150 : EnvOk Try.prog E150 := envOk mixed tabOk ⟨⟨enters169, ok169⟩, trivial⟩ trivial trivial
noncomputable def s150 : FSpec := ⟨[.imm true (.pair (.int .i64) (.pair (.int .i64) (.pair (.int .i64) (.pair (.pair (.int .i64) (.pair (.int .i64) (.pair (.int .i64) (.pair (.int .i64) (.pair (.int .i64) .unit))))) (.pair (.pair (.int .i64) (.pair (.slice 3 (.int .i64)) .unit)) .unit))))), .imm false (.int .i64)], [.imm false (.int .i64)], fun x => S_laws_szRow x.1 x.2.1⟩
theorem ok150 : FOk Try.prog 150 s150 := fn_says env150 Try.func150 rfl fun x y h => ⟨0, (r150 0 x.1 x.2.1).trans h⟩
theorem enters150 : Enters Try.prog 150 := enters Try.func150 (by kernel_rfl) rfl

/-! ## loop.example/g00698/laws.szRowS -/
noncomputable def E112 : Env := { tab := tab, sig := [(150, s150)], clos := [], live := [(0, [0, 1, 5], [])], eqs := [], inl := [] }
set_option maxRecDepth 100000 in
theorem r112 (N : Nat) (a0 : List T7) (a1 : Int) : runF N E112 Try.f112 [.imm false (.slice 189 (.pair (.int .i64) (.pair (.int .i64) (.pair (.int .i64) (.pair (.pair (.int .i64) (.pair (.int .i64) (.pair (.int .i64) (.pair (.int .i64) (.pair (.int .i64) .unit))))) (.pair (.pair (.int .i64) (.pair (.slice 3 (.int .i64)) .unit)) .unit)))))), .imm false (.int .i64)] [.imm false (.int .i64)] (a0, a1, ()) = p_laws_szRowS N a0 a1 := by kernel_rfl
theorem env112 : EnvOk Try.prog E112 := envOk mixed tabOk ⟨⟨enters150, ok150⟩, trivial⟩ trivial trivial
noncomputable def s112 : FSpec := ⟨[.imm false (.slice 189 (.pair (.int .i64) (.pair (.int .i64) (.pair (.int .i64) (.pair (.pair (.int .i64) (.pair (.int .i64) (.pair (.int .i64) (.pair (.int .i64) (.pair (.int .i64) .unit))))) (.pair (.pair (.int .i64) (.pair (.slice 3 (.int .i64)) .unit)) .unit)))))), .imm false (.int .i64)], [.imm false (.int .i64)], fun x => S_laws_szRowS x.1 x.2.1⟩
theorem ok112 : FOk Try.prog 112 s112 := fn_says env112 Try.func112 rfl fun x y h => let ⟨N, hN⟩ := lim_some h; ⟨N, (r112 N x.1 x.2.1).trans hN⟩
theorem enters112 : Enters Try.prog 112 := enters Try.func112 (by kernel_rfl) rfl

/-! ## loop.example/g00698/laws.szRowSS -/
noncomputable def E68 : Env := { tab := tab, sig := [(112, s112)], clos := [], live := [(0, [0, 1, 5], [])], eqs := [], inl := [] }
set_option maxRecDepth 100000 in
theorem r68 (N : Nat) (a0 : List (List T7)) (a1 : Int) : runF N E68 Try.f68 [.imm false (.slice 146 (.slice 189 (.pair (.int .i64) (.pair (.int .i64) (.pair (.int .i64) (.pair (.pair (.int .i64) (.pair (.int .i64) (.pair (.int .i64) (.pair (.int .i64) (.pair (.int .i64) .unit))))) (.pair (.pair (.int .i64) (.pair (.slice 3 (.int .i64)) .unit)) .unit))))))), .imm false (.int .i64)] [.imm false (.int .i64)] (a0, a1, ()) = p_laws_szRowSS N a0 a1 := by kernel_rfl
theorem env68 : EnvOk Try.prog E68 := envOk mixed tabOk ⟨⟨enters112, ok112⟩, trivial⟩ trivial trivial
noncomputable def s68 : FSpec := ⟨[.imm false (.slice 146 (.slice 189 (.pair (.int .i64) (.pair (.int .i64) (.pair (.int .i64) (.pair (.pair (.int .i64) (.pair (.int .i64) (.pair (.int .i64) (.pair (.int .i64) (.pair (.int .i64) .unit))))) (.pair (.pair (.int .i64) (.pair (.slice 3 (.int .i64)) .unit)) .unit))))))), .imm false (.int .i64)], [.imm false (.int .i64)], fun x => S_laws_szRowSS x.1 x.2.1⟩
theorem ok68 : FOk Try.prog 68 s68 := fn_says env68 Try.func68 rfl fun x y h => let ⟨N, hN⟩ := lim_some h; ⟨N, (r68 N x.1 x.2.1).trans hN⟩
theorem enters68 : Enters Try.prog 68 := enters Try.func68 (by kernel_rfl) rfl

/-! ## loop.example/g00698/laws.szTable -/
noncomputable def E27 : Env := { tab := tab, sig := [(68, s68)], clos := [], live := [], eqs := [], inl := [] }
set_option maxRecDepth 100000 in
theorem r27 (N : Nat) (a0 : T8) (a1 : Int) : runF N E27 Try.f27 [.imm true (.pair (.int .i64) (.pair (.slice 146 (.slice 189 (.pair (.int .i64) (.pair (.int .i64) (.pair (.int .i64) (.pair (.pair (.int .i64) (.pair (.int .i64) (.pair (.int .i64) (.pair (.int .i64) (.pair (.int .i64) .unit))))) (.pair (.pair (.int .i64) (.pair (.slice 3 (.int .i64)) .unit)) .unit))))))) .unit)), .imm false (.int .i64)] [.imm false (.int .i64)] (a0, a1, ()) = p_laws_szTable N a0 a1 := by kernel_rfl
theorem env27 : EnvOk Try.prog E27 := envOk mixed tabOk ⟨⟨enters68, ok68⟩, trivial⟩ trivial trivial
noncomputable def s27 : FSpec := ⟨[.imm true (.pair (.int .i64) (.pair (.slice 146 (.slice 189 (.pair (.int .i64) (.pair (.int .i64) (.pair (.int .i64) (.pair (.pair (.int .i64) (.pair (.int .i64) (.pair (.int .i64) (.pair (.int .i64) (.pair (.int .i64) .unit))))) (.pair (.pair (.int .i64) (.pair (.slice 3 (.int .i64)) .unit)) .unit))))))) .unit)), .imm false (.int .i64)], [.imm false (.int .i64)], fun x => S_laws_szTable x.1 x.2.1⟩
theorem ok27 : FOk Try.prog 27 s27 := fn_says env27 Try.func27 rfl fun x y h => ⟨0, (r27 0 x.1 x.2.1).trans h⟩
theorem enters27 : Enters Try.prog 27 := enters Try.func27 (by kernel_rfl) rfl

/-! ## loop.example/g00698/laws.toAttr -/
noncomputable def E171 : Env := { tab := tab, sig := [(13, s13)], clos := [], live := [], eqs := [], inl := [] }
set_option maxRecDepth 100000 in
theorem r171 (N : Nat) (a0 : T6) : runF N E171 Try.f171 [.imm true (.pair (.int .i64) (.pair (.slice 3 (.int .i64)) .unit))] [.deep true (.pair (.int .i64) (.pair (.slice 3 (.int .i64)) .unit))] (a0, ()) = p_laws_toAttr N a0 := by kernel_rfl
theorem env171 : EnvOk Try.prog E171 := envOk mixed tabOk ⟨⟨enters13, ok13⟩, trivial⟩ trivial trivial
noncomputable def s171 : FSpec := ⟨[.imm true (.pair (.int .i64) (.pair (.slice 3 (.int .i64)) .unit))], [.deep true (.pair (.int .i64) (.pair (.slice 3 (.int .i64)) .unit))], fun x => S_laws_toAttr x.1⟩
theorem ok171 : FOk Try.prog 171 s171 := fn_says env171 Try.func171 rfl fun x y h => ⟨0, (r171 0 x.1).trans h⟩
theorem enters171 : Enters Try.prog 171 := enters Try.func171 (by kernel_rfl) rfl

/-! ## loop.example/g00698/laws.toRow -/
noncomputable def E154 : Env := { tab := tab, sig := [(105, s105), (171, s171)], clos := [], live := [], eqs := [], inl := [] }
set_option maxRecDepth 100000 in
theorem r154 (N : Nat) (a0 : T7) : runF N E154 Try.f154 [.imm true (.pair (.int .i64) (.pair (.int .i64) (.pair (.int .i64) (.pair (.pair (.int .i64) (.pair (.int .i64) (.pair (.int .i64) (.pair (.int .i64) (.pair (.int .i64) .unit))))) (.pair (.pair (.int .i64) (.pair (.slice 3 (.int .i64)) .unit)) .unit)))))] [.deep true (.pair (.int .i64) (.pair (.int .i64) (.pair (.int .i64) (.pair (.pair (.int .i64) (.pair (.int .i64) (.pair (.int .i64) (.pair (.int .i64) (.pair (.int .i64) .unit))))) (.pair (.pair (.int .i64) (.pair (.slice 3 (.int .i64)) .unit)) .unit)))))] (a0, ()) = p_laws_toRow N a0 := by kernel_rfl
theorem env154 : EnvOk Try.prog E154 := envOk mixed tabOk ⟨⟨enters105, ok105⟩, ⟨enters171, ok171⟩, trivial⟩ trivial trivial
noncomputable def s154 : FSpec := ⟨[.imm true (.pair (.int .i64) (.pair (.int .i64) (.pair (.int .i64) (.pair (.pair (.int .i64) (.pair (.int .i64) (.pair (.int .i64) (.pair (.int .i64) (.pair (.int .i64) .unit))))) (.pair (.pair (.int .i64) (.pair (.slice 3 (.int .i64)) .unit)) .unit)))))], [.deep true (.pair (.int .i64) (.pair (.int .i64) (.pair (.int .i64) (.pair (.pair (.int .i64) (.pair (.int .i64) (.pair (.int .i64) (.pair (.int .i64) (.pair (.int .i64) .unit))))) (.pair (.pair (.int .i64) (.pair (.slice 3 (.int .i64)) .unit)) .unit)))))], fun x => S_laws_toRow x.1⟩
theorem ok154 : FOk Try.prog 154 s154 := fn_says env154 Try.func154 rfl fun x y h => ⟨0, (r154 0 x.1).trans h⟩
theorem enters154 : Enters Try.prog 154 := enters Try.func154 (by kernel_rfl) rfl

/-! ## loop.example/g00698/laws.toRowS -/
noncomputable def E114 : Env := { tab := tab, sig := [(154, s154)], clos := [], live := [(0, [0, 3, 4], [])], eqs := [], inl := [] }
set_option maxRecDepth 100000 in
theorem r114 (N : Nat) (a0 : List T7) : runF N E114 Try.f114 [.imm false (.slice 189 (.pair (.int .i64) (.pair (.int .i64) (.pair (.int .i64) (.pair (.pair (.int .i64) (.pair (.int .i64) (.pair (.int .i64) (.pair (.int .i64) (.pair (.int .i64) .unit))))) (.pair (.pair (.int .i64) (.pair (.slice 3 (.int .i64)) .unit)) .unit))))))] [.deep false (.slice 150 (.pair (.int .i64) (.pair (.int .i64) (.pair (.int .i64) (.pair (.pair (.int .i64) (.pair (.int .i64) (.pair (.int .i64) (.pair (.int .i64) (.pair (.int .i64) .unit))))) (.pair (.pair (.int .i64) (.pair (.slice 3 (.int .i64)) .unit)) .unit))))))] (a0, ()) = p_laws_toRowS N a0 := by kernel_rfl
theorem env114 : EnvOk Try.prog E114 := envOk mixed tabOk ⟨⟨enters154, ok154⟩, trivial⟩ trivial trivial
noncomputable def s114 : FSpec := ⟨[.imm false (.slice 189 (.pair (.int .i64) (.pair (.int .i64) (.pair (.int .i64) (.pair (.pair (.int .i64) (.pair (.int .i64) (.pair (.int .i64) (.pair (.int .i64) (.pair (.int .i64) .unit))))) (.pair (.pair (.int .i64) (.pair (.slice 3 (.int .i64)) .unit)) .unit))))))], [.deep false (.slice 150 (.pair (.int .i64) (.pair (.int .i64) (.pair (.int .i64) (.pair (.pair (.int .i64) (.pair (.int .i64) (.pair (.int .i64) (.pair (.int .i64) (.pair (.int .i64) .unit))))) (.pair (.pair (.int .i64) (.pair (.slice 3 (.int .i64)) .unit)) .unit))))))], fun x => S_laws_toRowS x.1⟩
theorem ok114 : FOk Try.prog 114 s114 := fn_says env114 Try.func114 rfl fun x y h => let ⟨N, hN⟩ := lim_some h; ⟨N, (r114 N x.1).trans hN⟩
theorem enters114 : Enters Try.prog 114 := enters Try.func114 (by kernel_rfl) rfl

/-! ## loop.example/g00698/laws.toRowSS -/
noncomputable def E72 : Env := { tab := tab, sig := [(114, s114)], clos := [], live := [(0, [0, 3, 4], [])], eqs := [], inl := [] }
set_option maxRecDepth 100000 in
theorem r72 (N : Nat) (a0 : List (List T7)) : runF N E72 Try.f72 [.imm false (.slice 146 (.slice 189 (.pair (.int .i64) (.pair (.int .i64) (.pair (.int .i64) (.pair (.pair (.int .i64) (.pair (.int .i64) (.pair (.int .i64) (.pair (.int .i64) (.pair (.int .i64) .unit))))) (.pair (.pair (.int .i64) (.pair (.slice 3 (.int .i64)) .unit)) .unit)))))))] [.deep false (.slice 107 (.slice 150 (.pair (.int .i64) (.pair (.int .i64) (.pair (.int .i64) (.pair (.pair (.int .i64) (.pair (.int .i64) (.pair (.int .i64) (.pair (.int .i64) (.pair (.int .i64) .unit))))) (.pair (.pair (.int .i64) (.pair (.slice 3 (.int .i64)) .unit)) .unit)))))))] (a0, ()) = p_laws_toRowSS N a0 := by kernel_rfl
theorem env72 : EnvOk Try.prog E72 := envOk mixed tabOk ⟨⟨enters114, ok114⟩, trivial⟩ trivial trivial
noncomputable def s72 : FSpec := ⟨[.imm false (.slice 146 (.slice 189 (.pair (.int .i64) (.pair (.int .i64) (.pair (.int .i64) (.pair (.pair (.int .i64) (.pair (.int .i64) (.pair (.int .i64) (.pair (.int .i64) (.pair (.int .i64) .unit))))) (.pair (.pair (.int .i64) (.pair (.slice 3 (.int .i64)) .unit)) .unit)))))))], [.deep false (.slice 107 (.slice 150 (.pair (.int .i64) (.pair (.int .i64) (.pair (.int .i64) (.pair (.pair (.int .i64) (.pair (.int .i64) (.pair (.int .i64) (.pair (.int .i64) (.pair (.int .i64) .unit))))) (.pair (.pair (.int .i64) (.pair (.slice 3 (.int .i64)) .unit)) .unit)))))))], fun x => S_laws_toRowSS x.1⟩
theorem ok72 : FOk Try.prog 72 s72 := fn_says env72 Try.func72 rfl fun x y h => let ⟨N, hN⟩ := lim_some h; ⟨N, (r72 N x.1).trans hN⟩
theorem enters72 : Enters Try.prog 72 := enters Try.func72 (by kernel_rfl) rfl

/-! ## loop.example/g00698/laws.toTable -/
noncomputable def E29 : Env := { tab := tab, sig := [(72, s72)], clos := [], live := [], eqs := [], inl := [] }
set_option maxRecDepth 100000 in
theorem r29 (N : Nat) (a0 : T8) : runF N E29 Try.f29 [.imm true (.pair (.int .i64) (.pair (.slice 146 (.slice 189 (.pair (.int .i64) (.pair (.int .i64) (.pair (.int .i64) (.pair (.pair (.int .i64) (.pair (.int .i64) (.pair (.int .i64) (.pair (.int .i64) (.pair (.int .i64) .unit))))) (.pair (.pair (.int .i64) (.pair (.slice 3 (.int .i64)) .unit)) .unit))))))) .unit))] [.deep true (.pair (.int .i64) (.pair (.slice 107 (.slice 150 (.pair (.int .i64) (.pair (.int .i64) (.pair (.int .i64) (.pair (.pair (.int .i64) (.pair (.int .i64) (.pair (.int .i64) (.pair (.int .i64) (.pair (.int .i64) .unit))))) (.pair (.pair (.int .i64) (.pair (.slice 3 (.int .i64)) .unit)) .unit))))))) .unit))] (a0, ()) = p_laws_toTable N a0 := by kernel_rfl
theorem env29 : EnvOk Try.prog E29 := envOk mixed tabOk ⟨⟨enters72, ok72⟩, trivial⟩ trivial trivial
noncomputable def s29 : FSpec := ⟨[.imm true (.pair (.int .i64) (.pair (.slice 146 (.slice 189 (.pair (.int .i64) (.pair (.int .i64) (.pair (.int .i64) (.pair (.pair (.int .i64) (.pair (.int .i64) (.pair (.int .i64) (.pair (.int .i64) (.pair (.int .i64) .unit))))) (.pair (.pair (.int .i64) (.pair (.slice 3 (.int .i64)) .unit)) .unit))))))) .unit))], [.deep true (.pair (.int .i64) (.pair (.slice 107 (.slice 150 (.pair (.int .i64) (.pair (.int .i64) (.pair (.int .i64) (.pair (.pair (.int .i64) (.pair (.int .i64) (.pair (.int .i64) (.pair (.int .i64) (.pair (.int .i64) .unit))))) (.pair (.pair (.int .i64) (.pair (.slice 3 (.int .i64)) .unit)) .unit))))))) .unit))], fun x => S_laws_toTable x.1⟩
theorem ok29 : FOk Try.prog 29 s29 := fn_says env29 Try.func29 rfl fun x y h => ⟨0, (r29 0 x.1).trans h⟩
theorem enters29 : Enters Try.prog 29 := enters Try.func29 (by kernel_rfl) rfl

/-! ## loop.example/g00698/spec.IsGroup -/
noncomputable def E95 : Env := { tab := tab, sig := [], clos := [], live := [], eqs := [], inl := [] }
set_option maxRecDepth 100000 in
theorem r95 (N : Nat) (a0 : Int) : runF N E95 Try.f95 [.imm false (.int .i64)] [.imm false .bool] (a0, ()) = p_spec_IsGroup N a0 := by kernel_rfl
theorem env95 : EnvOk Try.prog E95 := envOk mixed tabOk trivial trivial trivial
noncomputable def s95 : FSpec := ⟨[.imm false (.int .i64)], [.imm false .bool], fun x => S_spec_IsGroup x.1⟩
theorem ok95 : FOk Try.prog 95 s95 := fn_says env95 Try.func95 rfl fun x y h => ⟨0, (r95 0 x.1).trans h⟩
theorem enters95 : Enters Try.prog 95 := enters Try.func95 (by kernel_rfl) rfl

/-! ## loop.example/g00698/spec.l3None -/
noncomputable def E152 : Env := { tab := tab, sig := [], clos := [], live := [], eqs := [], inl := [] }
set_option maxRecDepth 100000 in
theorem r152 (N : Nat) (a0 : Int) : runF N E152 Try.f152 [.imm false (.int .i64)] [.deep true (.pair (.int .i64) (.pair (.slice 3 (.int .i64)) .unit))] (a0, ()) = p_spec_l3None N a0 := by kernel_rfl
theorem env152 : EnvOk Try.prog E152 := envOk mixed tabOk trivial trivial trivial
noncomputable def s152 : FSpec := ⟨[.imm false (.int .i64)], [.deep true (.pair (.int .i64) (.pair (.slice 3 (.int .i64)) .unit))], fun x => S_spec_l3None x.1⟩
theorem ok152 : FOk Try.prog 152 s152 := fn_says env152 Try.func152 rfl fun x y h => ⟨0, (r152 0 x.1).trans h⟩
theorem enters152 : Enters Try.prog 152 := enters Try.func152 (by kernel_rfl) rfl

/-! ## loop.example/g00698/spec.l1Same -/
noncomputable def E170 : Env := { tab := tab, sig := [], clos := [], live := [(0, [0, 1, 12, 13], [])], eqs := [], inl := [] }
set_option maxRecDepth 100000 in
theorem r170 (N : Nat) (a0 : List Int) (a1 : List Int) : runF N E170 Try.f170 [.imm false (.slice 3 (.int .i64)), .imm false (.slice 3 (.int .i64))] [.imm false .bool] (a0, a1, ()) = p_spec_l1Same N a0 a1 := by kernel_rfl
theorem env170 : EnvOk Try.prog E170 := envOk mixed tabOk trivial trivial trivial
noncomputable def s170 : FSpec := ⟨[.imm false (.slice 3 (.int .i64)), .imm false (.slice 3 (.int .i64))], [.imm false .bool], fun x => S_spec_l1Same x.1 x.2.1⟩
theorem ok170 : FOk Try.prog 170 s170 := fn_says env170 Try.func170 rfl fun x y h => let ⟨N, hN⟩ := lim_some h; ⟨N, (r170 N x.1 x.2.1).trans hN⟩
theorem enters170 : Enters Try.prog 170 := enters Try.func170 (by kernel_rfl) rfl

/-! ## loop.example/g00698/spec.SameAttr -/
noncomputable def E151 : Env := { tab := tab, sig := [(170, s170)], clos := [], live := [], eqs := [], inl := [] }
set_option maxRecDepth 100000 in
theorem r151 (N : Nat) (a0 : T6) (a1 : T6) : runF N E151 Try.f151 [.imm true (.pair (.int .i64) (.pair (.slice 3 (.int .i64)) .unit)), .imm true (.pair (.int .i64) (.pair (.slice 3 (.int .i64)) .unit))] [.imm false .bool] (a0, a1, ()) = p_spec_SameAttr N a0 a1 := by kernel_rfl
theorem env151 : EnvOk Try.prog E151 := envOk mixed tabOk ⟨⟨enters170, ok170⟩, trivial⟩ trivial trivial
noncomputable def s151 : FSpec := ⟨[.imm true (.pair (.int .i64) (.pair (.slice 3 (.int .i64)) .unit)), .imm true (.pair (.int .i64) (.pair (.slice 3 (.int .i64)) .unit))], [.imm false .bool], fun x => S_spec_SameAttr x.1 x.2.1⟩
theorem ok151 : FOk Try.prog 151 s151 := fn_says env151 Try.func151 rfl fun x y h => ⟨0, (r151 0 x.1 x.2.1).trans h⟩
theorem enters151 : Enters Try.prog 151 := enters Try.func151 (by kernel_rfl) rfl

/-! ## loop.example/g00698/spec.l1All -/
noncomputable def E70 : Env := { tab := tab, sig := [(82, s82)], clos := [], live := [(0, [1, 2, 9, 10, 11], [])], eqs := [], inl := [] }
set_option maxRecDepth 100000 in
theorem r70 (N : Nat) (a0 : List Int) (a1 : Int) (a2 : Int) : runF N E70 Try.f70 [.imm false (.slice 3 (.int .i64)), .imm false (.int .i64), .imm false (.int .i64)] [.imm false .bool] (a0, a1, a2, ()) = p_spec_l1All N a0 a1 a2 := by kernel_rfl
theorem env70 : EnvOk Try.prog E70 := envOk mixed tabOk ⟨⟨enters82, ok82⟩, trivial⟩ trivial trivial
noncomputable def s70 : FSpec := ⟨[.imm false (.slice 3 (.int .i64)), .imm false (.int .i64), .imm false (.int .i64)], [.imm false .bool], fun x => S_spec_l1All x.1 x.2.1 x.2.2.1⟩
theorem ok70 : FOk Try.prog 70 s70 := fn_says env70 Try.func70 rfl fun x y h => let ⟨N, hN⟩ := lim_some h; ⟨N, (r70 N x.1 x.2.1 x.2.2.1).trans hN⟩
theorem enters70 : Enters Try.prog 70 := enters Try.func70 (by kernel_rfl) rfl

/-! ## loop.example/g00698/spec.l3Attr -/
noncomputable def E153 : Env := { tab := tab, sig := [(82, s82), (70, s70)], clos := [], live := [], eqs := [], inl := [] }
set_option maxRecDepth 100000 in
theorem r153 (N : Nat) (a0 : Int) (a1 : T6) : runF N E153 Try.f153 [.imm false (.int .i64), .imm true (.pair (.int .i64) (.pair (.slice 3 (.int .i64)) .unit))] [.imm false .bool] (a0, a1, ()) = p_spec_l3Attr N a0 a1 := by kernel_rfl
theorem env153 : EnvOk Try.prog E153 := envOk mixed tabOk ⟨⟨enters82, ok82⟩, ⟨enters70, ok70⟩, trivial⟩ trivial trivial
noncomputable def s153 : FSpec := ⟨[.imm false (.int .i64), .imm true (.pair (.int .i64) (.pair (.slice 3 (.int .i64)) .unit))], [.imm false .bool], fun x => S_spec_l3Attr x.1 x.2.1⟩
theorem ok153 : FOk Try.prog 153 s153 := fn_says env153 Try.func153 rfl fun x y h => ⟨0, (r153 0 x.1 x.2.1).trans h⟩
theorem enters153 : Enters Try.prog 153 := enters Try.func153 (by kernel_rfl) rfl

/-! ## loop.example/g00698/spec.l4Row -/
noncomputable def E113 : Env := { tab := tab, sig := [(82, s82), (152, s152), (151, s151), (103, s103), (153, s153)], clos := [], live := [], eqs := [(75, 5)], inl := [] }
set_option maxRecDepth 100000 in
theorem r113 (N : Nat) (a0 : Int) (a1 : T7) : runF N E113 Try.f113 [.imm false (.int .i64), .imm true (.pair (.int .i64) (.pair (.int .i64) (.pair (.int .i64) (.pair (.pair (.int .i64) (.pair (.int .i64) (.pair (.int .i64) (.pair (.int .i64) (.pair (.int .i64) .unit))))) (.pair (.pair (.int .i64) (.pair (.slice 3 (.int .i64)) .unit)) .unit)))))] [.imm false .bool] (a0, a1, ()) = p_spec_l4Row N a0 a1 := by kernel_rfl
theorem env113 : EnvOk Try.prog E113 := envOk mixed tabOk ⟨⟨enters82, ok82⟩, ⟨enters152, ok152⟩, ⟨enters151, ok151⟩, ⟨enters103, ok103⟩, ⟨enters153, ok153⟩, trivial⟩ trivial ⟨eq75, trivial⟩
noncomputable def s113 : FSpec := ⟨[.imm false (.int .i64), .imm true (.pair (.int .i64) (.pair (.int .i64) (.pair (.int .i64) (.pair (.pair (.int .i64) (.pair (.int .i64) (.pair (.int .i64) (.pair (.int .i64) (.pair (.int .i64) .unit))))) (.pair (.pair (.int .i64) (.pair (.slice 3 (.int .i64)) .unit)) .unit)))))], [.imm false .bool], fun x => S_spec_l4Row x.1 x.2.1⟩
theorem ok113 : FOk Try.prog 113 s113 := fn_says env113 Try.func113 rfl fun x y h => ⟨0, (r113 0 x.1 x.2.1).trans h⟩
theorem enters113 : Enters Try.prog 113 := enters Try.func113 (by kernel_rfl) rfl

/-! ## loop.example/g00698/spec.GoodTable -/
noncomputable def E69 : Env := { tab := tab, sig := [(95, s95), (113, s113)], clos := [], live := [(0, [1, 20, 21, 22], []), (2, [1, 4, 20, 21, 22, 26, 27, 28], [])], eqs := [], inl := [] }
set_option maxRecDepth 100000 in
theorem r69 (N : Nat) (a0 : T8) : runF N E69 Try.f69 [.imm true (.pair (.int .i64) (.pair (.slice 107 (.slice 150 (.pair (.int .i64) (.pair (.int .i64) (.pair (.int .i64) (.pair (.pair (.int .i64) (.pair (.int .i64) (.pair (.int .i64) (.pair (.int .i64) (.pair (.int .i64) .unit))))) (.pair (.pair (.int .i64) (.pair (.slice 3 (.int .i64)) .unit)) .unit))))))) .unit))] [.imm false .bool] (a0, ()) = p_spec_GoodTable N a0 := by kernel_rfl
theorem env69 : EnvOk Try.prog E69 := envOk mixed tabOk ⟨⟨enters95, ok95⟩, ⟨enters113, ok113⟩, trivial⟩ trivial trivial
noncomputable def s69 : FSpec := ⟨[.imm true (.pair (.int .i64) (.pair (.slice 107 (.slice 150 (.pair (.int .i64) (.pair (.int .i64) (.pair (.int .i64) (.pair (.pair (.int .i64) (.pair (.int .i64) (.pair (.int .i64) (.pair (.int .i64) (.pair (.int .i64) .unit))))) (.pair (.pair (.int .i64) (.pair (.slice 3 (.int .i64)) .unit)) .unit))))))) .unit))], [.imm false .bool], fun x => S_spec_GoodTable x.1⟩
theorem ok69 : FOk Try.prog 69 s69 := fn_says env69 Try.func69 rfl fun x y h => let ⟨N, hN⟩ := lim_some h; ⟨N, (r69 N x.1).trans hN⟩
theorem enters69 : Enters Try.prog 69 := enters Try.func69 (by kernel_rfl) rfl

/-! ## loop.example/g00698/spec.l1Most -/
noncomputable def E71 : Env := { tab := tab, sig := [], clos := [], live := [], eqs := [], inl := [] }
set_option maxRecDepth 100000 in
theorem r71 (N : Nat) (a0 : Int) (a1 : Int) : runF N E71 Try.f71 [.imm false (.int .i64), .imm false (.int .i64)] [.imm false (.int .i64)] (a0, a1, ()) = p_spec_l1Most N a0 a1 := by kernel_rfl
theorem env71 : EnvOk Try.prog E71 := envOk mixed tabOk trivial trivial trivial
noncomputable def s71 : FSpec := ⟨[.imm false (.int .i64), .imm false (.int .i64)], [.imm false (.int .i64)], fun x => S_spec_l1Most x.1 x.2.1⟩
theorem ok71 : FOk Try.prog 71 s71 := fn_says env71 Try.func71 rfl fun x y h => ⟨0, (r71 0 x.1 x.2.1).trans h⟩
theorem enters71 : Enters Try.prog 71 := enters Try.func71 (by kernel_rfl) rfl

/-! ## loop.example/g00698/spec.KeptIn -/
noncomputable def E28 : Env := { tab := tab, sig := [(69, s69), (70, s70), (71, s71)], clos := [], live := [(0, [1, 6, 25, 26, 27], [])], eqs := [], inl := [] }
set_option maxRecDepth 100000 in
theorem r28 (N : Nat) (a0 : T8) (a1 : List Int) : runF N E28 Try.f28 [.imm true (.pair (.int .i64) (.pair (.slice 107 (.slice 150 (.pair (.int .i64) (.pair (.int .i64) (.pair (.int .i64) (.pair (.pair (.int .i64) (.pair (.int .i64) (.pair (.int .i64) (.pair (.int .i64) (.pair (.int .i64) .unit))))) (.pair (.pair (.int .i64) (.pair (.slice 3 (.int .i64)) .unit)) .unit))))))) .unit)), .imm false (.slice 3 (.int .i64))] [.imm false (.int .i64), .imm false .bool] (a0, a1, ()) = p_spec_KeptIn N a0 a1 := by kernel_rfl
theorem env28 : EnvOk Try.prog E28 := envOk mixed tabOk ⟨⟨enters69, ok69⟩, ⟨enters70, ok70⟩, ⟨enters71, ok71⟩, trivial⟩ trivial trivial
noncomputable def s28 : FSpec := ⟨[.imm true (.pair (.int .i64) (.pair (.slice 107 (.slice 150 (.pair (.int .i64) (.pair (.int .i64) (.pair (.int .i64) (.pair (.pair (.int .i64) (.pair (.int .i64) (.pair (.int .i64) (.pair (.int .i64) (.pair (.int .i64) .unit))))) (.pair (.pair (.int .i64) (.pair (.slice 3 (.int .i64)) .unit)) .unit))))))) .unit)), .imm false (.slice 3 (.int .i64))], [.imm false (.int .i64), .imm false .bool], fun x => S_spec_KeptIn x.1 x.2.1⟩
theorem ok28 : FOk Try.prog 28 s28 := fn_says env28 Try.func28 rfl fun x y h => let ⟨N, hN⟩ := lim_some h; ⟨N, (r28 N x.1 x.2.1).trans hN⟩
theorem enters28 : Enters Try.prog 28 := enters Try.func28 (by kernel_rfl) rfl

/-! ## loop.example/g00698/impl.IsGroup -/
noncomputable def E90 : Env := { tab := tab, sig := [], clos := [], live := [], eqs := [], inl := [] }
set_option maxRecDepth 100000 in
theorem r90 (N : Nat) (a0 : Int) : runF N E90 Try.f90 [.imm false (.int .i64)] [.imm false .bool] (a0, ()) = p_impl_IsGroup N a0 := by kernel_rfl
theorem env90 : EnvOk Try.prog E90 := envOk mixed tabOk trivial trivial trivial
noncomputable def s90 : FSpec := ⟨[.imm false (.int .i64)], [.imm false .bool], fun x => S_impl_IsGroup x.1⟩
theorem ok90 : FOk Try.prog 90 s90 := fn_says env90 Try.func90 rfl fun x y h => ⟨0, (r90 0 x.1).trans h⟩
theorem enters90 : Enters Try.prog 90 := enters Try.func90 (by kernel_rfl) rfl

/-! ## loop.example/g00698/impl.GoodAttr -/
theorem enters172 : Enters Try.prog 172 := enters Try.func172 (by kernel_rfl) rfl
noncomputable def E157 : Env := { tab := tab, sig := [(90, s90), (76, s76), (74, s74)], clos := [(172, ⟨Try.f172, [(false, (.int .i64))], []⟩)], live := [], eqs := [], inl := [] }
set_option maxRecDepth 100000 in
theorem r157 (N : Nat) (a0 : Int) (a1 : T6) : runF N E157 Try.f157 [.imm false (.int .i64), .imm true (.pair (.int .i64) (.pair (.slice 3 (.int .i64)) .unit))] [.imm false .bool] (a0, a1, ()) = p_impl_GoodAttr N a0 a1 := by kernel_rfl
theorem env157 : EnvOk Try.prog E157 := envOk mixed tabOk ⟨⟨enters90, ok90⟩, ⟨enters76, ok76⟩, ⟨enters74, ok74⟩, trivial⟩ ⟨⟨Try.func172, enters172⟩, trivial⟩ trivial
noncomputable def s157 : FSpec := ⟨[.imm false (.int .i64), .imm true (.pair (.int .i64) (.pair (.slice 3 (.int .i64)) .unit))], [.imm false .bool], fun x => S_impl_GoodAttr x.1 x.2.1⟩
theorem ok157 : FOk Try.prog 157 s157 := fn_says env157 Try.func157 rfl fun x y h => ⟨0, (r157 0 x.1 x.2.1).trans h⟩
theorem enters157 : Enters Try.prog 157 := enters Try.func157 (by kernel_rfl) rfl

/-! ## loop.example/g00698/impl.noneAttr -/
noncomputable def E159 : Env := { tab := tab, sig := [], clos := [], live := [], eqs := [], inl := [] }
set_option maxRecDepth 100000 in
theorem r159 (N : Nat) (a0 : Int) : runF N E159 Try.f159 [.imm false (.int .i64)] [.deep true (.pair (.int .i64) (.pair (.slice 3 (.int .i64)) .unit))] (a0, ()) = p_impl_noneAttr N a0 := by kernel_rfl
theorem env159 : EnvOk Try.prog E159 := envOk mixed tabOk trivial trivial trivial
noncomputable def s159 : FSpec := ⟨[.imm false (.int .i64)], [.deep true (.pair (.int .i64) (.pair (.slice 3 (.int .i64)) .unit))], fun x => S_impl_noneAttr x.1⟩
theorem ok159 : FOk Try.prog 159 s159 := fn_says env159 Try.func159 rfl fun x y h => ⟨0, (r159 0 x.1).trans h⟩
theorem enters159 : Enters Try.prog 159 := enters Try.func159 (by kernel_rfl) rfl

/-! ## slices.Equal[[]int,int] -/
noncomputable def E173 : Env := { tab := tab, sig := [], clos := [], live := [(0, [0, 1, 12, 13], [])], eqs := [], inl := [] }
set_option maxRecDepth 100000 in
theorem r173 (N : Nat) (a0 : List Int) (a1 : List Int) : runF N E173 Try.f173 [.imm false (.slice 3 (.int .i64)), .imm false (.slice 3 (.int .i64))] [.imm false .bool] (a0, a1, ()) = p_Equal_Lint_int N a0 a1 := by kernel_rfl
theorem env173 : EnvOk Try.prog E173 := envOk mixed tabOk trivial trivial trivial
noncomputable def s173 : FSpec := ⟨[.imm false (.slice 3 (.int .i64)), .imm false (.slice 3 (.int .i64))], [.imm false .bool], fun x => S_Equal_Lint_int x.1 x.2.1⟩
theorem ok173 : FOk Try.prog 173 s173 := fn_says env173 Try.func173 rfl fun x y h => let ⟨N, hN⟩ := lim_some h; ⟨N, (r173 N x.1 x.2.1).trans hN⟩
theorem enters173 : Enters Try.prog 173 := enters Try.func173 (by kernel_rfl) rfl

/-! ## loop.example/g00698/impl.SameAttr -/
noncomputable def E158 : Env := { tab := tab, sig := [(173, s173)], clos := [], live := [], eqs := [], inl := [] }
set_option maxRecDepth 100000 in
theorem r158 (N : Nat) (a0 : T6) (a1 : T6) : runF N E158 Try.f158 [.imm true (.pair (.int .i64) (.pair (.slice 3 (.int .i64)) .unit)), .imm true (.pair (.int .i64) (.pair (.slice 3 (.int .i64)) .unit))] [.imm false .bool] (a0, a1, ()) = p_impl_SameAttr N a0 a1 := by kernel_rfl
theorem env158 : EnvOk Try.prog E158 := envOk mixed tabOk ⟨⟨enters173, ok173⟩, trivial⟩ trivial trivial
noncomputable def s158 : FSpec := ⟨[.imm true (.pair (.int .i64) (.pair (.slice 3 (.int .i64)) .unit)), .imm true (.pair (.int .i64) (.pair (.slice 3 (.int .i64)) .unit))], [.imm false .bool], fun x => S_impl_SameAttr x.1 x.2.1⟩
theorem ok158 : FOk Try.prog 158 s158 := fn_says env158 Try.func158 rfl fun x y h => ⟨0, (r158 0 x.1 x.2.1).trans h⟩
theorem enters158 : Enters Try.prog 158 := enters Try.func158 (by kernel_rfl) rfl

/-! ## loop.example/g00698/impl.goodRow -/
noncomputable def E119 : Env := { tab := tab, sig := [(76, s76), (142, s142), (157, s157), (159, s159), (158, s158)], clos := [], live := [], eqs := [(75, 5)], inl := [] }
set_option maxRecDepth 100000 in
theorem r119 (N : Nat) (a0 : Int) (a1 : T7) : runF N E119 Try.f119 [.imm false (.int .i64), .imm true (.pair (.int .i64) (.pair (.int .i64) (.pair (.int .i64) (.pair (.pair (.int .i64) (.pair (.int .i64) (.pair (.int .i64) (.pair (.int .i64) (.pair (.int .i64) .unit))))) (.pair (.pair (.int .i64) (.pair (.slice 3 (.int .i64)) .unit)) .unit)))))] [.imm false .bool] (a0, a1, ()) = p_impl_goodRow N a0 a1 := by kernel_rfl
theorem env119 : EnvOk Try.prog E119 := envOk mixed tabOk ⟨⟨enters76, ok76⟩, ⟨enters142, ok142⟩, ⟨enters157, ok157⟩, ⟨enters159, ok159⟩, ⟨enters158, ok158⟩, trivial⟩ trivial ⟨eq75, trivial⟩
noncomputable def s119 : FSpec := ⟨[.imm false (.int .i64), .imm true (.pair (.int .i64) (.pair (.int .i64) (.pair (.int .i64) (.pair (.pair (.int .i64) (.pair (.int .i64) (.pair (.int .i64) (.pair (.int .i64) (.pair (.int .i64) .unit))))) (.pair (.pair (.int .i64) (.pair (.slice 3 (.int .i64)) .unit)) .unit)))))], [.imm false .bool], fun x => S_impl_goodRow x.1 x.2.1⟩
theorem ok119 : FOk Try.prog 119 s119 := fn_says env119 Try.func119 rfl fun x y h => ⟨0, (r119 0 x.1 x.2.1).trans h⟩
theorem enters119 : Enters Try.prog 119 := enters Try.func119 (by kernel_rfl) rfl

/-! ## slices.IndexFunc[[]loop.example/g00698/impl.Row,loop.example/g00698/impl.Row] -/
noncomputable def E156 : Env := { tab := tab, sig := [], clos := [], live := [(0, [0, 1, 7, 8], [])], eqs := [], inl := [] }
set_option maxRecDepth 100000 in
theorem r156 (N : Nat) (a0 : List T7) (a1 : (T7 × Unit) → Option Bool) : runF N E156 Try.f156 [.imm false (.slice 150 (.pair (.int .i64) (.pair (.int .i64) (.pair (.int .i64) (.pair (.pair (.int .i64) (.pair (.int .i64) (.pair (.int .i64) (.pair (.int .i64) (.pair (.int .i64) .unit))))) (.pair (.pair (.int .i64) (.pair (.slice 3 (.int .i64)) .unit)) .unit)))))), .clo [(true, (.pair (.int .i64) (.pair (.int .i64) (.pair (.int .i64) (.pair (.pair (.int .i64) (.pair (.int .i64) (.pair (.int .i64) (.pair (.int .i64) (.pair (.int .i64) .unit))))) (.pair (.pair (.int .i64) (.pair (.slice 3 (.int .i64)) .unit)) .unit))))))] .bool] [.imm false (.int .i64)] (a0, a1, ()) = p_IndexFunc_Limpl_Row_impl_Row N a0 a1 := by kernel_rfl
theorem env156 : EnvOk Try.prog E156 := envOk mixed tabOk trivial trivial trivial
noncomputable def s156 : FSpec := ⟨[.imm false (.slice 150 (.pair (.int .i64) (.pair (.int .i64) (.pair (.int .i64) (.pair (.pair (.int .i64) (.pair (.int .i64) (.pair (.int .i64) (.pair (.int .i64) (.pair (.int .i64) .unit))))) (.pair (.pair (.int .i64) (.pair (.slice 3 (.int .i64)) .unit)) .unit)))))), .clo [(true, (.pair (.int .i64) (.pair (.int .i64) (.pair (.int .i64) (.pair (.pair (.int .i64) (.pair (.int .i64) (.pair (.int .i64) (.pair (.int .i64) (.pair (.int .i64) .unit))))) (.pair (.pair (.int .i64) (.pair (.slice 3 (.int .i64)) .unit)) .unit))))))] .bool], [.imm false (.int .i64)], fun x => S_IndexFunc_Limpl_Row_impl_Row x.1 x.2.1⟩
theorem ok156 : FOk Try.prog 156 s156 := fn_says env156 Try.func156 rfl fun x y h => let ⟨N, hN⟩ := lim_some h; ⟨N, (r156 N x.1 x.2.1).trans hN⟩
theorem enters156 : Enters Try.prog 156 := enters Try.func156 (by kernel_rfl) rfl

/-! ## slices.ContainsFunc[[]loop.example/g00698/impl.Row,loop.example/g00698/impl.Row] -/
noncomputable def E117 : Env := { tab := tab, sig := [(156, s156)], clos := [], live := [], eqs := [], inl := [] }
set_option maxRecDepth 100000 in
theorem r117 (N : Nat) (a0 : List T7) (a1 : (T7 × Unit) → Option Bool) : runF N E117 Try.f117 [.imm false (.slice 150 (.pair (.int .i64) (.pair (.int .i64) (.pair (.int .i64) (.pair (.pair (.int .i64) (.pair (.int .i64) (.pair (.int .i64) (.pair (.int .i64) (.pair (.int .i64) .unit))))) (.pair (.pair (.int .i64) (.pair (.slice 3 (.int .i64)) .unit)) .unit)))))), .clo [(true, (.pair (.int .i64) (.pair (.int .i64) (.pair (.int .i64) (.pair (.pair (.int .i64) (.pair (.int .i64) (.pair (.int .i64) (.pair (.int .i64) (.pair (.int .i64) .unit))))) (.pair (.pair (.int .i64) (.pair (.slice 3 (.int .i64)) .unit)) .unit))))))] .bool] [.imm false .bool] (a0, a1, ()) = p_ContainsFunc_Limpl_Row_impl_Row N a0 a1 := by kernel_rfl
theorem env117 : EnvOk Try.prog E117 := envOk mixed tabOk ⟨⟨enters156, ok156⟩, trivial⟩ trivial trivial
noncomputable def s117 : FSpec := ⟨[.imm false (.slice 150 (.pair (.int .i64) (.pair (.int .i64) (.pair (.int .i64) (.pair (.pair (.int .i64) (.pair (.int .i64) (.pair (.int .i64) (.pair (.int .i64) (.pair (.int .i64) .unit))))) (.pair (.pair (.int .i64) (.pair (.slice 3 (.int .i64)) .unit)) .unit)))))), .clo [(true, (.pair (.int .i64) (.pair (.int .i64) (.pair (.int .i64) (.pair (.pair (.int .i64) (.pair (.int .i64) (.pair (.int .i64) (.pair (.int .i64) (.pair (.int .i64) .unit))))) (.pair (.pair (.int .i64) (.pair (.slice 3 (.int .i64)) .unit)) .unit))))))] .bool], [.imm false .bool], fun x => S_ContainsFunc_Limpl_Row_impl_Row x.1 x.2.1⟩
theorem ok117 : FOk Try.prog 117 s117 := fn_says env117 Try.func117 rfl fun x y h => ⟨0, (r117 0 x.1 x.2.1).trans h⟩
theorem enters117 : Enters Try.prog 117 := enters Try.func117 (by kernel_rfl) rfl

/-! ## slices.IndexFunc[[][]loop.example/g00698/impl.Row,[]loop.example/g00698/impl.Row] -/
noncomputable def E155 : Env := { tab := tab, sig := [], clos := [], live := [(0, [0, 1, 7, 8], [])], eqs := [], inl := [] }
set_option maxRecDepth 100000 in
theorem r155 (N : Nat) (a0 : List (List T7)) (a1 : (List T7 × Unit) → Option Bool) : runF N E155 Try.f155 [.imm false (.slice 107 (.slice 150 (.pair (.int .i64) (.pair (.int .i64) (.pair (.int .i64) (.pair (.pair (.int .i64) (.pair (.int .i64) (.pair (.int .i64) (.pair (.int .i64) (.pair (.int .i64) .unit))))) (.pair (.pair (.int .i64) (.pair (.slice 3 (.int .i64)) .unit)) .unit))))))), .clo [(false, (.slice 150 (.pair (.int .i64) (.pair (.int .i64) (.pair (.int .i64) (.pair (.pair (.int .i64) (.pair (.int .i64) (.pair (.int .i64) (.pair (.int .i64) (.pair (.int .i64) .unit))))) (.pair (.pair (.int .i64) (.pair (.slice 3 (.int .i64)) .unit)) .unit)))))))] .bool] [.imm false (.int .i64)] (a0, a1, ()) = p_IndexFunc_LLimpl_Row_Limpl_Row N a0 a1 := by kernel_rfl
theorem env155 : EnvOk Try.prog E155 := envOk mixed tabOk trivial trivial trivial
noncomputable def s155 : FSpec := ⟨[.imm false (.slice 107 (.slice 150 (.pair (.int .i64) (.pair (.int .i64) (.pair (.int .i64) (.pair (.pair (.int .i64) (.pair (.int .i64) (.pair (.int .i64) (.pair (.int .i64) (.pair (.int .i64) .unit))))) (.pair (.pair (.int .i64) (.pair (.slice 3 (.int .i64)) .unit)) .unit))))))), .clo [(false, (.slice 150 (.pair (.int .i64) (.pair (.int .i64) (.pair (.int .i64) (.pair (.pair (.int .i64) (.pair (.int .i64) (.pair (.int .i64) (.pair (.int .i64) (.pair (.int .i64) .unit))))) (.pair (.pair (.int .i64) (.pair (.slice 3 (.int .i64)) .unit)) .unit)))))))] .bool], [.imm false (.int .i64)], fun x => S_IndexFunc_LLimpl_Row_Limpl_Row x.1 x.2.1⟩
theorem ok155 : FOk Try.prog 155 s155 := fn_says env155 Try.func155 rfl fun x y h => let ⟨N, hN⟩ := lim_some h; ⟨N, (r155 N x.1 x.2.1).trans hN⟩
theorem enters155 : Enters Try.prog 155 := enters Try.func155 (by kernel_rfl) rfl

/-! ## slices.ContainsFunc[[][]loop.example/g00698/impl.Row,[]loop.example/g00698/impl.Row] -/
noncomputable def E115 : Env := { tab := tab, sig := [(155, s155)], clos := [], live := [], eqs := [], inl := [] }
set_option maxRecDepth 100000 in
theorem r115 (N : Nat) (a0 : List (List T7)) (a1 : (List T7 × Unit) → Option Bool) : runF N E115 Try.f115 [.imm false (.slice 107 (.slice 150 (.pair (.int .i64) (.pair (.int .i64) (.pair (.int .i64) (.pair (.pair (.int .i64) (.pair (.int .i64) (.pair (.int .i64) (.pair (.int .i64) (.pair (.int .i64) .unit))))) (.pair (.pair (.int .i64) (.pair (.slice 3 (.int .i64)) .unit)) .unit))))))), .clo [(false, (.slice 150 (.pair (.int .i64) (.pair (.int .i64) (.pair (.int .i64) (.pair (.pair (.int .i64) (.pair (.int .i64) (.pair (.int .i64) (.pair (.int .i64) (.pair (.int .i64) .unit))))) (.pair (.pair (.int .i64) (.pair (.slice 3 (.int .i64)) .unit)) .unit)))))))] .bool] [.imm false .bool] (a0, a1, ()) = p_ContainsFunc_LLimpl_Row_Limpl_Row N a0 a1 := by kernel_rfl
theorem env115 : EnvOk Try.prog E115 := envOk mixed tabOk ⟨⟨enters155, ok155⟩, trivial⟩ trivial trivial
noncomputable def s115 : FSpec := ⟨[.imm false (.slice 107 (.slice 150 (.pair (.int .i64) (.pair (.int .i64) (.pair (.int .i64) (.pair (.pair (.int .i64) (.pair (.int .i64) (.pair (.int .i64) (.pair (.int .i64) (.pair (.int .i64) .unit))))) (.pair (.pair (.int .i64) (.pair (.slice 3 (.int .i64)) .unit)) .unit))))))), .clo [(false, (.slice 150 (.pair (.int .i64) (.pair (.int .i64) (.pair (.int .i64) (.pair (.pair (.int .i64) (.pair (.int .i64) (.pair (.int .i64) (.pair (.int .i64) (.pair (.int .i64) .unit))))) (.pair (.pair (.int .i64) (.pair (.slice 3 (.int .i64)) .unit)) .unit)))))))] .bool], [.imm false .bool], fun x => S_ContainsFunc_LLimpl_Row_Limpl_Row x.1 x.2.1⟩
theorem ok115 : FOk Try.prog 115 s115 := fn_says env115 Try.func115 rfl fun x y h => ⟨0, (r115 0 x.1 x.2.1).trans h⟩
theorem enters115 : Enters Try.prog 115 := enters Try.func115 (by kernel_rfl) rfl

/-! ## loop.example/g00698/impl.GoodTable -/
theorem enters116 : Enters Try.prog 116 := enters Try.func116 (by kernel_rfl) rfl
theorem enters118 : Enters Try.prog 118 := enters Try.func118 (by kernel_rfl) rfl
noncomputable def E73 : Env := { tab := tab, sig := [(90, s90), (115, s115), (117, s117), (119, s119)], clos := [(116, ⟨Try.f116, [(false, (.slice 150 (.pair (.int .i64) (.pair (.int .i64) (.pair (.int .i64) (.pair (.pair (.int .i64) (.pair (.int .i64) (.pair (.int .i64) (.pair (.int .i64) (.pair (.int .i64) .unit))))) (.pair (.pair (.int .i64) (.pair (.slice 3 (.int .i64)) .unit)) .unit)))))))], []⟩), (118, ⟨Try.f118, [(true, (.pair (.int .i64) (.pair (.int .i64) (.pair (.int .i64) (.pair (.pair (.int .i64) (.pair (.int .i64) (.pair (.int .i64) (.pair (.int .i64) (.pair (.int .i64) .unit))))) (.pair (.pair (.int .i64) (.pair (.slice 3 (.int .i64)) .unit)) .unit))))))], []⟩)], live := [], eqs := [], inl := [] }
set_option maxRecDepth 100000 in
theorem r73 (N : Nat) (a0 : T8) : runF N E73 Try.f73 [.imm true (.pair (.int .i64) (.pair (.slice 107 (.slice 150 (.pair (.int .i64) (.pair (.int .i64) (.pair (.int .i64) (.pair (.pair (.int .i64) (.pair (.int .i64) (.pair (.int .i64) (.pair (.int .i64) (.pair (.int .i64) .unit))))) (.pair (.pair (.int .i64) (.pair (.slice 3 (.int .i64)) .unit)) .unit))))))) .unit))] [.imm false .bool] (a0, ()) = p_impl_GoodTable N a0 := by kernel_rfl
theorem env73 : EnvOk Try.prog E73 := envOk mixed tabOk ⟨⟨enters90, ok90⟩, ⟨enters115, ok115⟩, ⟨enters117, ok117⟩, ⟨enters119, ok119⟩, trivial⟩ ⟨⟨Try.func116, enters116⟩, ⟨Try.func118, enters118⟩, trivial⟩ trivial
noncomputable def s73 : FSpec := ⟨[.imm true (.pair (.int .i64) (.pair (.slice 107 (.slice 150 (.pair (.int .i64) (.pair (.int .i64) (.pair (.int .i64) (.pair (.pair (.int .i64) (.pair (.int .i64) (.pair (.int .i64) (.pair (.int .i64) (.pair (.int .i64) .unit))))) (.pair (.pair (.int .i64) (.pair (.slice 3 (.int .i64)) .unit)) .unit))))))) .unit))], [.imm false .bool], fun x => S_impl_GoodTable x.1⟩
theorem ok73 : FOk Try.prog 73 s73 := fn_says env73 Try.func73 rfl fun x y h => ⟨0, (r73 0 x.1).trans h⟩
theorem enters73 : Enters Try.prog 73 := enters Try.func73 (by kernel_rfl) rfl

/-! ## loop.example/g00698/impl.KeptIn -/
theorem enters75 : Enters Try.prog 75 := enters Try.func75 (by kernel_rfl) rfl
noncomputable def E30 : Env := { tab := tab, sig := [(73, s73), (74, s74), (76, s76)], clos := [(75, ⟨Try.f75, [(false, (.int .i64))], []⟩)], live := [(0, [2, 6, 23, 24, 25], [])], eqs := [], inl := [] }
set_option maxRecDepth 100000 in
theorem r30 (N : Nat) (a0 : T8) (a1 : List Int) : runF N E30 Try.f30 [.imm true (.pair (.int .i64) (.pair (.slice 107 (.slice 150 (.pair (.int .i64) (.pair (.int .i64) (.pair (.int .i64) (.pair (.pair (.int .i64) (.pair (.int .i64) (.pair (.int .i64) (.pair (.int .i64) (.pair (.int .i64) .unit))))) (.pair (.pair (.int .i64) (.pair (.slice 3 (.int .i64)) .unit)) .unit))))))) .unit)), .imm false (.slice 3 (.int .i64))] [.imm false (.int .i64), .imm false .bool] (a0, a1, ()) = p_impl_KeptIn N a0 a1 := by kernel_rfl
theorem env30 : EnvOk Try.prog E30 := envOk mixed tabOk ⟨⟨enters73, ok73⟩, ⟨enters74, ok74⟩, ⟨enters76, ok76⟩, trivial⟩ ⟨⟨Try.func75, enters75⟩, trivial⟩ trivial
noncomputable def s30 : FSpec := ⟨[.imm true (.pair (.int .i64) (.pair (.slice 107 (.slice 150 (.pair (.int .i64) (.pair (.int .i64) (.pair (.int .i64) (.pair (.pair (.int .i64) (.pair (.int .i64) (.pair (.int .i64) (.pair (.int .i64) (.pair (.int .i64) .unit))))) (.pair (.pair (.int .i64) (.pair (.slice 3 (.int .i64)) .unit)) .unit))))))) .unit)), .imm false (.slice 3 (.int .i64))], [.imm false (.int .i64), .imm false .bool], fun x => S_impl_KeptIn x.1 x.2.1⟩
theorem ok30 : FOk Try.prog 30 s30 := fn_says env30 Try.func30 rfl fun x y h => let ⟨N, hN⟩ := lim_some h; ⟨N, (r30 N x.1 x.2.1).trans hN⟩
theorem enters30 : Enters Try.prog 30 := enters Try.func30 (by kernel_rfl) rfl

/-! ## loop.example/g00698/laws.eqAttr -/
noncomputable def E174 : Env := { tab := tab, sig := [(17, s17)], clos := [], live := [], eqs := [], inl := [] }
set_option maxRecDepth 100000 in
theorem r174 (N : Nat) (a0 : T6) (a1 : T6) : runF N E174 Try.f174 [.imm true (.pair (.int .i64) (.pair (.slice 3 (.int .i64)) .unit)), .imm true (.pair (.int .i64) (.pair (.slice 3 (.int .i64)) .unit))] [.imm false .bool] (a0, a1, ()) = p_laws_eqAttr N a0 a1 := by kernel_rfl
theorem env174 : EnvOk Try.prog E174 := envOk mixed tabOk ⟨⟨enters17, ok17⟩, trivial⟩ trivial trivial
noncomputable def s174 : FSpec := ⟨[.imm true (.pair (.int .i64) (.pair (.slice 3 (.int .i64)) .unit)), .imm true (.pair (.int .i64) (.pair (.slice 3 (.int .i64)) .unit))], [.imm false .bool], fun x => S_laws_eqAttr x.1 x.2.1⟩
theorem ok174 : FOk Try.prog 174 s174 := fn_says env174 Try.func174 rfl fun x y h => ⟨0, (r174 0 x.1 x.2.1).trans h⟩
theorem enters174 : Enters Try.prog 174 := enters Try.func174 (by kernel_rfl) rfl

/-! ## loop.example/g00698/laws.eqRow -/
noncomputable def E160 : Env := { tab := tab, sig := [(110, s110), (174, s174)], clos := [], live := [], eqs := [], inl := [] }
set_option maxRecDepth 100000 in
theorem r160 (N : Nat) (a0 : T7) (a1 : T7) : runF N E160 Try.f160 [.imm true (.pair (.int .i64) (.pair (.int .i64) (.pair (.int .i64) (.pair (.pair (.int .i64) (.pair (.int .i64) (.pair (.int .i64) (.pair (.int .i64) (.pair (.int .i64) .unit))))) (.pair (.pair (.int .i64) (.pair (.slice 3 (.int .i64)) .unit)) .unit))))), .imm true (.pair (.int .i64) (.pair (.int .i64) (.pair (.int .i64) (.pair (.pair (.int .i64) (.pair (.int .i64) (.pair (.int .i64) (.pair (.int .i64) (.pair (.int .i64) .unit))))) (.pair (.pair (.int .i64) (.pair (.slice 3 (.int .i64)) .unit)) .unit)))))] [.imm false .bool] (a0, a1, ()) = p_laws_eqRow N a0 a1 := by kernel_rfl
theorem env160 : EnvOk Try.prog E160 := envOk mixed tabOk ⟨⟨enters110, ok110⟩, ⟨enters174, ok174⟩, trivial⟩ trivial trivial
noncomputable def s160 : FSpec := ⟨[.imm true (.pair (.int .i64) (.pair (.int .i64) (.pair (.int .i64) (.pair (.pair (.int .i64) (.pair (.int .i64) (.pair (.int .i64) (.pair (.int .i64) (.pair (.int .i64) .unit))))) (.pair (.pair (.int .i64) (.pair (.slice 3 (.int .i64)) .unit)) .unit))))), .imm true (.pair (.int .i64) (.pair (.int .i64) (.pair (.int .i64) (.pair (.pair (.int .i64) (.pair (.int .i64) (.pair (.int .i64) (.pair (.int .i64) (.pair (.int .i64) .unit))))) (.pair (.pair (.int .i64) (.pair (.slice 3 (.int .i64)) .unit)) .unit)))))], [.imm false .bool], fun x => S_laws_eqRow x.1 x.2.1⟩
theorem ok160 : FOk Try.prog 160 s160 := fn_says env160 Try.func160 rfl fun x y h => ⟨0, (r160 0 x.1 x.2.1).trans h⟩
theorem enters160 : Enters Try.prog 160 := enters Try.func160 (by kernel_rfl) rfl

/-! ## loop.example/g00698/laws.eqRowS -/
noncomputable def E121 : Env := { tab := tab, sig := [(160, s160)], clos := [], live := [(0, [0, 1, 5], [])], eqs := [], inl := [] }
set_option maxRecDepth 100000 in
theorem r121 (N : Nat) (a0 : List T7) (a1 : List T7) : runF N E121 Try.f121 [.imm false (.slice 150 (.pair (.int .i64) (.pair (.int .i64) (.pair (.int .i64) (.pair (.pair (.int .i64) (.pair (.int .i64) (.pair (.int .i64) (.pair (.int .i64) (.pair (.int .i64) .unit))))) (.pair (.pair (.int .i64) (.pair (.slice 3 (.int .i64)) .unit)) .unit)))))), .imm false (.slice 150 (.pair (.int .i64) (.pair (.int .i64) (.pair (.int .i64) (.pair (.pair (.int .i64) (.pair (.int .i64) (.pair (.int .i64) (.pair (.int .i64) (.pair (.int .i64) .unit))))) (.pair (.pair (.int .i64) (.pair (.slice 3 (.int .i64)) .unit)) .unit))))))] [.imm false .bool] (a0, a1, ()) = p_laws_eqRowS N a0 a1 := by kernel_rfl
theorem env121 : EnvOk Try.prog E121 := envOk mixed tabOk ⟨⟨enters160, ok160⟩, trivial⟩ trivial trivial
noncomputable def s121 : FSpec := ⟨[.imm false (.slice 150 (.pair (.int .i64) (.pair (.int .i64) (.pair (.int .i64) (.pair (.pair (.int .i64) (.pair (.int .i64) (.pair (.int .i64) (.pair (.int .i64) (.pair (.int .i64) .unit))))) (.pair (.pair (.int .i64) (.pair (.slice 3 (.int .i64)) .unit)) .unit)))))), .imm false (.slice 150 (.pair (.int .i64) (.pair (.int .i64) (.pair (.int .i64) (.pair (.pair (.int .i64) (.pair (.int .i64) (.pair (.int .i64) (.pair (.int .i64) (.pair (.int .i64) .unit))))) (.pair (.pair (.int .i64) (.pair (.slice 3 (.int .i64)) .unit)) .unit))))))], [.imm false .bool], fun x => S_laws_eqRowS x.1 x.2.1⟩
theorem ok121 : FOk Try.prog 121 s121 := fn_says env121 Try.func121 rfl fun x y h => let ⟨N, hN⟩ := lim_some h; ⟨N, (r121 N x.1 x.2.1).trans hN⟩
theorem enters121 : Enters Try.prog 121 := enters Try.func121 (by kernel_rfl) rfl

/-! ## loop.example/g00698/laws.eqRowSS -/
noncomputable def E77 : Env := { tab := tab, sig := [(121, s121)], clos := [], live := [(0, [0, 1, 5], [])], eqs := [], inl := [] }
set_option maxRecDepth 100000 in
theorem r77 (N : Nat) (a0 : List (List T7)) (a1 : List (List T7)) : runF N E77 Try.f77 [.imm false (.slice 107 (.slice 150 (.pair (.int .i64) (.pair (.int .i64) (.pair (.int .i64) (.pair (.pair (.int .i64) (.pair (.int .i64) (.pair (.int .i64) (.pair (.int .i64) (.pair (.int .i64) .unit))))) (.pair (.pair (.int .i64) (.pair (.slice 3 (.int .i64)) .unit)) .unit))))))), .imm false (.slice 107 (.slice 150 (.pair (.int .i64) (.pair (.int .i64) (.pair (.int .i64) (.pair (.pair (.int .i64) (.pair (.int .i64) (.pair (.int .i64) (.pair (.int .i64) (.pair (.int .i64) .unit))))) (.pair (.pair (.int .i64) (.pair (.slice 3 (.int .i64)) .unit)) .unit)))))))] [.imm false .bool] (a0, a1, ()) = p_laws_eqRowSS N a0 a1 := by kernel_rfl
theorem env77 : EnvOk Try.prog E77 := envOk mixed tabOk ⟨⟨enters121, ok121⟩, trivial⟩ trivial trivial
noncomputable def s77 : FSpec := ⟨[.imm false (.slice 107 (.slice 150 (.pair (.int .i64) (.pair (.int .i64) (.pair (.int .i64) (.pair (.pair (.int .i64) (.pair (.int .i64) (.pair (.int .i64) (.pair (.int .i64) (.pair (.int .i64) .unit))))) (.pair (.pair (.int .i64) (.pair (.slice 3 (.int .i64)) .unit)) .unit))))))), .imm false (.slice 107 (.slice 150 (.pair (.int .i64) (.pair (.int .i64) (.pair (.int .i64) (.pair (.pair (.int .i64) (.pair (.int .i64) (.pair (.int .i64) (.pair (.int .i64) (.pair (.int .i64) .unit))))) (.pair (.pair (.int .i64) (.pair (.slice 3 (.int .i64)) .unit)) .unit)))))))], [.imm false .bool], fun x => S_laws_eqRowSS x.1 x.2.1⟩
theorem ok77 : FOk Try.prog 77 s77 := fn_says env77 Try.func77 rfl fun x y h => let ⟨N, hN⟩ := lim_some h; ⟨N, (r77 N x.1 x.2.1).trans hN⟩
theorem enters77 : Enters Try.prog 77 := enters Try.func77 (by kernel_rfl) rfl

/-! ## loop.example/g00698/laws.eqTable -/
noncomputable def E31 : Env := { tab := tab, sig := [(77, s77)], clos := [], live := [], eqs := [], inl := [] }
set_option maxRecDepth 100000 in
theorem r31 (N : Nat) (a0 : T8) (a1 : T8) : runF N E31 Try.f31 [.imm true (.pair (.int .i64) (.pair (.slice 107 (.slice 150 (.pair (.int .i64) (.pair (.int .i64) (.pair (.int .i64) (.pair (.pair (.int .i64) (.pair (.int .i64) (.pair (.int .i64) (.pair (.int .i64) (.pair (.int .i64) .unit))))) (.pair (.pair (.int .i64) (.pair (.slice 3 (.int .i64)) .unit)) .unit))))))) .unit)), .imm true (.pair (.int .i64) (.pair (.slice 107 (.slice 150 (.pair (.int .i64) (.pair (.int .i64) (.pair (.int .i64) (.pair (.pair (.int .i64) (.pair (.int .i64) (.pair (.int .i64) (.pair (.int .i64) (.pair (.int .i64) .unit))))) (.pair (.pair (.int .i64) (.pair (.slice 3 (.int .i64)) .unit)) .unit))))))) .unit))] [.imm false .bool] (a0, a1, ()) = p_laws_eqTable N a0 a1 := by kernel_rfl
theorem env31 : EnvOk Try.prog E31 := envOk mixed tabOk ⟨⟨enters77, ok77⟩, trivial⟩ trivial trivial
noncomputable def s31 : FSpec := ⟨[.imm true (.pair (.int .i64) (.pair (.slice 107 (.slice 150 (.pair (.int .i64) (.pair (.int .i64) (.pair (.int .i64) (.pair (.pair (.int .i64) (.pair (.int .i64) (.pair (.int .i64) (.pair (.int .i64) (.pair (.int .i64) .unit))))) (.pair (.pair (.int .i64) (.pair (.slice 3 (.int .i64)) .unit)) .unit))))))) .unit)), .imm true (.pair (.int .i64) (.pair (.slice 107 (.slice 150 (.pair (.int .i64) (.pair (.int .i64) (.pair (.int .i64) (.pair (.pair (.int .i64) (.pair (.int .i64) (.pair (.int .i64) (.pair (.int .i64) (.pair (.int .i64) .unit))))) (.pair (.pair (.int .i64) (.pair (.slice 3 (.int .i64)) .unit)) .unit))))))) .unit))], [.imm false .bool], fun x => S_laws_eqTable x.1 x.2.1⟩
theorem ok31 : FOk Try.prog 31 s31 := fn_says env31 Try.func31 rfl fun x y h => ⟨0, (r31 0 x.1 x.2.1).trans h⟩
theorem enters31 : Enters Try.prog 31 := enters Try.func31 (by kernel_rfl) rfl

/-! ## loop.example/g00698/laws.FnExactKeptIn -/
noncomputable def E5 : Env := { tab := tab, sig := [(27, s27), (29, s29), (13, s13), (28, s28), (30, s30), (31, s31), (17, s17)], clos := [], live := [], eqs := [], inl := [] }
set_option maxRecDepth 100000 in
theorem r5 (N : Nat) (a0 : T8) (a1 : List Int) : runF N E5 Try.f5 [.imm true (.pair (.int .i64) (.pair (.slice 146 (.slice 189 (.pair (.int .i64) (.pair (.int .i64) (.pair (.int .i64) (.pair (.pair (.int .i64) (.pair (.int .i64) (.pair (.int .i64) (.pair (.int .i64) (.pair (.int .i64) .unit))))) (.pair (.pair (.int .i64) (.pair (.slice 3 (.int .i64)) .unit)) .unit))))))) .unit)), .imm false (.slice 3 (.int .i64))] [.imm false .bool] (a0, a1, ()) = p_laws_FnExactKeptIn N a0 a1 := by kernel_rfl
theorem env5 : EnvOk Try.prog E5 := envOk mixed tabOk ⟨⟨enters27, ok27⟩, ⟨enters29, ok29⟩, ⟨enters13, ok13⟩, ⟨enters28, ok28⟩, ⟨enters30, ok30⟩, ⟨enters31, ok31⟩, ⟨enters17, ok17⟩, trivial⟩ trivial trivial

/-! ## loop.example/g00698/laws.szVerdictS -/
noncomputable def E32 : Env := { tab := tab, sig := [], clos := [], live := [], eqs := [], inl := [] }
set_option maxRecDepth 100000 in
theorem r32 (N : Nat) (a0 : List T5) (a1 : Int) : runF N E32 Try.f32 [.imm false (.slice 118 (.pair (.int .i64) (.pair (.int .i64) (.pair (.pair (.int .i64) (.pair (.int .i64) .unit)) .unit)))), .imm false (.int .i64)] [.imm false (.int .i64)] (a0, a1, ()) = p_laws_szVerdictS N a0 a1 := by kernel_rfl
theorem env32 : EnvOk Try.prog E32 := envOk mixed tabOk trivial trivial trivial
noncomputable def s32 : FSpec := ⟨[.imm false (.slice 118 (.pair (.int .i64) (.pair (.int .i64) (.pair (.pair (.int .i64) (.pair (.int .i64) .unit)) .unit)))), .imm false (.int .i64)], [.imm false (.int .i64)], fun x => S_laws_szVerdictS x.1 x.2.1⟩
theorem ok32 : FOk Try.prog 32 s32 := fn_says env32 Try.func32 rfl fun x y h => ⟨0, (r32 0 x.1 x.2.1).trans h⟩
theorem enters32 : Enters Try.prog 32 := enters Try.func32 (by kernel_rfl) rfl

/-! ## loop.example/g00698/laws.toVerdict -/
noncomputable def E79 : Env := { tab := tab, sig := [(106, s106)], clos := [], live := [], eqs := [], inl := [] }
set_option maxRecDepth 100000 in
theorem r79 (N : Nat) (a0 : T5) : runF N E79 Try.f79 [.imm true (.pair (.int .i64) (.pair (.int .i64) (.pair (.pair (.int .i64) (.pair (.int .i64) .unit)) .unit)))] [.imm true (.pair (.int .i64) (.pair (.int .i64) (.pair (.pair (.int .i64) (.pair (.int .i64) .unit)) .unit)))] (a0, ()) = p_laws_toVerdict N a0 := by kernel_rfl
theorem env79 : EnvOk Try.prog E79 := envOk mixed tabOk ⟨⟨enters106, ok106⟩, trivial⟩ trivial trivial
noncomputable def s79 : FSpec := ⟨[.imm true (.pair (.int .i64) (.pair (.int .i64) (.pair (.pair (.int .i64) (.pair (.int .i64) .unit)) .unit)))], [.imm true (.pair (.int .i64) (.pair (.int .i64) (.pair (.pair (.int .i64) (.pair (.int .i64) .unit)) .unit)))], fun x => S_laws_toVerdict x.1⟩
theorem ok79 : FOk Try.prog 79 s79 := fn_says env79 Try.func79 rfl fun x y h => ⟨0, (r79 0 x.1).trans h⟩
theorem enters79 : Enters Try.prog 79 := enters Try.func79 (by kernel_rfl) rfl

/-! ## loop.example/g00698/laws.toVerdictS -/
noncomputable def E34 : Env := { tab := tab, sig := [(79, s79)], clos := [], live := [(0, [0, 3, 4], [])], eqs := [], inl := [] }
set_option maxRecDepth 100000 in
theorem r34 (N : Nat) (a0 : List T5) : runF N E34 Try.f34 [.imm false (.slice 118 (.pair (.int .i64) (.pair (.int .i64) (.pair (.pair (.int .i64) (.pair (.int .i64) .unit)) .unit))))] [.deep false (.slice 103 (.pair (.int .i64) (.pair (.int .i64) (.pair (.pair (.int .i64) (.pair (.int .i64) .unit)) .unit))))] (a0, ()) = p_laws_toVerdictS N a0 := by kernel_rfl
theorem env34 : EnvOk Try.prog E34 := envOk mixed tabOk ⟨⟨enters79, ok79⟩, trivial⟩ trivial trivial
noncomputable def s34 : FSpec := ⟨[.imm false (.slice 118 (.pair (.int .i64) (.pair (.int .i64) (.pair (.pair (.int .i64) (.pair (.int .i64) .unit)) .unit))))], [.deep false (.slice 103 (.pair (.int .i64) (.pair (.int .i64) (.pair (.pair (.int .i64) (.pair (.int .i64) .unit)) .unit))))], fun x => S_laws_toVerdictS x.1⟩
theorem ok34 : FOk Try.prog 34 s34 := fn_says env34 Try.func34 rfl fun x y h => let ⟨N, hN⟩ := lim_some h; ⟨N, (r34 N x.1).trans hN⟩
theorem enters34 : Enters Try.prog 34 := enters Try.func34 (by kernel_rfl) rfl

/-! ## loop.example/g00698/spec.l16Known -/
noncomputable def E122 : Env := { tab := tab, sig := [], clos := [], live := [(0, [2, 4, 8, 9, 10, 20, 21, 22, 23, 24], [])], eqs := [], inl := [] }
set_option maxRecDepth 100000 in
theorem r122 (N : Nat) (a0 : T4) (a1 : List T5) : runF N E122 Try.f122 [.imm true (.pair (.int .i64) (.pair (.int .i64) (.pair (.pair (.int .i64) (.pair (.int .i64) (.pair (.int .i64) (.pair (.int .i64) (.pair (.int .i64) .unit))))) (.pair (.pair (.int .i64) (.pair (.int .i64) .unit)) .unit)))), .imm false (.slice 103 (.pair (.int .i64) (.pair (.int .i64) (.pair (.pair (.int .i64) (.pair (.int .i64) .unit)) .unit))))] [.imm true (.pair (.int .i64) (.pair (.int .i64) .unit)), .imm false .bool] (a0, a1, ()) = p_spec_l16Known N a0 a1 := by kernel_rfl
theorem env122 : EnvOk Try.prog E122 := envOk mixed tabOk trivial trivial trivial
noncomputable def s122 : FSpec := ⟨[.imm true (.pair (.int .i64) (.pair (.int .i64) (.pair (.pair (.int .i64) (.pair (.int .i64) (.pair (.int .i64) (.pair (.int .i64) (.pair (.int .i64) .unit))))) (.pair (.pair (.int .i64) (.pair (.int .i64) .unit)) .unit)))), .imm false (.slice 103 (.pair (.int .i64) (.pair (.int .i64) (.pair (.pair (.int .i64) (.pair (.int .i64) .unit)) .unit))))], [.imm true (.pair (.int .i64) (.pair (.int .i64) .unit)), .imm false .bool], fun x => S_spec_l16Known x.1 x.2.1⟩
theorem ok122 : FOk Try.prog 122 s122 := fn_says env122 Try.func122 rfl fun x y h => let ⟨N, hN⟩ := lim_some h; ⟨N, (r122 N x.1 x.2.1).trans hN⟩
theorem enters122 : Enters Try.prog 122 := enters Try.func122 (by kernel_rfl) rfl

/-! ## loop.example/g00698/spec.l16Kept -/
noncomputable def E123 : Env := { tab := tab, sig := [], clos := [], live := [(0, [0, 5, 8, 9, 10], [])], eqs := [], inl := [] }
set_option maxRecDepth 100000 in
theorem r123 (N : Nat) (a0 : List Int) (a1 : List Int) : runF N E123 Try.f123 [.imm false (.slice 3 (.int .i64)), .imm false (.slice 3 (.int .i64))] [.deep false (.slice 3 (.int .i64))] (a0, a1, ()) = p_spec_l16Kept N a0 a1 := by kernel_rfl
theorem env123 : EnvOk Try.prog E123 := envOk mixed tabOk trivial trivial trivial
noncomputable def s123 : FSpec := ⟨[.imm false (.slice 3 (.int .i64)), .imm false (.slice 3 (.int .i64))], [.deep false (.slice 3 (.int .i64))], fun x => S_spec_l16Kept x.1 x.2.1⟩
theorem ok123 : FOk Try.prog 123 s123 := fn_says env123 Try.func123 rfl fun x y h => let ⟨N, hN⟩ := lim_some h; ⟨N, (r123 N x.1 x.2.1).trans hN⟩
theorem enters123 : Enters Try.prog 123 := enters Try.func123 (by kernel_rfl) rfl

/-! ## loop.example/g00698/spec.l16Part -/
noncomputable def E78 : Env := { tab := tab, sig := [(60, s60), (122, s122), (123, s123)], clos := [], live := [(0, [0, 1, 2, 8, 20, 21, 49, 50, 51, 52, 53, 54, 83, 96], []), (2, [0, 1, 2, 8, 28, 29, 30, 49, 50, 51, 52, 53, 54, 83, 96], [])], eqs := [], inl := [] }
set_option maxRecDepth 100000 in
theorem r78 (N : Nat) (a0 : List T4) (a1 : List Int) (a2 : List T5) : runF N E78 Try.f78 [.imm false (.slice 79 (.pair (.int .i64) (.pair (.int .i64) (.pair (.pair (.int .i64) (.pair (.int .i64) (.pair (.int .i64) (.pair (.int .i64) (.pair (.int .i64) .unit))))) (.pair (.pair (.int .i64) (.pair (.int .i64) .unit)) .unit))))), .imm false (.slice 3 (.int .i64)), .imm false (.slice 103 (.pair (.int .i64) (.pair (.int .i64) (.pair (.pair (.int .i64) (.pair (.int .i64) .unit)) .unit))))] [.deep false (.slice 3 (.int .i64)), .imm false (.int .i64)] (a0, a1, a2, ()) = p_spec_l16Part N a0 a1 a2 := by kernel_rfl
theorem env78 : EnvOk Try.prog E78 := envOk mixed tabOk ⟨⟨enters60, ok60⟩, ⟨enters122, ok122⟩, ⟨enters123, ok123⟩, trivial⟩ trivial trivial
noncomputable def s78 : FSpec := ⟨[.imm false (.slice 79 (.pair (.int .i64) (.pair (.int .i64) (.pair (.pair (.int .i64) (.pair (.int .i64) (.pair (.int .i64) (.pair (.int .i64) (.pair (.int .i64) .unit))))) (.pair (.pair (.int .i64) (.pair (.int .i64) .unit)) .unit))))), .imm false (.slice 3 (.int .i64)), .imm false (.slice 103 (.pair (.int .i64) (.pair (.int .i64) (.pair (.pair (.int .i64) (.pair (.int .i64) .unit)) .unit))))], [.deep false (.slice 3 (.int .i64)), .imm false (.int .i64)], fun x => S_spec_l16Part x.1 x.2.1 x.2.2.1⟩
theorem ok78 : FOk Try.prog 78 s78 := fn_says env78 Try.func78 rfl fun x y h => let ⟨N, hN⟩ := lim_some h; ⟨N, (r78 N x.1 x.2.1 x.2.2.1).trans hN⟩
theorem enters78 : Enters Try.prog 78 := enters Try.func78 (by kernel_rfl) rfl

/-! ## loop.example/g00698/spec.PartBook -/
noncomputable def E33 : Env := { tab := tab, sig := [(58, s58), (59, s59), (78, s78)], clos := [], live := [], eqs := [], inl := [] }
set_option maxRecDepth 100000 in
theorem r33 (N : Nat) (a0 : List T4) (a1 : List Int) (a2 : List T5) : runF N E33 Try.f33 [.imm false (.slice 79 (.pair (.int .i64) (.pair (.int .i64) (.pair (.pair (.int .i64) (.pair (.int .i64) (.pair (.int .i64) (.pair (.int .i64) (.pair (.int .i64) .unit))))) (.pair (.pair (.int .i64) (.pair (.int .i64) .unit)) .unit))))), .imm false (.slice 3 (.int .i64)), .imm false (.slice 103 (.pair (.int .i64) (.pair (.int .i64) (.pair (.pair (.int .i64) (.pair (.int .i64) .unit)) .unit))))] [.deep false (.slice 3 (.int .i64)), .imm false (.int .i64), .imm false .bool] (a0, a1, a2, ()) = p_spec_PartBook N a0 a1 a2 := by kernel_rfl
theorem env33 : EnvOk Try.prog E33 := envOk mixed tabOk ⟨⟨enters58, ok58⟩, ⟨enters59, ok59⟩, ⟨enters78, ok78⟩, trivial⟩ trivial trivial
noncomputable def s33 : FSpec := ⟨[.imm false (.slice 79 (.pair (.int .i64) (.pair (.int .i64) (.pair (.pair (.int .i64) (.pair (.int .i64) (.pair (.int .i64) (.pair (.int .i64) (.pair (.int .i64) .unit))))) (.pair (.pair (.int .i64) (.pair (.int .i64) .unit)) .unit))))), .imm false (.slice 3 (.int .i64)), .imm false (.slice 103 (.pair (.int .i64) (.pair (.int .i64) (.pair (.pair (.int .i64) (.pair (.int .i64) .unit)) .unit))))], [.deep false (.slice 3 (.int .i64)), .imm false (.int .i64), .imm false .bool], fun x => S_spec_PartBook x.1 x.2.1 x.2.2.1⟩
theorem ok33 : FOk Try.prog 33 s33 := fn_says env33 Try.func33 rfl fun x y h => ⟨0, (r33 0 x.1 x.2.1 x.2.2.1).trans h⟩
theorem enters33 : Enters Try.prog 33 := enters Try.func33 (by kernel_rfl) rfl

end Go.Proofs.Ythijgmbdlkeebaa.Am
