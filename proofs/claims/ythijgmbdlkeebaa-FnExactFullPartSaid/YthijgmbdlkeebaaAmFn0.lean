/- Functions, as they run on data. No condition. -/
import Derived.Test.YthijgmbdlkeebaaAmTab
import Derived.Test.YthijgmbdlkeebaaAmPb
set_option linter.unusedVariables false
set_option maxRecDepth 100000
namespace Go.Proofs.Ythijgmbdlkeebaa.Am
open Go.AM Go.AM.P Go.Proofs
/-! ## loop.example/g00698/laws.szEntryS -/
noncomputable def E10 : Env := { tab := tab, sig := [], clos := [], live := [], eqs := [], inl := [] }
set_option maxRecDepth 100000 in
theorem r10 (N : Nat) (a0 : List T4) (a1 : Int) : runF N E10 Try.f10 [.imm false (.slice 97 (.pair (.int .i64) (.pair (.int .i64) (.pair (.pair (.int .i64) (.pair (.int .i64) (.pair (.int .i64) (.pair (.int .i64) (.pair (.int .i64) .unit))))) (.pair (.pair (.int .i64) (.pair (.int .i64) .unit)) .unit))))), .imm false (.int .i64)] [.imm false (.int .i64)] (a0, a1, ()) = p_laws_szEntryS N a0 a1 := by kernel_rfl
theorem env10 : EnvOk Try.prog E10 := envOk mixed tabOk trivial trivial trivial
noncomputable def s10 : FSpec := ⟨[.imm false (.slice 97 (.pair (.int .i64) (.pair (.int .i64) (.pair (.pair (.int .i64) (.pair (.int .i64) (.pair (.int .i64) (.pair (.int .i64) (.pair (.int .i64) .unit))))) (.pair (.pair (.int .i64) (.pair (.int .i64) .unit)) .unit))))), .imm false (.int .i64)], [.imm false (.int .i64)], fun x => S_laws_szEntryS x.1 x.2.1⟩
theorem ok10 : FOk Try.prog 10 s10 := fn_says env10 Try.func10 rfl fun x y h => ⟨0, (r10 0 x.1 x.2.1).trans h⟩
theorem enters10 : Enters Try.prog 10 := enters Try.func10 (by kernel_rfl) rfl

/-! ## loop.example/g00698/laws.toCmd -/
noncomputable def E105 : Env := { tab := tab, sig := [], clos := [], live := [], eqs := [], inl := [] }
set_option maxRecDepth 100000 in
theorem r105 (N : Nat) (a0 : T2) : runF N E105 Try.f105 [.imm true (.pair (.int .i64) (.pair (.int .i64) (.pair (.int .i64) (.pair (.int .i64) (.pair (.int .i64) .unit)))))] [.imm true (.pair (.int .i64) (.pair (.int .i64) (.pair (.int .i64) (.pair (.int .i64) (.pair (.int .i64) .unit)))))] (a0, ()) = p_laws_toCmd N a0 := by kernel_rfl
theorem env105 : EnvOk Try.prog E105 := envOk mixed tabOk trivial trivial trivial
noncomputable def s105 : FSpec := ⟨[.imm true (.pair (.int .i64) (.pair (.int .i64) (.pair (.int .i64) (.pair (.int .i64) (.pair (.int .i64) .unit)))))], [.imm true (.pair (.int .i64) (.pair (.int .i64) (.pair (.int .i64) (.pair (.int .i64) (.pair (.int .i64) .unit)))))], fun x => S_laws_toCmd x.1⟩
theorem ok105 : FOk Try.prog 105 s105 := fn_says env105 Try.func105 rfl fun x y h => ⟨0, (r105 0 x.1).trans h⟩
theorem enters105 : Enters Try.prog 105 := enters Try.func105 (by kernel_rfl) rfl

/-! ## loop.example/g00698/laws.toTold -/
noncomputable def E106 : Env := { tab := tab, sig := [], clos := [], live := [], eqs := [], inl := [] }
set_option maxRecDepth 100000 in
theorem r106 (N : Nat) (a0 : T3) : runF N E106 Try.f106 [.imm true (.pair (.int .i64) (.pair (.int .i64) .unit))] [.imm true (.pair (.int .i64) (.pair (.int .i64) .unit))] (a0, ()) = p_laws_toTold N a0 := by kernel_rfl
theorem env106 : EnvOk Try.prog E106 := envOk mixed tabOk trivial trivial trivial
noncomputable def s106 : FSpec := ⟨[.imm true (.pair (.int .i64) (.pair (.int .i64) .unit))], [.imm true (.pair (.int .i64) (.pair (.int .i64) .unit))], fun x => S_laws_toTold x.1⟩
theorem ok106 : FOk Try.prog 106 s106 := fn_says env106 Try.func106 rfl fun x y h => ⟨0, (r106 0 x.1).trans h⟩
theorem enters106 : Enters Try.prog 106 := enters Try.func106 (by kernel_rfl) rfl

/-! ## loop.example/g00698/laws.toEntry -/
noncomputable def E61 : Env := { tab := tab, sig := [(105, s105), (106, s106)], clos := [], live := [], eqs := [], inl := [] }
set_option maxRecDepth 100000 in
theorem r61 (N : Nat) (a0 : T4) : runF N E61 Try.f61 [.imm true (.pair (.int .i64) (.pair (.int .i64) (.pair (.pair (.int .i64) (.pair (.int .i64) (.pair (.int .i64) (.pair (.int .i64) (.pair (.int .i64) .unit))))) (.pair (.pair (.int .i64) (.pair (.int .i64) .unit)) .unit))))] [.imm true (.pair (.int .i64) (.pair (.int .i64) (.pair (.pair (.int .i64) (.pair (.int .i64) (.pair (.int .i64) (.pair (.int .i64) (.pair (.int .i64) .unit))))) (.pair (.pair (.int .i64) (.pair (.int .i64) .unit)) .unit))))] (a0, ()) = p_laws_toEntry N a0 := by kernel_rfl
theorem env61 : EnvOk Try.prog E61 := envOk mixed tabOk ⟨⟨enters105, ok105⟩, ⟨enters106, ok106⟩, trivial⟩ trivial trivial
noncomputable def s61 : FSpec := ⟨[.imm true (.pair (.int .i64) (.pair (.int .i64) (.pair (.pair (.int .i64) (.pair (.int .i64) (.pair (.int .i64) (.pair (.int .i64) (.pair (.int .i64) .unit))))) (.pair (.pair (.int .i64) (.pair (.int .i64) .unit)) .unit))))], [.imm true (.pair (.int .i64) (.pair (.int .i64) (.pair (.pair (.int .i64) (.pair (.int .i64) (.pair (.int .i64) (.pair (.int .i64) (.pair (.int .i64) .unit))))) (.pair (.pair (.int .i64) (.pair (.int .i64) .unit)) .unit))))], fun x => S_laws_toEntry x.1⟩
theorem ok61 : FOk Try.prog 61 s61 := fn_says env61 Try.func61 rfl fun x y h => ⟨0, (r61 0 x.1).trans h⟩
theorem enters61 : Enters Try.prog 61 := enters Try.func61 (by kernel_rfl) rfl

/-! ## loop.example/g00698/laws.toEntryS -/
noncomputable def E12 : Env := { tab := tab, sig := [(61, s61)], clos := [], live := [(0, [0, 3, 4], [])], eqs := [], inl := [] }
set_option maxRecDepth 100000 in
theorem r12 (N : Nat) (a0 : List T4) : runF N E12 Try.f12 [.imm false (.slice 97 (.pair (.int .i64) (.pair (.int .i64) (.pair (.pair (.int .i64) (.pair (.int .i64) (.pair (.int .i64) (.pair (.int .i64) (.pair (.int .i64) .unit))))) (.pair (.pair (.int .i64) (.pair (.int .i64) .unit)) .unit)))))] [.deep false (.slice 79 (.pair (.int .i64) (.pair (.int .i64) (.pair (.pair (.int .i64) (.pair (.int .i64) (.pair (.int .i64) (.pair (.int .i64) (.pair (.int .i64) .unit))))) (.pair (.pair (.int .i64) (.pair (.int .i64) .unit)) .unit)))))] (a0, ()) = p_laws_toEntryS N a0 := by kernel_rfl
theorem env12 : EnvOk Try.prog E12 := envOk mixed tabOk ⟨⟨enters61, ok61⟩, trivial⟩ trivial trivial
noncomputable def s12 : FSpec := ⟨[.imm false (.slice 97 (.pair (.int .i64) (.pair (.int .i64) (.pair (.pair (.int .i64) (.pair (.int .i64) (.pair (.int .i64) (.pair (.int .i64) (.pair (.int .i64) .unit))))) (.pair (.pair (.int .i64) (.pair (.int .i64) .unit)) .unit)))))], [.deep false (.slice 79 (.pair (.int .i64) (.pair (.int .i64) (.pair (.pair (.int .i64) (.pair (.int .i64) (.pair (.int .i64) (.pair (.int .i64) (.pair (.int .i64) .unit))))) (.pair (.pair (.int .i64) (.pair (.int .i64) .unit)) .unit)))))], fun x => S_laws_toEntryS x.1⟩
theorem ok12 : FOk Try.prog 12 s12 := fn_says env12 Try.func12 rfl fun x y h => let ⟨N, hN⟩ := lim_some h; ⟨N, (r12 N x.1).trans hN⟩
theorem enters12 : Enters Try.prog 12 := enters Try.func12 (by kernel_rfl) rfl

/-! ## loop.example/g00698/laws.toIntS -/
noncomputable def E13 : Env := { tab := tab, sig := [], clos := [], live := [(0, [0, 3, 4], [])], eqs := [], inl := [] }
set_option maxRecDepth 100000 in
theorem r13 (N : Nat) (a0 : List Int) : runF N E13 Try.f13 [.imm false (.slice 3 (.int .i64))] [.deep false (.slice 3 (.int .i64))] (a0, ()) = p_laws_toIntS N a0 := by kernel_rfl
theorem env13 : EnvOk Try.prog E13 := envOk mixed tabOk trivial trivial trivial
noncomputable def s13 : FSpec := ⟨[.imm false (.slice 3 (.int .i64))], [.deep false (.slice 3 (.int .i64))], fun x => S_laws_toIntS x.1⟩
theorem ok13 : FOk Try.prog 13 s13 := fn_says env13 Try.func13 rfl fun x y h => let ⟨N, hN⟩ := lim_some h; ⟨N, (r13 N x.1).trans hN⟩
theorem enters13 : Enters Try.prog 13 := enters Try.func13 (by kernel_rfl) rfl

/-! ## loop.example/g00698/spec.l1In -/
noncomputable def E82 : Env := { tab := tab, sig := [], clos := [], live := [], eqs := [], inl := [] }
set_option maxRecDepth 100000 in
theorem r82 (N : Nat) (a0 : Int) (a1 : Int) (a2 : Int) : runF N E82 Try.f82 [.imm false (.int .i64), .imm false (.int .i64), .imm false (.int .i64)] [.imm false .bool] (a0, a1, a2, ()) = p_spec_l1In N a0 a1 a2 := by kernel_rfl
theorem env82 : EnvOk Try.prog E82 := envOk mixed tabOk trivial trivial trivial
noncomputable def s82 : FSpec := ⟨[.imm false (.int .i64), .imm false (.int .i64), .imm false (.int .i64)], [.imm false .bool], fun x => S_spec_l1In x.1 x.2.1 x.2.2.1⟩
theorem ok82 : FOk Try.prog 82 s82 := fn_says env82 Try.func82 rfl fun x y h => ⟨0, (r82 0 x.1 x.2.1 x.2.2.1).trans h⟩
theorem enters82 : Enters Try.prog 82 := enters Try.func82 (by kernel_rfl) rfl

/-! ## loop.example/g00698/spec.l2Account -/
noncomputable def E102 : Env := { tab := tab, sig := [(82, s82)], clos := [], live := [], eqs := [], inl := [] }
set_option maxRecDepth 100000 in
theorem r102 (N : Nat) (a0 : Int) : runF N E102 Try.f102 [.imm false (.int .i64)] [.imm false .bool] (a0, ()) = p_spec_l2Account N a0 := by kernel_rfl
theorem env102 : EnvOk Try.prog E102 := envOk mixed tabOk ⟨⟨enters82, ok82⟩, trivial⟩ trivial trivial
noncomputable def s102 : FSpec := ⟨[.imm false (.int .i64)], [.imm false .bool], fun x => S_spec_l2Account x.1⟩
theorem ok102 : FOk Try.prog 102 s102 := fn_says env102 Try.func102 rfl fun x y h => ⟨0, (r102 0 x.1).trans h⟩
theorem enters102 : Enters Try.prog 102 := enters Try.func102 (by kernel_rfl) rfl

/-! ## loop.example/g00698/spec.l2Code -/
noncomputable def E145 : Env := { tab := tab, sig := [(102, s102), (82, s82)], clos := [], live := [], eqs := [], inl := [] }
set_option maxRecDepth 100000 in
theorem r145 (N : Nat) (a0 : T2) : runF N E145 Try.f145 [.imm true (.pair (.int .i64) (.pair (.int .i64) (.pair (.int .i64) (.pair (.int .i64) (.pair (.int .i64) .unit)))))] [.imm false (.int .i64)] (a0, ()) = p_spec_l2Code N a0 := by kernel_rfl
theorem env145 : EnvOk Try.prog E145 := envOk mixed tabOk ⟨⟨enters102, ok102⟩, ⟨enters82, ok82⟩, trivial⟩ trivial trivial
noncomputable def s145 : FSpec := ⟨[.imm true (.pair (.int .i64) (.pair (.int .i64) (.pair (.int .i64) (.pair (.int .i64) (.pair (.int .i64) .unit)))))], [.imm false (.int .i64)], fun x => S_spec_l2Code x.1⟩
theorem ok145 : FOk Try.prog 145 s145 := fn_says env145 Try.func145 rfl fun x y h => ⟨0, (r145 0 x.1).trans h⟩
theorem enters145 : Enters Try.prog 145 := enters Try.func145 (by kernel_rfl) rfl

/-! ## loop.example/g00698/spec.GoodCmd -/
noncomputable def E103 : Env := { tab := tab, sig := [(145, s145)], clos := [], live := [], eqs := [(75, 5)], inl := [] }
set_option maxRecDepth 100000 in
theorem r103 (N : Nat) (a0 : T2) : runF N E103 Try.f103 [.imm true (.pair (.int .i64) (.pair (.int .i64) (.pair (.int .i64) (.pair (.int .i64) (.pair (.int .i64) .unit)))))] [.imm false .bool] (a0, ()) = p_spec_GoodCmd N a0 := by kernel_rfl
theorem env103 : EnvOk Try.prog E103 := envOk mixed tabOk ⟨⟨enters145, ok145⟩, trivial⟩ trivial ⟨eq75, trivial⟩
noncomputable def s103 : FSpec := ⟨[.imm true (.pair (.int .i64) (.pair (.int .i64) (.pair (.int .i64) (.pair (.int .i64) (.pair (.int .i64) .unit)))))], [.imm false .bool], fun x => S_spec_GoodCmd x.1⟩
theorem ok103 : FOk Try.prog 103 s103 := fn_says env103 Try.func103 rfl fun x y h => ⟨0, (r103 0 x.1).trans h⟩
theorem enters103 : Enters Try.prog 103 := enters Try.func103 (by kernel_rfl) rfl

/-! ## loop.example/g00698/spec.l16Entries -/
noncomputable def E58 : Env := { tab := tab, sig := [(103, s103)], clos := [], live := [(0, [0, 7, 8, 9, 32, 33, 34, 35, 36], []), (2, [0, 4, 7, 8, 9, 20, 21, 22, 32, 33, 34, 35, 36], [])], eqs := [], inl := [] }
set_option maxRecDepth 100000 in
theorem r58 (N : Nat) (a0 : List T4) : runF N E58 Try.f58 [.imm false (.slice 79 (.pair (.int .i64) (.pair (.int .i64) (.pair (.pair (.int .i64) (.pair (.int .i64) (.pair (.int .i64) (.pair (.int .i64) (.pair (.int .i64) .unit))))) (.pair (.pair (.int .i64) (.pair (.int .i64) .unit)) .unit)))))] [.imm false .bool] (a0, ()) = p_spec_l16Entries N a0 := by kernel_rfl
theorem env58 : EnvOk Try.prog E58 := envOk mixed tabOk ⟨⟨enters103, ok103⟩, trivial⟩ trivial trivial
noncomputable def s58 : FSpec := ⟨[.imm false (.slice 79 (.pair (.int .i64) (.pair (.int .i64) (.pair (.pair (.int .i64) (.pair (.int .i64) (.pair (.int .i64) (.pair (.int .i64) (.pair (.int .i64) .unit))))) (.pair (.pair (.int .i64) (.pair (.int .i64) .unit)) .unit)))))], [.imm false .bool], fun x => S_spec_l16Entries x.1⟩
theorem ok58 : FOk Try.prog 58 s58 := fn_says env58 Try.func58 rfl fun x y h => let ⟨N, hN⟩ := lim_some h; ⟨N, (r58 N x.1).trans hN⟩
theorem enters58 : Enters Try.prog 58 := enters Try.func58 (by kernel_rfl) rfl

/-! ## loop.example/g00698/spec.l1Rising -/
noncomputable def E104 : Env := { tab := tab, sig := [(82, s82)], clos := [], live := [(0, [0, 1, 2, 9, 10, 11, 22, 23, 24, 25, 26, 27, 28, 29, 30, 31, 32], [])], eqs := [], inl := [] }
set_option maxRecDepth 100000 in
theorem r104 (N : Nat) (a0 : List Int) (a1 : Int) (a2 : Int) : runF N E104 Try.f104 [.imm false (.slice 3 (.int .i64)), .imm false (.int .i64), .imm false (.int .i64)] [.imm false .bool] (a0, a1, a2, ()) = p_spec_l1Rising N a0 a1 a2 := by kernel_rfl
theorem env104 : EnvOk Try.prog E104 := envOk mixed tabOk ⟨⟨enters82, ok82⟩, trivial⟩ trivial trivial
noncomputable def s104 : FSpec := ⟨[.imm false (.slice 3 (.int .i64)), .imm false (.int .i64), .imm false (.int .i64)], [.imm false .bool], fun x => S_spec_l1Rising x.1 x.2.1 x.2.2.1⟩
theorem ok104 : FOk Try.prog 104 s104 := fn_says env104 Try.func104 rfl fun x y h => let ⟨N, hN⟩ := lim_some h; ⟨N, (r104 N x.1 x.2.1 x.2.2.1).trans hN⟩
theorem enters104 : Enters Try.prog 104 := enters Try.func104 (by kernel_rfl) rfl

/-! ## loop.example/g00698/spec.l16Keeps -/
noncomputable def E59 : Env := { tab := tab, sig := [(104, s104)], clos := [], live := [], eqs := [], inl := [] }
set_option maxRecDepth 100000 in
theorem r59 (N : Nat) (a0 : List Int) : runF N E59 Try.f59 [.imm false (.slice 3 (.int .i64))] [.imm false .bool] (a0, ()) = p_spec_l16Keeps N a0 := by kernel_rfl
theorem env59 : EnvOk Try.prog E59 := envOk mixed tabOk ⟨⟨enters104, ok104⟩, trivial⟩ trivial trivial
noncomputable def s59 : FSpec := ⟨[.imm false (.slice 3 (.int .i64))], [.imm false .bool], fun x => S_spec_l16Keeps x.1⟩
theorem ok59 : FOk Try.prog 59 s59 := fn_says env59 Try.func59 rfl fun x y h => ⟨0, (r59 0 x.1).trans h⟩
theorem enters59 : Enters Try.prog 59 := enters Try.func59 (by kernel_rfl) rfl

/-! ## loop.example/g00698/spec.l1Has -/
noncomputable def E60 : Env := { tab := tab, sig := [], clos := [], live := [(0, [1, 7, 8, 9], [])], eqs := [], inl := [] }
set_option maxRecDepth 100000 in
theorem r60 (N : Nat) (a0 : List Int) (a1 : Int) : runF N E60 Try.f60 [.imm false (.slice 3 (.int .i64)), .imm false (.int .i64)] [.imm false .bool] (a0, a1, ()) = p_spec_l1Has N a0 a1 := by kernel_rfl
theorem env60 : EnvOk Try.prog E60 := envOk mixed tabOk trivial trivial trivial
noncomputable def s60 : FSpec := ⟨[.imm false (.slice 3 (.int .i64)), .imm false (.int .i64)], [.imm false .bool], fun x => S_spec_l1Has x.1 x.2.1⟩
theorem ok60 : FOk Try.prog 60 s60 := fn_says env60 Try.func60 rfl fun x y h => let ⟨N, hN⟩ := lim_some h; ⟨N, (r60 N x.1 x.2.1).trans hN⟩
theorem enters60 : Enters Try.prog 60 := enters Try.func60 (by kernel_rfl) rfl

/-! ## loop.example/g00698/spec.NeedsOf -/
noncomputable def E11 : Env := { tab := tab, sig := [(58, s58), (59, s59), (60, s60)], clos := [], live := [(0, [1, 6, 17, 18, 19, 28, 29, 30, 31, 32, 35, 36, 37, 38, 39, 40], [])], eqs := [], inl := [] }
set_option maxRecDepth 100000 in
theorem r11 (N : Nat) (a0 : List T4) (a1 : List Int) : runF N E11 Try.f11 [.imm false (.slice 79 (.pair (.int .i64) (.pair (.int .i64) (.pair (.pair (.int .i64) (.pair (.int .i64) (.pair (.int .i64) (.pair (.int .i64) (.pair (.int .i64) .unit))))) (.pair (.pair (.int .i64) (.pair (.int .i64) .unit)) .unit))))), .imm false (.slice 3 (.int .i64))] [.deep false (.slice 23 (.slice 3 (.int .i64))), .imm false .bool] (a0, a1, ()) = p_spec_NeedsOf N a0 a1 := by kernel_rfl
theorem env11 : EnvOk Try.prog E11 := envOk mixed tabOk ⟨⟨enters58, ok58⟩, ⟨enters59, ok59⟩, ⟨enters60, ok60⟩, trivial⟩ trivial trivial
noncomputable def s11 : FSpec := ⟨[.imm false (.slice 79 (.pair (.int .i64) (.pair (.int .i64) (.pair (.pair (.int .i64) (.pair (.int .i64) (.pair (.int .i64) (.pair (.int .i64) (.pair (.int .i64) .unit))))) (.pair (.pair (.int .i64) (.pair (.int .i64) .unit)) .unit))))), .imm false (.slice 3 (.int .i64))], [.deep false (.slice 23 (.slice 3 (.int .i64))), .imm false .bool], fun x => S_spec_NeedsOf x.1 x.2.1⟩
theorem ok11 : FOk Try.prog 11 s11 := fn_says env11 Try.func11 rfl fun x y h => let ⟨N, hN⟩ := lim_some h; ⟨N, (r11 N x.1 x.2.1).trans hN⟩
theorem enters11 : Enters Try.prog 11 := enters Try.func11 (by kernel_rfl) rfl

/-! ## slices.IndexFunc[[]loop.example/g00698/impl.Entry,loop.example/g00698/impl.Entry] -/
noncomputable def E146 : Env := { tab := tab, sig := [], clos := [], live := [(0, [0, 1, 7, 8], [])], eqs := [], inl := [] }
set_option maxRecDepth 100000 in
theorem r146 (N : Nat) (a0 : List T4) (a1 : (T4 × Unit) → Option Bool) : runF N E146 Try.f146 [.imm false (.slice 79 (.pair (.int .i64) (.pair (.int .i64) (.pair (.pair (.int .i64) (.pair (.int .i64) (.pair (.int .i64) (.pair (.int .i64) (.pair (.int .i64) .unit))))) (.pair (.pair (.int .i64) (.pair (.int .i64) .unit)) .unit))))), .clo [(true, (.pair (.int .i64) (.pair (.int .i64) (.pair (.pair (.int .i64) (.pair (.int .i64) (.pair (.int .i64) (.pair (.int .i64) (.pair (.int .i64) .unit))))) (.pair (.pair (.int .i64) (.pair (.int .i64) .unit)) .unit)))))] .bool] [.imm false (.int .i64)] (a0, a1, ()) = p_IndexFunc_Limpl_Entry_impl_Entry N a0 a1 := by kernel_rfl
theorem env146 : EnvOk Try.prog E146 := envOk mixed tabOk trivial trivial trivial
noncomputable def s146 : FSpec := ⟨[.imm false (.slice 79 (.pair (.int .i64) (.pair (.int .i64) (.pair (.pair (.int .i64) (.pair (.int .i64) (.pair (.int .i64) (.pair (.int .i64) (.pair (.int .i64) .unit))))) (.pair (.pair (.int .i64) (.pair (.int .i64) .unit)) .unit))))), .clo [(true, (.pair (.int .i64) (.pair (.int .i64) (.pair (.pair (.int .i64) (.pair (.int .i64) (.pair (.int .i64) (.pair (.int .i64) (.pair (.int .i64) .unit))))) (.pair (.pair (.int .i64) (.pair (.int .i64) .unit)) .unit)))))] .bool], [.imm false (.int .i64)], fun x => S_IndexFunc_Limpl_Entry_impl_Entry x.1 x.2.1⟩
theorem ok146 : FOk Try.prog 146 s146 := fn_says env146 Try.func146 rfl fun x y h => let ⟨N, hN⟩ := lim_some h; ⟨N, (r146 N x.1 x.2.1).trans hN⟩
theorem enters146 : Enters Try.prog 146 := enters Try.func146 (by kernel_rfl) rfl

/-! ## loop.example/g00698/impl.entryOf -/
theorem enters147 : Enters Try.prog 147 := enters Try.func147 (by kernel_rfl) rfl
noncomputable def E107 : Env := { tab := tab, sig := [(146, s146)], clos := [(147, ⟨Try.f147, [(true, (.pair (.int .i64) (.pair (.int .i64) (.pair (.pair (.int .i64) (.pair (.int .i64) (.pair (.int .i64) (.pair (.int .i64) (.pair (.int .i64) .unit))))) (.pair (.pair (.int .i64) (.pair (.int .i64) .unit)) .unit)))))], []⟩)], live := [], eqs := [], inl := [] }
set_option maxRecDepth 100000 in
theorem r107 (N : Nat) (a0 : List T4) (a1 : Int) (a2 : Int) : runF N E107 Try.f107 [.imm false (.slice 79 (.pair (.int .i64) (.pair (.int .i64) (.pair (.pair (.int .i64) (.pair (.int .i64) (.pair (.int .i64) (.pair (.int .i64) (.pair (.int .i64) .unit))))) (.pair (.pair (.int .i64) (.pair (.int .i64) .unit)) .unit))))), .imm false (.int .i64), .imm false (.int .i64)] [.imm false (.int .i64)] (a0, a1, a2, ()) = p_impl_entryOf N a0 a1 a2 := by kernel_rfl
theorem env107 : EnvOk Try.prog E107 := envOk mixed tabOk ⟨⟨enters146, ok146⟩, trivial⟩ ⟨⟨Try.func147, enters147⟩, trivial⟩ trivial
noncomputable def s107 : FSpec := ⟨[.imm false (.slice 79 (.pair (.int .i64) (.pair (.int .i64) (.pair (.pair (.int .i64) (.pair (.int .i64) (.pair (.int .i64) (.pair (.int .i64) (.pair (.int .i64) .unit))))) (.pair (.pair (.int .i64) (.pair (.int .i64) .unit)) .unit))))), .imm false (.int .i64), .imm false (.int .i64)], [.imm false (.int .i64)], fun x => S_impl_entryOf x.1 x.2.1 x.2.2.1⟩
theorem ok107 : FOk Try.prog 107 s107 := fn_says env107 Try.func107 rfl fun x y h => ⟨0, (r107 0 x.1 x.2.1 x.2.2.1).trans h⟩
theorem enters107 : Enters Try.prog 107 := enters Try.func107 (by kernel_rfl) rfl

/-! ## slices.ContainsFunc[[]loop.example/g00698/impl.Entry,loop.example/g00698/impl.Entry] -/
noncomputable def E148 : Env := { tab := tab, sig := [(146, s146)], clos := [], live := [], eqs := [], inl := [] }
set_option maxRecDepth 100000 in
theorem r148 (N : Nat) (a0 : List T4) (a1 : (T4 × Unit) → Option Bool) : runF N E148 Try.f148 [.imm false (.slice 79 (.pair (.int .i64) (.pair (.int .i64) (.pair (.pair (.int .i64) (.pair (.int .i64) (.pair (.int .i64) (.pair (.int .i64) (.pair (.int .i64) .unit))))) (.pair (.pair (.int .i64) (.pair (.int .i64) .unit)) .unit))))), .clo [(true, (.pair (.int .i64) (.pair (.int .i64) (.pair (.pair (.int .i64) (.pair (.int .i64) (.pair (.int .i64) (.pair (.int .i64) (.pair (.int .i64) .unit))))) (.pair (.pair (.int .i64) (.pair (.int .i64) .unit)) .unit)))))] .bool] [.imm false .bool] (a0, a1, ()) = p_ContainsFunc_Limpl_Entry_impl_Entry N a0 a1 := by kernel_rfl
theorem env148 : EnvOk Try.prog E148 := envOk mixed tabOk ⟨⟨enters146, ok146⟩, trivial⟩ trivial trivial
noncomputable def s148 : FSpec := ⟨[.imm false (.slice 79 (.pair (.int .i64) (.pair (.int .i64) (.pair (.pair (.int .i64) (.pair (.int .i64) (.pair (.int .i64) (.pair (.int .i64) (.pair (.int .i64) .unit))))) (.pair (.pair (.int .i64) (.pair (.int .i64) .unit)) .unit))))), .clo [(true, (.pair (.int .i64) (.pair (.int .i64) (.pair (.pair (.int .i64) (.pair (.int .i64) (.pair (.int .i64) (.pair (.int .i64) (.pair (.int .i64) .unit))))) (.pair (.pair (.int .i64) (.pair (.int .i64) .unit)) .unit)))))] .bool], [.imm false .bool], fun x => S_ContainsFunc_Limpl_Entry_impl_Entry x.1 x.2.1⟩
theorem ok148 : FOk Try.prog 148 s148 := fn_says env148 Try.func148 rfl fun x y h => ⟨0, (r148 0 x.1 x.2.1).trans h⟩
theorem enters148 : Enters Try.prog 148 := enters Try.func148 (by kernel_rfl) rfl

/-! ## loop.example/g00698/impl.within -/
noncomputable def E76 : Env := { tab := tab, sig := [], clos := [], live := [], eqs := [], inl := [] }
set_option maxRecDepth 100000 in
theorem r76 (N : Nat) (a0 : Int) (a1 : Int) (a2 : Int) : runF N E76 Try.f76 [.imm false (.int .i64), .imm false (.int .i64), .imm false (.int .i64)] [.imm false .bool] (a0, a1, a2, ()) = p_impl_within N a0 a1 a2 := by kernel_rfl
theorem env76 : EnvOk Try.prog E76 := envOk mixed tabOk trivial trivial trivial
noncomputable def s76 : FSpec := ⟨[.imm false (.int .i64), .imm false (.int .i64), .imm false (.int .i64)], [.imm false .bool], fun x => S_impl_within x.1 x.2.1 x.2.2.1⟩
theorem ok76 : FOk Try.prog 76 s76 := fn_says env76 Try.func76 rfl fun x y h => ⟨0, (r76 0 x.1 x.2.1 x.2.2.1).trans h⟩
theorem enters76 : Enters Try.prog 76 := enters Try.func76 (by kernel_rfl) rfl

/-! ## loop.example/g00698/impl.isAccount -/
noncomputable def E98 : Env := { tab := tab, sig := [(76, s76)], clos := [], live := [], eqs := [], inl := [] }
set_option maxRecDepth 100000 in
theorem r98 (N : Nat) (a0 : Int) : runF N E98 Try.f98 [.imm false (.int .i64)] [.imm false .bool] (a0, ()) = p_impl_isAccount N a0 := by kernel_rfl
theorem env98 : EnvOk Try.prog E98 := envOk mixed tabOk ⟨⟨enters76, ok76⟩, trivial⟩ trivial trivial
noncomputable def s98 : FSpec := ⟨[.imm false (.int .i64)], [.imm false .bool], fun x => S_impl_isAccount x.1⟩
theorem ok98 : FOk Try.prog 98 s98 := fn_says env98 Try.func98 rfl fun x y h => ⟨0, (r98 0 x.1).trans h⟩
theorem enters98 : Enters Try.prog 98 := enters Try.func98 (by kernel_rfl) rfl

/-! ## loop.example/g00698/impl.GoodCmd -/
noncomputable def E142 : Env := { tab := tab, sig := [(76, s76), (98, s98)], clos := [], live := [], eqs := [(75, 5)], inl := [] }
set_option maxRecDepth 100000 in
theorem r142 (N : Nat) (a0 : T2) : runF N E142 Try.f142 [.imm true (.pair (.int .i64) (.pair (.int .i64) (.pair (.int .i64) (.pair (.int .i64) (.pair (.int .i64) .unit)))))] [.imm false .bool] (a0, ()) = p_impl_GoodCmd N a0 := by kernel_rfl
theorem env142 : EnvOk Try.prog E142 := envOk mixed tabOk ⟨⟨enters76, ok76⟩, ⟨enters98, ok98⟩, trivial⟩ trivial ⟨eq75, trivial⟩
noncomputable def s142 : FSpec := ⟨[.imm true (.pair (.int .i64) (.pair (.int .i64) (.pair (.int .i64) (.pair (.int .i64) (.pair (.int .i64) .unit)))))], [.imm false .bool], fun x => S_impl_GoodCmd x.1⟩
theorem ok142 : FOk Try.prog 142 s142 := fn_says env142 Try.func142 rfl fun x y h => ⟨0, (r142 0 x.1).trans h⟩
theorem enters142 : Enters Try.prog 142 := enters Try.func142 (by kernel_rfl) rfl

/-! ## loop.example/g00698/impl.goodEntries -/
theorem enters149 : Enters Try.prog 149 := enters Try.func149 (by kernel_rfl) rfl
noncomputable def E108 : Env := { tab := tab, sig := [(148, s148), (142, s142)], clos := [(149, ⟨Try.f149, [(true, (.pair (.int .i64) (.pair (.int .i64) (.pair (.pair (.int .i64) (.pair (.int .i64) (.pair (.int .i64) (.pair (.int .i64) (.pair (.int .i64) .unit))))) (.pair (.pair (.int .i64) (.pair (.int .i64) .unit)) .unit)))))], []⟩)], live := [], eqs := [], inl := [] }
set_option maxRecDepth 100000 in
theorem r108 (N : Nat) (a0 : List T4) : runF N E108 Try.f108 [.imm false (.slice 79 (.pair (.int .i64) (.pair (.int .i64) (.pair (.pair (.int .i64) (.pair (.int .i64) (.pair (.int .i64) (.pair (.int .i64) (.pair (.int .i64) .unit))))) (.pair (.pair (.int .i64) (.pair (.int .i64) .unit)) .unit)))))] [.imm false .bool] (a0, ()) = p_impl_goodEntries N a0 := by kernel_rfl
theorem env108 : EnvOk Try.prog E108 := envOk mixed tabOk ⟨⟨enters148, ok148⟩, ⟨enters142, ok142⟩, trivial⟩ ⟨⟨Try.func149, enters149⟩, trivial⟩ trivial
noncomputable def s108 : FSpec := ⟨[.imm false (.slice 79 (.pair (.int .i64) (.pair (.int .i64) (.pair (.pair (.int .i64) (.pair (.int .i64) (.pair (.int .i64) (.pair (.int .i64) (.pair (.int .i64) .unit))))) (.pair (.pair (.int .i64) (.pair (.int .i64) .unit)) .unit)))))], [.imm false .bool], fun x => S_impl_goodEntries x.1⟩
theorem ok108 : FOk Try.prog 108 s108 := fn_says env108 Try.func108 rfl fun x y h => ⟨0, (r108 0 x.1).trans h⟩
theorem enters108 : Enters Try.prog 108 := enters Try.func108 (by kernel_rfl) rfl

/-! ## loop.example/g00698/impl.rise -/
noncomputable def E138 : Env := { tab := tab, sig := [], clos := [], live := [(0, [0, 3], [])], eqs := [], inl := [] }
set_option maxRecDepth 100000 in
theorem r138 (N : Nat) (a0 : List Int) : runF N E138 Try.f138 [.imm false (.slice 3 (.int .i64))] [.imm false .bool] (a0, ()) = p_impl_rise N a0 := by kernel_rfl
theorem env138 : EnvOk Try.prog E138 := envOk mixed tabOk trivial trivial trivial
noncomputable def s138 : FSpec := ⟨[.imm false (.slice 3 (.int .i64))], [.imm false .bool], fun x => S_impl_rise x.1⟩
theorem ok138 : FOk Try.prog 138 s138 := fn_says env138 Try.func138 rfl fun x y h => let ⟨N, hN⟩ := lim_some h; ⟨N, (r138 N x.1).trans hN⟩
theorem enters138 : Enters Try.prog 138 := enters Try.func138 (by kernel_rfl) rfl

/-! ## slices.IndexFunc[[]int,int] -/
noncomputable def E120 : Env := { tab := tab, sig := [], clos := [], live := [(0, [0, 1, 7, 8], [])], eqs := [], inl := [] }
set_option maxRecDepth 100000 in
theorem r120 (N : Nat) (a0 : List Int) (a1 : (Int × Unit) → Option Bool) : runF N E120 Try.f120 [.imm false (.slice 3 (.int .i64)), .clo [(false, (.int .i64))] .bool] [.imm false (.int .i64)] (a0, a1, ()) = p_IndexFunc_Lint_int N a0 a1 := by kernel_rfl
theorem env120 : EnvOk Try.prog E120 := envOk mixed tabOk trivial trivial trivial
noncomputable def s120 : FSpec := ⟨[.imm false (.slice 3 (.int .i64)), .clo [(false, (.int .i64))] .bool], [.imm false (.int .i64)], fun x => S_IndexFunc_Lint_int x.1 x.2.1⟩
theorem ok120 : FOk Try.prog 120 s120 := fn_says env120 Try.func120 rfl fun x y h => let ⟨N, hN⟩ := lim_some h; ⟨N, (r120 N x.1 x.2.1).trans hN⟩
theorem enters120 : Enters Try.prog 120 := enters Try.func120 (by kernel_rfl) rfl

/-! ## slices.ContainsFunc[[]int,int] -/
noncomputable def E74 : Env := { tab := tab, sig := [(120, s120)], clos := [], live := [], eqs := [], inl := [] }
set_option maxRecDepth 100000 in
theorem r74 (N : Nat) (a0 : List Int) (a1 : (Int × Unit) → Option Bool) : runF N E74 Try.f74 [.imm false (.slice 3 (.int .i64)), .clo [(false, (.int .i64))] .bool] [.imm false .bool] (a0, a1, ()) = p_ContainsFunc_Lint_int N a0 a1 := by kernel_rfl
theorem env74 : EnvOk Try.prog E74 := envOk mixed tabOk ⟨⟨enters120, ok120⟩, trivial⟩ trivial trivial
noncomputable def s74 : FSpec := ⟨[.imm false (.slice 3 (.int .i64)), .clo [(false, (.int .i64))] .bool], [.imm false .bool], fun x => S_ContainsFunc_Lint_int x.1 x.2.1⟩
theorem ok74 : FOk Try.prog 74 s74 := fn_says env74 Try.func74 rfl fun x y h => ⟨0, (r74 0 x.1 x.2.1).trans h⟩
theorem enters74 : Enters Try.prog 74 := enters Try.func74 (by kernel_rfl) rfl

/-! ## loop.example/g00698/impl.areMembers -/
theorem enters139 : Enters Try.prog 139 := enters Try.func139 (by kernel_rfl) rfl
noncomputable def E93 : Env := { tab := tab, sig := [(138, s138), (74, s74), (76, s76)], clos := [(139, ⟨Try.f139, [(false, (.int .i64))], []⟩)], live := [], eqs := [], inl := [] }
set_option maxRecDepth 100000 in
theorem r93 (N : Nat) (a0 : Int) (a1 : List Int) : runF N E93 Try.f93 [.imm false (.int .i64), .imm false (.slice 3 (.int .i64))] [.imm false .bool] (a0, a1, ()) = p_impl_areMembers N a0 a1 := by kernel_rfl
theorem env93 : EnvOk Try.prog E93 := envOk mixed tabOk ⟨⟨enters138, ok138⟩, ⟨enters74, ok74⟩, ⟨enters76, ok76⟩, trivial⟩ ⟨⟨Try.func139, enters139⟩, trivial⟩ trivial
noncomputable def s93 : FSpec := ⟨[.imm false (.int .i64), .imm false (.slice 3 (.int .i64))], [.imm false .bool], fun x => S_impl_areMembers x.1 x.2.1⟩
theorem ok93 : FOk Try.prog 93 s93 := fn_says env93 Try.func93 rfl fun x y h => ⟨0, (r93 0 x.1 x.2.1).trans h⟩
theorem enters93 : Enters Try.prog 93 := enters Try.func93 (by kernel_rfl) rfl

/-! ## loop.example/g00698/impl.goodParts -/
noncomputable def E62 : Env := { tab := tab, sig := [(107, s107), (108, s108), (93, s93)], clos := [], live := [(0, [0, 1, 7, 8, 9, 27, 28], [])], eqs := [], inl := [] }
set_option maxRecDepth 100000 in
theorem r62 (N : Nat) (a0 : List T4) (a1 : List Int) : runF N E62 Try.f62 [.imm false (.slice 79 (.pair (.int .i64) (.pair (.int .i64) (.pair (.pair (.int .i64) (.pair (.int .i64) (.pair (.int .i64) (.pair (.int .i64) (.pair (.int .i64) .unit))))) (.pair (.pair (.int .i64) (.pair (.int .i64) .unit)) .unit))))), .imm false (.slice 3 (.int .i64))] [.imm false .bool] (a0, a1, ()) = p_impl_goodParts N a0 a1 := by kernel_rfl
theorem env62 : EnvOk Try.prog E62 := envOk mixed tabOk ⟨⟨enters107, ok107⟩, ⟨enters108, ok108⟩, ⟨enters93, ok93⟩, trivial⟩ trivial trivial
noncomputable def s62 : FSpec := ⟨[.imm false (.slice 79 (.pair (.int .i64) (.pair (.int .i64) (.pair (.pair (.int .i64) (.pair (.int .i64) (.pair (.int .i64) (.pair (.int .i64) (.pair (.int .i64) .unit))))) (.pair (.pair (.int .i64) (.pair (.int .i64) .unit)) .unit))))), .imm false (.slice 3 (.int .i64))], [.imm false .bool], fun x => S_impl_goodParts x.1 x.2.1⟩
theorem ok62 : FOk Try.prog 62 s62 := fn_says env62 Try.func62 rfl fun x y h => let ⟨N, hN⟩ := lim_some h; ⟨N, (r62 N x.1 x.2.1).trans hN⟩
theorem enters62 : Enters Try.prog 62 := enters Try.func62 (by kernel_rfl) rfl

/-! ## slices.Index[[]int,int] -/
noncomputable def E109 : Env := { tab := tab, sig := [], clos := [], live := [(0, [0, 1, 7, 8], [])], eqs := [], inl := [] }
set_option maxRecDepth 100000 in
theorem r109 (N : Nat) (a0 : List Int) (a1 : Int) : runF N E109 Try.f109 [.imm false (.slice 3 (.int .i64)), .imm false (.int .i64)] [.imm false (.int .i64)] (a0, a1, ()) = p_Index_Lint_int N a0 a1 := by kernel_rfl
theorem env109 : EnvOk Try.prog E109 := envOk mixed tabOk trivial trivial trivial
noncomputable def s109 : FSpec := ⟨[.imm false (.slice 3 (.int .i64)), .imm false (.int .i64)], [.imm false (.int .i64)], fun x => S_Index_Lint_int x.1 x.2.1⟩
theorem ok109 : FOk Try.prog 109 s109 := fn_says env109 Try.func109 rfl fun x y h => let ⟨N, hN⟩ := lim_some h; ⟨N, (r109 N x.1 x.2.1).trans hN⟩
theorem enters109 : Enters Try.prog 109 := enters Try.func109 (by kernel_rfl) rfl

/-! ## slices.Contains[[]int,int] -/
noncomputable def E63 : Env := { tab := tab, sig := [(109, s109)], clos := [], live := [], eqs := [], inl := [] }
set_option maxRecDepth 100000 in
theorem r63 (N : Nat) (a0 : List Int) (a1 : Int) : runF N E63 Try.f63 [.imm false (.slice 3 (.int .i64)), .imm false (.int .i64)] [.imm false .bool] (a0, a1, ()) = p_Contains_Lint_int N a0 a1 := by kernel_rfl
theorem env63 : EnvOk Try.prog E63 := envOk mixed tabOk ⟨⟨enters109, ok109⟩, trivial⟩ trivial trivial
noncomputable def s63 : FSpec := ⟨[.imm false (.slice 3 (.int .i64)), .imm false (.int .i64)], [.imm false .bool], fun x => S_Contains_Lint_int x.1 x.2.1⟩
theorem ok63 : FOk Try.prog 63 s63 := fn_says env63 Try.func63 rfl fun x y h => ⟨0, (r63 0 x.1 x.2.1).trans h⟩
theorem enters63 : Enters Try.prog 63 := enters Try.func63 (by kernel_rfl) rfl

/-! ## loop.example/g00698/impl.NeedsOf -/
noncomputable def E14 : Env := { tab := tab, sig := [(62, s62), (63, s63)], clos := [], live := [(0, [1, 6, 14, 15, 16, 25, 26, 27, 28, 29, 32, 33, 34, 35, 36, 37], [])], eqs := [], inl := [] }
set_option maxRecDepth 100000 in
theorem r14 (N : Nat) (a0 : List T4) (a1 : List Int) : runF N E14 Try.f14 [.imm false (.slice 79 (.pair (.int .i64) (.pair (.int .i64) (.pair (.pair (.int .i64) (.pair (.int .i64) (.pair (.int .i64) (.pair (.int .i64) (.pair (.int .i64) .unit))))) (.pair (.pair (.int .i64) (.pair (.int .i64) .unit)) .unit))))), .imm false (.slice 3 (.int .i64))] [.deep false (.slice 23 (.slice 3 (.int .i64))), .imm false .bool] (a0, a1, ()) = p_impl_NeedsOf N a0 a1 := by kernel_rfl
theorem env14 : EnvOk Try.prog E14 := envOk mixed tabOk ⟨⟨enters62, ok62⟩, ⟨enters63, ok63⟩, trivial⟩ trivial trivial
noncomputable def s14 : FSpec := ⟨[.imm false (.slice 79 (.pair (.int .i64) (.pair (.int .i64) (.pair (.pair (.int .i64) (.pair (.int .i64) (.pair (.int .i64) (.pair (.int .i64) (.pair (.int .i64) .unit))))) (.pair (.pair (.int .i64) (.pair (.int .i64) .unit)) .unit))))), .imm false (.slice 3 (.int .i64))], [.deep false (.slice 23 (.slice 3 (.int .i64))), .imm false .bool], fun x => S_impl_NeedsOf x.1 x.2.1⟩
theorem ok14 : FOk Try.prog 14 s14 := fn_says env14 Try.func14 rfl fun x y h => let ⟨N, hN⟩ := lim_some h; ⟨N, (r14 N x.1 x.2.1).trans hN⟩
theorem enters14 : Enters Try.prog 14 := enters Try.func14 (by kernel_rfl) rfl

/-! ## loop.example/g00698/laws.eqIntS -/
noncomputable def E17 : Env := { tab := tab, sig := [], clos := [], live := [(0, [0, 1, 5], [])], eqs := [], inl := [] }
set_option maxRecDepth 100000 in
theorem r17 (N : Nat) (a0 : List Int) (a1 : List Int) : runF N E17 Try.f17 [.imm false (.slice 3 (.int .i64)), .imm false (.slice 3 (.int .i64))] [.imm false .bool] (a0, a1, ()) = p_laws_eqIntS N a0 a1 := by kernel_rfl
theorem env17 : EnvOk Try.prog E17 := envOk mixed tabOk trivial trivial trivial
noncomputable def s17 : FSpec := ⟨[.imm false (.slice 3 (.int .i64)), .imm false (.slice 3 (.int .i64))], [.imm false .bool], fun x => S_laws_eqIntS x.1 x.2.1⟩
theorem ok17 : FOk Try.prog 17 s17 := fn_says env17 Try.func17 rfl fun x y h => let ⟨N, hN⟩ := lim_some h; ⟨N, (r17 N x.1 x.2.1).trans hN⟩
theorem enters17 : Enters Try.prog 17 := enters Try.func17 (by kernel_rfl) rfl

/-! ## loop.example/g00698/laws.eqIntSS -/
noncomputable def E15 : Env := { tab := tab, sig := [(17, s17)], clos := [], live := [(0, [0, 1, 5], [])], eqs := [], inl := [] }
set_option maxRecDepth 100000 in
theorem r15 (N : Nat) (a0 : List (List Int)) (a1 : List (List Int)) : runF N E15 Try.f15 [.imm false (.slice 23 (.slice 3 (.int .i64))), .imm false (.slice 23 (.slice 3 (.int .i64)))] [.imm false .bool] (a0, a1, ()) = p_laws_eqIntSS N a0 a1 := by kernel_rfl
theorem env15 : EnvOk Try.prog E15 := envOk mixed tabOk ⟨⟨enters17, ok17⟩, trivial⟩ trivial trivial
noncomputable def s15 : FSpec := ⟨[.imm false (.slice 23 (.slice 3 (.int .i64))), .imm false (.slice 23 (.slice 3 (.int .i64)))], [.imm false .bool], fun x => S_laws_eqIntSS x.1 x.2.1⟩
theorem ok15 : FOk Try.prog 15 s15 := fn_says env15 Try.func15 rfl fun x y h => let ⟨N, hN⟩ := lim_some h; ⟨N, (r15 N x.1 x.2.1).trans hN⟩
theorem enters15 : Enters Try.prog 15 := enters Try.func15 (by kernel_rfl) rfl

/-! ## loop.example/g00698/laws.eqCmd -/
noncomputable def E110 : Env := { tab := tab, sig := [], clos := [], live := [], eqs := [], inl := [] }
set_option maxRecDepth 100000 in
theorem r110 (N : Nat) (a0 : T2) (a1 : T2) : runF N E110 Try.f110 [.imm true (.pair (.int .i64) (.pair (.int .i64) (.pair (.int .i64) (.pair (.int .i64) (.pair (.int .i64) .unit))))), .imm true (.pair (.int .i64) (.pair (.int .i64) (.pair (.int .i64) (.pair (.int .i64) (.pair (.int .i64) .unit)))))] [.imm false .bool] (a0, a1, ()) = p_laws_eqCmd N a0 a1 := by kernel_rfl
theorem env110 : EnvOk Try.prog E110 := envOk mixed tabOk trivial trivial trivial
noncomputable def s110 : FSpec := ⟨[.imm true (.pair (.int .i64) (.pair (.int .i64) (.pair (.int .i64) (.pair (.int .i64) (.pair (.int .i64) .unit))))), .imm true (.pair (.int .i64) (.pair (.int .i64) (.pair (.int .i64) (.pair (.int .i64) (.pair (.int .i64) .unit)))))], [.imm false .bool], fun x => S_laws_eqCmd x.1 x.2.1⟩
theorem ok110 : FOk Try.prog 110 s110 := fn_says env110 Try.func110 rfl fun x y h => ⟨0, (r110 0 x.1 x.2.1).trans h⟩
theorem enters110 : Enters Try.prog 110 := enters Try.func110 (by kernel_rfl) rfl

/-! ## loop.example/g00698/laws.eqTold -/
noncomputable def E111 : Env := { tab := tab, sig := [], clos := [], live := [], eqs := [], inl := [] }
set_option maxRecDepth 100000 in
theorem r111 (N : Nat) (a0 : T3) (a1 : T3) : runF N E111 Try.f111 [.imm true (.pair (.int .i64) (.pair (.int .i64) .unit)), .imm true (.pair (.int .i64) (.pair (.int .i64) .unit))] [.imm false .bool] (a0, a1, ()) = p_laws_eqTold N a0 a1 := by kernel_rfl
theorem env111 : EnvOk Try.prog E111 := envOk mixed tabOk trivial trivial trivial
noncomputable def s111 : FSpec := ⟨[.imm true (.pair (.int .i64) (.pair (.int .i64) .unit)), .imm true (.pair (.int .i64) (.pair (.int .i64) .unit))], [.imm false .bool], fun x => S_laws_eqTold x.1 x.2.1⟩
theorem ok111 : FOk Try.prog 111 s111 := fn_says env111 Try.func111 rfl fun x y h => ⟨0, (r111 0 x.1 x.2.1).trans h⟩
theorem enters111 : Enters Try.prog 111 := enters Try.func111 (by kernel_rfl) rfl

/-! ## loop.example/g00698/laws.eqEntry -/
noncomputable def E64 : Env := { tab := tab, sig := [(110, s110), (111, s111)], clos := [], live := [], eqs := [], inl := [] }
set_option maxRecDepth 100000 in
theorem r64 (N : Nat) (a0 : T4) (a1 : T4) : runF N E64 Try.f64 [.imm true (.pair (.int .i64) (.pair (.int .i64) (.pair (.pair (.int .i64) (.pair (.int .i64) (.pair (.int .i64) (.pair (.int .i64) (.pair (.int .i64) .unit))))) (.pair (.pair (.int .i64) (.pair (.int .i64) .unit)) .unit)))), .imm true (.pair (.int .i64) (.pair (.int .i64) (.pair (.pair (.int .i64) (.pair (.int .i64) (.pair (.int .i64) (.pair (.int .i64) (.pair (.int .i64) .unit))))) (.pair (.pair (.int .i64) (.pair (.int .i64) .unit)) .unit))))] [.imm false .bool] (a0, a1, ()) = p_laws_eqEntry N a0 a1 := by kernel_rfl
theorem env64 : EnvOk Try.prog E64 := envOk mixed tabOk ⟨⟨enters110, ok110⟩, ⟨enters111, ok111⟩, trivial⟩ trivial trivial
noncomputable def s64 : FSpec := ⟨[.imm true (.pair (.int .i64) (.pair (.int .i64) (.pair (.pair (.int .i64) (.pair (.int .i64) (.pair (.int .i64) (.pair (.int .i64) (.pair (.int .i64) .unit))))) (.pair (.pair (.int .i64) (.pair (.int .i64) .unit)) .unit)))), .imm true (.pair (.int .i64) (.pair (.int .i64) (.pair (.pair (.int .i64) (.pair (.int .i64) (.pair (.int .i64) (.pair (.int .i64) (.pair (.int .i64) .unit))))) (.pair (.pair (.int .i64) (.pair (.int .i64) .unit)) .unit))))], [.imm false .bool], fun x => S_laws_eqEntry x.1 x.2.1⟩
theorem ok64 : FOk Try.prog 64 s64 := fn_says env64 Try.func64 rfl fun x y h => ⟨0, (r64 0 x.1 x.2.1).trans h⟩
theorem enters64 : Enters Try.prog 64 := enters Try.func64 (by kernel_rfl) rfl

/-! ## loop.example/g00698/laws.eqEntryS -/
noncomputable def E16 : Env := { tab := tab, sig := [(64, s64)], clos := [], live := [(0, [0, 1, 5], [])], eqs := [], inl := [] }
set_option maxRecDepth 100000 in
theorem r16 (N : Nat) (a0 : List T4) (a1 : List T4) : runF N E16 Try.f16 [.imm false (.slice 79 (.pair (.int .i64) (.pair (.int .i64) (.pair (.pair (.int .i64) (.pair (.int .i64) (.pair (.int .i64) (.pair (.int .i64) (.pair (.int .i64) .unit))))) (.pair (.pair (.int .i64) (.pair (.int .i64) .unit)) .unit))))), .imm false (.slice 79 (.pair (.int .i64) (.pair (.int .i64) (.pair (.pair (.int .i64) (.pair (.int .i64) (.pair (.int .i64) (.pair (.int .i64) (.pair (.int .i64) .unit))))) (.pair (.pair (.int .i64) (.pair (.int .i64) .unit)) .unit)))))] [.imm false .bool] (a0, a1, ()) = p_laws_eqEntryS N a0 a1 := by kernel_rfl
theorem env16 : EnvOk Try.prog E16 := envOk mixed tabOk ⟨⟨enters64, ok64⟩, trivial⟩ trivial trivial
noncomputable def s16 : FSpec := ⟨[.imm false (.slice 79 (.pair (.int .i64) (.pair (.int .i64) (.pair (.pair (.int .i64) (.pair (.int .i64) (.pair (.int .i64) (.pair (.int .i64) (.pair (.int .i64) .unit))))) (.pair (.pair (.int .i64) (.pair (.int .i64) .unit)) .unit))))), .imm false (.slice 79 (.pair (.int .i64) (.pair (.int .i64) (.pair (.pair (.int .i64) (.pair (.int .i64) (.pair (.int .i64) (.pair (.int .i64) (.pair (.int .i64) .unit))))) (.pair (.pair (.int .i64) (.pair (.int .i64) .unit)) .unit)))))], [.imm false .bool], fun x => S_laws_eqEntryS x.1 x.2.1⟩
theorem ok16 : FOk Try.prog 16 s16 := fn_says env16 Try.func16 rfl fun x y h => let ⟨N, hN⟩ := lim_some h; ⟨N, (r16 N x.1 x.2.1).trans hN⟩
theorem enters16 : Enters Try.prog 16 := enters Try.func16 (by kernel_rfl) rfl

/-! ## loop.example/g00698/laws.markEntryS -/
noncomputable def E18 : Env := { tab := tab, sig := [], clos := [], live := [(0, [0, 1, 5], [])], eqs := [], inl := [] }
set_option maxRecDepth 100000 in
theorem r18 (N : Nat) (a0 : List T4) (a1 : Int) : runF N E18 Try.f18 [.mut false (.slice 79 (.pair (.int .i64) (.pair (.int .i64) (.pair (.pair (.int .i64) (.pair (.int .i64) (.pair (.int .i64) (.pair (.int .i64) (.pair (.int .i64) .unit))))) (.pair (.pair (.int .i64) (.pair (.int .i64) .unit)) .unit))))), .imm false (.int .i64)] [.imm false (.int .i64)] (a0, a1, ()) = p_laws_markEntryS N a0 a1 := by kernel_rfl
theorem env18 : EnvOk Try.prog E18 := envOk mixed tabOk trivial trivial trivial
noncomputable def s18 : FSpec := ⟨[.mut false (.slice 79 (.pair (.int .i64) (.pair (.int .i64) (.pair (.pair (.int .i64) (.pair (.int .i64) (.pair (.int .i64) (.pair (.int .i64) (.pair (.int .i64) .unit))))) (.pair (.pair (.int .i64) (.pair (.int .i64) .unit)) .unit))))), .imm false (.int .i64)], [.imm false (.int .i64)], fun x => S_laws_markEntryS x.1 x.2.1⟩
theorem ok18 : FOk Try.prog 18 s18 := fn_says env18 Try.func18 rfl fun x y h => let ⟨N, hN⟩ := lim_some h; ⟨N, (r18 N x.1 x.2.1).trans hN⟩
theorem enters18 : Enters Try.prog 18 := enters Try.func18 (by kernel_rfl) rfl

/-! ## loop.example/g00698/laws.markIntS -/
noncomputable def E19 : Env := { tab := tab, sig := [], clos := [], live := [(0, [0, 1, 5], [])], eqs := [], inl := [] }
set_option maxRecDepth 100000 in
theorem r19 (N : Nat) (a0 : List Int) (a1 : Int) : runF N E19 Try.f19 [.mut false (.slice 3 (.int .i64)), .imm false (.int .i64)] [.imm false (.int .i64)] (a0, a1, ()) = p_laws_markIntS N a0 a1 := by kernel_rfl
theorem env19 : EnvOk Try.prog E19 := envOk mixed tabOk trivial trivial trivial
noncomputable def s19 : FSpec := ⟨[.mut false (.slice 3 (.int .i64)), .imm false (.int .i64)], [.imm false (.int .i64)], fun x => S_laws_markIntS x.1 x.2.1⟩
theorem ok19 : FOk Try.prog 19 s19 := fn_says env19 Try.func19 rfl fun x y h => let ⟨N, hN⟩ := lim_some h; ⟨N, (r19 N x.1 x.2.1).trans hN⟩
theorem enters19 : Enters Try.prog 19 := enters Try.func19 (by kernel_rfl) rfl

/-! ## loop.example/g00698/laws.markIntSS -/
noncomputable def E20 : Env := { tab := tab, sig := [(19, s19)], clos := [], live := [(0, [0, 1, 5], [])], eqs := [], inl := [] }
set_option maxRecDepth 100000 in
theorem r20 (N : Nat) (a0 : List (List Int)) (a1 : Int) : runF N E20 Try.f20 [.mut false (.slice 23 (.slice 3 (.int .i64))), .imm false (.int .i64)] [.imm false (.int .i64)] (a0, a1, ()) = p_laws_markIntSS N a0 a1 := by kernel_rfl
theorem env20 : EnvOk Try.prog E20 := envOk mixed tabOk ⟨⟨enters19, ok19⟩, trivial⟩ trivial trivial
noncomputable def s20 : FSpec := ⟨[.mut false (.slice 23 (.slice 3 (.int .i64))), .imm false (.int .i64)], [.imm false (.int .i64)], fun x => S_laws_markIntSS x.1 x.2.1⟩
theorem ok20 : FOk Try.prog 20 s20 := fn_says env20 Try.func20 rfl fun x y h => let ⟨N, hN⟩ := lim_some h; ⟨N, (r20 N x.1 x.2.1).trans hN⟩
theorem enters20 : Enters Try.prog 20 := enters Try.func20 (by kernel_rfl) rfl

/-! ## loop.example/g00698/laws.heldIntS -/
noncomputable def E36 : Env := { tab := tab, sig := [], clos := [], live := [(0, [0, 1, 5], [])], eqs := [], inl := [] }
set_option maxRecDepth 100000 in
theorem r36 (N : Nat) (a0 : List Int) (a1 : Int) : runF N E36 Try.f36 [.imm false (.slice 3 (.int .i64)), .imm false (.int .i64)] [.imm false (.int .i64)] (a0, a1, ()) = p_laws_heldIntS N a0 a1 := by kernel_rfl
theorem env36 : EnvOk Try.prog E36 := envOk mixed tabOk trivial trivial trivial
noncomputable def s36 : FSpec := ⟨[.imm false (.slice 3 (.int .i64)), .imm false (.int .i64)], [.imm false (.int .i64)], fun x => S_laws_heldIntS x.1 x.2.1⟩
theorem ok36 : FOk Try.prog 36 s36 := fn_says env36 Try.func36 rfl fun x y h => let ⟨N, hN⟩ := lim_some h; ⟨N, (r36 N x.1 x.2.1).trans hN⟩
theorem enters36 : Enters Try.prog 36 := enters Try.func36 (by kernel_rfl) rfl

/-! ## loop.example/g00698/laws.heldIntSS -/
noncomputable def E21 : Env := { tab := tab, sig := [(36, s36)], clos := [], live := [(0, [0, 1, 5], [])], eqs := [], inl := [] }
set_option maxRecDepth 100000 in
theorem r21 (N : Nat) (a0 : List (List Int)) (a1 : Int) : runF N E21 Try.f21 [.imm false (.slice 23 (.slice 3 (.int .i64))), .imm false (.int .i64)] [.imm false (.int .i64)] (a0, a1, ()) = p_laws_heldIntSS N a0 a1 := by kernel_rfl
theorem env21 : EnvOk Try.prog E21 := envOk mixed tabOk ⟨⟨enters36, ok36⟩, trivial⟩ trivial trivial
noncomputable def s21 : FSpec := ⟨[.imm false (.slice 23 (.slice 3 (.int .i64))), .imm false (.int .i64)], [.imm false (.int .i64)], fun x => S_laws_heldIntSS x.1 x.2.1⟩
theorem ok21 : FOk Try.prog 21 s21 := fn_says env21 Try.func21 rfl fun x y h => let ⟨N, hN⟩ := lim_some h; ⟨N, (r21 N x.1 x.2.1).trans hN⟩
theorem enters21 : Enters Try.prog 21 := enters Try.func21 (by kernel_rfl) rfl

/-! ## loop.example/g00698/laws.FnExactNeedsOf -/
noncomputable def E3 : Env := { tab := tab, sig := [(10, s10), (12, s12), (13, s13), (11, s11), (14, s14), (15, s15), (16, s16), (17, s17), (18, s18), (19, s19), (20, s20), (21, s21)], clos := [], live := [], eqs := [], inl := [] }
set_option maxRecDepth 100000 in
theorem r3 (N : Nat) (a0 : List T4) (a1 : List Int) : runF N E3 Try.f3 [.imm false (.slice 97 (.pair (.int .i64) (.pair (.int .i64) (.pair (.pair (.int .i64) (.pair (.int .i64) (.pair (.int .i64) (.pair (.int .i64) (.pair (.int .i64) .unit))))) (.pair (.pair (.int .i64) (.pair (.int .i64) .unit)) .unit))))), .imm false (.slice 3 (.int .i64))] [.imm false .bool] (a0, a1, ()) = p_laws_FnExactNeedsOf N a0 a1 := by kernel_rfl
theorem env3 : EnvOk Try.prog E3 := envOk mixed tabOk ⟨⟨enters10, ok10⟩, ⟨enters12, ok12⟩, ⟨enters13, ok13⟩, ⟨enters11, ok11⟩, ⟨enters14, ok14⟩, ⟨enters15, ok15⟩, ⟨enters16, ok16⟩, ⟨enters17, ok17⟩, ⟨enters18, ok18⟩, ⟨enters19, ok19⟩, ⟨enters20, ok20⟩, ⟨enters21, ok21⟩, trivial⟩ trivial trivial

/-! ## loop.example/g00698/spec.l16Verdicts -/
noncomputable def E65 : Env := { tab := tab, sig := [(60, s60)], clos := [], live := [(0, [1, 5, 8, 9, 10, 19, 20, 21, 22, 23], [])], eqs := [], inl := [] }
set_option maxRecDepth 100000 in
theorem r65 (N : Nat) (a0 : List T4) (a1 : List Int) : runF N E65 Try.f65 [.imm false (.slice 79 (.pair (.int .i64) (.pair (.int .i64) (.pair (.pair (.int .i64) (.pair (.int .i64) (.pair (.int .i64) (.pair (.int .i64) (.pair (.int .i64) .unit))))) (.pair (.pair (.int .i64) (.pair (.int .i64) .unit)) .unit))))), .imm false (.slice 3 (.int .i64))] [.deep false (.slice 103 (.pair (.int .i64) (.pair (.int .i64) (.pair (.pair (.int .i64) (.pair (.int .i64) .unit)) .unit))))] (a0, a1, ()) = p_spec_l16Verdicts N a0 a1 := by kernel_rfl
theorem env65 : EnvOk Try.prog E65 := envOk mixed tabOk ⟨⟨enters60, ok60⟩, trivial⟩ trivial trivial
noncomputable def s65 : FSpec := ⟨[.imm false (.slice 79 (.pair (.int .i64) (.pair (.int .i64) (.pair (.pair (.int .i64) (.pair (.int .i64) (.pair (.int .i64) (.pair (.int .i64) (.pair (.int .i64) .unit))))) (.pair (.pair (.int .i64) (.pair (.int .i64) .unit)) .unit))))), .imm false (.slice 3 (.int .i64))], [.deep false (.slice 103 (.pair (.int .i64) (.pair (.int .i64) (.pair (.pair (.int .i64) (.pair (.int .i64) .unit)) .unit))))], fun x => S_spec_l16Verdicts x.1 x.2.1⟩
theorem ok65 : FOk Try.prog 65 s65 := fn_says env65 Try.func65 rfl fun x y h => let ⟨N, hN⟩ := lim_some h; ⟨N, (r65 N x.1 x.2.1).trans hN⟩
theorem enters65 : Enters Try.prog 65 := enters Try.func65 (by kernel_rfl) rfl

/-! ## loop.example/g00698/spec.VerdictsOf -/
noncomputable def E22 : Env := { tab := tab, sig := [(58, s58), (59, s59), (65, s65)], clos := [], live := [], eqs := [], inl := [] }
set_option maxRecDepth 100000 in
theorem r22 (N : Nat) (a0 : List T4) (a1 : List Int) : runF N E22 Try.f22 [.imm false (.slice 79 (.pair (.int .i64) (.pair (.int .i64) (.pair (.pair (.int .i64) (.pair (.int .i64) (.pair (.int .i64) (.pair (.int .i64) (.pair (.int .i64) .unit))))) (.pair (.pair (.int .i64) (.pair (.int .i64) .unit)) .unit))))), .imm false (.slice 3 (.int .i64))] [.deep false (.slice 103 (.pair (.int .i64) (.pair (.int .i64) (.pair (.pair (.int .i64) (.pair (.int .i64) .unit)) .unit)))), .imm false .bool] (a0, a1, ()) = p_spec_VerdictsOf N a0 a1 := by kernel_rfl
theorem env22 : EnvOk Try.prog E22 := envOk mixed tabOk ⟨⟨enters58, ok58⟩, ⟨enters59, ok59⟩, ⟨enters65, ok65⟩, trivial⟩ trivial trivial
noncomputable def s22 : FSpec := ⟨[.imm false (.slice 79 (.pair (.int .i64) (.pair (.int .i64) (.pair (.pair (.int .i64) (.pair (.int .i64) (.pair (.int .i64) (.pair (.int .i64) (.pair (.int .i64) .unit))))) (.pair (.pair (.int .i64) (.pair (.int .i64) .unit)) .unit))))), .imm false (.slice 3 (.int .i64))], [.deep false (.slice 103 (.pair (.int .i64) (.pair (.int .i64) (.pair (.pair (.int .i64) (.pair (.int .i64) .unit)) .unit)))), .imm false .bool], fun x => S_spec_VerdictsOf x.1 x.2.1⟩
theorem ok22 : FOk Try.prog 22 s22 := fn_says env22 Try.func22 rfl fun x y h => ⟨0, (r22 0 x.1 x.2.1).trans h⟩
theorem enters22 : Enters Try.prog 22 := enters Try.func22 (by kernel_rfl) rfl

/-! ## loop.example/g00698/impl.verdicts -/
noncomputable def E66 : Env := { tab := tab, sig := [(63, s63)], clos := [], live := [(0, [1, 5, 9, 10, 11, 20, 21, 22, 23, 24], [])], eqs := [], inl := [] }
set_option maxRecDepth 100000 in
theorem r66 (N : Nat) (a0 : List T4) (a1 : List Int) : runF N E66 Try.f66 [.imm false (.slice 79 (.pair (.int .i64) (.pair (.int .i64) (.pair (.pair (.int .i64) (.pair (.int .i64) (.pair (.int .i64) (.pair (.int .i64) (.pair (.int .i64) .unit))))) (.pair (.pair (.int .i64) (.pair (.int .i64) .unit)) .unit))))), .imm false (.slice 3 (.int .i64))] [.deep false (.slice 103 (.pair (.int .i64) (.pair (.int .i64) (.pair (.pair (.int .i64) (.pair (.int .i64) .unit)) .unit))))] (a0, a1, ()) = p_impl_verdicts N a0 a1 := by kernel_rfl
theorem env66 : EnvOk Try.prog E66 := envOk mixed tabOk ⟨⟨enters63, ok63⟩, trivial⟩ trivial trivial
noncomputable def s66 : FSpec := ⟨[.imm false (.slice 79 (.pair (.int .i64) (.pair (.int .i64) (.pair (.pair (.int .i64) (.pair (.int .i64) (.pair (.int .i64) (.pair (.int .i64) (.pair (.int .i64) .unit))))) (.pair (.pair (.int .i64) (.pair (.int .i64) .unit)) .unit))))), .imm false (.slice 3 (.int .i64))], [.deep false (.slice 103 (.pair (.int .i64) (.pair (.int .i64) (.pair (.pair (.int .i64) (.pair (.int .i64) .unit)) .unit))))], fun x => S_impl_verdicts x.1 x.2.1⟩
theorem ok66 : FOk Try.prog 66 s66 := fn_says env66 Try.func66 rfl fun x y h => let ⟨N, hN⟩ := lim_some h; ⟨N, (r66 N x.1 x.2.1).trans hN⟩
theorem enters66 : Enters Try.prog 66 := enters Try.func66 (by kernel_rfl) rfl

/-! ## loop.example/g00698/impl.VerdictsOf -/
noncomputable def E23 : Env := { tab := tab, sig := [(62, s62), (66, s66)], clos := [], live := [], eqs := [], inl := [] }
set_option maxRecDepth 100000 in
theorem r23 (N : Nat) (a0 : List T4) (a1 : List Int) : runF N E23 Try.f23 [.imm false (.slice 79 (.pair (.int .i64) (.pair (.int .i64) (.pair (.pair (.int .i64) (.pair (.int .i64) (.pair (.int .i64) (.pair (.int .i64) (.pair (.int .i64) .unit))))) (.pair (.pair (.int .i64) (.pair (.int .i64) .unit)) .unit))))), .imm false (.slice 3 (.int .i64))] [.deep false (.slice 103 (.pair (.int .i64) (.pair (.int .i64) (.pair (.pair (.int .i64) (.pair (.int .i64) .unit)) .unit)))), .imm false .bool] (a0, a1, ()) = p_impl_VerdictsOf N a0 a1 := by kernel_rfl
theorem env23 : EnvOk Try.prog E23 := envOk mixed tabOk ⟨⟨enters62, ok62⟩, ⟨enters66, ok66⟩, trivial⟩ trivial trivial
noncomputable def s23 : FSpec := ⟨[.imm false (.slice 79 (.pair (.int .i64) (.pair (.int .i64) (.pair (.pair (.int .i64) (.pair (.int .i64) (.pair (.int .i64) (.pair (.int .i64) (.pair (.int .i64) .unit))))) (.pair (.pair (.int .i64) (.pair (.int .i64) .unit)) .unit))))), .imm false (.slice 3 (.int .i64))], [.deep false (.slice 103 (.pair (.int .i64) (.pair (.int .i64) (.pair (.pair (.int .i64) (.pair (.int .i64) .unit)) .unit)))), .imm false .bool], fun x => S_impl_VerdictsOf x.1 x.2.1⟩
theorem ok23 : FOk Try.prog 23 s23 := fn_says env23 Try.func23 rfl fun x y h => ⟨0, (r23 0 x.1 x.2.1).trans h⟩
theorem enters23 : Enters Try.prog 23 := enters Try.func23 (by kernel_rfl) rfl

/-! ## loop.example/g00698/laws.eqVerdict -/
noncomputable def E67 : Env := { tab := tab, sig := [(111, s111)], clos := [], live := [], eqs := [], inl := [] }
set_option maxRecDepth 100000 in
theorem r67 (N : Nat) (a0 : T5) (a1 : T5) : runF N E67 Try.f67 [.imm true (.pair (.int .i64) (.pair (.int .i64) (.pair (.pair (.int .i64) (.pair (.int .i64) .unit)) .unit))), .imm true (.pair (.int .i64) (.pair (.int .i64) (.pair (.pair (.int .i64) (.pair (.int .i64) .unit)) .unit)))] [.imm false .bool] (a0, a1, ()) = p_laws_eqVerdict N a0 a1 := by kernel_rfl
theorem env67 : EnvOk Try.prog E67 := envOk mixed tabOk ⟨⟨enters111, ok111⟩, trivial⟩ trivial trivial
noncomputable def s67 : FSpec := ⟨[.imm true (.pair (.int .i64) (.pair (.int .i64) (.pair (.pair (.int .i64) (.pair (.int .i64) .unit)) .unit))), .imm true (.pair (.int .i64) (.pair (.int .i64) (.pair (.pair (.int .i64) (.pair (.int .i64) .unit)) .unit)))], [.imm false .bool], fun x => S_laws_eqVerdict x.1 x.2.1⟩
theorem ok67 : FOk Try.prog 67 s67 := fn_says env67 Try.func67 rfl fun x y h => ⟨0, (r67 0 x.1 x.2.1).trans h⟩
theorem enters67 : Enters Try.prog 67 := enters Try.func67 (by kernel_rfl) rfl

/-! ## loop.example/g00698/laws.eqVerdictS -/
noncomputable def E24 : Env := { tab := tab, sig := [(67, s67)], clos := [], live := [(0, [0, 1, 5], [])], eqs := [], inl := [] }
set_option maxRecDepth 100000 in
theorem r24 (N : Nat) (a0 : List T5) (a1 : List T5) : runF N E24 Try.f24 [.imm false (.slice 103 (.pair (.int .i64) (.pair (.int .i64) (.pair (.pair (.int .i64) (.pair (.int .i64) .unit)) .unit)))), .imm false (.slice 103 (.pair (.int .i64) (.pair (.int .i64) (.pair (.pair (.int .i64) (.pair (.int .i64) .unit)) .unit))))] [.imm false .bool] (a0, a1, ()) = p_laws_eqVerdictS N a0 a1 := by kernel_rfl
theorem env24 : EnvOk Try.prog E24 := envOk mixed tabOk ⟨⟨enters67, ok67⟩, trivial⟩ trivial trivial
noncomputable def s24 : FSpec := ⟨[.imm false (.slice 103 (.pair (.int .i64) (.pair (.int .i64) (.pair (.pair (.int .i64) (.pair (.int .i64) .unit)) .unit)))), .imm false (.slice 103 (.pair (.int .i64) (.pair (.int .i64) (.pair (.pair (.int .i64) (.pair (.int .i64) .unit)) .unit))))], [.imm false .bool], fun x => S_laws_eqVerdictS x.1 x.2.1⟩
theorem ok24 : FOk Try.prog 24 s24 := fn_says env24 Try.func24 rfl fun x y h => let ⟨N, hN⟩ := lim_some h; ⟨N, (r24 N x.1 x.2.1).trans hN⟩
theorem enters24 : Enters Try.prog 24 := enters Try.func24 (by kernel_rfl) rfl

/-! ## loop.example/g00698/laws.markVerdictS -/
noncomputable def E25 : Env := { tab := tab, sig := [], clos := [], live := [(0, [0, 1, 5], [])], eqs := [], inl := [] }
set_option maxRecDepth 100000 in
theorem r25 (N : Nat) (a0 : List T5) (a1 : Int) : runF N E25 Try.f25 [.mut false (.slice 103 (.pair (.int .i64) (.pair (.int .i64) (.pair (.pair (.int .i64) (.pair (.int .i64) .unit)) .unit)))), .imm false (.int .i64)] [.imm false (.int .i64)] (a0, a1, ()) = p_laws_markVerdictS N a0 a1 := by kernel_rfl
theorem env25 : EnvOk Try.prog E25 := envOk mixed tabOk trivial trivial trivial
noncomputable def s25 : FSpec := ⟨[.mut false (.slice 103 (.pair (.int .i64) (.pair (.int .i64) (.pair (.pair (.int .i64) (.pair (.int .i64) .unit)) .unit)))), .imm false (.int .i64)], [.imm false (.int .i64)], fun x => S_laws_markVerdictS x.1 x.2.1⟩
theorem ok25 : FOk Try.prog 25 s25 := fn_says env25 Try.func25 rfl fun x y h => let ⟨N, hN⟩ := lim_some h; ⟨N, (r25 N x.1 x.2.1).trans hN⟩
theorem enters25 : Enters Try.prog 25 := enters Try.func25 (by kernel_rfl) rfl

/-! ## loop.example/g00698/laws.heldVerdictS -/
noncomputable def E26 : Env := { tab := tab, sig := [], clos := [], live := [(0, [0, 1, 5], [])], eqs := [], inl := [] }
set_option maxRecDepth 100000 in
theorem r26 (N : Nat) (a0 : List T5) (a1 : Int) : runF N E26 Try.f26 [.imm false (.slice 103 (.pair (.int .i64) (.pair (.int .i64) (.pair (.pair (.int .i64) (.pair (.int .i64) .unit)) .unit)))), .imm false (.int .i64)] [.imm false (.int .i64)] (a0, a1, ()) = p_laws_heldVerdictS N a0 a1 := by kernel_rfl
theorem env26 : EnvOk Try.prog E26 := envOk mixed tabOk trivial trivial trivial
noncomputable def s26 : FSpec := ⟨[.imm false (.slice 103 (.pair (.int .i64) (.pair (.int .i64) (.pair (.pair (.int .i64) (.pair (.int .i64) .unit)) .unit)))), .imm false (.int .i64)], [.imm false (.int .i64)], fun x => S_laws_heldVerdictS x.1 x.2.1⟩
theorem ok26 : FOk Try.prog 26 s26 := fn_says env26 Try.func26 rfl fun x y h => let ⟨N, hN⟩ := lim_some h; ⟨N, (r26 N x.1 x.2.1).trans hN⟩
theorem enters26 : Enters Try.prog 26 := enters Try.func26 (by kernel_rfl) rfl

/-! ## loop.example/g00698/laws.FnExactVerdictsOf -/
noncomputable def E4 : Env := { tab := tab, sig := [(10, s10), (12, s12), (13, s13), (22, s22), (23, s23), (24, s24), (16, s16), (17, s17), (18, s18), (19, s19), (25, s25), (26, s26)], clos := [], live := [], eqs := [], inl := [] }
set_option maxRecDepth 100000 in
theorem r4 (N : Nat) (a0 : List T4) (a1 : List Int) : runF N E4 Try.f4 [.imm false (.slice 97 (.pair (.int .i64) (.pair (.int .i64) (.pair (.pair (.int .i64) (.pair (.int .i64) (.pair (.int .i64) (.pair (.int .i64) (.pair (.int .i64) .unit))))) (.pair (.pair (.int .i64) (.pair (.int .i64) .unit)) .unit))))), .imm false (.slice 3 (.int .i64))] [.imm false .bool] (a0, a1, ()) = p_laws_FnExactVerdictsOf N a0 a1 := by kernel_rfl
theorem env4 : EnvOk Try.prog E4 := envOk mixed tabOk ⟨⟨enters10, ok10⟩, ⟨enters12, ok12⟩, ⟨enters13, ok13⟩, ⟨enters22, ok22⟩, ⟨enters23, ok23⟩, ⟨enters24, ok24⟩, ⟨enters16, ok16⟩, ⟨enters17, ok17⟩, ⟨enters18, ok18⟩, ⟨enters19, ok19⟩, ⟨enters25, ok25⟩, ⟨enters26, ok26⟩, trivial⟩ trivial trivial

/-! ## loop.example/g00698/laws.szIntS -/
noncomputable def E81 : Env := { tab := tab, sig := [], clos := [], live := [], eqs := [], inl := [] }
set_option maxRecDepth 100000 in
theorem r81 (N : Nat) (a0 : List Int) (a1 : Int) : runF N E81 Try.f81 [.imm false (.slice 3 (.int .i64)), .imm false (.int .i64)] [.imm false (.int .i64)] (a0, a1, ()) = p_laws_szIntS N a0 a1 := by kernel_rfl
theorem env81 : EnvOk Try.prog E81 := envOk mixed tabOk trivial trivial trivial
noncomputable def s81 : FSpec := ⟨[.imm false (.slice 3 (.int .i64)), .imm false (.int .i64)], [.imm false (.int .i64)], fun x => S_laws_szIntS x.1 x.2.1⟩
theorem ok81 : FOk Try.prog 81 s81 := fn_says env81 Try.func81 rfl fun x y h => ⟨0, (r81 0 x.1 x.2.1).trans h⟩
theorem enters81 : Enters Try.prog 81 := enters Try.func81 (by kernel_rfl) rfl

/-! ## loop.example/g00698/laws.szAttr -/
noncomputable def E169 : Env := { tab := tab, sig := [(81, s81)], clos := [], live := [], eqs := [], inl := [] }
set_option maxRecDepth 100000 in
theorem r169 (N : Nat) (a0 : T6) (a1 : Int) : runF N E169 Try.f169 [.imm true (.pair (.int .i64) (.pair (.slice 3 (.int .i64)) .unit)), .imm false (.int .i64)] [.imm false (.int .i64)] (a0, a1, ()) = p_laws_szAttr N a0 a1 := by kernel_rfl
theorem env169 : EnvOk Try.prog E169 := envOk mixed tabOk ⟨⟨enters81, ok81⟩, trivial⟩ trivial trivial
noncomputable def s169 : FSpec := ⟨[.imm true (.pair (.int .i64) (.pair (.slice 3 (.int .i64)) .unit)), .imm false (.int .i64)], [.imm false (.int .i64)], fun x => S_laws_szAttr x.1 x.2.1⟩
theorem ok169 : FOk Try.prog 169 s169 := fn_says env169 Try.func169 rfl fun x y h => ⟨0, (r169 0 x.1 x.2.1).trans h⟩
theorem enters169 : Enters Try.prog 169 := enters Try.func169 (by kernel_rfl) rfl

end Go.Proofs.Ythijgmbdlkeebaa.Am
