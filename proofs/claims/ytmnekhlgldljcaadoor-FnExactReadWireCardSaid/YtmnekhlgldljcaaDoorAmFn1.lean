/- Functions, as they run on data. No condition. -/
import Derived.Test.YtmnekhlgldljcaaDoorAmFn0
set_option linter.unusedVariables false
set_option maxRecDepth 100000
namespace Go.Proofs.YtmnekhlgldljcaaDoor.Am
open Go.AM Go.AM.P Go.Proofs Go.Shelf
/-! ## loop.example/g00698/impl.twoBytes -/
noncomputable def E104 : Env := { tab := tab, sig := [], clos := [], live := [], eqs := [], inl := [] }
set_option maxRecDepth 100000 in
theorem r104 (N : Nat) (a0 : Int) : runF N E104 Tryd.f104 [.imm false (.int .i64)] [.imm false .str] (a0, ()) = p_impl_twoBytes N a0 := by kernel_rfl
theorem env104 : EnvOk Tryd.prog (fa.at true) E104 := envOk mixed tabOk trivial trivial trivial
noncomputable def s104 : FSpec := ⟨[.imm false (.int .i64)], [.imm false .str], fun x => S_impl_twoBytes x.1, true⟩
theorem ok104 : FOk Tryd.prog fa 104 s104 := fn_says env104 Tryd.func104 rfl fun x y h => ⟨0, (r104 0 x.1).trans h⟩
theorem enters104 : Enters Tryd.prog 104 := enters Tryd.func104 (by kernel_rfl) rfl

/-! ## loop.example/g00698/impl.wireBytes -/
noncomputable def E66 : Env := { tab := tab, sig := [(105, s105), (104, s104)], clos := [], live := [], eqs := [], inl := [] }
set_option maxRecDepth 100000 in
theorem r66 (N : Nat) (a0 : ByteArray) : runF N E66 Tryd.f66 [.imm false .str] [.imm false .str] (a0, ()) = p_impl_wireBytes N a0 := by kernel_rfl
theorem env66 : EnvOk Tryd.prog (fa.at true) E66 := envOk mixed tabOk ⟨⟨enters105, ok105, fun _ => rfl⟩, ⟨enters104, ok104, fun _ => rfl⟩, trivial⟩ trivial trivial
noncomputable def s66 : FSpec := ⟨[.imm false .str], [.imm false .str], fun x => S_impl_wireBytes x.1, true⟩
theorem ok66 : FOk Tryd.prog fa 66 s66 := fn_says env66 Tryd.func66 rfl fun x y h => ⟨0, (r66 0 x.1).trans h⟩
theorem enters66 : Enters Tryd.prog 66 := enters Tryd.func66 (by kernel_rfl) rfl

/-! ## loop.example/g00698/impl.ReadMsgBytes -/
noncomputable def E33 : Env := { tab := tab, sig := [(80, s80), (66, s66)], clos := [], live := [], eqs := [], inl := [] }
set_option maxRecDepth 100000 in
theorem r33 (N : Nat) (a0 : Int) (a1 : ByteArray) : runF N E33 Tryd.f33 [.imm false (.int .i64), .imm false .str] [.deep true (.pair (.int .i64) (.pair (.int .i64) (.pair (.int .i64) (.pair (.int .i64) (.pair (.int .i64) (.pair (.int .i64) (.pair (.int .i64) (.pair (.int .i64) (.pair (.pair (.int .i64) (.pair (.int .i64) (.pair (.int .i64) (.pair (.int .i64) (.pair (.int .i64) .unit))))) (.pair (.pair (.int .i64) (.pair (.slice 3 (.int .i64)) .unit)) .unit)))))))))), .imm false .bool] (a0, a1, ()) = p_impl_ReadMsgBytes N a0 a1 := by kernel_rfl
theorem env33 : EnvOk Tryd.prog (fa.at true) E33 := envOk mixed tabOk ⟨⟨enters80, ok80, fun _ => rfl⟩, ⟨enters66, ok66, fun _ => rfl⟩, trivial⟩ trivial trivial
noncomputable def s33 : FSpec := ⟨[.imm false (.int .i64), .imm false .str], [.deep true (.pair (.int .i64) (.pair (.int .i64) (.pair (.int .i64) (.pair (.int .i64) (.pair (.int .i64) (.pair (.int .i64) (.pair (.int .i64) (.pair (.int .i64) (.pair (.pair (.int .i64) (.pair (.int .i64) (.pair (.int .i64) (.pair (.int .i64) (.pair (.int .i64) .unit))))) (.pair (.pair (.int .i64) (.pair (.slice 3 (.int .i64)) .unit)) .unit)))))))))), .imm false .bool], fun x => S_impl_ReadMsgBytes x.1 x.2.1, true⟩
theorem ok33 : FOk Tryd.prog fa 33 s33 := fn_says env33 Tryd.func33 rfl fun x y h => ⟨0, (r33 0 x.1 x.2.1).trans h⟩
theorem enters33 : Enters Tryd.prog 33 := enters Tryd.func33 (by kernel_rfl) rfl

/-! ## loop.example/g00698/impl.FeedReader -/
noncomputable def E43 : Env := { tab := tab, sig := [(68, s68), (85, s85), (33, s33)], clos := [], live := [(0, [0, 4, 6, 9, 10, 55, 56, 57, 58], [])], eqs := [], inl := [] }
set_option maxRecDepth 100000 in
theorem r43 (N : Nat) (a0 : Int) (a1 : T15) (a2 : ByteArray) : runF N E43 Tryd.f43 [.imm false (.int .i64), .imm true (.pair .str (.pair (.int .i64) .unit)), .imm false .str] [.imm true (.pair .str (.pair (.int .i64) .unit)), .deep false (.slice 34 (.pair (.int .i64) (.pair (.int .i64) (.pair (.int .i64) (.pair (.int .i64) (.pair (.int .i64) (.pair (.int .i64) (.pair (.int .i64) (.pair (.int .i64) (.pair (.pair (.int .i64) (.pair (.int .i64) (.pair (.int .i64) (.pair (.int .i64) (.pair (.int .i64) .unit))))) (.pair (.pair (.int .i64) (.pair (.slice 3 (.int .i64)) .unit)) .unit))))))))))), .imm false .bool] (a0, a1, a2, ()) = p_impl_FeedReader N a0 a1 a2 := by kernel_rfl
theorem env43 : EnvOk Tryd.prog (fa.at true) E43 := envOk mixed tabOk ⟨⟨enters68, ok68, fun _ => rfl⟩, ⟨enters85, ok85, fun _ => rfl⟩, ⟨enters33, ok33, fun _ => rfl⟩, trivial⟩ trivial trivial
noncomputable def s43 : FSpec := ⟨[.imm false (.int .i64), .imm true (.pair .str (.pair (.int .i64) .unit)), .imm false .str], [.imm true (.pair .str (.pair (.int .i64) .unit)), .deep false (.slice 34 (.pair (.int .i64) (.pair (.int .i64) (.pair (.int .i64) (.pair (.int .i64) (.pair (.int .i64) (.pair (.int .i64) (.pair (.int .i64) (.pair (.int .i64) (.pair (.pair (.int .i64) (.pair (.int .i64) (.pair (.int .i64) (.pair (.int .i64) (.pair (.int .i64) .unit))))) (.pair (.pair (.int .i64) (.pair (.slice 3 (.int .i64)) .unit)) .unit))))))))))), .imm false .bool], fun x => S_impl_FeedReader x.1 x.2.1 x.2.2.1, true⟩
theorem ok43 : FOk Tryd.prog fa 43 s43 := fn_says env43 Tryd.func43 rfl fun x y h => let ⟨N, hN⟩ := lim_some h; ⟨N, (r43 N x.1 x.2.1 x.2.2.1).trans hN⟩
theorem enters43 : Enters Tryd.prog 43 := enters Tryd.func43 (by kernel_rfl) rfl

/-! ## loop.example/g00698/impl.ReadWire -/
noncomputable def E37 : Env := { tab := tab, sig := [(43, s43)], clos := [], live := [], eqs := [], inl := [] }
set_option maxRecDepth 100000 in
theorem r37 (N : Nat) (a0 : Int) (a1 : ByteArray) : runF N E37 Tryd.f37 [.imm false (.int .i64), .imm false .str] [.deep false (.slice 34 (.pair (.int .i64) (.pair (.int .i64) (.pair (.int .i64) (.pair (.int .i64) (.pair (.int .i64) (.pair (.int .i64) (.pair (.int .i64) (.pair (.int .i64) (.pair (.pair (.int .i64) (.pair (.int .i64) (.pair (.int .i64) (.pair (.int .i64) (.pair (.int .i64) .unit))))) (.pair (.pair (.int .i64) (.pair (.slice 3 (.int .i64)) .unit)) .unit))))))))))), .imm false (.int .i64), .imm false .bool] (a0, a1, ()) = p_impl_ReadWire N a0 a1 := by kernel_rfl
theorem env37 : EnvOk Tryd.prog (fa.at true) E37 := envOk mixed tabOk ⟨⟨enters43, ok43, fun _ => rfl⟩, trivial⟩ trivial trivial
noncomputable def s37 : FSpec := ⟨[.imm false (.int .i64), .imm false .str], [.deep false (.slice 34 (.pair (.int .i64) (.pair (.int .i64) (.pair (.int .i64) (.pair (.int .i64) (.pair (.int .i64) (.pair (.int .i64) (.pair (.int .i64) (.pair (.int .i64) (.pair (.pair (.int .i64) (.pair (.int .i64) (.pair (.int .i64) (.pair (.int .i64) (.pair (.int .i64) .unit))))) (.pair (.pair (.int .i64) (.pair (.slice 3 (.int .i64)) .unit)) .unit))))))))))), .imm false (.int .i64), .imm false .bool], fun x => S_impl_ReadWire x.1 x.2.1, true⟩
theorem ok37 : FOk Tryd.prog fa 37 s37 := fn_says env37 Tryd.func37 rfl fun x y h => ⟨0, (r37 0 x.1 x.2.1).trans h⟩
theorem enters37 : Enters Tryd.prog 37 := enters Tryd.func37 (by kernel_rfl) rfl

/-! ## loop.example/g00698/laws.eqCmd -/
noncomputable def E51 : Env := { tab := tab, sig := [], clos := [], live := [], eqs := [], inl := [] }
set_option maxRecDepth 100000 in
theorem r51 (N : Nat) (a0 : T2) (a1 : T2) : runF N E51 Tryd.f51 [.imm true (.pair (.int .i64) (.pair (.int .i64) (.pair (.int .i64) (.pair (.int .i64) (.pair (.int .i64) .unit))))), .imm true (.pair (.int .i64) (.pair (.int .i64) (.pair (.int .i64) (.pair (.int .i64) (.pair (.int .i64) .unit)))))] [.imm false .bool] (a0, a1, ()) = p_laws_eqCmd N a0 a1 := by kernel_rfl
theorem env51 : EnvOk Tryd.prog (fa.at true) E51 := envOk mixed tabOk trivial trivial trivial
noncomputable def s51 : FSpec := ⟨[.imm true (.pair (.int .i64) (.pair (.int .i64) (.pair (.int .i64) (.pair (.int .i64) (.pair (.int .i64) .unit))))), .imm true (.pair (.int .i64) (.pair (.int .i64) (.pair (.int .i64) (.pair (.int .i64) (.pair (.int .i64) .unit)))))], [.imm false .bool], fun x => S_laws_eqCmd x.1 x.2.1, true⟩
theorem ok51 : FOk Tryd.prog fa 51 s51 := fn_says env51 Tryd.func51 rfl fun x y h => ⟨0, (r51 0 x.1 x.2.1).trans h⟩
theorem enters51 : Enters Tryd.prog 51 := enters Tryd.func51 (by kernel_rfl) rfl

/-! ## loop.example/g00698/laws.eqIntS -/
noncomputable def E62 : Env := { tab := tab, sig := [], clos := [], live := [(0, [0, 1, 5], [])], eqs := [], inl := [] }
set_option maxRecDepth 100000 in
theorem r62 (N : Nat) (a0 : List Int) (a1 : List Int) : runF N E62 Tryd.f62 [.imm false (.slice 3 (.int .i64)), .imm false (.slice 3 (.int .i64))] [.imm false .bool] (a0, a1, ()) = p_laws_eqIntS N a0 a1 := by kernel_rfl
theorem env62 : EnvOk Tryd.prog (fa.at true) E62 := envOk mixed tabOk trivial trivial trivial
noncomputable def s62 : FSpec := ⟨[.imm false (.slice 3 (.int .i64)), .imm false (.slice 3 (.int .i64))], [.imm false .bool], fun x => S_laws_eqIntS x.1 x.2.1, true⟩
theorem ok62 : FOk Tryd.prog fa 62 s62 := fn_says env62 Tryd.func62 rfl fun x y h => let ⟨N, hN⟩ := lim_some h; ⟨N, (r62 N x.1 x.2.1).trans hN⟩
theorem enters62 : Enters Tryd.prog 62 := enters Tryd.func62 (by kernel_rfl) rfl

/-! ## loop.example/g00698/laws.eqAttr -/
noncomputable def E52 : Env := { tab := tab, sig := [(62, s62)], clos := [], live := [], eqs := [], inl := [] }
set_option maxRecDepth 100000 in
theorem r52 (N : Nat) (a0 : T6) (a1 : T6) : runF N E52 Tryd.f52 [.imm true (.pair (.int .i64) (.pair (.slice 3 (.int .i64)) .unit)), .imm true (.pair (.int .i64) (.pair (.slice 3 (.int .i64)) .unit))] [.imm false .bool] (a0, a1, ()) = p_laws_eqAttr N a0 a1 := by kernel_rfl
theorem env52 : EnvOk Tryd.prog (fa.at true) E52 := envOk mixed tabOk ⟨⟨enters62, ok62, fun _ => rfl⟩, trivial⟩ trivial trivial
noncomputable def s52 : FSpec := ⟨[.imm true (.pair (.int .i64) (.pair (.slice 3 (.int .i64)) .unit)), .imm true (.pair (.int .i64) (.pair (.slice 3 (.int .i64)) .unit))], [.imm false .bool], fun x => S_laws_eqAttr x.1 x.2.1, true⟩
theorem ok52 : FOk Tryd.prog fa 52 s52 := fn_says env52 Tryd.func52 rfl fun x y h => ⟨0, (r52 0 x.1 x.2.1).trans h⟩
theorem enters52 : Enters Tryd.prog 52 := enters Tryd.func52 (by kernel_rfl) rfl

/-! ## loop.example/g00698/laws.eqMsg -/
noncomputable def E15 : Env := { tab := tab, sig := [(51, s51), (52, s52)], clos := [], live := [], eqs := [], inl := [] }
set_option maxRecDepth 100000 in
theorem r15 (N : Nat) (a0 : T11) (a1 : T11) : runF N E15 Tryd.f15 [.imm true (.pair (.int .i64) (.pair (.int .i64) (.pair (.int .i64) (.pair (.int .i64) (.pair (.int .i64) (.pair (.int .i64) (.pair (.int .i64) (.pair (.int .i64) (.pair (.pair (.int .i64) (.pair (.int .i64) (.pair (.int .i64) (.pair (.int .i64) (.pair (.int .i64) .unit))))) (.pair (.pair (.int .i64) (.pair (.slice 3 (.int .i64)) .unit)) .unit)))))))))), .imm true (.pair (.int .i64) (.pair (.int .i64) (.pair (.int .i64) (.pair (.int .i64) (.pair (.int .i64) (.pair (.int .i64) (.pair (.int .i64) (.pair (.int .i64) (.pair (.pair (.int .i64) (.pair (.int .i64) (.pair (.int .i64) (.pair (.int .i64) (.pair (.int .i64) .unit))))) (.pair (.pair (.int .i64) (.pair (.slice 3 (.int .i64)) .unit)) .unit))))))))))] [.imm false .bool] (a0, a1, ()) = p_laws_eqMsg N a0 a1 := by kernel_rfl
theorem env15 : EnvOk Tryd.prog (fa.at true) E15 := envOk mixed tabOk ⟨⟨enters51, ok51, fun _ => rfl⟩, ⟨enters52, ok52, fun _ => rfl⟩, trivial⟩ trivial trivial
noncomputable def s15 : FSpec := ⟨[.imm true (.pair (.int .i64) (.pair (.int .i64) (.pair (.int .i64) (.pair (.int .i64) (.pair (.int .i64) (.pair (.int .i64) (.pair (.int .i64) (.pair (.int .i64) (.pair (.pair (.int .i64) (.pair (.int .i64) (.pair (.int .i64) (.pair (.int .i64) (.pair (.int .i64) .unit))))) (.pair (.pair (.int .i64) (.pair (.slice 3 (.int .i64)) .unit)) .unit)))))))))), .imm true (.pair (.int .i64) (.pair (.int .i64) (.pair (.int .i64) (.pair (.int .i64) (.pair (.int .i64) (.pair (.int .i64) (.pair (.int .i64) (.pair (.int .i64) (.pair (.pair (.int .i64) (.pair (.int .i64) (.pair (.int .i64) (.pair (.int .i64) (.pair (.int .i64) .unit))))) (.pair (.pair (.int .i64) (.pair (.slice 3 (.int .i64)) .unit)) .unit))))))))))], [.imm false .bool], fun x => S_laws_eqMsg x.1 x.2.1, true⟩
theorem ok15 : FOk Tryd.prog fa 15 s15 := fn_says env15 Tryd.func15 rfl fun x y h => ⟨0, (r15 0 x.1 x.2.1).trans h⟩
theorem enters15 : Enters Tryd.prog 15 := enters Tryd.func15 (by kernel_rfl) rfl

/-! ## loop.example/g00698/laws.eqMsgS -/
noncomputable def E27 : Env := { tab := tab, sig := [(15, s15)], clos := [], live := [(0, [0, 1, 5], [])], eqs := [], inl := [] }
set_option maxRecDepth 100000 in
theorem r27 (N : Nat) (a0 : List T11) (a1 : List T11) : runF N E27 Tryd.f27 [.imm false (.slice 34 (.pair (.int .i64) (.pair (.int .i64) (.pair (.int .i64) (.pair (.int .i64) (.pair (.int .i64) (.pair (.int .i64) (.pair (.int .i64) (.pair (.int .i64) (.pair (.pair (.int .i64) (.pair (.int .i64) (.pair (.int .i64) (.pair (.int .i64) (.pair (.int .i64) .unit))))) (.pair (.pair (.int .i64) (.pair (.slice 3 (.int .i64)) .unit)) .unit))))))))))), .imm false (.slice 34 (.pair (.int .i64) (.pair (.int .i64) (.pair (.int .i64) (.pair (.int .i64) (.pair (.int .i64) (.pair (.int .i64) (.pair (.int .i64) (.pair (.int .i64) (.pair (.pair (.int .i64) (.pair (.int .i64) (.pair (.int .i64) (.pair (.int .i64) (.pair (.int .i64) .unit))))) (.pair (.pair (.int .i64) (.pair (.slice 3 (.int .i64)) .unit)) .unit)))))))))))] [.imm false .bool] (a0, a1, ()) = p_laws_eqMsgS N a0 a1 := by kernel_rfl
theorem env27 : EnvOk Tryd.prog (fa.at true) E27 := envOk mixed tabOk ⟨⟨enters15, ok15, fun _ => rfl⟩, trivial⟩ trivial trivial
noncomputable def s27 : FSpec := ⟨[.imm false (.slice 34 (.pair (.int .i64) (.pair (.int .i64) (.pair (.int .i64) (.pair (.int .i64) (.pair (.int .i64) (.pair (.int .i64) (.pair (.int .i64) (.pair (.int .i64) (.pair (.pair (.int .i64) (.pair (.int .i64) (.pair (.int .i64) (.pair (.int .i64) (.pair (.int .i64) .unit))))) (.pair (.pair (.int .i64) (.pair (.slice 3 (.int .i64)) .unit)) .unit))))))))))), .imm false (.slice 34 (.pair (.int .i64) (.pair (.int .i64) (.pair (.int .i64) (.pair (.int .i64) (.pair (.int .i64) (.pair (.int .i64) (.pair (.int .i64) (.pair (.int .i64) (.pair (.pair (.int .i64) (.pair (.int .i64) (.pair (.int .i64) (.pair (.int .i64) (.pair (.int .i64) .unit))))) (.pair (.pair (.int .i64) (.pair (.slice 3 (.int .i64)) .unit)) .unit)))))))))))], [.imm false .bool], fun x => S_laws_eqMsgS x.1 x.2.1, true⟩
theorem ok27 : FOk Tryd.prog fa 27 s27 := fn_says env27 Tryd.func27 rfl fun x y h => let ⟨N, hN⟩ := lim_some h; ⟨N, (r27 N x.1 x.2.1).trans hN⟩
theorem enters27 : Enters Tryd.prog 27 := enters Tryd.func27 (by kernel_rfl) rfl

/-! ## loop.example/g00698/laws.markIntS -/
noncomputable def E76 : Env := { tab := tab, sig := [], clos := [], live := [(0, [0, 1, 5], [])], eqs := [], inl := [] }
set_option maxRecDepth 100000 in
theorem r76 (N : Nat) (a0 : List Int) (a1 : Int) : runF N E76 Tryd.f76 [.mut false (.slice 3 (.int .i64)), .imm false (.int .i64)] [.imm false (.int .i64)] (a0, a1, ()) = p_laws_markIntS N a0 a1 := by kernel_rfl
theorem env76 : EnvOk Tryd.prog (fa.at true) E76 := envOk mixed tabOk trivial trivial trivial
noncomputable def s76 : FSpec := ⟨[.mut false (.slice 3 (.int .i64)), .imm false (.int .i64)], [.imm false (.int .i64)], fun x => S_laws_markIntS x.1 x.2.1, true⟩
theorem ok76 : FOk Tryd.prog fa 76 s76 := fn_says env76 Tryd.func76 rfl fun x y h => let ⟨N, hN⟩ := lim_some h; ⟨N, (r76 N x.1 x.2.1).trans hN⟩
theorem enters76 : Enters Tryd.prog 76 := enters Tryd.func76 (by kernel_rfl) rfl

/-! ## loop.example/g00698/laws.markMsgS -/
noncomputable def E38 : Env := { tab := tab, sig := [(76, s76)], clos := [], live := [(0, [0, 1, 5], [])], eqs := [], inl := [] }
set_option maxRecDepth 100000 in
theorem r38 (N : Nat) (a0 : List T11) (a1 : Int) : runF N E38 Tryd.f38 [.mut false (.slice 34 (.pair (.int .i64) (.pair (.int .i64) (.pair (.int .i64) (.pair (.int .i64) (.pair (.int .i64) (.pair (.int .i64) (.pair (.int .i64) (.pair (.int .i64) (.pair (.pair (.int .i64) (.pair (.int .i64) (.pair (.int .i64) (.pair (.int .i64) (.pair (.int .i64) .unit))))) (.pair (.pair (.int .i64) (.pair (.slice 3 (.int .i64)) .unit)) .unit))))))))))), .imm false (.int .i64)] [.imm false (.int .i64)] (a0, a1, ()) = p_laws_markMsgS N a0 a1 := by kernel_rfl
theorem env38 : EnvOk Tryd.prog (fa.at true) E38 := envOk mixed tabOk ⟨⟨enters76, ok76, fun _ => rfl⟩, trivial⟩ trivial trivial
noncomputable def s38 : FSpec := ⟨[.mut false (.slice 34 (.pair (.int .i64) (.pair (.int .i64) (.pair (.int .i64) (.pair (.int .i64) (.pair (.int .i64) (.pair (.int .i64) (.pair (.int .i64) (.pair (.int .i64) (.pair (.pair (.int .i64) (.pair (.int .i64) (.pair (.int .i64) (.pair (.int .i64) (.pair (.int .i64) .unit))))) (.pair (.pair (.int .i64) (.pair (.slice 3 (.int .i64)) .unit)) .unit))))))))))), .imm false (.int .i64)], [.imm false (.int .i64)], fun x => S_laws_markMsgS x.1 x.2.1, true⟩
theorem ok38 : FOk Tryd.prog fa 38 s38 := fn_says env38 Tryd.func38 rfl fun x y h => let ⟨N, hN⟩ := lim_some h; ⟨N, (r38 N x.1 x.2.1).trans hN⟩
theorem enters38 : Enters Tryd.prog 38 := enters Tryd.func38 (by kernel_rfl) rfl

/-! ## loop.example/g00698/laws.heldIntS -/
noncomputable def E78 : Env := { tab := tab, sig := [], clos := [], live := [(0, [0, 1, 5], [])], eqs := [], inl := [] }
set_option maxRecDepth 100000 in
theorem r78 (N : Nat) (a0 : List Int) (a1 : Int) : runF N E78 Tryd.f78 [.imm false (.slice 3 (.int .i64)), .imm false (.int .i64)] [.imm false (.int .i64)] (a0, a1, ()) = p_laws_heldIntS N a0 a1 := by kernel_rfl
theorem env78 : EnvOk Tryd.prog (fa.at true) E78 := envOk mixed tabOk trivial trivial trivial
noncomputable def s78 : FSpec := ⟨[.imm false (.slice 3 (.int .i64)), .imm false (.int .i64)], [.imm false (.int .i64)], fun x => S_laws_heldIntS x.1 x.2.1, true⟩
theorem ok78 : FOk Tryd.prog fa 78 s78 := fn_says env78 Tryd.func78 rfl fun x y h => let ⟨N, hN⟩ := lim_some h; ⟨N, (r78 N x.1 x.2.1).trans hN⟩
theorem enters78 : Enters Tryd.prog 78 := enters Tryd.func78 (by kernel_rfl) rfl

/-! ## loop.example/g00698/laws.heldMsgS -/
noncomputable def E39 : Env := { tab := tab, sig := [(78, s78)], clos := [], live := [(0, [0, 1, 5], [])], eqs := [], inl := [] }
set_option maxRecDepth 100000 in
theorem r39 (N : Nat) (a0 : List T11) (a1 : Int) : runF N E39 Tryd.f39 [.imm false (.slice 34 (.pair (.int .i64) (.pair (.int .i64) (.pair (.int .i64) (.pair (.int .i64) (.pair (.int .i64) (.pair (.int .i64) (.pair (.int .i64) (.pair (.int .i64) (.pair (.pair (.int .i64) (.pair (.int .i64) (.pair (.int .i64) (.pair (.int .i64) (.pair (.int .i64) .unit))))) (.pair (.pair (.int .i64) (.pair (.slice 3 (.int .i64)) .unit)) .unit))))))))))), .imm false (.int .i64)] [.imm false (.int .i64)] (a0, a1, ()) = p_laws_heldMsgS N a0 a1 := by kernel_rfl
theorem env39 : EnvOk Tryd.prog (fa.at true) E39 := envOk mixed tabOk ⟨⟨enters78, ok78, fun _ => rfl⟩, trivial⟩ trivial trivial
noncomputable def s39 : FSpec := ⟨[.imm false (.slice 34 (.pair (.int .i64) (.pair (.int .i64) (.pair (.int .i64) (.pair (.int .i64) (.pair (.int .i64) (.pair (.int .i64) (.pair (.int .i64) (.pair (.int .i64) (.pair (.pair (.int .i64) (.pair (.int .i64) (.pair (.int .i64) (.pair (.int .i64) (.pair (.int .i64) .unit))))) (.pair (.pair (.int .i64) (.pair (.slice 3 (.int .i64)) .unit)) .unit))))))))))), .imm false (.int .i64)], [.imm false (.int .i64)], fun x => S_laws_heldMsgS x.1 x.2.1, true⟩
theorem ok39 : FOk Tryd.prog fa 39 s39 := fn_says env39 Tryd.func39 rfl fun x y h => let ⟨N, hN⟩ := lim_some h; ⟨N, (r39 N x.1 x.2.1).trans hN⟩
theorem enters39 : Enters Tryd.prog 39 := enters Tryd.func39 (by kernel_rfl) rfl

/-! ## loop.example/g00698/laws.FnExactReadWire -/
noncomputable def E9 : Env := { tab := tab, sig := [(36, s36), (37, s37), (27, s27), (38, s38), (39, s39)], clos := [], live := [], eqs := [], inl := [] }
set_option maxRecDepth 100000 in
theorem r9 (N : Nat) (a0 : Int) (a1 : ByteArray) : runF N E9 Tryd.f9 [.imm false (.int .i64), .imm false .str] [.imm false .bool] (a0, a1, ()) = p_laws_FnExactReadWire N a0 a1 := by kernel_rfl
theorem env9 : EnvOk Tryd.prog (fa.at true) E9 := envOk mixed tabOk ⟨⟨enters36, ok36, fun _ => rfl⟩, ⟨enters37, ok37, fun _ => rfl⟩, ⟨enters27, ok27, fun _ => rfl⟩, ⟨enters38, ok38, fun _ => rfl⟩, ⟨enters39, ok39, fun _ => rfl⟩, trivial⟩ trivial trivial

end Go.Proofs.YtmnekhlgldljcaaDoor.Am
