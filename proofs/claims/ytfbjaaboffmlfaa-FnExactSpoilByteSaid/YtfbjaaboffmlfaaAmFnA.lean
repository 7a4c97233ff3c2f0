/- Functions, as they run on data. No condition. -/
import Derived.Test.YtfbjaaboffmlfaaAmTab
set_option linter.unusedVariables false
set_option maxRecDepth 100000
namespace Go.Proofs.Ytfbjaaboffmlfaa.Am
open Go.AM Go.Proofs
/-! ## loop.example/g00698/spec.l1In -/
noncomputable def E42 : Env := { tab := tab, sig := [], clos := [], live := [], eqs := [] }
noncomputable def p42 (N : Nat) (a0 : Int) (a1 : Int) (a2 : Int) : Option ((Bool × Unit) × Unit) :=
  (if (decide (a0 ≥ a1)) then (some (((decide (a0 ≤ a2)), ()), ())) else (some ((false, ()), ())))
set_option maxRecDepth 100000 in
theorem r42 (N : Nat) (a0 : Int) (a1 : Int) (a2 : Int) : runF N E42 Try.f42 [.imm false (.int .i64), .imm false (.int .i64), .imm false (.int .i64)] [.imm false .bool] (a0, a1, a2, ()) = p42 N a0 a1 a2 := by kernel_rfl
theorem env42 : EnvOk Try.prog E42 := envOk mixed tabOk trivial trivial trivial
noncomputable def s42 : FSpec := ⟨[.imm false (.int .i64), .imm false (.int .i64), .imm false (.int .i64)], [.imm false .bool], fun x => p42 0 x.1 x.2.1 x.2.2.1⟩
theorem ok42 : FOk Try.prog 42 s42 := fn_says env42 Try.func42 rfl rfl fun x y h => ⟨0, (r42 0 x.1 x.2.1 x.2.2.1).trans h⟩
theorem enters42 : Enters Try.prog 42 := enters Try.func42 (by kernel_rfl) rfl

/-! ## loop.example/g00698/impl.within -/
noncomputable def E43 : Env := { tab := tab, sig := [], clos := [], live := [], eqs := [] }
noncomputable def p43 (N : Nat) (a0 : Int) (a1 : Int) (a2 : Int) : Option ((Bool × Unit) × Unit) :=
  (if (decide (a1 ≤ a0)) then (some (((decide (a0 ≤ a2)), ()), ())) else (some ((false, ()), ())))
set_option maxRecDepth 100000 in
theorem r43 (N : Nat) (a0 : Int) (a1 : Int) (a2 : Int) : runF N E43 Try.f43 [.imm false (.int .i64), .imm false (.int .i64), .imm false (.int .i64)] [.imm false .bool] (a0, a1, a2, ()) = p43 N a0 a1 a2 := by kernel_rfl
theorem env43 : EnvOk Try.prog E43 := envOk mixed tabOk trivial trivial trivial
noncomputable def s43 : FSpec := ⟨[.imm false (.int .i64), .imm false (.int .i64), .imm false (.int .i64)], [.imm false .bool], fun x => p43 0 x.1 x.2.1 x.2.2.1⟩
theorem ok43 : FOk Try.prog 43 s43 := fn_says env43 Try.func43 rfl rfl fun x y h => ⟨0, (r43 0 x.1 x.2.1 x.2.2.1).trans h⟩
theorem enters43 : Enters Try.prog 43 := enters Try.func43 (by kernel_rfl) rfl

/-! ## loop.example/g00698/spec.SpoilByte -/
noncomputable def E11 : Env := { tab := tab, sig := [(42, s42)], clos := [], live := [], eqs := [] }
noncomputable def p11 (N : Nat) (a0 : ByteArray) (a1 : Int) (a2 : Int) : Option ((ByteArray × Bool × Unit) × Unit) :=
  (if (decide ((a0.size : Int) > (4000 : Int))) then (some (((⟨#[]⟩ : ByteArray), false, ()), ())) else ((p42 0 a1 (0 : Int) (IntKind.i64.wrap ((a0.size : Int) - (1 : Int)))).bind fun y1 => (if (!y1.1.1) then (some (((⟨#[]⟩ : ByteArray), false, ()), ())) else ((p42 0 a2 (0 : Int) (255 : Int)).bind fun y2 => (if (!y2.1.1) then (some (((⟨#[]⟩ : ByteArray), false, ()), ())) else (if (decide (0 ≤ a1)) then (if (decide (a1 ≤ a0.size)) then (if (decide (0 ≤ (0 : Int))) then (if (decide ((0 : Int) ≤ a1)) then (if (decide ((a0.extract (0 : Int).toNat a1.toNat).size + (strOf ([(IntKind.u8.wrap a2)] : List Int)).size ≤ 9223372036854775807)) then (if (decide (0 ≤ (a0.size : Int))) then (if (decide ((a0.size : Int) ≤ a0.size)) then (if (decide (0 ≤ (IntKind.i64.wrap (a1 + (1 : Int))))) then (if (decide ((IntKind.i64.wrap (a1 + (1 : Int))) ≤ (a0.size : Int))) then (if (decide (((a0.extract (0 : Int).toNat a1.toNat) ++ (strOf ([(IntKind.u8.wrap a2)] : List Int))).size + (a0.extract (IntKind.i64.wrap (a1 + (1 : Int))).toNat (a0.size : Int).toNat).size ≤ 9223372036854775807)) then (some (((((a0.extract (0 : Int).toNat a1.toNat) ++ (strOf ([(IntKind.u8.wrap a2)] : List Int))) ++ (a0.extract (IntKind.i64.wrap (a1 + (1 : Int))).toNat (a0.size : Int).toNat)), true, ()), ())) else none) else none) else none) else none) else none) else none) else none) else none) else none) else none))))))
set_option maxRecDepth 100000 in
theorem r11 (N : Nat) (a0 : ByteArray) (a1 : Int) (a2 : Int) : runF N E11 Try.f11 [.imm false .str, .imm false (.int .i64), .imm false (.int .i64)] [.imm false .str, .imm false .bool] (a0, a1, a2, ()) = p11 N a0 a1 a2 := by kernel_rfl
theorem env11 : EnvOk Try.prog E11 := envOk mixed tabOk ⟨⟨enters42, ok42⟩, trivial⟩ trivial trivial
noncomputable def s11 : FSpec := ⟨[.imm false .str, .imm false (.int .i64), .imm false (.int .i64)], [.imm false .str, .imm false .bool], fun x => p11 0 x.1 x.2.1 x.2.2.1⟩
theorem ok11 : FOk Try.prog 11 s11 := fn_says env11 Try.func11 rfl rfl fun x y h => ⟨0, (r11 0 x.1 x.2.1 x.2.2.1).trans h⟩
theorem enters11 : Enters Try.prog 11 := enters Try.func11 (by kernel_rfl) rfl

/-! ## loop.example/g00698/impl.SpoilByte -/
noncomputable def E12 : Env := { tab := tab, sig := [(43, s43)], clos := [], live := [], eqs := [] }
noncomputable def p12 (N : Nat) (a0 : ByteArray) (a1 : Int) (a2 : Int) : Option ((ByteArray × Bool × Unit) × Unit) :=
  (if (decide ((a0.size : Int) > (4000 : Int))) then (some (((⟨#[]⟩ : ByteArray), false, ()), ())) else ((p43 0 a1 (0 : Int) (IntKind.i64.wrap ((a0.size : Int) - (1 : Int)))).bind fun y1 => (if (!y1.1.1) then (some (((⟨#[]⟩ : ByteArray), false, ()), ())) else ((p43 0 a2 (0 : Int) (255 : Int)).bind fun y2 => (if (!y2.1.1) then (some (((⟨#[]⟩ : ByteArray), false, ()), ())) else (if (decide (0 ≤ a1)) then (if (decide (a1 ≤ a0.size)) then (if (decide (0 ≤ (0 : Int))) then (if (decide ((0 : Int) ≤ a1)) then (if (decide ((a0.extract (0 : Int).toNat a1.toNat).size + (strOf ([(IntKind.u8.wrap a2)] : List Int)).size ≤ 9223372036854775807)) then (if (decide (0 ≤ (a0.size : Int))) then (if (decide ((a0.size : Int) ≤ a0.size)) then (if (decide (0 ≤ (IntKind.i64.wrap (a1 + (1 : Int))))) then (if (decide ((IntKind.i64.wrap (a1 + (1 : Int))) ≤ (a0.size : Int))) then (if (decide (((a0.extract (0 : Int).toNat a1.toNat) ++ (strOf ([(IntKind.u8.wrap a2)] : List Int))).size + (a0.extract (IntKind.i64.wrap (a1 + (1 : Int))).toNat (a0.size : Int).toNat).size ≤ 9223372036854775807)) then (some (((((a0.extract (0 : Int).toNat a1.toNat) ++ (strOf ([(IntKind.u8.wrap a2)] : List Int))) ++ (a0.extract (IntKind.i64.wrap (a1 + (1 : Int))).toNat (a0.size : Int).toNat)), true, ()), ())) else none) else none) else none) else none) else none) else none) else none) else none) else none) else none))))))
set_option maxRecDepth 100000 in
theorem r12 (N : Nat) (a0 : ByteArray) (a1 : Int) (a2 : Int) : runF N E12 Try.f12 [.imm false .str, .imm false (.int .i64), .imm false (.int .i64)] [.imm false .str, .imm false .bool] (a0, a1, a2, ()) = p12 N a0 a1 a2 := by kernel_rfl
theorem env12 : EnvOk Try.prog E12 := envOk mixed tabOk ⟨⟨enters43, ok43⟩, trivial⟩ trivial trivial
noncomputable def s12 : FSpec := ⟨[.imm false .str, .imm false (.int .i64), .imm false (.int .i64)], [.imm false .str, .imm false .bool], fun x => p12 0 x.1 x.2.1 x.2.2.1⟩
theorem ok12 : FOk Try.prog 12 s12 := fn_says env12 Try.func12 rfl rfl fun x y h => ⟨0, (r12 0 x.1 x.2.1 x.2.2.1).trans h⟩
theorem enters12 : Enters Try.prog 12 := enters Try.func12 (by kernel_rfl) rfl

/-! ## loop.example/g00698/laws.FnExactSpoilByte -/
noncomputable def E3 : Env := { tab := tab, sig := [(11, s11), (12, s12)], clos := [], live := [], eqs := [] }
noncomputable def p3 (N : Nat) (a0 : ByteArray) (a1 : Int) (a2 : Int) : Option ((Bool × Unit) × Unit) :=
  (if (decide ((a0.size : Int) > (1048576 : Int))) then (some ((true, ()), ())) else ((p11 0 a0 a1 a2).bind fun y1 => ((p12 0 a0 a1 a2).bind fun y2 => (if (!(y2.1.1.toList == y1.1.1.toList)) then (some ((false, ()), ())) else (if (y2.1.2.1 != y1.1.2.1) then (some ((false, ()), ())) else (some ((true, ()), ())))))))
set_option maxRecDepth 100000 in
theorem r3 (N : Nat) (a0 : ByteArray) (a1 : Int) (a2 : Int) : runF N E3 Try.f3 [.imm false .str, .imm false (.int .i64), .imm false (.int .i64)] [.imm false .bool] (a0, a1, a2, ()) = p3 N a0 a1 a2 := by kernel_rfl
theorem env3 : EnvOk Try.prog E3 := envOk mixed tabOk ⟨⟨enters11, ok11⟩, ⟨enters12, ok12⟩, trivial⟩ trivial trivial
end Go.Proofs.Ytfbjaaboffmlfaa.Am
