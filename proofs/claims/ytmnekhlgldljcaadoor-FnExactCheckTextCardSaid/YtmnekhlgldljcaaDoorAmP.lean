/- What functions do to data, in plain words. No condition. -/
import Derived.Test.YtmnekhlgldljcaaDoorAmLib
set_option linter.unusedVariables false
set_option maxRecDepth 100000
namespace Go.AM.P
open Go.AM
abbrev T0 : Type := Int × Int × List (List Int) × List Int × Unit
def Z0 : T0 := ((0 : Int), (0 : Int), ([] : List (List Int)), ([] : List Int), ())
abbrev T1 : Type := List (List Int) × List Int × Unit
def Z1 : T1 := (([] : List (List Int)), ([] : List Int), ())
abbrev T2 : Type := Int × Int × Int × Int × Int × Unit
def Z2 : T2 := ((0 : Int), (0 : Int), (0 : Int), (0 : Int), (0 : Int), ())
abbrev T3 : Type := Int × Int × Unit
def Z3 : T3 := ((0 : Int), (0 : Int), ())
abbrev T4 : Type := Int × Int × T2 × T3 × Unit
def Z4 : T4 := ((0 : Int), (0 : Int), ((0 : Int), (0 : Int), (0 : Int), (0 : Int), (0 : Int), ()), ((0 : Int), (0 : Int), ()), ())
abbrev T5 : Type := Int × Int × T3 × Unit
def Z5 : T5 := ((0 : Int), (0 : Int), ((0 : Int), (0 : Int), ()), ())
abbrev T6 : Type := Int × List Int × Unit
def Z6 : T6 := ((0 : Int), ([] : List Int), ())
abbrev T7 : Type := Int × Int × Int × T2 × T6 × Unit
def Z7 : T7 := ((0 : Int), (0 : Int), (0 : Int), ((0 : Int), (0 : Int), (0 : Int), (0 : Int), (0 : Int), ()), ((0 : Int), ([] : List Int), ()), ())
abbrev T8 : Type := Int × List (List T7) × Unit
def Z8 : T8 := ((0 : Int), ([] : List (List T7)), ())
abbrev T9 : Type := Int × Int × Int × Int × T2 × T6 × T6 × Bool × List Int × List T7 × Unit
def Z9 : T9 := ((0 : Int), (0 : Int), (0 : Int), (0 : Int), ((0 : Int), (0 : Int), (0 : Int), (0 : Int), (0 : Int), ()), ((0 : Int), ([] : List Int), ()), ((0 : Int), ([] : List Int), ()), false, ([] : List Int), ([] : List T7), ())
abbrev T10 : Type := Int × T8 × List T9 × Unit
def Z10 : T10 := ((0 : Int), ((0 : Int), ([] : List (List T7)), ()), ([] : List T9), ())
abbrev T11 : Type := Int × Int × Int × Int × Int × Int × Int × Int × T2 × T6 × Unit
def Z11 : T11 := ((0 : Int), (0 : Int), (0 : Int), (0 : Int), (0 : Int), (0 : Int), (0 : Int), (0 : Int), ((0 : Int), (0 : Int), (0 : Int), (0 : Int), (0 : Int), ()), ((0 : Int), ([] : List Int), ()), ())
abbrev T12 : Type := Int × Int × T2 × Unit
def Z12 : T12 := ((0 : Int), (0 : Int), ((0 : Int), (0 : Int), (0 : Int), (0 : Int), (0 : Int), ()), ())
abbrev T13 : Type := List T10 × List T11 × List T12 × Unit
def Z13 : T13 := (([] : List T10), ([] : List T11), ([] : List T12), ())
abbrev T14 : Type := List Int × Int × Int × Unit
def Z14 : T14 := (([] : List Int), (0 : Int), (0 : Int), ())
abbrev T15 : Type := ByteArray × Int × Unit
def Z15 : T15 := ((⟨#[]⟩ : ByteArray), (0 : Int), ())
noncomputable def p_spec_IsGroup (N : Nat) (a0 : Int) : Option ((Bool × Unit) × (Unit)) :=
  (if (a0 == (3 : Int)) then (some ((true, ()), ())) else (some (((a0 == (5 : Int)), ()), ())))
noncomputable def S_spec_IsGroup (a0 : Int) : Option ((Bool × Unit) × (Unit)) := p_spec_IsGroup 0 a0

noncomputable def p_spec_l1In (N : Nat) (a0 : Int) (a1 : Int) (a2 : Int) : Option ((Bool × Unit) × (Unit)) :=
  (if (decide (a0 ≥ a1)) then (some (((decide (a0 ≤ a2)), ()), ())) else (some ((false, ()), ())))
noncomputable def S_spec_l1In (a0 : Int) (a1 : Int) (a2 : Int) : Option ((Bool × Unit) × (Unit)) := p_spec_l1In 0 a0 a1 a2

noncomputable def p_impl_IsGroup (N : Nat) (a0 : Int) : Option ((Bool × Unit) × (Unit)) :=
  (if (a0 == (3 : Int)) then (some ((true, ()), ())) else (some (((a0 == (5 : Int)), ()), ())))
noncomputable def S_impl_IsGroup (a0 : Int) : Option ((Bool × Unit) × (Unit)) := p_impl_IsGroup 0 a0

noncomputable def p_impl_within (N : Nat) (a0 : Int) (a1 : Int) (a2 : Int) : Option ((Bool × Unit) × (Unit)) :=
  (if (decide (a1 ≤ a0)) then (some (((decide (a0 ≤ a2)), ()), ())) else (some ((false, ()), ())))
noncomputable def S_impl_within (a0 : Int) (a1 : Int) (a2 : Int) : Option ((Bool × Unit) × (Unit)) := p_impl_within 0 a0 a1 a2

noncomputable def p_laws_eqIntS (N : Nat) (a0 : List Int) (a1 : List Int) : Option ((Bool × Unit) × (Unit)) :=
  (if ((a0.length : Int) != (a1.length : Int)) then (some ((false, ()), ())) else (loopN N (fun rec1 (d2 : (List Int × List Int × Int × Unit) × (Unit)) => (if (decide (d2.1.2.2.1 < (d2.1.1.length : Int))) then (if (decide (0 ≤ d2.1.2.2.1)) then (if (decide (d2.1.2.2.1 < d2.1.1.length)) then (if (decide (0 ≤ d2.1.2.2.1)) then (if (decide (d2.1.2.2.1 < d2.1.2.1.length)) then (if ((rd d2.1.1 d2.1.2.2.1 (0 : Int)) != (rd d2.1.2.1 d2.1.2.2.1 (0 : Int))) then (some ((false, ()), ())) else (rec1 ((d2.1.1, d2.1.2.1, (IntKind.i64.wrap (d2.1.2.2.1 + (1 : Int))), ()), (())))) else none) else none) else none) else none) else (some ((true, ()), ())))) ((a0, a1, (0 : Int), ()), (()))))
noncomputable def S_laws_eqIntS (a0 : List Int) (a1 : List Int) : Option ((Bool × Unit) × (Unit)) := lim fun N => p_laws_eqIntS N a0 a1

noncomputable def p_laws_eqIntSS (N : Nat) (a0 : List (List Int)) (a1 : List (List Int)) : Option ((Bool × Unit) × (Unit)) :=
  (if ((a0.length : Int) != (a1.length : Int)) then (some ((false, ()), ())) else (loopN N (fun rec1 (d2 : (List (List Int) × List (List Int) × Int × Unit) × (Unit)) => (if (decide (d2.1.2.2.1 < (d2.1.1.length : Int))) then (if (decide (0 ≤ d2.1.2.2.1)) then (if (decide (d2.1.2.2.1 < d2.1.1.length)) then (if (decide (0 ≤ d2.1.2.2.1)) then (if (decide (d2.1.2.2.1 < d2.1.2.1.length)) then ((S_laws_eqIntS (rd d2.1.1 d2.1.2.2.1 ([] : List Int)) (rd d2.1.2.1 d2.1.2.2.1 ([] : List Int))).bind fun y3 => (if (!y3.1.1) then (some ((false, ()), ())) else (rec1 ((d2.1.1, d2.1.2.1, (IntKind.i64.wrap (d2.1.2.2.1 + (1 : Int))), ()), (()))))) else none) else none) else none) else none) else (some ((true, ()), ())))) ((a0, a1, (0 : Int), ()), (()))))
noncomputable def S_laws_eqIntSS (a0 : List (List Int)) (a1 : List (List Int)) : Option ((Bool × Unit) × (Unit)) := lim fun N => p_laws_eqIntSS N a0 a1

noncomputable def p_laws_szIntS (N : Nat) (a0 : List Int) (a1 : Int) : Option ((Int × Unit) × (Unit)) :=
  (if (decide ((IntKind.i64.wrap (a1 - (a0.length : Int))) < (0 : Int))) then (some (((-1 : Int), ()), ())) else (some (((IntKind.i64.wrap (a1 - (a0.length : Int))), ()), ())))
noncomputable def S_laws_szIntS (a0 : List Int) (a1 : Int) : Option ((Int × Unit) × (Unit)) := p_laws_szIntS 0 a0 a1

noncomputable def p_laws_szIntSS (N : Nat) (a0 : List (List Int)) (a1 : Int) : Option ((Int × Unit) × (Unit)) :=
  (if (decide ((IntKind.i64.wrap (a1 - (a0.length : Int))) < (0 : Int))) then (some (((-1 : Int), ()), ())) else (loopN N (fun rec1 (d2 : (List (List Int) × Int × Int × Unit) × (Unit)) => (if (decide (d2.1.2.2.1 < (d2.1.1.length : Int))) then (if (decide (0 ≤ d2.1.2.2.1)) then (if (decide (d2.1.2.2.1 < d2.1.1.length)) then ((S_laws_szIntS (rd d2.1.1 d2.1.2.2.1 ([] : List Int)) d2.1.2.1).bind fun y3 => (if (decide (y3.1.1 < (0 : Int))) then (some (((-1 : Int), ()), ())) else (rec1 ((d2.1.1, y3.1.1, (IntKind.i64.wrap (d2.1.2.2.1 + (1 : Int))), ()), (()))))) else none) else none) else (some ((d2.1.2.1, ()), ())))) ((a0, (IntKind.i64.wrap (a1 - (a0.length : Int))), (0 : Int), ()), (()))))
noncomputable def S_laws_szIntSS (a0 : List (List Int)) (a1 : Int) : Option ((Int × Unit) × (Unit)) := lim fun N => p_laws_szIntSS N a0 a1

noncomputable def p_laws_toIntS (N : Nat) (a0 : List Int) : Option ((List Int × Unit) × (Unit)) :=
  (if (decide ((0 : Int) ≤ (a0.length : Int))) then (if ((a0.length : Int) == (a0.length : Int)) then (if (decide ((a0.length : Int) * 8 ≤ 140737488355328)) then (loopN N (fun rec1 (d2 : (List Int × Int × Unit) × (List Int × List Int × Unit)) => (if (decide (d2.1.2.1 < (d2.1.1.length : Int))) then (if (decide (0 ≤ d2.1.2.1)) then (if (decide (d2.1.2.1 < d2.1.1.length)) then (if (decide (0 ≤ d2.1.2.1)) then (if (decide (d2.1.2.1 < d2.2.2.1.length)) then (rec1 ((d2.1.1, (IntKind.i64.wrap (d2.1.2.1 + (1 : Int))), ()), (d2.2.1, (d2.2.2.1.set d2.1.2.1.toNat (rd d2.1.1 d2.1.2.1 (0 : Int))), ()))) else none) else none) else none) else none) else (some ((d2.2.2.1, ()), ())))) ((a0, (0 : Int), ()), (([] : List Int), (List.replicate (a0.length : Int).toNat (0 : Int)), ()))) else none) else none) else none)
noncomputable def S_laws_toIntS (a0 : List Int) : Option ((List Int × Unit) × (Unit)) := lim fun N => p_laws_toIntS N a0

noncomputable def p_laws_toIntSS (N : Nat) (a0 : List (List Int)) : Option ((List (List Int) × Unit) × (Unit)) :=
  (if (decide ((0 : Int) ≤ (a0.length : Int))) then (if ((a0.length : Int) == (a0.length : Int)) then (if (decide ((a0.length : Int) * 24 ≤ 140737488355328)) then (loopN N (fun rec1 (d2 : (List (List Int) × Int × Unit) × (List (List Int) × List (List Int) × Unit)) => (if (decide (d2.1.2.1 < (d2.1.1.length : Int))) then (if (decide (0 ≤ d2.1.2.1)) then (if (decide (d2.1.2.1 < d2.1.1.length)) then ((S_laws_toIntS (rd d2.1.1 d2.1.2.1 ([] : List Int))).bind fun y3 => (if (decide (0 ≤ d2.1.2.1)) then (if (decide (d2.1.2.1 < d2.2.2.1.length)) then (rec1 ((d2.1.1, (IntKind.i64.wrap (d2.1.2.1 + (1 : Int))), ()), (d2.2.1, (d2.2.2.1.set d2.1.2.1.toNat y3.1.1), ()))) else none) else none)) else none) else none) else (some ((d2.2.2.1, ()), ())))) ((a0, (0 : Int), ()), (([] : List (List Int)), (List.replicate (a0.length : Int).toNat ([] : List Int)), ()))) else none) else none) else none)
noncomputable def S_laws_toIntSS (a0 : List (List Int)) : Option ((List (List Int) × Unit) × (Unit)) := lim fun N => p_laws_toIntSS N a0

noncomputable def p_IndexFunc_Lint_int (N : Nat) (a0 : List Int) (a1 : (Int × Unit) → Option Bool) : Option ((Int × Unit) × (Unit)) :=
  (loopN N (fun rec1 (d2 : (List Int × ((Int × Unit) → Option Bool) × Int × Int × Unit) × (Unit)) => (if (decide (d2.1.2.2.2.1 < d2.1.2.2.1)) then (if (decide (0 ≤ d2.1.2.2.2.1)) then (if (decide (d2.1.2.2.2.1 < d2.1.1.length)) then ((d2.1.2.1 ((rd d2.1.1 d2.1.2.2.2.1 (0 : Int)), ())).bind fun y3 => (if y3 then (some ((d2.1.2.2.2.1, ()), ())) else (rec1 ((d2.1.1, d2.1.2.1, d2.1.2.2.1, (IntKind.i64.wrap (d2.1.2.2.2.1 + (1 : Int))), ()), (()))))) else none) else none) else (some (((-1 : Int), ()), ())))) ((a0, a1, (a0.length : Int), (0 : Int), ()), (())))
noncomputable def S_IndexFunc_Lint_int (a0 : List Int) (a1 : (Int × Unit) → Option Bool) : Option ((Int × Unit) × (Unit)) := lim fun N => p_IndexFunc_Lint_int N a0 a1

noncomputable def p_ContainsFunc_Lint_int (N : Nat) (a0 : List Int) (a1 : (Int × Unit) → Option Bool) : Option ((Bool × Unit) × (Unit)) :=
  ((S_IndexFunc_Lint_int a0 a1).bind fun y1 => (some (((decide (y1.1.1 ≥ (0 : Int))), ()), ())))
noncomputable def S_ContainsFunc_Lint_int (a0 : List Int) (a1 : (Int × Unit) → Option Bool) : Option ((Bool × Unit) × (Unit)) := p_ContainsFunc_Lint_int 0 a0 a1

noncomputable def p_spec_l3Inst (N : Nat) (a0 : Int) (a1 : Int) (a2 : Int) : Option ((Bool × Unit) × (Unit)) :=
  ((S_spec_l1In a1 (0 : Int) (IntKind.i64.wrap (a0 - (1 : Int)))).bind fun y1 => (if y1.1.1 then ((S_spec_l1In a2 (1 : Int) (6 : Int)).bind fun y2 => (some ((y2.1.1, ()), ()))) else (some ((false, ()), ()))))
noncomputable def S_spec_l3Inst (a0 : Int) (a1 : Int) (a2 : Int) : Option ((Bool × Unit) × (Unit)) := p_spec_l3Inst 0 a0 a1 a2

noncomputable def p_spec_l18Done (N : Nat) (a0 : Int) (a1 : List (List Int)) : Option ((Bool × Unit) × (Unit)) :=
  (loopN N (fun rec1 (d2 : (Int × List (List Int) × List (List Int) × Int × Int × Unit) × (Unit)) => (if (decide (d2.1.2.2.2.2.1 < d2.1.2.2.2.1)) then (if (decide (0 ≤ d2.1.2.2.2.2.1)) then (if (decide (d2.1.2.2.2.2.1 < d2.1.2.2.1.length)) then (if (((rd d2.1.2.2.1 d2.1.2.2.2.2.1 ([] : List Int)).length : Int) != (2 : Int)) then (some ((false, ()), ())) else (if (decide (0 ≤ (0 : Int))) then (if (decide ((0 : Int) < (rd d2.1.2.2.1 d2.1.2.2.2.2.1 ([] : List Int)).length)) then (if (decide (0 ≤ (1 : Int))) then (if (decide ((1 : Int) < (rd d2.1.2.2.1 d2.1.2.2.2.2.1 ([] : List Int)).length)) then ((S_spec_l3Inst d2.1.1 (rd (rd d2.1.2.2.1 d2.1.2.2.2.2.1 ([] : List Int)) (0 : Int) (0 : Int)) (rd (rd d2.1.2.2.1 d2.1.2.2.2.2.1 ([] : List Int)) (1 : Int) (0 : Int))).bind fun y3 => (if (!y3.1.1) then (some ((false, ()), ())) else (if (decide (d2.1.2.2.2.2.1 > (0 : Int))) then (if (decide (0 ≤ (IntKind.i64.wrap (d2.1.2.2.2.2.1 - (1 : Int))))) then (if (decide ((IntKind.i64.wrap (d2.1.2.2.2.2.1 - (1 : Int))) < d2.1.2.1.length)) then (if (decide (0 ≤ (0 : Int))) then (if (decide ((0 : Int) < (rd d2.1.2.1 (IntKind.i64.wrap (d2.1.2.2.2.2.1 - (1 : Int))) ([] : List Int)).length)) then (if (decide (0 ≤ (0 : Int))) then (if (decide ((0 : Int) < (rd d2.1.2.2.1 d2.1.2.2.2.2.1 ([] : List Int)).length)) then (if (decide ((rd (rd d2.1.2.1 (IntKind.i64.wrap (d2.1.2.2.2.2.1 - (1 : Int))) ([] : List Int)) (0 : Int) (0 : Int)) > (rd (rd d2.1.2.2.1 d2.1.2.2.2.2.1 ([] : List Int)) (0 : Int) (0 : Int)))) then (some ((false, ()), ())) else (if (decide (0 ≤ (IntKind.i64.wrap (d2.1.2.2.2.2.1 - (1 : Int))))) then (if (decide ((IntKind.i64.wrap (d2.1.2.2.2.2.1 - (1 : Int))) < d2.1.2.1.length)) then (if (decide (0 ≤ (0 : Int))) then (if (decide ((0 : Int) < (rd d2.1.2.1 (IntKind.i64.wrap (d2.1.2.2.2.2.1 - (1 : Int))) ([] : List Int)).length)) then (if (decide (0 ≤ (0 : Int))) then (if (decide ((0 : Int) < (rd d2.1.2.2.1 d2.1.2.2.2.2.1 ([] : List Int)).length)) then (if ((rd (rd d2.1.2.1 (IntKind.i64.wrap (d2.1.2.2.2.2.1 - (1 : Int))) ([] : List Int)) (0 : Int) (0 : Int)) == (rd (rd d2.1.2.2.1 d2.1.2.2.2.2.1 ([] : List Int)) (0 : Int) (0 : Int))) then (if (decide (0 ≤ (IntKind.i64.wrap (d2.1.2.2.2.2.1 - (1 : Int))))) then (if (decide ((IntKind.i64.wrap (d2.1.2.2.2.2.1 - (1 : Int))) < d2.1.2.1.length)) then (if (decide (0 ≤ (1 : Int))) then (if (decide ((1 : Int) < (rd d2.1.2.1 (IntKind.i64.wrap (d2.1.2.2.2.2.1 - (1 : Int))) ([] : List Int)).length)) then (if (decide (0 ≤ (1 : Int))) then (if (decide ((1 : Int) < (rd d2.1.2.2.1 d2.1.2.2.2.2.1 ([] : List Int)).length)) then (if (decide ((rd (rd d2.1.2.1 (IntKind.i64.wrap (d2.1.2.2.2.2.1 - (1 : Int))) ([] : List Int)) (1 : Int) (0 : Int)) ≥ (rd (rd d2.1.2.2.1 d2.1.2.2.2.2.1 ([] : List Int)) (1 : Int) (0 : Int)))) then (some ((false, ()), ())) else (rec1 ((d2.1.1, d2.1.2.1, d2.1.2.2.1, d2.1.2.2.2.1, (IntKind.i64.wrap (d2.1.2.2.2.2.1 + (1 : Int))), ()), (())))) else none) else none) else none) else none) else none) else none) else (rec1 ((d2.1.1, d2.1.2.1, d2.1.2.2.1, d2.1.2.2.2.1, (IntKind.i64.wrap (d2.1.2.2.2.2.1 + (1 : Int))), ()), (())))) else none) else none) else none) else none) else none) else none)) else none) else none) else none) else none) else none) else none) else (rec1 ((d2.1.1, d2.1.2.1, d2.1.2.2.1, d2.1.2.2.2.1, (IntKind.i64.wrap (d2.1.2.2.2.2.1 + (1 : Int))), ()), (())))))) else none) else none) else none) else none)) else none) else none) else (some ((true, ()), ())))) ((a0, a1, a1, (a1.length : Int), (0 : Int), ()), (())))
noncomputable def S_spec_l18Done (a0 : Int) (a1 : List (List Int)) : Option ((Bool × Unit) × (Unit)) := lim fun N => p_spec_l18Done N a0 a1

noncomputable def p_impl_isInstance (N : Nat) (a0 : Int) (a1 : Int) (a2 : Int) : Option ((Bool × Unit) × (Unit)) :=
  ((S_impl_IsGroup a0).bind fun y1 => (if y1.1.1 then ((S_impl_within a1 (0 : Int) (IntKind.i64.wrap (a0 - (1 : Int)))).bind fun y2 => (if y2.1.1 then ((S_impl_within a2 (1 : Int) (6 : Int)).bind fun y3 => (some ((y3.1.1, ()), ()))) else (some ((false, ()), ())))) else (some ((false, ()), ()))))
noncomputable def S_impl_isInstance (a0 : Int) (a1 : Int) (a2 : Int) : Option ((Bool × Unit) × (Unit)) := p_impl_isInstance 0 a0 a1 a2

noncomputable def p_cmp_isNaN_int (N : Nat) (a0 : Int) : Option ((Bool × Unit) × (Unit)) :=
  (some (((a0 != a0), ()), ()))
noncomputable def S_cmp_isNaN_int (a0 : Int) : Option ((Bool × Unit) × (Unit)) := p_cmp_isNaN_int 0 a0

noncomputable def p_cmp_Compare_int (N : Nat) (a0 : Int) (a1 : Int) : Option ((Int × Unit) × (Unit)) :=
  ((S_cmp_isNaN_int a0).bind fun y1 => ((S_cmp_isNaN_int a1).bind fun y2 => (if y1.1.1 then (if y2.1.1 then (some (((0 : Int), ()), ())) else (some (((-1 : Int), ()), ()))) else (if y2.1.1 then (some (((1 : Int), ()), ())) else (if (decide (a0 < a1)) then (some (((-1 : Int), ()), ())) else (if (decide (a0 > a1)) then (some (((1 : Int), ()), ())) else (some (((0 : Int), ()), ()))))))))
noncomputable def S_cmp_Compare_int (a0 : Int) (a1 : Int) : Option ((Int × Unit) × (Unit)) := p_cmp_Compare_int 0 a0 a1

noncomputable def p_Compare_Lint_int (N : Nat) (a0 : List Int) (a1 : List Int) : Option ((Int × Unit) × (Unit)) :=
  (loopN N (fun rec1 (d2 : (List Int × List Int × List Int × Int × Int × Unit) × (Unit)) => (if (decide (d2.1.2.2.2.2.1 < d2.1.2.2.2.1)) then (if (decide (0 ≤ d2.1.2.2.2.2.1)) then (if (decide (d2.1.2.2.2.2.1 < d2.1.2.2.1.length)) then (if (decide (d2.1.2.2.2.2.1 ≥ (d2.1.2.1.length : Int))) then (some (((1 : Int), ()), ())) else (if (decide (0 ≤ d2.1.2.2.2.2.1)) then (if (decide (d2.1.2.2.2.2.1 < d2.1.2.1.length)) then ((S_cmp_Compare_int (rd d2.1.2.2.1 d2.1.2.2.2.2.1 (0 : Int)) (rd d2.1.2.1 d2.1.2.2.2.2.1 (0 : Int))).bind fun y3 => (if (y3.1.1 != (0 : Int)) then (some ((y3.1.1, ()), ())) else (rec1 ((d2.1.1, d2.1.2.1, d2.1.2.2.1, d2.1.2.2.2.1, (IntKind.i64.wrap (d2.1.2.2.2.2.1 + (1 : Int))), ()), (()))))) else none) else none)) else none) else none) else (if (decide ((d2.1.1.length : Int) < (d2.1.2.1.length : Int))) then (some (((-1 : Int), ()), ())) else (some (((0 : Int), ()), ()))))) ((a0, a1, a0, (a0.length : Int), (0 : Int), ()), (())))
noncomputable def S_Compare_Lint_int (a0 : List Int) (a1 : List Int) : Option ((Int × Unit) × (Unit)) := lim fun N => p_Compare_Lint_int N a0 a1

noncomputable def p_impl_riseInstances (N : Nat) (a0 : Int) (a1 : List (List Int)) : Option ((Bool × Unit) × (Unit)) :=
  (loopN N (fun rec1 (d2 : (Int × List (List Int) × List (List Int) × Int × Int × Unit) × (Unit)) => (if (decide (d2.1.2.2.2.2.1 < d2.1.2.2.2.1)) then (if (decide (0 ≤ d2.1.2.2.2.2.1)) then (if (decide (d2.1.2.2.2.2.1 < d2.1.2.2.1.length)) then (if (((rd d2.1.2.2.1 d2.1.2.2.2.2.1 ([] : List Int)).length : Int) != (2 : Int)) then (some ((false, ()), ())) else (if (decide (0 ≤ (0 : Int))) then (if (decide ((0 : Int) < (rd d2.1.2.2.1 d2.1.2.2.2.2.1 ([] : List Int)).length)) then (if (decide (0 ≤ (1 : Int))) then (if (decide ((1 : Int) < (rd d2.1.2.2.1 d2.1.2.2.2.2.1 ([] : List Int)).length)) then ((S_impl_isInstance d2.1.1 (rd (rd d2.1.2.2.1 d2.1.2.2.2.2.1 ([] : List Int)) (0 : Int) (0 : Int)) (rd (rd d2.1.2.2.1 d2.1.2.2.2.2.1 ([] : List Int)) (1 : Int) (0 : Int))).bind fun y3 => (if (!y3.1.1) then (some ((false, ()), ())) else (if (decide (d2.1.2.2.2.2.1 > (0 : Int))) then (if (decide (0 ≤ (IntKind.i64.wrap (d2.1.2.2.2.2.1 - (1 : Int))))) then (if (decide ((IntKind.i64.wrap (d2.1.2.2.2.2.1 - (1 : Int))) < d2.1.2.1.length)) then ((S_Compare_Lint_int (rd d2.1.2.1 (IntKind.i64.wrap (d2.1.2.2.2.2.1 - (1 : Int))) ([] : List Int)) (rd d2.1.2.2.1 d2.1.2.2.2.2.1 ([] : List Int))).bind fun y4 => (if (decide (y4.1.1 ≥ (0 : Int))) then (some ((false, ()), ())) else (rec1 ((d2.1.1, d2.1.2.1, d2.1.2.2.1, d2.1.2.2.2.1, (IntKind.i64.wrap (d2.1.2.2.2.2.1 + (1 : Int))), ()), (()))))) else none) else none) else (rec1 ((d2.1.1, d2.1.2.1, d2.1.2.2.1, d2.1.2.2.2.1, (IntKind.i64.wrap (d2.1.2.2.2.2.1 + (1 : Int))), ()), (())))))) else none) else none) else none) else none)) else none) else none) else (some ((true, ()), ())))) ((a0, a1, a1, (a1.length : Int), (0 : Int), ()), (())))
noncomputable def S_impl_riseInstances (a0 : Int) (a1 : List (List Int)) : Option ((Bool × Unit) × (Unit)) := lim fun N => p_impl_riseInstances N a0 a1

noncomputable def p_laws_szCheck (N : Nat) (a0 : T1) (a1 : Int) : Option ((Int × Unit) × (Unit)) :=
  ((S_laws_szIntSS a0.1 a1).bind fun y1 => (if (decide (y1.1.1 < (0 : Int))) then (some (((-1 : Int), ()), ())) else ((S_laws_szIntS a0.2.1 y1.1.1).bind fun y2 => (if (decide (y2.1.1 < (0 : Int))) then (some (((-1 : Int), ()), ())) else (some ((y2.1.1, ()), ()))))))
noncomputable def S_laws_szCheck (a0 : T1) (a1 : Int) : Option ((Int × Unit) × (Unit)) := p_laws_szCheck 0 a0 a1

noncomputable def p_laws_toCheck (N : Nat) (a0 : T1) : Option ((T1 × Unit) × (Unit)) :=
  ((S_laws_toIntSS a0.1).bind fun y1 => ((S_laws_toIntS a0.2.1).bind fun y2 => (some (((y1.1.1, y2.1.1, ()), ()), ()))))
noncomputable def S_laws_toCheck (a0 : T1) : Option ((T1 × Unit) × (Unit)) := p_laws_toCheck 0 a0

noncomputable def p_spec_GoodSums (N : Nat) (a0 : List Int) : Option ((Bool × Unit) × (Unit)) :=
  (loopN N (fun rec1 (d2 : (List Int × Int × List Int × Int × Int × Unit) × (Unit)) => (if (decide (d2.1.2.2.2.2.1 < d2.1.2.2.2.1)) then (if (decide (0 ≤ d2.1.2.2.2.2.1)) then (if (decide (d2.1.2.2.2.2.1 < d2.1.2.2.1.length)) then ((S_spec_l1In (rd d2.1.2.2.1 d2.1.2.2.2.2.1 (0 : Int)) (0 : Int) (400 : Int)).bind fun y3 => (if (!y3.1.1) then (some ((false, ()), ())) else (rec1 ((d2.1.1, (IntKind.i64.wrap (d2.1.2.1 + (rd d2.1.2.2.1 d2.1.2.2.2.2.1 (0 : Int)))), d2.1.2.2.1, d2.1.2.2.2.1, (IntKind.i64.wrap (d2.1.2.2.2.2.1 + (1 : Int))), ()), (()))))) else none) else none) else (if ((d2.1.1.length : Int) == (4 : Int)) then (some (((d2.1.2.1 == (400 : Int)), ()), ())) else (some ((false, ()), ()))))) ((a0, (0 : Int), a0, (a0.length : Int), (0 : Int), ()), (())))
noncomputable def S_spec_GoodSums (a0 : List Int) : Option ((Bool × Unit) × (Unit)) := lim fun N => p_spec_GoodSums N a0

noncomputable def p_spec_GoodCheck (N : Nat) (a0 : Int) (a1 : T1) : Option ((Bool × Unit) × (Unit)) :=
  ((S_spec_IsGroup a0).bind fun y1 => (if y1.1.1 then ((S_spec_l18Done a0 a1.1).bind fun y2 => (if y2.1.1 then ((S_spec_GoodSums a1.2.1).bind fun y3 => (some ((y3.1.1, ()), ()))) else (some ((false, ()), ())))) else (some ((false, ()), ()))))
noncomputable def S_spec_GoodCheck (a0 : Int) (a1 : T1) : Option ((Bool × Unit) × (Unit)) := p_spec_GoodCheck 0 a0 a1

noncomputable def p_impl_total (N : Nat) (a0 : List Int) : Option ((Int × Unit) × (Unit)) :=
  (loopN N (fun rec1 (d2 : (Int × List Int × Int × Int × Unit) × (Unit)) => (if (decide (d2.1.2.2.2.1 < d2.1.2.2.1)) then (if (decide (0 ≤ d2.1.2.2.2.1)) then (if (decide (d2.1.2.2.2.1 < d2.1.2.1.length)) then (rec1 (((IntKind.i64.wrap (d2.1.1 + (rd d2.1.2.1 d2.1.2.2.2.1 (0 : Int)))), d2.1.2.1, d2.1.2.2.1, (IntKind.i64.wrap (d2.1.2.2.2.1 + (1 : Int))), ()), (()))) else none) else none) else (some ((d2.1.1, ()), ())))) (((0 : Int), a0, (a0.length : Int), (0 : Int), ()), (())))
noncomputable def S_impl_total (a0 : List Int) : Option ((Int × Unit) × (Unit)) := lim fun N => p_impl_total N a0

noncomputable def p_impl_GoodSums (N : Nat) (a0 : List Int) : Option ((Bool × Unit) × (Unit)) :=
  (if ((a0.length : Int) == (4 : Int)) then ((S_ContainsFunc_Lint_int a0 (fun (x1 : (Int × Unit)) => (((S_impl_within x1.1 (0 : Int) (400 : Int)).bind fun y2 => (some (((!y2.1.1), ()), ())))).bind fun y3 => some y3.1.1)).bind fun y4 => (if (!y4.1.1) then ((S_impl_total a0).bind fun y5 => (some (((y5.1.1 == (400 : Int)), ()), ()))) else (some ((false, ()), ())))) else (some ((false, ()), ())))
noncomputable def S_impl_GoodSums (a0 : List Int) : Option ((Bool × Unit) × (Unit)) := p_impl_GoodSums 0 a0

noncomputable def p_impl_GoodCheck (N : Nat) (a0 : Int) (a1 : T1) : Option ((Bool × Unit) × (Unit)) :=
  ((S_impl_IsGroup a0).bind fun y1 => (if y1.1.1 then ((S_impl_riseInstances a0 a1.1).bind fun y2 => (if y2.1.1 then ((S_impl_GoodSums a1.2.1).bind fun y3 => (some ((y3.1.1, ()), ()))) else (some ((false, ()), ())))) else (some ((false, ()), ()))))
noncomputable def S_impl_GoodCheck (a0 : Int) (a1 : T1) : Option ((Bool × Unit) × (Unit)) := p_impl_GoodCheck 0 a0 a1

noncomputable def p_laws_eqCheck (N : Nat) (a0 : T1) (a1 : T1) : Option ((Bool × Unit) × (Unit)) :=
  ((S_laws_eqIntSS a0.1 a1.1).bind fun y1 => (if (!y1.1.1) then (some ((false, ()), ())) else ((S_laws_eqIntS a0.2.1 a1.2.1).bind fun y2 => (if (!y2.1.1) then (some ((false, ()), ())) else (some ((true, ()), ()))))))
noncomputable def S_laws_eqCheck (a0 : T1) (a1 : T1) : Option ((Bool × Unit) × (Unit)) := p_laws_eqCheck 0 a0 a1

noncomputable def p_spec_l1Num : Nat → (Int) → Option ((ByteArray × Unit) × (Unit))
  | 0, _ => none
  | N + 1, a0 => (if (decide (a0 < (10 : Int))) then (some (((strOf ([(IntKind.u8.wrap (IntKind.i64.wrap ((48 : Int) + a0)))] : List Int)), ()), ())) else (if ((10 : Int) == (0 : Int)) then none else ((p_spec_l1Num N (IntKind.i64.wrap (a0.tdiv (10 : Int)))).bind fun y1 => (if ((10 : Int) == (0 : Int)) then none else (if (decide (y1.1.1.size + (strOf ([(IntKind.u8.wrap (IntKind.i64.wrap ((48 : Int) + (Int.tmod a0 (10 : Int)))))] : List Int)).size ≤ 9223372036854775807)) then (some (((y1.1.1 ++ (strOf ([(IntKind.u8.wrap (IntKind.i64.wrap ((48 : Int) + (Int.tmod a0 (10 : Int)))))] : List Int))), ()), ())) else none)))))
noncomputable def S_spec_l1Num (a0 : Int) : Option ((ByteArray × Unit) × (Unit)) := lim fun N => p_spec_l1Num N a0

noncomputable def p_spec_l3List (N : Nat) (a0 : List Int) : Option ((ByteArray × Unit) × (Unit)) :=
  (loopN N (fun rec1 (d2 : (ByteArray × List Int × Int × Int × Unit) × (Unit)) => (if (decide (d2.1.2.2.2.1 < d2.1.2.2.1)) then (if (decide (0 ≤ d2.1.2.2.2.1)) then (if (decide (d2.1.2.2.2.1 < d2.1.2.1.length)) then (if (decide (d2.1.2.2.2.1 > (0 : Int))) then (if (decide (d2.1.1.size + (⟨#[44]⟩ : ByteArray).size ≤ 9223372036854775807)) then ((S_spec_l1Num (rd d2.1.2.1 d2.1.2.2.2.1 (0 : Int))).bind fun y3 => (if (decide ((d2.1.1 ++ (⟨#[44]⟩ : ByteArray)).size + y3.1.1.size ≤ 9223372036854775807)) then (rec1 ((((d2.1.1 ++ (⟨#[44]⟩ : ByteArray)) ++ y3.1.1), d2.1.2.1, d2.1.2.2.1, (IntKind.i64.wrap (d2.1.2.2.2.1 + (1 : Int))), ()), (()))) else none)) else none) else ((S_spec_l1Num (rd d2.1.2.1 d2.1.2.2.2.1 (0 : Int))).bind fun y4 => (if (decide (d2.1.1.size + y4.1.1.size ≤ 9223372036854775807)) then (rec1 (((d2.1.1 ++ y4.1.1), d2.1.2.1, d2.1.2.2.1, (IntKind.i64.wrap (d2.1.2.2.2.1 + (1 : Int))), ()), (()))) else none))) else none) else none) else (some ((d2.1.1, ()), ())))) (((⟨#[]⟩ : ByteArray), a0, (a0.length : Int), (0 : Int), ()), (())))
noncomputable def S_spec_l3List (a0 : List Int) : Option ((ByteArray × Unit) × (Unit)) := lim fun N => p_spec_l3List N a0

noncomputable def p_spec_l18Text (N : Nat) (a0 : T1) : Option ((ByteArray × Unit) × (Unit)) :=
  (loopN N (fun rec1 (d2 : (ByteArray × List (List Int) × Int × Int × Unit) × ((List (List Int) × List Int × Unit) × Unit)) => (if (decide (d2.1.2.2.2.1 < d2.1.2.2.1)) then (if (decide (0 ≤ d2.1.2.2.2.1)) then (if (decide (d2.1.2.2.2.1 < d2.1.2.1.length)) then (if (decide (d2.1.2.2.2.1 > (0 : Int))) then (if (decide (d2.1.1.size + (⟨#[32]⟩ : ByteArray).size ≤ 9223372036854775807)) then (if (decide (0 ≤ (0 : Int))) then (if (decide ((0 : Int) < (rd d2.1.2.1 d2.1.2.2.2.1 ([] : List Int)).length)) then ((S_spec_l1Num (rd (rd d2.1.2.1 d2.1.2.2.2.1 ([] : List Int)) (0 : Int) (0 : Int))).bind fun y3 => (if (decide (y3.1.1.size + (⟨#[46]⟩ : ByteArray).size ≤ 9223372036854775807)) then (if (decide (0 ≤ (1 : Int))) then (if (decide ((1 : Int) < (rd d2.1.2.1 d2.1.2.2.2.1 ([] : List Int)).length)) then ((S_spec_l1Num (rd (rd d2.1.2.1 d2.1.2.2.2.1 ([] : List Int)) (1 : Int) (0 : Int))).bind fun y4 => (if (decide ((y3.1.1 ++ (⟨#[46]⟩ : ByteArray)).size + y4.1.1.size ≤ 9223372036854775807)) then (if (decide ((d2.1.1 ++ (⟨#[32]⟩ : ByteArray)).size + ((y3.1.1 ++ (⟨#[46]⟩ : ByteArray)) ++ y4.1.1).size ≤ 9223372036854775807)) then (rec1 ((((d2.1.1 ++ (⟨#[32]⟩ : ByteArray)) ++ ((y3.1.1 ++ (⟨#[46]⟩ : ByteArray)) ++ y4.1.1)), d2.1.2.1, d2.1.2.2.1, (IntKind.i64.wrap (d2.1.2.2.2.1 + (1 : Int))), ()), ((d2.2.1.1, d2.2.1.2.1, ()), ()))) else none) else none)) else none) else none) else none)) else none) else none) else none) else (if (decide (0 ≤ (0 : Int))) then (if (decide ((0 : Int) < (rd d2.1.2.1 d2.1.2.2.2.1 ([] : List Int)).length)) then ((S_spec_l1Num (rd (rd d2.1.2.1 d2.1.2.2.2.1 ([] : List Int)) (0 : Int) (0 : Int))).bind fun y5 => (if (decide (y5.1.1.size + (⟨#[46]⟩ : ByteArray).size ≤ 9223372036854775807)) then (if (decide (0 ≤ (1 : Int))) then (if (decide ((1 : Int) < (rd d2.1.2.1 d2.1.2.2.2.1 ([] : List Int)).length)) then ((S_spec_l1Num (rd (rd d2.1.2.1 d2.1.2.2.2.1 ([] : List Int)) (1 : Int) (0 : Int))).bind fun y6 => (if (decide ((y5.1.1 ++ (⟨#[46]⟩ : ByteArray)).size + y6.1.1.size ≤ 9223372036854775807)) then (if (decide (d2.1.1.size + ((y5.1.1 ++ (⟨#[46]⟩ : ByteArray)) ++ y6.1.1).size ≤ 9223372036854775807)) then (rec1 (((d2.1.1 ++ ((y5.1.1 ++ (⟨#[46]⟩ : ByteArray)) ++ y6.1.1)), d2.1.2.1, d2.1.2.2.1, (IntKind.i64.wrap (d2.1.2.2.2.1 + (1 : Int))), ()), ((d2.2.1.1, d2.2.1.2.1, ()), ()))) else none) else none)) else none) else none) else none)) else none) else none)) else none) else none) else (if (decide (d2.1.1.size + (⟨#[124]⟩ : ByteArray).size ≤ 9223372036854775807)) then ((S_spec_l3List d2.2.1.2.1).bind fun y7 => (if (decide ((d2.1.1 ++ (⟨#[124]⟩ : ByteArray)).size + y7.1.1.size ≤ 9223372036854775807)) then (some ((((d2.1.1 ++ (⟨#[124]⟩ : ByteArray)) ++ y7.1.1), ()), ())) else none)) else none))) (((⟨#[]⟩ : ByteArray), a0.1, (a0.1.length : Int), (0 : Int), ()), ((a0.1, a0.2.1, ()), ())))
noncomputable def S_spec_l18Text (a0 : T1) : Option ((ByteArray × Unit) × (Unit)) := lim fun N => p_spec_l18Text N a0

noncomputable def p_spec_CheckText (N : Nat) (a0 : Int) (a1 : T1) : Option ((ByteArray × Bool × Unit) × (Unit)) :=
  ((S_spec_GoodCheck a0 a1).bind fun y1 => (if (!y1.1.1) then (some (((⟨#[]⟩ : ByteArray), false, ()), ())) else ((S_spec_l18Text a1).bind fun y2 => (some ((y2.1.1, true, ()), ())))))
noncomputable def S_spec_CheckText (a0 : Int) (a1 : T1) : Option ((ByteArray × Bool × Unit) × (Unit)) := p_spec_CheckText 0 a0 a1

noncomputable def p_impl_joined (N : Nat) (a0 : ByteArray) (a1 : List Int) : Option ((ByteArray × Unit) × (Unit)) :=
  (loopN N (fun rec1 (d2 : (ByteArray × List Int × Int × Int × Unit) × (List ByteArray × Unit)) => (if (decide (d2.1.2.2.2.1 < d2.1.2.2.1)) then (if (decide (0 ≤ d2.1.2.2.2.1)) then (if (decide (d2.1.2.2.2.1 < d2.1.2.1.length)) then ((S_strconv_Itoa (rd d2.1.2.1 d2.1.2.2.2.1 (0 : Int))).bind fun y3 => (if (decide ((d2.2.1.length + ([y3.1.1] : List ByteArray).length) * 16 ≤ 140737488355328)) then (rec1 ((d2.1.1, d2.1.2.1, d2.1.2.2.1, (IntKind.i64.wrap (d2.1.2.2.2.1 + (1 : Int))), ()), ((d2.2.1 ++ ([y3.1.1] : List ByteArray)), ()))) else none)) else none) else none) else ((S_strings_Join d2.2.1 d2.1.1).bind fun y4 => (some ((y4.1.1, ()), ()))))) ((a0, a1, (a1.length : Int), (0 : Int), ()), (([] : List ByteArray), ())))
noncomputable def S_impl_joined (a0 : ByteArray) (a1 : List Int) : Option ((ByteArray × Unit) × (Unit)) := lim fun N => p_impl_joined N a0 a1

noncomputable def p_impl_checkText (N : Nat) (a0 : T1) : Option ((ByteArray × Unit) × (Unit)) :=
  (loopN N (fun rec1 (d2 : (List (List Int) × Int × Int × Unit) × ((List (List Int) × List Int × Unit) × List ByteArray × Unit)) => (if (decide (d2.1.2.2.1 < d2.1.2.1)) then (if (decide (0 ≤ d2.1.2.2.1)) then (if (decide (d2.1.2.2.1 < d2.1.1.length)) then (if (decide (0 ≤ (0 : Int))) then (if (decide ((0 : Int) < (rd d2.1.1 d2.1.2.2.1 ([] : List Int)).length)) then ((S_strconv_Itoa (rd (rd d2.1.1 d2.1.2.2.1 ([] : List Int)) (0 : Int) (0 : Int))).bind fun y3 => (if (decide (y3.1.1.size + (⟨#[46]⟩ : ByteArray).size ≤ 9223372036854775807)) then (if (decide (0 ≤ (1 : Int))) then (if (decide ((1 : Int) < (rd d2.1.1 d2.1.2.2.1 ([] : List Int)).length)) then ((S_strconv_Itoa (rd (rd d2.1.1 d2.1.2.2.1 ([] : List Int)) (1 : Int) (0 : Int))).bind fun y4 => (if (decide ((y3.1.1 ++ (⟨#[46]⟩ : ByteArray)).size + y4.1.1.size ≤ 9223372036854775807)) then (if (decide ((d2.2.2.1.length + ([((y3.1.1 ++ (⟨#[46]⟩ : ByteArray)) ++ y4.1.1)] : List ByteArray).length) * 16 ≤ 140737488355328)) then (rec1 ((d2.1.1, d2.1.2.1, (IntKind.i64.wrap (d2.1.2.2.1 + (1 : Int))), ()), ((d2.2.1.1, d2.2.1.2.1, ()), (d2.2.2.1 ++ ([((y3.1.1 ++ (⟨#[46]⟩ : ByteArray)) ++ y4.1.1)] : List ByteArray)), ()))) else none) else none)) else none) else none) else none)) else none) else none) else none) else none) else ((S_strings_Join d2.2.2.1 (⟨#[32]⟩ : ByteArray)).bind fun y5 => (if (decide (y5.1.1.size + (⟨#[124]⟩ : ByteArray).size ≤ 9223372036854775807)) then ((S_impl_joined (⟨#[44]⟩ : ByteArray) d2.2.1.2.1).bind fun y6 => (if (decide ((y5.1.1 ++ (⟨#[124]⟩ : ByteArray)).size + y6.1.1.size ≤ 9223372036854775807)) then (some ((((y5.1.1 ++ (⟨#[124]⟩ : ByteArray)) ++ y6.1.1), ()), ())) else none)) else none)))) ((a0.1, (a0.1.length : Int), (0 : Int), ()), ((a0.1, a0.2.1, ()), ([] : List ByteArray), ())))
noncomputable def S_impl_checkText (a0 : T1) : Option ((ByteArray × Unit) × (Unit)) := lim fun N => p_impl_checkText N a0

noncomputable def p_impl_CheckText (N : Nat) (a0 : Int) (a1 : T1) : Option ((ByteArray × Bool × Unit) × (Unit)) :=
  ((S_impl_GoodCheck a0 a1).bind fun y1 => (if (!y1.1.1) then (some (((⟨#[]⟩ : ByteArray), false, ()), ())) else ((S_impl_checkText a1).bind fun y2 => (some ((y2.1.1, true, ()), ())))))
noncomputable def S_impl_CheckText (a0 : Int) (a1 : T1) : Option ((ByteArray × Bool × Unit) × (Unit)) := p_impl_CheckText 0 a0 a1

noncomputable def p_laws_FnExactCheckText (N : Nat) (a0 : Int) (a1 : T1) : Option ((Bool × Unit) × (Unit)) :=
  ((S_laws_szCheck a1 (1048576 : Int)).bind fun y1 => (if (decide (y1.1.1 < (0 : Int))) then (some ((true, ()), ())) else ((S_laws_toCheck a1).bind fun y2 => ((S_spec_CheckText a0 y2.1.1).bind fun y3 => ((S_laws_toCheck a1).bind fun y4 => ((S_impl_CheckText a0 y4.1.1).bind fun y5 => (if (!(y5.1.1.toList == y3.1.1.toList)) then (some ((false, ()), ())) else (if (y5.1.2.1 != y3.1.2.1) then (some ((false, ()), ())) else ((S_laws_toCheck a1).bind fun y6 => ((S_laws_eqCheck y4.1.1 y6.1.1).bind fun y7 => (if (!y7.1.1) then (some ((false, ()), ())) else (some ((true, ()), ())))))))))))))
end Go.AM.P
