/- What functions do to data, in plain words. No condition. -/
import Derived.Test.YtmnekhlgldljcaaDoorAmLib
set_option linter.unusedVariables false
set_option maxRecDepth 100000
namespace Go.AM.P
open Go.AM
abbrev T0 : Type := Int × Int × List (List Int) × List Int × Unit
def Z0 : T0 := ((0 : Int), (0 : Int), ([] : List (List Int)), ([] : List Int), ())
abbrev T1 : Type := List (List Int) × List Int × Unit
def Z1 : T1 := (([] : List (List Int)), ([] : List Int), ())
abbrev T2 : Type := Int × Int × Int × Int × Int × Unit
def Z2 : T2 := ((0 : Int), (0 : Int), (0 : Int), (0 : Int), (0 : Int), ())
abbrev T3 : Type := Int × Int × Unit
def Z3 : T3 := ((0 : Int), (0 : Int), ())
abbrev T4 : Type := Int × Int × T2 × T3 × Unit
def Z4 : T4 := ((0 : Int), (0 : Int), ((0 : Int), (0 : Int), (0 : Int), (0 : Int), (0 : Int), ()), ((0 : Int), (0 : Int), ()), ())
abbrev T5 : Type := Int × Int × T3 × Unit
def Z5 : T5 := ((0 : Int), (0 : Int), ((0 : Int), (0 : Int), ()), ())
abbrev T6 : Type := Int × List Int × Unit
def Z6 : T6 := ((0 : Int), ([] : List Int), ())
abbrev T7 : Type := Int × Int × Int × T2 × T6 × Unit
def Z7 : T7 := ((0 : Int), (0 : Int), (0 : Int), ((0 : Int), (0 : Int), (0 : Int), (0 : Int), (0 : Int), ()), ((0 : Int), ([] : List Int), ()), ())
abbrev T8 : Type := Int × List (List T7) × Unit
def Z8 : T8 := ((0 : Int), ([] : List (List T7)), ())
abbrev T9 : Type := Int × Int × Int × Int × T2 × T6 × T6 × Bool × List Int × List T7 × Unit
def Z9 : T9 := ((0 : Int), (0 : Int), (0 : Int), (0 : Int), ((0 : Int), (0 : Int), (0 : Int), (0 : Int), (0 : Int), ()), ((0 : Int), ([] : List Int), ()), ((0 : Int), ([] : List Int), ()), false, ([] : List Int), ([] : List T7), ())
abbrev T10 : Type := Int × T8 × List T9 × Unit
def Z10 : T10 := ((0 : Int), ((0 : Int), ([] : List (List T7)), ()), ([] : List T9), ())
abbrev T11 : Type := Int × Int × Int × Int × Int × Int × Int × Int × T2 × T6 × Unit
def Z11 : T11 := ((0 : Int), (0 : Int), (0 : Int), (0 : Int), (0 : Int), (0 : Int), (0 : Int), (0 : Int), ((0 : Int), (0 : Int), (0 : Int), (0 : Int), (0 : Int), ()), ((0 : Int), ([] : List Int), ()), ())
abbrev T12 : Type := Int × Int × T2 × Unit
def Z12 : T12 := ((0 : Int), (0 : Int), ((0 : Int), (0 : Int), (0 : Int), (0 : Int), (0 : Int), ()), ())
abbrev T13 : Type := List T10 × List T11 × List T12 × Unit
def Z13 : T13 := (([] : List T10), ([] : List T11), ([] : List T12), ())
abbrev T14 : Type := List Int × Int × Int × Unit
def Z14 : T14 := (([] : List Int), (0 : Int), (0 : Int), ())
abbrev T15 : Type := ByteArray × Int × Unit
def Z15 : T15 := ((⟨#[]⟩ : ByteArray), (0 : Int), ())
noncomputable def p_spec_IsGroup (N : Nat) (a0 : Int) : Option ((Bool × Unit) × (Unit)) :=
  (if (a0 == (3 : Int)) then (some ((true, ()), ())) else (some (((a0 == (5 : Int)), ()), ())))
noncomputable def S_spec_IsGroup (a0 : Int) : Option ((Bool × Unit) × (Unit)) := p_spec_IsGroup 0 a0

noncomputable def p_spec_l1In (N : Nat) (a0 : Int) (a1 : Int) (a2 : Int) : Option ((Bool × Unit) × (Unit)) :=
  (if (decide (a0 ≥ a1)) then (some (((decide (a0 ≤ a2)), ()), ())) else (some ((false, ()), ())))
noncomputable def S_spec_l1In (a0 : Int) (a1 : Int) (a2 : Int) : Option ((Bool × Unit) × (Unit)) := p_spec_l1In 0 a0 a1 a2

noncomputable def p_impl_IsGroup (N : Nat) (a0 : Int) : Option ((Bool × Unit) × (Unit)) :=
  (if (a0 == (3 : Int)) then (some ((true, ()), ())) else (some (((a0 == (5 : Int)), ()), ())))
noncomputable def S_impl_IsGroup (a0 : Int) : Option ((Bool × Unit) × (Unit)) := p_impl_IsGroup 0 a0

noncomputable def p_impl_within (N : Nat) (a0 : Int) (a1 : Int) (a2 : Int) : Option ((Bool × Unit) × (Unit)) :=
  (if (decide (a1 ≤ a0)) then (some (((decide (a0 ≤ a2)), ()), ())) else (some ((false, ()), ())))
noncomputable def S_impl_within (a0 : Int) (a1 : Int) (a2 : Int) : Option ((Bool × Unit) × (Unit)) := p_impl_within 0 a0 a1 a2

noncomputable def p_laws_eqIntS (N : Nat) (a0 : List Int) (a1 : List Int) : Option ((Bool × Unit) × (Unit)) :=
  (if ((a0.length : Int) != (a1.length : Int)) then (some ((false, ()), ())) else (loopN N (fun rec1 (d2 : (List Int × List Int × Int × Unit) × (Unit)) => (if (decide (d2.1.2.2.1 < (d2.1.1.length : Int))) then (if (decide (0 ≤ d2.1.2.2.1)) then (if (decide (d2.1.2.2.1 < d2.1.1.length)) then (if (decide (0 ≤ d2.1.2.2.1)) then (if (decide (d2.1.2.2.1 < d2.1.2.1.length)) then (if ((rd d2.1.1 d2.1.2.2.1 (0 : Int)) != (rd d2.1.2.1 d2.1.2.2.1 (0 : Int))) then (some ((false, ()), ())) else (rec1 ((d2.1.1, d2.1.2.1, (IntKind.i64.wrap (d2.1.2.2.1 + (1 : Int))), ()), (())))) else none) else none) else none) else none) else (some ((true, ()), ())))) ((a0, a1, (0 : Int), ()), (()))))
noncomputable def S_laws_eqIntS (a0 : List Int) (a1 : List Int) : Option ((Bool × Unit) × (Unit)) := lim fun N => p_laws_eqIntS N a0 a1

noncomputable def p_laws_szIntS (N : Nat) (a0 : List Int) (a1 : Int) : Option ((Int × Unit) × (Unit)) :=
  (if (decide ((IntKind.i64.wrap (a1 - (a0.length : Int))) < (0 : Int))) then (some (((-1 : Int), ()), ())) else (some (((IntKind.i64.wrap (a1 - (a0.length : Int))), ()), ())))
noncomputable def S_laws_szIntS (a0 : List Int) (a1 : Int) : Option ((Int × Unit) × (Unit)) := p_laws_szIntS 0 a0 a1

noncomputable def p_laws_toIntS (N : Nat) (a0 : List Int) : Option ((List Int × Unit) × (Unit)) :=
  (if (decide ((0 : Int) ≤ (a0.length : Int))) then (if ((a0.length : Int) == (a0.length : Int)) then (if (decide ((a0.length : Int) * 8 ≤ 140737488355328)) then (loopN N (fun rec1 (d2 : (List Int × Int × Unit) × (List Int × List Int × Unit)) => (if (decide (d2.1.2.1 < (d2.1.1.length : Int))) then (if (decide (0 ≤ d2.1.2.1)) then (if (decide (d2.1.2.1 < d2.1.1.length)) then (if (decide (0 ≤ d2.1.2.1)) then (if (decide (d2.1.2.1 < d2.2.2.1.length)) then (rec1 ((d2.1.1, (IntKind.i64.wrap (d2.1.2.1 + (1 : Int))), ()), (d2.2.1, (d2.2.2.1.set d2.1.2.1.toNat (rd d2.1.1 d2.1.2.1 (0 : Int))), ()))) else none) else none) else none) else none) else (some ((d2.2.2.1, ()), ())))) ((a0, (0 : Int), ()), (([] : List Int), (List.replicate (a0.length : Int).toNat (0 : Int)), ()))) else none) else none) else none)
noncomputable def S_laws_toIntS (a0 : List Int) : Option ((List Int × Unit) × (Unit)) := lim fun N => p_laws_toIntS N a0

noncomputable def p_spec_l1All (N : Nat) (a0 : List Int) (a1 : Int) (a2 : Int) : Option ((Bool × Unit) × (Unit)) :=
  (loopN N (fun rec1 (d2 : (Int × Int × List Int × Int × Int × Unit) × (Unit)) => (if (decide (d2.1.2.2.2.2.1 < d2.1.2.2.2.1)) then (if (decide (0 ≤ d2.1.2.2.2.2.1)) then (if (decide (d2.1.2.2.2.2.1 < d2.1.2.2.1.length)) then ((S_spec_l1In (rd d2.1.2.2.1 d2.1.2.2.2.2.1 (0 : Int)) d2.1.1 d2.1.2.1).bind fun y3 => (if (!y3.1.1) then (some ((false, ()), ())) else (rec1 ((d2.1.1, d2.1.2.1, d2.1.2.2.1, d2.1.2.2.2.1, (IntKind.i64.wrap (d2.1.2.2.2.2.1 + (1 : Int))), ()), (()))))) else none) else none) else (some ((true, ()), ())))) ((a1, a2, a0, (a0.length : Int), (0 : Int), ()), (())))
noncomputable def S_spec_l1All (a0 : List Int) (a1 : Int) (a2 : Int) : Option ((Bool × Unit) × (Unit)) := lim fun N => p_spec_l1All N a0 a1 a2

noncomputable def p_IndexFunc_Lint_int (N : Nat) (a0 : List Int) (a1 : (Int × Unit) → Option Bool) : Option ((Int × Unit) × (Unit)) :=
  (loopN N (fun rec1 (d2 : (List Int × ((Int × Unit) → Option Bool) × Int × Int × Unit) × (Unit)) => (if (decide (d2.1.2.2.2.1 < d2.1.2.2.1)) then (if (decide (0 ≤ d2.1.2.2.2.1)) then (if (decide (d2.1.2.2.2.1 < d2.1.1.length)) then ((d2.1.2.1 ((rd d2.1.1 d2.1.2.2.2.1 (0 : Int)), ())).bind fun y3 => (if y3 then (some ((d2.1.2.2.2.1, ()), ())) else (rec1 ((d2.1.1, d2.1.2.1, d2.1.2.2.1, (IntKind.i64.wrap (d2.1.2.2.2.1 + (1 : Int))), ()), (()))))) else none) else none) else (some (((-1 : Int), ()), ())))) ((a0, a1, (a0.length : Int), (0 : Int), ()), (())))
noncomputable def S_IndexFunc_Lint_int (a0 : List Int) (a1 : (Int × Unit) → Option Bool) : Option ((Int × Unit) × (Unit)) := lim fun N => p_IndexFunc_Lint_int N a0 a1

noncomputable def p_ContainsFunc_Lint_int (N : Nat) (a0 : List Int) (a1 : (Int × Unit) → Option Bool) : Option ((Bool × Unit) × (Unit)) :=
  ((S_IndexFunc_Lint_int a0 a1).bind fun y1 => (some (((decide (y1.1.1 ≥ (0 : Int))), ()), ())))
noncomputable def S_ContainsFunc_Lint_int (a0 : List Int) (a1 : (Int × Unit) → Option Bool) : Option ((Bool × Unit) × (Unit)) := p_ContainsFunc_Lint_int 0 a0 a1

noncomputable def p_spec_l3Inst (N : Nat) (a0 : Int) (a1 : Int) (a2 : Int) : Option ((Bool × Unit) × (Unit)) :=
  ((S_spec_l1In a1 (0 : Int) (IntKind.i64.wrap (a0 - (1 : Int)))).bind fun y1 => (if y1.1.1 then ((S_spec_l1In a2 (1 : Int) (6 : Int)).bind fun y2 => (some ((y2.1.1, ()), ()))) else (some ((false, ()), ()))))
noncomputable def S_spec_l3Inst (a0 : Int) (a1 : Int) (a2 : Int) : Option ((Bool × Unit) × (Unit)) := p_spec_l3Inst 0 a0 a1 a2

noncomputable def p_impl_isInstance (N : Nat) (a0 : Int) (a1 : Int) (a2 : Int) : Option ((Bool × Unit) × (Unit)) :=
  ((S_impl_IsGroup a0).bind fun y1 => (if y1.1.1 then ((S_impl_within a1 (0 : Int) (IntKind.i64.wrap (a0 - (1 : Int)))).bind fun y2 => (if y2.1.1 then ((S_impl_within a2 (1 : Int) (6 : Int)).bind fun y3 => (some ((y3.1.1, ()), ()))) else (some ((false, ()), ())))) else (some ((false, ()), ()))))
noncomputable def S_impl_isInstance (a0 : Int) (a1 : Int) (a2 : Int) : Option ((Bool × Unit) × (Unit)) := p_impl_isInstance 0 a0 a1 a2

noncomputable def p_spec_l2Account (N : Nat) (a0 : Int) : Option ((Bool × Unit) × (Unit)) :=
  ((S_spec_l1In a0 (0 : Int) (3 : Int)).bind fun y1 => (some ((y1.1.1, ()), ())))
noncomputable def S_spec_l2Account (a0 : Int) : Option ((Bool × Unit) × (Unit)) := p_spec_l2Account 0 a0

noncomputable def p_impl_isAccount (N : Nat) (a0 : Int) : Option ((Bool × Unit) × (Unit)) :=
  ((S_impl_within a0 (0 : Int) (3 : Int)).bind fun y1 => (some ((y1.1.1, ()), ())))
noncomputable def S_impl_isAccount (a0 : Int) : Option ((Bool × Unit) × (Unit)) := p_impl_isAccount 0 a0

noncomputable def p_laws_toCmd (N : Nat) (a0 : T2) : Option ((T2 × Unit) × (Unit)) :=
  (some ((a0, ()), ()))
noncomputable def S_laws_toCmd (a0 : T2) : Option ((T2 × Unit) × (Unit)) := p_laws_toCmd 0 a0

noncomputable def p_spec_l2Code (N : Nat) (a0 : T2) : Option ((Int × Unit) × (Unit)) :=
  ((S_spec_l2Account a0.2.2.1).bind fun y1 => (if (!y1.1.1) then (some (((4 : Int), ()), ())) else (if (a0.1 == (1 : Int)) then ((S_spec_l2Account a0.2.2.2.1).bind fun y2 => (if (!y2.1.1) then (some (((4 : Int), ()), ())) else (if (a0.1 == (1 : Int)) then (if (a0.2.2.1 == a0.2.2.2.1) then (some (((5 : Int), ()), ())) else ((S_spec_l1In a0.2.1 (1 : Int) (999 : Int)).bind fun y3 => (if (!y3.1.1) then (some (((6 : Int), ()), ())) else (if (a0.1 == (1 : Int)) then ((S_spec_l1In a0.2.2.2.2.1 (1 : Int) (1000 : Int)).bind fun y4 => (if (!y4.1.1) then (some (((6 : Int), ()), ())) else (some (((0 : Int), ()), ())))) else (some (((0 : Int), ()), ())))))) else ((S_spec_l1In a0.2.1 (1 : Int) (999 : Int)).bind fun y5 => (if (!y5.1.1) then (some (((6 : Int), ()), ())) else (if (a0.1 == (1 : Int)) then ((S_spec_l1In a0.2.2.2.2.1 (1 : Int) (1000 : Int)).bind fun y6 => (if (!y6.1.1) then (some (((6 : Int), ()), ())) else (some (((0 : Int), ()), ())))) else (some (((0 : Int), ()), ())))))))) else (if (a0.1 == (1 : Int)) then (if (a0.2.2.1 == a0.2.2.2.1) then (some (((5 : Int), ()), ())) else ((S_spec_l1In a0.2.1 (1 : Int) (999 : Int)).bind fun y7 => (if (!y7.1.1) then (some (((6 : Int), ()), ())) else (if (a0.1 == (1 : Int)) then ((S_spec_l1In a0.2.2.2.2.1 (1 : Int) (1000 : Int)).bind fun y8 => (if (!y8.1.1) then (some (((6 : Int), ()), ())) else (some (((0 : Int), ()), ())))) else (some (((0 : Int), ()), ())))))) else ((S_spec_l1In a0.2.1 (1 : Int) (999 : Int)).bind fun y9 => (if (!y9.1.1) then (some (((6 : Int), ()), ())) else (if (a0.1 == (1 : Int)) then ((S_spec_l1In a0.2.2.2.2.1 (1 : Int) (1000 : Int)).bind fun y10 => (if (!y10.1.1) then (some (((6 : Int), ()), ())) else (some (((0 : Int), ()), ())))) else (some (((0 : Int), ()), ())))))))))
noncomputable def S_spec_l2Code (a0 : T2) : Option ((Int × Unit) × (Unit)) := p_spec_l2Code 0 a0

noncomputable def p_spec_GoodCmd (N : Nat) (a0 : T2) : Option ((Bool × Unit) × (Unit)) :=
  (if (a0.1 == (0 : Int)) then (some (((a0.1 == (0 : Int) && (a0.2.1 == (0 : Int) && (a0.2.2.1 == (0 : Int) && (a0.2.2.2.1 == (0 : Int) && (a0.2.2.2.2.1 == (0 : Int) && true))))), ()), ())) else (if (a0.1 == (1 : Int)) then ((S_spec_l2Code a0).bind fun y1 => (some (((y1.1.1 == (0 : Int)), ()), ()))) else (if (a0.1 == (2 : Int)) then ((S_spec_l2Code a0).bind fun y2 => (if (y2.1.1 == (0 : Int)) then (if (a0.2.2.2.1 == (0 : Int)) then (some (((a0.2.2.2.2.1 == (0 : Int)), ()), ())) else (some ((false, ()), ()))) else (some ((false, ()), ())))) else (some ((false, ()), ())))))
noncomputable def S_spec_GoodCmd (a0 : T2) : Option ((Bool × Unit) × (Unit)) := p_spec_GoodCmd 0 a0

noncomputable def p_impl_GoodCmd (N : Nat) (a0 : T2) : Option ((Bool × Unit) × (Unit)) :=
  (if (a0.1 == (0 : Int)) then (some (((a0.1 == (0 : Int) && (a0.2.1 == (0 : Int) && (a0.2.2.1 == (0 : Int) && (a0.2.2.2.1 == (0 : Int) && (a0.2.2.2.2.1 == (0 : Int) && true))))), ()), ())) else (if (a0.1 == (1 : Int)) then ((S_impl_within a0.2.1 (1 : Int) (999 : Int)).bind fun y1 => (if y1.1.1 then ((S_impl_isAccount a0.2.2.1).bind fun y2 => (if y2.1.1 then ((S_impl_isAccount a0.2.2.2.1).bind fun y3 => (if y3.1.1 then (if (a0.2.2.1 != a0.2.2.2.1) then ((S_impl_within a0.2.2.2.2.1 (1 : Int) (1000 : Int)).bind fun y4 => (some ((y4.1.1, ()), ()))) else (some ((false, ()), ()))) else (some ((false, ()), ())))) else (some ((false, ()), ())))) else (some ((false, ()), ())))) else (if (a0.1 == (2 : Int)) then ((S_impl_within a0.2.1 (1 : Int) (999 : Int)).bind fun y5 => (if y5.1.1 then ((S_impl_isAccount a0.2.2.1).bind fun y6 => (if y6.1.1 then (if (a0.2.2.2.1 == (0 : Int)) then (some (((a0.2.2.2.2.1 == (0 : Int)), ()), ())) else (some ((false, ()), ()))) else (some ((false, ()), ())))) else (some ((false, ()), ())))) else (some ((false, ()), ())))))
noncomputable def S_impl_GoodCmd (a0 : T2) : Option ((Bool × Unit) × (Unit)) := p_impl_GoodCmd 0 a0

noncomputable def p_laws_eqCmd (N : Nat) (a0 : T2) (a1 : T2) : Option ((Bool × Unit) × (Unit)) :=
  (if (a0.1 != a1.1) then (some ((false, ()), ())) else (if (a0.2.1 != a1.2.1) then (some ((false, ()), ())) else (if (a0.2.2.1 != a1.2.2.1) then (some ((false, ()), ())) else (if (a0.2.2.2.1 != a1.2.2.2.1) then (some ((false, ()), ())) else (if (a0.2.2.2.2.1 != a1.2.2.2.2.1) then (some ((false, ()), ())) else (some ((true, ()), ())))))))
noncomputable def S_laws_eqCmd (a0 : T2) (a1 : T2) : Option ((Bool × Unit) × (Unit)) := p_laws_eqCmd 0 a0 a1

noncomputable def p_laws_szAttr (N : Nat) (a0 : T6) (a1 : Int) : Option ((Int × Unit) × (Unit)) :=
  ((S_laws_szIntS a0.2.1 a1).bind fun y1 => (if (decide (y1.1.1 < (0 : Int))) then (some (((-1 : Int), ()), ())) else (some ((y1.1.1, ()), ()))))
noncomputable def S_laws_szAttr (a0 : T6) (a1 : Int) : Option ((Int × Unit) × (Unit)) := p_laws_szAttr 0 a0 a1

noncomputable def p_laws_toAttr (N : Nat) (a0 : T6) : Option ((T6 × Unit) × (Unit)) :=
  ((S_laws_toIntS a0.2.1).bind fun y1 => (some (((a0.1, y1.1.1, ()), ()), ())))
noncomputable def S_laws_toAttr (a0 : T6) : Option ((T6 × Unit) × (Unit)) := p_laws_toAttr 0 a0

noncomputable def p_spec_l3None (N : Nat) (a0 : Int) : Option ((T6 × Unit) × (Unit)) :=
  (if (decide ((0 : Int) ≤ a0)) then (if (a0 == a0) then (if (decide (a0 * 8 ≤ 140737488355328)) then (some ((((0 : Int), (List.replicate a0.toNat (0 : Int)), ()), ()), ())) else none) else none) else none)
noncomputable def S_spec_l3None (a0 : Int) : Option ((T6 × Unit) × (Unit)) := p_spec_l3None 0 a0

noncomputable def p_spec_l1Same (N : Nat) (a0 : List Int) (a1 : List Int) : Option ((Bool × Unit) × (Unit)) :=
  (if ((a0.length : Int) != (a1.length : Int)) then (some ((false, ()), ())) else (loopN N (fun rec1 (d2 : (List Int × List Int × Int × Int × Unit) × (Unit)) => (if (decide (d2.1.2.2.2.1 < d2.1.2.2.1)) then (if (decide (0 ≤ d2.1.2.2.2.1)) then (if (decide (d2.1.2.2.2.1 < d2.1.1.length)) then (if (decide (0 ≤ d2.1.2.2.2.1)) then (if (decide (d2.1.2.2.2.1 < d2.1.2.1.length)) then (if ((rd d2.1.1 d2.1.2.2.2.1 (0 : Int)) != (rd d2.1.2.1 d2.1.2.2.2.1 (0 : Int))) then (some ((false, ()), ())) else (rec1 ((d2.1.1, d2.1.2.1, d2.1.2.2.1, (IntKind.i64.wrap (d2.1.2.2.2.1 + (1 : Int))), ()), (())))) else none) else none) else none) else none) else (some ((true, ()), ())))) ((a0, a1, (a0.length : Int), (0 : Int), ()), (()))))
noncomputable def S_spec_l1Same (a0 : List Int) (a1 : List Int) : Option ((Bool × Unit) × (Unit)) := lim fun N => p_spec_l1Same N a0 a1

noncomputable def p_spec_SameAttr (N : Nat) (a0 : T6) (a1 : T6) : Option ((Bool × Unit) × (Unit)) :=
  (if (a0.1 == a1.1) then ((S_spec_l1Same a0.2.1 a1.2.1).bind fun y1 => (some ((y1.1.1, ()), ()))) else (some ((false, ()), ())))
noncomputable def S_spec_SameAttr (a0 : T6) (a1 : T6) : Option ((Bool × Unit) × (Unit)) := p_spec_SameAttr 0 a0 a1

noncomputable def p_spec_l3Attr (N : Nat) (a0 : Int) (a1 : T6) : Option ((Bool × Unit) × (Unit)) :=
  ((S_spec_l1In a1.1 (0 : Int) (999 : Int)).bind fun y1 => (if y1.1.1 then (if ((a1.2.1.length : Int) == a0) then ((S_spec_l1All a1.2.1 (0 : Int) (6 : Int)).bind fun y2 => (some ((y2.1.1, ()), ()))) else (some ((false, ()), ()))) else (some ((false, ()), ()))))
noncomputable def S_spec_l3Attr (a0 : Int) (a1 : T6) : Option ((Bool × Unit) × (Unit)) := p_spec_l3Attr 0 a0 a1

noncomputable def p_spec_l4Row (N : Nat) (a0 : Int) (a1 : T7) : Option ((Bool × Unit) × (Unit)) :=
  ((S_spec_l1In a1.1 (0 : Int) (9999 : Int)).bind fun y1 => (if (!y1.1.1) then (some ((false, ()), ())) else ((S_spec_l1In a1.2.1 (0 : Int) a1.1).bind fun y2 => (if (!y2.1.1) then (some ((false, ()), ())) else ((S_spec_l1In a1.2.2.1 (0 : Int) (3 : Int)).bind fun y3 => (if (!y3.1.1) then (some ((false, ()), ())) else (if (a1.2.2.1 == (0 : Int)) then (if (a1.2.1 == (0 : Int)) then (if (a1.2.2.2.1.1 == (0 : Int) && (a1.2.2.2.1.2.1 == (0 : Int) && (a1.2.2.2.1.2.2.1 == (0 : Int) && (a1.2.2.2.1.2.2.2.1 == (0 : Int) && (a1.2.2.2.1.2.2.2.2.1 == (0 : Int) && true))))) then ((S_spec_l3None a0).bind fun y4 => ((S_spec_SameAttr a1.2.2.2.2.1 y4.1.1).bind fun y5 => (some ((y5.1.1, ()), ())))) else (some ((false, ()), ()))) else (some ((false, ()), ()))) else ((S_spec_GoodCmd a1.2.2.2.1).bind fun y6 => (if y6.1.1 then ((S_spec_l3Attr a0 a1.2.2.2.2.1).bind fun y7 => (some ((y7.1.1, ()), ()))) else (some ((false, ()), ())))))))))))
noncomputable def S_spec_l4Row (a0 : Int) (a1 : T7) : Option ((Bool × Unit) × (Unit)) := p_spec_l4Row 0 a0 a1

noncomputable def p_impl_GoodAttr (N : Nat) (a0 : Int) (a1 : T6) : Option ((Bool × Unit) × (Unit)) :=
  ((S_impl_IsGroup a0).bind fun y1 => (if y1.1.1 then ((S_impl_within a1.1 (0 : Int) (999 : Int)).bind fun y2 => (if y2.1.1 then (if ((a1.2.1.length : Int) == a0) then ((S_ContainsFunc_Lint_int a1.2.1 (fun (x3 : (Int × Unit)) => (((S_impl_within x3.1 (0 : Int) (6 : Int)).bind fun y4 => (some (((!y4.1.1), ()), ())))).bind fun y5 => some y5.1.1)).bind fun y6 => (some (((!y6.1.1), ()), ()))) else (some ((false, ()), ()))) else (some ((false, ()), ())))) else (some ((false, ()), ()))))
noncomputable def S_impl_GoodAttr (a0 : Int) (a1 : T6) : Option ((Bool × Unit) × (Unit)) := p_impl_GoodAttr 0 a0 a1

noncomputable def p_impl_noneAttr (N : Nat) (a0 : Int) : Option ((T6 × Unit) × (Unit)) :=
  (if (decide ((0 : Int) ≤ a0)) then (if (a0 == a0) then (if (decide (a0 * 8 ≤ 140737488355328)) then (some ((((0 : Int), (List.replicate a0.toNat (0 : Int)), ()), ()), ())) else none) else none) else none)
noncomputable def S_impl_noneAttr (a0 : Int) : Option ((T6 × Unit) × (Unit)) := p_impl_noneAttr 0 a0

noncomputable def p_Equal_Lint_int (N : Nat) (a0 : List Int) (a1 : List Int) : Option ((Bool × Unit) × (Unit)) :=
  (if ((a0.length : Int) != (a1.length : Int)) then (some ((false, ()), ())) else (loopN N (fun rec1 (d2 : (List Int × List Int × Int × Int × Unit) × (Unit)) => (if (decide (d2.1.2.2.2.1 < d2.1.2.2.1)) then (if (decide (0 ≤ d2.1.2.2.2.1)) then (if (decide (d2.1.2.2.2.1 < d2.1.1.length)) then (if (decide (0 ≤ d2.1.2.2.2.1)) then (if (decide (d2.1.2.2.2.1 < d2.1.2.1.length)) then (if ((rd d2.1.1 d2.1.2.2.2.1 (0 : Int)) != (rd d2.1.2.1 d2.1.2.2.2.1 (0 : Int))) then (some ((false, ()), ())) else (rec1 ((d2.1.1, d2.1.2.1, d2.1.2.2.1, (IntKind.i64.wrap (d2.1.2.2.2.1 + (1 : Int))), ()), (())))) else none) else none) else none) else none) else (some ((true, ()), ())))) ((a0, a1, (a0.length : Int), (0 : Int), ()), (()))))
noncomputable def S_Equal_Lint_int (a0 : List Int) (a1 : List Int) : Option ((Bool × Unit) × (Unit)) := lim fun N => p_Equal_Lint_int N a0 a1

noncomputable def p_impl_SameAttr (N : Nat) (a0 : T6) (a1 : T6) : Option ((Bool × Unit) × (Unit)) :=
  (if (a0.1 == a1.1) then ((S_Equal_Lint_int a0.2.1 a1.2.1).bind fun y1 => (some ((y1.1.1, ()), ()))) else (some ((false, ()), ())))
noncomputable def S_impl_SameAttr (a0 : T6) (a1 : T6) : Option ((Bool × Unit) × (Unit)) := p_impl_SameAttr 0 a0 a1

noncomputable def p_impl_goodRow (N : Nat) (a0 : Int) (a1 : T7) : Option ((Bool × Unit) × (Unit)) :=
  ((S_impl_within a1.1 (0 : Int) (9999 : Int)).bind fun y1 => (if (!y1.1.1) then (some ((false, ()), ())) else ((S_impl_within a1.2.1 (0 : Int) a1.1).bind fun y2 => (if (!y2.1.1) then (some ((false, ()), ())) else ((S_impl_within a1.2.2.1 (0 : Int) (3 : Int)).bind fun y3 => (if (!y3.1.1) then (some ((false, ()), ())) else ((S_impl_GoodCmd a1.2.2.2.1).bind fun y4 => (if (!y4.1.1) then (some ((false, ()), ())) else ((S_impl_GoodAttr a0 a1.2.2.2.2.1).bind fun y5 => (if (!y5.1.1) then (some ((false, ()), ())) else (if (a1.2.2.1 != (0 : Int)) then (some ((true, ()), ())) else (if (a1.2.1 == (0 : Int)) then (if (a1.2.2.2.1.1 == (0 : Int) && (a1.2.2.2.1.2.1 == (0 : Int) && (a1.2.2.2.1.2.2.1 == (0 : Int) && (a1.2.2.2.1.2.2.2.1 == (0 : Int) && (a1.2.2.2.1.2.2.2.2.1 == (0 : Int) && true))))) then ((S_impl_noneAttr a0).bind fun y6 => ((S_impl_SameAttr a1.2.2.2.2.1 y6.1.1).bind fun y7 => (some ((y7.1.1, ()), ())))) else (some ((false, ()), ()))) else (some ((false, ()), ()))))))))))))))
noncomputable def S_impl_goodRow (a0 : Int) (a1 : T7) : Option ((Bool × Unit) × (Unit)) := p_impl_goodRow 0 a0 a1

noncomputable def p_laws_eqAttr (N : Nat) (a0 : T6) (a1 : T6) : Option ((Bool × Unit) × (Unit)) :=
  (if (a0.1 != a1.1) then (some ((false, ()), ())) else ((S_laws_eqIntS a0.2.1 a1.2.1).bind fun y1 => (if (!y1.1.1) then (some ((false, ()), ())) else (some ((true, ()), ())))))
noncomputable def S_laws_eqAttr (a0 : T6) (a1 : T6) : Option ((Bool × Unit) × (Unit)) := p_laws_eqAttr 0 a0 a1

noncomputable def p_Clone_Lint_int (N : Nat) (a0 : List Int) : Option ((List Int × Unit) × (Unit)) :=
  (if a0.isEmpty then (bothO (some ((([] : List Int), ()), ())) (if (decide ((([] : List Int).length + a0.length) * 8 ≤ 140737488355328)) then (some (((([] : List Int) ++ a0), ()), ())) else none)) else (if (decide ((([] : List Int).length + a0.length) * 8 ≤ 140737488355328)) then (some (((([] : List Int) ++ a0), ()), ())) else none))
noncomputable def S_Clone_Lint_int (a0 : List Int) : Option ((List Int × Unit) × (Unit)) := p_Clone_Lint_int 0 a0

noncomputable def p_impl_Attr_copied (N : Nat) (a0 : T6) : Option ((T6 × Unit) × (Unit)) :=
  ((S_Clone_Lint_int a0.2.1).bind fun y1 => (some (((a0.1, y1.1.1, ()), ()), ())))
noncomputable def S_impl_Attr_copied (a0 : T6) : Option ((T6 × Unit) × (Unit)) := p_impl_Attr_copied 0 a0

noncomputable def p_laws_szMsg (N : Nat) (a0 : T11) (a1 : Int) : Option ((Int × Unit) × (Unit)) :=
  ((S_laws_szAttr a0.2.2.2.2.2.2.2.2.2.1 a1).bind fun y1 => (if (decide (y1.1.1 < (0 : Int))) then (some (((-1 : Int), ()), ())) else (some ((y1.1.1, ()), ()))))
noncomputable def S_laws_szMsg (a0 : T11) (a1 : Int) : Option ((Int × Unit) × (Unit)) := p_laws_szMsg 0 a0 a1

noncomputable def p_laws_toMsg (N : Nat) (a0 : T11) : Option ((T11 × Unit) × (Unit)) :=
  ((S_laws_toCmd a0.2.2.2.2.2.2.2.2.1).bind fun y1 => ((S_laws_toAttr a0.2.2.2.2.2.2.2.2.2.1).bind fun y2 => (some (((a0.1, a0.2.1, a0.2.2.1, a0.2.2.2.1, a0.2.2.2.2.1, a0.2.2.2.2.2.1, a0.2.2.2.2.2.2.1, a0.2.2.2.2.2.2.2.1, y1.1.1, y2.1.1, ()), ()), ()))))
noncomputable def S_laws_toMsg (a0 : T11) : Option ((T11 × Unit) × (Unit)) := p_laws_toMsg 0 a0

noncomputable def p_spec_l1Num : Nat → (Int) → Option ((ByteArray × Unit) × (Unit))
  | 0, _ => none
  | N + 1, a0 => (if (decide (a0 < (10 : Int))) then (some (((strOf ([(IntKind.u8.wrap (IntKind.i64.wrap ((48 : Int) + a0)))] : List Int)), ()), ())) else (if ((10 : Int) == (0 : Int)) then none else ((p_spec_l1Num N (IntKind.i64.wrap (a0.tdiv (10 : Int)))).bind fun y1 => (if ((10 : Int) == (0 : Int)) then none else (if (decide (y1.1.1.size + (strOf ([(IntKind.u8.wrap (IntKind.i64.wrap ((48 : Int) + (Int.tmod a0 (10 : Int)))))] : List Int)).size ≤ 9223372036854775807)) then (some (((y1.1.1 ++ (strOf ([(IntKind.u8.wrap (IntKind.i64.wrap ((48 : Int) + (Int.tmod a0 (10 : Int)))))] : List Int))), ()), ())) else none)))))
noncomputable def S_spec_l1Num (a0 : Int) : Option ((ByteArray × Unit) × (Unit)) := lim fun N => p_spec_l1Num N a0

noncomputable def p_laws_eqMsg (N : Nat) (a0 : T11) (a1 : T11) : Option ((Bool × Unit) × (Unit)) :=
  (if (a0.1 != a1.1) then (some ((false, ()), ())) else (if (a0.2.1 != a1.2.1) then (some ((false, ()), ())) else (if (a0.2.2.1 != a1.2.2.1) then (some ((false, ()), ())) else (if (a0.2.2.2.1 != a1.2.2.2.1) then (some ((false, ()), ())) else (if (a0.2.2.2.2.1 != a1.2.2.2.2.1) then (some ((false, ()), ())) else (if (a0.2.2.2.2.2.1 != a1.2.2.2.2.2.1) then (some ((false, ()), ())) else (if (a0.2.2.2.2.2.2.1 != a1.2.2.2.2.2.2.1) then (some ((false, ()), ())) else (if (a0.2.2.2.2.2.2.2.1 != a1.2.2.2.2.2.2.2.1) then (some ((false, ()), ())) else ((S_laws_eqCmd a0.2.2.2.2.2.2.2.2.1 a1.2.2.2.2.2.2.2.2.1).bind fun y1 => (if (!y1.1.1) then (some ((false, ()), ())) else ((S_laws_eqAttr a0.2.2.2.2.2.2.2.2.2.1 a1.2.2.2.2.2.2.2.2.2.1).bind fun y2 => (if (!y2.1.1) then (some ((false, ()), ())) else (some ((true, ()), ()))))))))))))))
noncomputable def S_laws_eqMsg (a0 : T11) (a1 : T11) : Option ((Bool × Unit) × (Unit)) := p_laws_eqMsg 0 a0 a1

noncomputable def p_spec_l3List (N : Nat) (a0 : List Int) : Option ((ByteArray × Unit) × (Unit)) :=
  (loopN N (fun rec1 (d2 : (ByteArray × List Int × Int × Int × Unit) × (Unit)) => (if (decide (d2.1.2.2.2.1 < d2.1.2.2.1)) then (if (decide (0 ≤ d2.1.2.2.2.1)) then (if (decide (d2.1.2.2.2.1 < d2.1.2.1.length)) then (if (decide (d2.1.2.2.2.1 > (0 : Int))) then (if (decide (d2.1.1.size + (⟨#[44]⟩ : ByteArray).size ≤ 9223372036854775807)) then ((S_spec_l1Num (rd d2.1.2.1 d2.1.2.2.2.1 (0 : Int))).bind fun y3 => (if (decide ((d2.1.1 ++ (⟨#[44]⟩ : ByteArray)).size + y3.1.1.size ≤ 9223372036854775807)) then (rec1 ((((d2.1.1 ++ (⟨#[44]⟩ : ByteArray)) ++ y3.1.1), d2.1.2.1, d2.1.2.2.1, (IntKind.i64.wrap (d2.1.2.2.2.1 + (1 : Int))), ()), (()))) else none)) else none) else ((S_spec_l1Num (rd d2.1.2.1 d2.1.2.2.2.1 (0 : Int))).bind fun y4 => (if (decide (d2.1.1.size + y4.1.1.size ≤ 9223372036854775807)) then (rec1 (((d2.1.1 ++ y4.1.1), d2.1.2.1, d2.1.2.2.1, (IntKind.i64.wrap (d2.1.2.2.2.1 + (1 : Int))), ()), (()))) else none))) else none) else none) else (some ((d2.1.1, ()), ())))) (((⟨#[]⟩ : ByteArray), a0, (a0.length : Int), (0 : Int), ()), (())))
noncomputable def S_spec_l3List (a0 : List Int) : Option ((ByteArray × Unit) × (Unit)) := lim fun N => p_spec_l3List N a0

noncomputable def p_impl_joined (N : Nat) (a0 : ByteArray) (a1 : List Int) : Option ((ByteArray × Unit) × (Unit)) :=
  (loopN N (fun rec1 (d2 : (ByteArray × List Int × Int × Int × Unit) × (List ByteArray × Unit)) => (if (decide (d2.1.2.2.2.1 < d2.1.2.2.1)) then (if (decide (0 ≤ d2.1.2.2.2.1)) then (if (decide (d2.1.2.2.2.1 < d2.1.2.1.length)) then ((S_strconv_Itoa (rd d2.1.2.1 d2.1.2.2.2.1 (0 : Int))).bind fun y3 => (if (decide ((d2.2.1.length + ([y3.1.1] : List ByteArray).length) * 16 ≤ 140737488355328)) then (rec1 ((d2.1.1, d2.1.2.1, d2.1.2.2.1, (IntKind.i64.wrap (d2.1.2.2.2.1 + (1 : Int))), ()), ((d2.2.1 ++ ([y3.1.1] : List ByteArray)), ()))) else none)) else none) else none) else ((S_strings_Join d2.2.1 d2.1.1).bind fun y4 => (some ((y4.1.1, ()), ()))))) ((a0, a1, (a1.length : Int), (0 : Int), ()), (([] : List ByteArray), ())))
noncomputable def S_impl_joined (a0 : ByteArray) (a1 : List Int) : Option ((ByteArray × Unit) × (Unit)) := lim fun N => p_impl_joined N a0 a1

noncomputable def p_spec_GoodMsg (N : Nat) (a0 : Int) (a1 : T11) : Option ((Bool × Unit) × (Unit)) :=
  ((S_spec_IsGroup a0).bind fun y1 => (if (!y1.1.1) then (some ((false, ()), ())) else ((S_spec_l1In a1.1 (1 : Int) (7 : Int)).bind fun y2 => (if (!y2.1.1) then (some ((false, ()), ())) else ((S_spec_l1In a1.2.1 (0 : Int) (IntKind.i64.wrap (a0 - (1 : Int)))).bind fun y3 => (if (!y3.1.1) then (some ((false, ()), ())) else ((S_spec_l1In a1.2.2.1 (0 : Int) (IntKind.i64.wrap (a0 - (1 : Int)))).bind fun y4 => (if (!y4.1.1) then (some ((false, ()), ())) else (if (a1.2.1 == a1.2.2.1) then (some ((false, ()), ())) else ((S_spec_l3Inst a0 a1.2.2.2.1 a1.2.2.2.2.1).bind fun y5 => (if (!y5.1.1) then (some ((false, ()), ())) else ((S_spec_l1In a1.2.2.2.2.2.1 (0 : Int) (9999 : Int)).bind fun y6 => (if (!y6.1.1) then (some ((false, ()), ())) else (if (a1.1 == (7 : Int)) then (if (a1.2.2.2.2.2.2.2.1 != (3 : Int)) then ((S_spec_l4Row a0 a1.2.2.2.2.2).bind fun y7 => (some ((y7.1.1, ()), ()))) else (some ((false, ()), ()))) else (if (a1.2.2.2.2.2.2.1 != (0 : Int)) then (some ((false, ()), ())) else (if (a1.2.2.2.2.2.2.2.1 != (0 : Int)) then (some ((false, ()), ())) else ((S_spec_l3Attr a0 a1.2.2.2.2.2.2.2.2.2.1).bind fun y8 => (if (!y8.1.1) then (some ((false, ()), ())) else ((S_spec_GoodCmd a1.2.2.2.2.2.2.2.2.1).bind fun y9 => (if (!y9.1.1) then (some ((false, ()), ())) else (if (a1.1 == (5 : Int)) then (if (a1.2.2.2.2.2.1 != (0 : Int)) then (some ((false, ()), ())) else (if (a1.1 == (2 : Int)) then (some (((a1.2.2.2.2.2.2.2.2.1.1 == (0 : Int) && (a1.2.2.2.2.2.2.2.2.1.2.1 == (0 : Int) && (a1.2.2.2.2.2.2.2.2.1.2.2.1 == (0 : Int) && (a1.2.2.2.2.2.2.2.2.1.2.2.2.1 == (0 : Int) && (a1.2.2.2.2.2.2.2.2.1.2.2.2.2.1 == (0 : Int) && true))))), ()), ())) else (if (a1.1 == (4 : Int)) then (if (a1.1 == (4 : Int)) then (if (a1.2.2.2.2.2.2.2.2.1.1 == (0 : Int) && (a1.2.2.2.2.2.2.2.2.1.2.1 == (0 : Int) && (a1.2.2.2.2.2.2.2.2.1.2.2.1 == (0 : Int) && (a1.2.2.2.2.2.2.2.2.1.2.2.2.1 == (0 : Int) && (a1.2.2.2.2.2.2.2.2.1.2.2.2.2.1 == (0 : Int) && true))))) then ((S_spec_l3None a0).bind fun y10 => ((S_spec_SameAttr a1.2.2.2.2.2.2.2.2.2.1 y10.1.1).bind fun y11 => (some ((y11.1.1, ()), ())))) else (some ((false, ()), ()))) else (some ((true, ()), ()))) else (if (a1.1 == (6 : Int)) then (if (a1.2.2.2.2.2.2.2.2.1.1 == (0 : Int) && (a1.2.2.2.2.2.2.2.2.1.2.1 == (0 : Int) && (a1.2.2.2.2.2.2.2.2.1.2.2.1 == (0 : Int) && (a1.2.2.2.2.2.2.2.2.1.2.2.2.1 == (0 : Int) && (a1.2.2.2.2.2.2.2.2.1.2.2.2.2.1 == (0 : Int) && true))))) then ((S_spec_l3None a0).bind fun y12 => ((S_spec_SameAttr a1.2.2.2.2.2.2.2.2.2.1 y12.1.1).bind fun y13 => (some ((y13.1.1, ()), ())))) else (some ((false, ()), ()))) else (some ((true, ()), ())))))) else (if (a1.1 == (2 : Int)) then (some (((a1.2.2.2.2.2.2.2.2.1.1 == (0 : Int) && (a1.2.2.2.2.2.2.2.2.1.2.1 == (0 : Int) && (a1.2.2.2.2.2.2.2.2.1.2.2.1 == (0 : Int) && (a1.2.2.2.2.2.2.2.2.1.2.2.2.1 == (0 : Int) && (a1.2.2.2.2.2.2.2.2.1.2.2.2.2.1 == (0 : Int) && true))))), ()), ())) else (if (a1.1 == (4 : Int)) then (if (a1.1 == (4 : Int)) then (if (a1.2.2.2.2.2.2.2.2.1.1 == (0 : Int) && (a1.2.2.2.2.2.2.2.2.1.2.1 == (0 : Int) && (a1.2.2.2.2.2.2.2.2.1.2.2.1 == (0 : Int) && (a1.2.2.2.2.2.2.2.2.1.2.2.2.1 == (0 : Int) && (a1.2.2.2.2.2.2.2.2.1.2.2.2.2.1 == (0 : Int) && true))))) then ((S_spec_l3None a0).bind fun y14 => ((S_spec_SameAttr a1.2.2.2.2.2.2.2.2.2.1 y14.1.1).bind fun y15 => (some ((y15.1.1, ()), ())))) else (some ((false, ()), ()))) else (some ((true, ()), ()))) else (if (a1.1 == (6 : Int)) then (if (a1.2.2.2.2.2.2.2.2.1.1 == (0 : Int) && (a1.2.2.2.2.2.2.2.2.1.2.1 == (0 : Int) && (a1.2.2.2.2.2.2.2.2.1.2.2.1 == (0 : Int) && (a1.2.2.2.2.2.2.2.2.1.2.2.2.1 == (0 : Int) && (a1.2.2.2.2.2.2.2.2.1.2.2.2.2.1 == (0 : Int) && true))))) then ((S_spec_l3None a0).bind fun y16 => ((S_spec_SameAttr a1.2.2.2.2.2.2.2.2.2.1 y16.1.1).bind fun y17 => (some ((y17.1.1, ()), ())))) else (some ((false, ()), ()))) else (some ((true, ()), ()))))))))))))))))))))))))))
noncomputable def S_spec_GoodMsg (a0 : Int) (a1 : T11) : Option ((Bool × Unit) × (Unit)) := p_spec_GoodMsg 0 a0 a1

noncomputable def p_spec_l7Words (N : Nat)  : Option ((List ByteArray × Unit) × (Unit)) :=
  (some ((([(⟨#[]⟩ : ByteArray), (⟨#[112, 114, 101]⟩ : ByteArray), (⟨#[112, 114, 101, 111, 107]⟩ : ByteArray), (⟨#[97, 99, 99]⟩ : ByteArray), (⟨#[97, 99, 99, 111, 107]⟩ : ByteArray), (⟨#[99, 111, 109]⟩ : ByteArray), (⟨#[112, 114, 101, 112]⟩ : ByteArray), (⟨#[112, 114, 101, 112, 111, 107]⟩ : ByteArray)] : List ByteArray), ()), ()))
noncomputable def S_spec_l7Words  : Option ((List ByteArray × Unit) × (Unit)) := p_spec_l7Words 0 

noncomputable def p_spec_l2Text (N : Nat) (a0 : T2) : Option ((ByteArray × Unit) × (Unit)) :=
  (if (a0.1 == (1 : Int)) then ((S_spec_l1Num a0.2.1).bind fun y1 => (if (decide ((⟨#[109, 111, 118, 101, 32]⟩ : ByteArray).size + y1.1.1.size ≤ 9223372036854775807)) then (if (decide (((⟨#[109, 111, 118, 101, 32]⟩ : ByteArray) ++ y1.1.1).size + (⟨#[32]⟩ : ByteArray).size ≤ 9223372036854775807)) then ((S_spec_l1Num a0.2.2.1).bind fun y2 => (if (decide ((((⟨#[109, 111, 118, 101, 32]⟩ : ByteArray) ++ y1.1.1) ++ (⟨#[32]⟩ : ByteArray)).size + y2.1.1.size ≤ 9223372036854775807)) then (if (decide (((((⟨#[109, 111, 118, 101, 32]⟩ : ByteArray) ++ y1.1.1) ++ (⟨#[32]⟩ : ByteArray)) ++ y2.1.1).size + (⟨#[32]⟩ : ByteArray).size ≤ 9223372036854775807)) then ((S_spec_l1Num a0.2.2.2.1).bind fun y3 => (if (decide ((((((⟨#[109, 111, 118, 101, 32]⟩ : ByteArray) ++ y1.1.1) ++ (⟨#[32]⟩ : ByteArray)) ++ y2.1.1) ++ (⟨#[32]⟩ : ByteArray)).size + y3.1.1.size ≤ 9223372036854775807)) then (if (decide (((((((⟨#[109, 111, 118, 101, 32]⟩ : ByteArray) ++ y1.1.1) ++ (⟨#[32]⟩ : ByteArray)) ++ y2.1.1) ++ (⟨#[32]⟩ : ByteArray)) ++ y3.1.1).size + (⟨#[32]⟩ : ByteArray).size ≤ 9223372036854775807)) then ((S_spec_l1Num a0.2.2.2.2.1).bind fun y4 => (if (decide ((((((((⟨#[109, 111, 118, 101, 32]⟩ : ByteArray) ++ y1.1.1) ++ (⟨#[32]⟩ : ByteArray)) ++ y2.1.1) ++ (⟨#[32]⟩ : ByteArray)) ++ y3.1.1) ++ (⟨#[32]⟩ : ByteArray)).size + y4.1.1.size ≤ 9223372036854775807)) then (some ((((((((((⟨#[109, 111, 118, 101, 32]⟩ : ByteArray) ++ y1.1.1) ++ (⟨#[32]⟩ : ByteArray)) ++ y2.1.1) ++ (⟨#[32]⟩ : ByteArray)) ++ y3.1.1) ++ (⟨#[32]⟩ : ByteArray)) ++ y4.1.1), ()), ())) else none)) else none) else none)) else none) else none)) else none) else none)) else (if (a0.1 == (2 : Int)) then ((S_spec_l1Num a0.2.1).bind fun y5 => (if (decide ((⟨#[114, 101, 97, 100, 32]⟩ : ByteArray).size + y5.1.1.size ≤ 9223372036854775807)) then (if (decide (((⟨#[114, 101, 97, 100, 32]⟩ : ByteArray) ++ y5.1.1).size + (⟨#[32]⟩ : ByteArray).size ≤ 9223372036854775807)) then ((S_spec_l1Num a0.2.2.1).bind fun y6 => (if (decide ((((⟨#[114, 101, 97, 100, 32]⟩ : ByteArray) ++ y5.1.1) ++ (⟨#[32]⟩ : ByteArray)).size + y6.1.1.size ≤ 9223372036854775807)) then (some ((((((⟨#[114, 101, 97, 100, 32]⟩ : ByteArray) ++ y5.1.1) ++ (⟨#[32]⟩ : ByteArray)) ++ y6.1.1), ()), ())) else none)) else none) else none)) else (some (((⟨#[45]⟩ : ByteArray), ()), ()))))
noncomputable def S_spec_l2Text (a0 : T2) : Option ((ByteArray × Unit) × (Unit)) := p_spec_l2Text 0 a0

noncomputable def p_spec_l3Text (N : Nat) (a0 : T6) : Option ((ByteArray × Unit) × (Unit)) :=
  ((S_spec_l1Num a0.1).bind fun y1 => (if (decide (y1.1.1.size + (⟨#[58]⟩ : ByteArray).size ≤ 9223372036854775807)) then ((S_spec_l3List a0.2.1).bind fun y2 => (if (decide ((y1.1.1 ++ (⟨#[58]⟩ : ByteArray)).size + y2.1.1.size ≤ 9223372036854775807)) then (some ((((y1.1.1 ++ (⟨#[58]⟩ : ByteArray)) ++ y2.1.1), ()), ())) else none)) else none))
noncomputable def S_spec_l3Text (a0 : T6) : Option ((ByteArray × Unit) × (Unit)) := p_spec_l3Text 0 a0

noncomputable def p_spec_MsgText (N : Nat) (a0 : Int) (a1 : T11) : Option ((ByteArray × Bool × Unit) × (Unit)) :=
  ((S_spec_GoodMsg a0 a1).bind fun y1 => (if (!y1.1.1) then (some (((⟨#[]⟩ : ByteArray), false, ()), ())) else ((S_spec_l7Words).bind fun y2 => (if (decide (0 ≤ a1.1)) then (if (decide (a1.1 < y2.1.1.length)) then (loopN N (fun rec3 (d4 : (ByteArray × Int × Int × Unit) × ((Int × Int × Int × Int × Int × Int × Int × Int × Int × Int × Int × Int × Int × Int × List Int × Unit) × List ByteArray × List Int × Unit)) => (if (decide (d4.1.2.2.1 < d4.1.2.1)) then (if (decide (0 ≤ d4.1.2.2.1)) then (if (decide (d4.1.2.2.1 < d4.2.2.2.1.length)) then ((S_spec_l1Num (rd d4.2.2.2.1 d4.1.2.2.1 (0 : Int))).bind fun y5 => (if (decide ((⟨#[32]⟩ : ByteArray).size + y5.1.1.size ≤ 9223372036854775807)) then (if (decide (d4.1.1.size + ((⟨#[32]⟩ : ByteArray) ++ y5.1.1).size ≤ 9223372036854775807)) then (rec3 (((d4.1.1 ++ ((⟨#[32]⟩ : ByteArray) ++ y5.1.1)), d4.1.2.1, (IntKind.i64.wrap (d4.1.2.2.1 + (1 : Int))), ()), ((d4.2.1.1, d4.2.1.2.1, d4.2.1.2.2.1, d4.2.1.2.2.2.1, d4.2.1.2.2.2.2.1, d4.2.1.2.2.2.2.2.1, d4.2.1.2.2.2.2.2.2.1, d4.2.1.2.2.2.2.2.2.2.1, d4.2.1.2.2.2.2.2.2.2.2.1, d4.2.1.2.2.2.2.2.2.2.2.2.1, d4.2.1.2.2.2.2.2.2.2.2.2.2.1, d4.2.1.2.2.2.2.2.2.2.2.2.2.2.1, d4.2.1.2.2.2.2.2.2.2.2.2.2.2.2.1, d4.2.1.2.2.2.2.2.2.2.2.2.2.2.2.2.1, d4.2.1.2.2.2.2.2.2.2.2.2.2.2.2.2.2.1, ()), d4.2.2.1, d4.2.2.2.1, ()))) else none) else none)) else none) else none) else (if (decide (d4.1.1.size + (⟨#[124]⟩ : ByteArray).size ≤ 9223372036854775807)) then ((S_spec_l2Text (d4.2.1.2.2.2.2.2.2.2.2.1, d4.2.1.2.2.2.2.2.2.2.2.2.1, d4.2.1.2.2.2.2.2.2.2.2.2.2.1, d4.2.1.2.2.2.2.2.2.2.2.2.2.2.1, d4.2.1.2.2.2.2.2.2.2.2.2.2.2.2.1, ())).bind fun y6 => (if (decide ((d4.1.1 ++ (⟨#[124]⟩ : ByteArray)).size + y6.1.1.size ≤ 9223372036854775807)) then (if (decide (((d4.1.1 ++ (⟨#[124]⟩ : ByteArray)) ++ y6.1.1).size + (⟨#[124]⟩ : ByteArray).size ≤ 9223372036854775807)) then ((S_spec_l3Text (d4.2.1.2.2.2.2.2.2.2.2.2.2.2.2.2.1, d4.2.1.2.2.2.2.2.2.2.2.2.2.2.2.2.2.1, ())).bind fun y7 => (if (decide ((((d4.1.1 ++ (⟨#[124]⟩ : ByteArray)) ++ y6.1.1) ++ (⟨#[124]⟩ : ByteArray)).size + y7.1.1.size ≤ 9223372036854775807)) then (some ((((((d4.1.1 ++ (⟨#[124]⟩ : ByteArray)) ++ y6.1.1) ++ (⟨#[124]⟩ : ByteArray)) ++ y7.1.1), true, ()), ())) else none)) else none) else none)) else none))) (((rd y2.1.1 a1.1 (⟨#[]⟩ : ByteArray)), (([a1.2.1, a1.2.2.1, a1.2.2.2.1, a1.2.2.2.2.1, a1.2.2.2.2.2.1, a1.2.2.2.2.2.2.1, a1.2.2.2.2.2.2.2.1] : List Int).length : Int), (0 : Int), ()), ((a1.1, a1.2.1, a1.2.2.1, a1.2.2.2.1, a1.2.2.2.2.1, a1.2.2.2.2.2.1, a1.2.2.2.2.2.2.1, a1.2.2.2.2.2.2.2.1, a1.2.2.2.2.2.2.2.2.1.1, a1.2.2.2.2.2.2.2.2.1.2.1, a1.2.2.2.2.2.2.2.2.1.2.2.1, a1.2.2.2.2.2.2.2.2.1.2.2.2.1, a1.2.2.2.2.2.2.2.2.1.2.2.2.2.1, a1.2.2.2.2.2.2.2.2.2.1.1, a1.2.2.2.2.2.2.2.2.2.1.2.1, ()), y2.1.1, ([a1.2.1, a1.2.2.1, a1.2.2.2.1, a1.2.2.2.2.1, a1.2.2.2.2.2.1, a1.2.2.2.2.2.2.1, a1.2.2.2.2.2.2.2.1] : List Int), ()))) else none) else none))))
noncomputable def S_spec_MsgText (a0 : Int) (a1 : T11) : Option ((ByteArray × Bool × Unit) × (Unit)) := lim fun N => p_spec_MsgText N a0 a1

noncomputable def p_spec_l21Sum (N : Nat) (a0 : ByteArray) : Option ((Int × Unit) × (Unit)) :=
  (loopN N (fun rec1 (d2 : (ByteArray × Int × Int × Unit) × (Unit)) => (if (decide (d2.1.2.2.1 < (d2.1.1.size : Int))) then (if (decide (0 ≤ d2.1.2.2.1)) then (if (decide (d2.1.2.2.1 < d2.1.1.size)) then (if ((65521 : Int) == (0 : Int)) then none else (rec1 ((d2.1.1, (Int.tmod (IntKind.i64.wrap ((IntKind.i64.wrap ((31 : Int) * d2.1.2.1)) + (IntKind.i64.wrap (bt d2.1.1 d2.1.2.2.1)))) (65521 : Int)), (IntKind.i64.wrap (d2.1.2.2.1 + (1 : Int))), ()), (())))) else none) else none) else (some ((d2.1.2.1, ()), ())))) ((a0, (5 : Int), (0 : Int), ()), (())))
noncomputable def S_spec_l21Sum (a0 : ByteArray) : Option ((Int × Unit) × (Unit)) := lim fun N => p_spec_l21Sum N a0

noncomputable def p_spec_l21Frame (N : Nat) (a0 : ByteArray) : Option ((ByteArray × Unit) × (Unit)) :=
  ((S_spec_l21Sum a0).bind fun y1 => (if (decide ((strOf ([(255 : Int), (IntKind.u8.wrap (a0.size : Int))] : List Int)).size + a0.size ≤ 9223372036854775807)) then (if ((256 : Int) == (0 : Int)) then none else (if ((256 : Int) == (0 : Int)) then none else (if (decide (((strOf ([(255 : Int), (IntKind.u8.wrap (a0.size : Int))] : List Int)) ++ a0).size + (strOf ([(IntKind.u8.wrap (IntKind.i64.wrap (y1.1.1.tdiv (256 : Int)))), (IntKind.u8.wrap (Int.tmod y1.1.1 (256 : Int)))] : List Int)).size ≤ 9223372036854775807)) then (some (((((strOf ([(255 : Int), (IntKind.u8.wrap (a0.size : Int))] : List Int)) ++ a0) ++ (strOf ([(IntKind.u8.wrap (IntKind.i64.wrap (y1.1.1.tdiv (256 : Int)))), (IntKind.u8.wrap (Int.tmod y1.1.1 (256 : Int)))] : List Int))), ()), ())) else none))) else none))
noncomputable def S_spec_l21Frame (a0 : ByteArray) : Option ((ByteArray × Unit) × (Unit)) := p_spec_l21Frame 0 a0

noncomputable def p_spec_MsgBytes (N : Nat) (a0 : Int) (a1 : T11) : Option ((ByteArray × Bool × Unit) × (Unit)) :=
  ((S_spec_MsgText a0 a1).bind fun y1 => (if (!y1.1.2.1) then (some (((⟨#[]⟩ : ByteArray), false, ()), ())) else (if (decide ((y1.1.1.size : Int) > (200 : Int))) then (some (((⟨#[]⟩ : ByteArray), false, ()), ())) else ((S_spec_l21Frame y1.1.1).bind fun y2 => (some ((y2.1.1, true, ()), ()))))))
noncomputable def S_spec_MsgBytes (a0 : Int) (a1 : T11) : Option ((ByteArray × Bool × Unit) × (Unit)) := p_spec_MsgBytes 0 a0 a1

noncomputable def p_impl_Msg_row (N : Nat) (a0 : T11) : Option ((T7 × Unit) × (Unit)) :=
  ((S_impl_Attr_copied a0.2.2.2.2.2.2.2.2.2.1).bind fun y1 => (some (((a0.2.2.2.2.2.1, a0.2.2.2.2.2.2.1, a0.2.2.2.2.2.2.2.1, a0.2.2.2.2.2.2.2.2.1, y1.1.1, ()), ()), ())))
noncomputable def S_impl_Msg_row (a0 : T11) : Option ((T7 × Unit) × (Unit)) := p_impl_Msg_row 0 a0

noncomputable def p_impl_GoodMsg (N : Nat) (a0 : Int) (a1 : T11) : Option ((Bool × Unit) × (Unit)) :=
  ((S_impl_within a1.1 (1 : Int) (7 : Int)).bind fun y1 => (if (!y1.1.1) then (some ((false, ()), ())) else ((S_impl_isInstance a0 a1.2.2.2.1 a1.2.2.2.2.1).bind fun y2 => (if (!y2.1.1) then (some ((false, ()), ())) else ((S_impl_within a1.2.1 (0 : Int) (IntKind.i64.wrap (a0 - (1 : Int)))).bind fun y3 => (if (!y3.1.1) then (some ((false, ()), ())) else ((S_impl_within a1.2.2.1 (0 : Int) (IntKind.i64.wrap (a0 - (1 : Int)))).bind fun y4 => (if (!y4.1.1) then (some ((false, ()), ())) else (if (a1.2.1 == a1.2.2.1) then (some ((false, ()), ())) else ((S_impl_within a1.2.2.2.2.2.1 (0 : Int) (9999 : Int)).bind fun y5 => (if (!y5.1.1) then (some ((false, ()), ())) else (if (a1.1 == (5 : Int)) then (if (a1.2.2.2.2.2.1 != (0 : Int)) then (some ((false, ()), ())) else (if (a1.1 == (7 : Int)) then (if (a1.2.2.2.2.2.2.2.1 != (3 : Int)) then ((S_impl_Msg_row a1).bind fun y6 => ((S_impl_goodRow a0 y6.1.1).bind fun y7 => (some ((y7.1.1, ()), ())))) else (some ((false, ()), ()))) else (if (a1.1 == (1 : Int)) then (if (a1.2.2.2.2.2.2.1 != (0 : Int)) then (some ((false, ()), ())) else (if (a1.2.2.2.2.2.2.2.1 != (0 : Int)) then (some ((false, ()), ())) else ((S_impl_GoodCmd a1.2.2.2.2.2.2.2.2.1).bind fun y8 => (if (!y8.1.1) then (some ((false, ()), ())) else ((S_impl_GoodAttr a0 a1.2.2.2.2.2.2.2.2.2.1).bind fun y9 => (if (!y9.1.1) then (if (!y9.1.1) then (some ((false, ()), ())) else (some ((true, ()), ()))) else (some ((true, ()), ())))))))) else (if (a1.1 == (3 : Int)) then (if (a1.2.2.2.2.2.2.1 != (0 : Int)) then (some ((false, ()), ())) else (if (a1.2.2.2.2.2.2.2.1 != (0 : Int)) then (some ((false, ()), ())) else ((S_impl_GoodCmd a1.2.2.2.2.2.2.2.2.1).bind fun y10 => (if (!y10.1.1) then (some ((false, ()), ())) else ((S_impl_GoodAttr a0 a1.2.2.2.2.2.2.2.2.2.1).bind fun y11 => (if (!y11.1.1) then (if (!y11.1.1) then (some ((false, ()), ())) else (some ((true, ()), ()))) else (some ((true, ()), ())))))))) else (if (a1.2.2.2.2.2.2.1 != (0 : Int)) then (some ((false, ()), ())) else (if (a1.2.2.2.2.2.2.2.1 != (0 : Int)) then (some ((false, ()), ())) else ((S_impl_GoodCmd a1.2.2.2.2.2.2.2.2.1).bind fun y12 => (if (!y12.1.1) then (some ((false, ()), ())) else ((S_impl_GoodAttr a0 a1.2.2.2.2.2.2.2.2.2.1).bind fun y13 => (if (!y13.1.1) then (if (!y13.1.1) then (some ((false, ()), ())) else (if (a1.1 == (5 : Int)) then (some ((true, ()), ())) else (if (a1.1 == (2 : Int)) then (some ((true, ()), ())) else ((S_impl_noneAttr a0).bind fun y14 => ((S_impl_SameAttr a1.2.2.2.2.2.2.2.2.2.1 y14.1.1).bind fun y15 => (some ((y15.1.1, ()), ()))))))) else (if (!(a1.1 == (5 : Int))) then (if (!(a1.2.2.2.2.2.2.2.2.1.1 == (0 : Int) && (a1.2.2.2.2.2.2.2.2.1.2.1 == (0 : Int) && (a1.2.2.2.2.2.2.2.2.1.2.2.1 == (0 : Int) && (a1.2.2.2.2.2.2.2.2.1.2.2.2.1 == (0 : Int) && (a1.2.2.2.2.2.2.2.2.1.2.2.2.2.1 == (0 : Int) && true)))))) then (some ((false, ()), ())) else (if (a1.1 == (5 : Int)) then (some ((true, ()), ())) else (if (a1.1 == (2 : Int)) then (some ((true, ()), ())) else ((S_impl_noneAttr a0).bind fun y16 => ((S_impl_SameAttr a1.2.2.2.2.2.2.2.2.2.1 y16.1.1).bind fun y17 => (some ((y17.1.1, ()), ()))))))) else (if (a1.1 == (5 : Int)) then (some ((true, ()), ())) else (if (a1.1 == (2 : Int)) then (some ((true, ()), ())) else ((S_impl_noneAttr a0).bind fun y18 => ((S_impl_SameAttr a1.2.2.2.2.2.2.2.2.2.1 y18.1.1).bind fun y19 => (some ((y19.1.1, ()), ()))))))))))))))))) else (if (a1.1 == (7 : Int)) then (if (a1.2.2.2.2.2.2.2.1 != (3 : Int)) then ((S_impl_Msg_row a1).bind fun y20 => ((S_impl_goodRow a0 y20.1.1).bind fun y21 => (some ((y21.1.1, ()), ())))) else (some ((false, ()), ()))) else (if (a1.1 == (1 : Int)) then (if (a1.2.2.2.2.2.2.1 != (0 : Int)) then (some ((false, ()), ())) else (if (a1.2.2.2.2.2.2.2.1 != (0 : Int)) then (some ((false, ()), ())) else ((S_impl_GoodCmd a1.2.2.2.2.2.2.2.2.1).bind fun y22 => (if (!y22.1.1) then (some ((false, ()), ())) else ((S_impl_GoodAttr a0 a1.2.2.2.2.2.2.2.2.2.1).bind fun y23 => (if (!y23.1.1) then (if (!y23.1.1) then (some ((false, ()), ())) else (some ((true, ()), ()))) else (some ((true, ()), ())))))))) else (if (a1.1 == (3 : Int)) then (if (a1.2.2.2.2.2.2.1 != (0 : Int)) then (some ((false, ()), ())) else (if (a1.2.2.2.2.2.2.2.1 != (0 : Int)) then (some ((false, ()), ())) else ((S_impl_GoodCmd a1.2.2.2.2.2.2.2.2.1).bind fun y24 => (if (!y24.1.1) then (some ((false, ()), ())) else ((S_impl_GoodAttr a0 a1.2.2.2.2.2.2.2.2.2.1).bind fun y25 => (if (!y25.1.1) then (if (!y25.1.1) then (some ((false, ()), ())) else (some ((true, ()), ()))) else (some ((true, ()), ())))))))) else (if (a1.2.2.2.2.2.2.1 != (0 : Int)) then (some ((false, ()), ())) else (if (a1.2.2.2.2.2.2.2.1 != (0 : Int)) then (some ((false, ()), ())) else ((S_impl_GoodCmd a1.2.2.2.2.2.2.2.2.1).bind fun y26 => (if (!y26.1.1) then (some ((false, ()), ())) else ((S_impl_GoodAttr a0 a1.2.2.2.2.2.2.2.2.2.1).bind fun y27 => (if (!y27.1.1) then (if (!y27.1.1) then (some ((false, ()), ())) else (if (a1.1 == (5 : Int)) then (some ((true, ()), ())) else (if (a1.1 == (2 : Int)) then (some ((true, ()), ())) else ((S_impl_noneAttr a0).bind fun y28 => ((S_impl_SameAttr a1.2.2.2.2.2.2.2.2.2.1 y28.1.1).bind fun y29 => (some ((y29.1.1, ()), ()))))))) else (if (!(a1.1 == (5 : Int))) then (if (!(a1.2.2.2.2.2.2.2.2.1.1 == (0 : Int) && (a1.2.2.2.2.2.2.2.2.1.2.1 == (0 : Int) && (a1.2.2.2.2.2.2.2.2.1.2.2.1 == (0 : Int) && (a1.2.2.2.2.2.2.2.2.1.2.2.2.1 == (0 : Int) && (a1.2.2.2.2.2.2.2.2.1.2.2.2.2.1 == (0 : Int) && true)))))) then (some ((false, ()), ())) else (if (a1.1 == (5 : Int)) then (some ((true, ()), ())) else (if (a1.1 == (2 : Int)) then (some ((true, ()), ())) else ((S_impl_noneAttr a0).bind fun y30 => ((S_impl_SameAttr a1.2.2.2.2.2.2.2.2.2.1 y30.1.1).bind fun y31 => (some ((y31.1.1, ()), ()))))))) else (if (a1.1 == (5 : Int)) then (some ((true, ()), ())) else (if (a1.1 == (2 : Int)) then (some ((true, ()), ())) else ((S_impl_noneAttr a0).bind fun y32 => ((S_impl_SameAttr a1.2.2.2.2.2.2.2.2.2.1 y32.1.1).bind fun y33 => (some ((y33.1.1, ()), ()))))))))))))))))))))))))))))
noncomputable def S_impl_GoodMsg (a0 : Int) (a1 : T11) : Option ((Bool × Unit) × (Unit)) := p_impl_GoodMsg 0 a0 a1

noncomputable def p_impl_msgWords (N : Nat)  : Option ((List ByteArray × Unit) × (Unit)) :=
  (some ((([(⟨#[]⟩ : ByteArray), (⟨#[112, 114, 101]⟩ : ByteArray), (⟨#[112, 114, 101, 111, 107]⟩ : ByteArray), (⟨#[97, 99, 99]⟩ : ByteArray), (⟨#[97, 99, 99, 111, 107]⟩ : ByteArray), (⟨#[99, 111, 109]⟩ : ByteArray), (⟨#[112, 114, 101, 112]⟩ : ByteArray), (⟨#[112, 114, 101, 112, 111, 107]⟩ : ByteArray)] : List ByteArray), ()), ()))
noncomputable def S_impl_msgWords  : Option ((List ByteArray × Unit) × (Unit)) := p_impl_msgWords 0 

noncomputable def p_impl_spelled (N : Nat) (a0 : List Int) : Option ((ByteArray × Unit) × (Unit)) :=
  ((S_impl_joined (⟨#[32]⟩ : ByteArray) a0).bind fun y1 => (some ((y1.1.1, ()), ())))
noncomputable def S_impl_spelled (a0 : List Int) : Option ((ByteArray × Unit) × (Unit)) := p_impl_spelled 0 a0

noncomputable def p_impl_cmdText (N : Nat) (a0 : T2) : Option ((ByteArray × Unit) × (Unit)) :=
  (if (a0.1 == (1 : Int)) then ((S_impl_spelled ([a0.2.1, a0.2.2.1, a0.2.2.2.1, a0.2.2.2.2.1] : List Int)).bind fun y1 => (if (decide ((⟨#[109, 111, 118, 101, 32]⟩ : ByteArray).size + y1.1.1.size ≤ 9223372036854775807)) then (some ((((⟨#[109, 111, 118, 101, 32]⟩ : ByteArray) ++ y1.1.1), ()), ())) else none)) else (if (a0.1 == (2 : Int)) then ((S_impl_spelled ([a0.2.1, a0.2.2.1] : List Int)).bind fun y2 => (if (decide ((⟨#[114, 101, 97, 100, 32]⟩ : ByteArray).size + y2.1.1.size ≤ 9223372036854775807)) then (some ((((⟨#[114, 101, 97, 100, 32]⟩ : ByteArray) ++ y2.1.1), ()), ())) else none)) else (some (((⟨#[45]⟩ : ByteArray), ()), ()))))
noncomputable def S_impl_cmdText (a0 : T2) : Option ((ByteArray × Unit) × (Unit)) := p_impl_cmdText 0 a0

noncomputable def p_impl_attrText (N : Nat) (a0 : T6) : Option ((ByteArray × Unit) × (Unit)) :=
  ((S_strconv_Itoa a0.1).bind fun y1 => (if (decide (y1.1.1.size + (⟨#[58]⟩ : ByteArray).size ≤ 9223372036854775807)) then ((S_impl_joined (⟨#[44]⟩ : ByteArray) a0.2.1).bind fun y2 => (if (decide ((y1.1.1 ++ (⟨#[58]⟩ : ByteArray)).size + y2.1.1.size ≤ 9223372036854775807)) then (some ((((y1.1.1 ++ (⟨#[58]⟩ : ByteArray)) ++ y2.1.1), ()), ())) else none)) else none))
noncomputable def S_impl_attrText (a0 : T6) : Option ((ByteArray × Unit) × (Unit)) := p_impl_attrText 0 a0

noncomputable def p_impl_msgText (N : Nat) (a0 : T11) : Option ((ByteArray × Unit) × (Unit)) :=
  ((S_impl_msgWords).bind fun y1 => (if (decide (0 ≤ a0.1)) then (if (decide (a0.1 < y1.1.1.length)) then (if (decide ((rd y1.1.1 a0.1 (⟨#[]⟩ : ByteArray)).size + (⟨#[32]⟩ : ByteArray).size ≤ 9223372036854775807)) then ((S_impl_spelled ([a0.2.1, a0.2.2.1, a0.2.2.2.1, a0.2.2.2.2.1, a0.2.2.2.2.2.1, a0.2.2.2.2.2.2.1, a0.2.2.2.2.2.2.2.1] : List Int)).bind fun y2 => (if (decide (((rd y1.1.1 a0.1 (⟨#[]⟩ : ByteArray)) ++ (⟨#[32]⟩ : ByteArray)).size + y2.1.1.size ≤ 9223372036854775807)) then (if (decide ((((rd y1.1.1 a0.1 (⟨#[]⟩ : ByteArray)) ++ (⟨#[32]⟩ : ByteArray)) ++ y2.1.1).size + (⟨#[124]⟩ : ByteArray).size ≤ 9223372036854775807)) then ((S_impl_cmdText a0.2.2.2.2.2.2.2.2.1).bind fun y3 => (if (decide (((((rd y1.1.1 a0.1 (⟨#[]⟩ : ByteArray)) ++ (⟨#[32]⟩ : ByteArray)) ++ y2.1.1) ++ (⟨#[124]⟩ : ByteArray)).size + y3.1.1.size ≤ 9223372036854775807)) then (if (decide ((((((rd y1.1.1 a0.1 (⟨#[]⟩ : ByteArray)) ++ (⟨#[32]⟩ : ByteArray)) ++ y2.1.1) ++ (⟨#[124]⟩ : ByteArray)) ++ y3.1.1).size + (⟨#[124]⟩ : ByteArray).size ≤ 9223372036854775807)) then ((S_impl_attrText a0.2.2.2.2.2.2.2.2.2.1).bind fun y4 => (if (decide (((((((rd y1.1.1 a0.1 (⟨#[]⟩ : ByteArray)) ++ (⟨#[32]⟩ : ByteArray)) ++ y2.1.1) ++ (⟨#[124]⟩ : ByteArray)) ++ y3.1.1) ++ (⟨#[124]⟩ : ByteArray)).size + y4.1.1.size ≤ 9223372036854775807)) then (some (((((((((rd y1.1.1 a0.1 (⟨#[]⟩ : ByteArray)) ++ (⟨#[32]⟩ : ByteArray)) ++ y2.1.1) ++ (⟨#[124]⟩ : ByteArray)) ++ y3.1.1) ++ (⟨#[124]⟩ : ByteArray)) ++ y4.1.1), ()), ())) else none)) else none) else none)) else none) else none)) else none) else none) else none))
noncomputable def S_impl_msgText (a0 : T11) : Option ((ByteArray × Unit) × (Unit)) := p_impl_msgText 0 a0

noncomputable def p_impl_MsgText (N : Nat) (a0 : Int) (a1 : T11) : Option ((ByteArray × Bool × Unit) × (Unit)) :=
  ((S_impl_GoodMsg a0 a1).bind fun y1 => (if (!y1.1.1) then (some (((⟨#[]⟩ : ByteArray), false, ()), ())) else ((S_impl_msgText a1).bind fun y2 => (some ((y2.1.1, true, ()), ())))))
noncomputable def S_impl_MsgText (a0 : Int) (a1 : T11) : Option ((ByteArray × Bool × Unit) × (Unit)) := p_impl_MsgText 0 a0 a1

noncomputable def p_impl_sumOf (N : Nat) (a0 : ByteArray) (a1 : Int) (a2 : Int) : Option ((Int × Unit) × (Unit)) :=
  (loopN N (fun rec1 (d2 : (ByteArray × Int × Int × Int × Int × Unit) × (Unit)) => (if (decide (d2.1.2.2.2.2.1 < d2.1.2.2.2.1)) then (if (decide (0 ≤ d2.1.2.2.2.2.1)) then (if (decide (d2.1.2.2.2.2.1 < d2.1.1.size)) then (if ((65521 : Int) == (0 : Int)) then none else (rec1 ((d2.1.1, (Int.tmod (IntKind.i64.wrap ((IntKind.i64.wrap (d2.1.2.1 * d2.1.2.2.1)) + (IntKind.i64.wrap (bt d2.1.1 d2.1.2.2.2.2.1)))) (65521 : Int)), d2.1.2.2.1, d2.1.2.2.2.1, (IntKind.i64.wrap (d2.1.2.2.2.2.1 + (1 : Int))), ()), (())))) else none) else none) else (some ((d2.1.2.1, ()), ())))) ((a0, a1, a2, (a0.size : Int), (0 : Int), ()), (())))
noncomputable def S_impl_sumOf (a0 : ByteArray) (a1 : Int) (a2 : Int) : Option ((Int × Unit) × (Unit)) := lim fun N => p_impl_sumOf N a0 a1 a2

noncomputable def p_impl_twoBytes (N : Nat) (a0 : Int) : Option ((ByteArray × Unit) × (Unit)) :=
  (if ((256 : Int) == (0 : Int)) then none else (if ((256 : Int) == (0 : Int)) then none else (some (((strOf ([(IntKind.u8.wrap (IntKind.i64.wrap (a0.tdiv (256 : Int)))), (IntKind.u8.wrap (Int.tmod a0 (256 : Int)))] : List Int)), ()), ()))))
noncomputable def S_impl_twoBytes (a0 : Int) : Option ((ByteArray × Unit) × (Unit)) := p_impl_twoBytes 0 a0

noncomputable def p_impl_wireBytes (N : Nat) (a0 : ByteArray) : Option ((ByteArray × Unit) × (Unit)) :=
  (if (decide ((⟨#[255]⟩ : ByteArray).size + (strOf ([(IntKind.u8.wrap (a0.size : Int))] : List Int)).size ≤ 9223372036854775807)) then (if (decide (((⟨#[255]⟩ : ByteArray) ++ (strOf ([(IntKind.u8.wrap (a0.size : Int))] : List Int))).size + a0.size ≤ 9223372036854775807)) then ((S_impl_sumOf a0 (5 : Int) (31 : Int)).bind fun y1 => ((S_impl_twoBytes y1.1.1).bind fun y2 => (if (decide ((((⟨#[255]⟩ : ByteArray) ++ (strOf ([(IntKind.u8.wrap (a0.size : Int))] : List Int))) ++ a0).size + y2.1.1.size ≤ 9223372036854775807)) then (some ((((((⟨#[255]⟩ : ByteArray) ++ (strOf ([(IntKind.u8.wrap (a0.size : Int))] : List Int))) ++ a0) ++ y2.1.1), ()), ())) else none))) else none) else none)
noncomputable def S_impl_wireBytes (a0 : ByteArray) : Option ((ByteArray × Unit) × (Unit)) := p_impl_wireBytes 0 a0

noncomputable def p_impl_MsgBytes (N : Nat) (a0 : Int) (a1 : T11) : Option ((ByteArray × Bool × Unit) × (Unit)) :=
  ((S_impl_MsgText a0 a1).bind fun y1 => (if (!y1.1.2.1) then (some (((⟨#[]⟩ : ByteArray), false, ()), ())) else (if (decide ((y1.1.1.size : Int) > (200 : Int))) then (some (((⟨#[]⟩ : ByteArray), false, ()), ())) else ((S_impl_wireBytes y1.1.1).bind fun y2 => (some ((y2.1.1, true, ()), ()))))))
noncomputable def S_impl_MsgBytes (a0 : Int) (a1 : T11) : Option ((ByteArray × Bool × Unit) × (Unit)) := p_impl_MsgBytes 0 a0 a1

noncomputable def p_laws_FnExactMsgBytes (N : Nat) (a0 : Int) (a1 : T11) : Option ((Bool × Unit) × (Unit)) :=
  ((S_laws_szMsg a1 (1048576 : Int)).bind fun y1 => (if (decide (y1.1.1 < (0 : Int))) then (some ((true, ()), ())) else ((S_laws_toMsg a1).bind fun y2 => ((S_spec_MsgBytes a0 y2.1.1).bind fun y3 => ((S_laws_toMsg a1).bind fun y4 => ((S_impl_MsgBytes a0 y4.1.1).bind fun y5 => (if (!(y5.1.1.toList == y3.1.1.toList)) then (some ((false, ()), ())) else (if (y5.1.2.1 != y3.1.2.1) then (some ((false, ()), ())) else ((S_laws_toMsg a1).bind fun y6 => ((S_laws_eqMsg y4.1.1 y6.1.1).bind fun y7 => (if (!y7.1.1) then (some ((false, ()), ())) else (some ((true, ()), ())))))))))))))
end Go.AM.P
