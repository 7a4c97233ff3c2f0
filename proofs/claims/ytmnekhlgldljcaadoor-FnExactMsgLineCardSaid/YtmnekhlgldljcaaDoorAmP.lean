/- What functions do to data, in plain words. No condition. -/
import Derived.Test.YtmnekhlgldljcaaDoorAmLib
set_option linter.unusedVariables false
set_option maxRecDepth 100000
namespace Go.AM.P
open Go.AM
abbrev T0 : Type := Int × Int × List (List Int) × List Int × Unit
def Z0 : T0 := ((0 : Int), (0 : Int), ([] : List (List Int)), ([] : List Int), ())
abbrev T1 : Type := List (List Int) × List Int × Unit
def Z1 : T1 := (([] : List (List Int)), ([] : List Int), ())
abbrev T2 : Type := Int × Int × Int × Int × Int × Unit
def Z2 : T2 := ((0 : Int), (0 : Int), (0 : Int), (0 : Int), (0 : Int), ())
abbrev T3 : Type := Int × Int × Unit
def Z3 : T3 := ((0 : Int), (0 : Int), ())
abbrev T4 : Type := Int × Int × T2 × T3 × Unit
def Z4 : T4 := ((0 : Int), (0 : Int), ((0 : Int), (0 : Int), (0 : Int), (0 : Int), (0 : Int), ()), ((0 : Int), (0 : Int), ()), ())
abbrev T5 : Type := Int × Int × T3 × Unit
def Z5 : T5 := ((0 : Int), (0 : Int), ((0 : Int), (0 : Int), ()), ())
abbrev T6 : Type := Int × List Int × Unit
def Z6 : T6 := ((0 : Int), ([] : List Int), ())
abbrev T7 : Type := Int × Int × Int × T2 × T6 × Unit
def Z7 : T7 := ((0 : Int), (0 : Int), (0 : Int), ((0 : Int), (0 : Int), (0 : Int), (0 : Int), (0 : Int), ()), ((0 : Int), ([] : List Int), ()), ())
abbrev T8 : Type := Int × List (List T7) × Unit
def Z8 : T8 := ((0 : Int), ([] : List (List T7)), ())
abbrev T9 : Type := Int × Int × Int × Int × T2 × T6 × T6 × Bool × List Int × List T7 × Unit
def Z9 : T9 := ((0 : Int), (0 : Int), (0 : Int), (0 : Int), ((0 : Int), (0 : Int), (0 : Int), (0 : Int), (0 : Int), ()), ((0 : Int), ([] : List Int), ()), ((0 : Int), ([] : List Int), ()), false, ([] : List Int), ([] : List T7), ())
abbrev T10 : Type := Int × T8 × List T9 × Unit
def Z10 : T10 := ((0 : Int), ((0 : Int), ([] : List (List T7)), ()), ([] : List T9), ())
abbrev T11 : Type := Int × Int × Int × Int × Int × Int × Int × Int × T2 × T6 × Unit
def Z11 : T11 := ((0 : Int), (0 : Int), (0 : Int), (0 : Int), (0 : Int), (0 : Int), (0 : Int), (0 : Int), ((0 : Int), (0 : Int), (0 : Int), (0 : Int), (0 : Int), ()), ((0 : Int), ([] : List Int), ()), ())
abbrev T12 : Type := Int × Int × T2 × Unit
def Z12 : T12 := ((0 : Int), (0 : Int), ((0 : Int), (0 : Int), (0 : Int), (0 : Int), (0 : Int), ()), ())
abbrev T13 : Type := List T10 × List T11 × List T12 × Unit
def Z13 : T13 := (([] : List T10), ([] : List T11), ([] : List T12), ())
abbrev T14 : Type := List Int × Int × Int × Unit
def Z14 : T14 := (([] : List Int), (0 : Int), (0 : Int), ())
abbrev T15 : Type := ByteArray × Int × Unit
def Z15 : T15 := ((⟨#[]⟩ : ByteArray), (0 : Int), ())
noncomputable def p_laws_eqIntS (N : Nat) (a0 : List Int) (a1 : List Int) : Option ((Bool × Unit) × (Unit)) :=
  (if ((a0.length : Int) != (a1.length : Int)) then (some ((false, ()), ())) else (loopN N (fun rec1 (d2 : (List Int × List Int × Int × Unit) × (Unit)) => (if (decide (d2.1.2.2.1 < (d2.1.1.length : Int))) then (if (decide (0 ≤ d2.1.2.2.1)) then (if (decide (d2.1.2.2.1 < d2.1.1.length)) then (if (decide (0 ≤ d2.1.2.2.1)) then (if (decide (d2.1.2.2.1 < d2.1.2.1.length)) then (if ((rd d2.1.1 d2.1.2.2.1 (0 : Int)) != (rd d2.1.2.1 d2.1.2.2.1 (0 : Int))) then (some ((false, ()), ())) else (rec1 ((d2.1.1, d2.1.2.1, (IntKind.i64.wrap (d2.1.2.2.1 + (1 : Int))), ()), (())))) else none) else none) else none) else none) else (some ((true, ()), ())))) ((a0, a1, (0 : Int), ()), (()))))
noncomputable def S_laws_eqIntS (a0 : List Int) (a1 : List Int) : Option ((Bool × Unit) × (Unit)) := lim fun N => p_laws_eqIntS N a0 a1

noncomputable def p_laws_szIntS (N : Nat) (a0 : List Int) (a1 : Int) : Option ((Int × Unit) × (Unit)) :=
  (if (decide ((IntKind.i64.wrap (a1 - (a0.length : Int))) < (0 : Int))) then (some (((-1 : Int), ()), ())) else (some (((IntKind.i64.wrap (a1 - (a0.length : Int))), ()), ())))
noncomputable def S_laws_szIntS (a0 : List Int) (a1 : Int) : Option ((Int × Unit) × (Unit)) := p_laws_szIntS 0 a0 a1

noncomputable def p_laws_toIntS (N : Nat) (a0 : List Int) : Option ((List Int × Unit) × (Unit)) :=
  (if (decide ((0 : Int) ≤ (a0.length : Int))) then (if ((a0.length : Int) == (a0.length : Int)) then (if (decide ((a0.length : Int) * 8 ≤ 140737488355328)) then (loopN N (fun rec1 (d2 : (List Int × Int × Unit) × (List Int × List Int × Unit)) => (if (decide (d2.1.2.1 < (d2.1.1.length : Int))) then (if (decide (0 ≤ d2.1.2.1)) then (if (decide (d2.1.2.1 < d2.1.1.length)) then (if (decide (0 ≤ d2.1.2.1)) then (if (decide (d2.1.2.1 < d2.2.2.1.length)) then (rec1 ((d2.1.1, (IntKind.i64.wrap (d2.1.2.1 + (1 : Int))), ()), (d2.2.1, (d2.2.2.1.set d2.1.2.1.toNat (rd d2.1.1 d2.1.2.1 (0 : Int))), ()))) else none) else none) else none) else none) else (some ((d2.2.2.1, ()), ())))) ((a0, (0 : Int), ()), (([] : List Int), (List.replicate (a0.length : Int).toNat (0 : Int)), ()))) else none) else none) else none)
noncomputable def S_laws_toIntS (a0 : List Int) : Option ((List Int × Unit) × (Unit)) := lim fun N => p_laws_toIntS N a0

noncomputable def p_laws_toCmd (N : Nat) (a0 : T2) : Option ((T2 × Unit) × (Unit)) :=
  (some ((a0, ()), ()))
noncomputable def S_laws_toCmd (a0 : T2) : Option ((T2 × Unit) × (Unit)) := p_laws_toCmd 0 a0

noncomputable def p_laws_eqCmd (N : Nat) (a0 : T2) (a1 : T2) : Option ((Bool × Unit) × (Unit)) :=
  (if (a0.1 != a1.1) then (some ((false, ()), ())) else (if (a0.2.1 != a1.2.1) then (some ((false, ()), ())) else (if (a0.2.2.1 != a1.2.2.1) then (some ((false, ()), ())) else (if (a0.2.2.2.1 != a1.2.2.2.1) then (some ((false, ()), ())) else (if (a0.2.2.2.2.1 != a1.2.2.2.2.1) then (some ((false, ()), ())) else (some ((true, ()), ())))))))
noncomputable def S_laws_eqCmd (a0 : T2) (a1 : T2) : Option ((Bool × Unit) × (Unit)) := p_laws_eqCmd 0 a0 a1

noncomputable def p_laws_szAttr (N : Nat) (a0 : T6) (a1 : Int) : Option ((Int × Unit) × (Unit)) :=
  ((S_laws_szIntS a0.2.1 a1).bind fun y1 => (if (decide (y1.1.1 < (0 : Int))) then (some (((-1 : Int), ()), ())) else (some ((y1.1.1, ()), ()))))
noncomputable def S_laws_szAttr (a0 : T6) (a1 : Int) : Option ((Int × Unit) × (Unit)) := p_laws_szAttr 0 a0 a1

noncomputable def p_laws_toAttr (N : Nat) (a0 : T6) : Option ((T6 × Unit) × (Unit)) :=
  ((S_laws_toIntS a0.2.1).bind fun y1 => (some (((a0.1, y1.1.1, ()), ()), ())))
noncomputable def S_laws_toAttr (a0 : T6) : Option ((T6 × Unit) × (Unit)) := p_laws_toAttr 0 a0

noncomputable def p_laws_eqAttr (N : Nat) (a0 : T6) (a1 : T6) : Option ((Bool × Unit) × (Unit)) :=
  (if (a0.1 != a1.1) then (some ((false, ()), ())) else ((S_laws_eqIntS a0.2.1 a1.2.1).bind fun y1 => (if (!y1.1.1) then (some ((false, ()), ())) else (some ((true, ()), ())))))
noncomputable def S_laws_eqAttr (a0 : T6) (a1 : T6) : Option ((Bool × Unit) × (Unit)) := p_laws_eqAttr 0 a0 a1

noncomputable def p_laws_szMsg (N : Nat) (a0 : T11) (a1 : Int) : Option ((Int × Unit) × (Unit)) :=
  ((S_laws_szAttr a0.2.2.2.2.2.2.2.2.2.1 a1).bind fun y1 => (if (decide (y1.1.1 < (0 : Int))) then (some (((-1 : Int), ()), ())) else (some ((y1.1.1, ()), ()))))
noncomputable def S_laws_szMsg (a0 : T11) (a1 : Int) : Option ((Int × Unit) × (Unit)) := p_laws_szMsg 0 a0 a1

noncomputable def p_laws_toMsg (N : Nat) (a0 : T11) : Option ((T11 × Unit) × (Unit)) :=
  ((S_laws_toCmd a0.2.2.2.2.2.2.2.2.1).bind fun y1 => ((S_laws_toAttr a0.2.2.2.2.2.2.2.2.2.1).bind fun y2 => (some (((a0.1, a0.2.1, a0.2.2.1, a0.2.2.2.1, a0.2.2.2.2.1, a0.2.2.2.2.2.1, a0.2.2.2.2.2.2.1, a0.2.2.2.2.2.2.2.1, y1.1.1, y2.1.1, ()), ()), ()))))
noncomputable def S_laws_toMsg (a0 : T11) : Option ((T11 × Unit) × (Unit)) := p_laws_toMsg 0 a0

noncomputable def p_spec_l1Num : Nat → (Int) → Option ((ByteArray × Unit) × (Unit))
  | 0, _ => none
  | N + 1, a0 => (if (decide (a0 < (10 : Int))) then (some (((strOf ([(IntKind.u8.wrap (IntKind.i64.wrap ((48 : Int) + a0)))] : List Int)), ()), ())) else (if ((10 : Int) == (0 : Int)) then none else ((p_spec_l1Num N (IntKind.i64.wrap (a0.tdiv (10 : Int)))).bind fun y1 => (if ((10 : Int) == (0 : Int)) then none else (if (decide (y1.1.1.size + (strOf ([(IntKind.u8.wrap (IntKind.i64.wrap ((48 : Int) + (Int.tmod a0 (10 : Int)))))] : List Int)).size ≤ 9223372036854775807)) then (some (((y1.1.1 ++ (strOf ([(IntKind.u8.wrap (IntKind.i64.wrap ((48 : Int) + (Int.tmod a0 (10 : Int)))))] : List Int))), ()), ())) else none)))))
noncomputable def S_spec_l1Num (a0 : Int) : Option ((ByteArray × Unit) × (Unit)) := lim fun N => p_spec_l1Num N a0

noncomputable def p_spec_l17Int (N : Nat) (a0 : Int) : Option ((ByteArray × Unit) × (Unit)) :=
  (if (decide (a0 < (0 : Int))) then (some (((⟨#[45]⟩ : ByteArray), ()), ())) else ((S_spec_l1Num a0).bind fun y1 => (some ((y1.1.1, ()), ()))))
noncomputable def S_spec_l17Int (a0 : Int) : Option ((ByteArray × Unit) × (Unit)) := p_spec_l17Int 0 a0

noncomputable def p_spec_MsgLine (N : Nat) (a0 : T11) : Option ((ByteArray × Unit) × (Unit)) :=
  ((S_spec_l17Int a0.1).bind fun y1 => (loopN N (fun rec2 (d3 : (ByteArray × Int × Int × Unit) × ((Int × Int × Int × Int × Int × Int × Int × Int × Int × Int × Int × Int × Int × Int × List Int × Unit) × List Int × Unit)) => (if (decide (d3.1.2.2.1 < d3.1.2.1)) then (if (decide (0 ≤ d3.1.2.2.1)) then (if (decide (d3.1.2.2.1 < d3.2.2.1.length)) then ((S_spec_l17Int (rd d3.2.2.1 d3.1.2.2.1 (0 : Int))).bind fun y4 => (if (decide ((⟨#[32]⟩ : ByteArray).size + y4.1.1.size ≤ 9223372036854775807)) then (if (decide (d3.1.1.size + ((⟨#[32]⟩ : ByteArray) ++ y4.1.1).size ≤ 9223372036854775807)) then (rec2 (((d3.1.1 ++ ((⟨#[32]⟩ : ByteArray) ++ y4.1.1)), d3.1.2.1, (IntKind.i64.wrap (d3.1.2.2.1 + (1 : Int))), ()), ((d3.2.1.1, d3.2.1.2.1, d3.2.1.2.2.1, d3.2.1.2.2.2.1, d3.2.1.2.2.2.2.1, d3.2.1.2.2.2.2.2.1, d3.2.1.2.2.2.2.2.2.1, d3.2.1.2.2.2.2.2.2.2.1, d3.2.1.2.2.2.2.2.2.2.2.1, d3.2.1.2.2.2.2.2.2.2.2.2.1, d3.2.1.2.2.2.2.2.2.2.2.2.2.1, d3.2.1.2.2.2.2.2.2.2.2.2.2.2.1, d3.2.1.2.2.2.2.2.2.2.2.2.2.2.2.1, d3.2.1.2.2.2.2.2.2.2.2.2.2.2.2.2.1, d3.2.1.2.2.2.2.2.2.2.2.2.2.2.2.2.2.1, ()), d3.2.2.1, ()))) else none) else none)) else none) else none) else (some ((d3.1.1, ()), ())))) ((y1.1.1, (([a0.2.1, a0.2.2.1, a0.2.2.2.1, a0.2.2.2.2.1, a0.2.2.2.2.2.1, a0.2.2.2.2.2.2.1, a0.2.2.2.2.2.2.2.1] : List Int).length : Int), (0 : Int), ()), ((a0.1, a0.2.1, a0.2.2.1, a0.2.2.2.1, a0.2.2.2.2.1, a0.2.2.2.2.2.1, a0.2.2.2.2.2.2.1, a0.2.2.2.2.2.2.2.1, a0.2.2.2.2.2.2.2.2.1.1, a0.2.2.2.2.2.2.2.2.1.2.1, a0.2.2.2.2.2.2.2.2.1.2.2.1, a0.2.2.2.2.2.2.2.2.1.2.2.2.1, a0.2.2.2.2.2.2.2.2.1.2.2.2.2.1, a0.2.2.2.2.2.2.2.2.2.1.1, a0.2.2.2.2.2.2.2.2.2.1.2.1, ()), ([a0.2.1, a0.2.2.1, a0.2.2.2.1, a0.2.2.2.2.1, a0.2.2.2.2.2.1, a0.2.2.2.2.2.2.1, a0.2.2.2.2.2.2.2.1] : List Int), ()))))
noncomputable def S_spec_MsgLine (a0 : T11) : Option ((ByteArray × Unit) × (Unit)) := lim fun N => p_spec_MsgLine N a0

noncomputable def p_impl_MsgLine (N : Nat) (a0 : T11) : Option ((ByteArray × Unit) × (Unit)) :=
  (loopN N (fun rec1 (d2 : (Int × Int × Unit) × ((Int × Int × Int × Int × Int × Int × Int × Int × Int × Int × Int × Int × Int × Int × List Int × Unit) × List ByteArray × List Int × Unit)) => (if (decide (d2.1.2.1 < d2.1.1)) then (if (decide (0 ≤ d2.1.2.1)) then (if (decide (d2.1.2.1 < d2.2.2.2.1.length)) then (if (decide ((rd d2.2.2.2.1 d2.1.2.1 (0 : Int)) < (0 : Int))) then (if (decide ((d2.2.2.1.length + ([(⟨#[45]⟩ : ByteArray)] : List ByteArray).length) * 16 ≤ 140737488355328)) then (rec1 ((d2.1.1, (IntKind.i64.wrap (d2.1.2.1 + (1 : Int))), ()), ((d2.2.1.1, d2.2.1.2.1, d2.2.1.2.2.1, d2.2.1.2.2.2.1, d2.2.1.2.2.2.2.1, d2.2.1.2.2.2.2.2.1, d2.2.1.2.2.2.2.2.2.1, d2.2.1.2.2.2.2.2.2.2.1, d2.2.1.2.2.2.2.2.2.2.2.1, d2.2.1.2.2.2.2.2.2.2.2.2.1, d2.2.1.2.2.2.2.2.2.2.2.2.2.1, d2.2.1.2.2.2.2.2.2.2.2.2.2.2.1, d2.2.1.2.2.2.2.2.2.2.2.2.2.2.2.1, d2.2.1.2.2.2.2.2.2.2.2.2.2.2.2.2.1, d2.2.1.2.2.2.2.2.2.2.2.2.2.2.2.2.2.1, ()), (d2.2.2.1 ++ ([(⟨#[45]⟩ : ByteArray)] : List ByteArray)), d2.2.2.2.1, ()))) else none) else ((S_strconv_Itoa (rd d2.2.2.2.1 d2.1.2.1 (0 : Int))).bind fun y3 => (if (decide ((d2.2.2.1.length + ([y3.1.1] : List ByteArray).length) * 16 ≤ 140737488355328)) then (rec1 ((d2.1.1, (IntKind.i64.wrap (d2.1.2.1 + (1 : Int))), ()), ((d2.2.1.1, d2.2.1.2.1, d2.2.1.2.2.1, d2.2.1.2.2.2.1, d2.2.1.2.2.2.2.1, d2.2.1.2.2.2.2.2.1, d2.2.1.2.2.2.2.2.2.1, d2.2.1.2.2.2.2.2.2.2.1, d2.2.1.2.2.2.2.2.2.2.2.1, d2.2.1.2.2.2.2.2.2.2.2.2.1, d2.2.1.2.2.2.2.2.2.2.2.2.2.1, d2.2.1.2.2.2.2.2.2.2.2.2.2.2.1, d2.2.1.2.2.2.2.2.2.2.2.2.2.2.2.1, d2.2.1.2.2.2.2.2.2.2.2.2.2.2.2.2.1, d2.2.1.2.2.2.2.2.2.2.2.2.2.2.2.2.2.1, ()), (d2.2.2.1 ++ ([y3.1.1] : List ByteArray)), d2.2.2.2.1, ()))) else none))) else none) else none) else ((S_strings_Join d2.2.2.1 (⟨#[32]⟩ : ByteArray)).bind fun y4 => (some ((y4.1.1, ()), ()))))) (((([a0.1, a0.2.1, a0.2.2.1, a0.2.2.2.1, a0.2.2.2.2.1, a0.2.2.2.2.2.1, a0.2.2.2.2.2.2.1, a0.2.2.2.2.2.2.2.1] : List Int).length : Int), (0 : Int), ()), ((a0.1, a0.2.1, a0.2.2.1, a0.2.2.2.1, a0.2.2.2.2.1, a0.2.2.2.2.2.1, a0.2.2.2.2.2.2.1, a0.2.2.2.2.2.2.2.1, a0.2.2.2.2.2.2.2.2.1.1, a0.2.2.2.2.2.2.2.2.1.2.1, a0.2.2.2.2.2.2.2.2.1.2.2.1, a0.2.2.2.2.2.2.2.2.1.2.2.2.1, a0.2.2.2.2.2.2.2.2.1.2.2.2.2.1, a0.2.2.2.2.2.2.2.2.2.1.1, a0.2.2.2.2.2.2.2.2.2.1.2.1, ()), ([] : List ByteArray), ([a0.1, a0.2.1, a0.2.2.1, a0.2.2.2.1, a0.2.2.2.2.1, a0.2.2.2.2.2.1, a0.2.2.2.2.2.2.1, a0.2.2.2.2.2.2.2.1] : List Int), ())))
noncomputable def S_impl_MsgLine (a0 : T11) : Option ((ByteArray × Unit) × (Unit)) := lim fun N => p_impl_MsgLine N a0

noncomputable def p_laws_eqMsg (N : Nat) (a0 : T11) (a1 : T11) : Option ((Bool × Unit) × (Unit)) :=
  (if (a0.1 != a1.1) then (some ((false, ()), ())) else (if (a0.2.1 != a1.2.1) then (some ((false, ()), ())) else (if (a0.2.2.1 != a1.2.2.1) then (some ((false, ()), ())) else (if (a0.2.2.2.1 != a1.2.2.2.1) then (some ((false, ()), ())) else (if (a0.2.2.2.2.1 != a1.2.2.2.2.1) then (some ((false, ()), ())) else (if (a0.2.2.2.2.2.1 != a1.2.2.2.2.2.1) then (some ((false, ()), ())) else (if (a0.2.2.2.2.2.2.1 != a1.2.2.2.2.2.2.1) then (some ((false, ()), ())) else (if (a0.2.2.2.2.2.2.2.1 != a1.2.2.2.2.2.2.2.1) then (some ((false, ()), ())) else ((S_laws_eqCmd a0.2.2.2.2.2.2.2.2.1 a1.2.2.2.2.2.2.2.2.1).bind fun y1 => (if (!y1.1.1) then (some ((false, ()), ())) else ((S_laws_eqAttr a0.2.2.2.2.2.2.2.2.2.1 a1.2.2.2.2.2.2.2.2.2.1).bind fun y2 => (if (!y2.1.1) then (some ((false, ()), ())) else (some ((true, ()), ()))))))))))))))
noncomputable def S_laws_eqMsg (a0 : T11) (a1 : T11) : Option ((Bool × Unit) × (Unit)) := p_laws_eqMsg 0 a0 a1

noncomputable def p_laws_FnExactMsgLine (N : Nat) (a0 : T11) : Option ((Bool × Unit) × (Unit)) :=
  ((S_laws_szMsg a0 (1048576 : Int)).bind fun y1 => (if (decide (y1.1.1 < (0 : Int))) then (some ((true, ()), ())) else ((S_laws_toMsg a0).bind fun y2 => ((S_spec_MsgLine y2.1.1).bind fun y3 => ((S_laws_toMsg a0).bind fun y4 => ((S_impl_MsgLine y4.1.1).bind fun y5 => (if (!(y5.1.1.toList == y3.1.1.toList)) then (some ((false, ()), ())) else ((S_laws_toMsg a0).bind fun y6 => ((S_laws_eqMsg y4.1.1 y6.1.1).bind fun y7 => (if (!y7.1.1) then (some ((false, ()), ())) else (some ((true, ()), ()))))))))))))
end Go.AM.P
