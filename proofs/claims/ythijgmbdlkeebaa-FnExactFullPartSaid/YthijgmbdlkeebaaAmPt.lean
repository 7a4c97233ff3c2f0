/- Types of the data. No condition. -/
import Derived.Test.YthijgmbdlkeebaaAmLim
set_option linter.unusedVariables false
namespace Go.AM.P
open Go.AM
abbrev T0 : Type := Int × Int × List (List Int) × List Int × Unit
def Z0 : T0 := ((0 : Int), (0 : Int), ([] : List (List Int)), ([] : List Int), ())
abbrev T1 : Type := List (List Int) × List Int × Unit
def Z1 : T1 := (([] : List (List Int)), ([] : List Int), ())
abbrev T2 : Type := Int × Int × Int × Int × Int × Unit
def Z2 : T2 := ((0 : Int), (0 : Int), (0 : Int), (0 : Int), (0 : Int), ())
abbrev T3 : Type := Int × Int × Unit
def Z3 : T3 := ((0 : Int), (0 : Int), ())
abbrev T4 : Type := Int × Int × T2 × T3 × Unit
def Z4 : T4 := ((0 : Int), (0 : Int), ((0 : Int), (0 : Int), (0 : Int), (0 : Int), (0 : Int), ()), ((0 : Int), (0 : Int), ()), ())
abbrev T5 : Type := Int × Int × T3 × Unit
def Z5 : T5 := ((0 : Int), (0 : Int), ((0 : Int), (0 : Int), ()), ())
abbrev T6 : Type := Int × List Int × Unit
def Z6 : T6 := ((0 : Int), ([] : List Int), ())
abbrev T7 : Type := Int × Int × Int × T2 × T6 × Unit
def Z7 : T7 := ((0 : Int), (0 : Int), (0 : Int), ((0 : Int), (0 : Int), (0 : Int), (0 : Int), (0 : Int), ()), ((0 : Int), ([] : List Int), ()), ())
abbrev T8 : Type := Int × List (List T7) × Unit
def Z8 : T8 := ((0 : Int), ([] : List (List T7)), ())
abbrev T9 : Type := Int × Int × Int × Int × T2 × T6 × T6 × Bool × List Int × List T7 × Unit
def Z9 : T9 := ((0 : Int), (0 : Int), (0 : Int), (0 : Int), ((0 : Int), (0 : Int), (0 : Int), (0 : Int), (0 : Int), ()), ((0 : Int), ([] : List Int), ()), ((0 : Int), ([] : List Int), ()), false, ([] : List Int), ([] : List T7), ())
abbrev T10 : Type := Int × T8 × List T9 × Unit
def Z10 : T10 := ((0 : Int), ((0 : Int), ([] : List (List T7)), ()), ([] : List T9), ())
abbrev T11 : Type := Int × Int × Int × Int × Int × Int × Int × Int × T2 × T6 × Unit
def Z11 : T11 := ((0 : Int), (0 : Int), (0 : Int), (0 : Int), (0 : Int), (0 : Int), (0 : Int), (0 : Int), ((0 : Int), (0 : Int), (0 : Int), (0 : Int), (0 : Int), ()), ((0 : Int), ([] : List Int), ()), ())
abbrev T12 : Type := Int × Int × T2 × Unit
def Z12 : T12 := ((0 : Int), (0 : Int), ((0 : Int), (0 : Int), (0 : Int), (0 : Int), (0 : Int), ()), ())
abbrev T13 : Type := List T10 × List T11 × List T12 × Unit
def Z13 : T13 := (([] : List T10), ([] : List T11), ([] : List T12), ())
end Go.AM.P
