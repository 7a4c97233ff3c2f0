/- The types of the seat. No condition. -/
import Derived.Test.YtmnekhlgldljcaaGreatDoorAmLaw
import Derived.Test.YtmnekhlgldljcaaGreatDoorProg
import Derived.Test.YtmnekhlgldljcaaGreatDoorAmStr
set_option linter.unusedVariables false
set_option maxRecDepth 100000
namespace Go.Proofs.YtmnekhlgldljcaaGreatDoor.Am
open Go.AM Go.Proofs Go.Shelf
noncomputable def fa : Facts := ⟨4, fun W => W.ShapedOpen Tryz.prog ∧ Lib.TabIs Tryz.prog W "internal/strconv.uint64pow10" .u64 Lib.pow10Tab, true⟩
theorem mixed : Tryz.prog.follows .mixedOrders = true := by kernel_rfl
def ti2 : TI := ⟨.data, (.int .i64), false, 8⟩
def ti3 : TI := ⟨.data, (.int .i64), false, 8⟩
def ti4 : TI := ⟨.data, .bool, false, 1⟩
def ti5 : TI := ⟨.data, (.int .u8), false, 1⟩
def ti6 : TI := ⟨.data, (.int .u8), false, 1⟩
def ti7 : TI := ⟨.struct [⟨0, 1, 2⟩, ⟨1, 1, 3⟩, ⟨2, 1, 4⟩, ⟨3, 1, 6⟩], (.pair (.int .i64) (.pair (.int .i64) (.pair .bool (.pair (.int .u8) .unit)))), true, 24⟩
def ti8 : TI := ⟨.struct [⟨0, 1, 2⟩, ⟨1, 1, 3⟩, ⟨2, 1, 4⟩, ⟨3, 1, 6⟩], (.pair (.int .i64) (.pair (.int .i64) (.pair .bool (.pair (.int .u8) .unit)))), true, 24⟩
def ti9 : TI := ⟨.data, .str, false, 16⟩
def ti10 : TI := ⟨.data, .str, false, 16⟩
def ti11 : TI := ⟨.data, .str, false, 16⟩
def ti12 : TI := ⟨.data, (.int .u64), false, 8⟩
def ti13 : TI := ⟨.struct [⟨0, 1, 9⟩, ⟨1, 1, 12⟩], (.pair .str (.pair (.int .u64) .unit)), true, 24⟩
def ti14 : TI := ⟨.struct [⟨0, 1, 9⟩, ⟨1, 1, 12⟩], (.pair .str (.pair (.int .u64) .unit)), true, 24⟩
def ti21 : TI := ⟨.data, (.int .i32), false, 4⟩
def ti22 : TI := ⟨.slice 5, (.slice 5 (.int .u8)), false, 24⟩
def ti24 : TI := ⟨.struct [⟨0, 1, 3⟩, ⟨1, 1, 3⟩, ⟨2, 1, 3⟩, ⟨3, 1, 3⟩, ⟨4, 1, 3⟩], (.pair (.int .i64) (.pair (.int .i64) (.pair (.int .i64) (.pair (.int .i64) (.pair (.int .i64) .unit))))), true, 40⟩
def ti25 : TI := ⟨.struct [⟨0, 1, 3⟩, ⟨1, 1, 3⟩, ⟨2, 1, 3⟩, ⟨3, 1, 3⟩, ⟨4, 1, 3⟩], (.pair (.int .i64) (.pair (.int .i64) (.pair (.int .i64) (.pair (.int .i64) (.pair (.int .i64) .unit))))), true, 40⟩
def ti26 : TI := ⟨.slice 3, (.slice 3 (.int .i64)), false, 24⟩
def ti27 : TI := ⟨.struct [⟨0, 1, 3⟩, ⟨1, 1, 26⟩], (.pair (.int .i64) (.pair (.slice 3 (.int .i64)) .unit)), true, 32⟩
def ti28 : TI := ⟨.struct [⟨0, 1, 3⟩, ⟨1, 1, 26⟩], (.pair (.int .i64) (.pair (.slice 3 (.int .i64)) .unit)), true, 32⟩
def ti29 : TI := ⟨.struct [⟨0, 1, 3⟩, ⟨1, 1, 3⟩, ⟨2, 1, 3⟩, ⟨3, 1, 3⟩, ⟨4, 1, 3⟩, ⟨5, 1, 3⟩, ⟨6, 1, 3⟩, ⟨7, 1, 3⟩, ⟨8, 5, 25⟩, ⟨13, 2, 28⟩], (.pair (.int .i64) (.pair (.int .i64) (.pair (.int .i64) (.pair (.int .i64) (.pair (.int .i64) (.pair (.int .i64) (.pair (.int .i64) (.pair (.int .i64) (.pair (.pair (.int .i64) (.pair (.int .i64) (.pair (.int .i64) (.pair (.int .i64) (.pair (.int .i64) .unit))))) (.pair (.pair (.int .i64) (.pair (.slice 3 (.int .i64)) .unit)) .unit)))))))))), true, 136⟩
def ti30 : TI := ⟨.struct [⟨0, 1, 3⟩, ⟨1, 1, 3⟩, ⟨2, 1, 3⟩, ⟨3, 1, 3⟩, ⟨4, 1, 3⟩, ⟨5, 1, 3⟩, ⟨6, 1, 3⟩, ⟨7, 1, 3⟩, ⟨8, 5, 25⟩, ⟨13, 2, 28⟩], (.pair (.int .i64) (.pair (.int .i64) (.pair (.int .i64) (.pair (.int .i64) (.pair (.int .i64) (.pair (.int .i64) (.pair (.int .i64) (.pair (.int .i64) (.pair (.pair (.int .i64) (.pair (.int .i64) (.pair (.int .i64) (.pair (.int .i64) (.pair (.int .i64) .unit))))) (.pair (.pair (.int .i64) (.pair (.slice 3 (.int .i64)) .unit)) .unit)))))))))), true, 136⟩
def ti42 : TI := ⟨.slice 30, (.slice 30 (.pair (.int .i64) (.pair (.int .i64) (.pair (.int .i64) (.pair (.int .i64) (.pair (.int .i64) (.pair (.int .i64) (.pair (.int .i64) (.pair (.int .i64) (.pair (.pair (.int .i64) (.pair (.int .i64) (.pair (.int .i64) (.pair (.int .i64) (.pair (.int .i64) .unit))))) (.pair (.pair (.int .i64) (.pair (.slice 3 (.int .i64)) .unit)) .unit))))))))))), false, 24⟩
def ti49 : TI := ⟨.struct [⟨0, 1, 9⟩, ⟨1, 1, 3⟩], (.pair .str (.pair (.int .i64) .unit)), true, 24⟩
def ti50 : TI := ⟨.struct [⟨0, 1, 9⟩, ⟨1, 1, 3⟩], (.pair .str (.pair (.int .i64) .unit)), true, 24⟩
def ti63 : TI := ⟨.data, (.int .u64), false, 8⟩
def ti64 : TI := ⟨.struct [⟨0, 1, 22⟩, ⟨1, 1, 3⟩, ⟨2, 1, 63⟩], (.pair (.slice 5 (.int .u8)) (.pair (.int .i64) (.pair (.int .u64) .unit))), true, 40⟩
def ti65 : TI := ⟨.struct [⟨0, 1, 22⟩, ⟨1, 1, 3⟩, ⟨2, 1, 63⟩], (.pair (.slice 5 (.int .u8)) (.pair (.int .i64) (.pair (.int .u64) .unit))), true, 40⟩
def ti75 : TI := ⟨.slice 9, (.slice 9 .str), false, 24⟩
def ti100 : TI := ⟨.struct [⟨0, 1, 3⟩, ⟨1, 1, 3⟩, ⟨2, 1, 3⟩, ⟨3, 5, 25⟩, ⟨8, 2, 28⟩], (.pair (.int .i64) (.pair (.int .i64) (.pair (.int .i64) (.pair (.pair (.int .i64) (.pair (.int .i64) (.pair (.int .i64) (.pair (.int .i64) (.pair (.int .i64) .unit))))) (.pair (.pair (.int .i64) (.pair (.slice 3 (.int .i64)) .unit)) .unit))))), true, 96⟩
def ti101 : TI := ⟨.struct [⟨0, 1, 3⟩, ⟨1, 1, 3⟩, ⟨2, 1, 3⟩, ⟨3, 5, 25⟩, ⟨8, 2, 28⟩], (.pair (.int .i64) (.pair (.int .i64) (.pair (.int .i64) (.pair (.pair (.int .i64) (.pair (.int .i64) (.pair (.int .i64) (.pair (.int .i64) (.pair (.int .i64) .unit))))) (.pair (.pair (.int .i64) (.pair (.slice 3 (.int .i64)) .unit)) .unit))))), true, 96⟩
def ti114 : TI := ⟨.data, (.int .u64), false, 8⟩
def ti145 : TI := ⟨.struct [⟨0, 1, 5⟩, ⟨1, 1, 5⟩], (.pair (.int .u8) (.pair (.int .u8) .unit)), true, 2⟩
def ti146 : TI := ⟨.struct [⟨0, 1, 5⟩, ⟨1, 1, 5⟩], (.pair (.int .u8) (.pair (.int .u8) .unit)), true, 2⟩
def ti148 : TI := ⟨.data, (.int .u32), false, 4⟩
def ti166 : TI := ⟨.data, (.int .u8), false, 1⟩
def ti167 : TI := ⟨.data, (.int .u8), false, 1⟩
def ti169 : TI := ⟨.data, (.int .i32), false, 4⟩
def ti170 : TI := ⟨.data, (.int .i32), false, 4⟩
def tab : List (TypeId × TI) := [(2, ti2), (3, ti3), (4, ti4), (5, ti5), (6, ti6), (7, ti7), (8, ti8), (9, ti9), (10, ti10), (11, ti11), (12, ti12), (13, ti13), (14, ti14), (21, ti21), (22, ti22), (24, ti24), (25, ti25), (26, ti26), (27, ti27), (28, ti28), (29, ti29), (30, ti30), (42, ti42), (49, ti49), (50, ti50), (63, ti63), (64, ti64), (65, ti65), (75, ti75), (100, ti100), (101, ti101), (114, ti114), (145, ti145), (146, ti146), (148, ti148), (166, ti166), (167, ti167), (169, ti169), (170, ti170)]
theorem tab2 : TabOk Tryz.prog 2 ti2 := tabInt (by kernel_rfl) rfl rfl Tryz.underlying2 rfl
theorem tab3 : TabOk Tryz.prog 3 ti3 := tabInt (by kernel_rfl) rfl rfl Tryz.underlying3 rfl
theorem tab4 : TabOk Tryz.prog 4 ti4 := tabBool (by kernel_rfl) rfl rfl Tryz.underlying4 rfl
theorem tab5 : TabOk Tryz.prog 5 ti5 := tabInt (by kernel_rfl) rfl rfl Tryz.underlying5 rfl
theorem tab6 : TabOk Tryz.prog 6 ti6 := tabInt (by kernel_rfl) rfl rfl Tryz.underlying6 rfl
theorem tab7 : TabOk Tryz.prog 7 ti7 := tabStruct (by kernel_rfl) rfl rfl Tryz.underlying7 (by kernel_rfl) (by kernel_rfl)
theorem tab8 : TabOk Tryz.prog 8 ti8 := tabStruct (by kernel_rfl) rfl rfl Tryz.underlying8 (by kernel_rfl) (by kernel_rfl)
theorem tab9 : TabOk Tryz.prog 9 ti9 := tabStr (by kernel_rfl) rfl rfl Tryz.underlying9 rfl
theorem tab10 : TabOk Tryz.prog 10 ti10 := tabStr (by kernel_rfl) rfl rfl Tryz.underlying10 rfl
theorem tab11 : TabOk Tryz.prog 11 ti11 := tabStr (by kernel_rfl) rfl rfl Tryz.underlying11 rfl
theorem tab12 : TabOk Tryz.prog 12 ti12 := tabInt (by kernel_rfl) rfl rfl Tryz.underlying12 rfl
theorem tab13 : TabOk Tryz.prog 13 ti13 := tabStruct (by kernel_rfl) rfl rfl Tryz.underlying13 (by kernel_rfl) (by kernel_rfl)
theorem tab14 : TabOk Tryz.prog 14 ti14 := tabStruct (by kernel_rfl) rfl rfl Tryz.underlying14 (by kernel_rfl) (by kernel_rfl)
theorem tab21 : TabOk Tryz.prog 21 ti21 := tabInt (by kernel_rfl) rfl rfl Tryz.underlying21 rfl
theorem tab22 : TabOk Tryz.prog 22 ti22 := tabSlice (by kernel_rfl) rfl rfl Tryz.underlying22 rfl
theorem tab24 : TabOk Tryz.prog 24 ti24 := tabStruct (by kernel_rfl) rfl rfl Tryz.underlying24 (by kernel_rfl) (by kernel_rfl)
theorem tab25 : TabOk Tryz.prog 25 ti25 := tabStruct (by kernel_rfl) rfl rfl Tryz.underlying25 (by kernel_rfl) (by kernel_rfl)
theorem tab26 : TabOk Tryz.prog 26 ti26 := tabSlice (by kernel_rfl) rfl rfl Tryz.underlying26 rfl
theorem tab27 : TabOk Tryz.prog 27 ti27 := tabStruct (by kernel_rfl) rfl rfl Tryz.underlying27 (by kernel_rfl) (by kernel_rfl)
theorem tab28 : TabOk Tryz.prog 28 ti28 := tabStruct (by kernel_rfl) rfl rfl Tryz.underlying28 (by kernel_rfl) (by kernel_rfl)
theorem tab29 : TabOk Tryz.prog 29 ti29 := tabStruct (by kernel_rfl) rfl rfl Tryz.underlying29 (by kernel_rfl) (by kernel_rfl)
theorem tab30 : TabOk Tryz.prog 30 ti30 := tabStruct (by kernel_rfl) rfl rfl Tryz.underlying30 (by kernel_rfl) (by kernel_rfl)
theorem tab42 : TabOk Tryz.prog 42 ti42 := tabSlice (by kernel_rfl) rfl rfl Tryz.underlying42 rfl
theorem tab49 : TabOk Tryz.prog 49 ti49 := tabStruct (by kernel_rfl) rfl rfl Tryz.underlying49 (by kernel_rfl) (by kernel_rfl)
theorem tab50 : TabOk Tryz.prog 50 ti50 := tabStruct (by kernel_rfl) rfl rfl Tryz.underlying50 (by kernel_rfl) (by kernel_rfl)
theorem tab63 : TabOk Tryz.prog 63 ti63 := tabInt (by kernel_rfl) rfl rfl Tryz.underlying63 rfl
theorem tab64 : TabOk Tryz.prog 64 ti64 := tabStruct (by kernel_rfl) rfl rfl Tryz.underlying64 (by kernel_rfl) (by kernel_rfl)
theorem tab65 : TabOk Tryz.prog 65 ti65 := tabStruct (by kernel_rfl) rfl rfl Tryz.underlying65 (by kernel_rfl) (by kernel_rfl)
theorem tab75 : TabOk Tryz.prog 75 ti75 := tabSlice (by kernel_rfl) rfl rfl Tryz.underlying75 rfl
theorem tab100 : TabOk Tryz.prog 100 ti100 := tabStruct (by kernel_rfl) rfl rfl Tryz.underlying100 (by kernel_rfl) (by kernel_rfl)
theorem tab101 : TabOk Tryz.prog 101 ti101 := tabStruct (by kernel_rfl) rfl rfl Tryz.underlying101 (by kernel_rfl) (by kernel_rfl)
theorem tab114 : TabOk Tryz.prog 114 ti114 := tabInt (by kernel_rfl) rfl rfl Tryz.underlying114 rfl
theorem tab145 : TabOk Tryz.prog 145 ti145 := tabStruct (by kernel_rfl) rfl rfl Tryz.underlying145 (by kernel_rfl) (by kernel_rfl)
theorem tab146 : TabOk Tryz.prog 146 ti146 := tabStruct (by kernel_rfl) rfl rfl Tryz.underlying146 (by kernel_rfl) (by kernel_rfl)
theorem tab148 : TabOk Tryz.prog 148 ti148 := tabInt (by kernel_rfl) rfl rfl Tryz.underlying148 rfl
theorem tab166 : TabOk Tryz.prog 166 ti166 := tabInt (by kernel_rfl) rfl rfl Tryz.underlying166 rfl
theorem tab167 : TabOk Tryz.prog 167 ti167 := tabInt (by kernel_rfl) rfl rfl Tryz.underlying167 rfl
theorem tab169 : TabOk Tryz.prog 169 ti169 := tabInt (by kernel_rfl) rfl rfl Tryz.underlying169 rfl
theorem tab170 : TabOk Tryz.prog 170 ti170 := tabInt (by kernel_rfl) rfl rfl Tryz.underlying170 rfl
theorem tabOk : AllIn (fun t ti => TabOk Tryz.prog t ti) tab := ⟨tab2, tab3, tab4, tab5, tab6, tab7, tab8, tab9, tab10, tab11, tab12, tab13, tab14, tab21, tab22, tab24, tab25, tab26, tab27, tab28, tab29, tab30, tab42, tab49, tab50, tab63, tab64, tab65, tab75, tab100, tab101, tab114, tab145, tab146, tab148, tab166, tab167, tab169, tab170, trivial⟩
theorem eq25 : EqS Tryz.prog 25 [false, false, false, false, false] := eqS_of Tryz.underlying25 (by kernel_rfl) (by kernel_rfl)
theorem eq50 : EqS Tryz.prog 50 [true, false] := eqS_of Tryz.underlying50 (by kernel_rfl) (by kernel_rfl)
end Go.Proofs.YtmnekhlgldljcaaGreatDoor.Am
