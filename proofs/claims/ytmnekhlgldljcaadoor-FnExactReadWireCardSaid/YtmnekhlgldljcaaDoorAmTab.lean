/- The types of the seat. No condition. -/
import Derived.Test.YtmnekhlgldljcaaDoorAmLaw
import Derived.Test.YtmnekhlgldljcaaDoorProg
import Derived.Test.YtmnekhlgldljcaaDoorAmStr
set_option linter.unusedVariables false
set_option maxRecDepth 100000
namespace Go.Proofs.YtmnekhlgldljcaaDoor.Am
open Go.AM Go.Proofs Go.Shelf
noncomputable def fa : Facts := ⟨1, fun W => W.ShapedOpen Tryd.prog, true⟩
theorem mixed : Tryd.prog.follows .mixedOrders = true := by kernel_rfl
def ti2 : TI := ⟨.data, (.int .i64), false, 8⟩
def ti3 : TI := ⟨.data, (.int .i64), false, 8⟩
def ti4 : TI := ⟨.data, .bool, false, 1⟩
def ti5 : TI := ⟨.data, (.int .u8), false, 1⟩
def ti6 : TI := ⟨.data, (.int .u8), false, 1⟩
def ti7 : TI := ⟨.struct [⟨0, 1, 2⟩, ⟨1, 1, 3⟩, ⟨2, 1, 4⟩, ⟨3, 1, 6⟩], (.pair (.int .i64) (.pair (.int .i64) (.pair .bool (.pair (.int .u8) .unit)))), true, 24⟩
def ti8 : TI := ⟨.struct [⟨0, 1, 2⟩, ⟨1, 1, 3⟩, ⟨2, 1, 4⟩, ⟨3, 1, 6⟩], (.pair (.int .i64) (.pair (.int .i64) (.pair .bool (.pair (.int .u8) .unit)))), true, 24⟩
def ti9 : TI := ⟨.data, .str, false, 16⟩
def ti10 : TI := ⟨.data, .str, false, 16⟩
def ti11 : TI := ⟨.data, .str, false, 16⟩
def ti12 : TI := ⟨.data, (.int .u64), false, 8⟩
def ti13 : TI := ⟨.struct [⟨0, 1, 9⟩, ⟨1, 1, 12⟩], (.pair .str (.pair (.int .u64) .unit)), true, 24⟩
def ti14 : TI := ⟨.struct [⟨0, 1, 9⟩, ⟨1, 1, 12⟩], (.pair .str (.pair (.int .u64) .unit)), true, 24⟩
def ti21 : TI := ⟨.data, (.int .i32), false, 4⟩
def ti22 : TI := ⟨.struct [⟨0, 1, 3⟩, ⟨1, 1, 3⟩, ⟨2, 1, 3⟩, ⟨3, 1, 3⟩, ⟨4, 1, 3⟩], (.pair (.int .i64) (.pair (.int .i64) (.pair (.int .i64) (.pair (.int .i64) (.pair (.int .i64) .unit))))), true, 40⟩
def ti23 : TI := ⟨.struct [⟨0, 1, 3⟩, ⟨1, 1, 3⟩, ⟨2, 1, 3⟩, ⟨3, 1, 3⟩, ⟨4, 1, 3⟩], (.pair (.int .i64) (.pair (.int .i64) (.pair (.int .i64) (.pair (.int .i64) (.pair (.int .i64) .unit))))), true, 40⟩
def ti24 : TI := ⟨.slice 3, (.slice 3 (.int .i64)), false, 24⟩
def ti25 : TI := ⟨.struct [⟨0, 1, 3⟩, ⟨1, 1, 24⟩], (.pair (.int .i64) (.pair (.slice 3 (.int .i64)) .unit)), true, 32⟩
def ti26 : TI := ⟨.struct [⟨0, 1, 3⟩, ⟨1, 1, 24⟩], (.pair (.int .i64) (.pair (.slice 3 (.int .i64)) .unit)), true, 32⟩
def ti27 : TI := ⟨.struct [⟨0, 1, 3⟩, ⟨1, 1, 3⟩, ⟨2, 1, 3⟩, ⟨3, 1, 3⟩, ⟨4, 1, 3⟩, ⟨5, 1, 3⟩, ⟨6, 1, 3⟩, ⟨7, 1, 3⟩, ⟨8, 5, 23⟩, ⟨13, 2, 26⟩], (.pair (.int .i64) (.pair (.int .i64) (.pair (.int .i64) (.pair (.int .i64) (.pair (.int .i64) (.pair (.int .i64) (.pair (.int .i64) (.pair (.int .i64) (.pair (.pair (.int .i64) (.pair (.int .i64) (.pair (.int .i64) (.pair (.int .i64) (.pair (.int .i64) .unit))))) (.pair (.pair (.int .i64) (.pair (.slice 3 (.int .i64)) .unit)) .unit)))))))))), true, 136⟩
def ti28 : TI := ⟨.struct [⟨0, 1, 3⟩, ⟨1, 1, 3⟩, ⟨2, 1, 3⟩, ⟨3, 1, 3⟩, ⟨4, 1, 3⟩, ⟨5, 1, 3⟩, ⟨6, 1, 3⟩, ⟨7, 1, 3⟩, ⟨8, 5, 23⟩, ⟨13, 2, 26⟩], (.pair (.int .i64) (.pair (.int .i64) (.pair (.int .i64) (.pair (.int .i64) (.pair (.int .i64) (.pair (.int .i64) (.pair (.int .i64) (.pair (.int .i64) (.pair (.pair (.int .i64) (.pair (.int .i64) (.pair (.int .i64) (.pair (.int .i64) (.pair (.int .i64) .unit))))) (.pair (.pair (.int .i64) (.pair (.slice 3 (.int .i64)) .unit)) .unit)))))))))), true, 136⟩
def ti31 : TI := ⟨.struct [⟨0, 1, 3⟩, ⟨1, 1, 3⟩, ⟨2, 1, 3⟩, ⟨3, 1, 3⟩, ⟨4, 1, 3⟩], (.pair (.int .i64) (.pair (.int .i64) (.pair (.int .i64) (.pair (.int .i64) (.pair (.int .i64) .unit))))), true, 40⟩
def ti32 : TI := ⟨.struct [⟨0, 1, 3⟩, ⟨1, 1, 24⟩], (.pair (.int .i64) (.pair (.slice 3 (.int .i64)) .unit)), true, 32⟩
def ti33 : TI := ⟨.struct [⟨0, 1, 3⟩, ⟨1, 1, 3⟩, ⟨2, 1, 3⟩, ⟨3, 1, 3⟩, ⟨4, 1, 3⟩, ⟨5, 1, 3⟩, ⟨6, 1, 3⟩, ⟨7, 1, 3⟩, ⟨8, 5, 31⟩, ⟨13, 2, 32⟩], (.pair (.int .i64) (.pair (.int .i64) (.pair (.int .i64) (.pair (.int .i64) (.pair (.int .i64) (.pair (.int .i64) (.pair (.int .i64) (.pair (.int .i64) (.pair (.pair (.int .i64) (.pair (.int .i64) (.pair (.int .i64) (.pair (.int .i64) (.pair (.int .i64) .unit))))) (.pair (.pair (.int .i64) (.pair (.slice 3 (.int .i64)) .unit)) .unit)))))))))), true, 136⟩
def ti34 : TI := ⟨.struct [⟨0, 1, 3⟩, ⟨1, 1, 3⟩, ⟨2, 1, 3⟩, ⟨3, 1, 3⟩, ⟨4, 1, 3⟩, ⟨5, 1, 3⟩, ⟨6, 1, 3⟩, ⟨7, 1, 3⟩, ⟨8, 5, 31⟩, ⟨13, 2, 32⟩], (.pair (.int .i64) (.pair (.int .i64) (.pair (.int .i64) (.pair (.int .i64) (.pair (.int .i64) (.pair (.int .i64) (.pair (.int .i64) (.pair (.int .i64) (.pair (.pair (.int .i64) (.pair (.int .i64) (.pair (.int .i64) (.pair (.int .i64) (.pair (.int .i64) .unit))))) (.pair (.pair (.int .i64) (.pair (.slice 3 (.int .i64)) .unit)) .unit)))))))))), true, 136⟩
def ti38 : TI := ⟨.slice 24, (.slice 24 (.slice 3 (.int .i64))), false, 24⟩
def ti39 : TI := ⟨.struct [⟨0, 1, 38⟩, ⟨1, 1, 24⟩], (.pair (.slice 24 (.slice 3 (.int .i64))) (.pair (.slice 3 (.int .i64)) .unit)), true, 48⟩
def ti40 : TI := ⟨.struct [⟨0, 1, 38⟩, ⟨1, 1, 24⟩], (.pair (.slice 24 (.slice 3 (.int .i64))) (.pair (.slice 3 (.int .i64)) .unit)), true, 48⟩
def ti44 : TI := ⟨.struct [⟨0, 1, 38⟩, ⟨1, 1, 24⟩], (.pair (.slice 24 (.slice 3 (.int .i64))) (.pair (.slice 3 (.int .i64)) .unit)), true, 48⟩
def ti50 : TI := ⟨.slice 28, (.slice 28 (.pair (.int .i64) (.pair (.int .i64) (.pair (.int .i64) (.pair (.int .i64) (.pair (.int .i64) (.pair (.int .i64) (.pair (.int .i64) (.pair (.int .i64) (.pair (.pair (.int .i64) (.pair (.int .i64) (.pair (.int .i64) (.pair (.int .i64) (.pair (.int .i64) .unit))))) (.pair (.pair (.int .i64) (.pair (.slice 3 (.int .i64)) .unit)) .unit))))))))))), false, 24⟩
def ti53 : TI := ⟨.slice 34, (.slice 34 (.pair (.int .i64) (.pair (.int .i64) (.pair (.int .i64) (.pair (.int .i64) (.pair (.int .i64) (.pair (.int .i64) (.pair (.int .i64) (.pair (.int .i64) (.pair (.pair (.int .i64) (.pair (.int .i64) (.pair (.int .i64) (.pair (.int .i64) (.pair (.int .i64) .unit))))) (.pair (.pair (.int .i64) (.pair (.slice 3 (.int .i64)) .unit)) .unit))))))))))), false, 24⟩
def ti67 : TI := ⟨.struct [⟨0, 1, 9⟩, ⟨1, 1, 3⟩], (.pair .str (.pair (.int .i64) .unit)), true, 24⟩
def ti68 : TI := ⟨.struct [⟨0, 1, 9⟩, ⟨1, 1, 3⟩], (.pair .str (.pair (.int .i64) .unit)), true, 24⟩
def ti70 : TI := ⟨.struct [⟨0, 1, 9⟩, ⟨1, 1, 3⟩], (.pair .str (.pair (.int .i64) .unit)), true, 24⟩
def ti80 : TI := ⟨.slice 9, (.slice 9 .str), false, 24⟩
def ti111 : TI := ⟨.slice 5, (.slice 5 (.int .u8)), false, 24⟩
def ti141 : TI := ⟨.struct [⟨0, 1, 3⟩, ⟨1, 1, 3⟩, ⟨2, 1, 3⟩, ⟨3, 5, 31⟩, ⟨8, 2, 32⟩], (.pair (.int .i64) (.pair (.int .i64) (.pair (.int .i64) (.pair (.pair (.int .i64) (.pair (.int .i64) (.pair (.int .i64) (.pair (.int .i64) (.pair (.int .i64) .unit))))) (.pair (.pair (.int .i64) (.pair (.slice 3 (.int .i64)) .unit)) .unit))))), true, 96⟩
def ti142 : TI := ⟨.struct [⟨0, 1, 3⟩, ⟨1, 1, 3⟩, ⟨2, 1, 3⟩, ⟨3, 5, 31⟩, ⟨8, 2, 32⟩], (.pair (.int .i64) (.pair (.int .i64) (.pair (.int .i64) (.pair (.pair (.int .i64) (.pair (.int .i64) (.pair (.int .i64) (.pair (.int .i64) (.pair (.int .i64) .unit))))) (.pair (.pair (.int .i64) (.pair (.slice 3 (.int .i64)) .unit)) .unit))))), true, 96⟩
def ti151 : TI := ⟨.data, (.int .u64), false, 8⟩
def ti166 : TI := ⟨.data, (.int .u64), false, 8⟩
def ti171 : TI := ⟨.data, (.int .u32), false, 4⟩
def ti178 : TI := ⟨.struct [⟨0, 1, 5⟩, ⟨1, 1, 5⟩], (.pair (.int .u8) (.pair (.int .u8) .unit)), true, 2⟩
def ti179 : TI := ⟨.struct [⟨0, 1, 5⟩, ⟨1, 1, 5⟩], (.pair (.int .u8) (.pair (.int .u8) .unit)), true, 2⟩
def ti189 : TI := ⟨.data, (.int .u8), false, 1⟩
def ti190 : TI := ⟨.data, (.int .u8), false, 1⟩
def ti192 : TI := ⟨.data, (.int .i32), false, 4⟩
def ti193 : TI := ⟨.data, (.int .i32), false, 4⟩
def tab : List (TypeId × TI) := [(2, ti2), (3, ti3), (4, ti4), (5, ti5), (6, ti6), (7, ti7), (8, ti8), (9, ti9), (10, ti10), (11, ti11), (12, ti12), (13, ti13), (14, ti14), (21, ti21), (22, ti22), (23, ti23), (24, ti24), (25, ti25), (26, ti26), (27, ti27), (28, ti28), (31, ti31), (32, ti32), (33, ti33), (34, ti34), (38, ti38), (39, ti39), (40, ti40), (44, ti44), (50, ti50), (53, ti53), (67, ti67), (68, ti68), (70, ti70), (80, ti80), (111, ti111), (141, ti141), (142, ti142), (151, ti151), (166, ti166), (171, ti171), (178, ti178), (179, ti179), (189, ti189), (190, ti190), (192, ti192), (193, ti193)]
theorem tab2 : TabOk Tryd.prog 2 ti2 := tabInt (by kernel_rfl) rfl rfl Tryd.underlying2 rfl
theorem tab3 : TabOk Tryd.prog 3 ti3 := tabInt (by kernel_rfl) rfl rfl Tryd.underlying3 rfl
theorem tab4 : TabOk Tryd.prog 4 ti4 := tabBool (by kernel_rfl) rfl rfl Tryd.underlying4 rfl
theorem tab5 : TabOk Tryd.prog 5 ti5 := tabInt (by kernel_rfl) rfl rfl Tryd.underlying5 rfl
theorem tab6 : TabOk Tryd.prog 6 ti6 := tabInt (by kernel_rfl) rfl rfl Tryd.underlying6 rfl
theorem tab7 : TabOk Tryd.prog 7 ti7 := tabStruct (by kernel_rfl) rfl rfl Tryd.underlying7 (by kernel_rfl) (by kernel_rfl)
theorem tab8 : TabOk Tryd.prog 8 ti8 := tabStruct (by kernel_rfl) rfl rfl Tryd.underlying8 (by kernel_rfl) (by kernel_rfl)
theorem tab9 : TabOk Tryd.prog 9 ti9 := tabStr (by kernel_rfl) rfl rfl Tryd.underlying9 rfl
theorem tab10 : TabOk Tryd.prog 10 ti10 := tabStr (by kernel_rfl) rfl rfl Tryd.underlying10 rfl
theorem tab11 : TabOk Tryd.prog 11 ti11 := tabStr (by kernel_rfl) rfl rfl Tryd.underlying11 rfl
theorem tab12 : TabOk Tryd.prog 12 ti12 := tabInt (by kernel_rfl) rfl rfl Tryd.underlying12 rfl
theorem tab13 : TabOk Tryd.prog 13 ti13 := tabStruct (by kernel_rfl) rfl rfl Tryd.underlying13 (by kernel_rfl) (by kernel_rfl)
theorem tab14 : TabOk Tryd.prog 14 ti14 := tabStruct (by kernel_rfl) rfl rfl Tryd.underlying14 (by kernel_rfl) (by kernel_rfl)
theorem tab21 : TabOk Tryd.prog 21 ti21 := tabInt (by kernel_rfl) rfl rfl Tryd.underlying21 rfl
theorem tab22 : TabOk Tryd.prog 22 ti22 := tabStruct (by kernel_rfl) rfl rfl Tryd.underlying22 (by kernel_rfl) (by kernel_rfl)
theorem tab23 : TabOk Tryd.prog 23 ti23 := tabStruct (by kernel_rfl) rfl rfl Tryd.underlying23 (by kernel_rfl) (by kernel_rfl)
theorem tab24 : TabOk Tryd.prog 24 ti24 := tabSlice (by kernel_rfl) rfl rfl Tryd.underlying24 rfl
theorem tab25 : TabOk Tryd.prog 25 ti25 := tabStruct (by kernel_rfl) rfl rfl Tryd.underlying25 (by kernel_rfl) (by kernel_rfl)
theorem tab26 : TabOk Tryd.prog 26 ti26 := tabStruct (by kernel_rfl) rfl rfl Tryd.underlying26 (by kernel_rfl) (by kernel_rfl)
theorem tab27 : TabOk Tryd.prog 27 ti27 := tabStruct (by kernel_rfl) rfl rfl Tryd.underlying27 (by kernel_rfl) (by kernel_rfl)
theorem tab28 : TabOk Tryd.prog 28 ti28 := tabStruct (by kernel_rfl) rfl rfl Tryd.underlying28 (by kernel_rfl) (by kernel_rfl)
theorem tab31 : TabOk Tryd.prog 31 ti31 := tabStruct (by kernel_rfl) rfl rfl Tryd.underlying31 (by kernel_rfl) (by kernel_rfl)
theorem tab32 : TabOk Tryd.prog 32 ti32 := tabStruct (by kernel_rfl) rfl rfl Tryd.underlying32 (by kernel_rfl) (by kernel_rfl)
theorem tab33 : TabOk Tryd.prog 33 ti33 := tabStruct (by kernel_rfl) rfl rfl Tryd.underlying33 (by kernel_rfl) (by kernel_rfl)
theorem tab34 : TabOk Tryd.prog 34 ti34 := tabStruct (by kernel_rfl) rfl rfl Tryd.underlying34 (by kernel_rfl) (by kernel_rfl)
theorem tab38 : TabOk Tryd.prog 38 ti38 := tabSlice (by kernel_rfl) rfl rfl Tryd.underlying38 rfl
theorem tab39 : TabOk Tryd.prog 39 ti39 := tabStruct (by kernel_rfl) rfl rfl Tryd.underlying39 (by kernel_rfl) (by kernel_rfl)
theorem tab40 : TabOk Tryd.prog 40 ti40 := tabStruct (by kernel_rfl) rfl rfl Tryd.underlying40 (by kernel_rfl) (by kernel_rfl)
theorem tab44 : TabOk Tryd.prog 44 ti44 := tabStruct (by kernel_rfl) rfl rfl Tryd.underlying44 (by kernel_rfl) (by kernel_rfl)
theorem tab50 : TabOk Tryd.prog 50 ti50 := tabSlice (by kernel_rfl) rfl rfl Tryd.underlying50 rfl
theorem tab53 : TabOk Tryd.prog 53 ti53 := tabSlice (by kernel_rfl) rfl rfl Tryd.underlying53 rfl
theorem tab67 : TabOk Tryd.prog 67 ti67 := tabStruct (by kernel_rfl) rfl rfl Tryd.underlying67 (by kernel_rfl) (by kernel_rfl)
theorem tab68 : TabOk Tryd.prog 68 ti68 := tabStruct (by kernel_rfl) rfl rfl Tryd.underlying68 (by kernel_rfl) (by kernel_rfl)
theorem tab70 : TabOk Tryd.prog 70 ti70 := tabStruct (by kernel_rfl) rfl rfl Tryd.underlying70 (by kernel_rfl) (by kernel_rfl)
theorem tab80 : TabOk Tryd.prog 80 ti80 := tabSlice (by kernel_rfl) rfl rfl Tryd.underlying80 rfl
theorem tab111 : TabOk Tryd.prog 111 ti111 := tabSlice (by kernel_rfl) rfl rfl Tryd.underlying111 rfl
theorem tab141 : TabOk Tryd.prog 141 ti141 := tabStruct (by kernel_rfl) rfl rfl Tryd.underlying141 (by kernel_rfl) (by kernel_rfl)
theorem tab142 : TabOk Tryd.prog 142 ti142 := tabStruct (by kernel_rfl) rfl rfl Tryd.underlying142 (by kernel_rfl) (by kernel_rfl)
theorem tab151 : TabOk Tryd.prog 151 ti151 := tabInt (by kernel_rfl) rfl rfl Tryd.underlying151 rfl
theorem tab166 : TabOk Tryd.prog 166 ti166 := tabInt (by kernel_rfl) rfl rfl Tryd.underlying166 rfl
theorem tab171 : TabOk Tryd.prog 171 ti171 := tabInt (by kernel_rfl) rfl rfl Tryd.underlying171 rfl
theorem tab178 : TabOk Tryd.prog 178 ti178 := tabStruct (by kernel_rfl) rfl rfl Tryd.underlying178 (by kernel_rfl) (by kernel_rfl)
theorem tab179 : TabOk Tryd.prog 179 ti179 := tabStruct (by kernel_rfl) rfl rfl Tryd.underlying179 (by kernel_rfl) (by kernel_rfl)
theorem tab189 : TabOk Tryd.prog 189 ti189 := tabInt (by kernel_rfl) rfl rfl Tryd.underlying189 rfl
theorem tab190 : TabOk Tryd.prog 190 ti190 := tabInt (by kernel_rfl) rfl rfl Tryd.underlying190 rfl
theorem tab192 : TabOk Tryd.prog 192 ti192 := tabInt (by kernel_rfl) rfl rfl Tryd.underlying192 rfl
theorem tab193 : TabOk Tryd.prog 193 ti193 := tabInt (by kernel_rfl) rfl rfl Tryd.underlying193 rfl
theorem tabOk : AllIn (fun t ti => TabOk Tryd.prog t ti) tab := ⟨tab2, tab3, tab4, tab5, tab6, tab7, tab8, tab9, tab10, tab11, tab12, tab13, tab14, tab21, tab22, tab23, tab24, tab25, tab26, tab27, tab28, tab31, tab32, tab33, tab34, tab38, tab39, tab40, tab44, tab50, tab53, tab67, tab68, tab70, tab80, tab111, tab141, tab142, tab151, tab166, tab171, tab178, tab179, tab189, tab190, tab192, tab193, trivial⟩
theorem eq31 : EqS Tryd.prog 31 5 := eqS_of Tryd.underlying31 (by kernel_rfl) (by kernel_rfl)
end Go.Proofs.YtmnekhlgldljcaaDoor.Am
