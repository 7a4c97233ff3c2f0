/- The types of the seat. No condition. -/
import Derived.Test.YtfbjaaboffmlfaaAmLaw
import Derived.Test.YtfbjaaboffmlfaaProg
set_option linter.unusedVariables false
set_option maxRecDepth 100000
namespace Go.Proofs.Ytfbjaaboffmlfaa.Am
open Go.AM Go.Proofs
theorem mixed : Try.prog.follows .mixedOrders = true := by kernel_rfl
def ti2 : TI := ⟨.data, (.int .i64), false, 8⟩
def ti3 : TI := ⟨.data, (.int .i64), false, 8⟩
def ti4 : TI := ⟨.data, .bool, false, 1⟩
def ti5 : TI := ⟨.data, (.int .u8), false, 1⟩
def ti6 : TI := ⟨.data, (.int .u8), false, 1⟩
def ti7 : TI := ⟨.struct [⟨0, 1, 2⟩, ⟨1, 1, 3⟩, ⟨2, 1, 4⟩, ⟨3, 1, 6⟩], (.pair (.int .i64) (.pair (.int .i64) (.pair .bool (.pair (.int .u8) .unit)))), true, 24⟩
def ti8 : TI := ⟨.struct [⟨0, 1, 2⟩, ⟨1, 1, 3⟩, ⟨2, 1, 4⟩, ⟨3, 1, 6⟩], (.pair (.int .i64) (.pair (.int .i64) (.pair .bool (.pair (.int .u8) .unit)))), true, 24⟩
def ti9 : TI := ⟨.data, .str, false, 16⟩
def ti10 : TI := ⟨.data, .str, false, 16⟩
def ti11 : TI := ⟨.data, .str, false, 16⟩
def ti12 : TI := ⟨.data, (.int .u64), false, 8⟩
def ti13 : TI := ⟨.struct [⟨0, 1, 9⟩, ⟨1, 1, 12⟩], (.pair .str (.pair (.int .u64) .unit)), true, 24⟩
def ti14 : TI := ⟨.struct [⟨0, 1, 9⟩, ⟨1, 1, 12⟩], (.pair .str (.pair (.int .u64) .unit)), true, 24⟩
def ti21 : TI := ⟨.data, (.int .i32), false, 4⟩
def ti28 : TI := ⟨.slice 29, (.slice 29 (.slice 3 (.int .i64))), false, 24⟩
def ti29 : TI := ⟨.slice 3, (.slice 3 (.int .i64)), false, 24⟩
def ti30 : TI := ⟨.struct [⟨0, 1, 3⟩, ⟨1, 1, 3⟩, ⟨2, 1, 28⟩, ⟨3, 1, 29⟩], (.pair (.int .i64) (.pair (.int .i64) (.pair (.slice 29 (.slice 3 (.int .i64))) (.pair (.slice 3 (.int .i64)) .unit)))), true, 64⟩
def ti31 : TI := ⟨.struct [⟨0, 1, 3⟩, ⟨1, 1, 3⟩, ⟨2, 1, 28⟩, ⟨3, 1, 29⟩], (.pair (.int .i64) (.pair (.int .i64) (.pair (.slice 29 (.slice 3 (.int .i64))) (.pair (.slice 3 (.int .i64)) .unit)))), true, 64⟩
def ti44 : TI := ⟨.struct [⟨0, 1, 3⟩, ⟨1, 1, 3⟩, ⟨2, 1, 28⟩, ⟨3, 1, 29⟩], (.pair (.int .i64) (.pair (.int .i64) (.pair (.slice 29 (.slice 3 (.int .i64))) (.pair (.slice 3 (.int .i64)) .unit)))), true, 64⟩
def ti49 : TI := ⟨.struct [⟨0, 1, 28⟩, ⟨1, 1, 29⟩], (.pair (.slice 29 (.slice 3 (.int .i64))) (.pair (.slice 3 (.int .i64)) .unit)), true, 48⟩
def ti50 : TI := ⟨.struct [⟨0, 1, 28⟩, ⟨1, 1, 29⟩], (.pair (.slice 29 (.slice 3 (.int .i64))) (.pair (.slice 3 (.int .i64)) .unit)), true, 48⟩
def ti53 : TI := ⟨.struct [⟨0, 1, 28⟩, ⟨1, 1, 29⟩], (.pair (.slice 29 (.slice 3 (.int .i64))) (.pair (.slice 3 (.int .i64)) .unit)), true, 48⟩
def ti62 : TI := ⟨.slice 5, (.slice 5 (.int .u8)), false, 24⟩
def ti65 : TI := ⟨.slice 4, (.slice 4 .bool), false, 24⟩
def ti70 : TI := ⟨.slice 65, (.slice 65 (.slice 4 .bool)), false, 24⟩
def ti87 : TI := ⟨.data, (.int .u32), false, 4⟩
def ti88 : TI := ⟨.data, (.int .u8), false, 1⟩
def ti89 : TI := ⟨.data, (.int .u8), false, 1⟩
def ti92 : TI := ⟨.data, (.int .i32), false, 4⟩
def ti93 : TI := ⟨.data, (.int .i32), false, 4⟩
def tab : List (TypeId × TI) := [(2, ti2), (3, ti3), (4, ti4), (5, ti5), (6, ti6), (7, ti7), (8, ti8), (9, ti9), (10, ti10), (11, ti11), (12, ti12), (13, ti13), (14, ti14), (21, ti21), (28, ti28), (29, ti29), (30, ti30), (31, ti31), (44, ti44), (49, ti49), (50, ti50), (53, ti53), (62, ti62), (65, ti65), (70, ti70), (87, ti87), (88, ti88), (89, ti89), (92, ti92), (93, ti93)]
theorem tab2 : TabOk Try.prog 2 ti2 := tabInt (by kernel_rfl) rfl rfl Try.underlying2 rfl
theorem tab3 : TabOk Try.prog 3 ti3 := tabInt (by kernel_rfl) rfl rfl Try.underlying3 rfl
theorem tab4 : TabOk Try.prog 4 ti4 := tabBool (by kernel_rfl) rfl rfl Try.underlying4 rfl
theorem tab5 : TabOk Try.prog 5 ti5 := tabInt (by kernel_rfl) rfl rfl Try.underlying5 rfl
theorem tab6 : TabOk Try.prog 6 ti6 := tabInt (by kernel_rfl) rfl rfl Try.underlying6 rfl
theorem tab7 : TabOk Try.prog 7 ti7 := tabStruct (by kernel_rfl) rfl rfl Try.underlying7 (by kernel_rfl) (by kernel_rfl)
theorem tab8 : TabOk Try.prog 8 ti8 := tabStruct (by kernel_rfl) rfl rfl Try.underlying8 (by kernel_rfl) (by kernel_rfl)
theorem tab9 : TabOk Try.prog 9 ti9 := tabStr (by kernel_rfl) rfl rfl Try.underlying9 rfl
theorem tab10 : TabOk Try.prog 10 ti10 := tabStr (by kernel_rfl) rfl rfl Try.underlying10 rfl
theorem tab11 : TabOk Try.prog 11 ti11 := tabStr (by kernel_rfl) rfl rfl Try.underlying11 rfl
theorem tab12 : TabOk Try.prog 12 ti12 := tabInt (by kernel_rfl) rfl rfl Try.underlying12 rfl
theorem tab13 : TabOk Try.prog 13 ti13 := tabStruct (by kernel_rfl) rfl rfl Try.underlying13 (by kernel_rfl) (by kernel_rfl)
theorem tab14 : TabOk Try.prog 14 ti14 := tabStruct (by kernel_rfl) rfl rfl Try.underlying14 (by kernel_rfl) (by kernel_rfl)
theorem tab21 : TabOk Try.prog 21 ti21 := tabInt (by kernel_rfl) rfl rfl Try.underlying21 rfl
theorem tab28 : TabOk Try.prog 28 ti28 := tabSlice (by kernel_rfl) rfl rfl Try.underlying28 rfl
theorem tab29 : TabOk Try.prog 29 ti29 := tabSlice (by kernel_rfl) rfl rfl Try.underlying29 rfl
theorem tab30 : TabOk Try.prog 30 ti30 := tabStruct (by kernel_rfl) rfl rfl Try.underlying30 (by kernel_rfl) (by kernel_rfl)
theorem tab31 : TabOk Try.prog 31 ti31 := tabStruct (by kernel_rfl) rfl rfl Try.underlying31 (by kernel_rfl) (by kernel_rfl)
theorem tab44 : TabOk Try.prog 44 ti44 := tabStruct (by kernel_rfl) rfl rfl Try.underlying44 (by kernel_rfl) (by kernel_rfl)
theorem tab49 : TabOk Try.prog 49 ti49 := tabStruct (by kernel_rfl) rfl rfl Try.underlying49 (by kernel_rfl) (by kernel_rfl)
theorem tab50 : TabOk Try.prog 50 ti50 := tabStruct (by kernel_rfl) rfl rfl Try.underlying50 (by kernel_rfl) (by kernel_rfl)
theorem tab53 : TabOk Try.prog 53 ti53 := tabStruct (by kernel_rfl) rfl rfl Try.underlying53 (by kernel_rfl) (by kernel_rfl)
theorem tab62 : TabOk Try.prog 62 ti62 := tabSlice (by kernel_rfl) rfl rfl Try.underlying62 rfl
theorem tab65 : TabOk Try.prog 65 ti65 := tabSlice (by kernel_rfl) rfl rfl Try.underlying65 rfl
theorem tab70 : TabOk Try.prog 70 ti70 := tabSlice (by kernel_rfl) rfl rfl Try.underlying70 rfl
theorem tab87 : TabOk Try.prog 87 ti87 := tabInt (by kernel_rfl) rfl rfl Try.underlying87 rfl
theorem tab88 : TabOk Try.prog 88 ti88 := tabInt (by kernel_rfl) rfl rfl Try.underlying88 rfl
theorem tab89 : TabOk Try.prog 89 ti89 := tabInt (by kernel_rfl) rfl rfl Try.underlying89 rfl
theorem tab92 : TabOk Try.prog 92 ti92 := tabInt (by kernel_rfl) rfl rfl Try.underlying92 rfl
theorem tab93 : TabOk Try.prog 93 ti93 := tabInt (by kernel_rfl) rfl rfl Try.underlying93 rfl
theorem tabOk : AllIn (fun t ti => TabOk Try.prog t ti) tab := ⟨tab2, tab3, tab4, tab5, tab6, tab7, tab8, tab9, tab10, tab11, tab12, tab13, tab14, tab21, tab28, tab29, tab30, tab31, tab44, tab49, tab50, tab53, tab62, tab65, tab70, tab87, tab88, tab89, tab92, tab93, trivial⟩
end Go.Proofs.Ytfbjaaboffmlfaa.Am
