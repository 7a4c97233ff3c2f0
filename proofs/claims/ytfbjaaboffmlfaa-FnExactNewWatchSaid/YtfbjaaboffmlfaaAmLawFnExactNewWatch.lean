/- FnExactNewWatch. No condition. -/
import Derived.Test.YtfbjaaboffmlfaaRows
import Derived.Test.YtfbjaaboffmlfaaAmFn0
import Derived.Test.YtfbjaaboffmlfaaAmQd
import Derived.IntWalk
set_option linter.unusedVariables false
namespace Go.Proofs.Ytfbjaaboffmlfaa.Am
open Go.AM Go.AM.P Go.Proofs Go.ChangeShapes Go.WideShapes Go.ChangeAt Go.RowKit
theorem own : ownKnob Try.prog.godebug = none := by kernel_rfl
set_option maxRecDepth 100000 in
theorem lifted5 (os : Os) (started : os.Started) (H : Type) (enc : TypeId × Value → H) :
    ReturnsInHanded {} Try.checked os 5 .any (Rows.fnExactNewWatchSpec.pre6 enc Try.prog Try.f5 Rows.fnExactNewWatchRow.domain false) (Rows.fnExactNewWatchSpec.post enc Try.prog Try.f5 false true false false) := by
  refine returnsInHanded_of_change_sized (C := Try.checked) own started (by kernel_rfl) Try.func5
    (ChangeSpec.witness6 (enc := enc) (C := Try.checked) false ⟨#[], #[.int .i64 0, .int .i64 0], []⟩ 8 (by kernel_rfl) (by kernel_rfl) (by kernel_rfl) (by kernel_rfl)) ?_
  intro W base args ds gs before hval hW hcnd hsz _
  exact law_ok env5 Try.func5 rfl (tys := [(.int .i64), (.int .i64)]) (by kernel_rfl) (tb := 4) rfl Try.underlying4 rfl (fun ds h => match ds, h with | [_, _], _ => rfl)
    (fun x hx => ⟨_, (), (r5 _ x.1 x.2.1).trans (law_NewWatch x.1 x.2.1 0)⟩) hval hW
theorem over5 : Rows.fnExactNewWatchRow.holds Try.pinned (OpenSpec.ofChange Rows.fnExactNewWatchSpec) :=
  OpenClaim.holds_of_wide 5 Try.f5 rfl rfl rfl rfl rfl rfl rfl ⟨rfl, rfl, rfl, rfl, rfl⟩ rfl rfl rfl rfl rfl (by kernel_rfl) Try.func5 (by kernel_rfl)
    (of_decide_eq_true (by kernel_rfl)) (by unfold Func.isWrapper; first | (rw [if_pos (by decide +kernel)]; kernel_rfl) | (rw [if_neg (by decide +kernel)]; exact ⟨rfl, rfl⟩))
    (fun os started H enc _ => lifted5 os started H enc)
end Go.Proofs.Ytfbjaaboffmlfaa.Am
namespace Go.Proofs.Ytfbjaaboffmlfaa
theorem fnExactNewWatch_holds : Rows.FnExactNewWatchSaid := Am.over5
#print axioms fnExactNewWatch_holds
end Go.Proofs.Ytfbjaaboffmlfaa
