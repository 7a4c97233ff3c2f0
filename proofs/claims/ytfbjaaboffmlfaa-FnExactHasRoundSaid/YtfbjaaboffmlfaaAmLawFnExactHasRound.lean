/- FnExactHasRound. No condition. -/
import Derived.Test.YtfbjaaboffmlfaaRows
import Derived.Test.YtfbjaaboffmlfaaAmFn0
import Derived.Test.YtfbjaaboffmlfaaAmQ
import Derived.IntWalk
set_option linter.unusedVariables false
namespace Go.Proofs.Ytfbjaaboffmlfaa.Am
open Go.AM Go.AM.P Go.Proofs Go.ChangeShapes Go.WideShapes Go.ChangeAt Go.RowKit
theorem own : ownKnob Try.prog.godebug = none := by kernel_rfl
set_option maxRecDepth 100000 in
theorem lifted6 (os : Os) (started : os.Started) (H : Type) (enc : TypeId × Value → H) :
    ReturnsInHanded {} Try.checked os 6 .any (Rows.fnExactHasRoundSpec.pre6 enc Try.prog Try.f6 Rows.fnExactHasRoundRow.domain false) (Rows.fnExactHasRoundSpec.post enc Try.prog Try.f6 false true false false) := by
  refine returnsInHanded_of_change_sized (C := Try.checked) own started (by kernel_rfl) Try.func6
    (ChangeSpec.witness6 (enc := enc) (C := Try.checked) false ⟨#[], #[.slice none 0 0, .int .i64 0], []⟩ 8 (by kernel_rfl) (by kernel_rfl) (by kernel_rfl) (by kernel_rfl)) ?_
  intro W base args ds gs before hval hW hcnd hsz _
  exact law_ok env6 Try.func6 rfl (tys := [(.slice 29 (.slice 3 (.int .i64))), (.int .i64)]) (by kernel_rfl) (tb := 4) rfl Try.underlying4 rfl (fun ds h => match ds, h with | [_, _], _ => rfl)
    (fun x hx => ⟨_, (), (r6 _ x.1 x.2.1).trans (law_HasRound x.1 x.2.1 ⟨hx.1.1, fun a ha => ⟨(hx.1.2 a ha).1, fun _ _ => trivial⟩⟩ 0)⟩) hval hW
theorem over6 : Rows.fnExactHasRoundRow.holds Try.pinned (OpenSpec.ofChange Rows.fnExactHasRoundSpec) :=
  OpenClaim.holds_of_wide 6 Try.f6 rfl rfl rfl rfl rfl rfl rfl ⟨rfl, rfl, rfl, rfl, rfl⟩ rfl rfl rfl rfl rfl (by kernel_rfl) Try.func6 (by kernel_rfl)
    (of_decide_eq_true (by kernel_rfl)) (by unfold Func.isWrapper; first | (rw [if_pos (by decide +kernel)]; kernel_rfl) | (rw [if_neg (by decide +kernel)]; exact ⟨rfl, rfl⟩))
    (fun os started H enc _ => lifted6 os started H enc)
end Go.Proofs.Ytfbjaaboffmlfaa.Am
namespace Go.Proofs.Ytfbjaaboffmlfaa
theorem fnExactHasRound_holds : Rows.FnExactHasRoundSaid := Am.over6
#print axioms fnExactHasRound_holds
end Go.Proofs.Ytfbjaaboffmlfaa
