/- FnExactGoodCheck. No condition. -/
import Derived.Test.YtfbjaaboffmlfaaRows
import Derived.Test.YtfbjaaboffmlfaaAmFn0
import Derived.Test.YtfbjaaboffmlfaaAmQd
import Derived.IntWalk
set_option linter.unusedVariables false
namespace Go.Proofs.Ytfbjaaboffmlfaa.Am
open Go.AM Go.AM.P Go.Proofs Go.ChangeShapes Go.WideShapes Go.ChangeAt Go.RowKit
theorem own : ownKnob Try.prog.godebug = none := by kernel_rfl
set_option maxRecDepth 100000 in
theorem lifted9 (os : Os) (started : os.Started) (H : Type) (enc : TypeId × Value → H) :
    ReturnsInHanded {} Try.checked os 9 .any (Rows.fnExactGoodCheckSpec.pre6 enc Try.prog Try.f9 Rows.fnExactGoodCheckRow.domain false) (Rows.fnExactGoodCheckSpec.post enc Try.prog Try.f9 false true false false) := by
  refine returnsInHanded_of_change_sized (C := Try.checked) own started (by kernel_rfl) Try.func9
    (ChangeSpec.witness6 (enc := enc) (C := Try.checked) false ⟨#[], #[.int .i64 0, .agg #[.slice none 0 0, .slice none 0 0]], []⟩ 8 (by kernel_rfl) (by kernel_rfl) (by kernel_rfl) (by kernel_rfl)) ?_
  intro W base args ds gs before hval hW hcnd hsz _
  exact law_ok env9 Try.func9 rfl (tys := [(.int .i64), (.pair (.slice 29 (.slice 3 (.int .i64))) (.pair (.slice 3 (.int .i64)) .unit))]) (by kernel_rfl) (tb := 4) rfl Try.underlying4 rfl (fun ds h => match ds, h with | [_, _], _ => rfl)
    (fun x hx => ⟨_, (), (r9 _ x.1 x.2.1).trans (law_GoodCheck x.1 x.2.1 ⟨⟨(hx.2.1.1).1, fun a ha => ⟨((hx.2.1.1).2 a ha).1, fun _ _ => trivial⟩⟩, ⟨(hx.2.1.2.1).1, fun _ _ => trivial⟩, trivial⟩ 0)⟩) hval hW
theorem over9 : Rows.fnExactGoodCheckRow.holds Try.pinned (OpenSpec.ofChange Rows.fnExactGoodCheckSpec) :=
  OpenClaim.holds_of_wide 9 Try.f9 rfl rfl rfl rfl rfl rfl rfl ⟨rfl, rfl, rfl, rfl, rfl⟩ rfl rfl rfl rfl rfl (by kernel_rfl) Try.func9 (by kernel_rfl)
    (of_decide_eq_true (by kernel_rfl)) (by unfold Func.isWrapper; first | (rw [if_pos (by decide +kernel)]; kernel_rfl) | (rw [if_neg (by decide +kernel)]; exact ⟨rfl, rfl⟩))
    (fun os started H enc _ => lifted9 os started H enc)
end Go.Proofs.Ytfbjaaboffmlfaa.Am
namespace Go.Proofs.Ytfbjaaboffmlfaa
theorem fnExactGoodCheck_holds : Rows.FnExactGoodCheckSaid := Am.over9
#print axioms fnExactGoodCheck_holds
end Go.Proofs.Ytfbjaaboffmlfaa
