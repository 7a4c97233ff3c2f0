/- FnExactPartBook. No condition. -/
import Derived.Test.YthijgmbdlkeebaaRows
import Derived.Test.YthijgmbdlkeebaaAmFn3
import Derived.Test.YthijgmbdlkeebaaAmQi
import Derived.IntWalk
set_option linter.unusedVariables false
namespace Go.Proofs.Ythijgmbdlkeebaa.Am
open Go.AM Go.AM.P Go.Proofs Go.ChangeShapes Go.WideShapes Go.ChangeAt Go.RowKit
theorem own : ownKnob Try.prog.godebug = none := by kernel_rfl
set_option maxRecDepth 100000 in
theorem lifted6 (os : Os) (started : os.Started) (H : Type) (enc : TypeId × Value → H) :
    ReturnsInHanded {} Try.checked os 6 .any (Rows.fnExactPartBookSpec.pre6 enc Try.prog Try.f6 Rows.fnExactPartBookRow.domain false) (Rows.fnExactPartBookSpec.post enc Try.prog Try.f6 false true false false) := by
  refine returnsInHanded_of_change_sized (C := Try.checked) own started (by kernel_rfl) Try.func6
    (ChangeSpec.witness6 (enc := enc) (C := Try.checked) false ⟨#[], #[.slice none 0 0, .slice none 0 0, .slice none 0 0], []⟩ 8 (by kernel_rfl) (by kernel_rfl) (by kernel_rfl) (by kernel_rfl)) ?_
  intro W base args ds gs before hval hW hcnd hsz _
  exact law_ok env6 Try.func6 rfl (tys := [(.slice 97 (.pair (.int .i64) (.pair (.int .i64) (.pair (.pair (.int .i64) (.pair (.int .i64) (.pair (.int .i64) (.pair (.int .i64) (.pair (.int .i64) .unit))))) (.pair (.pair (.int .i64) (.pair (.int .i64) .unit)) .unit))))), (.slice 3 (.int .i64)), (.slice 118 (.pair (.int .i64) (.pair (.int .i64) (.pair (.pair (.int .i64) (.pair (.int .i64) .unit)) .unit))))]) (by kernel_rfl) (tb := 4) rfl Try.underlying4 rfl (fun ds h => match ds, h with | [_, _, _], _ => rfl)
    (fun x hx => ⟨_, (), (r6 _ x.1 x.2.1 x.2.2.1).trans (law_PartBook x.1 x.2.1 x.2.2.1 (wl_entries hx.1.1) (wl_ints hx.2.1.1) ⟨hx.2.2.1.1, fun _ _ => ⟨trivial, trivial, ⟨trivial, trivial, trivial⟩, trivial⟩⟩ 0)⟩) hval hW
theorem over6 : Rows.fnExactPartBookRow.holds Try.pinned (OpenSpec.ofChange Rows.fnExactPartBookSpec) :=
  OpenClaim.holds_of_wide 6 Try.f6 rfl rfl rfl rfl rfl rfl rfl ⟨rfl, rfl, rfl, rfl, rfl⟩ rfl rfl rfl rfl rfl (by kernel_rfl) Try.func6 (by kernel_rfl)
    (of_decide_eq_true (by kernel_rfl)) (by unfold Func.isWrapper; first | (rw [if_pos (by decide +kernel)]; kernel_rfl) | (rw [if_neg (by decide +kernel)]; exact ⟨rfl, rfl⟩))
    (fun os started H enc _ => lifted6 os started H enc)
end Go.Proofs.Ythijgmbdlkeebaa.Am
namespace Go.Proofs.Ythijgmbdlkeebaa
theorem fnExactPartBook_holds : Rows.FnExactPartBookSaid := Am.over6
#print axioms fnExactPartBook_holds
end Go.Proofs.Ythijgmbdlkeebaa
