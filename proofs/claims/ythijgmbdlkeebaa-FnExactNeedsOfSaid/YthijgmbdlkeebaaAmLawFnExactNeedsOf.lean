/- FnExactNeedsOf. No condition. -/
import Derived.Test.YthijgmbdlkeebaaRows
import Derived.Test.YthijgmbdlkeebaaAmFn2
import Derived.Test.YthijgmbdlkeebaaAmQf
import Derived.IntWalk
set_option linter.unusedVariables false
namespace Go.Proofs.Ythijgmbdlkeebaa.Am
open Go.AM Go.AM.P Go.Proofs Go.ChangeShapes Go.WideShapes Go.ChangeAt Go.RowKit
theorem own : ownKnob Try.prog.godebug = none := by kernel_rfl
set_option maxRecDepth 100000 in
theorem lifted3 (os : Os) (started : os.Started) (H : Type) (enc : TypeId × Value → H) :
    ReturnsInHanded {} Try.checked os 3 .any (Rows.fnExactNeedsOfSpec.pre6 enc Try.prog Try.f3 Rows.fnExactNeedsOfRow.domain false) (Rows.fnExactNeedsOfSpec.post enc Try.prog Try.f3 false true false false) := by
  refine returnsInHanded_of_change_sized (C := Try.checked) own started (by kernel_rfl) Try.func3
    (ChangeSpec.witness6 (enc := enc) (C := Try.checked) false ⟨#[], #[.slice none 0 0, .slice none 0 0], []⟩ 8 (by kernel_rfl) (by kernel_rfl) (by kernel_rfl) (by kernel_rfl)) ?_
  intro W base args ds gs before hval hW hcnd hsz _
  exact law_ok env3 Try.func3 rfl (tys := [(.slice 97 (.pair (.int .i64) (.pair (.int .i64) (.pair (.pair (.int .i64) (.pair (.int .i64) (.pair (.int .i64) (.pair (.int .i64) (.pair (.int .i64) .unit))))) (.pair (.pair (.int .i64) (.pair (.int .i64) .unit)) .unit))))), (.slice 3 (.int .i64))]) (by kernel_rfl) (tb := 4) rfl Try.underlying4 rfl (fun ds h => match ds, h with | [_, _], _ => rfl)
    (fun x hx => ⟨_, (), (r3 _ x.1 x.2.1).trans (law_NeedsOf x.1 x.2.1 (wl_entries hx.1.1) (wl_ints hx.2.1.1) 0)⟩) hval hW
theorem over3 : Rows.fnExactNeedsOfRow.holds Try.pinned (OpenSpec.ofChange Rows.fnExactNeedsOfSpec) :=
  OpenClaim.holds_of_wide 3 Try.f3 rfl rfl rfl rfl rfl rfl rfl ⟨rfl, rfl, rfl, rfl, rfl⟩ rfl rfl rfl rfl rfl (by kernel_rfl) Try.func3 (by kernel_rfl)
    (of_decide_eq_true (by kernel_rfl)) (by unfold Func.isWrapper; first | (rw [if_pos (by decide +kernel)]; kernel_rfl) | (rw [if_neg (by decide +kernel)]; exact ⟨rfl, rfl⟩))
    (fun os started H enc _ => lifted3 os started H enc)
end Go.Proofs.Ythijgmbdlkeebaa.Am
namespace Go.Proofs.Ythijgmbdlkeebaa
theorem fnExactNeedsOf_holds : Rows.FnExactNeedsOfSaid := Am.over3
#print axioms fnExactNeedsOf_holds
end Go.Proofs.Ythijgmbdlkeebaa
