/- FnExactOpenIn. No condition. -/
import Derived.Test.YthijgmbdlkeebaaRows
import Derived.Test.YthijgmbdlkeebaaAmFn1
import Derived.Test.YthijgmbdlkeebaaAmQ
import Derived.IntWalk
set_option linter.unusedVariables false
namespace Go.Proofs.Ythijgmbdlkeebaa.Am
open Go.AM Go.AM.P Go.Proofs Go.ChangeShapes Go.WideShapes Go.ChangeAt Go.RowKit
theorem own : ownKnob Try.prog.godebug = none := by kernel_rfl
set_option maxRecDepth 100000 in
theorem lifted8 (os : Os) (started : os.Started) (H : Type) (enc : TypeId × Value → H) :
    ReturnsInHanded {} Try.checked os 8 .any (Rows.fnExactOpenInSpec.pre6 enc Try.prog Try.f8 Rows.fnExactOpenInRow.domain false) (Rows.fnExactOpenInSpec.post enc Try.prog Try.f8 false true false false) := by
  refine returnsInHanded_of_change_sized (C := Try.checked) own started (by kernel_rfl) Try.func8
    (ChangeSpec.witness6 (enc := enc) (C := Try.checked) false ⟨#[], #[.agg #[.int .i64 0, .slice none 0 0]], []⟩ 8 (by kernel_rfl) (by kernel_rfl) (by kernel_rfl) (by kernel_rfl)) ?_
  intro W base args ds gs before hval hW hcnd hsz _
  exact law_ok env8 Try.func8 rfl (tys := [(.pair (.int .i64) (.pair (.slice 146 (.slice 189 (.pair (.int .i64) (.pair (.int .i64) (.pair (.int .i64) (.pair (.pair (.int .i64) (.pair (.int .i64) (.pair (.int .i64) (.pair (.int .i64) (.pair (.int .i64) .unit))))) (.pair (.pair (.int .i64) (.pair (.slice 3 (.int .i64)) .unit)) .unit))))))) .unit))]) (by kernel_rfl) (tb := 4) rfl Try.underlying4 rfl (fun ds h => match ds, h with | [_], _ => rfl)
    (fun x hx => ⟨_, (), (r8 _ x.1).trans (law_OpenIn x.1 ⟨trivial, ⟨hx.1.2.1.1, fun a ha => ⟨(hx.1.2.1.2 a ha).1, fun r hr => ⟨trivial, trivial, trivial, ⟨trivial, trivial, trivial, trivial, trivial, trivial⟩, ⟨trivial, ⟨((hx.1.2.1.2 a ha).2 r hr).2.2.2.2.1.2.1.1, fun _ _ => trivial⟩, trivial⟩, trivial⟩⟩⟩, trivial⟩ 0)⟩) hval hW
theorem over8 : Rows.fnExactOpenInRow.holds Try.pinned (OpenSpec.ofChange Rows.fnExactOpenInSpec) :=
  OpenClaim.holds_of_wide 8 Try.f8 rfl rfl rfl rfl rfl rfl rfl ⟨rfl, rfl, rfl, rfl, rfl⟩ rfl rfl rfl rfl rfl (by kernel_rfl) Try.func8 (by kernel_rfl)
    (of_decide_eq_true (by kernel_rfl)) (by unfold Func.isWrapper; first | (rw [if_pos (by decide +kernel)]; kernel_rfl) | (rw [if_neg (by decide +kernel)]; exact ⟨rfl, rfl⟩))
    (fun os started H enc _ => lifted8 os started H enc)
end Go.Proofs.Ythijgmbdlkeebaa.Am
namespace Go.Proofs.Ythijgmbdlkeebaa
theorem fnExactOpenIn_holds : Rows.FnExactOpenInSaid := Am.over8
#print axioms fnExactOpenIn_holds
end Go.Proofs.Ythijgmbdlkeebaa
