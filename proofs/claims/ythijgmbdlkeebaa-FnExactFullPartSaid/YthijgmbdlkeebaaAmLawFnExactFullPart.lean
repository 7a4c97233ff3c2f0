/- FnExactFullPart. No condition. -/
import Derived.Test.YthijgmbdlkeebaaRows
import Derived.Test.YthijgmbdlkeebaaAmFn2
import Derived.Test.YthijgmbdlkeebaaAmQj
import Derived.IntWalk
set_option linter.unusedVariables false
namespace Go.Proofs.Ythijgmbdlkeebaa.Am
open Go.AM Go.AM.P Go.Proofs Go.ChangeShapes Go.WideShapes Go.ChangeAt Go.RowKit
theorem own : ownKnob Try.prog.godebug = none := by kernel_rfl
set_option maxRecDepth 100000 in
theorem lifted7 (os : Os) (started : os.Started) (H : Type) (enc : TypeId × Value → H) :
    ReturnsInHanded {} Try.checked os 7 .any (Rows.fnExactFullPartSpec.pre6 enc Try.prog Try.f7 Rows.fnExactFullPartRow.domain false) (Rows.fnExactFullPartSpec.post enc Try.prog Try.f7 false true false false) := by
  refine returnsInHanded_of_change_sized (C := Try.checked) own started (by kernel_rfl) Try.func7
    (ChangeSpec.witness6 (enc := enc) (C := Try.checked) false ⟨#[], #[.int .i64 0, .slice none 0 0, .slice none 0 0, .int .i64 0], []⟩ 8 (by kernel_rfl) (by kernel_rfl) (by kernel_rfl) (by kernel_rfl)) ?_
  intro W base args ds gs before hval hW hcnd hsz _
  exact law_ok env7 Try.func7 rfl (tys := [(.int .i64), (.slice 23 (.slice 3 (.int .i64))), (.slice 97 (.pair (.int .i64) (.pair (.int .i64) (.pair (.pair (.int .i64) (.pair (.int .i64) (.pair (.int .i64) (.pair (.int .i64) (.pair (.int .i64) .unit))))) (.pair (.pair (.int .i64) (.pair (.int .i64) .unit)) .unit))))), (.int .i64)]) (by kernel_rfl) (tb := 4) rfl Try.underlying4 rfl (fun ds h => match ds, h with | [_, _, _, _], _ => rfl)
    (fun x hx => ⟨_, (), (r7 _ x.1 x.2.1 x.2.2.1 x.2.2.2.1).trans (law_FullPart x.1 x.2.1 x.2.2.1 x.2.2.2.1 ⟨hx.2.1.1, fun a ha => ⟨(hx.2.1.2 a ha).1, fun _ _ => trivial⟩⟩ (wl_entries hx.2.2.1.1) 0)⟩) hval hW
theorem over7 : Rows.fnExactFullPartRow.holds Try.pinned (OpenSpec.ofChange Rows.fnExactFullPartSpec) :=
  OpenClaim.holds_of_wide 7 Try.f7 rfl rfl rfl rfl rfl rfl rfl ⟨rfl, rfl, rfl, rfl, rfl⟩ rfl rfl rfl rfl rfl (by kernel_rfl) Try.func7 (by kernel_rfl)
    (of_decide_eq_true (by kernel_rfl)) (by unfold Func.isWrapper; first | (rw [if_pos (by decide +kernel)]; kernel_rfl) | (rw [if_neg (by decide +kernel)]; exact ⟨rfl, rfl⟩))
    (fun os started H enc _ => lifted7 os started H enc)
end Go.Proofs.Ythijgmbdlkeebaa.Am
namespace Go.Proofs.Ythijgmbdlkeebaa
theorem fnExactFullPart_holds : Rows.FnExactFullPartSaid := Am.over7
#print axioms fnExactFullPart_holds
end Go.Proofs.Ythijgmbdlkeebaa
