/- FnExactKeptIn. No condition. -/
import Derived.Test.YthijgmbdlkeebaaRows
import Derived.Test.YthijgmbdlkeebaaAmFn2
import Derived.Test.YthijgmbdlkeebaaAmQg
import Derived.IntWalk
set_option linter.unusedVariables false
namespace Go.Proofs.Ythijgmbdlkeebaa.Am
open Go.AM Go.AM.P Go.Proofs Go.ChangeShapes Go.WideShapes Go.ChangeAt Go.RowKit
theorem own : ownKnob Try.prog.godebug = none := by kernel_rfl
set_option maxRecDepth 100000 in
theorem lifted5 (os : Os) (started : os.Started) (H : Type) (enc : TypeId × Value → H) :
    ReturnsInHanded {} Try.checked os 5 .any (Rows.fnExactKeptInSpec.pre6 enc Try.prog Try.f5 Rows.fnExactKeptInRow.domain false) (Rows.fnExactKeptInSpec.post enc Try.prog Try.f5 false true false false) := by
  refine returnsInHanded_of_change_sized (C := Try.checked) own started (by kernel_rfl) Try.func5
    (ChangeSpec.witness6 (enc := enc) (C := Try.checked) false ⟨#[], #[.agg #[.int .i64 0, .slice none 0 0], .slice none 0 0], []⟩ 8 (by kernel_rfl) (by kernel_rfl) (by kernel_rfl) (by kernel_rfl)) ?_
  intro W base args ds gs before hval hW hcnd hsz _
  exact law_ok env5 Try.func5 rfl (tys := [(.pair (.int .i64) (.pair (.slice 146 (.slice 189 (.pair (.int .i64) (.pair (.int .i64) (.pair (.int .i64) (.pair (.pair (.int .i64) (.pair (.int .i64) (.pair (.int .i64) (.pair (.int .i64) (.pair (.int .i64) .unit))))) (.pair (.pair (.int .i64) (.pair (.slice 3 (.int .i64)) .unit)) .unit))))))) .unit)), (.slice 3 (.int .i64))]) (by kernel_rfl) (tb := 4) rfl Try.underlying4 rfl (fun ds h => match ds, h with | [_, _], _ => rfl)
    (fun x hx => ⟨_, (), (r5 _ x.1 x.2.1).trans (law_KeptIn x.1 x.2.1 ⟨trivial, ⟨hx.1.2.1.1, fun a ha => ⟨(hx.1.2.1.2 a ha).1, fun r hr => ⟨trivial, trivial, trivial, ⟨trivial, trivial, trivial, trivial, trivial, trivial⟩, ⟨trivial, ⟨((hx.1.2.1.2 a ha).2 r hr).2.2.2.2.1.2.1.1, fun _ _ => trivial⟩, trivial⟩, trivial⟩⟩⟩, trivial⟩ (wl_ints hx.2.1.1) 0)⟩) hval hW
theorem over5 : Rows.fnExactKeptInRow.holds Try.pinned (OpenSpec.ofChange Rows.fnExactKeptInSpec) :=
  OpenClaim.holds_of_wide 5 Try.f5 rfl rfl rfl rfl rfl rfl rfl ⟨rfl, rfl, rfl, rfl, rfl⟩ rfl rfl rfl rfl rfl (by kernel_rfl) Try.func5 (by kernel_rfl)
    (of_decide_eq_true (by kernel_rfl)) (by unfold Func.isWrapper; first | (rw [if_pos (by decide +kernel)]; kernel_rfl) | (rw [if_neg (by decide +kernel)]; exact ⟨rfl, rfl⟩))
    (fun os started H enc _ => lifted5 os started H enc)
end Go.Proofs.Ythijgmbdlkeebaa.Am
namespace Go.Proofs.Ythijgmbdlkeebaa
theorem fnExactKeptIn_holds : Rows.FnExactKeptInSaid := Am.over5
#print axioms fnExactKeptIn_holds
end Go.Proofs.Ythijgmbdlkeebaa
