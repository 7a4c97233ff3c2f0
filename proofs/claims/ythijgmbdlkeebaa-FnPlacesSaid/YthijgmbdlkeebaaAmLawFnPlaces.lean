/- FnPlaces. No condition. -/
import Derived.Test.YthijgmbdlkeebaaRows
import Derived.Test.YthijgmbdlkeebaaAmFn1
import Derived.Test.YthijgmbdlkeebaaAmQ
import Derived.IntWalk
set_option linter.unusedVariables false
namespace Go.Proofs.Ythijgmbdlkeebaa.Am
open Go.AM Go.AM.P Go.Proofs Go.ChangeShapes Go.WideShapes Go.ChangeAt Go.RowKit
theorem own : ownKnob Try.prog.godebug = none := by kernel_rfl
set_option maxRecDepth 100000 in
theorem lifted9 (os : Os) (started : os.Started) (H : Type) (enc : TypeId × Value → H) :
    ReturnsInHanded {} Try.checked os 9 .any (Rows.fnPlacesSpec.pre6 enc Try.prog Try.f9 Rows.fnPlacesRow.domain false) (Rows.fnPlacesSpec.post enc Try.prog Try.f9 false true false false) := by
  refine returnsInHanded_of_change_sized (C := Try.checked) own started (by kernel_rfl) Try.func9
    (ChangeSpec.witness6 (enc := enc) (C := Try.checked) false ⟨#[], #[.slice none 0 0, .slice none 0 0], []⟩ 8 (by kernel_rfl) (by kernel_rfl) (by kernel_rfl) (by kernel_rfl)) ?_
  intro W base args ds gs before hval hW hcnd hsz _
  exact law_ok env9 Try.func9 rfl (tys := [(.slice 5 (.int .u8)), (.slice 5 (.int .u8))]) (by kernel_rfl) (tb := 4) rfl Try.underlying4 rfl (fun ds h => match ds, h with | [_, _], _ => rfl)
    (fun x hx => ⟨_, (), (r9 _ x.1 x.2.1).trans (law_PlacesW x.1 x.2.1 hx.1.2 hx.2.1.2)⟩) hval hW
theorem over9 : Rows.fnPlacesRow.holds Try.pinned (OpenSpec.ofChange Rows.fnPlacesSpec) :=
  OpenClaim.holds_of_wide 9 Try.f9 rfl rfl rfl rfl rfl rfl rfl ⟨rfl, rfl, rfl, rfl, rfl⟩ rfl rfl rfl rfl rfl (by kernel_rfl) Try.func9 (by kernel_rfl)
    (of_decide_eq_true (by kernel_rfl)) (by unfold Func.isWrapper; first | (rw [if_pos (by decide +kernel)]; kernel_rfl) | (rw [if_neg (by decide +kernel)]; exact ⟨rfl, rfl⟩))
    (fun os started H enc _ => lifted9 os started H enc)
end Go.Proofs.Ythijgmbdlkeebaa.Am
namespace Go.Proofs.Ythijgmbdlkeebaa
theorem fnPlaces_holds : Rows.FnPlacesSaid := Am.over9
#print axioms fnPlaces_holds
end Go.Proofs.Ythijgmbdlkeebaa
