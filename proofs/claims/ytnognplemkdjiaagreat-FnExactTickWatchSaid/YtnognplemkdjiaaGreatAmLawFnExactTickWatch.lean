/- FnExactTickWatch. No condition. -/
import Derived.Test.YtnognplemkdjiaaGreatRows
import Derived.Test.YtnognplemkdjiaaGreatAmFn1
import Derived.Test.YtnognplemkdjiaaGreatAmQ
import Derived.IntWalk
set_option linter.unusedVariables false
namespace Go.Proofs.YtnognplemkdjiaaGreat.Am
open Go.AM Go.AM.P Go.Proofs Go.ChangeShapes Go.WideShapes Go.ChangeAt Go.RowKit
theorem own : ownKnob Tryz.prog.godebug = none := by kernel_rfl
set_option maxRecDepth 100000 in
theorem lifted3 (os : Os) (started : os.Started) (H : Type) (enc : TypeId × Value → H) :
    ReturnsInHanded {} Tryz.checked os 3 .any (Rows.fnExactTickWatchSpec.pre6 enc Tryz.prog Tryz.f3 Rows.fnExactTickWatchRow.domain false) (Rows.fnExactTickWatchSpec.post enc Tryz.prog Tryz.f3 false true false false) := by
  refine returnsInHanded_of_change_sized (C := Tryz.checked) own started (by kernel_rfl) Tryz.func3
    (ChangeSpec.witness6 (enc := enc) (C := Tryz.checked) false ⟨#[], #[.agg #[.int .i64 0, .int .i64 0, .slice none 0 0, .slice none 0 0], .agg #[.int .i64 0, .slice none 0 0]], []⟩ 8 (by kernel_rfl) (by kernel_rfl) (by kernel_rfl) (by kernel_rfl)) ?_
  intro W base args ds gs before hval hW hcnd hsz _
  exact law_ok env3 Tryz.func3 rfl (tys := [(.pair (.int .i64) (.pair (.int .i64) (.pair (.slice 23 (.slice 3 (.int .i64))) (.pair (.slice 3 (.int .i64)) .unit)))), (.pair (.int .i64) (.pair (.slice 144 (.slice 210 (.pair (.int .i64) (.pair (.int .i64) (.pair (.int .i64) (.pair (.pair (.int .i64) (.pair (.int .i64) (.pair (.int .i64) (.pair (.int .i64) (.pair (.int .i64) .unit))))) (.pair (.pair (.int .i64) (.pair (.slice 3 (.int .i64)) .unit)) .unit))))))) .unit))]) (by kernel_rfl) (tb := 4) rfl Tryz.underlying4 rfl (fun ds h => match ds, h with | [_, _], _ => rfl)
    (fun x hx => ⟨_, (), (r3 _ x.1 x.2.1).trans (law_TickWatch x.1 x.2.1 ⟨trivial, trivial, ⟨(hx.1.2.2.1).1, fun a ha => ⟨((hx.1.2.2.1).2 a ha).1, fun _ _ => trivial⟩⟩, ⟨(hx.1.2.2.2.1).1, fun _ _ => trivial⟩, trivial⟩ ⟨trivial, ⟨hx.2.1.2.1.1, fun a ha => ⟨(hx.2.1.2.1.2 a ha).1, fun r hr => ⟨trivial, trivial, trivial, ⟨trivial, trivial, trivial, trivial, trivial, trivial⟩, ⟨trivial, ⟨((hx.2.1.2.1.2 a ha).2 r hr).2.2.2.2.1.2.1.1, fun _ _ => trivial⟩, trivial⟩, trivial⟩⟩⟩, trivial⟩ 0)⟩) hval hW
theorem over3 : Rows.fnExactTickWatchRow.holds Tryz.pinned (OpenSpec.ofChange Rows.fnExactTickWatchSpec) :=
  OpenClaim.holds_of_wide 3 Tryz.f3 rfl rfl rfl rfl rfl rfl rfl ⟨rfl, rfl, rfl, rfl, rfl⟩ rfl rfl rfl rfl rfl (by kernel_rfl) Tryz.func3 (by kernel_rfl)
    (of_decide_eq_true (by kernel_rfl)) (by unfold Func.isWrapper; first | (rw [if_pos (by decide +kernel)]; kernel_rfl) | (rw [if_neg (by decide +kernel)]; exact ⟨rfl, rfl⟩))
    (fun os started H enc _ => lifted3 os started H enc)
end Go.Proofs.YtnognplemkdjiaaGreat.Am
namespace Go.Proofs.YtnognplemkdjiaaGreat
theorem fnExactTickWatch_holds : Rows.FnExactTickWatchSaid := Am.over3
#print axioms fnExactTickWatch_holds
end Go.Proofs.YtnognplemkdjiaaGreat
