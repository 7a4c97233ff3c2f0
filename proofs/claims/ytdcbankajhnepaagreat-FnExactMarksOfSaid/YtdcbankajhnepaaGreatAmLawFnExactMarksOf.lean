/- FnExactMarksOf. No condition. -/
import Derived.Test.YtdcbankajhnepaaGreatRows
import Derived.Test.YtdcbankajhnepaaGreatAmFn1
import Derived.Test.YtdcbankajhnepaaGreatAmQ
import Derived.IntWalk
set_option linter.unusedVariables false
namespace Go.Proofs.YtdcbankajhnepaaGreat.Am
open Go.AM Go.AM.P Go.Proofs Go.ChangeShapes Go.WideShapes Go.ChangeAt Go.RowKit
theorem own : ownKnob Tryz.prog.godebug = none := by kernel_rfl
set_option maxRecDepth 100000 in
theorem lifted5 (os : Os) (started : os.Started) (H : Type) (enc : TypeId × Value → H) :
    ReturnsInHanded {} Tryz.checked os 5 .any (Rows.fnExactMarksOfSpec.pre6 enc Tryz.prog Tryz.f5 Rows.fnExactMarksOfRow.domain false) (Rows.fnExactMarksOfSpec.post enc Tryz.prog Tryz.f5 false true false false) := by
  refine returnsInHanded_of_change_sized (C := Tryz.checked) own started (by kernel_rfl) Tryz.func5
    (ChangeSpec.witness6 (enc := enc) (C := Tryz.checked) false ⟨#[], #[.agg #[.int .i64 0, .slice none 0 0]], []⟩ 8 (by kernel_rfl) (by kernel_rfl) (by kernel_rfl) (by kernel_rfl)) ?_
  intro W base args ds gs before hval hW hcnd hsz _
  exact law_ok env5 Tryz.func5 rfl (tys := [(.pair (.int .i64) (.pair (.slice 201 (.slice 257 (.pair (.int .i64) (.pair (.int .i64) (.pair (.int .i64) (.pair (.pair (.int .i64) (.pair (.int .i64) (.pair (.int .i64) (.pair (.int .i64) (.pair (.int .i64) .unit))))) (.pair (.pair (.int .i64) (.pair (.slice 3 (.int .i64)) .unit)) .unit))))))) .unit))]) (by kernel_rfl) (tb := 4) rfl Tryz.underlying4 rfl (fun ds h => match ds, h with | [_], _ => rfl)
    (fun x hx => ⟨_, (), (r5 _ x.1).trans (law_MarksOf x.1 ⟨trivial, ⟨hx.1.2.1.1, fun a ha => ⟨(hx.1.2.1.2 a ha).1, fun r hr => ⟨trivial, trivial, trivial, ⟨trivial, trivial, trivial, trivial, trivial, trivial⟩, ⟨trivial, ⟨((hx.1.2.1.2 a ha).2 r hr).2.2.2.2.1.2.1.1, fun _ _ => trivial⟩, trivial⟩, trivial⟩⟩⟩, trivial⟩ 0)⟩) (by exact ⟨W, trivial, Nat.zero_le _, fun _ h => absurd h (Nat.not_lt_zero _)⟩) hval hW
theorem over5 : Rows.fnExactMarksOfRow.holds Tryz.pinned (OpenSpec.ofChange Rows.fnExactMarksOfSpec) :=
  OpenClaim.holds_of_wide 5 Tryz.f5 rfl rfl rfl rfl rfl rfl rfl ⟨rfl, rfl, rfl, rfl, rfl⟩ rfl rfl rfl rfl rfl (by kernel_rfl) Tryz.func5 (by kernel_rfl)
    (of_decide_eq_true (by kernel_rfl)) (by unfold Func.isWrapper; first | (rw [if_pos (by decide +kernel)]; kernel_rfl) | (rw [if_neg (by decide +kernel)]; exact ⟨rfl, rfl⟩))
    (fun os started H enc _ => lifted5 os started H enc)
end Go.Proofs.YtdcbankajhnepaaGreat.Am
namespace Go.Proofs.YtdcbankajhnepaaGreat
theorem fnExactMarksOf_holds : Rows.FnExactMarksOfSaid := Am.over5
#print axioms fnExactMarksOf_holds
end Go.Proofs.YtdcbankajhnepaaGreat
