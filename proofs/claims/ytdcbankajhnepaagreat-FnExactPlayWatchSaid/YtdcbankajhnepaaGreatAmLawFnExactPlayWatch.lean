/- FnExactPlayWatch. No condition. -/
import Derived.Test.YtdcbankajhnepaaGreatRows
import Derived.Test.YtdcbankajhnepaaGreatAmFn2
import Derived.Test.YtdcbankajhnepaaGreatAmQ
import Derived.IntWalk
set_option linter.unusedVariables false
namespace Go.Proofs.YtdcbankajhnepaaGreat.Am
open Go.AM Go.AM.P Go.Proofs Go.ChangeShapes Go.WideShapes Go.ChangeAt Go.RowKit
theorem own : ownKnob Tryz.prog.godebug = none := by kernel_rfl
set_option maxRecDepth 100000 in
theorem lifted4 (os : Os) (started : os.Started) (H : Type) (enc : TypeId × Value → H) :
    ReturnsInHanded {} Tryz.checked os 4 .any (Rows.fnExactPlayWatchSpec.pre6 enc Tryz.prog Tryz.f4 Rows.fnExactPlayWatchRow.domain false) (Rows.fnExactPlayWatchSpec.post enc Tryz.prog Tryz.f4 false true false false) := by
  refine returnsInHanded_of_change_sized (C := Tryz.checked) own started (by kernel_rfl) Tryz.func4
    (ChangeSpec.witness6 (enc := enc) (C := Tryz.checked) false ⟨#[], #[.int .i64 0, .int .i64 0, .slice none 0 0], []⟩ 8 (by kernel_rfl) (by kernel_rfl) (by kernel_rfl) (by kernel_rfl)) ?_
  intro W base args ds gs before hval hW hcnd hsz _
  exact law_ok env4 Tryz.func4 rfl (tys := [(.int .i64), (.int .i64), (.slice 66 (.pair (.int .i64) (.pair (.slice 201 (.slice 257 (.pair (.int .i64) (.pair (.int .i64) (.pair (.int .i64) (.pair (.pair (.int .i64) (.pair (.int .i64) (.pair (.int .i64) (.pair (.int .i64) (.pair (.int .i64) .unit))))) (.pair (.pair (.int .i64) (.pair (.slice 3 (.int .i64)) .unit)) .unit))))))) .unit)))]) (by kernel_rfl) (tb := 4) rfl Tryz.underlying4 rfl (fun ds h => match ds, h with | [_, _, _], _ => rfl)
    (fun x hx => ⟨_, (), (r4 _ x.1 x.2.1 x.2.2.1).trans (law_PlayWatch x.1 x.2.1 x.2.2.1 ⟨hx.2.2.1.1, fun t ht => ⟨trivial, ⟨(hx.2.2.1.2 t ht).2.1.1, fun a ha => ⟨((hx.2.2.1.2 t ht).2.1.2 a ha).1, fun r hr => ⟨trivial, trivial, trivial, ⟨trivial, trivial, trivial, trivial, trivial, trivial⟩, ⟨trivial, ⟨(((hx.2.2.1.2 t ht).2.1.2 a ha).2 r hr).2.2.2.2.1.2.1.1, fun _ _ => trivial⟩, trivial⟩, trivial⟩⟩⟩, trivial⟩⟩ 0)⟩) (by exact ⟨W, trivial, Nat.zero_le _, fun _ h => absurd h (Nat.not_lt_zero _)⟩) hval hW
theorem over4 : Rows.fnExactPlayWatchRow.holds Tryz.pinned (OpenSpec.ofChange Rows.fnExactPlayWatchSpec) :=
  OpenClaim.holds_of_wide 4 Tryz.f4 rfl rfl rfl rfl rfl rfl rfl ⟨rfl, rfl, rfl, rfl, rfl⟩ rfl rfl rfl rfl rfl (by kernel_rfl) Tryz.func4 (by kernel_rfl)
    (of_decide_eq_true (by kernel_rfl)) (by unfold Func.isWrapper; first | (rw [if_pos (by decide +kernel)]; kernel_rfl) | (rw [if_neg (by decide +kernel)]; exact ⟨rfl, rfl⟩))
    (fun os started H enc _ => lifted4 os started H enc)
end Go.Proofs.YtdcbankajhnepaaGreat.Am
namespace Go.Proofs.YtdcbankajhnepaaGreat
theorem fnExactPlayWatch_holds : Rows.FnExactPlayWatchSaid := Am.over4
#print axioms fnExactPlayWatch_holds
end Go.Proofs.YtdcbankajhnepaaGreat
