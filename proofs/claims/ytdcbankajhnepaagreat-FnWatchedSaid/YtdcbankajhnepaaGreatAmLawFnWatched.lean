/- FnWatched. No condition. -/
import Derived.Test.YtdcbankajhnepaaGreatRows
import Derived.Test.YtdcbankajhnepaaGreatAmFn2
import Derived.Test.YtdcbankajhnepaaGreatAmQ
import Derived.IntWalk
set_option linter.unusedVariables false
namespace Go.Proofs.YtdcbankajhnepaaGreat.Am
open Go.AM Go.AM.P Go.Proofs Go.ChangeShapes Go.WideShapes Go.ChangeAt Go.RowKit
theorem own : ownKnob Tryz.prog.godebug = none := by kernel_rfl
set_option maxRecDepth 100000 in
theorem lifted3 (os : Os) (started : os.Started) (H : Type) (enc : TypeId × Value → H) :
  ReturnsInHanded {} Tryz.checked os 3 .any (Rows.fnWatchedSpec.pre6 enc Tryz.prog Tryz.f3 Rows.fnWatchedRow.domain false) (Rows.fnWatchedSpec.post enc Tryz.prog Tryz.f3 false true false false) := by
 refine returnsInHanded_of_change_sized (C := Tryz.checked) own started (by kernel_rfl) Tryz.func3
  (ChangeSpec.witness6 (enc := enc) (C := Tryz.checked) false ⟨#[], #[.slice none 0 0, .slice none 0 0], []⟩ 8 (by kernel_rfl) (by kernel_rfl) (by kernel_rfl) (by kernel_rfl)) ?_
 intro W base args ds gs before hval hW hcnd hsz _
 exact law_ok env3 Tryz.func3 rfl (tys := [(.slice 5 (.int .u8)), (.slice 5 (.int .u8))]) (by kernel_rfl) (tb := 4) rfl Tryz.underlying4 rfl (fun ds h => match ds, h with | [_, _], _ => rfl)
  (fun x hx => ⟨_, (), (r3 _ x.1 x.2.1).trans (law_FnWatchedW x.1 x.2.1 hx.1.2 hx.2.1.2)⟩) (by exact ⟨W, trivial, Nat.zero_le _, fun _ h => absurd h (Nat.not_lt_zero _)⟩) hval hW
theorem over3 : Rows.fnWatchedRow.holds Tryz.pinned (OpenSpec.ofChange Rows.fnWatchedSpec) :=
 OpenClaim.holds_of_wide 3 Tryz.f3 rfl rfl rfl rfl rfl rfl rfl ⟨rfl, rfl, rfl, rfl, rfl⟩ rfl rfl rfl rfl rfl (by kernel_rfl) Tryz.func3 (by kernel_rfl)
  (of_decide_eq_true (by kernel_rfl)) (by unfold Func.isWrapper; first | (rw [if_pos (by decide +kernel)]; kernel_rfl) | (rw [if_neg (by decide +kernel)]; exact ⟨rfl, rfl⟩))
  (fun os started H enc _ => lifted3 os started H enc)
end Go.Proofs.YtdcbankajhnepaaGreat.Am
namespace Go.Proofs.YtdcbankajhnepaaGreat
theorem fnWatched_holds : Rows.FnWatchedSaid := Am.over3
#print axioms fnWatched_holds
end Go.Proofs.YtdcbankajhnepaaGreat
