/- FnExactCommonMarks. No condition. -/
import Derived.Test.YtdcbankajhnepaaGreatRows
import Derived.Test.YtdcbankajhnepaaGreatAmFn3
import Derived.Test.YtdcbankajhnepaaGreatAmQ
import Derived.IntWalk
set_option linter.unusedVariables false
namespace Go.Proofs.YtdcbankajhnepaaGreat.Am
open Go.AM Go.AM.P Go.Proofs Go.ChangeShapes Go.WideShapes Go.ChangeAt Go.RowKit
theorem own:ownKnob Tryz.prog.godebug = none:=by kernel_rfl
set_option maxRecDepth 100000 in
theorem lifted8 (os:Os) (started:os.Started) (H:Type) (enc:TypeId × Value → H):
  ReturnsInHanded {} Tryz.checked os 8 .any (Rows.fnExactCommonMarksSpec.pre6 enc Tryz.prog Tryz.f8 Rows.fnExactCommonMarksRow.domain false) (Rows.fnExactCommonMarksSpec.post enc Tryz.prog Tryz.f8 false true false false):=by
 refine returnsInHanded_of_change_sized (C:=Tryz.checked) own started (by kernel_rfl) Tryz.func8
  (ChangeSpec.witness6 (enc:=enc) (C:=Tryz.checked) false ⟨#[],#[.agg #[.slice none 0 0,.slice none 0 0,.slice none 0 0]],[]⟩ 8 (by kernel_rfl) (by kernel_rfl) (by kernel_rfl) (by kernel_rfl)) ?_
 intro W base args ds gs before hval hW hcnd hsz _
 exact law_ok env8 Tryz.func8 rfl (tys:=[(.pair (.slice 222 (.pair (.int .i64) (.pair (.pair (.int .i64) (.pair (.slice 201 (.slice 257 (.pair (.int .i64) (.pair (.int .i64) (.pair (.int .i64) (.pair (.pair (.int .i64) (.pair (.int .i64) (.pair (.int .i64) (.pair (.int .i64) (.pair (.int .i64) .unit))))) (.pair (.pair (.int .i64) (.pair (.slice 3 (.int .i64)) .unit)) .unit))))))) .unit)) (.pair (.slice 309 (.pair (.int .i64) (.pair (.int .i64) (.pair (.int .i64) (.pair (.int .i64) (.pair (.pair (.int .i64) (.pair (.int .i64) (.pair (.int .i64) (.pair (.int .i64) (.pair (.int .i64) .unit))))) (.pair (.pair (.int .i64) (.pair (.slice 3 (.int .i64)) .unit)) (.pair (.pair (.int .i64) (.pair (.slice 3 (.int .i64)) .unit)) (.pair .bool (.pair (.slice 3 (.int .i64)) (.pair (.slice 257 (.pair (.int .i64) (.pair (.int .i64) (.pair (.int .i64) (.pair (.pair (.int .i64) (.pair (.int .i64) (.pair (.int .i64) (.pair (.int .i64) (.pair (.int .i64) .unit))))) (.pair (.pair (.int .i64) (.pair (.slice 3 (.int .i64)) .unit)) .unit)))))) .unit))))))))))) .unit)))) (.pair (.slice 227 (.pair (.int .i64) (.pair (.int .i64) (.pair (.int .i64) (.pair (.int .i64) (.pair (.int .i64) (.pair (.int .i64) (.pair (.int .i64) (.pair (.int .i64) (.pair (.pair (.int .i64) (.pair (.int .i64) (.pair (.int .i64) (.pair (.int .i64) (.pair (.int .i64) .unit))))) (.pair (.pair (.int .i64) (.pair (.slice 3 (.int .i64)) .unit)) .unit))))))))))) (.pair (.slice 239 (.pair (.int .i64) (.pair (.int .i64) (.pair (.pair (.int .i64) (.pair (.int .i64) (.pair (.int .i64) (.pair (.int .i64) (.pair (.int .i64) .unit))))) .unit)))) .unit)))]) (by kernel_rfl) (tb:=4) rfl Tryz.underlying4 rfl (fun ds h=>match ds,h with | [_],_=>rfl)
  (fun x hx=>⟨_,(),(r8 _ x.1).trans (law_CommonMarks x.1 (wl13 hx.1) 0)⟩) (by exact ⟨W,trivial,Nat.zero_le _,fun _ h=>absurd h (Nat.not_lt_zero _)⟩) hval hW
set_option maxHeartbeats 4000000 in
theorem over8:Rows.fnExactCommonMarksRow.holds Tryz.pinned (OpenSpec.ofChange Rows.fnExactCommonMarksSpec):=
 OpenClaim.holds_of_wide 8 Tryz.f8 rfl rfl rfl rfl rfl rfl rfl ⟨rfl,rfl,rfl,rfl,rfl⟩ rfl rfl rfl rfl rfl (by as_aux_lemma=>kernel_rfl) Tryz.func8 (by as_aux_lemma=>kernel_rfl)
  (of_decide_eq_true (by as_aux_lemma=>kernel_rfl)) (by unfold Func.isWrapper; first | (rw [if_pos (by as_aux_lemma=>decide +kernel)]; as_aux_lemma=>kernel_rfl) | (rw [if_neg (by as_aux_lemma=>decide +kernel)]; exact ⟨rfl,rfl⟩))
  (fun os started H enc _=>lifted8 os started H enc)
end Go.Proofs.YtdcbankajhnepaaGreat.Am
namespace Go.Proofs.YtdcbankajhnepaaGreat
theorem fnExactCommonMarks_holds:Rows.FnExactCommonMarksSaid:=Am.over8
#print axioms fnExactCommonMarks_holds
end Go.Proofs.YtdcbankajhnepaaGreat
