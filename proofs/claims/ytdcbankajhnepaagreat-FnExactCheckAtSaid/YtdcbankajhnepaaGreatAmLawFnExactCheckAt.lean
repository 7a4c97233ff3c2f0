/- FnExactCheckAt. No condition. -/
import Derived.Test.YtdcbankajhnepaaGreatRows
import Derived.Test.YtdcbankajhnepaaGreatAmFn2
import Derived.Test.YtdcbankajhnepaaGreatAmQ
import Derived.IntWalk
set_option linter.unusedVariables false
namespace Go.Proofs.YtdcbankajhnepaaGreat.Am
open Go.AM Go.AM.P Go.Proofs Go.ChangeShapes Go.WideShapes Go.ChangeAt Go.RowKit
theorem own:ownKnob Tryz.prog.godebug=none:=by kernel_rfl
set_option maxRecDepth 100000 in
theorem lifted6 (os:Os) (started:os.Started) (H:Type) (enc:TypeId×Value→H):
  ReturnsInHanded {} Tryz.checked os 6 .any (Rows.fnExactCheckAtSpec.pre6 enc Tryz.prog Tryz.f6 Rows.fnExactCheckAtRow.domain false) (Rows.fnExactCheckAtSpec.post enc Tryz.prog Tryz.f6 false true false false):=by
 refine returnsInHanded_of_change_sized (C:=Tryz.checked) own started (by kernel_rfl) Tryz.func6
  (ChangeSpec.witness6 (enc:=enc) (C:=Tryz.checked) false ⟨#[],#[.agg #[.int .i64 0,.slice none 0 0],.int .i64 0],[]⟩ 8 (by kernel_rfl) (by kernel_rfl) (by kernel_rfl) (by kernel_rfl)) ?_
 intro W base args ds gs before hval hW hcnd hsz _
 exact law_ok env6 Tryz.func6 rfl (tys:=[(.pair (.int .i64) (.pair (.slice 201 (.slice 257 (.pair (.int .i64) (.pair (.int .i64) (.pair (.int .i64) (.pair (.pair (.int .i64) (.pair (.int .i64) (.pair (.int .i64) (.pair (.int .i64) (.pair (.int .i64) .unit))))) (.pair (.pair (.int .i64) (.pair (.slice 3 (.int .i64)) .unit)) .unit))))))) .unit)),(.int .i64)]) (by kernel_rfl) (tb:=4) rfl Tryz.underlying4 rfl (fun ds h=>match ds,h with | [_,_],_=>rfl)
  (fun x hx=>⟨_,(),(r6 _ x.1 x.2.1).trans (law_CheckAt x.1 x.2.1 ⟨trivial,⟨hx.1.2.1.1,fun a ha=>⟨(hx.1.2.1.2 a ha).1,fun r hr=>⟨trivial,trivial,trivial,⟨trivial,trivial,trivial,trivial,trivial,trivial⟩,⟨trivial,⟨((hx.1.2.1.2 a ha).2 r hr).2.2.2.2.1.2.1.1,fun _ _=>trivial⟩,trivial⟩,trivial⟩⟩⟩,trivial⟩ 0)⟩) (by exact⟨W,trivial,Nat.zero_le _,fun _ h=>absurd h (Nat.not_lt_zero _)⟩) hval hW
set_option maxHeartbeats 4000000 in
theorem over6:Rows.fnExactCheckAtRow.holds Tryz.pinned (OpenSpec.ofChange Rows.fnExactCheckAtSpec):=
 OpenClaim.holds_of_wide 6 Tryz.f6 rfl rfl rfl rfl rfl rfl rfl ⟨rfl,rfl,rfl,rfl,rfl⟩ rfl rfl rfl rfl rfl (by as_aux_lemma=>kernel_rfl) Tryz.func6 (by as_aux_lemma=>kernel_rfl)
  (of_decide_eq_true (by as_aux_lemma=>kernel_rfl)) (by unfold Func.isWrapper; first | (rw[if_pos (by as_aux_lemma=>decide +kernel)]; as_aux_lemma=>kernel_rfl) | (rw[if_neg (by as_aux_lemma=>decide +kernel)]; exact⟨rfl,rfl⟩))
  (fun os started H enc _=>lifted6 os started H enc)
end Go.Proofs.YtdcbankajhnepaaGreat.Am
namespace Go.Proofs.YtdcbankajhnepaaGreat
theorem fnExactCheckAt_holds:Rows.FnExactCheckAtSaid:=Am.over6
#print axioms fnExactCheckAt_holds
end Go.Proofs.YtdcbankajhnepaaGreat
