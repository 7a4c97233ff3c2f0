/- FnExactReadCheck. No condition. -/
import Derived.Test.YtmnekhlgldljcaaDoorRows
import Derived.Test.YtmnekhlgldljcaaDoorAmFn0
import Derived.Test.YtmnekhlgldljcaaDoorAmQ
import Derived.IntWalk
import Derived.Test.YtmnekhlgldljcaaDoorTie
import Derived.Test.YtmnekhlgldljcaaDoorCards
import Derived.Test.YtmnekhlgldljcaaDoorAmOpn
import Derived.SevenTiedAt
import Derived.Lay
import Derived.OpenShut
set_option linter.unusedVariables false
namespace Go.Proofs.YtmnekhlgldljcaaDoor.Am
open Go.AM Go.AM.P Go.Proofs Go.ChangeShapes Go.WideShapes Go.ChangeAt Go.RowKit
theorem own : ownKnob Tryd.prog.godebug = none := by kernel_rfl
theorem door_met (os : Os) (args : Array Value) : laidMetH Tryd.prog Rows.fnExactReadCheckRow.laid ((World.laidAll Tryd.prog os Rows.fnExactReadCheckRow.laid).forCall (fun _ _ => 0) ⟨#[], args, []⟩).memory := by
  rw [MakeChecks.laidMetH_plain _ _ _ (by kernel_rfl)]
  exact laidMet_laidAll _ (by kernel_rfl) (by kernel_rfl)
theorem glob : Tryd.prog.globalNamed "internal/strconv.uint64pow10" = some 1 := by kernel_rfl
theorem tab_of {W : World} (h : laidMetH Tryd.prog Rows.fnExactReadCheckRow.laid W) : Lib.TabIs Tryd.prog W "internal/strconv.uint64pow10" .u64 Lib.pow10Tab := by
  have h1 : laidMet Tryd.prog (("math/bits.deBruijn32tab", Rows.laid_math_bits_deBruijn32tab) :: ("math/bits.deBruijn64tab", Rows.laid_math_bits_deBruijn64tab) :: ("internal/strconv.uint64pow10", Rows.laid_internal_strconv_uint64pow10) :: ("unicode/utf8.acceptRanges", Rows.laid_unicode_utf8_acceptRanges) :: ("unicode/utf8.first", Rows.laid_unicode_utf8_first) :: []) W := h
  exact Lib.tabIs_of_head (g := 1) (t := 170) glob (by kernel_rfl) Tryd.underlying170 Tryd.underlying151 (by kernel_rfl) (by kernel_rfl) (laid_tail (laid_tail (h1)))
set_option maxRecDepth 100000 in
theorem lifted7 (os : Os) (started : os.Started) (H : Type) (enc : TypeId × Value → H) :
    ReturnsInHanded {} Tryd.checked os 7 .any (fun w args => (Rows.fnExactReadCheckSpec.pre enc Tryd.prog Tryd.f7 [] false w args ∧ laidMetH Tryd.prog Rows.fnExactReadCheckRow.laid w) ∧ sizedMet enc Tryd.prog Tryd.f7 (OpenSpec.ofChange Rows.fnExactReadCheckSpec) false w args) (Rows.fnExactReadCheckSpec.post enc Tryd.prog Tryd.f7 false true false false) := by
  refine handed_laid (C := Tryd.checked) own started (by kernel_rfl) Tryd.func7
    (ChangeSpec.witness_shaped (enc := enc) (C := Tryd.checked) (os := os) (X := fun w _ => laidMetH Tryd.prog Rows.fnExactReadCheckRow.laid w) false (World.laidAll Tryd.prog os Rows.fnExactReadCheckRow.laid) #[.int .i64 0, .string ⟨#[]⟩] 8 (World.laidAll_os _ _ _) (World.shaped_of_ZipB (by kernel_rfl) (by kernel_rfl)) (by kernel_rfl) (by kernel_rfl) (by kernel_rfl) (door_met os _)) ?_
  intro W base args ds gs before hval hW hL hsh
  exact law_ok env7 Tryd.func7 rfl (tys := [(.int .i64), .str]) (by kernel_rfl) (tb := 4) rfl Tryd.underlying4 rfl (fun ds h => match ds, h with | [_, _], _ => rfl)
    (fun x hx => ⟨_, (), (r7 _ x.1 x.2.1).trans (law_ReadCheck x.1 x.2.1 0)⟩) (by exact gl_of ⟨hsh, tab_of hL⟩ (var_lt glob (tab_of hL))) hval hW
theorem over7 : Rows.fnExactReadCheckRow.holds Tryd.pinned (OpenSpec.ofChange Rows.fnExactReadCheckSpec) :=
  OpenClaim.holds_of_wide 7 Tryd.f7 rfl rfl rfl rfl rfl rfl rfl ⟨rfl, rfl, rfl, rfl, rfl⟩ rfl rfl rfl rfl rfl (by kernel_rfl) Tryd.func7 (by kernel_rfl)
    (of_decide_eq_true (by kernel_rfl)) (by unfold Func.isWrapper; first | (rw [if_pos (by decide +kernel)]; kernel_rfl) | (rw [if_neg (by decide +kernel)]; exact ⟨rfl, rfl⟩))
    (fun os started H enc _ => lifted7 os started H enc)
theorem card7 : Rows.FnExactReadCheckCardSaid :=
  Claim7.holds_tied_plain_at .later [] [.data, .data, .data, .data, .pinned] true (true, "413716b298fa33b5d810eeae78cc5eeec6d580a1fa6fdabf6d78ac3d036f78f8") false
    over7 (fun _ h => by cases h) (by kernel_rfl) (fun _ h => by cases h) fnExactReadCheck_row_tie rfl ⟨rfl, rfl⟩ (by kernel_rfl) rfl
    (fun f fn hf hfn => by
      obtain rfl : f = 7 := Option.some.inj ((show Tryd.prog.funcNamed "loop.example/g00698/laws.FnExactReadCheck" = some 7 by kernel_rfl).symm.trans hf) |>.symm
      obtain rfl : fn = Tryd.f7 := (Option.some.inj (Tryd.func7.symm.trans hfn)).symm
      exact ⟨by kernel_rfl, fun j t ht => by
        have hm : t ∈ Tryd.f7.params := Array.mem_of_getElem? ht
        have hall : (Tryd.f7.params.toList.all fun u => !Tryd.prog.wantsStandIn u) = true := by kernel_rfl
        exact (show Tryd.prog.wantsStandIn t = false by simpa using List.all_eq_true.1 hall t (by simpa using hm))⟩)
    (by kernel_rfl)
end Go.Proofs.YtmnekhlgldljcaaDoor.Am
namespace Go.Proofs.YtmnekhlgldljcaaDoor
theorem fnExactReadCheck_holds : Rows.FnExactReadCheckCardSaid := Am.card7
#print axioms fnExactReadCheck_holds
end Go.Proofs.YtmnekhlgldljcaaDoor
