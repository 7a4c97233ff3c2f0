/- FnWire. No condition. -/
import Derived.Test.YtmnekhlgldljcaaGreatDoorRows
import Derived.Test.YtmnekhlgldljcaaGreatDoorAmFn4
import Derived.Test.YtmnekhlgldljcaaGreatDoorAmQ
import Derived.IntWalk
import Derived.Test.YtmnekhlgldljcaaGreatDoorTie
import Derived.Test.YtmnekhlgldljcaaGreatDoorCards
import Derived.Test.YtmnekhlgldljcaaGreatDoorAmOpn
import Derived.SevenTiedAt
import Derived.Lay
import Derived.OpenShut
set_option linter.unusedVariables false
namespace Go.Proofs.YtmnekhlgldljcaaGreatDoor.Am
open Go.AM Go.AM.P Go.Proofs Go.ChangeShapes Go.WideShapes Go.ChangeAt Go.RowKit
theorem own : ownKnob Tryz.prog.godebug = none := by kernel_rfl
theorem door_met (os : Os) (args : Array Value) : laidMetH Tryz.prog Rows.fnWireRow.laid ((World.laidAll Tryz.prog os Rows.fnWireRow.laid).forCall (fun _ _ => 0) ⟨#[], args, []⟩).memory := by
  rw [MakeChecks.laidMetH_plain _ _ _ (by kernel_rfl)]
  exact laidMet_laidAll _ (by kernel_rfl) (by kernel_rfl)
theorem glob : Tryz.prog.globalNamed "internal/strconv.uint64pow10" = some 3 := by kernel_rfl
theorem tab_of {W : World} (h : laidMetH Tryz.prog Rows.fnWireRow.laid W) : Lib.TabIs Tryz.prog W "internal/strconv.uint64pow10" .u64 Lib.pow10Tab := by
  have h1 : laidMet Tryz.prog (("math/bits.deBruijn32tab", Rows.laid_math_bits_deBruijn32tab) :: ("math/bits.deBruijn64tab", Rows.laid_math_bits_deBruijn64tab) :: ("internal/strconv.uint64pow10", Rows.laid_internal_strconv_uint64pow10) :: ("unicode/utf8.acceptRanges", Rows.laid_unicode_utf8_acceptRanges) :: ("unicode/utf8.first", Rows.laid_unicode_utf8_first) :: []) W := h
  exact Lib.tabIs_of_head (g := 3) (t := 155) glob (by kernel_rfl) Tryz.underlying155 Tryz.underlying63 (by kernel_rfl) (by kernel_rfl) (laid_tail (laid_tail (h1)))
set_option maxRecDepth 100000 in
theorem lifted4 (os : Os) (started : os.Started) (H : Type) (enc : TypeId × Value → H) :
    ReturnsInHanded {} Tryz.checked os 4 .any (fun w args => (Rows.fnWireSpec.pre enc Tryz.prog Tryz.f4 [] false w args ∧ laidMetH Tryz.prog Rows.fnWireRow.laid w) ∧ sizedMet enc Tryz.prog Tryz.f4 (OpenSpec.ofChange Rows.fnWireSpec) false w args) (Rows.fnWireSpec.post enc Tryz.prog Tryz.f4 false true false false) := by
  refine handed_laid (C := Tryz.checked) own started (by kernel_rfl) Tryz.func4
    (ChangeSpec.witness_shaped (enc := enc) (C := Tryz.checked) (os := os) (X := fun w _ => laidMetH Tryz.prog Rows.fnWireRow.laid w) false (World.laidAll Tryz.prog os Rows.fnWireRow.laid) #[.slice none 0 0, .slice none 0 0] 8 (World.laidAll_os _ _ _) (World.shaped_of_ZipB (by kernel_rfl) (by kernel_rfl)) (by kernel_rfl) (by kernel_rfl) (by kernel_rfl) (door_met os _)) ?_
  intro W base args ds gs before hval hW hL hsh
  exact law_ok env4 Tryz.func4 rfl (tys := [(.slice 5 (.int .u8)), (.slice 5 (.int .u8))]) (by kernel_rfl) (tb := 4) rfl Tryz.underlying4 rfl (fun ds h => match ds, h with | [_, _], _ => rfl)
    (fun x hx => ⟨_, (), (r4 _ x.1 x.2.1).trans (law_FnWireW x.1 x.2.1 hx.1.2 hx.2.1.2 0)⟩) (by exact gl_of ⟨hsh, tab_of hL⟩ (var_lt glob (tab_of hL))) hval hW
theorem over4 : Rows.fnWireRow.holds Tryz.pinned (OpenSpec.ofChange Rows.fnWireSpec) :=
  OpenClaim.holds_of_wide 4 Tryz.f4 rfl rfl rfl rfl rfl rfl rfl ⟨rfl, rfl, rfl, rfl, rfl⟩ rfl rfl rfl rfl rfl (by kernel_rfl) Tryz.func4 (by kernel_rfl)
    (of_decide_eq_true (by kernel_rfl)) (by unfold Func.isWrapper; first | (rw [if_pos (by decide +kernel)]; kernel_rfl) | (rw [if_neg (by decide +kernel)]; exact ⟨rfl, rfl⟩))
    (fun os started H enc _ => lifted4 os started H enc)
theorem card4 : Rows.FnWireCardSaid :=
  Claim7.holds_tied_plain_at .later [] [.data, .data, .data, .data, .pinned] true (true, "196284f078ba86de7487d4d10501244537609ff12f16bac83e032d8661b6aa20") false
    over4 (fun _ h => by cases h) (by kernel_rfl) (fun _ h => by cases h) fnWire_row_tie rfl ⟨rfl, rfl⟩ (by kernel_rfl) rfl
    (fun f fn hf hfn => by
      obtain rfl : f = 4 := Option.some.inj ((show Tryz.prog.funcNamed "loop.example/g00698/laws.FnWire" = some 4 by kernel_rfl).symm.trans hf) |>.symm
      obtain rfl : fn = Tryz.f4 := (Option.some.inj (Tryz.func4.symm.trans hfn)).symm
      exact ⟨by kernel_rfl, fun j t ht => by
        have hm : t ∈ Tryz.f4.params := Array.mem_of_getElem? ht
        have hall : (Tryz.f4.params.toList.all fun u => !Tryz.prog.wantsStandIn u) = true := by kernel_rfl
        exact (show Tryz.prog.wantsStandIn t = false by simpa using List.all_eq_true.1 hall t (by simpa using hm))⟩)
    (by kernel_rfl)
end Go.Proofs.YtmnekhlgldljcaaGreatDoor.Am
namespace Go.Proofs.YtmnekhlgldljcaaGreatDoor
theorem fnWire_holds : Rows.FnWireCardSaid := Am.card4
#print axioms fnWire_holds
end Go.Proofs.YtmnekhlgldljcaaGreatDoor
