/- FnExactReadWire. No condition. -/
import Derived.Test.YtmnekhlgldljcaaDoorRows
import Derived.Test.YtmnekhlgldljcaaDoorAmFn1
import Derived.Test.YtmnekhlgldljcaaDoorAmQ
import Derived.IntWalk
import Derived.Test.YtmnekhlgldljcaaDoorTie
import Derived.Test.YtmnekhlgldljcaaDoorCards
import Derived.Test.YtmnekhlgldljcaaDoorAmOpn
import Derived.SevenTiedAt
import Derived.Lay
import Derived.OpenShut
set_option linter.unusedVariables false
namespace Go.Proofs.YtmnekhlgldljcaaDoor.Am
open Go.AM Go.AM.P Go.Proofs Go.ChangeShapes Go.WideShapes Go.ChangeAt Go.RowKit
theorem own : ownKnob Tryd.prog.godebug = none := by kernel_rfl
theorem door_met (os : Os) (args : Array Value) : laidMetH Tryd.prog Rows.fnExactReadWireRow.laid ((World.laidAll Tryd.prog os Rows.fnExactReadWireRow.laid).forCall (fun _ _ => 0) ⟨#[], args, []⟩).memory := by
  rw [MakeChecks.laidMetH_plain _ _ _ (by kernel_rfl)]
  exact laidMet_laidAll _ (by kernel_rfl) (by kernel_rfl)
theorem size_of {W : World} (h : W.ShapedOpen Tryd.prog) : 1 ≤ W.heap.size := by
  obtain ⟨cs, hh, _⟩ := h.1 0 #[.int .i64 0] 3 (of_decide_eq_true (by kernel_rfl)) (by kernel_rfl)
  rcases Nat.eq_zero_or_pos W.heap.size with h0 | h0
  · rw [Array.getElem?_eq_none (by omega)] at hh; cases hh
  · exact h0
set_option maxRecDepth 100000 in
theorem lifted9 (os : Os) (started : os.Started) (H : Type) (enc : TypeId × Value → H) :
    ReturnsInHanded {} Tryd.checked os 9 .any (fun w args => (Rows.fnExactReadWireSpec.pre enc Tryd.prog Tryd.f9 [] false w args ∧ laidMetH Tryd.prog Rows.fnExactReadWireRow.laid w) ∧ sizedMet enc Tryd.prog Tryd.f9 (OpenSpec.ofChange Rows.fnExactReadWireSpec) false w args) (Rows.fnExactReadWireSpec.post enc Tryd.prog Tryd.f9 false true false false) := by
  refine handed_laid (C := Tryd.checked) own started (by kernel_rfl) Tryd.func9
    (ChangeSpec.witness_shaped (enc := enc) (C := Tryd.checked) (os := os) (X := fun w _ => laidMetH Tryd.prog Rows.fnExactReadWireRow.laid w) false (World.laidAll Tryd.prog os Rows.fnExactReadWireRow.laid) #[.int .i64 0, .string ⟨#[]⟩] 8 (World.laidAll_os _ _ _) (World.shaped_of_ZipB (by kernel_rfl) (by kernel_rfl)) (by kernel_rfl) (by kernel_rfl) (by kernel_rfl) (door_met os _)) ?_
  intro W base args ds gs before hval hW hL hsh
  exact law_ok env9 Tryd.func9 rfl (tys := [(.int .i64), .str]) (by kernel_rfl) (tb := 4) rfl Tryd.underlying4 rfl (fun ds h => match ds, h with | [_, _], _ => rfl)
    (fun x hx => ⟨_, (), (r9 _ x.1 x.2.1).trans (law_ReadWire x.1 x.2.1 0)⟩) (by exact gl_of hsh (size_of hsh)) hval hW
theorem over9 : Rows.fnExactReadWireRow.holds Tryd.pinned (OpenSpec.ofChange Rows.fnExactReadWireSpec) :=
  OpenClaim.holds_of_wide 9 Tryd.f9 rfl rfl rfl rfl rfl rfl rfl ⟨rfl, rfl, rfl, rfl, rfl⟩ rfl rfl rfl rfl rfl (by kernel_rfl) Tryd.func9 (by kernel_rfl)
    (of_decide_eq_true (by kernel_rfl)) (by unfold Func.isWrapper; first | (rw [if_pos (by decide +kernel)]; kernel_rfl) | (rw [if_neg (by decide +kernel)]; exact ⟨rfl, rfl⟩))
    (fun os started H enc _ => lifted9 os started H enc)
theorem card9 : Rows.FnExactReadWireCardSaid :=
  Claim7.holds_tied_plain_at .later [] [.data, .pinned] true (true, "413716b298fa33b5d810eeae78cc5eeec6d580a1fa6fdabf6d78ac3d036f78f8") false
    over9 (fun _ h => by cases h) (by kernel_rfl) (fun _ h => by cases h) fnExactReadWire_row_tie rfl ⟨rfl, rfl⟩ (by kernel_rfl) rfl
    (fun f fn hf hfn => by
      obtain rfl : f = 9 := Option.some.inj ((show Tryd.prog.funcNamed "loop.example/g00698/laws.FnExactReadWire" = some 9 by kernel_rfl).symm.trans hf) |>.symm
      obtain rfl : fn = Tryd.f9 := (Option.some.inj (Tryd.func9.symm.trans hfn)).symm
      exact ⟨by kernel_rfl, fun j t ht => by
        have hm : t ∈ Tryd.f9.params := Array.mem_of_getElem? ht
        have hall : (Tryd.f9.params.toList.all fun u => !Tryd.prog.wantsStandIn u) = true := by kernel_rfl
        exact (show Tryd.prog.wantsStandIn t = false by simpa using List.all_eq_true.1 hall t (by simpa using hm))⟩)
    (by kernel_rfl)
end Go.Proofs.YtmnekhlgldljcaaDoor.Am
namespace Go.Proofs.YtmnekhlgldljcaaDoor
theorem fnExactReadWire_holds : Rows.FnExactReadWireCardSaid := Am.card9
#print axioms fnExactReadWire_holds
end Go.Proofs.YtmnekhlgldljcaaDoor
