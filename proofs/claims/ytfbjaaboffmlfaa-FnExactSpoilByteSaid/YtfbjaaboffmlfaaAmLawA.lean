/- FnExactSpoilByte. No condition. -/
import Derived.Test.YtfbjaaboffmlfaaRows
import Derived.Test.YtfbjaaboffmlfaaAmFnA
import Derived.IntWalk
set_option linter.unusedVariables false
namespace Go.Proofs.Ytfbjaaboffmlfaa.Am
open Go.AM Go.Proofs Go.ChangeShapes Go.WideShapes Go.ChangeAt Go.RowKit

theorem within_same (a b c : Int) : p42 0 a b c = p43 0 a b c := rfl
theorem spoil_same (s : ByteArray) (a b : Int) : p11 0 s a b = p12 0 s a b := rfl

theorem strOf_one (n : Int) : (strOf [n]).size = 1 := rfl

theorem spoil_some (s : ByteArray) (a b : Int) : ∃ r, p12 0 s a b = some r := by
  unfold p12 p43
  by_cases h : (s.size : Int) > 4000
  · rw [if_pos (by simpa using h)]; exact ⟨_, rfl⟩
  · rw [if_neg (by simpa using h)]
    have hw : IntKind.i64.wrap ((s.size : Int) - 1) = (s.size : Int) - 1 := by
      rw [IntKind.wrap_i64]; omega
    rw [hw]
    by_cases h0 : 0 ≤ a
    · rw [if_pos (by simpa using h0)]
      by_cases h1 : a ≤ (s.size : Int) - 1
      · simp only [Option.bind_some, decide_eq_true h1, Bool.not_true, Bool.false_eq_true, if_false]
        by_cases hb : 0 ≤ b
        · rw [if_pos (by simpa using hb)]
          by_cases hb1 : b ≤ 255
          · have hw1 : IntKind.i64.wrap (a + 1) = a + 1 := by
              rw [IntKind.wrap_i64]; omega
            simp only [Option.bind_some, decide_eq_true hb1, Bool.not_true, Bool.false_eq_true, if_false, hw1, strOf_one, ByteArray.size_append, ByteArray.size_extract]
            rw [if_pos (by simpa using h0), if_pos (by simp; omega), if_pos (by simp), if_pos (by simpa using h0), if_pos (by simp; omega), if_pos (by simp), if_pos (by simp), if_pos (by simp; omega), if_pos (by simp; omega), if_pos (by simp; omega)]
            exact ⟨_, rfl⟩
          · simp only [Option.bind_some, decide_eq_false hb1, Bool.not_false, if_true]
            exact ⟨_, rfl⟩
        · rw [if_neg (by simpa using hb)]
          exact ⟨_, rfl⟩
      · simp only [Option.bind_some, decide_eq_false h1, Bool.not_false, if_true]
        exact ⟨_, rfl⟩
    · rw [if_neg (by simpa using h0)]; exact ⟨_, rfl⟩

theorem law3 (s : ByteArray) (a b : Int) : p3 0 s a b = some ((true, ()), ()) := by
  unfold p3
  obtain ⟨r, hr⟩ := spoil_some s a b
  rw [spoil_same, hr]
  simp

theorem own : ownKnob Try.prog.godebug = none := by kernel_rfl
set_option maxRecDepth 100000 in
theorem lifted3 (os : Os) (started : os.Started) (H : Type) (enc : TypeId × Value → H) :
    ReturnsInHanded {} Try.checked os 3 .any (Rows.fnExactSpoilByteSpec.pre6 enc Try.prog Try.f3 Rows.fnExactSpoilByteRow.domain false) (Rows.fnExactSpoilByteSpec.post enc Try.prog Try.f3 false true false false) := by
  refine returnsInHanded_of_change_sized (C := Try.checked) own started (by kernel_rfl) Try.func3
    (ChangeSpec.witness6 (enc := enc) (C := Try.checked) false ⟨#[], #[.string ⟨#[]⟩, .int .i64 0, .int .i64 0], []⟩ 8 (by kernel_rfl) (by kernel_rfl) (by kernel_rfl) (by kernel_rfl)) ?_
  intro W base args ds gs before hval hW hcnd hsz _
  exact law_ok env3 Try.func3 rfl (tys := [.str, .int .i64, .int .i64]) (by kernel_rfl) (tb := 4) rfl Try.underlying4 rfl (fun ds h => match ds, h with | [_, _, _], _ => rfl)
    (fun x hx => ⟨0, (), (r3 0 x.1 x.2.1 x.2.2.1).trans (law3 x.1 x.2.1 x.2.2.1)⟩) hval hW
theorem over3 : Rows.fnExactSpoilByteRow.holds Try.pinned (OpenSpec.ofChange Rows.fnExactSpoilByteSpec) :=
  OpenClaim.holds_of_wide 3 Try.f3 rfl rfl rfl rfl rfl rfl rfl ⟨rfl, rfl, rfl, rfl, rfl⟩ rfl rfl rfl rfl rfl (by kernel_rfl) Try.func3 (by kernel_rfl)
    (of_decide_eq_true (by kernel_rfl)) (by unfold Func.isWrapper; first | (rw [if_pos (by decide +kernel)]; kernel_rfl) | (rw [if_neg (by decide +kernel)]; exact ⟨rfl, rfl⟩))
    (fun os started H enc _ => lifted3 os started H enc)
end Go.Proofs.Ytfbjaaboffmlfaa.Am
namespace Go.Proofs.Ytfbjaaboffmlfaa
theorem fnExactSpoilByte_holds : Rows.FnExactSpoilByteSaid := Am.over3
#print axioms fnExactSpoilByte_holds
end Go.Proofs.Ytfbjaaboffmlfaa
