/- The statement FnExactWaitOf: for all arguments the program's WaitOf returns what the reference's returns; no condition. -/
import Derived.Test.YtfbjaaboffmlfaaPFnExactWaitOfx1
namespace Go.Proofs.Ytfbjaaboffmlfaa.Pure
open Go.RowKit Go.Proofs.Ytfbjaaboffmlfaa.PFnExactWaitOf Go.Proofs.YtfbjaaboffmlfaaW.PrintWords Go.Proofs.YtfbjaaboffmlfaaW.PrintLast

theorem wait_same (n a b : Int) : spec_WaitOf.f n a b = impl_WaitOf.f n a b := rfl

theorem group_some (n : Int) : ∃ r, impl_IsGroup.f n = some r ∧ (r = true → n ≠ 0) := by
  unfold impl_IsGroup.f
  by_cases h : n = 3
  · exact ⟨true, if_pos h, fun _ => by omega⟩
  · exact ⟨n == 5, if_neg h, fun e => by simp at e; omega⟩

theorem within_some (a b c : Int) : ∃ r, impl_within.f a b c = some r := by
  unfold impl_within.f; split <;> exact ⟨_, rfl⟩

theorem wait_some (n a b : Int) : ∃ r, impl_WaitOf.f n a b = some r := by
  unfold impl_WaitOf.f
  obtain ⟨g, hg, hz⟩ := group_some n
  obtain ⟨x, hx⟩ := within_some a 0 (wrap64 (n - 1))
  obtain ⟨y, hy⟩ := within_some b 0 (wrap64 (n - 1))
  rw [hg, hx, hy]
  simp only [Option.bind_some]
  cases g
  · exact ⟨_, rfl⟩
  · cases x
    · exact ⟨_, rfl⟩
    · cases y
      · exact ⟨_, rfl⟩
      · unfold impl_waitOf.f
        rw [if_neg (hz rfl)]
        exact ⟨_, rfl⟩

theorem FnExactWaitOf : laws_FnExactWaitOf.Pure := by
  intro n a b _ _ _
  obtain ⟨r, hr⟩ := wait_some n a b
  unfold laws_FnExactWaitOf.f
  rw [wait_same, hr]
  simp

end Go.Proofs.Ytfbjaaboffmlfaa.Pure
