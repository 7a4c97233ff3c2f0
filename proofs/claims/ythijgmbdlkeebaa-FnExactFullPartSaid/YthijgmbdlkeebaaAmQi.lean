/- The laws on parts. No condition. -/
import Derived.Test.YthijgmbdlkeebaaAmQh
set_option linter.unusedVariables false
set_option linter.unusedSimpArgs false
namespace Go.AM.P
open Go.AM

theorem entriesOk_all {l : List T4} (h : entriesOk l = true) : (∀ e ∈ l, gcmd e.2.2.1 = true) ∧ l.length ≤ 60 := by
  unfold entriesOk at h
  rw [Bool.and_eq_true, Bool.and_eq_true, List.all_eq_true] at h
  refine ⟨fun e he => h.2.1 e he, ?_⟩
  have := of_decide_eq_true h.2.2
  omega

def partRes (l : List T4) (K : List Int) (V : List T5) : List Int × Int × Bool × Unit :=
  (K.map (fun k => rd (partS K V l [100, 100, 100, 100] 0).1 k 0), (partS K V l [100, 100, 100, 100] 0).2, true, ())

theorem impl_PartBook_eq (l : List T4) (K : List Int) (V : List T5) (hl : l.length ≤ 1048576) (hk : K.length ≤ 1048576) (hV : V.length ≤ maxLen) : S_impl_PartBook l K V = some ((if entriesOk l && keepsOk K then partRes l K V else ([], 0, false, ())), ()) := by
  unfold S_impl_PartBook p_impl_PartBook
  rw [impl_goodParts_eq l K (by rw [maxLen_eq]; omega) (by rw [maxLen_eq]; omega), Option.bind_some]
  dsimp only
  cases he : entriesOk l with
  | false => simp
  | true =>
    cases hK : keepsOk K with
    | false => simp
    | true =>
      rw [impl_part_eq l K V hl (entriesOk_all he).1 hK hk hV]
      rfl
theorem spec_PartBook_eq (l : List T4) (K : List Int) (V : List T5) (hl : l.length ≤ 1048576) (hk : K.length ≤ 1048576) (hV : V.length ≤ maxLen) : S_spec_PartBook l K V = some ((if entriesOk l && keepsOk K then partRes l K V else ([], 0, false, ())), ()) := by
  unfold S_spec_PartBook p_spec_PartBook
  rw [spec_l16Entries_eq l (by rw [maxLen_eq]; omega), Option.bind_some, spec_l16Keeps_eq K (by rw [maxLen_eq]; omega), Option.bind_some]
  dsimp only
  cases he : entriesOk l with
  | false => simp
  | true =>
    cases hK : keepsOk K with
    | false => simp
    | true =>
      rw [spec_l16Part_eq l K V hl (entriesOk_all he).1 hK hk hV]
      rfl

theorem sz_over2 {n : Nat} {k : Int} (h0 : 0 ≤ k) {G : (Int × Unit) × Unit → Option ((Bool × Unit) × Unit)} (hneg : G ((-1, ()), ()) = some ((true, ()), ())) (hK : (n : Int) ≤ k → ∀ r : Int, decide (r < 0) = false → 0 ≤ r → r ≤ k → G ((r, ()), ()) = some ((true, ()), ())) :
    (szRes n k).bind G = some ((true, ()), ()) := by
  simp only [szRes, Option.bind_some]
  by_cases hn : (n : Int) ≤ k
  · rw [szV_pos hn]
    exact hK hn _ (decide_eq_false (by omega)) (by omega) (by omega)
  · rw [szV_neg hn]; exact hneg

theorem law_PartBook (l : List T4) (K : List Int) (V : List T5) (hl : WL.wl l) (hk : WL.wl K) (hV : WL.wl V) (N : Nat) : p_laws_FnExactPartBook N l K V = some ((true, ()), ()) := by
  unfold p_laws_FnExactPartBook
  by_cases hk1 : (K.length : Int) > 1048576
  · rw [decide_eq_true hk1]; rfl
  rw [decide_eq_false hk1]
  simp only [Bool.false_eq_true, if_false]
  rw [sz_EntryS _ _ (by omega) (by omega) hl]
  refine sz_over2 (by omega) rfl fun hn r hr hr0 hr1 => ?_
  simp only [hr, Bool.false_eq_true, if_false]
  rw [sz_VerdictS _ _ hr0 (by omega) hV]
  refine sz_over2 hr0 rfl fun hn2 r2 hr2 _ _ => ?_
  have hc : Cnt.cnt l ≤ 1048576 := Int.ofNat_le.1 hn
  have hc' : l.length + sumCnt Cnt.cnt l ≤ 1048576 := hc
  have hcV : Cnt.cnt V ≤ 1048576 := by omega
  have hcV' : V.length + sumCnt Cnt.cnt V ≤ 1048576 := hcV
  have hkc : Cnt.cnt K ≤ 1048576 := by rw [cnt_ints]; omega
  obtain ⟨h, n, ok, hw, hh, e1, e2⟩ : ∃ (h : List Int) (n : Int) (ok : Bool), WL.wl h ∧ h.length ≤ 1048576 ∧ S_impl_PartBook l K V = some ((h, n, ok, ()), ()) ∧ S_spec_PartBook l K V = some ((h, n, ok, ()), ()) := by
    rw [impl_PartBook_eq l K V (by omega) (by omega) hV.1, spec_PartBook_eq l K V (by omega) (by omega) hV.1]
    cases entriesOk l && keepsOk K with
    | false => exact ⟨[], 0, false, ⟨by simp, by simp⟩, by simp, by simp, by simp⟩
    | true => exact ⟨_, _, true, ⟨by rw [List.length_map, maxLen_eq]; omega, fun _ _ => trivial⟩, by rw [List.length_map]; omega, rfl, rfl⟩
  obtain ⟨h', m3, m4⟩ := marks_IntS h 1 hw (by omega) (by omega)
  have hue := u_EntryS_le l
  have huv := u_VerdictS_le V
  have m1 := mark_EntryS (k := 1) hl (by omega) (by omega)
  have m2 := markIntS_eq (l := K) (k := 1 + (u_EntryS l : Int)) (by omega) (by omega)
  have m5 := mark_VerdictS (k := 1 + (u_EntryS l : Int) + (K.length : Int)) hV (by omega) (by omega)
  have p1 : decide ((1 : Int) + (u_EntryS l : Int) + (K.length : Int) + (u_VerdictS V : Int) < 0) = false := decide_eq_false (by omega)
  have p2 : decide ((1 : Int) + (h.length : Int) < 0) = false := decide_eq_false (by omega)
  simp only [hr2, to_EntryS l hc, to_IntS K hkc, to_VerdictS V hcV, Option.bind_some, e1, e2, eq_IntS h h hw hw, eq_EntryS l l hl hl, eq_IntS K K hk hk, eq_VerdictS V V hV hV, same_self, m1, m2, m3, m4, m5, p1, p2, bne_self_eq_false, Bool.not_true, Bool.false_eq_true, if_false]
end Go.AM.P
