/- What a replica that keeps some accounts comes to, told by others. No condition. -/
import Derived.Test.YthijgmbdlkeebaaAmQi
set_option linter.unusedVariables false
set_option linter.unusedSimpArgs false
namespace Go.AM.P
open Go.AM

def knownAll (l : List T4) (P : List (List Int)) : List T5 := P.flatMap fun k => verds k l
theorem knownAll_len (l : List T4) : ∀ P : List (List Int), (knownAll l P).length ≤ P.length * l.length
  | [] => by simp [knownAll]
  | k :: t => by
    have h1 := knownAll_len l t
    have h2 := verds_len k l
    simp only [knownAll, List.flatMap_cons, List.length_append, List.length_cons] at h1 ⊢
    rw [Nat.succ_mul]
    omega
def fullRes (P : List (List Int)) (l : List T4) (k : List Int) : List Int × Bool × Unit :=
  if (partS k (knownAll l P) l [100, 100, 100, 100] 0).2 < (l.length : Int) then ([], false, ())
  else (k.map (fun a => rd (partS k (knownAll l P) l [100, 100, 100, 100] 0).1 a 0), true, ())

theorem placesOk_at {n : Int} {P : List (List Int)} (h : placesOk n P = true) : (P.length : Int) = n ∧ P.length ≤ 5 ∧ ∀ k ∈ P, keepsOk k = true := by
  unfold placesOk at h
  simp only [Bool.and_eq_true, List.all_eq_true, beq_iff_eq] at h
  obtain ⟨⟨⟨hg, hn⟩, hk⟩, _⟩ := h
  refine ⟨hn, ?_, hk⟩
  rw [grp_iff] at hg
  omega

/-- the loop that gathers what is known, and what comes behind it -/
theorem gather_loop {ρ : Type} {N : Nat} {body : (((List (List Int) × List T4 × Int × List (List Int) × Int × Int × Unit) × (List Int × List T5 × Unit)) → Option ρ) → ((List (List Int) × List T4 × Int × List (List Int) × Int × Int × Unit) × (List Int × List T5 × Unit)) → Option ρ}
    {P : List (List Int)} {l : List T4} {r : Int} {v : ρ} (hP : P.length ≤ 5) (hl : l.length ≤ 60) (hN : P.length < N)
    (hend : ∀ rec, body rec ((P, l, r, P, (P.length : Int), (P.length : Int), ()), ([], knownAll l P, ())) = some v)
    (hstep : ∀ rec (i : Nat) (k : List Int) (t : List (List Int)) (s : List T5), At P i k t → s.length ≤ i * l.length → rec ((P, l, r, P, (P.length : Int), ((i + 1 : Nat) : Int), ()), ([], s ++ verds k l, ())) = some v → body rec ((P, l, r, P, (P.length : Int), (i : Int), ()), ([], s, ())) = some v) :
    loopN N body ((P, l, r, P, (P.length : Int), (0 : Int), ()), ([], [], ())) = some v := by
  have hP' : P.length ≤ maxLen := by rw [maxLen_eq]; omega
  refine loopN_over P hP' (fun i (s : List T5) => ((P, l, r, P, (P.length : Int), (i : Int), ()), ([], s, ()))) (fun i t s => v) (fun i t s => s ++ knownAll l t = knownAll l P ∧ s.length ≤ i * l.length)
    [] rfl rfl (by simp) hN (fun rec s h => ?_) (fun rec i b t s hat h hrec => ?_)
  · have : s = knownAll l P := by simpa [knownAll] using h.1
    rw [this]
    exact hend rec
  · refine hstep rec i b t s hat h.2 (hrec (s ++ verds b l) ⟨?_, ?_⟩)
    · rw [← h.1]
      simp [knownAll]
    · have := verds_len b l
      rw [List.length_append, Nat.succ_mul]
      omega

theorem impl_FullPart_eq (n : Int) (P : List (List Int)) (l : List T4) (r : Int) (hP : WL.wl P) (hPl : ∀ k ∈ P, k.length ≤ 1048576) (hl : l.length ≤ 1048576) :
    S_impl_FullPart n P l r = some ((if placesOk n P && (entriesOk l && inn r 0 (n - 1)) then fullRes P l (rd P r []) else ([], false, ())), ()) := by
  have hl' : l.length ≤ maxLen := by rw [maxLen_eq]; omega
  unfold S_impl_FullPart
  refine lim_eq 6 fun N hN => ?_
  unfold p_impl_FullPart
  rw [impl_GoodPlaces_eq n P hP, Option.bind_some]
  dsimp only
  cases hp : placesOk n P with
  | false => simp
  | true =>
    obtain ⟨hn, hP5, hk⟩ := placesOk_at hp
    have hw : IntKind.i64.wrap (n - 1) = n - 1 := wrap_small (by omega) (by omega)
    rw [hw, impl_within_eq, Option.bind_some]
    dsimp only
    simp only [Bool.not_true, Bool.false_eq_true, if_false, Bool.true_and]
    cases hr : inn r 0 (n - 1) with
    | false => simp
    | true =>
      have hr' : 0 ≤ r ∧ r < (P.length : Int) := by
        unfold inn at hr
        simp at hr
        omega
      have hmem : rd P r [] ∈ P := List.mem_of_getElem? (rd_get hr'.1 hr'.2)
      have hkr := hk _ hmem
      have hklr := hPl _ hmem
      simp only [hr'.1, hr'.2, decide_true, if_true, Bool.not_true, Bool.false_eq_true, if_false, Bool.and_true]
      rw [impl_goodParts_eq l _ hl' (by rw [maxLen_eq]; omega), Option.bind_some, hkr, Bool.and_true]
      dsimp only
      cases he : entriesOk l with
      | false => simp
      | true =>
        obtain ⟨hg, h60⟩ := entriesOk_all he
        simp only [Bool.not_true, Bool.false_eq_true, if_false, if_true]
        refine gather_loop hP5 h60 (by omega) (fun rec => ?_) (fun rec i k t s hat hs hrec => ?_)
        · have hkn := knownAll_len l P
          have hmul : P.length * l.length ≤ 5 * 60 := Nat.mul_le_mul hP5 h60
          dsimp only
          simp only [lenInt_lt_irrefl, decide_false, Bool.false_eq_true, if_false, hr'.1, hr'.2, decide_true, if_true]
          rw [impl_part_eq l _ _ hl hg hkr hklr (by rw [maxLen_eq]; omega), Option.bind_some]
          unfold fullRes
          dsimp only
          by_cases hd : (partS (rd P r []) (knownAll l P) l [100, 100, 100, 100] 0).2 < (l.length : Int) <;> simp [hd]
        · have hlt := hat.ltn
          have hvl := verds_len k l
          have hmul : i * l.length ≤ 5 * 60 := Nat.mul_le_mul (by omega) h60
          have hap : ((s.length + (verds k l).length) * 32 ≤ 140737488355328) = True := by simp; omega
          dsimp only
          simp only [hat.lt, hat.nn, hat.wrap, hat.rd, decide_true, if_true, impl_verdicts_eq l k hl (hPl k hat.mem), Option.bind_some, hap]
          exact hrec

theorem spec_FullPart_eq (n : Int) (P : List (List Int)) (l : List T4) (r : Int) (hP : WL.wl P) (hPl : ∀ k ∈ P, k.length ≤ 1048576) (hl : l.length ≤ 1048576) :
    S_spec_FullPart n P l r = some ((if placesOk n P && (entriesOk l && inn r 0 (n - 1)) then fullRes P l (rd P r []) else ([], false, ())), ()) := by
  have hl' : l.length ≤ maxLen := by rw [maxLen_eq]; omega
  unfold S_spec_FullPart
  refine lim_eq 6 fun N hN => ?_
  unfold p_spec_FullPart
  rw [spec_GoodPlaces_eq n P hP, Option.bind_some]
  dsimp only
  cases hp : placesOk n P with
  | false => simp
  | true =>
    obtain ⟨hn, hP5, hk⟩ := placesOk_at hp
    have hw : IntKind.i64.wrap (n - 1) = n - 1 := wrap_small (by omega) (by omega)
    rw [spec_l16Entries_eq l hl', Option.bind_some]
    dsimp only
    cases he : entriesOk l with
    | false => simp
    | true =>
      obtain ⟨hg, h60⟩ := entriesOk_all he
      rw [hw, spec_l1In_eq, Option.bind_some]
      dsimp only
      simp only [Bool.not_true, Bool.false_eq_true, if_false, Bool.true_and]
      cases hr : inn r 0 (n - 1) with
      | false => simp
      | true =>
        have hr' : 0 ≤ r ∧ r < (P.length : Int) := by
          unfold inn at hr
          simp at hr
          omega
        have hmem : rd P r [] ∈ P := List.mem_of_getElem? (rd_get hr'.1 hr'.2)
        have hkr := hk _ hmem
        have hklr := hPl _ hmem
        simp only [Bool.not_true, Bool.false_eq_true, if_false, if_true]
        refine gather_loop hP5 h60 (by omega) (fun rec => ?_) (fun rec i k t s hat hs hrec => ?_)
        · have hkn := knownAll_len l P
          have hmul : P.length * l.length ≤ 5 * 60 := Nat.mul_le_mul hP5 h60
          dsimp only
          simp only [lenInt_lt_irrefl, decide_false, Bool.false_eq_true, if_false, hr'.1, hr'.2, decide_true, if_true]
          rw [spec_l16Part_eq l _ _ hl hg hkr hklr (by rw [maxLen_eq]; omega), Option.bind_some]
          unfold fullRes
          dsimp only
          by_cases hd : (partS (rd P r []) (knownAll l P) l [100, 100, 100, 100] 0).2 < (l.length : Int) <;> simp [hd]
        · have hlt := hat.ltn
          have hvl := verds_len k l
          have hmul : i * l.length ≤ 5 * 60 := Nat.mul_le_mul (by omega) h60
          have hap : ((s.length + (verds k l).length) * 32 ≤ 140737488355328) = True := by simp; omega
          dsimp only
          simp only [hat.lt, hat.nn, hat.wrap, hat.rd, decide_true, if_true, spec_l16Verdicts_eq l k hl (hPl k hat.mem), Option.bind_some, hap]
          exact hrec

theorem law_FullPart (n : Int) (P : List (List Int)) (l : List T4) (r : Int) (hP : WL.wl P) (hl : WL.wl l) (N : Nat) : p_laws_FnExactFullPart N n P l r = some ((true, ()), ()) := by
  unfold p_laws_FnExactFullPart
  rw [sz_IntSS _ _ (by omega) (by omega) hP]
  refine sz_over2 (by omega) rfl fun hn r1 hr hr0 hr1 => ?_
  simp only [hr, Bool.false_eq_true, if_false]
  rw [sz_EntryS _ _ hr0 (by omega) hl]
  refine sz_over2 hr0 rfl fun hn2 r2 hr2 _ _ => ?_
  have hc : Cnt.cnt P ≤ 1048576 := Int.ofNat_le.1 hn
  have hc' : P.length + sumCnt Cnt.cnt P ≤ 1048576 := hc
  have hcl : Cnt.cnt l ≤ 1048576 := by omega
  have hcl' : l.length + sumCnt Cnt.cnt l ≤ 1048576 := hcl
  have hs : sumCnt List.length P ≤ 1048576 := by
    have : sumCnt List.length P = sumCnt Cnt.cnt P := by
      clear hn hr hc hc' hP hn2
      induction P with
      | nil => rfl
      | cons b t ih => simp only [sumCnt, ih, cnt_ints]
    omega
  have hPl : ∀ k ∈ P, k.length ≤ 1048576 := by
    have : ∀ (Q : List (List Int)), ∀ k ∈ Q, k.length ≤ sumCnt List.length Q := by
      intro Q
      induction Q with
      | nil => intro k hk; cases hk
      | cons b t ih =>
        intro k hk
        simp only [sumCnt]
        rcases List.mem_cons.1 hk with rfl | hk
        · omega
        · have := ih k hk; omega
    intro k hk
    have := this P k hk
    omega
  obtain ⟨h, ok, hw, hh, e1, e2⟩ : ∃ (h : List Int) (ok : Bool), WL.wl h ∧ h.length ≤ 1048576 ∧ S_impl_FullPart n P l r = some ((h, ok, ()), ()) ∧ S_spec_FullPart n P l r = some ((h, ok, ()), ()) := by
    rw [impl_FullPart_eq n P l r hP hPl (by omega), spec_FullPart_eq n P l r hP hPl (by omega)]
    have hnil : WL.wl ([] : List Int) := ⟨by simp, by simp⟩
    cases hb : placesOk n P && (entriesOk l && inn r 0 (n - 1)) with
    | false => exact ⟨[], false, hnil, by simp, by simp, by simp⟩
    | true =>
      simp only [Bool.and_eq_true] at hb
      have hr' : 0 ≤ r ∧ r < (P.length : Int) := by
        have := (placesOk_at hb.1).1
        have h2 := hb.2.2
        unfold inn at h2
        simp at h2
        omega
      have hkl := hPl _ (List.mem_of_getElem? (rd_get hr'.1 hr'.2 (d := [])))
      simp only [if_true, fullRes]
      by_cases hd : (partS (rd P r []) (knownAll l P) l [100, 100, 100, 100] 0).2 < (l.length : Int)
      · simp only [hd, if_true]
        exact ⟨[], false, hnil, by simp, rfl, rfl⟩
      · simp only [hd, if_false]
        exact ⟨_, true, ⟨by rw [List.length_map, maxLen_eq]; omega, fun _ _ => trivial⟩, by rw [List.length_map]; omega, rfl, rfl⟩
  obtain ⟨h', m3, m4⟩ := marks_IntS h 1 hw (by omega) (by omega)
  obtain ⟨P', m1, m2⟩ := marks_IntSS P 1 hP (by omega) (by omega)
  have hue := u_EntryS_le l
  have m5 := mark_EntryS (l := l) (k := 1 + (sumCnt List.length P : Int)) hl (by omega) (by omega)
  have p1 : decide ((1 : Int) + (sumCnt List.length P : Int) + (u_EntryS l : Int) < 0) = false := decide_eq_false (by omega)
  have p2 : decide ((1 : Int) + (h.length : Int) < 0) = false := decide_eq_false (by omega)
  simp only [hr2, to_EntryS l hcl, to_IntSS P hc, Option.bind_some, e1, e2, eq_IntS h h hw hw, eq_EntryS l l hl hl, eq_IntSS P P hP hP, same_self, m1, m3, m4, m5, p1, p2, bne_self_eq_false, Bool.not_true, Bool.false_eq_true, if_false]
end Go.AM.P
