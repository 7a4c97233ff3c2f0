/- Places, watches and checkpoints: the program and the reference say the same. No condition. -/
import Derived.Test.YthijgmbdlkeebaaAmQb
set_option linter.unusedVariables false
set_option linter.unusedSimpArgs false
namespace Go.AM.P
open Go.AM

/-! ### places -/
def hostsOf (n : Int) : List (List Int) → Int → List Int
  | [], _ => []
  | l :: t, i => if l.contains n then i :: hostsOf n t (i + 1) else hostsOf n t (i + 1)
theorem hostsOf_len (n : Int) : ∀ (l : List (List Int)) (i : Int), (hostsOf n l i).length ≤ l.length
  | [], _ => Nat.le_refl _
  | l :: t, i => by
    have := hostsOf_len n t (i + 1)
    simp only [hostsOf]
    split <;> simp only [List.length_cons] <;> omega

theorem impl_hosts_eq (l : List (List Int)) (n : Int) (hl : WL.wl l) (h2 : l.length ≤ 1048576) : S_impl_hosts l n = some ((hostsOf n l 0, ()), ()) := by
  unfold S_impl_hosts
  refine lim_eq (l.length + 1) fun N hN => ?_
  unfold p_impl_hosts
  refine loopN_over l hl.1 (fun i (s : List Int) => ((n, l, (l.length : Int), (i : Int), ()), ([], s, ()))) (fun i t s => ((s ++ hostsOf n t (i : Int), ()), ())) (fun i t s => s.length ≤ i)
    [] rfl rfl (by simp) hN (fun rec s h => ?_) (fun rec i b t s hat h hrec => ?_)
  · dsimp only
    simp [hostsOf]
  · have hlt := hat.ltn
    dsimp only
    simp only [hat.lt, hat.nn, hat.wrap, hat.rd, decide_true, if_true, Contains_Lint_eq (wl_mem hl hat.mem).1, Option.bind_some, hostsOf]
    cases hc : b.contains n with
    | false => simp only [Bool.false_eq_true, if_false]; exact hrec s (by omega)
    | true =>
      rw [if_pos rfl, if_pos (by simp; omega)]
      refine (hrec (s ++ [(i : Int)]) (by simp; omega)).trans ?_
      simp

/-- do all keep rising accounts, and is each kept? -/
def keepsOk (l : List Int) : Bool := (l.all fun b => inn b 0 3) && risB none l
def placesOk (n : Int) (l : List (List Int)) : Bool := grp n && ((l.length : Int) == n) && l.all keepsOk && ([0, 1, 2, 3].all fun a => l.any fun x => x.contains (a : Int))

theorem hostsOf_nil (n : Int) : ∀ (l : List (List Int)) (i : Int), ((hostsOf n l i).length == 0) = !l.any fun x => x.contains n
  | [], _ => rfl
  | l :: t, i => by
    have := hostsOf_nil n t (i + 1)
    simp only [hostsOf, List.any_cons]
    cases hc : l.contains n with
    | false => simp only [Bool.false_eq_true, if_false, Bool.false_or]; exact this
    | true => simp

theorem int_nat_beq (n : Nat) : ((n : Int) == 0) = (n == 0) := by
  cases n with
  | zero => rfl
  | succ n =>
    have h1 : (((n + 1 : Nat) : Int) == 0) = false := by simp; omega
    rw [h1]; rfl

theorem impl_GoodPlaces_eq (n : Int) (l : List (List Int)) (hl : WL.wl l) : S_impl_GoodPlaces n l = some ((placesOk n l, ()), ()) := by
  unfold S_impl_GoodPlaces
  refine lim_eq 6 fun N hN => ?_
  unfold p_impl_GoodPlaces placesOk
  rw [impl_IsGroup_eq]
  simp only [Option.bind_some]
  cases hg : grp n with
  | false => simp
  | true =>
    simp only [Bool.not_true, Bool.false_eq_true, if_false, Bool.true_and]
    by_cases hlen : (l.length : Int) = n
    · have h1 : ((l.length : Int) != n) = false := by simp [hlen]
      have h2 : ((l.length : Int) == n) = true := by simp [hlen]
      have hsm : l.length ≤ 5 := by rw [grp_iff] at hg; omega
      simp only [h1, h2, Bool.false_eq_true, if_false, Bool.true_and]
      rw [ContainsFunc_LLint_eq (fun x => !keepsOk x) hl.1 (fun x hx => by
        rw [impl_areMembers_eq 4 x (wl_mem hl hx).1 (by decide)]; rfl)]
      simp only [Option.bind_some]
      have := not_any_not l keepsOk
      cases ha : l.all keepsOk with
      | false =>
        rw [ha] at this
        simp only [Bool.not_eq_false'] at this
        simp [this]
      | true =>
        rw [ha] at this
        simp only [Bool.not_eq_true'] at this
        simp only [this, Bool.false_eq_true, if_false, Bool.true_and]
        refine loopN_upto 4 (fun i (s : Unit) => ((l, (i : Int), ()), ())) (fun i s => ((((List.range' i (4 - i)).map fun (k : Nat) => (k : Int)).all fun a => l.any fun x => x.contains a, ()), ())) (fun i s => True)
          () rfl rfl trivial (by omega) (fun rec i s hi _ hrec => ?_)
        dsimp only
        rcases Nat.lt_or_ge i 4 with h4 | h4
        · rw [decide_eq_true (by omega)]
          obtain ⟨m, hm⟩ : ∃ m, 4 - i = m + 1 := ⟨3 - i, by omega⟩
          have hrec := hrec h4 () trivial
          rw [show 4 - (i + 1) = m by omega] at hrec
          rw [hm, List.range'_succ]
          rw [impl_hosts_eq l _ hl (by omega)]
          simp only [if_true, Option.bind_some, int_nat_beq, hostsOf_nil, List.map_cons, List.all_cons]
          rw [wrap_small (by omega) (by omega)]
          cases l.any fun x => x.contains (i : Int) with
          | false => simp
          | true =>
            simp only [Bool.not_true, Bool.false_eq_true, if_false, Bool.true_and]
            exact hrec
        · obtain rfl : i = 4 := by omega
          simp
    · have h1 : ((l.length : Int) != n) = true := by simp [hlen]
      have h2 : ((l.length : Int) == n) = false := by simp [hlen]
      simp [h1, h2]

theorem spec_l16Keeps_eq (l : List Int) (hl : l.length ≤ maxLen) : S_spec_l16Keeps l = some ((keepsOk l, ()), ()) := by
  unfold S_spec_l16Keeps p_spec_l16Keeps
  rw [spec_l1Rising_eq l 0 3 hl]; rfl

theorem spec_GoodPlaces_eq (n : Int) (l : List (List Int)) (hl : WL.wl l) : S_spec_GoodPlaces n l = some ((placesOk n l, ()), ()) := by
  unfold S_spec_GoodPlaces
  refine lim_eq 6 fun N hN => ?_
  unfold p_spec_GoodPlaces placesOk
  rw [spec_IsGroup_eq]
  simp only [Option.bind_some]
  cases hg : grp n with
  | false => simp
  | true =>
    simp only [Bool.not_true, Bool.false_eq_true, if_false, Bool.true_and]
    by_cases hlen : (l.length : Int) = n
    · have h1 : ((l.length : Int) != n) = false := by simp [hlen]
      have h2 : ((l.length : Int) == n) = true := by simp [hlen]
      have hsm : l.length ≤ 5 := by rw [grp_iff] at hg; omega
      have hpos : 0 < l.length := by rw [grp_iff] at hg; omega
      simp only [h1, h2, Bool.false_eq_true, if_false, Bool.true_and]
      refine loopN_upto 4 (fun i (s : Unit) => ((l, (i : Int), ()), ())) (fun i s => (((decide (i = 4) || l.all keepsOk) && ((List.range' i (4 - i)).map fun (k : Nat) => (k : Int)).all fun a => l.any fun x => x.contains a, ()), ())) (fun i s => 0 < i → l.all keepsOk = true)
        () rfl rfl (by omega) (by omega) (fun rec i s hi hI hrec => ?_)
      dsimp only
      rcases Nat.lt_or_ge i 4 with h4 | h4
      · rw [decide_eq_true (by omega)]
        obtain ⟨m, hm⟩ : ∃ m, 4 - i = m + 1 := ⟨3 - i, by omega⟩
        rw [show 4 - (i + 1) = m by omega] at hrec
        rw [hm, List.range'_succ]
        simp only [if_true, decide_eq_false (show ¬ i = 4 by omega), Bool.false_or, List.map_cons, List.all_cons]
        refine loopN_over l hl.1 (fun j (s : Bool) => ((l, (i : Int), s, l, (l.length : Int), (j : Int), ()), ())) (fun j t s => ((t.all keepsOk && ((s || t.any fun x => x.contains (i : Int)) && ((List.range' (i + 1) m).map fun (k : Nat) => (k : Int)).all fun a => l.any fun x => x.contains a), ()), ())) (fun j t s => (l.all keepsOk = t.all keepsOk))
          false rfl (by simp) rfl (by omega) (fun rec2 s h => ?_) (fun rec2 j b t s hat h hrec2 => ?_)
        · dsimp only
          simp only [lenInt_lt_irrefl, decide_false, Bool.false_eq_true, if_false, List.all_nil, List.any_nil, Bool.or_false, Bool.true_and]
          cases s with
          | false => simp
          | true =>
            simp only [Bool.not_true, Bool.false_eq_true, if_false, Bool.true_and]
            rw [wrap_small (by omega) (by omega)]
            refine (hrec h4 () fun _ => h).trans ?_
            rw [h]; simp
        · dsimp only
          simp only [hat.lt, hat.nn, hat.wrap, hat.rd, decide_true, if_true, spec_l16Keeps_eq b (wl_mem hl hat.mem).1, Option.bind_some, List.all_cons, List.any_cons]
          cases hk : keepsOk b with
          | false => simp
          | true =>
            simp only [Bool.not_true, Bool.false_eq_true, if_false, Bool.true_and]
            have hh : l.all keepsOk = t.all keepsOk := by rw [h, List.all_cons, hk, Bool.true_and]
            cases s with
            | true => simp only [if_true, Bool.true_or]; exact (hrec2 true hh).trans (by simp)
            | false =>
              simp only [Bool.false_eq_true, if_false, spec_l1Has_eq b _ (wl_mem hl hat.mem).1, Option.bind_some, Bool.false_or]
              exact hrec2 _ hh
      · obtain rfl : i = 4 := by omega
        simp
    · have h1 : ((l.length : Int) != n) = true := by simp [hlen]
      have h2 : ((l.length : Int) == n) = false := by simp [hlen]
      simp [h1, h2]
end Go.AM.P
