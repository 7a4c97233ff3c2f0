/- Small functions of the program and of the reference: groups, instances, rising lists, sums. No condition. -/
import Derived.Test.YthijgmbdlkeebaaAmQa
set_option linter.unusedVariables false
set_option linter.unusedSimpArgs false
namespace Go.AM.P
open Go.AM

/-- a number within bounds -/
def inn (n lo hi : Int) : Bool := decide (lo ≤ n) && decide (n ≤ hi)
theorem inn_iff {n lo hi : Int} : inn n lo hi = true ↔ lo ≤ n ∧ n ≤ hi := by simp [inn]
theorem spec_l1In_eq (a b c : Int) : S_spec_l1In a b c = some ((inn a b c, ()), ()) := by
  unfold S_spec_l1In p_spec_l1In inn
  by_cases h : b ≤ a <;> simp [h]
theorem impl_within_eq (a b c : Int) : S_impl_within a b c = some ((inn a b c, ()), ()) := by
  unfold S_impl_within p_impl_within inn
  by_cases h : b ≤ a <;> simp [h]
def grp (n : Int) : Bool := n == 3 || n == 5
theorem grp_iff {n : Int} : grp n = true ↔ n = 3 ∨ n = 5 := by simp [grp]
theorem spec_IsGroup_eq (n : Int) : S_spec_IsGroup n = some ((grp n, ()), ()) := by
  unfold S_spec_IsGroup p_spec_IsGroup grp
  by_cases h : n = 3 <;> simp [h]
theorem impl_IsGroup_eq (n : Int) : S_impl_IsGroup n = some ((grp n, ()), ()) := by
  unfold S_impl_IsGroup p_impl_IsGroup grp
  by_cases h : n = 3 <;> simp [h]
theorem grp_wrap {n : Int} (h : grp n = true) : IntKind.i64.wrap (n - 1) = n - 1 := by
  rw [grp_iff] at h; apply wrap_small <;> omega

/-! ### is one in a list? where? -/
theorem spec_l1Has_eq (l : List Int) (n : Int) (hl : l.length ≤ maxLen) : S_spec_l1Has l n = some ((l.contains n, ()), ()) := by
  unfold S_spec_l1Has
  refine lim_eq (l.length + 1) fun N hN => ?_
  unfold p_spec_l1Has
  refine loopN_over l hl (fun i (s : Unit) => ((n, l, (l.length : Int), (i : Int), ()), ())) (fun i t s => ((t.contains n, ()), ())) (fun i t s => True)
    () rfl rfl trivial hN (fun rec s h => ?_) (fun rec i b t s hat h hrec => ?_)
  · dsimp only
    simp
  · dsimp only
    simp only [hat.lt, hat.nn, hat.wrap, hat.rd, decide_true, if_true, List.contains_cons]
    by_cases hb : b = n
    · simp [hb]
    · have : (b == n) = false := by simpa using hb
      have h2 : (n == b) = false := by simpa using fun h : n = b => hb h.symm
      simp only [this, h2, Bool.false_eq_true, if_false, Bool.false_or]
      exact hrec () trivial

/-- the first place of one that meets a test, -1 where none does -/
def idxI {β : Type} (q : β → Bool) : List β → Int → Int
  | [], _ => -1
  | b :: t, i => if q b then i else idxI q t (i + 1)
theorem idxI_any {β : Type} (q : β → Bool) : ∀ (l : List β) (i : Int), 0 ≤ i → decide (idxI q l i ≥ 0) = l.any q
  | [], i, h => by simp [idxI]
  | b :: t, i, h => by
    cases hb : q b with
    | true => simp [idxI, hb, h]
    | false => simp only [idxI, hb, Bool.false_eq_true, if_false, List.any_cons, Bool.false_or]; exact idxI_any q t (i + 1) (by omega)

theorem index_gen {β : Type} (z : β) (l : List β) (hl : l.length ≤ maxLen) (p : (β × Unit) → Option Bool) (q : β → Bool) (hp : ∀ x ∈ l, p (x, ()) = some (q x)) {N : Nat} (hN : l.length < N) :
    (loopN N (fun rec1 (d2 : (List β × ((β × Unit) → Option Bool) × Int × Int × Unit) × (Unit)) => (if (decide (d2.1.2.2.2.1 < d2.1.2.2.1)) then (if (decide (0 ≤ d2.1.2.2.2.1)) then (if (decide (d2.1.2.2.2.1 < d2.1.1.length)) then ((d2.1.2.1 ((rd d2.1.1 d2.1.2.2.2.1 z), ())).bind fun y3 => (if y3 then (some ((d2.1.2.2.2.1, ()), ())) else (rec1 ((d2.1.1, d2.1.2.1, d2.1.2.2.1, (IntKind.i64.wrap (d2.1.2.2.2.1 + (1 : Int))), ()), (()))))) else none) else none) else (some (((-1 : Int), ()), ())))) ((l, p, (l.length : Int), (0 : Int), ()), (())))
      = some ((idxI q l 0, ()), ()) := by
  refine loopN_over l hl (fun i (s : Unit) => ((l, p, (l.length : Int), (i : Int), ()), ())) (fun i t s => ((idxI q t (i : Int), ()), ())) (fun i t s => True)
    () rfl rfl trivial hN (fun rec s h => ?_) (fun rec i b t s hat h hrec => ?_)
  · dsimp only
    simp [idxI]
  · dsimp only
    simp only [hat.lt, hat.nn, hat.wrap, hat.rd, decide_true, if_true, hp b hat.mem, Option.bind_some, idxI]
    cases q b with
    | true => simp
    | false => simp only [Bool.false_eq_true, if_false]; exact hrec () trivial

theorem IndexFunc_LLint_eq {l : List (List Int)} {p : (List Int × Unit) → Option Bool} (q : List Int → Bool) (hl : l.length ≤ maxLen) (hp : ∀ x ∈ l, p (x, ()) = some (q x)) : S_IndexFunc_LLint_Lint l p = some ((idxI q l 0, ()), ()) :=
  lim_eq (l.length + 1) fun N hN => index_gen [] l hl p q hp hN
theorem IndexFunc_Lint_eq {l : List Int} {p : (Int × Unit) → Option Bool} (q : Int → Bool) (hl : l.length ≤ maxLen) (hp : ∀ x ∈ l, p (x, ()) = some (q x)) : S_IndexFunc_Lint_int l p = some ((idxI q l 0, ()), ()) :=
  lim_eq (l.length + 1) fun N hN => index_gen 0 l hl p q hp hN
theorem ContainsFunc_LLint_eq {l : List (List Int)} {p : (List Int × Unit) → Option Bool} (q : List Int → Bool) (hl : l.length ≤ maxLen) (hp : ∀ x ∈ l, p (x, ()) = some (q x)) : S_ContainsFunc_LLint_Lint l p = some ((l.any q, ()), ()) := by
  unfold S_ContainsFunc_LLint_Lint p_ContainsFunc_LLint_Lint
  rw [IndexFunc_LLint_eq q hl hp]
  simp only [Option.bind_some, idxI_any q l 0 (Int.le_refl 0)]
theorem ContainsFunc_Lint_eq {l : List Int} {p : (Int × Unit) → Option Bool} (q : Int → Bool) (hl : l.length ≤ maxLen) (hp : ∀ x ∈ l, p (x, ()) = some (q x)) : S_ContainsFunc_Lint_int l p = some ((l.any q, ()), ()) := by
  unfold S_ContainsFunc_Lint_int p_ContainsFunc_Lint_int
  rw [IndexFunc_Lint_eq q hl hp]
  simp only [Option.bind_some, idxI_any q l 0 (Int.le_refl 0)]

theorem Index_Lint_eq {l : List Int} {n : Int} (hl : l.length ≤ maxLen) : S_Index_Lint_int l n = some ((idxI (fun b => n == b) l 0, ()), ()) := by
  unfold S_Index_Lint_int
  refine lim_eq (l.length + 1) fun N hN => ?_
  unfold p_Index_Lint_int
  refine loopN_over l hl (fun i (s : Unit) => ((l, n, (l.length : Int), (i : Int), ()), ())) (fun i t s => ((idxI (fun b => n == b) t (i : Int), ()), ())) (fun i t s => True)
    () rfl rfl trivial hN (fun rec s h => ?_) (fun rec i b t s hat h hrec => ?_)
  · dsimp only
    simp [idxI]
  · dsimp only
    simp only [hat.lt, hat.nn, hat.wrap, hat.rd, decide_true, if_true, idxI]
    rcases Bool.eq_false_or_eq_true (n == b) with hb | hb
    · simp only [hb, if_true]
    · simp only [hb, Bool.false_eq_true, if_false]; exact hrec () trivial
theorem Contains_Lint_eq {l : List Int} {n : Int} (hl : l.length ≤ maxLen) : S_Contains_Lint_int l n = some ((l.contains n, ()), ()) := by
  unfold S_Contains_Lint_int p_Contains_Lint_int
  rw [Index_Lint_eq hl]
  simp only [Option.bind_some, idxI_any _ l 0 (Int.le_refl 0), List.any_beq]

/-! ### rising lists -/
/-- the one ahead of place i -/
def prv {β : Type} (l : List β) (i : Nat) : Option β := if i = 0 then none else l[i - 1]?
theorem prv_zero {β : Type} (l : List β) : prv l 0 = none := rfl
theorem prv_succ {β : Type} {l : List β} {i : Nat} {b : β} (h : l[i]? = some b) : prv l (i + 1) = some b := by simp [prv, h]
theorem prv_pos {β : Type} {l : List β} (hl : l.length ≤ maxLen) {i : Nat} (h : 0 < i) (hi : i < l.length) :
    ∃ c, prv l i = some c ∧ (∀ d, rd l (IntKind.i64.wrap ((i : Int) - 1)) d = c) ∧ (0 : Int) ≤ IntKind.i64.wrap ((i : Int) - 1) ∧ IntKind.i64.wrap ((i : Int) - 1) < (l.length : Int) ∧ c ∈ l := by
  rw [maxLen_eq] at hl
  have hw : IntKind.i64.wrap ((i : Int) - 1) = ((i - 1 : Nat) : Int) := by rw [wrap_small (by omega) (by omega)]; omega
  have hg : l[i - 1]? = some (l[i - 1]'(by omega)) := List.getElem?_eq_getElem (by omega)
  refine ⟨l[i - 1]'(by omega), by rw [prv, if_neg (by omega), hg], fun d => ?_, by rw [hw]; omega, by rw [hw]; omega, List.getElem_mem _⟩
  rw [hw, rd_nat, List.getD_eq_getElem?_getD, hg]; rfl

def risB : Option Int → List Int → Bool
  | _, [] => true
  | none, b :: t => risB (some b) t
  | some a, b :: t => decide (a < b) && risB (some b) t

theorem spec_l1Rising_eq (l : List Int) (lo hi : Int) (hl : l.length ≤ maxLen) : S_spec_l1Rising l lo hi = some ((l.all (fun b => inn b lo hi) && risB none l, ()), ()) := by
  unfold S_spec_l1Rising
  refine lim_eq (l.length + 1) fun N hN => ?_
  unfold p_spec_l1Rising
  refine loopN_over l hl (fun i (s : Unit) => ((l, lo, hi, l, (l.length : Int), (i : Int), ()), ())) (fun i t s => ((t.all (fun b => inn b lo hi) && risB (prv l i) t, ()), ())) (fun i t s => True)
    () rfl rfl trivial hN (fun rec s h => ?_) (fun rec i b t s hat h hrec => ?_)
  · dsimp only
    simp [risB]
  · have hlt := hat.ltn
    have hrec := hrec () trivial
    rw [prv_succ hat.get] at hrec
    dsimp only
    simp only [hat.lt, hat.nn, hat.wrap, hat.rd, decide_true, if_true, spec_l1In_eq, Option.bind_some, List.all_cons]
    cases hb : inn b lo hi with
    | false => simp
    | true =>
      simp only [Bool.not_true, Bool.false_eq_true, if_false, Bool.true_and]
      rcases Nat.eq_zero_or_pos i with rfl | hi0
      · rw [decide_eq_false (by omega)]
        simp only [Bool.false_eq_true, if_false, prv_zero, risB]
        exact hrec
      · obtain ⟨c, h1, h2, h3, h4, _⟩ := prv_pos hl hi0 hlt
        rw [decide_eq_true (by omega)]
        simp only [if_true, h2, h3, h4, decide_true, h1, risB]
        by_cases hc : c < b
        · rw [decide_eq_false (by omega)]
          simp only [Bool.false_eq_true, if_false, hc, decide_true, Bool.true_and]
          exact hrec
        · rw [decide_eq_true (by omega)]
          simp [hc]

theorem impl_rise_eq (l : List Int) (hl : l.length ≤ maxLen) : S_impl_rise l = some ((risB none l, ()), ()) := by
  unfold S_impl_rise
  refine lim_eq (l.length + 1) fun N hN => ?_
  unfold p_impl_rise
  cases l with
  | nil =>
    obtain ⟨n, rfl⟩ : ∃ n, N = n + 1 := ⟨N - 1, by simp at hN; omega⟩
    simp [loopN, risB]
  | cons b0 t0 =>
    refine loopN_from (b0 :: t0).length 1 (fun i (s : Unit) => (((b0 :: t0, (i : Int), ()), ()) : (List Int × Int × Unit) × Unit)) (fun i s => (((risB (prv (b0 :: t0) i) ((b0 :: t0).drop i), ()), ()) : (Bool × Unit) × Unit)) (fun i s => 0 < i)
      () rfl (by simp [prv, risB]) (by simp) (by omega) hN (fun rec i s hi h0 hrec => ?_)
    · dsimp only
      rcases Nat.lt_or_ge i (b0 :: t0).length with h1 | h1
      · have hat := At.of hl (List.drop_eq_getElem_cons h1)
        have hrec := hrec h1 () (by omega)
        rw [prv_succ hat.get] at hrec
        obtain ⟨c, h5, h2, h3, h4, _⟩ := prv_pos hl h0 h1
        simp only [hat.lt, hat.nn, hat.wrap, hat.rd, hat.drop, decide_true, if_true, h2, h3, h4, h5, risB]
        by_cases hc : c < (b0 :: t0)[i]'h1
        · rw [decide_eq_false (by omega)]
          simp only [Bool.false_eq_true, if_false, hc, decide_true, Bool.true_and]
          exact hrec
        · rw [decide_eq_true (by omega)]
          simp [hc]
      · obtain rfl : i = (b0 :: t0).length := by omega
        rw [List.drop_length]
        simp [risB]

theorem not_any_not {β : Type} (l : List β) (q : β → Bool) : (!l.any fun x => !q x) = l.all q := by
  induction l with
  | nil => rfl
  | cons b t ih => rw [List.any_cons, List.all_cons, Bool.not_or, Bool.not_not, ih]

theorem impl_areMembers_eq (n : Int) (l : List Int) (hl : l.length ≤ maxLen) (hn : IntKind.i64.wrap (n - 1) = n - 1) : S_impl_areMembers n l = some ((l.all (fun b => inn b 0 (n - 1)) && risB none l, ()), ()) := by
  unfold S_impl_areMembers p_impl_areMembers
  rw [impl_rise_eq l hl, hn]
  simp only [Option.bind_some, impl_within_eq]
  cases risB none l with
  | false => simp
  | true =>
    simp only [if_true]
    rw [ContainsFunc_Lint_eq (fun b => !inn b 0 (n - 1)) hl (fun x _ => rfl)]
    simp only [Option.bind_some, not_any_not, Bool.and_true]

/-! ### instances -/
def inst (n r k : Int) : Bool := inn r 0 (n - 1) && inn k 1 6
theorem spec_l3Inst_eq {n : Int} (hn : grp n = true) (r k : Int) : S_spec_l3Inst n r k = some ((inst n r k, ()), ()) := by
  unfold S_spec_l3Inst p_spec_l3Inst inst
  rw [grp_wrap hn, spec_l1In_eq]
  simp only [Option.bind_some, spec_l1In_eq]
  cases inn r 0 (n - 1) <;> simp
theorem impl_isInstance_eq {n : Int} (hn : grp n = true) (r k : Int) : S_impl_isInstance n r k = some ((inst n r k, ()), ()) := by
  unfold S_impl_isInstance p_impl_isInstance inst
  rw [grp_wrap hn, impl_IsGroup_eq, hn, impl_within_eq]
  simp only [Option.bind_some, if_true, impl_within_eq]
  cases inn r 0 (n - 1) <;> simp

/-! ### lists compared -/
def cmpI (a b : Int) : Int := if a < b then -1 else if a > b then 1 else 0
theorem cmp_Compare_eq (a b : Int) : S_cmp_Compare_int a b = some ((cmpI a b, ()), ()) := by
  unfold S_cmp_Compare_int p_cmp_Compare_int S_cmp_isNaN_int p_cmp_isNaN_int cmpI
  by_cases h : a < b
  · simp [h]
  · by_cases h2 : b < a <;> simp [h, h2]
def cmpL : List Int → List Int → Int
  | [], [] => 0
  | [], _ :: _ => -1
  | _ :: _, [] => 1
  | a :: s, b :: t => if cmpI a b != 0 then cmpI a b else cmpL s t
theorem Compare_Lint_eq (l m : List Int) (hl : l.length ≤ maxLen) (hm : m.length ≤ maxLen) : S_Compare_Lint_int l m = some ((cmpL l m, ()), ()) := by
  unfold S_Compare_Lint_int
  refine lim_eq (l.length + 1) fun N hN => ?_
  unfold p_Compare_Lint_int
  refine loopN_over l hl (fun i (s : Unit) => ((l, m, l, (l.length : Int), (i : Int), ()), ())) (fun i t s => ((cmpL t (m.drop i), ()), ())) (fun i t s => i ≤ m.length)
    () rfl rfl (by omega) hN (fun rec s h => ?_) (fun rec i b t s hat h hrec => ?_)
  · dsimp only
    simp only [lenInt_lt_irrefl, decide_false, Bool.false_eq_true, if_false]
    rcases Nat.lt_or_ge l.length m.length with h1 | h1
    · rw [List.drop_eq_getElem_cons h1, decide_eq_true (by omega)]; rfl
    · rw [List.drop_eq_nil_of_le h1, decide_eq_false (by omega)]; rfl
  · dsimp only
    simp only [hat.lt, hat.nn, hat.wrap, hat.rd, decide_true, if_true]
    rcases Nat.lt_or_ge i m.length with h1 | h1
    · have hb := At.of hm (List.drop_eq_getElem_cons h1)
      rw [decide_eq_false (by omega)]
      simp only [hb.lt, hb.rd, hb.drop, Bool.false_eq_true, if_false, decide_true, if_true, cmp_Compare_eq, Option.bind_some, cmpL]
      by_cases hc : (cmpI b (m[i]'h1) != 0) = true
      · simp [hc]
      · simp only [hc]; exact hrec () (by omega)
    · rw [List.drop_eq_nil_of_le h1, decide_eq_true (by omega)]; rfl

/-! ### rising instances -/
def pairLt : List Int → List Int → Bool
  | [c, d], [a, b] => decide (c < a) || (decide (c = a) && decide (d < b))
  | _, _ => true
def instOf (n : Int) : List Int → Bool
  | [a, b] => inst n a b
  | _ => false
def ltO : Option (List Int) → List Int → Bool
  | some y, x => pairLt y x
  | none, _ => true
def doneB (n : Int) : Option (List Int) → List (List Int) → Bool
  | _, [] => true
  | p, x :: t => instOf n x && ltO p x && doneB n (some x) t

theorem two_of {x : List Int} : ((x.length : Int) != 2) = false → ∃ a b, x = [a, b] := by
  intro h
  simp only [bne_eq_false_iff_eq] at h
  match x, h with
  | [a, b], _ => exact ⟨a, b, rfl⟩
  | [], h => simp at h
  | [_], h => simp at h
  | _ :: _ :: _ :: _, h => simp at h; omega
theorem not_two {n : Int} {x : List Int} (h : ((x.length : Int) != 2) = true) : instOf n x = false := by
  match x, h with
  | [a, b], h => simp at h
  | [], h => rfl
  | [_], h => rfl
  | _ :: _ :: _ :: _, h => rfl

theorem spec_l18Done_eq {n : Int} (hn : grp n = true) (l : List (List Int)) (hl : l.length ≤ maxLen) : S_spec_l18Done n l = some ((doneB n none l, ()), ()) := by
  unfold S_spec_l18Done
  refine lim_eq (l.length + 1) fun N hN => ?_
  unfold p_spec_l18Done
  refine loopN_over l hl (fun i (s : Unit) => ((n, l, l, (l.length : Int), (i : Int), ()), ())) (fun i t s => ((doneB n (prv l i) t, ()), ())) (fun i t s => ∀ y, prv l i = some y → ∃ c d, y = [c, d])
    () rfl rfl (fun y h => by cases h) hN (fun rec s h => ?_) (fun rec i b t s hat h hrec => ?_)
  · dsimp only
    simp [doneB]
  · have hlt := hat.ltn
    have hrec := hrec ()
    rw [prv_succ hat.get] at hrec
    dsimp only
    simp only [hat.lt, hat.nn, hat.wrap, hat.rd, decide_true, if_true]
    cases h2 : ((b.length : Int) != 2) with
    | true =>
      simp only [if_true, doneB, not_two h2, Bool.false_and]
    | false =>
      obtain ⟨x, y, rfl⟩ := two_of h2
      have hrec := hrec fun z hz => ⟨x, y, by simpa using hz.symm⟩
      have h3 : (0 : Int) < (([x, y] : List Int).length : Int) := by simp
      have h4 : (1 : Int) < (([x, y] : List Int).length : Int) := by simp
      have r0 : ∀ d, rd [x, y] (0 : Int) d = x := fun d => rfl
      have r1 : ∀ d, rd [x, y] (1 : Int) d = y := fun d => rfl
      simp only [Bool.false_eq_true, if_false, Int.le_refl, decide_true, if_true, h3, h4, r0, r1, spec_l3Inst_eq hn, Option.bind_some, doneB, instOf, show (0 : Int) ≤ 1 by omega]
      cases hi : inst n x y with
      | false => simp
      | true =>
        simp only [Bool.not_true, Bool.false_eq_true, if_false, Bool.true_and]
        rcases Nat.eq_zero_or_pos i with rfl | hi0
        · rw [decide_eq_false (by omega)]
          simp only [Bool.false_eq_true, if_false, prv_zero, ltO, Bool.true_and]
          exact hrec
        · obtain ⟨c, q1, q2, q3, q4, _⟩ := prv_pos hl hi0 hlt
          obtain ⟨u, v, rfl⟩ := h c q1
          have h5 : (0 : Int) < (([u, v] : List Int).length : Int) := by simp
          have h6 : (1 : Int) < (([u, v] : List Int).length : Int) := by simp
          have r2 : ∀ d, rd [u, v] (0 : Int) d = u := fun d => rfl
          have r3 : ∀ d, rd [u, v] (1 : Int) d = v := fun d => rfl
          rw [decide_eq_true (by omega)]
          simp only [if_true, q1, q2, q3, q4, decide_true, Int.le_refl, h5, h6, r2, r3, show (0 : Int) ≤ 1 by omega, ltO, pairLt]
          rcases Int.lt_trichotomy u x with hux | hux | hux
          · rw [decide_eq_false (by omega), decide_eq_true hux]
            have : (u == x) = false := by simp; omega
            simp only [this, Bool.false_eq_true, if_false, Bool.true_or, Bool.true_and]
            exact hrec
          · subst hux
            simp only [Int.lt_irrefl, gt_iff_lt, decide_false, Bool.false_eq_true, if_false, beq_self_eq_true, if_true, decide_true, Bool.false_or, Bool.true_and]
            by_cases hv : v < y
            · rw [decide_eq_false (by omega), decide_eq_true hv]
              simp only [Bool.false_eq_true, if_false, Bool.true_and]
              exact hrec
            · rw [decide_eq_true (by omega), decide_eq_false hv]
              simp
          · have n1 : ¬ u < x := by omega
            have n2 : ¬ u = x := by omega
            simp [n1, n2, hux]

theorem cmpL_two (a b c d : Int) : decide (cmpL [c, d] [a, b] ≥ 0) = !pairLt [c, d] [a, b] := by
  simp only [cmpL, cmpI, pairLt]
  rcases Int.lt_trichotomy c a with h | h | h
  · simp [h]
  · subst h
    rcases Int.lt_trichotomy d b with h | h | h
    · simp [h]
    · subst h; simp
    · have h1 : ¬ d < b := by omega
      simp [h, h1]
  · have h1 : ¬ c < a := by omega
    have h2 : ¬ c = a := by omega
    simp [h, h1, h2]

theorem impl_riseInstances_eq {n : Int} (hn : grp n = true) (l : List (List Int)) (hl : l.length ≤ maxLen) : S_impl_riseInstances n l = some ((doneB n none l, ()), ()) := by
  unfold S_impl_riseInstances
  refine lim_eq (l.length + 1) fun N hN => ?_
  unfold p_impl_riseInstances
  refine loopN_over l hl (fun i (s : Unit) => ((n, l, l, (l.length : Int), (i : Int), ()), ())) (fun i t s => ((doneB n (prv l i) t, ()), ())) (fun i t s => ∀ y, prv l i = some y → ∃ c d, y = [c, d])
    () rfl rfl (fun y h => by cases h) hN (fun rec s h => ?_) (fun rec i b t s hat h hrec => ?_)
  · dsimp only
    simp [doneB]
  · have hlt := hat.ltn
    have hrec := hrec ()
    rw [prv_succ hat.get] at hrec
    dsimp only
    simp only [hat.lt, hat.nn, hat.wrap, hat.rd, decide_true, if_true]
    cases h2 : ((b.length : Int) != 2) with
    | true =>
      simp only [if_true, doneB, not_two h2, Bool.false_and]
    | false =>
      obtain ⟨x, y, rfl⟩ := two_of h2
      have hrec := hrec fun z hz => ⟨x, y, by simpa using hz.symm⟩
      have h3 : (0 : Int) < (([x, y] : List Int).length : Int) := by simp
      have h4 : (1 : Int) < (([x, y] : List Int).length : Int) := by simp
      have r0 : ∀ d, rd [x, y] (0 : Int) d = x := fun d => rfl
      have r1 : ∀ d, rd [x, y] (1 : Int) d = y := fun d => rfl
      simp only [Bool.false_eq_true, if_false, Int.le_refl, decide_true, if_true, h3, h4, r0, r1, impl_isInstance_eq hn, Option.bind_some, doneB, instOf, show (0 : Int) ≤ 1 by omega]
      cases hi : inst n x y with
      | false => simp
      | true =>
        simp only [Bool.not_true, Bool.false_eq_true, if_false, Bool.true_and]
        rcases Nat.eq_zero_or_pos i with rfl | hi0
        · rw [decide_eq_false (by omega)]
          simp only [Bool.false_eq_true, if_false, prv_zero, ltO, Bool.true_and]
          exact hrec
        · obtain ⟨c, q1, q2, q3, q4, _⟩ := prv_pos hl hi0 hlt
          obtain ⟨u, v, rfl⟩ := h c q1
          rw [decide_eq_true (by omega)]
          simp only [if_true, q1, q2, q3, q4, decide_true, ltO, Compare_Lint_eq [u, v] [x, y] (by simp [maxLen_eq]) (by simp [maxLen_eq]), Option.bind_some, cmpL_two]
          cases pairLt [u, v] [x, y] with
          | false => simp
          | true => simp only [Bool.not_true, Bool.false_eq_true, if_false, Bool.true_and]; exact hrec

/-! ### sums -/
def addAll : List Int → Int
  | [] => 0
  | b :: t => b + addAll t
def goodSums (l : List Int) : Bool := (l.length == 4) && (l.all fun b => inn b 0 400) && (addAll l == 400)

theorem impl_total_eq (l : List Int) (hl : l.length ≤ 1048576) (h : ∀ b ∈ l, 0 ≤ b ∧ b ≤ 400) : S_impl_total l = some ((addAll l, ()), ()) := by
  unfold S_impl_total
  refine lim_eq (l.length + 1) fun N hN => ?_
  unfold p_impl_total
  refine loopN_over l (by rw [maxLen_eq]; omega) (fun i (s : Int) => ((s, l, (l.length : Int), (i : Int), ()), ())) (fun i t s => ((s + addAll t, ()), ())) (fun i t s => 0 ≤ s ∧ s ≤ 400 * i)
    0 rfl (by simp) ⟨by omega, by omega⟩ hN (fun rec s h => ?_) (fun rec i b t s hat hI hrec => ?_)
  · dsimp only
    simp [addAll]
  · obtain ⟨h1, h2⟩ := h b hat.mem
    have := hat.ltn
    dsimp only
    simp only [hat.lt, hat.nn, hat.wrap, hat.rd, decide_true, if_true]
    rw [wrap_small (n := s + b) (by omega) (by omega)]
    refine (hrec (s + b) ⟨by omega, by omega⟩).trans ?_
    simp only [addAll, Option.some.injEq, Prod.mk.injEq, and_true]
    omega

theorem impl_GoodSums_eq (l : List Int) (hl : l.length ≤ maxLen) : S_impl_GoodSums l = some ((goodSums l, ()), ()) := by
  unfold S_impl_GoodSums p_impl_GoodSums goodSums
  by_cases h4 : l.length = 4
  · simp only [h4, show (((4 : Nat) : Int) == 4) = true from rfl, if_true, impl_within_eq, Option.bind_some]
    rw [ContainsFunc_Lint_eq (fun b => !inn b 0 400) hl (fun x _ => rfl)]
    simp only [Option.bind_some, not_any_not]
    cases ha : l.all (fun b => inn b 0 400) with
    | false => simp
    | true =>
      rw [List.all_eq_true] at ha
      rw [if_pos rfl, impl_total_eq l (by omega) fun b hb => by have := ha b hb; simpa [inn] using this]
      simp
  · have h5 : ((l.length : Int) == 4) = false := by simp; omega
    have h6 : (l.length == 4) = false := by simpa using h4
    simp [h5, h6]

theorem spec_GoodSums_eq (l : List Int) (hl : l.length ≤ maxLen) : S_spec_GoodSums l = some ((goodSums l, ()), ()) := by
  unfold S_spec_GoodSums
  refine lim_eq (l.length + 1) fun N hN => ?_
  unfold p_spec_GoodSums
  refine loopN_over l hl (fun i (s : Int) => ((l, s, l, (l.length : Int), (i : Int), ()), ())) (fun i t s => (((l.length == 4) && (t.all fun b => inn b 0 400) && (s + addAll t == 400), ()), ())) (fun i t s => l.length = 4 → 0 ≤ s ∧ s ≤ 400 * i)
    0 rfl (by simp [goodSums]) (fun _ => ⟨by omega, by omega⟩) hN (fun rec s h => ?_) (fun rec i b t s hat hI hrec => ?_)
  · dsimp only
    simp only [lenInt_lt_irrefl, decide_false, Bool.false_eq_true, if_false, addAll, List.all_nil, Bool.and_true, Int.add_zero]
    by_cases h4 : l.length = 4
    · simp [h4]
    · have h5 : ((l.length : Int) == 4) = false := by simp; omega
      have h6 : (l.length == 4) = false := by simpa using h4
      simp [h5, h6]
  · have hlt := hat.ltn
    dsimp only
    simp only [hat.lt, hat.nn, hat.wrap, hat.rd, decide_true, if_true, spec_l1In_eq, Option.bind_some, List.all_cons]
    cases hb : inn b 0 400 with
    | false => simp
    | true =>
      have hb' := inn_iff.1 hb
      simp only [Bool.not_true, Bool.false_eq_true, if_false, Bool.true_and]
      by_cases h4 : l.length = 4
      · obtain ⟨h1, h2⟩ := hI h4
        rw [wrap_small (n := s + b) (by omega) (by omega)]
        refine (hrec (s + b) fun _ => ⟨by omega, by omega⟩).trans ?_
        simp only [addAll, Int.add_assoc]
      · refine (hrec _ fun h => absurd h h4).trans ?_
        have h6 : (l.length == 4) = false := by simpa using h4
        simp [h6]

theorem spec_l1All_eq (l : List Int) (lo hi : Int) (hl : l.length ≤ maxLen) : S_spec_l1All l lo hi = some ((l.all (fun b => inn b lo hi), ()), ()) := by
  unfold S_spec_l1All
  refine lim_eq (l.length + 1) fun N hN => ?_
  unfold p_spec_l1All
  refine loopN_over l hl (fun i (s : Unit) => ((lo, hi, l, (l.length : Int), (i : Int), ()), ())) (fun i t s => ((t.all (fun b => inn b lo hi), ()), ())) (fun i t s => True)
    () rfl rfl trivial hN (fun rec s h => ?_) (fun rec i b t s hat h hrec => ?_)
  · dsimp only
    simp
  · dsimp only
    simp only [hat.lt, hat.nn, hat.wrap, hat.rd, decide_true, if_true, spec_l1In_eq, Option.bind_some, List.all_cons]
    cases hb : inn b lo hi with
    | false => simp
    | true => simp only [Bool.not_true, Bool.false_eq_true, if_false, Bool.true_and]; exact hrec () trivial
end Go.AM.P
