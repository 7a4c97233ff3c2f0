/- Lemmas on what functions do to data. No condition. -/
import Derived.Test.YthijgmbdlkeebaaAmP
set_option linter.unusedVariables false
set_option linter.unusedSimpArgs false
namespace Go.AM.P
open Go.AM

/-- lists no longer than lists are -/
class WL (α : Type) where
  wl : α → Prop
instance : WL Int := ⟨fun _ => True⟩
instance : WL Bool := ⟨fun _ => True⟩
instance : WL Unit := ⟨fun _ => True⟩
instance : WL ByteArray := ⟨fun s => s.size ≤ maxLen⟩
instance {α β : Type} [WL α] [WL β] : WL (α × β) := ⟨fun x => WL.wl x.1 ∧ WL.wl x.2⟩
instance {α : Type} [WL α] : WL (List α) := ⟨fun l => l.length ≤ maxLen ∧ ∀ x ∈ l, WL.wl x⟩
theorem wl_mem {α : Type} [WL α] {l : List α} (h : WL.wl l) {x : α} (hx : x ∈ l) : WL.wl x := h.2 x hx
/-- marking: what it writes is what is found -/
def Marks {α : Type} [WL α] (f : α → Int → Option ((Int × Unit) × (α × Unit))) (g : α → Int → Option ((Int × Unit) × Unit)) (u : α → Nat) : Prop :=
  ∀ (x : α) (k : Int), WL.wl x → 0 < k → k + (u x : Int) ≤ 4611686018427387904 → ∃ x' : α, f x k = some ((k + (u x : Int), ()), (x', ())) ∧ g x' k = some ((k + (u x : Int), ()), ())
class Cnt (α : Type) where
  cnt : α → Nat
instance : Cnt Int := ⟨fun _ => 0⟩
instance : Cnt Bool := ⟨fun _ => 0⟩
instance : Cnt Unit := ⟨fun _ => 0⟩
instance : Cnt ByteArray := ⟨fun s => s.size⟩
instance {α β : Type} [Cnt α] [Cnt β] : Cnt (α × β) := ⟨fun x => Cnt.cnt x.1 + Cnt.cnt x.2⟩
def sumCnt {α : Type} (f : α → Nat) : List α → Nat
  | [] => 0
  | x :: r => f x + sumCnt f r
instance {α : Type} [Cnt α] : Cnt (List α) := ⟨fun l => l.length + sumCnt Cnt.cnt l⟩
def MarkOk {α : Type} [WL α] (f : α → Int → Option ((Int × Unit) × (α × Unit))) (u : α → Nat) : Prop :=
  ∀ (x : α) (k : Int), WL.wl x → 0 < k → k + (u x : Int) ≤ 4611686018427387904 → ∃ x' : α, f x k = some ((k + (u x : Int), ()), (x', ()))
theorem Marks.ok {α : Type} [WL α] {f : α → Int → Option ((Int × Unit) × (α × Unit))} {g : α → Int → Option ((Int × Unit) × Unit)} {u : α → Nat} (h : Marks f g u) : MarkOk f u := fun x k a b c => (h x k a b c).imp fun _ h => h.1
/-- a number within bounds -/
def inn (n lo hi : Int) : Bool := decide (lo ≤ n) && decide (n ≤ hi)
theorem inn_iff {n lo hi : Int} : inn n lo hi = true ↔ lo ≤ n ∧ n ≤ hi := by simp [inn]
theorem spec_l1In_eq (a b c : Int) : S_spec_l1In a b c = some ((inn a b c, ()), ()) := by
  unfold S_spec_l1In p_spec_l1In inn
  by_cases h : b ≤ a <;> simp [h]
theorem impl_within_eq (a b c : Int) : S_impl_within a b c = some ((inn a b c, ()), ()) := by
  unfold S_impl_within p_impl_within inn
  by_cases h : b ≤ a <;> simp [h]
def grp (n : Int) : Bool := n == 3 || n == 5
theorem grp_iff {n : Int} : grp n = true ↔ n = 3 ∨ n = 5 := by simp [grp]
theorem spec_IsGroup_eq (n : Int) : S_spec_IsGroup n = some ((grp n, ()), ()) := by
  unfold S_spec_IsGroup p_spec_IsGroup grp
  by_cases h : n = 3 <;> simp [h]
theorem impl_IsGroup_eq (n : Int) : S_impl_IsGroup n = some ((grp n, ()), ()) := by
  unfold S_impl_IsGroup p_impl_IsGroup grp
  by_cases h : n = 3 <;> simp [h]
theorem spec_l1Has_eq (l : List Int) (n : Int) (hl : l.length ≤ maxLen) : S_spec_l1Has l n = some ((l.contains n, ()), ()) := by
  unfold S_spec_l1Has
  refine lim_eq (l.length + 1) fun N hN => ?_
  unfold p_spec_l1Has
  refine loopN_over l hl (fun i (s : Unit) => ((n, l, (l.length : Int), (i : Int), ()), ())) (fun i t s => ((t.contains n, ()), ())) (fun i t s => True)
    () rfl rfl trivial hN (fun rec s h => ?_) (fun rec i b t s hat h hrec => ?_)
  · dsimp only
    simp
  · dsimp only
    simp only [hat.lt, hat.nn, hat.wrap, hat.rd, decide_true, if_true, List.contains_cons]
    by_cases hb : b = n
    · simp [hb]
    · have : (b == n) = false := by simpa using hb
      have h2 : (n == b) = false := by simpa using fun h : n = b => hb h.symm
      simp only [this, h2, Bool.false_eq_true, if_false, Bool.false_or]
      exact hrec () trivial
/-- the first place of one that meets a test, -1 where none does -/
def idxI {β : Type} (q : β → Bool) : List β → Int → Int
  | [], _ => -1
  | b :: t, i => if q b then i else idxI q t (i + 1)
theorem idxI_any {β : Type} (q : β → Bool) : ∀ (l : List β) (i : Int), 0 ≤ i → decide (idxI q l i ≥ 0) = l.any q
  | [], i, h => by simp [idxI]
  | b :: t, i, h => by
    cases hb : q b with
    | true => simp [idxI, hb, h]
    | false => simp only [idxI, hb, Bool.false_eq_true, if_false, List.any_cons, Bool.false_or]; exact idxI_any q t (i + 1) (by omega)
theorem index_gen {β : Type} (z : β) (l : List β) (hl : l.length ≤ maxLen) (p : (β × Unit) → Option Bool) (q : β → Bool) (hp : ∀ x ∈ l, p (x, ()) = some (q x)) {N : Nat} (hN : l.length < N) :
    (loopN N (fun rec1 (d2 : (List β × ((β × Unit) → Option Bool) × Int × Int × Unit) × (Unit)) => (if (decide (d2.1.2.2.2.1 < d2.1.2.2.1)) then (if (decide (0 ≤ d2.1.2.2.2.1)) then (if (decide (d2.1.2.2.2.1 < d2.1.1.length)) then ((d2.1.2.1 ((rd d2.1.1 d2.1.2.2.2.1 z), ())).bind fun y3 => (if y3 then (some ((d2.1.2.2.2.1, ()), ())) else (rec1 ((d2.1.1, d2.1.2.1, d2.1.2.2.1, (IntKind.i64.wrap (d2.1.2.2.2.1 + (1 : Int))), ()), (()))))) else none) else none) else (some (((-1 : Int), ()), ())))) ((l, p, (l.length : Int), (0 : Int), ()), (())))
      = some ((idxI q l 0, ()), ()) := by
  refine loopN_over l hl (fun i (s : Unit) => ((l, p, (l.length : Int), (i : Int), ()), ())) (fun i t s => ((idxI q t (i : Int), ()), ())) (fun i t s => True)
    () rfl rfl trivial hN (fun rec s h => ?_) (fun rec i b t s hat h hrec => ?_)
  · dsimp only
    simp [idxI]
  · dsimp only
    simp only [hat.lt, hat.nn, hat.wrap, hat.rd, decide_true, if_true, hp b hat.mem, Option.bind_some, idxI]
    cases q b with
    | true => simp
    | false => simp only [Bool.false_eq_true, if_false]; exact hrec () trivial
theorem IndexFunc_LLint_eq {l : List (List Int)} {p : (List Int × Unit) → Option Bool} (q : List Int → Bool) (hl : l.length ≤ maxLen) (hp : ∀ x ∈ l, p (x, ()) = some (q x)) : S_IndexFunc_LLint_Lint l p = some ((idxI q l 0, ()), ()) :=
  lim_eq (l.length + 1) fun N hN => index_gen [] l hl p q hp hN
theorem IndexFunc_Lint_eq {l : List Int} {p : (Int × Unit) → Option Bool} (q : Int → Bool) (hl : l.length ≤ maxLen) (hp : ∀ x ∈ l, p (x, ()) = some (q x)) : S_IndexFunc_Lint_int l p = some ((idxI q l 0, ()), ()) :=
  lim_eq (l.length + 1) fun N hN => index_gen 0 l hl p q hp hN
theorem ContainsFunc_LLint_eq {l : List (List Int)} {p : (List Int × Unit) → Option Bool} (q : List Int → Bool) (hl : l.length ≤ maxLen) (hp : ∀ x ∈ l, p (x, ()) = some (q x)) : S_ContainsFunc_LLint_Lint l p = some ((l.any q, ()), ()) := by
  unfold S_ContainsFunc_LLint_Lint p_ContainsFunc_LLint_Lint
  rw [IndexFunc_LLint_eq q hl hp]
  simp only [Option.bind_some, idxI_any q l 0 (Int.le_refl 0)]
theorem ContainsFunc_Lint_eq {l : List Int} {p : (Int × Unit) → Option Bool} (q : Int → Bool) (hl : l.length ≤ maxLen) (hp : ∀ x ∈ l, p (x, ()) = some (q x)) : S_ContainsFunc_Lint_int l p = some ((l.any q, ()), ()) := by
  unfold S_ContainsFunc_Lint_int p_ContainsFunc_Lint_int
  rw [IndexFunc_Lint_eq q hl hp]
  simp only [Option.bind_some, idxI_any q l 0 (Int.le_refl 0)]
theorem Index_Lint_eq {l : List Int} {n : Int} (hl : l.length ≤ maxLen) : S_Index_Lint_int l n = some ((idxI (fun b => n == b) l 0, ()), ()) := by
  unfold S_Index_Lint_int
  refine lim_eq (l.length + 1) fun N hN => ?_
  unfold p_Index_Lint_int
  refine loopN_over l hl (fun i (s : Unit) => ((l, n, (l.length : Int), (i : Int), ()), ())) (fun i t s => ((idxI (fun b => n == b) t (i : Int), ()), ())) (fun i t s => True)
    () rfl rfl trivial hN (fun rec s h => ?_) (fun rec i b t s hat h hrec => ?_)
  · dsimp only
    simp [idxI]
  · dsimp only
    simp only [hat.lt, hat.nn, hat.wrap, hat.rd, decide_true, if_true, idxI]
    rcases Bool.eq_false_or_eq_true (n == b) with hb | hb
    · simp only [hb, if_true]
    · simp only [hb, Bool.false_eq_true, if_false]; exact hrec () trivial
theorem Contains_Lint_eq {l : List Int} {n : Int} (hl : l.length ≤ maxLen) : S_Contains_Lint_int l n = some ((l.contains n, ()), ()) := by
  unfold S_Contains_Lint_int p_Contains_Lint_int
  rw [Index_Lint_eq hl]
  simp only [Option.bind_some, idxI_any _ l 0 (Int.le_refl 0), List.any_beq]
/-- the one ahead of place i -/
def prv {β : Type} (l : List β) (i : Nat) : Option β := if i = 0 then none else l[i - 1]?
theorem prv_zero {β : Type} (l : List β) : prv l 0 = none := rfl
theorem prv_succ {β : Type} {l : List β} {i : Nat} {b : β} (h : l[i]? = some b) : prv l (i + 1) = some b := by simp [prv, h]
theorem prv_pos {β : Type} {l : List β} (hl : l.length ≤ maxLen) {i : Nat} (h : 0 < i) (hi : i < l.length) :
    ∃ c, prv l i = some c ∧ (∀ d, rd l (IntKind.i64.wrap ((i : Int) - 1)) d = c) ∧ (0 : Int) ≤ IntKind.i64.wrap ((i : Int) - 1) ∧ IntKind.i64.wrap ((i : Int) - 1) < (l.length : Int) ∧ c ∈ l := by
  rw [maxLen_eq] at hl
  have hw : IntKind.i64.wrap ((i : Int) - 1) = ((i - 1 : Nat) : Int) := by rw [wrap_small (by omega) (by omega)]; omega
  have hg : l[i - 1]? = some (l[i - 1]'(by omega)) := List.getElem?_eq_getElem (by omega)
  refine ⟨l[i - 1]'(by omega), by rw [prv, if_neg (by omega), hg], fun d => ?_, by rw [hw]; omega, by rw [hw]; omega, List.getElem_mem _⟩
  rw [hw, rd_nat, List.getD_eq_getElem?_getD, hg]; rfl
def risB : Option Int → List Int → Bool
  | _, [] => true
  | none, b :: t => risB (some b) t
  | some a, b :: t => decide (a < b) && risB (some b) t
theorem spec_l1Rising_eq (l : List Int) (lo hi : Int) (hl : l.length ≤ maxLen) : S_spec_l1Rising l lo hi = some ((l.all (fun b => inn b lo hi) && risB none l, ()), ()) := by
  unfold S_spec_l1Rising
  refine lim_eq (l.length + 1) fun N hN => ?_
  unfold p_spec_l1Rising
  refine loopN_over l hl (fun i (s : Unit) => ((l, lo, hi, l, (l.length : Int), (i : Int), ()), ())) (fun i t s => ((t.all (fun b => inn b lo hi) && risB (prv l i) t, ()), ())) (fun i t s => True)
    () rfl rfl trivial hN (fun rec s h => ?_) (fun rec i b t s hat h hrec => ?_)
  · dsimp only
    simp [risB]
  · have hlt := hat.ltn
    have hrec := hrec () trivial
    rw [prv_succ hat.get] at hrec
    dsimp only
    simp only [hat.lt, hat.nn, hat.wrap, hat.rd, decide_true, if_true, spec_l1In_eq, Option.bind_some, List.all_cons]
    cases hb : inn b lo hi with
    | false => simp
    | true =>
      simp only [Bool.not_true, Bool.false_eq_true, if_false, Bool.true_and]
      rcases Nat.eq_zero_or_pos i with rfl | hi0
      · rw [decide_eq_false (by omega)]
        simp only [Bool.false_eq_true, if_false, prv_zero, risB]
        exact hrec
      · obtain ⟨c, h1, h2, h3, h4, _⟩ := prv_pos hl hi0 hlt
        rw [decide_eq_true (by omega)]
        simp only [if_true, h2, h3, h4, decide_true, h1, risB]
        by_cases hc : c < b
        · rw [decide_eq_false (by omega)]
          simp only [Bool.false_eq_true, if_false, hc, decide_true, Bool.true_and]
          exact hrec
        · rw [decide_eq_true (by omega)]
          simp [hc]
theorem impl_rise_eq (l : List Int) (hl : l.length ≤ maxLen) : S_impl_rise l = some ((risB none l, ()), ()) := by
  unfold S_impl_rise
  refine lim_eq (l.length + 1) fun N hN => ?_
  unfold p_impl_rise
  cases l with
  | nil =>
    obtain ⟨n, rfl⟩ : ∃ n, N = n + 1 := ⟨N - 1, by simp at hN; omega⟩
    simp [loopN, risB]
  | cons b0 t0 =>
    refine loopN_from (b0 :: t0).length 1 (fun i (s : Unit) => (((b0 :: t0, (i : Int), ()), ()) : (List Int × Int × Unit) × Unit)) (fun i s => (((risB (prv (b0 :: t0) i) ((b0 :: t0).drop i), ()), ()) : (Bool × Unit) × Unit)) (fun i s => 0 < i)
      () rfl (by simp [prv, risB]) (by simp) (by omega) hN (fun rec i s hi h0 hrec => ?_)
    · dsimp only
      rcases Nat.lt_or_ge i (b0 :: t0).length with h1 | h1
      · have hat := At.of hl (List.drop_eq_getElem_cons h1)
        have hrec := hrec h1 () (by omega)
        rw [prv_succ hat.get] at hrec
        obtain ⟨c, h5, h2, h3, h4, _⟩ := prv_pos hl h0 h1
        simp only [hat.lt, hat.nn, hat.wrap, hat.rd, hat.drop, decide_true, if_true, h2, h3, h4, h5, risB]
        by_cases hc : c < (b0 :: t0)[i]'h1
        · rw [decide_eq_false (by omega)]
          simp only [Bool.false_eq_true, if_false, hc, decide_true, Bool.true_and]
          exact hrec
        · rw [decide_eq_true (by omega)]
          simp [hc]
      · obtain rfl : i = (b0 :: t0).length := by omega
        rw [List.drop_length]
        simp [risB]
theorem not_any_not {β : Type} (l : List β) (q : β → Bool) : (!l.any fun x => !q x) = l.all q := by
  induction l with
  | nil => rfl
  | cons b t ih => rw [List.any_cons, List.all_cons, Bool.not_or, Bool.not_not, ih]
theorem impl_areMembers_eq (n : Int) (l : List Int) (hl : l.length ≤ maxLen) (hn : IntKind.i64.wrap (n - 1) = n - 1) : S_impl_areMembers n l = some ((l.all (fun b => inn b 0 (n - 1)) && risB none l, ()), ()) := by
  unfold S_impl_areMembers p_impl_areMembers
  rw [impl_rise_eq l hl, hn]
  simp only [Option.bind_some, impl_within_eq]
  cases risB none l with
  | false => simp
  | true =>
    simp only [if_true]
    rw [ContainsFunc_Lint_eq (fun b => !inn b 0 (n - 1)) hl (fun x _ => rfl)]
    simp only [Option.bind_some, not_any_not, Bool.and_true]
def hostsOf (n : Int) : List (List Int) → Int → List Int
  | [], _ => []
  | l :: t, i => if l.contains n then i :: hostsOf n t (i + 1) else hostsOf n t (i + 1)
theorem hostsOf_len (n : Int) : ∀ (l : List (List Int)) (i : Int), (hostsOf n l i).length ≤ l.length
  | [], _ => Nat.le_refl _
  | l :: t, i => by
    have := hostsOf_len n t (i + 1)
    simp only [hostsOf]
    split <;> simp only [List.length_cons] <;> omega
theorem impl_hosts_eq (l : List (List Int)) (n : Int) (hl : WL.wl l) (h2 : l.length ≤ 1048576) : S_impl_hosts l n = some ((hostsOf n l 0, ()), ()) := by
  unfold S_impl_hosts
  refine lim_eq (l.length + 1) fun N hN => ?_
  unfold p_impl_hosts
  refine loopN_over l hl.1 (fun i (s : List Int) => ((n, l, (l.length : Int), (i : Int), ()), ([], s, ()))) (fun i t s => ((s ++ hostsOf n t (i : Int), ()), ())) (fun i t s => s.length ≤ i)
    [] rfl rfl (by simp) hN (fun rec s h => ?_) (fun rec i b t s hat h hrec => ?_)
  · dsimp only
    simp [hostsOf]
  · have hlt := hat.ltn
    dsimp only
    simp only [hat.lt, hat.nn, hat.wrap, hat.rd, decide_true, if_true, Contains_Lint_eq (wl_mem hl hat.mem).1, Option.bind_some, hostsOf]
    cases hc : b.contains n with
    | false => simp only [Bool.false_eq_true, if_false]; exact hrec s (by omega)
    | true =>
      rw [if_pos rfl, if_pos (by simp; omega)]
      refine (hrec (s ++ [(i : Int)]) (by simp; omega)).trans ?_
      simp
/-- do all keep rising accounts, and is each kept? -/
def keepsOk (l : List Int) : Bool := (l.all fun b => inn b 0 3) && risB none l
def placesOk (n : Int) (l : List (List Int)) : Bool := grp n && ((l.length : Int) == n) && l.all keepsOk && ([0, 1, 2, 3].all fun a => l.any fun x => x.contains (a : Int))
theorem hostsOf_nil (n : Int) : ∀ (l : List (List Int)) (i : Int), ((hostsOf n l i).length == 0) = !l.any fun x => x.contains n
  | [], _ => rfl
  | l :: t, i => by
    have := hostsOf_nil n t (i + 1)
    simp only [hostsOf, List.any_cons]
    cases hc : l.contains n with
    | false => simp only [Bool.false_eq_true, if_false, Bool.false_or]; exact this
    | true => simp
theorem int_nat_beq (n : Nat) : ((n : Int) == 0) = (n == 0) := by
  cases n with
  | zero => rfl
  | succ n =>
    have h1 : (((n + 1 : Nat) : Int) == 0) = false := by simp; omega
    rw [h1]; rfl
theorem impl_GoodPlaces_eq (n : Int) (l : List (List Int)) (hl : WL.wl l) : S_impl_GoodPlaces n l = some ((placesOk n l, ()), ()) := by
  unfold S_impl_GoodPlaces
  refine lim_eq 6 fun N hN => ?_
  unfold p_impl_GoodPlaces placesOk
  rw [impl_IsGroup_eq]
  simp only [Option.bind_some]
  cases hg : grp n with
  | false => simp
  | true =>
    simp only [Bool.not_true, Bool.false_eq_true, if_false, Bool.true_and]
    by_cases hlen : (l.length : Int) = n
    · have h1 : ((l.length : Int) != n) = false := by simp [hlen]
      have h2 : ((l.length : Int) == n) = true := by simp [hlen]
      have hsm : l.length ≤ 5 := by rw [grp_iff] at hg; omega
      simp only [h1, h2, Bool.false_eq_true, if_false, Bool.true_and]
      rw [ContainsFunc_LLint_eq (fun x => !keepsOk x) hl.1 (fun x hx => by
        rw [impl_areMembers_eq 4 x (wl_mem hl hx).1 (by decide)]; rfl)]
      simp only [Option.bind_some]
      have := not_any_not l keepsOk
      cases ha : l.all keepsOk with
      | false =>
        rw [ha] at this
        simp only [Bool.not_eq_false'] at this
        simp [this]
      | true =>
        rw [ha] at this
        simp only [Bool.not_eq_true'] at this
        simp only [this, Bool.false_eq_true, if_false, Bool.true_and]
        refine loopN_upto 4 (fun i (s : Unit) => ((l, (i : Int), ()), ())) (fun i s => ((((List.range' i (4 - i)).map fun (k : Nat) => (k : Int)).all fun a => l.any fun x => x.contains a, ()), ())) (fun i s => True)
          () rfl rfl trivial (by omega) (fun rec i s hi _ hrec => ?_)
        dsimp only
        rcases Nat.lt_or_ge i 4 with h4 | h4
        · rw [decide_eq_true (by omega)]
          obtain ⟨m, hm⟩ : ∃ m, 4 - i = m + 1 := ⟨3 - i, by omega⟩
          have hrec := hrec h4 () trivial
          rw [show 4 - (i + 1) = m by omega] at hrec
          rw [hm, List.range'_succ]
          rw [impl_hosts_eq l _ hl (by omega)]
          simp only [if_true, Option.bind_some, int_nat_beq, hostsOf_nil, List.map_cons, List.all_cons]
          rw [wrap_small (by omega) (by omega)]
          cases l.any fun x => x.contains (i : Int) with
          | false => simp
          | true =>
            simp only [Bool.not_true, Bool.false_eq_true, if_false, Bool.true_and]
            exact hrec
        · obtain rfl : i = 4 := by omega
          simp
    · have h1 : ((l.length : Int) != n) = true := by simp [hlen]
      have h2 : ((l.length : Int) == n) = false := by simp [hlen]
      simp [h1, h2]
theorem spec_l16Keeps_eq (l : List Int) (hl : l.length ≤ maxLen) : S_spec_l16Keeps l = some ((keepsOk l, ()), ()) := by
  unfold S_spec_l16Keeps p_spec_l16Keeps
  rw [spec_l1Rising_eq l 0 3 hl]; rfl
theorem spec_GoodPlaces_eq (n : Int) (l : List (List Int)) (hl : WL.wl l) : S_spec_GoodPlaces n l = some ((placesOk n l, ()), ()) := by
  unfold S_spec_GoodPlaces
  refine lim_eq 6 fun N hN => ?_
  unfold p_spec_GoodPlaces placesOk
  rw [spec_IsGroup_eq]
  simp only [Option.bind_some]
  cases hg : grp n with
  | false => simp
  | true =>
    simp only [Bool.not_true, Bool.false_eq_true, if_false, Bool.true_and]
    by_cases hlen : (l.length : Int) = n
    · have h1 : ((l.length : Int) != n) = false := by simp [hlen]
      have h2 : ((l.length : Int) == n) = true := by simp [hlen]
      have hsm : l.length ≤ 5 := by rw [grp_iff] at hg; omega
      have hpos : 0 < l.length := by rw [grp_iff] at hg; omega
      simp only [h1, h2, Bool.false_eq_true, if_false, Bool.true_and]
      refine loopN_upto 4 (fun i (s : Unit) => ((l, (i : Int), ()), ())) (fun i s => (((decide (i = 4) || l.all keepsOk) && ((List.range' i (4 - i)).map fun (k : Nat) => (k : Int)).all fun a => l.any fun x => x.contains a, ()), ())) (fun i s => 0 < i → l.all keepsOk = true)
        () rfl rfl (by omega) (by omega) (fun rec i s hi hI hrec => ?_)
      dsimp only
      rcases Nat.lt_or_ge i 4 with h4 | h4
      · rw [decide_eq_true (by omega)]
        obtain ⟨m, hm⟩ : ∃ m, 4 - i = m + 1 := ⟨3 - i, by omega⟩
        rw [show 4 - (i + 1) = m by omega] at hrec
        rw [hm, List.range'_succ]
        simp only [if_true, decide_eq_false (show ¬ i = 4 by omega), Bool.false_or, List.map_cons, List.all_cons]
        refine loopN_over l hl.1 (fun j (s : Bool) => ((l, (i : Int), s, l, (l.length : Int), (j : Int), ()), ())) (fun j t s => ((t.all keepsOk && ((s || t.any fun x => x.contains (i : Int)) && ((List.range' (i + 1) m).map fun (k : Nat) => (k : Int)).all fun a => l.any fun x => x.contains a), ()), ())) (fun j t s => (l.all keepsOk = t.all keepsOk))
          false rfl (by simp) rfl (by omega) (fun rec2 s h => ?_) (fun rec2 j b t s hat h hrec2 => ?_)
        · dsimp only
          simp only [lenInt_lt_irrefl, decide_false, Bool.false_eq_true, if_false, List.all_nil, List.any_nil, Bool.or_false, Bool.true_and]
          cases s with
          | false => simp
          | true =>
            simp only [Bool.not_true, Bool.false_eq_true, if_false, Bool.true_and]
            rw [wrap_small (by omega) (by omega)]
            refine (hrec h4 () fun _ => h).trans ?_
            rw [h]; simp
        · dsimp only
          simp only [hat.lt, hat.nn, hat.wrap, hat.rd, decide_true, if_true, spec_l16Keeps_eq b (wl_mem hl hat.mem).1, Option.bind_some, List.all_cons, List.any_cons]
          cases hk : keepsOk b with
          | false => simp
          | true =>
            simp only [Bool.not_true, Bool.false_eq_true, if_false, Bool.true_and]
            have hh : l.all keepsOk = t.all keepsOk := by rw [h, List.all_cons, hk, Bool.true_and]
            cases s with
            | true => simp only [if_true, Bool.true_or]; exact (hrec2 true hh).trans (by simp)
            | false =>
              simp only [Bool.false_eq_true, if_false, spec_l1Has_eq b _ (wl_mem hl hat.mem).1, Option.bind_some, Bool.false_or]
              exact hrec2 _ hh
      · obtain rfl : i = 4 := by omega
        simp
    · have h1 : ((l.length : Int) != n) = true := by simp [hlen]
      have h2 : ((l.length : Int) == n) = false := by simp [hlen]
      simp [h1, h2]
theorem spec_HostsOf_eq (n : Int) (l : List (List Int)) (a : Int) (hl : WL.wl l) (hc : l.length ≤ 1048576) : S_spec_HostsOf n l a = some ((if placesOk n l && inn a 0 3 then (hostsOf a l 0, true, ()) else ([], false, ())), ()) := by
  unfold S_spec_HostsOf
  refine lim_eq (l.length + 1) fun N hN => ?_
  unfold p_spec_HostsOf
  simp only [spec_GoodPlaces_eq n l hl, Option.bind_some, S_spec_l2Account, p_spec_l2Account, spec_l1In_eq]
  cases placesOk n l with
  | false => simp
  | true =>
    cases inn a 0 3 with
    | false => simp
    | true =>
      simp only [Bool.not_true, Bool.false_eq_true, if_false, Bool.and_true, if_true]
      refine loopN_over l hl.1 (fun i (s : List Int) => ((a, l, (l.length : Int), (i : Int), ()), ([], s, ()))) (fun i t s => ((s ++ hostsOf a t (i : Int), true, ()), ())) (fun i t s => s.length ≤ i)
        [] rfl rfl (by simp) hN (fun rec s h => ?_) (fun rec i b t s hat h hrec => ?_)
      · dsimp only
        simp [hostsOf]
      · have hlt := hat.ltn
        dsimp only
        simp only [hat.lt, hat.nn, hat.wrap, hat.rd, decide_true, if_true, spec_l1Has_eq _ _ (wl_mem hl hat.mem).1, Option.bind_some, hostsOf]
        cases hc : b.contains a with
        | false => simp only [Bool.false_eq_true, if_false]; exact hrec s (by omega)
        | true =>
          rw [if_pos rfl, if_pos (by simp; omega)]
          refine (hrec (s ++ [(i : Int)]) (by simp; omega)).trans ?_
          simp
theorem impl_HostsOf_eq (n : Int) (l : List (List Int)) (a : Int) (hl : WL.wl l) (hc : l.length ≤ 1048576) : S_impl_HostsOf n l a = some ((if placesOk n l && inn a 0 3 then (hostsOf a l 0, true, ()) else ([], false, ())), ()) := by
  unfold S_impl_HostsOf p_impl_HostsOf
  simp only [impl_GoodPlaces_eq n l hl, Option.bind_some, S_impl_isAccount, p_impl_isAccount, impl_within_eq]
  cases placesOk n l with
  | false => simp
  | true =>
    cases inn a 0 3 with
    | false => simp
    | true => simp [impl_hosts_eq l a hl hc]
theorem spec_l2Account_eq (n : Int) : S_spec_l2Account n = some ((inn n 0 3, ()), ()) := by
  unfold S_spec_l2Account p_spec_l2Account; rw [spec_l1In_eq]; rfl
theorem impl_isAccount_eq (n : Int) : S_impl_isAccount n = some ((inn n 0 3, ()), ()) := by
  unfold S_impl_isAccount p_impl_isAccount; rw [impl_within_eq]; rfl
def zcmd (c : T2) : Bool := (c.1 == 0 && (c.2.1 == 0 && (c.2.2.1 == 0 && (c.2.2.2.1 == 0 && (c.2.2.2.2.1 == 0 && true)))))
def gcmd (c : T2) : Bool :=
  if c.1 == 0 then zcmd c
  else if c.1 == 1 then inn c.2.1 1 999 && (inn c.2.2.1 0 3 && (inn c.2.2.2.1 0 3 && ((c.2.2.1 != c.2.2.2.1) && inn c.2.2.2.2.1 1 1000)))
  else if c.1 == 2 then inn c.2.1 1 999 && (inn c.2.2.1 0 3 && ((c.2.2.2.1 == 0) && (c.2.2.2.2.1 == 0))) else false
theorem impl_GoodCmd_eq (c : T2) : S_impl_GoodCmd c = some ((gcmd c, ()), ()) := by
  unfold S_impl_GoodCmd p_impl_GoodCmd gcmd
  simp only [impl_within_eq, impl_isAccount_eq, Option.bind_some]
  split
  · rfl
  · split
    · cases inn c.2.1 1 999 <;> cases inn c.2.2.1 0 3 <;> cases inn c.2.2.2.1 0 3 <;> cases (c.2.2.1 != c.2.2.2.1) <;> simp
    · split
      · cases inn c.2.1 1 999 <;> cases inn c.2.2.1 0 3 <;> cases (c.2.2.2.1 == 0) <;> simp
      · rfl
theorem l2Code_move (c : T2) (h : (c.1 == (1 : Int)) = true) : ∃ k : Int, S_spec_l2Code c = some ((k, ()), ()) ∧ (k == 0) = (inn c.2.1 1 999 && (inn c.2.2.1 0 3 && (inn c.2.2.2.1 0 3 && ((c.2.2.1 != c.2.2.2.1) && inn c.2.2.2.2.1 1 1000)))) := by
  unfold S_spec_l2Code p_spec_l2Code
  simp only [h, if_true]
  simp only [spec_l1In_eq, spec_l2Account_eq, Option.bind_some]
  have hb : (c.2.2.1 != c.2.2.2.1) = !(c.2.2.1 == c.2.2.2.1) := rfl
  rw [hb]
  generalize inn c.2.1 1 999 = a
  generalize inn c.2.2.1 0 3 = b
  generalize inn c.2.2.2.1 0 3 = d
  generalize inn c.2.2.2.2.1 1 1000 = e
  generalize (c.2.2.1 == c.2.2.2.1) = f
  cases a <;> cases b <;> cases d <;> cases e <;> cases f <;> exact ⟨_, rfl, rfl⟩
theorem l2Code_read (c : T2) (h : (c.1 == (1 : Int)) = false) : ∃ k : Int, S_spec_l2Code c = some ((k, ()), ()) ∧ (k == 0) = (inn c.2.1 1 999 && inn c.2.2.1 0 3) := by
  unfold S_spec_l2Code p_spec_l2Code
  simp only [h, Bool.false_eq_true, if_false]
  simp only [spec_l1In_eq, spec_l2Account_eq, Option.bind_some]
  generalize inn c.2.1 1 999 = a
  generalize inn c.2.2.1 0 3 = b
  cases a <;> cases b <;> exact ⟨_, rfl, rfl⟩
theorem spec_GoodCmd_eq (c : T2) : S_spec_GoodCmd c = some ((gcmd c, ()), ()) := by
  unfold S_spec_GoodCmd p_spec_GoodCmd gcmd
  split
  · rfl
  · split
    · rename_i h1
      obtain ⟨k, e1, e2⟩ := l2Code_move c h1
      rw [e1, Option.bind_some, e2]
    · split
      · rename_i h0 h1 h2
        obtain ⟨k, e1, e2⟩ := l2Code_read c (by simpa using h1)
        rw [e1, Option.bind_some, e2]
        generalize inn c.2.1 1 999 = a
        generalize inn c.2.2.1 0 3 = b
        generalize (c.2.2.2.1 == (0 : Int)) = d
        cases a <;> cases b <;> cases d <;> rfl
      · rfl
def sameInst (e f : T4) : Bool := (f.1 == e.1) && (f.2.1 == e.2.1)
def nodupE : List T4 → List T4 → Bool
  | _, [] => true
  | dn, e :: t => (!dn.any fun f => sameInst e f) && nodupE (dn ++ [e]) t
def entriesOk (l : List T4) : Bool := nodupE [] l && ((l.all fun e => gcmd e.2.2.1) && decide ((l.length : Int) ≤ 60))
theorem take_next {β : Type} {l : List β} {i : Nat} {b : β} (h : l[i]? = some b) : l.take (i + 1) = l.take i ++ [b] := by
  rw [List.take_add_one, h]; rfl
theorem IndexFunc_Entry_eq {l : List T4} {p : (T4 × Unit) → Option Bool} (q : T4 → Bool) (hl : l.length ≤ maxLen) (hp : ∀ x ∈ l, p (x, ()) = some (q x)) : S_IndexFunc_Limpl_Entry_impl_Entry l p = some ((idxI q l 0, ()), ()) :=
  lim_eq (l.length + 1) fun N hN => index_gen _ l hl p q hp hN
theorem ContainsFunc_Entry_eq {l : List T4} {p : (T4 × Unit) → Option Bool} (q : T4 → Bool) (hl : l.length ≤ maxLen) (hp : ∀ x ∈ l, p (x, ()) = some (q x)) : S_ContainsFunc_Limpl_Entry_impl_Entry l p = some ((l.any q, ()), ()) := by
  unfold S_ContainsFunc_Limpl_Entry_impl_Entry p_ContainsFunc_Limpl_Entry_impl_Entry
  rw [IndexFunc_Entry_eq q hl hp]
  simp only [Option.bind_some, idxI_any q l 0 (Int.le_refl 0)]
def keyIs (r n : Int) (f : T4) : Bool := (f.1 == r) && (f.2.1 == n)
theorem impl_entryOf_eq (l : List T4) (r n : Int) (hl : l.length ≤ maxLen) : S_impl_entryOf l r n = some ((idxI (keyIs r n) l 0, ()), ()) := by
  unfold S_impl_entryOf p_impl_entryOf
  rw [IndexFunc_Entry_eq (keyIs r n) hl (fun x _ => by
    unfold keyIs
    by_cases h : x.1 = r <;> simp [h])]
  rfl
theorem impl_goodEntries_eq (l : List T4) (hl : l.length ≤ maxLen) : S_impl_goodEntries l = some (((l.all fun e => gcmd e.2.2.1) && decide ((l.length : Int) ≤ 60), ()), ()) := by
  unfold S_impl_goodEntries p_impl_goodEntries
  rw [ContainsFunc_Entry_eq (fun e => !gcmd e.2.2.1) hl (fun x _ => by simp only [impl_GoodCmd_eq, Option.bind_some])]
  simp only [Option.bind_some, not_any_not]
  by_cases h : (l.length : Int) ≤ 60 <;> simp [h]
theorem impl_goodParts_eq (l : List T4) (k : List Int) (hl : l.length ≤ maxLen) (hk : k.length ≤ maxLen) : S_impl_goodParts l k = some ((entriesOk l && keepsOk k, ()), ()) := by
  unfold S_impl_goodParts
  refine lim_eq (l.length + 1) fun N hN => ?_
  unfold p_impl_goodParts entriesOk
  refine loopN_over l hl (fun i (s : Unit) => ((l, k, l, (l.length : Int), (i : Int), ()), ())) (fun i t s => ((nodupE (l.take i) t && ((l.all fun e => gcmd e.2.2.1) && decide ((l.length : Int) ≤ 60)) && keepsOk k, ()), ())) (fun i t s => True)
    () rfl rfl trivial hN (fun rec s h => ?_) (fun rec i b t s hat h hrec => ?_)
  · dsimp only
    simp only [lenInt_lt_irrefl, decide_false, Bool.false_eq_true, if_false, impl_goodEntries_eq l hl, Option.bind_some, nodupE, Bool.true_and]
    cases ((l.all fun e => gcmd e.2.2.1) && decide ((l.length : Int) ≤ 60)) with
    | false => simp
    | true =>
      rw [if_pos rfl, impl_areMembers_eq 4 k hk (by decide)]
      simp [keepsOk]
  · have hlt := hat.ltn
    have h1 : (i : Int) ≤ (l.length : Int) := by omega
    have h2 : (l.take i).length ≤ maxLen := by simp; omega
    dsimp only
    simp only [hat.lt, hat.nn, hat.wrap, hat.rd, h1, Int.le_refl, decide_true, if_true, Int.toNat_natCast, Int.toNat_zero, List.drop_zero, impl_entryOf_eq _ _ _ h2, Option.bind_some, idxI_any _ _ 0 (Int.le_refl 0), nodupE]
    have : (List.take i l).any (keyIs b.1 b.2.1) = (List.take i l).any (fun f => sameInst b f) := rfl
    rw [this]
    cases (List.take i l).any (fun f => sameInst b f) with
    | true => simp
    | false =>
      simp only [Bool.false_eq_true, if_false, Bool.not_false, Bool.true_and]
      rw [← take_next hat.get]
      exact hrec () trivial
theorem spec_l16Entries_eq (l : List T4) (hl : l.length ≤ maxLen) : S_spec_l16Entries l = some ((entriesOk l, ()), ()) := by
  unfold S_spec_l16Entries
  refine lim_eq (l.length + 1) fun N hN => ?_
  unfold p_spec_l16Entries entriesOk
  refine loopN_over l hl (fun i (s : Unit) => ((l, l, (l.length : Int), (i : Int), ()), ())) (fun i t s => ((nodupE (l.take i) t && ((t.all fun e => gcmd e.2.2.1) && decide ((l.length : Int) ≤ 60)), ()), ())) (fun i t s => True)
    () rfl rfl trivial hN (fun rec s h => ?_) (fun rec i b t s hat h hrec => ?_)
  · dsimp only
    simp [nodupE]
  · have hlt := hat.ltn
    have h1 : (i : Int) ≤ (l.length : Int) := by omega
    have h2 : (l.take i).length ≤ maxLen := by simp; omega
    dsimp only
    simp only [hat.lt, hat.nn, hat.wrap, hat.rd, h1, Int.le_refl, decide_true, if_true, Int.toNat_natCast, Int.toNat_zero, List.drop_zero, spec_GoodCmd_eq, Option.bind_some, nodupE, List.all_cons]
    cases gcmd b.2.2.1 with
    | false => simp
    | true =>
      simp only [Bool.not_true, Bool.false_eq_true, if_false, Bool.true_and]
      refine loopN_over (l.take i) h2 (fun j (s : Unit) => ((l, l, (l.length : Int), (i : Int), l.take i, ((l.take i).length : Int), (j : Int), ()), ((b.1, b.2.1, b.2.2.1.1, b.2.2.1.2.1, b.2.2.1.2.2.1, b.2.2.1.2.2.2.1, b.2.2.1.2.2.2.2.1, b.2.2.2.1.1, b.2.2.2.1.2.1, ()), ())))
        (fun j u s => (((!u.any fun f => sameInst b f) && nodupE (l.take i ++ [b]) t && ((t.all fun e => gcmd e.2.2.1) && decide ((l.length : Int) ≤ 60)), ()), ())) (fun j u s => True)
        () rfl rfl trivial (by simp; omega) (fun rec2 s h => ?_) (fun rec2 j c u s hat2 h hrec2 => ?_)
      · dsimp only
        simp only [lenInt_lt_irrefl, decide_false, Bool.false_eq_true, if_false, List.any_nil, Bool.not_false, Bool.true_and, hat.wrap]
        rw [← take_next hat.get]
        exact hrec () trivial
      · dsimp only
        simp only [hat2.lt, hat2.nn, hat2.wrap, hat2.rd, decide_true, if_true, List.any_cons, sameInst]
        have hsym : ∀ x y : Int, (x == y) = (y == x) := fun x y => by rw [Bool.eq_iff_iff, beq_iff_eq, beq_iff_eq]; exact eq_comm
        rw [hsym b.1 c.1, hsym b.2.1 c.2.1]
        have hr := hrec2 () trivial
        simp only [sameInst] at hr
        cases (c.1 == b.1) with
        | false => simpa using hr
        | true =>
          cases (c.2.1 == b.2.1) with
          | false => simpa using hr
          | true => simp
def needs (k : List Int) : List T4 → List (List Int)
  | [] => []
  | e :: t => if e.2.2.1.1 == 1 && (k.contains e.2.2.1.2.2.2.1 && !k.contains e.2.2.1.2.2.1) then [e.1, e.2.1] :: needs k t else needs k t
def verds (k : List Int) : List T4 → List T5
  | [] => []
  | e :: t => if e.2.2.1.1 == 1 && k.contains e.2.2.1.2.2.1 then (e.1, e.2.1, e.2.2.2) :: verds k t else verds k t
theorem needs_len (k : List Int) : ∀ l, (needs k l).length ≤ l.length
  | [] => Nat.le_refl _
  | e :: t => by
    have := needs_len k t
    simp only [needs]
    split <;> simp only [List.length_cons] <;> omega
theorem verds_len (k : List Int) : ∀ l, (verds k l).length ≤ l.length
  | [] => Nat.le_refl _
  | e :: t => by
    have := verds_len k t
    simp only [verds]
    split <;> simp only [List.length_cons] <;> omega
theorem needs_two (k : List Int) : ∀ l, ∀ x ∈ needs k l, x.length = 2
  | [], x, h => by cases h
  | e :: t, x, h => by
    simp only [needs] at h
    split at h
    · rcases List.mem_cons.1 h with rfl | h
      · rfl
      · exact needs_two k t x h
    · exact needs_two k t x h
theorem spec_NeedsOf_eq (l : List T4) (k : List Int) (hl : l.length ≤ 1048576) (hk : k.length ≤ 1048576) : S_spec_NeedsOf l k = some ((if entriesOk l && keepsOk k then (needs k l, true, ()) else ([], false, ())), ()) := by
  have hl' : l.length ≤ maxLen := by rw [maxLen_eq]; omega
  have hk' : k.length ≤ maxLen := by rw [maxLen_eq]; omega
  unfold S_spec_NeedsOf
  refine lim_eq (l.length + 1) fun N hN => ?_
  unfold p_spec_NeedsOf
  simp only [spec_l16Entries_eq l hl', spec_l16Keeps_eq k hk', Option.bind_some]
  cases entriesOk l with
  | false => simp
  | true =>
    cases keepsOk k with
    | false => simp
    | true =>
      simp only [Bool.not_true, Bool.false_eq_true, if_false, Bool.and_true, if_true]
      refine loopN_over l hl' (fun i (s : List (List Int)) => ((k, l, (l.length : Int), (i : Int), ()), ([], s, ()))) (fun i t s => ((s ++ needs k t, true, ()), ())) (fun i t s => s.length ≤ i)
        [] rfl rfl (by simp) hN (fun rec s h => ?_) (fun rec i b t s hat h hrec => ?_)
      · dsimp only
        simp [needs]
      · have hlt := hat.ltn
        have hap : ((s.length + ([[b.1, b.2.1]] : List (List Int)).length) * 24 ≤ 140737488355328) = True := by simp; omega
        dsimp only
        simp only [hat.lt, hat.nn, hat.wrap, hat.rd, decide_true, if_true, spec_l1Has_eq k _ hk', Option.bind_some, needs, hap]
        cases (b.2.2.1.1 == 1) with
        | false => simp only [Bool.false_eq_true, if_false, Bool.false_and]; exact hrec s (by omega)
        | true =>
          cases k.contains b.2.2.1.2.2.2.1 with
          | false => simp only [Bool.false_eq_true, if_false, Bool.false_and, Bool.and_false, if_true]; exact hrec s (by omega)
          | true =>
            cases k.contains b.2.2.1.2.2.1 with
            | true => simp only [Bool.not_true, Bool.false_eq_true, if_false, Bool.and_false, if_true]; exact hrec s (by omega)
            | false =>
              simp only [Bool.not_false, Bool.and_true, if_true]
              refine (hrec (s ++ [[b.1, b.2.1]]) (by simp; omega)).trans ?_
              simp
theorem impl_NeedsOf_eq (l : List T4) (k : List Int) (hl : l.length ≤ 1048576) (hk : k.length ≤ 1048576) : S_impl_NeedsOf l k = some ((if entriesOk l && keepsOk k then (needs k l, true, ()) else ([], false, ())), ()) := by
  have hl' : l.length ≤ maxLen := by rw [maxLen_eq]; omega
  have hk' : k.length ≤ maxLen := by rw [maxLen_eq]; omega
  unfold S_impl_NeedsOf
  refine lim_eq (l.length + 1) fun N hN => ?_
  unfold p_impl_NeedsOf
  simp only [impl_goodParts_eq l k hl' hk', Option.bind_some]
  cases entriesOk l && keepsOk k with
  | false => simp
  | true =>
      simp only [Bool.not_true, Bool.false_eq_true, if_false, if_true]
      refine loopN_over l hl' (fun i (s : List (List Int)) => ((k, l, (l.length : Int), (i : Int), ()), ([], s, ()))) (fun i t s => ((s ++ needs k t, true, ()), ())) (fun i t s => s.length ≤ i)
        [] rfl rfl (by simp) hN (fun rec s h => ?_) (fun rec i b t s hat h hrec => ?_)
      · dsimp only
        simp [needs]
      · have hlt := hat.ltn
        have hap : ((s.length + ([[b.1, b.2.1]] : List (List Int)).length) * 24 ≤ 140737488355328) = True := by simp; omega
        dsimp only
        simp only [hat.lt, hat.nn, hat.wrap, hat.rd, decide_true, if_true, Contains_Lint_eq hk', Option.bind_some, needs, hap]
        cases (b.2.2.1.1 == 1) with
        | false => simp only [Bool.false_eq_true, if_false, Bool.false_and]; exact hrec s (by omega)
        | true =>
          cases k.contains b.2.2.1.2.2.2.1 with
          | false => simp only [Bool.false_eq_true, if_false, Bool.false_and, Bool.and_false, if_true]; exact hrec s (by omega)
          | true =>
            cases k.contains b.2.2.1.2.2.1 with
            | true => simp only [Bool.not_true, Bool.false_eq_true, if_false, Bool.and_false, if_true]; exact hrec s (by omega)
            | false =>
              simp only [Bool.not_false, Bool.and_true, if_true]
              refine (hrec (s ++ [[b.1, b.2.1]]) (by simp; omega)).trans ?_
              simp
theorem spec_l16Verdicts_eq (l : List T4) (k : List Int) (hl : l.length ≤ 1048576) (hk : k.length ≤ 1048576) : S_spec_l16Verdicts l k = some ((verds k l, ()), ()) := by
  have hl' : l.length ≤ maxLen := by rw [maxLen_eq]; omega
  have hk' : k.length ≤ maxLen := by rw [maxLen_eq]; omega
  unfold S_spec_l16Verdicts
  refine lim_eq (l.length + 1) fun N hN => ?_
  unfold p_spec_l16Verdicts
  refine loopN_over l hl' (fun i (s : List T5) => ((k, l, (l.length : Int), (i : Int), ()), ([], s, ()))) (fun i t s => ((s ++ verds k t, ()), ())) (fun i t s => s.length ≤ i)
    [] rfl rfl (by simp) hN (fun rec s h => ?_) (fun rec i b t s hat h hrec => ?_)
  · dsimp only
    simp [verds]
  · have hlt := hat.ltn
    have hap : ((s.length + ([(b.1, b.2.1, b.2.2.2)] : List T5).length) * 32 ≤ 140737488355328) = True := by simp; omega
    dsimp only
    simp only [hat.lt, hat.nn, hat.wrap, hat.rd, decide_true, if_true, spec_l1Has_eq k _ hk', Option.bind_some, verds, hap]
    cases (b.2.2.1.1 == 1) with
    | false => simp only [Bool.false_eq_true, if_false, Bool.false_and]; exact hrec s (by omega)
    | true =>
      cases k.contains b.2.2.1.2.2.1 with
      | false => simp only [Bool.false_eq_true, if_false, Bool.and_false, if_true]; exact hrec s (by omega)
      | true =>
        simp only [Bool.and_true, if_true]
        refine (hrec (s ++ [(b.1, b.2.1, b.2.2.2)]) (by simp; omega)).trans ?_
        simp
theorem impl_verdicts_eq (l : List T4) (k : List Int) (hl : l.length ≤ 1048576) (hk : k.length ≤ 1048576) : S_impl_verdicts l k = some ((verds k l, ()), ()) := by
  have hl' : l.length ≤ maxLen := by rw [maxLen_eq]; omega
  have hk' : k.length ≤ maxLen := by rw [maxLen_eq]; omega
  unfold S_impl_verdicts
  refine lim_eq (l.length + 1) fun N hN => ?_
  unfold p_impl_verdicts
  refine loopN_over l hl' (fun i (s : List T5) => ((k, l, (l.length : Int), (i : Int), ()), ([], s, ()))) (fun i t s => ((s ++ verds k t, ()), ())) (fun i t s => s.length ≤ i)
    [] rfl rfl (by simp) hN (fun rec s h => ?_) (fun rec i b t s hat h hrec => ?_)
  · dsimp only
    simp [verds]
  · have hlt := hat.ltn
    have hap : ((s.length + ([(b.1, b.2.1, b.2.2.2)] : List T5).length) * 32 ≤ 140737488355328) = True := by simp; omega
    dsimp only
    simp only [hat.lt, hat.nn, hat.wrap, hat.rd, decide_true, if_true, Contains_Lint_eq hk', Option.bind_some, verds, hap]
    cases (b.2.2.1.1 == 1) with
    | false => simp only [Bool.false_eq_true, if_false, Bool.false_and]; exact hrec s (by omega)
    | true =>
      cases k.contains b.2.2.1.2.2.1 with
      | false => simp only [Bool.false_eq_true, if_false, Bool.and_false, if_true]; exact hrec s (by omega)
      | true =>
        simp only [Bool.and_true, if_true]
        refine (hrec (s ++ [(b.1, b.2.1, b.2.2.2)]) (by simp; omega)).trans ?_
        simp
theorem spec_VerdictsOf_eq (l : List T4) (k : List Int) (hl : l.length ≤ 1048576) (hk : k.length ≤ 1048576) : S_spec_VerdictsOf l k = some ((if entriesOk l && keepsOk k then (verds k l, true, ()) else ([], false, ())), ()) := by
  unfold S_spec_VerdictsOf p_spec_VerdictsOf
  simp only [spec_l16Entries_eq l (by rw [maxLen_eq]; omega), spec_l16Keeps_eq k (by rw [maxLen_eq]; omega), spec_l16Verdicts_eq l k hl hk, Option.bind_some]
  cases entriesOk l <;> cases keepsOk k <;> simp
theorem impl_VerdictsOf_eq (l : List T4) (k : List Int) (hl : l.length ≤ 1048576) (hk : k.length ≤ 1048576) : S_impl_VerdictsOf l k = some ((if entriesOk l && keepsOk k then (verds k l, true, ()) else ([], false, ())), ()) := by
  unfold S_impl_VerdictsOf p_impl_VerdictsOf
  simp only [impl_goodParts_eq l k (by rw [maxLen_eq]; omega) (by rw [maxLen_eq]; omega), impl_verdicts_eq l k hl hk, Option.bind_some]
  cases entriesOk l <;> cases keepsOk k <;> simp
theorem wl_ints {l : List Int} (h : l.length ≤ maxLen) : WL.wl l := ⟨h, fun _ _ => trivial⟩
theorem idxI_find {β : Type} (q : β → Bool) : ∀ (l : List β) (i : Int), 0 ≤ i → (l.find? q = none → idxI q l i = -1) ∧ ∀ v, l.find? q = some v → ∃ n : Nat, idxI q l i = i + n ∧ l[n]? = some v
  | [], i, h => by simp [idxI]
  | b :: t, i, h => by
    have ih := idxI_find q t (i + 1) (by omega)
    simp only [idxI, List.find?_cons]
    cases hq : q b with
    | true => simp only [if_true]; exact ⟨by simp, fun v hv => ⟨0, by simp, by simpa using hv⟩⟩
    | false =>
      simp only [Bool.false_eq_true, if_false]
      refine ⟨ih.1, fun v hv => ?_⟩
      obtain ⟨n, h1, h2⟩ := ih.2 v hv
      exact ⟨n + 1, by rw [h1]; push_cast; omega, by simpa using h2⟩
theorem IndexFunc_Verdict_eq {l : List T5} {p : (T5 × Unit) → Option Bool} (q : T5 → Bool) (hl : l.length ≤ maxLen) (hp : ∀ x ∈ l, p (x, ()) = some (q x)) : S_IndexFunc_Limpl_Verdict_impl_Verdict l p = some ((idxI q l 0, ()), ()) :=
  lim_eq (l.length + 1) fun N hN => index_gen _ l hl p q hp hN
theorem impl_NewSums_eq : S_impl_NewSums = some (([100, 100, 100, 100], ()), ()) := by
  unfold S_impl_NewSums p_impl_NewSums
  rfl
def kn (e : T4) (v : T5) : Bool := v.1 == e.1 && v.2.1 == e.2.1
def knT : Option T5 → T3 × Bool × Unit
  | some v => (v.2.2.1, true, ())
  | none => ((0, 0, ()), false, ())
theorem spec_l16Known_eq (e : T4) (V : List T5) (hV : V.length ≤ maxLen) : S_spec_l16Known e V = some (knT (V.find? (kn e)), ()) := by
  unfold S_spec_l16Known
  refine lim_eq (V.length + 1) fun N hN => ?_
  unfold p_spec_l16Known
  refine loopN_over V hV (fun i (s : Unit) => ((V, (V.length : Int), (i : Int), ()), ((e.1, e.2.1, e.2.2.1.1, e.2.2.1.2.1, e.2.2.1.2.2.1, e.2.2.1.2.2.2.1, e.2.2.1.2.2.2.2.1, e.2.2.2.1.1, e.2.2.2.1.2.1, ()), (0, 0, ()), ())))
    (fun i t s => (knT (t.find? (kn e)), ())) (fun i t s => True) () rfl rfl trivial hN (fun rec s h => ?_) (fun rec i b t s hat h hrec => ?_)
  · dsimp only
    simp [knT]
  · dsimp only
    simp only [hat.lt, hat.nn, hat.wrap, hat.rd, decide_true, if_true, List.find?_cons, kn]
    have hr := hrec () trivial
    cases (b.1 == e.1) with
    | false => simpa using hr
    | true =>
      cases (b.2.1 == e.2.1) with
      | false => simpa using hr
      | true => rfl
theorem keepsOk_in {K : List Int} (h : keepsOk K = true) : ∀ k ∈ K, 0 ≤ k ∧ k ≤ 3 := by
  intro k hk
  unfold keepsOk at h
  rw [Bool.and_eq_true, List.all_eq_true] at h
  have := h.1 k hk
  unfold inn at this
  simpa using this
theorem spec_l16Kept_eq (s K : List Int) (hs : s.length = 4) (hK : keepsOk K = true) (hl : K.length ≤ 1048576) : S_spec_l16Kept s K = some ((K.map fun k => rd s k 0, ()), ()) := by
  have hl' : K.length ≤ maxLen := by rw [maxLen_eq]; omega
  have hin := keepsOk_in hK
  unfold S_spec_l16Kept
  refine lim_eq (K.length + 1) fun N hN => ?_
  unfold p_spec_l16Kept
  refine loopN_over K hl' (fun i (o : List Int) => ((s, K, (K.length : Int), (i : Int), ()), ([], o, ()))) (fun i t o => ((o ++ t.map fun k => rd s k 0, ()), ())) (fun i t o => o.length ≤ i)
    [] rfl rfl (by simp) hN (fun rec o h => ?_) (fun rec i b t o hat h hrec => ?_)
  · dsimp only
    simp
  · have hlt := hat.ltn
    have hb := hin b hat.mem
    have hap : ((o.length + ([rd s b 0] : List Int).length) * 8 ≤ 140737488355328) = True := by simp; omega
    have h1 : (b < (s.length : Int)) = True := by rw [hs]; simp; omega
    dsimp only
    simp only [hat.lt, hat.nn, hat.wrap, hat.rd, hb.1, h1, hap, decide_true, if_true]
    refine (hrec (o ++ [rd s b 0]) (by simp; omega)).trans ?_
    simp
def upd (is fr to : Bool) (c : T2) (s : List Int) : List Int :=
  let s1 := if is && fr then s.set c.2.2.1.toNat (IntKind.i64.wrap (rd s c.2.2.1 0 - c.2.2.2.2.1)) else s
  if is && to then s1.set c.2.2.2.1.toNat (IntKind.i64.wrap (rd s1 c.2.2.2.1 0 + c.2.2.2.2.1)) else s1
theorem upd_len (is fr to : Bool) (c : T2) (s : List Int) : (upd is fr to c s).length = s.length := by
  unfold upd
  cases is <;> cases fr <;> cases to <;> simp
def partS (K : List Int) (V : List T5) : List T4 → List Int → Int → List Int × Int
  | [], s, i => (s, i)
  | e :: t, s, i =>
    if e.2.2.1.1 == 1 && (K.contains e.2.2.1.2.2.1 || K.contains e.2.2.1.2.2.2.1) then
      if K.contains e.2.2.1.2.2.1 then partS K V t (upd (decide (rd s e.2.2.1.2.2.1 0 ≥ e.2.2.1.2.2.2.2.1)) true (K.contains e.2.2.1.2.2.2.1) e.2.2.1 s) (i + 1)
      else match V.find? (kn e) with
        | none => (s, i)
        | some v => partS K V t (upd (v.2.2.1.1 == 1) false (K.contains e.2.2.1.2.2.2.1) e.2.2.1 s) (i + 1)
    else partS K V t s (i + 1)
theorem gcmd_move {c : T2} (h : gcmd c = true) (h1 : c.1 = 1) : (0 ≤ c.2.2.1 ∧ c.2.2.1 ≤ 3) ∧ (0 ≤ c.2.2.2.1 ∧ c.2.2.2.1 ≤ 3) := by
  unfold gcmd inn at h
  rw [h1] at h
  simp at h
  exact ⟨h.2.1, h.2.2.1⟩
theorem spec_l16Part_eq (l : List T4) (K : List Int) (V : List T5) (hl : l.length ≤ 1048576) (hg : ∀ e ∈ l, gcmd e.2.2.1 = true) (hK : keepsOk K = true) (hk : K.length ≤ 1048576) (hV : V.length ≤ maxLen) :
    S_spec_l16Part l K V = some ((K.map (fun k => rd (partS K V l [100, 100, 100, 100] 0).1 k 0), (partS K V l [100, 100, 100, 100] 0).2, ()), ()) := by
  have hl' : l.length ≤ maxLen := by rw [maxLen_eq]; omega
  have hk' : K.length ≤ maxLen := by rw [maxLen_eq]; omega
  unfold S_spec_l16Part
  refine lim_eq (l.length + 5) fun N hN => ?_
  unfold p_spec_l16Part
  have hmid : ∀ (v : (List Int × Int × Unit) × Unit) (X : List Int → Option ((List Int × Int × Unit) × Unit)), X [100, 100, 100, 100] = some v → True := fun _ _ _ => trivial
  refine loopN_upto 4 (fun i (s : List Int) => ((l, K, V, (4 : Int), (i : Int), ()), ([], s, ()))) (fun i s => ((K.map (fun k => rd (partS K V l [100, 100, 100, 100] 0).1 k 0), (partS K V l [100, 100, 100, 100] 0).2, ()), ())) (fun i s => s = List.replicate i 100 ++ List.replicate (4 - i) 0)
    [0, 0, 0, 0] rfl rfl rfl (by omega) (fun rec i s hi hs hrec => ?_)
  dsimp only
  rcases Nat.lt_or_ge i 4 with h4 | h4
  · have h1 : ((i : Int) < 4) = True := by simp; omega
    have h2 : (0 ≤ (i : Int)) = True := by simp
    have h3 : ((i : Int) < (s.length : Int)) = True := by rw [hs]; simp; omega
    have hw : IntKind.i64.wrap ((i : Int) + 1) = ((i + 1 : Nat) : Int) := by rw [wrap_small (by omega) (by omega)]; rfl
    simp only [h1, h2, h3, hw, decide_true, if_true, Int.toNat_natCast]
    refine hrec h4 _ ?_
    rw [hs]
    have : i = 0 ∨ i = 1 ∨ i = 2 ∨ i = 3 := by omega
    rcases this with rfl | rfl | rfl | rfl <;> rfl
  · obtain rfl : i = 4 := by omega
    have hs : s = [100, 100, 100, 100] := hs
    subst hs
    have h1 : (((4 : Nat) : Int) < 4) = False := by simp
    simp only [h1, decide_false, Bool.false_eq_true, if_false]
    refine loopN_over l hl' (fun i (s : List Int) => ((l, K, V, l, (l.length : Int), (i : Int), ()), ([], s, ()))) (fun i t s => ((K.map (fun k => rd (partS K V t s i).1 k 0), (partS K V t s i).2, ()), ())) (fun i t s => s.length = 4)
      [100, 100, 100, 100] rfl rfl rfl (by omega) (fun rec s h => ?_) (fun rec i b t s hat h hrec => ?_)
    · dsimp only
      simp only [lenInt_lt_irrefl, decide_false, Bool.false_eq_true, if_false, spec_l16Kept_eq s K h hK hk, Option.bind_some, partS]
    · have hgb := hg b hat.mem
      dsimp only
      simp only [hat.lt, hat.nn, hat.wrap, hat.rd, decide_true, if_true, spec_l1Has_eq K _ hk', spec_l16Known_eq _ V hV, Option.bind_some, spec_l16Kept_eq s K h hK hk]
      have hrec2 : ∀ s', s'.length = 4 → rec ((l, K, V, l, (l.length : Int), ((i + 1 : Nat) : Int), ()), ([], s', ())) = some ((K.map (fun k => rd (partS K V t s' ((i : Int) + 1)).1 k 0), (partS K V t s' ((i : Int) + 1)).2, ()), ()) := fun s' h' => hrec s' h'
      clear hat hrec hmid
      generalize hfind : V.find? (kn b) = o
      generalize hi : ((i : Int) + 1) = i1 at hrec2 ⊢
      by_cases hkd : b.2.2.1.1 = 1
      · obtain ⟨hf, ht⟩ := gcmd_move hgb hkd
        have f1 : (0 ≤ b.2.2.1.2.2.1) = True := by simp; exact hf.1
        have f2 : (b.2.2.1.2.2.1 < (s.length : Int)) = True := by rw [h]; simp; omega
        have t1 : (0 ≤ b.2.2.1.2.2.2.1) = True := by simp; exact ht.1
        have t2 : (b.2.2.1.2.2.2.1 < (s.length : Int)) = True := by rw [h]; simp; omega
        simp only [hkd, f1, f2, t1, t2, List.length_set, decide_true, if_true, bne_self_eq_false, Bool.false_eq_true, if_false, partS, beq_self_eq_true, Bool.true_and, hfind, hi]
        clear hf ht hgb hkd hfind hi f1 f2 t1 t2
        generalize K.contains b.2.2.1.2.2.1 = F
        generalize K.contains b.2.2.1.2.2.2.1 = T
        have fin : ∀ is fr, rec ((l, K, V, l, (l.length : Int), ((i + 1 : Nat) : Int), ()), ([], upd is fr T b.2.2.1 s, ())) = some ((K.map (fun k => rd (partS K V t (upd is fr T b.2.2.1 s) i1).1 k 0), (partS K V t (upd is fr T b.2.2.1 s) i1).2, ()), ()) := fun is fr => hrec2 _ (by rw [upd_len]; exact h)
        cases F with
        | true =>
          generalize decide (rd s b.2.2.1.2.2.1 0 ≥ b.2.2.1.2.2.2.2.1) = D
          have fin := fin D true
          simp only [upd] at fin ⊢
          cases D <;> cases T <;> simpa using fin
        | false =>
          cases T with
          | false => simpa using hrec2 s h
          | true =>
            cases o with
            | none => simp [knT]
            | some v =>
              have fin := fin (v.2.2.1.1 == 1) false
              simp only [upd, knT] at fin ⊢
              generalize (v.2.2.1.1 == (1 : Int)) = D at fin ⊢
              cases D <;> simpa using fin
      · have hne : (b.2.2.1.1 != (1 : Int)) = true := by simpa using hkd
        have hne2 : (b.2.2.1.1 == (1 : Int)) = false := by simpa using hkd
        simp only [hne, hne2, if_true, partS, Bool.false_and, Bool.false_eq_true, if_false, hi]
        exact hrec2 s h
theorem impl_part_eq (l : List T4) (K : List Int) (V : List T5) (hl : l.length ≤ 1048576) (hg : ∀ e ∈ l, gcmd e.2.2.1 = true) (hK : keepsOk K = true) (hk : K.length ≤ 1048576) (hV : V.length ≤ maxLen) :
    S_impl_part l K V = some ((K.map (fun k => rd (partS K V l [100, 100, 100, 100] 0).1 k 0), (partS K V l [100, 100, 100, 100] 0).2, ()), ()) := by
  have hl' : l.length ≤ maxLen := by rw [maxLen_eq]; omega
  have hk' : K.length ≤ maxLen := by rw [maxLen_eq]; omega
  have hin := keepsOk_in hK
  unfold S_impl_part
  refine lim_eq (l.length + K.length + 5) fun N hN => ?_
  unfold p_impl_part
  rw [impl_NewSums_eq]
  simp only [Option.bind_some]
  refine loopN_over l hl' (fun i (s : List Int) => ((K, V, (l.length : Int), l, (l.length : Int), (i : Int), ()), ([], s, ()))) (fun i t s => ((K.map (fun k => rd (partS K V t s i).1 k 0), (partS K V t s i).2, ()), ())) (fun i t s => s.length = 4)
    [100, 100, 100, 100] rfl rfl rfl (by omega) (fun rec s h => ?_) (fun rec i b t s hat h hrec => ?_)
  · dsimp only
    simp only [lenInt_lt_irrefl, decide_false, Bool.false_eq_true, if_false, partS]
    refine loopN_over K hk' (fun i (o : List Int) => (((l.length : Int), K, (K.length : Int), (i : Int), ()), ([], s, o, ()))) (fun i t o => ((o ++ t.map fun k => rd s k 0, (l.length : Int), ()), ())) (fun i t o => o.length ≤ i)
      [] rfl (by simp) (by simp) (by omega) (fun rec o h => ?_) (fun rec i b t o hat h2 hrec => ?_)
    · dsimp only
      simp
    · have hlt := hat.ltn
      have hb := hin b hat.mem
      have hap : ((o.length + ([rd s b 0] : List Int).length) * 8 ≤ 140737488355328) = True := by simp; omega
      have h1 : (b < (s.length : Int)) = True := by rw [h]; simp; omega
      dsimp only
      simp only [hat.lt, hat.nn, hat.wrap, hat.rd, hb.1, h1, hap, decide_true, if_true]
      refine (hrec (o ++ [rd s b 0]) (by simp; omega)).trans ?_
      simp
  · have hgb := hg b hat.mem
    have hidx := idxI_find (kn b) V 0 (Int.le_refl 0)
    have hix : ∀ p : (T5 × Unit) → Option Bool, (∀ x, p (x, ()) = some (kn b x)) → S_IndexFunc_Limpl_Verdict_impl_Verdict V p = some ((idxI (kn b) V 0, ()), ()) := fun p hp => IndexFunc_Verdict_eq (kn b) hV fun x _ => hp x
    dsimp only
    simp only [hat.lt, hat.nn, hat.wrap, hat.rd, decide_true, if_true, Contains_Lint_eq hk', Option.bind_some]
    have hrec2 : ∀ s', s'.length = 4 → rec ((K, V, (l.length : Int), l, (l.length : Int), ((i + 1 : Nat) : Int), ()), ([], s', ())) = some ((K.map (fun k => rd (partS K V t s' ((i : Int) + 1)).1 k 0), (partS K V t s' ((i : Int) + 1)).2, ()), ()) := fun s' h' => hrec s' h'
    clear hrec
    by_cases hkd : b.2.2.1.1 = 1
    · obtain ⟨hf, ht⟩ := gcmd_move hgb hkd
      have f1 : (0 ≤ b.2.2.1.2.2.1) = True := by simp; exact hf.1
      have f2 : (b.2.2.1.2.2.1 < (s.length : Int)) = True := by rw [h]; simp; omega
      have t1 : (0 ≤ b.2.2.1.2.2.2.1) = True := by simp; exact ht.1
      have t2 : (b.2.2.1.2.2.2.1 < (s.length : Int)) = True := by rw [h]; simp; omega
      simp only [hkd, f1, f2, t1, t2, List.length_set, decide_true, if_true, bne_self_eq_false, Bool.false_eq_true, if_false, partS, beq_self_eq_true, Bool.true_and]
      generalize K.contains b.2.2.1.2.2.1 = F
      generalize K.contains b.2.2.1.2.2.2.1 = T
      have fin : ∀ is fr, rec ((K, V, (l.length : Int), l, (l.length : Int), ((i + 1 : Nat) : Int), ()), ([], upd is fr T b.2.2.1 s, ())) = some ((K.map (fun k => rd (partS K V t (upd is fr T b.2.2.1 s) ((i : Int) + 1)).1 k 0), (partS K V t (upd is fr T b.2.2.1 s) ((i : Int) + 1)).2, ()), ()) := fun is fr => hrec2 _ (by rw [upd_len]; exact h)
      cases F with
      | true =>
        generalize decide (rd s b.2.2.1.2.2.1 0 ≥ b.2.2.1.2.2.2.2.1) = D
        have fin := fin D true
        simp only [upd] at fin ⊢
        cases D <;> cases T <;> simpa using fin
      | false =>
        cases T with
        | false => simpa using hrec2 s h
        | true =>
          simp only [Bool.not_false, Bool.false_eq_true, if_false, if_true, Bool.false_or]
          rw [hix _ (fun x => by unfold kn; cases (x.1 == b.1) <;> rfl), Option.bind_some]
          dsimp only
          cases hfind : V.find? (kn b) with
          | none =>
            rw [hidx.1 hfind]
            simp only [show (((-1 : Int) < 0) = True) by simp, decide_true, if_true]
            refine loopN_over K hk' (fun j (o : List Int) => (((i : Int), K, (K.length : Int), (j : Int), ()), ([], s, (b.1, b.2.1, b.2.2.1.1, b.2.2.1.2.1, b.2.2.1.2.2.1, b.2.2.1.2.2.2.1, b.2.2.1.2.2.2.2.1, b.2.2.2.1.1, b.2.2.2.1.2.1, ()), o, ()))) (fun j t o => ((o ++ t.map fun k => rd s k 0, (i : Int), ()), ())) (fun j t o => o.length ≤ j)
              [] (by rw [hkd]; rfl) (by simp) (by simp) (by omega) (fun rec o h => ?_) (fun rec j c t o hat2 h2 hrec3 => ?_)
            · dsimp only
              simp
            · have hlt := hat2.ltn
              have hb := hin c hat2.mem
              have hap : ((o.length + ([rd s c 0] : List Int).length) * 8 ≤ 140737488355328) = True := by simp; omega
              have h1 : (c < (s.length : Int)) = True := by rw [h]; simp; omega
              dsimp only
              simp only [hat2.lt, hat2.nn, hat2.wrap, hat2.rd, hb.1, h1, hap, decide_true, if_true]
              refine (hrec3 (o ++ [rd s c 0]) (by simp; omega)).trans ?_
              simp
          | some v =>
            obtain ⟨n, hn, hv⟩ := hidx.2 v hfind
            have hnl := (List.getElem?_eq_some_iff.1 hv).1
            have hrv : ∀ d, rd V (n : Int) d = v := fun d => by rw [rd_nat, List.getD_eq_getElem?_getD, hv]; rfl
            rw [hn, Int.zero_add]
            have fin := fin (v.2.2.1.1 == 1) false
            simp only [show (((n : Int) < 0) = False) by simp, show ((0 ≤ (n : Int)) = True) by simp, show (((n : Int) < (V.length : Int)) = True) by simp; omega, decide_true, decide_false, if_true, if_false, hrv, Bool.false_eq_true]
            simp only [upd] at fin ⊢
            generalize (v.2.2.1.1 == (1 : Int)) = D at fin ⊢
            cases D <;> simpa using fin
    · have hne : (b.2.2.1.1 != (1 : Int)) = true := by simpa using hkd
      have hne2 : (b.2.2.1.1 == (1 : Int)) = false := by simpa using hkd
      simp only [hne, hne2, if_true, partS, Bool.false_and, Bool.false_eq_true, if_false]
      exact hrec2 s h
theorem entriesOk_all {l : List T4} (h : entriesOk l = true) : (∀ e ∈ l, gcmd e.2.2.1 = true) ∧ l.length ≤ 60 := by
  unfold entriesOk at h
  rw [Bool.and_eq_true, Bool.and_eq_true, List.all_eq_true] at h
  refine ⟨fun e he => h.2.1 e he, ?_⟩
  have := of_decide_eq_true h.2.2
  omega
def partRes (l : List T4) (K : List Int) (V : List T5) : List Int × Int × Bool × Unit :=
  (K.map (fun k => rd (partS K V l [100, 100, 100, 100] 0).1 k 0), (partS K V l [100, 100, 100, 100] 0).2, true, ())
theorem impl_PartBook_eq (l : List T4) (K : List Int) (V : List T5) (hl : l.length ≤ 1048576) (hk : K.length ≤ 1048576) (hV : V.length ≤ maxLen) : S_impl_PartBook l K V = some ((if entriesOk l && keepsOk K then partRes l K V else ([], 0, false, ())), ()) := by
  unfold S_impl_PartBook p_impl_PartBook
  rw [impl_goodParts_eq l K (by rw [maxLen_eq]; omega) (by rw [maxLen_eq]; omega), Option.bind_some]
  dsimp only
  cases he : entriesOk l with
  | false => simp
  | true =>
    cases hK : keepsOk K with
    | false => simp
    | true =>
      rw [impl_part_eq l K V hl (entriesOk_all he).1 hK hk hV]
      rfl
theorem spec_PartBook_eq (l : List T4) (K : List Int) (V : List T5) (hl : l.length ≤ 1048576) (hk : K.length ≤ 1048576) (hV : V.length ≤ maxLen) : S_spec_PartBook l K V = some ((if entriesOk l && keepsOk K then partRes l K V else ([], 0, false, ())), ()) := by
  unfold S_spec_PartBook p_spec_PartBook
  rw [spec_l16Entries_eq l (by rw [maxLen_eq]; omega), Option.bind_some, spec_l16Keeps_eq K (by rw [maxLen_eq]; omega), Option.bind_some]
  dsimp only
  cases he : entriesOk l with
  | false => simp
  | true =>
    cases hK : keepsOk K with
    | false => simp
    | true =>
      rw [spec_l16Part_eq l K V hl (entriesOk_all he).1 hK hk hV]
      rfl
def knownAll (l : List T4) (P : List (List Int)) : List T5 := P.flatMap fun k => verds k l
theorem knownAll_len (l : List T4) : ∀ P : List (List Int), (knownAll l P).length ≤ P.length * l.length
  | [] => by simp [knownAll]
  | k :: t => by
    have h1 := knownAll_len l t
    have h2 := verds_len k l
    simp only [knownAll, List.flatMap_cons, List.length_append, List.length_cons] at h1 ⊢
    rw [Nat.succ_mul]
    omega
def fullRes (P : List (List Int)) (l : List T4) (k : List Int) : List Int × Bool × Unit :=
  if (partS k (knownAll l P) l [100, 100, 100, 100] 0).2 < (l.length : Int) then ([], false, ())
  else (k.map (fun a => rd (partS k (knownAll l P) l [100, 100, 100, 100] 0).1 a 0), true, ())
theorem placesOk_at {n : Int} {P : List (List Int)} (h : placesOk n P = true) : (P.length : Int) = n ∧ P.length ≤ 5 ∧ ∀ k ∈ P, keepsOk k = true := by
  unfold placesOk at h
  simp only [Bool.and_eq_true, List.all_eq_true, beq_iff_eq] at h
  obtain ⟨⟨⟨hg, hn⟩, hk⟩, _⟩ := h
  refine ⟨hn, ?_, hk⟩
  rw [grp_iff] at hg
  omega
/-- the loop that gathers what is known, and what comes behind it -/
theorem gather_loop {ρ : Type} {N : Nat} {body : (((List (List Int) × List T4 × Int × List (List Int) × Int × Int × Unit) × (List Int × List T5 × Unit)) → Option ρ) → ((List (List Int) × List T4 × Int × List (List Int) × Int × Int × Unit) × (List Int × List T5 × Unit)) → Option ρ}
    {P : List (List Int)} {l : List T4} {r : Int} {v : ρ} (hP : P.length ≤ 5) (hl : l.length ≤ 60) (hN : P.length < N)
    (hend : ∀ rec, body rec ((P, l, r, P, (P.length : Int), (P.length : Int), ()), ([], knownAll l P, ())) = some v)
    (hstep : ∀ rec (i : Nat) (k : List Int) (t : List (List Int)) (s : List T5), At P i k t → s.length ≤ i * l.length → rec ((P, l, r, P, (P.length : Int), ((i + 1 : Nat) : Int), ()), ([], s ++ verds k l, ())) = some v → body rec ((P, l, r, P, (P.length : Int), (i : Int), ()), ([], s, ())) = some v) :
    loopN N body ((P, l, r, P, (P.length : Int), (0 : Int), ()), ([], [], ())) = some v := by
  have hP' : P.length ≤ maxLen := by rw [maxLen_eq]; omega
  refine loopN_over P hP' (fun i (s : List T5) => ((P, l, r, P, (P.length : Int), (i : Int), ()), ([], s, ()))) (fun i t s => v) (fun i t s => s ++ knownAll l t = knownAll l P ∧ s.length ≤ i * l.length)
    [] rfl rfl (by simp) hN (fun rec s h => ?_) (fun rec i b t s hat h hrec => ?_)
  · have : s = knownAll l P := by simpa [knownAll] using h.1
    rw [this]
    exact hend rec
  · refine hstep rec i b t s hat h.2 (hrec (s ++ verds b l) ⟨?_, ?_⟩)
    · rw [← h.1]
      simp [knownAll]
    · have := verds_len b l
      rw [List.length_append, Nat.succ_mul]
      omega
theorem impl_FullPart_eq (n : Int) (P : List (List Int)) (l : List T4) (r : Int) (hP : WL.wl P) (hPl : ∀ k ∈ P, k.length ≤ 1048576) (hl : l.length ≤ 1048576) :
    S_impl_FullPart n P l r = some ((if placesOk n P && (entriesOk l && inn r 0 (n - 1)) then fullRes P l (rd P r []) else ([], false, ())), ()) := by
  have hl' : l.length ≤ maxLen := by rw [maxLen_eq]; omega
  unfold S_impl_FullPart
  refine lim_eq 6 fun N hN => ?_
  unfold p_impl_FullPart
  rw [impl_GoodPlaces_eq n P hP, Option.bind_some]
  dsimp only
  cases hp : placesOk n P with
  | false => simp
  | true =>
    obtain ⟨hn, hP5, hk⟩ := placesOk_at hp
    have hw : IntKind.i64.wrap (n - 1) = n - 1 := wrap_small (by omega) (by omega)
    rw [hw, impl_within_eq, Option.bind_some]
    dsimp only
    simp only [Bool.not_true, Bool.false_eq_true, if_false, Bool.true_and]
    cases hr : inn r 0 (n - 1) with
    | false => simp
    | true =>
      have hr' : 0 ≤ r ∧ r < (P.length : Int) := by
        unfold inn at hr
        simp at hr
        omega
      have hmem : rd P r [] ∈ P := List.mem_of_getElem? (rd_get hr'.1 hr'.2)
      have hkr := hk _ hmem
      have hklr := hPl _ hmem
      simp only [hr'.1, hr'.2, decide_true, if_true, Bool.not_true, Bool.false_eq_true, if_false, Bool.and_true]
      rw [impl_goodParts_eq l _ hl' (by rw [maxLen_eq]; omega), Option.bind_some, hkr, Bool.and_true]
      dsimp only
      cases he : entriesOk l with
      | false => simp
      | true =>
        obtain ⟨hg, h60⟩ := entriesOk_all he
        simp only [Bool.not_true, Bool.false_eq_true, if_false, if_true]
        refine gather_loop hP5 h60 (by omega) (fun rec => ?_) (fun rec i k t s hat hs hrec => ?_)
        · have hkn := knownAll_len l P
          have hmul : P.length * l.length ≤ 5 * 60 := Nat.mul_le_mul hP5 h60
          dsimp only
          simp only [lenInt_lt_irrefl, decide_false, Bool.false_eq_true, if_false, hr'.1, hr'.2, decide_true, if_true]
          rw [impl_part_eq l _ _ hl hg hkr hklr (by rw [maxLen_eq]; omega), Option.bind_some]
          unfold fullRes
          dsimp only
          by_cases hd : (partS (rd P r []) (knownAll l P) l [100, 100, 100, 100] 0).2 < (l.length : Int) <;> simp [hd]
        · have hlt := hat.ltn
          have hvl := verds_len k l
          have hmul : i * l.length ≤ 5 * 60 := Nat.mul_le_mul (by omega) h60
          have hap : ((s.length + (verds k l).length) * 32 ≤ 140737488355328) = True := by simp; omega
          dsimp only
          simp only [hat.lt, hat.nn, hat.wrap, hat.rd, decide_true, if_true, impl_verdicts_eq l k hl (hPl k hat.mem), Option.bind_some, hap]
          exact hrec
theorem spec_FullPart_eq (n : Int) (P : List (List Int)) (l : List T4) (r : Int) (hP : WL.wl P) (hPl : ∀ k ∈ P, k.length ≤ 1048576) (hl : l.length ≤ 1048576) :
    S_spec_FullPart n P l r = some ((if placesOk n P && (entriesOk l && inn r 0 (n - 1)) then fullRes P l (rd P r []) else ([], false, ())), ()) := by
  have hl' : l.length ≤ maxLen := by rw [maxLen_eq]; omega
  unfold S_spec_FullPart
  refine lim_eq 6 fun N hN => ?_
  unfold p_spec_FullPart
  rw [spec_GoodPlaces_eq n P hP, Option.bind_some]
  dsimp only
  cases hp : placesOk n P with
  | false => simp
  | true =>
    obtain ⟨hn, hP5, hk⟩ := placesOk_at hp
    have hw : IntKind.i64.wrap (n - 1) = n - 1 := wrap_small (by omega) (by omega)
    rw [spec_l16Entries_eq l hl', Option.bind_some]
    dsimp only
    cases he : entriesOk l with
    | false => simp
    | true =>
      obtain ⟨hg, h60⟩ := entriesOk_all he
      rw [hw, spec_l1In_eq, Option.bind_some]
      dsimp only
      simp only [Bool.not_true, Bool.false_eq_true, if_false, Bool.true_and]
      cases hr : inn r 0 (n - 1) with
      | false => simp
      | true =>
        have hr' : 0 ≤ r ∧ r < (P.length : Int) := by
          unfold inn at hr
          simp at hr
          omega
        have hmem : rd P r [] ∈ P := List.mem_of_getElem? (rd_get hr'.1 hr'.2)
        have hkr := hk _ hmem
        have hklr := hPl _ hmem
        simp only [Bool.not_true, Bool.false_eq_true, if_false, if_true]
        refine gather_loop hP5 h60 (by omega) (fun rec => ?_) (fun rec i k t s hat hs hrec => ?_)
        · have hkn := knownAll_len l P
          have hmul : P.length * l.length ≤ 5 * 60 := Nat.mul_le_mul hP5 h60
          dsimp only
          simp only [lenInt_lt_irrefl, decide_false, Bool.false_eq_true, if_false, hr'.1, hr'.2, decide_true, if_true]
          rw [spec_l16Part_eq l _ _ hl hg hkr hklr (by rw [maxLen_eq]; omega), Option.bind_some]
          unfold fullRes
          dsimp only
          by_cases hd : (partS (rd P r []) (knownAll l P) l [100, 100, 100, 100] 0).2 < (l.length : Int) <;> simp [hd]
        · have hlt := hat.ltn
          have hvl := verds_len k l
          have hmul : i * l.length ≤ 5 * 60 := Nat.mul_le_mul (by omega) h60
          have hap : ((s.length + (verds k l).length) * 32 ≤ 140737488355328) = True := by simp; omega
          dsimp only
          simp only [hat.lt, hat.nn, hat.wrap, hat.rd, decide_true, if_true, spec_l16Verdicts_eq l k hl (hPl k hat.mem), Option.bind_some, hap]
          exact hrec
inductive Rch (E : Nat → Nat → Prop) : Nat → Nat → Prop where
  | one {a b : Nat} (h : E a b) : Rch E a b
  | more {a b c : Nat} (h : Rch E a b) (k : E b c) : Rch E a c
theorem Rch.trans {E : Nat → Nat → Prop} {a b c : Nat} (h : Rch E a b) (k : Rch E b c) : Rch E a c := by
  induction k with
  | one k => exact .more h k
  | more _ k ih => exact .more ih k
/-- a way whose inner points are below k -/
def Pth (E : Nat → Nat → Prop) : Nat → Nat → Nat → Prop
  | 0, i, j => E i j
  | k + 1, i, j => Pth E k i j ∨ (Pth E k i k ∧ Pth E k k j)
theorem Pth.of {E : Nat → Nat → Prop} {i j : Nat} (h : E i j) : ∀ k, Pth E k i j
  | 0 => h
  | k + 1 => .inl (Pth.of h k)
theorem Pth.trans {E : Nat → Nat → Prop} : ∀ {k m i j : Nat}, m < k → Pth E k i m → Pth E k m j → Pth E k i j
  | 0, m, _, _, h, _, _ => by omega
  | k + 1, m, i, j, h, h1, h2 => by
    rcases Nat.lt_or_ge m k with hm | hm
    · rcases h1 with h1 | ⟨h1, h1'⟩ <;> rcases h2 with h2 | ⟨h2, h2'⟩
      · exact .inl (Pth.trans hm h1 h2)
      · exact .inr ⟨Pth.trans hm h1 h2, h2'⟩
      · exact .inr ⟨h1, Pth.trans hm h1' h2⟩
      · exact .inr ⟨h1, h2'⟩
    · obtain rfl : m = k := by omega
      have a1 : Pth E m i m := by rcases h1 with h1 | h1; exact h1; exact h1.1
      have a2 : Pth E m m j := by rcases h2 with h2 | h2; exact h2; exact h2.2
      exact .inr ⟨a1, a2⟩
def PE (l : List (List Int)) (a b : Nat) : Prop := [(a : Int), (b : Int)] ∈ l
noncomputable def cyc (l : List (List Int)) : Bool := open Classical in decide (∃ i, Rch (PE l) i i)
def okP (n : Int) (p : List Int) : Bool := (p.length == 2) && (p.all fun x => inn x 0 (n - 1))
theorem okP_some {n : Nat} {p : List Int} (h : okP n p = true) : ∃ a b : Nat, p = [(a : Int), (b : Int)] ∧ a < n ∧ b < n := by
  unfold okP at h
  rw [Bool.and_eq_true] at h
  match p, h with
  | [x, y], h =>
    simp only [List.all_cons, List.all_nil, Bool.and_true, Bool.and_eq_true, inn_iff] at h
    exact ⟨x.toNat, y.toNat, by rw [Int.toNat_of_nonneg h.2.1.1, Int.toNat_of_nonneg h.2.2.1], by omega, by omega⟩
theorem PE.lt {l : List (List Int)} {n : Nat} (h : ∀ p ∈ l, okP n p = true) (a b : Nat) (hab : PE l a b) : a < n ∧ b < n := by
  obtain ⟨x, y, he, h1, h2⟩ := okP_some (h _ hab)
  simp only [List.cons.injEq, and_true] at he
  omega
theorem getD_set_eq {β : Type} {l : List β} {i : Nat} {v d : β} (h : i < l.length) : (l.set i v).getD i d = v := by simp [List.getD, h]
theorem getD_set_ne {β : Type} {l : List β} {i j : Nat} {v d : β} (h : i ≠ j) : (l.set i v).getD j d = l.getD j d := by simp [List.getD, List.getElem?_set_ne h]
def mg (m : List (List Bool)) (a b : Nat) : Bool := (m.getD a []).getD b false
def Shp (n : Nat) (m : List (List Bool)) : Prop := m.length = n ∧ ∀ a, a < n → (m.getD a []).length = n
def stm (m : List (List Bool)) (i j : Nat) (v : Bool) : List (List Bool) := m.set i ((m.getD i []).set j v)
theorem Shp.stm {n : Nat} {m : List (List Bool)} (h : Shp n m) {i j : Nat} {v : Bool} (hi : i < n) : Shp n (stm m i j v) := by
  refine ⟨by simp [P.stm, h.1], fun a ha => ?_⟩
  unfold P.stm
  by_cases e : i = a
  · subst e
    rw [getD_set_eq (by rw [h.1]; exact hi), List.length_set]
    exact h.2 i hi
  · rw [getD_set_ne e]
    exact h.2 a ha
theorem mg_stm {n : Nat} {m : List (List Bool)} (h : Shp n m) {i j : Nat} {v : Bool} (hi : i < n) (hj : j < n) (a b : Nat) : mg (stm m i j v) a b = if a = i ∧ b = j then v else mg m a b := by
  unfold mg stm
  by_cases e : i = a
  · subst e
    rw [getD_set_eq (by rw [h.1]; exact hi)]
    by_cases e' : j = b
    · subst e'
      rw [getD_set_eq (by rw [h.2 i hi]; exact hj)]
      simp
    · rw [getD_set_ne e', if_neg (fun hh => e' hh.2.symm)]
  · rw [getD_set_ne e, if_neg (fun hh => e hh.1.symm)]
structure WI (E : Nat → Nat → Prop) (n k i j : Nat) (m : List (List Bool)) : Prop where
  shp : Shp n m
  snd : ∀ a b, mg m a b = true → Rch E a b
  all : ∀ a b, Pth E k a b → mg m a b = true
  now : ∀ a b, a < n → b < n → (a < i ∨ (a = i ∧ b < j)) → Pth E (k + 1) a b → mg m a b = true
theorem WI.step {E : Nat → Nat → Prop} {n k i j : Nat} {m : List (List Bool)} (h : WI E n k i j m) (hi : i < n) (hj : j < n) {v : Bool} (hv : v = (mg m i j || (mg m i k && mg m k j))) : WI E n k i (j + 1) (stm m i j v) := by
  have hup : ∀ a b, mg m a b = true → mg (stm m i j v) a b = true := by
    intro a b hab
    rw [mg_stm h.shp hi hj]
    split
    · rename_i e
      rw [e.1, e.2] at hab
      rw [hv, hab, Bool.true_or]
    · exact hab
  refine ⟨h.shp.stm hi, fun a b hab => ?_, fun a b hab => hup a b (h.all a b hab), fun a b ha hb hlt hp => ?_⟩
  · rw [mg_stm h.shp hi hj] at hab
    split at hab
    · rename_i e
      obtain ⟨rfl, rfl⟩ := e
      rw [hv, Bool.or_eq_true, Bool.and_eq_true] at hab
      rcases hab with hab | ⟨h1, h2⟩
      · exact h.snd _ _ hab
      · exact (h.snd _ _ h1).trans (h.snd _ _ h2)
    · exact h.snd _ _ hab
  · by_cases e : a = i ∧ b = j
    · rw [mg_stm h.shp hi hj, if_pos e]
      obtain ⟨rfl, rfl⟩ := e
      rw [hv]
      rcases hp with hp | ⟨h1, h2⟩
      · rw [h.all _ _ hp, Bool.true_or]
      · rw [h.all _ _ h1, h.all _ _ h2]; simp
    · refine hup a b (h.now a b ha hb ?_ hp)
      rcases hlt with hlt | ⟨h1, h2⟩
      · exact .inl hlt
      · right; refine ⟨h1, ?_⟩
        have : b ≠ j := fun e' => e ⟨h1, e'⟩
        omega
noncomputable def hr (l : List (List Int)) (n : Int) : Bool × Bool × Unit := if (decide (l.length ≤ 2000) && inn n 0 60) && l.all (okP n) then (cyc l, true, ()) else (false, false, ())
abbrev rlist (r : T7) : List Int := r.2.2.2.2.1.2.1
structure GoodR (R : List (List T7)) : Prop where
  n : R.length = 3 ∨ R.length = 5
  six : ∀ x ∈ R, x.length ≤ 6
  len : ∀ x ∈ R, ∀ r ∈ x, (rlist r).length = R.length
  val : ∀ x ∈ R, ∀ r ∈ x, ∀ b ∈ rlist r, 0 ≤ b ∧ b ≤ 6
theorem GoodR.grp {R : List (List T7)} (h : GoodR R) : grp (R.length : Int) = true := by rw [grp_iff]; have := h.n; omega
theorem GoodR.max {R : List (List T7)} (h : GoodR R) : R.length ≤ maxLen := by rw [maxLen_eq]; have := h.n; omega
theorem own_eq {l : List Int} (h : l.length ≤ 5) : S_spec_l1Own l = some ((l, ()), ()) := by
  unfold S_spec_l1Own p_spec_l1Own
  have : ((([] : List Int).length + l.length) * 8 ≤ 140737488355328) = True := by simp; omega
  simp only [this, decide_true, if_true, List.nil_append]
theorem idxI_lt {β : Type} (q : β → Bool) : ∀ (l : List β) (i : Int), 0 ≤ i → idxI q l i ≥ 0 → idxI q l i < i + (l.length : Int)
  | [], i, h, h' => by simp [idxI] at h'
  | b :: t, i, h, h' => by
    unfold idxI at h' ⊢
    cases hb : q b with
    | true => simp; omega
    | false =>
      rw [hb] at h'
      simp only [Bool.false_eq_true, if_false] at h' ⊢
      have := idxI_lt q t (i + 1) (by omega) h'
      simp only [List.length_cons]
      omega
structure GoodW (n a : Int) (S : List (List Int)) (G : List Int) : Prop where
  grp : grp n = true
  who : 0 ≤ a ∧ a < n
  wl : WL.wl S
  len : G.length = S.length
  val : ∀ b ∈ G, 0 ≤ b ∧ b ≤ 20
theorem GoodW.at {n a : Int} {S : List (List Int)} {G : List Int} (h : GoodW n a S G) {q : List Int → Bool} (hk : idxI q S 0 ≥ 0) : idxI q S 0 < (G.length : Int) ∧ 0 ≤ rd G (idxI q S 0) 0 ∧ rd G (idxI q S 0) 0 ≤ 20 := by
  have h1 := idxI_lt q S 0 (by omega) hk
  have h2 : idxI q S 0 < (G.length : Int) := by rw [h.len]; omega
  have h3 := h.val _ (List.mem_of_getElem? (rd_get (d := 0) hk h2))
  exact ⟨h2, h3⟩
/-- a cursor with room for k draws more -/
structure Cur (c : T14) (k : Nat) : Prop where
  bytes : ∀ b ∈ c.1, 0 ≤ b ∧ b ≤ 255
  len : c.1.length ≤ maxLen
  nn : 0 ≤ c.2.1
  room : c.2.1 + (k : Int) ≤ 4611686018427387904
theorem Cur.less {c : T14} {k m : Nat} (h : Cur c k) (hm : m ≤ k) : Cur c m := ⟨h.bytes, h.len, h.nn, by have := h.room; omega⟩
theorem and255 (x : Int) : 0 ≤ IntKind.i64.wrap (bits .and .u64 x 255) ∧ IntKind.i64.wrap (bits .and .u64 x 255) ≤ 255 := by
  have h : ∃ n : Nat, n ≤ 255 ∧ bits .and .u64 x 255 = (n : Int) := by
    refine ⟨(BitVec.ofInt 64 x &&& BitVec.ofInt 64 255).toNat, ?_, ?_⟩
    · rw [BitVec.toNat_and]
      exact Nat.le_trans Nat.and_le_right (by decide)
    · have hle : (BitVec.ofInt 64 x &&& BitVec.ofInt 64 255).toNat ≤ 255 := by
        rw [BitVec.toNat_and]
        exact Nat.le_trans Nat.and_le_right (by decide)
      show IntKind.u64.wrap ((BitVec.ofInt 64 x &&& BitVec.ofInt 64 255).toNat : Int) = _
      unfold IntKind.wrap
      simp only [IntKind.bits, IntKind.signed, Bool.false_and, Bool.false_eq_true, if_false]
      omega
  obtain ⟨n, hn, e⟩ := h
  rw [e, wrap_small (by omega) (by omega)]
  omega
theorem next_ok {c : T14} {k : Nat} (h : Cur c (k + 1)) : ∃ v c', S_Pspec_l1Cur_next c = some ((v, ()), (c', ())) ∧ Cur c' k ∧ 0 ≤ v ∧ v ≤ 255 := by
  have hr := h.room
  have hn := h.nn
  have hw : IntKind.i64.wrap (c.2.1 + 1) = c.2.1 + 1 := wrap_small (by omega) (by omega)
  have hc : ∀ s : Int, Cur (c.1, c.2.1 + 1, s, ()) k := fun s => ⟨h.bytes, h.len, by show 0 ≤ c.2.1 + 1; omega, by show c.2.1 + 1 + (k : Int) ≤ _; omega⟩
  unfold S_Pspec_l1Cur_next p_Pspec_l1Cur_next
  rw [hw]
  by_cases hlt : c.2.1 < (c.1.length : Int)
  · have hb := h.bytes _ (List.mem_of_getElem? (rd_get (d := 0) hn hlt))
    have hv : IntKind.i64.wrap (rd c.1 c.2.1 0) = rd c.1 c.2.1 0 := wrap_small (by omega) (by omega)
    have hle : c.2.1 + 1 ≤ (c.1.length : Int) := by omega
    simp only [hlt, hn, hle, decide_true, if_true]
    rw [hv]
    exact ⟨_, _, rfl, hc _, hb⟩
  · have hle : ¬ c.2.1 + 1 ≤ (c.1.length : Int) := by omega
    simp only [hlt, hle, decide_false, Bool.false_eq_true, if_false, show ¬ (40 : Int) < 0 from by decide]
    exact ⟨_, _, rfl, hc _, and255 _⟩
theorem pick_ok {c : T14} {k : Nat} (h : Cur c (k + 2)) {m : Int} (hm : m ≤ 60000) : ∃ v c', S_Pspec_l1Cur_pick c m = some ((v, ()), (c', ())) ∧ Cur c' k ∧ 0 ≤ v ∧ (1 ≤ m → v < m) := by
  unfold S_Pspec_l1Cur_pick p_Pspec_l1Cur_pick
  by_cases h1 : m ≤ 1
  · simp only [h1, decide_true, if_true]
    exact ⟨0, c, rfl, h.less (by omega), by omega, fun _ => by omega⟩
  · obtain ⟨v, c1, e1, hc1, hv0, hv1⟩ := next_ok h
    have h0 : (m == 0) = false := by simp; omega
    simp only [h1, decide_false, Bool.false_eq_true, if_false]
    rw [e1, Option.bind_some]
    by_cases h2 : m > 200
    · obtain ⟨u, c2, e2, hc2, hu0, hu1⟩ := next_ok hc1
      simp only [h2, decide_true, if_true]
      rw [e2, Option.bind_some]
      simp only [h0, Bool.false_eq_true, if_false]
      rw [wrap_small (n := v * 256) (by omega) (by omega), wrap_small (by omega) (by omega), Int.tmod_eq_emod_of_nonneg (by omega)]
      exact ⟨_, c2, rfl, hc2, Int.emod_nonneg _ (by omega), fun _ => Int.emod_lt_of_pos _ (by omega)⟩
    · simp only [h2, decide_false, Bool.false_eq_true, if_false, h0]
      rw [Int.tmod_eq_emod_of_nonneg hv0]
      exact ⟨_, c1, rfl, hc1.less (by omega), Int.emod_nonneg _ (by omega), fun _ => Int.emod_lt_of_pos _ (by omega)⟩
theorem among_ok {c : T14} {k : Nat} (h : Cur c (k + 2)) {l : List Int} (hl : l ≠ []) (hl2 : l.length ≤ 200) : ∃ v c', S_Pspec_l1Cur_among c l = some ((v, ()), (c', ())) ∧ Cur c' k ∧ v ∈ l := by
  unfold S_Pspec_l1Cur_among p_Pspec_l1Cur_among
  have hpos : 0 < l.length := List.length_pos_iff.2 hl
  obtain ⟨v, c1, e1, hc1, hv0, hv1⟩ := pick_ok h (m := (l.length : Int)) (by omega)
  have hv1 := hv1 (by omega)
  rw [e1, Option.bind_some]
  simp only [hv0, hv1, decide_true, if_true]
  exact ⟨_, c1, rfl, hc1, List.mem_of_getElem? (rd_get hv0 hv1)⟩
theorem one_ok {c : T14} {k : Nat} (h : Cur c (k + 2)) {m : Int} (hm : m ≤ 60000) : ∃ b c', S_Pspec_l1Cur_one c m = some ((b, ()), (c', ())) ∧ Cur c' k := by
  unfold S_Pspec_l1Cur_one p_Pspec_l1Cur_one
  obtain ⟨v, c1, e1, hc1, _⟩ := pick_ok h hm
  rw [e1, Option.bind_some]
  exact ⟨_, c1, rfl, hc1⟩
theorem cmd_ok {c : T14} {k : Nat} (h : Cur c (k + 10)) : ∃ d c', S_Pspec_l1Cur_cmd c = some ((d, ()), (c', ())) ∧ Cur c' k ∧ ((d.1 = 1 ∧ (0 ≤ d.2.2.2.1 ∧ d.2.2.2.1 ≤ 3) ∧ 1 ≤ d.2.2.2.2.1 ∧ d.2.2.2.2.1 ≤ 30) ∨ (d.1 = 2 ∧ d.2.2.2.1 = 0 ∧ d.2.2.2.2.1 = 0)) ∧ gcmd d = true := by
  unfold S_Pspec_l1Cur_cmd p_Pspec_l1Cur_cmd
  obtain ⟨v1, c1, e1, hc1, a1, b1⟩ := pick_ok (k := k + 8) h (m := 9) (by decide)
  obtain ⟨v2, c2, e2, hc2, a2, b2⟩ := pick_ok (k := k + 6) hc1 (m := 4) (by decide)
  obtain ⟨v3, c3, e3, hc3, a3, b3⟩ := pick_ok (k := k + 4) hc2 (m := 30) (by decide)
  obtain ⟨v4, c4, e4, hc4, a4, b4⟩ := pick_ok (k := k + 2) hc3 (m := 3) (by decide)
  obtain ⟨o, c5, e5, hc5⟩ := one_ok (k := k) hc4 (m := 4) (by decide)
  have b1 := b1 (by decide); have b2 := b2 (by decide); have b3 := b3 (by decide); have b4 := b4 (by decide)
  rw [e1, Option.bind_some]
  dsimp only
  rw [e2, Option.bind_some]
  dsimp only
  rw [e3, Option.bind_some]
  dsimp only
  rw [e4, Option.bind_some]
  dsimp only
  rw [if_neg (by decide), e5, Option.bind_some]
  dsimp only
  rw [wrap_small (n := 1 + v1) (by omega) (by omega), wrap_small (n := v2 + 1) (by omega) (by omega), wrap_small (n := v2 + 1 + v4) (by omega) (by omega), wrap_small (n := 1 + v3) (by omega) (by omega), Int.tmod_eq_emod_of_nonneg (by omega)]
  cases o with
  | true =>
    simp only [if_true]
    exact ⟨_, c5, rfl, hc5, .inr ⟨rfl, rfl, rfl⟩, by
      unfold gcmd inn
      have x1 : 1 ≤ 1 + v1 := by omega
      have x2 : 1 + v1 ≤ 999 := by omega
      have x3 : v2 ≤ 3 := by omega
      simp [x1, x2, x3, a2]⟩
  | false =>
    simp only [Bool.false_eq_true, if_false]
    have q1 := Int.emod_nonneg (v2 + 1 + v4) (show (4 : Int) ≠ 0 by decide)
    have q2 := Int.emod_lt_of_pos (v2 + 1 + v4) (show (0 : Int) < 4 by decide)
    exact ⟨_, c5, rfl, hc5, .inl ⟨rfl, ⟨q1, by show (v2 + 1 + v4) % 4 ≤ 3; omega⟩, by show 1 ≤ 1 + v3; omega, by show 1 + v3 ≤ 30; omega⟩, by
      unfold gcmd inn
      have x1 : 1 ≤ 1 + v1 := by omega
      have x2 : 1 + v1 ≤ 999 := by omega
      have x3 : v2 ≤ 3 := by omega
      have x4 : (v2 + 1 + v4) % 4 ≤ 3 := by omega
      have x5 : v2 ≠ (v2 + 1 + v4) % 4 := by omega
      have x6 : 1 ≤ 1 + v3 := by omega
      have x7 : 1 + v3 ≤ 1000 := by omega
      simp only [x1, x2, x3, x4, x5, x6, x7, a2, q1, decide_true, Bool.true_and, Bool.and_true]
      simp [x5]⟩
def toldS (s : List Int) (c : T2) : T3 := if c.1 == 2 then (3, rd s c.2.2.1 0, ()) else if c.1 == 1 then (if rd s c.2.2.1 0 < c.2.2.2.2.1 then (2, 0, ()) else (1, 0, ())) else (0, 0, ())
def nextS (s : List Int) (c : T2) : List Int := if c.1 == 1 then upd (decide (rd s c.2.2.1 0 ≥ c.2.2.2.2.1)) true true c s else s
theorem nextS_len (s : List Int) (c : T2) : (nextS s c).length = s.length := by
  unfold nextS
  split
  · exact upd_len _ _ _ _ _
  · rfl
def playL : List T2 → List Int → List Int × List T3
  | [], s => (s, [])
  | c :: t, s => ((playL t (nextS s c)).1, toldS s c :: (playL t (nextS s c)).2)
theorem gcmd_acc {c : T2} (h : gcmd c = true) (h2 : c.1 = 2 ∨ c.1 = 1) : 0 ≤ c.2.2.1 ∧ c.2.2.1 ≤ 3 := by
  rcases h2 with h2 | h2
  · unfold gcmd inn at h
    rw [h2] at h
    simp at h
    exact h.2.1
  · exact (gcmd_move h h2).1
theorem gcmd_kind {c : T2} (h : gcmd c = true) : c.1 = 0 ∨ c.1 = 1 ∨ c.1 = 2 := by
  unfold gcmd at h
  by_cases h0 : c.1 = 0
  · exact .inl h0
  by_cases h1 : c.1 = 1
  · exact .inr (.inl h1)
  by_cases h2 : c.1 = 2
  · exact .inr (.inr h2)
  · have e0 : (c.1 == 0) = false := by simpa using h0
    have e1 : (c.1 == 1) = false := by simpa using h1
    have e2 : (c.1 == 2) = false := by simpa using h2
    rw [e0, e1, e2] at h
    simp at h
theorem impl_apply_eq {s : List Int} {c : T2} (h4 : s.length = 4) (hg : gcmd c = true) : S_impl_apply s c = some ((toldS s c, ()), (nextS s c, ())) := by
  unfold S_impl_apply p_impl_apply toldS nextS
  rcases gcmd_kind hg with h | h | h
  · simp [h]
  · obtain ⟨⟨x0, x3⟩, y0, y3⟩ := gcmd_move hg h
    have hx : c.2.2.1 < (s.length : Int) := by rw [h4]; omega
    have hy : c.2.2.2.1 < (s.length : Int) := by rw [h4]; omega
    have hk : (c.1 == 2) = false := by rw [h]; rfl
    have hk0 : (c.1 == 0) = false := by rw [h]; rfl
    have hk1 : (c.1 == 1) = true := by rw [h]; rfl
    simp only [hk, hk0, hk1, Bool.false_eq_true, if_false, if_true, x0, y0, hx, hy, List.length_set, decide_true]
    by_cases hlt : rd s c.2.2.1 0 < c.2.2.2.2.1
    · have hge : ¬ rd s c.2.2.1 0 ≥ c.2.2.2.2.1 := by omega
      simp only [hlt, hge, decide_true, decide_false, if_true, upd, Bool.false_and, Bool.false_eq_true, if_false]
    · have hge : rd s c.2.2.1 0 ≥ c.2.2.2.2.1 := by omega
      simp only [hlt, hge, decide_true, decide_false, if_true, upd, Bool.true_and, Bool.false_eq_true, if_false]
  · obtain ⟨x0, x3⟩ := gcmd_acc hg (.inl h)
    have hx : c.2.2.1 < (s.length : Int) := by rw [h4]; omega
    have hk : (c.1 == 2) = true := by rw [h]; rfl
    have hk1 : (c.1 == 1) = false := by rw [h]; rfl
    simp only [hk, hk1, if_true, x0, hx, decide_true, Bool.false_eq_true, if_false]
theorem spec_apply_eq {s : List Int} {c : T2} (h4 : s.length = 4) (hg : gcmd c = true) : S_spec_l11Apply s c = some ((nextS s c, toldS s c, ()), ()) := by
  unfold S_spec_l11Apply p_spec_l11Apply toldS nextS
  rw [own_eq (by omega), Option.bind_some]
  dsimp only
  rcases gcmd_kind hg with h | h | h
  · simp [h]
  · obtain ⟨⟨x0, x3⟩, y0, y3⟩ := gcmd_move hg h
    have hx : c.2.2.1 < (s.length : Int) := by rw [h4]; omega
    have hy : c.2.2.2.1 < (s.length : Int) := by rw [h4]; omega
    have hk : (c.1 == 2) = false := by rw [h]; rfl
    have hk1 : (c.1 == 1) = true := by rw [h]; rfl
    simp only [hk, hk1, Bool.false_eq_true, if_false, if_true, x0, y0, hx, hy, List.length_set, decide_true]
    by_cases hlt : rd s c.2.2.1 0 < c.2.2.2.2.1
    · have hge : ¬ rd s c.2.2.1 0 ≥ c.2.2.2.2.1 := by omega
      simp only [hlt, hge, decide_true, decide_false, if_true, upd, Bool.false_and, Bool.false_eq_true, if_false]
    · have hge : rd s c.2.2.1 0 ≥ c.2.2.2.2.1 := by omega
      simp only [hlt, hge, decide_true, decide_false, if_true, upd, Bool.true_and, Bool.false_eq_true, if_false]
  · obtain ⟨x0, x3⟩ := gcmd_acc hg (.inl h)
    have hx : c.2.2.1 < (s.length : Int) := by rw [h4]; omega
    have hk : (c.1 == 2) = true := by rw [h]; rfl
    have hk1 : (c.1 == 1) = false := by rw [h]; rfl
    simp only [hk, hk1, if_true, x0, hx, decide_true, Bool.false_eq_true, if_false]
theorem impl_playCmds_eq {l : List T2} (hl : l.length ≤ 60) (hg : ∀ c ∈ l, gcmd c = true) : S_impl_playCmds l = some (((playL l [100, 100, 100, 100]).1, (playL l [100, 100, 100, 100]).2, ()), ()) := by
  unfold S_impl_playCmds
  refine lim_eq (l.length + 1) fun N hN => ?_
  unfold p_impl_playCmds
  rw [impl_NewSums_eq, Option.bind_some]
  dsimp only
  refine loopN_over l (by rw [maxLen_eq]; omega) (fun i (s : List Int × List T3) => ((l, (l.length : Int), (i : Int), ()), ([], [], s.1, s.2, ()))) (fun i u s => (((playL u s.1).1, s.2 ++ (playL u s.1).2, ()), ())) (fun i u s => s.1.length = 4 ∧ s.2.length ≤ i)
    ([100, 100, 100, 100], []) rfl (by simp) ⟨rfl, by simp⟩ hN (fun rec s h => ?_) (fun rec i c u s hat h hrec => ?_)
  · dsimp only
    simp [playL]
  · have hlt := hat.ltn
    have hap : ((s.2.length + ([toldS s.1 c] : List T3).length) * 16 ≤ 140737488355328) = True := by simp; omega
    dsimp only
    simp only [hat.lt, hat.nn, hat.wrap, hat.rd, decide_true, if_true]
    rw [impl_apply_eq h.1 (hg c hat.mem), Option.bind_some]
    simp only [hap, decide_true, if_true]
    refine (hrec (nextS s.1 c, s.2 ++ [toldS s.1 c]) ⟨by rw [nextS_len]; exact h.1, by simp; omega⟩).trans ?_
    simp [playL]
theorem spec_NewSums_eq : S_spec_NewSums = some (([100, 100, 100, 100], ()), ()) := by
  unfold S_spec_NewSums
  refine lim_eq 5 fun N hN => ?_
  obtain ⟨M, rfl⟩ := Nat.exists_eq_add_of_le hN
  unfold p_spec_NewSums
  rw [Nat.add_comm]
  rfl
theorem spec_play_eq {l : List T2} (hl : l.length ≤ 60) (hg : ∀ c ∈ l, gcmd c = true) : S_spec_l11Play l = some (((playL l [100, 100, 100, 100]).1, (playL l [100, 100, 100, 100]).2, ()), ()) := by
  unfold S_spec_l11Play
  refine lim_eq (l.length + 1) fun N hN => ?_
  unfold p_spec_l11Play
  rw [spec_NewSums_eq, Option.bind_some]
  dsimp only
  refine loopN_over l (by rw [maxLen_eq]; omega) (fun i (s : List Int × List T3) => ((s.1, l, (l.length : Int), (i : Int), ()), ([], [], s.2, ()))) (fun i u s => (((playL u s.1).1, s.2 ++ (playL u s.1).2, ()), ())) (fun i u s => s.1.length = 4 ∧ s.2.length ≤ i)
    ([100, 100, 100, 100], []) rfl (by simp) ⟨rfl, by simp⟩ hN (fun rec s h => ?_) (fun rec i c u s hat h hrec => ?_)
  · dsimp only
    simp [playL]
  · have hlt := hat.ltn
    have hap : ((s.2.length + ([toldS s.1 c] : List T3).length) * 16 ≤ 140737488355328) = True := by simp; omega
    dsimp only
    simp only [hat.lt, hat.nn, hat.wrap, hat.rd, decide_true, if_true]
    rw [spec_apply_eq h.1 (hg c hat.mem), Option.bind_some]
    simp only [hap, decide_true, if_true]
    refine (hrec (nextS s.1 c, s.2 ++ [toldS s.1 c]) ⟨by rw [nextS_len]; exact h.1, by simp; omega⟩).trans ?_
    simp [playL]
theorem rd_set {s : List Int} {x k v : Int} (h0 : 0 ≤ x) (h1 : x < (s.length : Int)) (hk : 0 ≤ k) : rd (s.set x.toNat v) k 0 = if k = x then v else rd s k 0 := by
  unfold rd
  by_cases e : k = x
  · subst e
    have : k.toNat < s.length := by omega
    simp [List.getD, this]
  · have hne : x.toNat ≠ k.toNat := by omega
    simp [List.getD, List.getElem?_set_ne hne, e]
theorem upd_ag {K : List Int} (hK : ∀ k ∈ K, 0 ≤ k ∧ k ≤ 3) {c : T2} (hx : 0 ≤ c.2.2.1 ∧ c.2.2.1 ≤ 3) (hy : 0 ≤ c.2.2.2.1 ∧ c.2.2.2.1 ≤ 3) {s s' : List Int} (h4 : s.length = 4) (h4' : s'.length = 4) (h : ∀ k ∈ K, rd s k 0 = rd s' k 0) (is : Bool) :
    ∀ k ∈ K, rd (upd is (K.contains c.2.2.1) (K.contains c.2.2.2.1) c s) k 0 = rd (upd is true true c s') k 0 := by
  intro k hk
  have hk3 := hK k hk
  cases is with
  | false => simpa [upd] using h k hk
  | true =>
    have X1 : c.2.2.1 < (s.length : Int) := by omega
    have X2 : c.2.2.1 < (s'.length : Int) := by omega
    have Y1 : ∀ t : List Int, t.length = 4 → c.2.2.2.1 < (t.length : Int) := fun t ht => by omega
    simp only [upd, Bool.true_and, if_true]
    have key : ∀ j, 0 ≤ j → j ∈ K → rd (if K.contains c.2.2.1 = true then s.set c.2.2.1.toNat (IntKind.i64.wrap (rd s c.2.2.1 0 - c.2.2.2.2.1)) else s) j 0 = rd (s'.set c.2.2.1.toNat (IntKind.i64.wrap (rd s' c.2.2.1 0 - c.2.2.2.2.1))) j 0 := by
      intro j hj hjK
      rw [rd_set hx.1 X2 hj]
      by_cases hc : K.contains c.2.2.1 = true
      · rw [if_pos hc, rd_set hx.1 X1 hj]
        have hxK : c.2.2.1 ∈ K := by simpa using hc
        rw [h _ hxK, h j hjK]
      · rw [if_neg hc]
        have hne : j ≠ c.2.2.1 := fun e => hc (by rw [← e]; simpa using hjK)
        rw [if_neg hne]
        exact h j hjK
    generalize hs1 : (if K.contains c.2.2.1 = true then s.set c.2.2.1.toNat (IntKind.i64.wrap (rd s c.2.2.1 0 - c.2.2.2.2.1)) else s) = s1 at key
    generalize hs2 : s'.set c.2.2.1.toNat (IntKind.i64.wrap (rd s' c.2.2.1 0 - c.2.2.2.2.1)) = s2 at key
    have l1 : s1.length = 4 := by rw [← hs1]; split <;> simp [h4]
    have l2 : s2.length = 4 := by rw [← hs2]; simp [h4']
    rw [rd_set hy.1 (Y1 _ l2) hk3.1]
    by_cases hc : K.contains c.2.2.2.1 = true
    · have hyK : c.2.2.2.1 ∈ K := by simpa using hc
      rw [if_pos hc, rd_set hy.1 (Y1 _ l1) hk3.1, key k hk3.1 hk, key _ hy.1 hyK]
    · rw [if_neg hc, if_neg (fun e => hc (by rw [← e]; simpa using hk))]
      exact key k hk3.1 hk
theorem part_play {K : List Int} {V : List T5} (hK : ∀ k ∈ K, 0 ≤ k ∧ k ≤ 3) : ∀ (l : List T4) {s s' : List Int} {i : Int}, s.length = 4 → s'.length = 4 → (∀ e ∈ l, gcmd e.2.2.1 = true) →
    l.map (fun e => e.2.2.2.1) = (playL (l.map fun e => e.2.2.1) s').2 → (∀ e ∈ l, ∀ v, V.find? (kn e) = some v → v.2.2.1 = e.2.2.2.1) → (∀ k ∈ K, rd s k 0 = rd s' k 0) → (partS K V l s i).2 = i + (l.length : Int) →
    ∀ k ∈ K, rd (partS K V l s i).1 k 0 = rd (playL (l.map fun e => e.2.2.1) s').1 k 0
  | [], s, s', i, h4, h4', hg, ht, hV, ha, hi => by simpa [partS, playL] using ha
  | e :: t, s, s', i, h4, h4', hg, ht, hV, ha, hi => by
    simp only [List.map_cons, playL, List.cons.injEq] at ht ⊢
    obtain ⟨ht1, ht2⟩ := ht
    have hge := hg e (by simp)
    have go : ∀ s1, s1.length = 4 → (∀ k ∈ K, rd s1 k 0 = rd (nextS s' e.2.2.1) k 0) → (partS K V t s1 (i + 1)).2 = i + ((e :: t).length : Int) → ∀ k ∈ K, rd (partS K V t s1 (i + 1)).1 k 0 = rd (playL (t.map fun e => e.2.2.1) (nextS s' e.2.2.1)).1 k 0 := fun s1 hl hag hii =>
      part_play hK t hl (by rw [nextS_len]; exact h4') (fun e he => hg e (by simp [he])) ht2 (fun e he => hV e (by simp [he])) hag (by rw [hii]; simp only [List.length_cons]; omega)
    unfold partS at hi ⊢
    by_cases h1 : e.2.2.1.1 = 1
    · obtain ⟨hx, hy⟩ := gcmd_move hge h1
      have e1 : (e.2.2.1.1 == 1) = true := by simpa using h1
      have e2 : (e.2.2.1.1 == 2) = false := by rw [h1]; rfl
      have hnext : nextS s' e.2.2.1 = upd (decide (rd s' e.2.2.1.2.2.1 0 ≥ e.2.2.1.2.2.2.2.1)) true true e.2.2.1 s' := by unfold nextS; rw [if_pos e1]
      have htold : (e.2.2.2.1.1 == 1) = decide (rd s' e.2.2.1.2.2.1 0 ≥ e.2.2.1.2.2.2.2.1) := by
        rw [ht1]
        unfold toldS
        rw [if_neg (by rw [e2]; simp), if_pos e1]
        by_cases hlt : rd s' e.2.2.1.2.2.1 0 < e.2.2.1.2.2.2.2.1
        · have : ¬ rd s' e.2.2.1.2.2.1 0 ≥ e.2.2.1.2.2.2.2.1 := by omega
          simp [hlt, this]
        · have : rd s' e.2.2.1.2.2.1 0 ≥ e.2.2.1.2.2.2.2.1 := by omega
          simp [hlt, this]
      rw [e1] at hi ⊢
      simp only [Bool.true_and] at hi ⊢
      cases hcx : K.contains e.2.2.1.2.2.1 with
      | true =>
        rw [hcx] at hi
        simp only [Bool.true_or, if_true] at hi ⊢
        have hxK : e.2.2.1.2.2.1 ∈ K := by simpa using hcx
        rw [ha _ hxK] at hi ⊢
        refine go _ (by rw [upd_len]; exact h4) ?_ hi
        rw [hnext]
        have := upd_ag hK hx hy h4 h4' ha (decide (rd s' e.2.2.1.2.2.1 0 ≥ e.2.2.1.2.2.2.2.1))
        rw [hcx] at this
        exact this
      | false =>
        rw [hcx] at hi
        simp only [Bool.false_or, Bool.false_eq_true, if_false] at hi ⊢
        cases hcy : K.contains e.2.2.1.2.2.2.1 with
        | true =>
          rw [hcy] at hi
          simp only [if_true] at hi ⊢
          cases hf : V.find? (kn e) with
          | none =>
            rw [hf] at hi
            simp only [List.length_cons] at hi
            omega
          | some v =>
            rw [hf] at hi
            simp only at hi ⊢
            have hv := hV e (by simp) v hf
            rw [hv, htold] at hi ⊢
            refine go _ (by rw [upd_len]; exact h4) ?_ hi
            rw [hnext]
            have := upd_ag hK hx hy h4 h4' ha (decide (rd s' e.2.2.1.2.2.1 0 ≥ e.2.2.1.2.2.2.2.1))
            rw [hcx, hcy] at this
            exact this
        | false =>
          rw [hcy] at hi
          simp only [Bool.false_eq_true, if_false] at hi ⊢
          refine go _ h4 ?_ hi
          rw [hnext]
          have := upd_ag hK hx hy h4 h4' ha (decide (rd s' e.2.2.1.2.2.1 0 ≥ e.2.2.1.2.2.2.2.1))
          rw [hcx, hcy] at this
          intro k hk
          have h3 := this k hk
          have hu : ∀ b, upd b false false e.2.2.1 s = s := fun b => by cases b <;> rfl
          rw [hu] at h3
          exact h3
    · have e1 : (e.2.2.1.1 == 1) = false := by simpa using h1
      have hnext : nextS s' e.2.2.1 = s' := by unfold nextS; rw [if_neg (by rw [e1]; simp)]
      rw [e1] at hi ⊢
      simp only [Bool.false_and, Bool.false_eq_true, if_false] at hi ⊢
      exact go _ h4 (by rw [hnext]; exact ha) hi
theorem nodupE_apart : ∀ {l dn : List T4}, nodupE dn l = true → ∀ f ∈ dn, ∀ e ∈ l, sameInst e f = false
  | [], dn, h, f, hf, e, he => by cases he
  | x :: t, dn, h, f, hf, e, he => by
    simp only [nodupE, Bool.and_eq_true, Bool.not_eq_true'] at h
    rcases List.mem_cons.1 he with rfl | he
    · have := List.any_eq_false.1 h.1 f hf
      simpa using this
    · exact nodupE_apart h.2 f (by simp [hf]) e he
theorem nodupE_same : ∀ {l dn : List T4}, nodupE dn l = true → ∀ e ∈ l, ∀ f ∈ l, sameInst e f = true → e = f
  | [], dn, h, e, he, f, hf, hs => by cases he
  | x :: t, dn, h, e, he, f, hf, hs => by
    have h' := h
    simp only [nodupE, Bool.and_eq_true, Bool.not_eq_true'] at h
    have hap := nodupE_apart h.2 x (by simp)
    rcases List.mem_cons.1 he with rfl | he1
    · rcases List.mem_cons.1 hf with rfl | hf1
      · rfl
      · have := hap f hf1
        simp only [sameInst, Bool.and_eq_true, beq_iff_eq] at hs
        simp only [sameInst, Bool.and_eq_false_iff, beq_eq_false_iff_ne] at this
        rcases this with h1 | h1
        · exact absurd hs.1.symm h1
        · exact absurd hs.2.symm h1
    · rcases List.mem_cons.1 hf with rfl | hf1
      · have := hap e he1
        rw [hs] at this; cases this
      · exact nodupE_same h.2 e he1 f hf1 hs
theorem verds_mem {k : List Int} : ∀ {l : List T4} {v : T5}, v ∈ verds k l → ∃ e ∈ l, v = (e.1, e.2.1, e.2.2.2)
  | [], v, h => by cases h
  | e :: t, v, h => by
    unfold verds at h
    split at h
    · rcases List.mem_cons.1 h with rfl | h
      · exact ⟨e, by simp, rfl⟩
      · obtain ⟨f, hf, rfl⟩ := verds_mem h
        exact ⟨f, by simp [hf], rfl⟩
    · obtain ⟨f, hf, rfl⟩ := verds_mem h
      exact ⟨f, by simp [hf], rfl⟩
theorem known_told {l : List T4} {P : List (List Int)} (h : entriesOk l = true) : ∀ e ∈ l, ∀ v, (knownAll l P).find? (kn e) = some v → v.2.2.1 = e.2.2.2.1 := by
  intro e he v hf
  have hm := List.mem_of_find?_eq_some hf
  have hk := List.find?_some hf
  unfold knownAll at hm
  obtain ⟨k, _, hm⟩ := List.mem_flatMap.1 hm
  obtain ⟨f, hfl, rfl⟩ := verds_mem hm
  unfold entriesOk at h
  rw [Bool.and_eq_true] at h
  have : e = f := nodupE_same h.1 e he f hfl (by simpa [kn, sameInst] using hk)
  rw [this]
theorem part_le {K : List Int} {V : List T5} : ∀ (l : List T4) (s : List Int) (i : Int), (partS K V l s i).2 ≤ i + (l.length : Int)
  | [], s, i => by simp [partS]
  | e :: t, s, i => by
    have h := fun s => part_le (K := K) (V := V) t s (i + 1)
    unfold partS
    simp only [List.length_cons]
    split
    · split
      · have := h (upd (decide (rd s e.2.2.1.2.2.1 0 ≥ e.2.2.1.2.2.2.2.1)) true (K.contains e.2.2.1.2.2.2.1) e.2.2.1 s); omega
      · split
        · simp only; omega
        · rename_i v _
          have := h (upd (v.2.2.1.1 == 1) false (K.contains e.2.2.1.2.2.2.1) e.2.2.1 s); omega
    · have := h s; omega
/-- who needs nothing plays all -/
theorem part_noneeds {K : List Int} {V : List T5} : ∀ (l : List T4) (s : List Int) (i : Int), needs K l = [] → (partS K V l s i).2 = i + (l.length : Int)
  | [], s, i, _ => by simp [partS]
  | e :: t, s, i, h => by
    unfold needs at h
    split at h
    · cases h
    rename_i hn
    have ih := fun s => part_noneeds (K := K) (V := V) t s (i + 1) h
    unfold partS
    simp only [List.length_cons]
    by_cases h1 : (e.2.2.1.1 == 1) = true
    · cases hcx : K.contains e.2.2.1.2.2.1 with
      | true =>
        simp only [h1, Bool.true_or, Bool.and_self, if_true]
        rw [ih]; omega
      | false =>
        cases hcy : K.contains e.2.2.1.2.2.2.1 with
        | true => exact absurd (by rw [h1, hcx, hcy]; rfl) hn
        | false =>
          simp only [h1, Bool.or_self, Bool.and_false, Bool.false_eq_true, if_false]
          rw [ih]; omega
    · have h1' : (e.2.2.1.1 == 1) = false := by simpa using h1
      simp only [h1', Bool.false_and, Bool.false_eq_true, if_false]
      rw [ih]; omega
/-- a loop whose rounds are total -/
theorem lim_loop {σ α ρ : Type} {body : Nat → (α → Option ρ) → α → Option ρ} {x : α} {Post : ρ → Prop} (b : Nat) (mk : Nat → σ → α) (I : Nat → σ → Prop) (n : Nat) (s : σ) (hx : mk n s = x) (hI : I n s)
    (succ : ∀ n s, I (n + 1) s → ∃ s', I n s' ∧ ∀ M rec, b ≤ M → body M rec (mk (n + 1) s) = rec (mk n s'))
    (fin : ∀ s, I 0 s → ∃ v, Post v ∧ ∀ M rec, b ≤ M → body M rec (mk 0 s) = some v) : ∃ v, Post v ∧ ∀ M, b + n + 1 ≤ M → loopN M (body M) x = some v := by
  subst hx
  have key : ∀ n s, I n s → ∃ v, Post v ∧ ∀ M N, b ≤ M → n < N → loopN N (body M) (mk n s) = some v := by
    intro n
    induction n with
    | zero =>
      intro s hI
      obtain ⟨v, hv, h⟩ := fin s hI
      refine ⟨v, hv, fun M N hM hN => ?_⟩
      cases N with
      | zero => omega
      | succ N => exact h M _ hM
    | succ n ih =>
      intro s hI
      obtain ⟨s', hI', h⟩ := succ n s hI
      obtain ⟨v, hv, h2⟩ := ih s' hI'
      refine ⟨v, hv, fun M N hM hN => ?_⟩
      cases N with
      | zero => omega
      | succ N =>
        show body M (loopN N (body M)) (mk (n + 1) s) = some v
        rw [h M _ hM]
        exact h2 M N hM (by omega)
  obtain ⟨v, hv, h⟩ := key n s hI
  exact ⟨v, hv, fun M hM => h M M (by omega) (by omega)⟩
theorem keeps_ok {c : T14} {k : Nat} (h : Cur c (k + 8)) : ∃ K c', S_Pspec_l1Cur_keeps c = some ((K, ()), (c', ())) ∧ Cur c' k ∧ K.length ≤ 4 ∧ ∀ a ∈ K, 0 ≤ a ∧ a ≤ 3 := by
  have main : ∃ v : (List Int × Unit) × (T14 × Unit), (Cur v.2.1 k ∧ v.1.1.length ≤ 4 ∧ ∀ a ∈ v.1.1, 0 ≤ a ∧ a ≤ 3) ∧ ∀ M, 0 + 4 + 1 ≤ M → p_Pspec_l1Cur_keeps M c = some v := by
    unfold p_Pspec_l1Cur_keeps
    refine lim_loop (σ := T14 × List Int) 0 (fun n s => ((((4 - n : Nat) : Int), ()), ((s.1.1, s.1.2.1, s.1.2.2.1, ()), ([] : List Int), s.2, ()))) (fun n s => n ≤ 4 ∧ Cur s.1 (k + 2 * n) ∧ s.2.length ≤ 4 - n ∧ ∀ a ∈ s.2, 0 ≤ a ∧ a ≤ 3) 4 (c, []) rfl ⟨by omega, h, by simp, by simp⟩ (fun n s hI => ?_) (fun s hI => ?_)
    · obtain ⟨h1, h2, h3, h4⟩ := hI
      obtain ⟨o, c', e, hc'⟩ := one_ok (k := k + 2 * n) (c := s.1) h2 (m := 2) (by decide)
      have hlt : (((4 - (n + 1) : Nat) : Int) < 4) := by omega
      have hw : IntKind.i64.wrap (((4 - (n + 1) : Nat) : Int) + 1) = ((4 - n : Nat) : Int) := by rw [wrap_small (by omega) (by omega)]; omega
      have hap : ((s.2.length + ([((4 - (n + 1) : Nat) : Int)] : List Int).length) * 8 ≤ 140737488355328) := by simp; omega
      cases o with
      | true =>
        refine ⟨(c', s.2 ++ [((4 - (n + 1) : Nat) : Int)]), ⟨by omega, hc', by simp; omega, fun a ha => ?_⟩, fun M rec _ => ?_⟩
        · rcases List.mem_append.1 ha with ha | ha
          · exact h4 a ha
          · simp only [List.mem_singleton] at ha; subst ha; omega
        · dsimp only
          simp only [hlt, decide_true, if_true]
          rw [show S_Pspec_l1Cur_one (s.1.1, s.1.2.1, s.1.2.2.1, ()) 2 = _ from e, Option.bind_some]
          simp only [if_true, hap, decide_true, hw]
      | false =>
        refine ⟨(c', s.2), ⟨by omega, hc', by show s.2.length ≤ _; omega, h4⟩, fun M rec _ => ?_⟩
        dsimp only
        simp only [hlt, decide_true, if_true]
        rw [show S_Pspec_l1Cur_one (s.1.1, s.1.2.1, s.1.2.2.1, ()) 2 = _ from e, Option.bind_some]
        simp only [Bool.false_eq_true, if_false, hw]
    · obtain ⟨_, h2, h3, h4⟩ := hI
      refine ⟨((s.2, ()), (s.1, ())), ⟨h2, by simpa using h3, h4⟩, fun M rec _ => ?_⟩
      dsimp only
      have hlt : ¬ (((4 - 0 : Nat) : Int) < 4) := by simp
      simp only [hlt, decide_false, Bool.false_eq_true, if_false]
  obtain ⟨⟨⟨K, ⟨⟩⟩, c', ⟨⟩⟩, ⟨h1, h2, h3⟩, hM⟩ := main
  exact ⟨K, c', lim_eq _ hM, h1, h2, h3⟩
/-- a loop whose rounds end, or go on -/
theorem lim_loop2 {σ α ρ : Type} {body : Nat → (α → Option ρ) → α → Option ρ} {x : α} {Post : ρ → Prop} (b : Nat) (mk : Nat → σ → α) (I : Nat → σ → Prop) (n : Nat) (s : σ) (hx : mk n s = x) (hI : I n s)
    (succ : ∀ n s, I (n + 1) s → (∃ v, Post v ∧ ∀ M rec, b ≤ M → body M rec (mk (n + 1) s) = some v) ∨ ∃ s', I n s' ∧ ∀ M rec, b ≤ M → body M rec (mk (n + 1) s) = rec (mk n s'))
    (fin : ∀ s, I 0 s → ∃ v, Post v ∧ ∀ M rec, b ≤ M → body M rec (mk 0 s) = some v) : ∃ v, Post v ∧ ∀ M, b + n + 1 ≤ M → loopN M (body M) x = some v := by
  subst hx
  have key : ∀ n s, I n s → ∃ v, Post v ∧ ∀ M N, b ≤ M → n < N → loopN N (body M) (mk n s) = some v := by
    intro n
    induction n with
    | zero =>
      intro s hI
      obtain ⟨v, hv, h⟩ := fin s hI
      refine ⟨v, hv, fun M N hM hN => ?_⟩
      cases N with
      | zero => omega
      | succ N => exact h M _ hM
    | succ n ih =>
      intro s hI
      rcases succ n s hI with ⟨v, hv, h⟩ | ⟨s', hI', h⟩
      · refine ⟨v, hv, fun M N hM hN => ?_⟩
        cases N with
        | zero => omega
        | succ N => exact h M _ hM
      obtain ⟨v, hv, h2⟩ := ih s' hI'
      refine ⟨v, hv, fun M N hM hN => ?_⟩
      cases N with
      | zero => omega
      | succ N =>
        show body M (loopN N (body M)) (mk (n + 1) s) = some v
        rw [h M _ hM]
        exact h2 M N hM (by omega)
  obtain ⟨v, hv, h⟩ := key n s hI
  exact ⟨v, hv, fun M hM => h M M (by omega) (by omega)⟩
theorem put_ok {l : List Int} {n : Int} (hl : l.length ≤ 1000000) : ∃ m, S_spec_l1Put l n = some ((m, ()), ()) ∧ m.length ≤ l.length + 1 ∧ ∀ a ∈ m, a ∈ l ∨ a = n := by
  have main : ∃ v : (List Int × Unit) × Unit, (v.1.1.length ≤ l.length + 1 ∧ ∀ a ∈ v.1.1, a ∈ l ∨ a = n) ∧ ∀ M, 0 + l.length + 1 ≤ M → p_spec_l1Put M l n = some v := by
    unfold p_spec_l1Put
    have step : ∀ (i : Nat), i ≤ l.length → ∃ v : (List Int × Unit) × Unit, (v.1.1.length ≤ l.length + 1 ∧ ∀ a ∈ v.1.1, a ∈ l ∨ a = n) ∧
        (if (decide (0 ≤ (i : Int))) then (if (decide ((i : Int) ≤ l.length)) then (if (decide (0 ≤ (0 : Int))) then (if (decide ((0 : Int) ≤ (i : Int))) then (if (decide ((([] : List Int).length + ((l.take (i : Int).toNat).drop (0 : Int).toNat).length) * 8 ≤ 140737488355328)) then (if (decide (((([] : List Int) ++ ((l.take (i : Int).toNat).drop (0 : Int).toNat)).length + ([n] : List Int).length) * 8 ≤ 140737488355328)) then (if (decide (0 ≤ (l.length : Int))) then (if (decide ((l.length : Int) ≤ l.length)) then (if (decide (0 ≤ (i : Int))) then (if (decide ((i : Int) ≤ (l.length : Int))) then (if (decide ((((([] : List Int) ++ ((l.take (i : Int).toNat).drop (0 : Int).toNat)) ++ ([n] : List Int)).length + ((l.take (l.length : Int).toNat).drop (i : Int).toNat).length) * 8 ≤ 140737488355328)) then (some (((((([] : List Int) ++ ((l.take (i : Int).toNat).drop (0 : Int).toNat)) ++ ([n] : List Int)) ++ ((l.take (l.length : Int).toNat).drop (i : Int).toNat)), ()), ())) else none) else none) else none) else none) else none) else none) else none) else none) else none) else none) else none) = some v := by
      intro i hi
      refine ⟨((l.take i ++ [n] ++ l.drop i, ()), ()), ⟨?_, ?_⟩, ?_⟩
      · simp; omega
      · intro a ha
        simp only [List.mem_append, List.mem_singleton] at ha
        rcases ha with (ha | ha) | ha
        · exact .inl (List.mem_of_mem_take ha)
        · exact .inr ha
        · exact .inl (List.mem_of_mem_drop ha)
      · have a1 : (i : Int) ≤ (l.length : Int) := by omega
        have a2 : ((([] : List Int).length + ((l.take (i : Int).toNat).drop (0 : Int).toNat).length) * 8 ≤ 140737488355328) := by simp; omega
        have a3 : (((([] : List Int) ++ ((l.take (i : Int).toNat).drop (0 : Int).toNat)).length + ([n] : List Int).length) * 8 ≤ 140737488355328) := by simp; omega
        have a4 : ((((([] : List Int) ++ ((l.take (i : Int).toNat).drop (0 : Int).toNat)) ++ ([n] : List Int)).length + ((l.take (l.length : Int).toNat).drop (i : Int).toNat).length) * 8 ≤ 140737488355328) := by simp; omega
        have a5 : (0 : Int) ≤ (i : Int) := by omega
        have a6 : (0 : Int) ≤ (l.length : Int) := by omega
        simp only [a1, a2, a3, a4, a5, a6, Int.le_refl, decide_true, if_true]
        simp
    refine lim_loop2 (σ := Unit) 0 (fun k _ => ((l, n, ((l.length - k : Nat) : Int), ()), (([] : List Int), ()))) (fun k _ => k ≤ l.length) l.length () (by simp) (Nat.le_refl _) (fun k s hI => ?_) (fun s hI => ?_)
    · have hlt : ((l.length - (k + 1) : Nat) : Int) < (l.length : Int) := by omega
      have hnn : (0 : Int) ≤ ((l.length - (k + 1) : Nat) : Int) := by omega
      have hw : IntKind.i64.wrap (((l.length - (k + 1) : Nat) : Int) + 1) = ((l.length - k : Nat) : Int) := by rw [wrap_small (by omega) (by omega)]; omega
      by_cases h1 : rd l ((l.length - (k + 1) : Nat) : Int) 0 < n
      · refine .inr ⟨(), by omega, fun M rec _ => ?_⟩
        dsimp only
        simp only [hlt, hnn, h1, decide_true, if_true, hw]
      · by_cases h2 : rd l ((l.length - (k + 1) : Nat) : Int) 0 = n
        · refine .inl ⟨((l, ()), ()), ⟨by simp, fun a ha => .inl ha⟩, fun M rec _ => ?_⟩
          have h2' : (rd l ((l.length - (k + 1) : Nat) : Int) 0 == n) = true := by simpa using h2
          dsimp only
          simp only [hlt, hnn, h1, h2', decide_true, decide_false, Bool.false_eq_true, if_false, if_true]
        · obtain ⟨v, hv, he⟩ := step (l.length - (k + 1)) (by omega)
          refine .inl ⟨v, hv, fun M rec _ => ?_⟩
          have h2' : (rd l ((l.length - (k + 1) : Nat) : Int) 0 == n) = false := by simpa using h2
          dsimp only
          rw [← he]
          simp only [hlt, hnn, h1, h2', decide_true, decide_false, Bool.false_eq_true, if_false, if_true]
    · obtain ⟨v, hv, he⟩ := step l.length (Nat.le_refl _)
      refine ⟨v, hv, fun M rec _ => ?_⟩
      have hlt : ¬ ((l.length - 0 : Nat) : Int) < (l.length : Int) := by simp
      dsimp only
      rw [if_neg (by simp)]
      rw [if_neg (by simp)]
      exact he
  obtain ⟨⟨⟨m, ⟨⟩⟩, ⟨⟩⟩, ⟨h1, h2⟩, hM⟩ := main
  exact ⟨m, lim_eq _ hM, h1, h2⟩
theorem places_ok {c : T14} {k : Nat} (h : Cur c (k + 60)) {n : Nat} (hn : n ≤ 5) : ∃ P c', S_Pspec_l1Cur_places c (n : Int) = some ((P, ()), (c', ())) ∧ Cur c' k ∧ P.length ≤ 5 ∧ ∀ p ∈ P, p.length ≤ 6 ∧ ∀ a ∈ p, 0 ≤ a ∧ a ≤ 3 := by
  have main : ∃ v : (List (List Int) × Unit) × (T14 × Unit), (Cur v.2.1 k ∧ v.1.1.length ≤ 5 ∧ ∀ p ∈ v.1.1, p.length ≤ 6 ∧ ∀ a ∈ p, 0 ≤ a ∧ a ≤ 3) ∧ ∀ M, 0 + n + 1 ≤ M → p_Pspec_l1Cur_places M c (n : Int) = some v := by
    unfold p_Pspec_l1Cur_places
    refine lim_loop (σ := T14 × List (List Int)) 0 (fun m s => (((n : Int), ((n - m : Nat) : Int), ()), ((s.1.1, s.1.2.1, s.1.2.2.1, ()), ([] : List (List Int)), s.2, ()))) (fun m s => m ≤ n ∧ Cur s.1 (k + 12 * m) ∧ s.2.length ≤ n - m ∧ ∀ p ∈ s.2, p.length ≤ 6 ∧ ∀ a ∈ p, 0 ≤ a ∧ a ≤ 3) n (c, []) (by simp) ⟨Nat.le_refl _, h.less (by omega), by simp, by simp⟩ (fun m s hI => ?_) (fun s hI => ?_)
    · obtain ⟨h1, h2, h3, h4⟩ := hI
      obtain ⟨K, c1, e1, hc1, hK1, hK2⟩ := keeps_ok (k := k + 12 * m + 4) (c := s.1) (h2.less (by omega))
      have e1 : S_Pspec_l1Cur_keeps (s.1.1, s.1.2.1, s.1.2.2.1, ()) = _ := e1
      have hlt : (((n - (m + 1) : Nat) : Int) < (n : Int)) := by omega
      have hnn : (0 : Int) ≤ ((n - (m + 1) : Nat) : Int) := by omega
      have hw : IntKind.i64.wrap (((n - (m + 1) : Nat) : Int) + 1) = ((n - m : Nat) : Int) := by rw [wrap_small (by omega) (by omega)]; omega
      have hap : ∀ R : List Int, ((s.2.length + ([R] : List (List Int)).length) * 24 ≤ 140737488355328) := fun R => by simp; omega
      have done : ∀ (R : List Int) (c' : T14), Cur c' (k + 12 * m) → R.length ≤ 6 → (∀ a ∈ R, 0 ≤ a ∧ a ≤ 3) → m ≤ n ∧ Cur c' (k + 12 * m) ∧ (s.2 ++ [R]).length ≤ n - m ∧ ∀ p ∈ s.2 ++ [R], p.length ≤ 6 ∧ ∀ a ∈ p, 0 ≤ a ∧ a ≤ 3 := by
        intro R c' a1 a2 a3
        refine ⟨by omega, a1, by simp; omega, fun p hp => ?_⟩
        rcases List.mem_append.1 hp with hp | hp
        · exact h4 p hp
        · simp only [List.mem_singleton] at hp; subst hp; exact ⟨a2, a3⟩
      generalize hi : ((n - (m + 1) : Nat) : Int) = i at hlt hnn hw
      by_cases hi4 : i < 4
      · obtain ⟨o, c2, e2, hc2⟩ := one_ok (k := k + 12 * m + 2) hc1 (m := 20) (by decide)
        cases o with
        | false =>
          obtain ⟨R, e3, hR1, hR2⟩ := put_ok (l := K) (n := i) (by omega)
          have hR3 : ∀ a ∈ R, 0 ≤ a ∧ a ≤ 3 := fun a ha => by
            rcases hR2 a ha with ha | ha
            · exact hK2 a ha
            · omega
          by_cases hi2 : i = 2
          · obtain ⟨o', c3, e4, hc3⟩ := one_ok (k := k + 12 * m) hc2 (m := 20) (by decide)
            cases o' with
            | false =>
              obtain ⟨R', e5, hR1', hR2'⟩ := put_ok (l := R) (n := 3) (by omega)
              refine ⟨(c3, s.2 ++ [R']), done R' c3 hc3 (by omega) (fun a ha => ?_), fun M rec _ => ?_⟩
              · rcases hR2' a ha with ha | ha
                · exact hR3 a ha
                · omega
              · dsimp only
                subst hi2
                simp only [hlt, decide_true, if_true]
                simp only [e1, Option.bind_some, e2, e3, e4, e5, hap, hw, decide_true, if_true, Bool.not_false, beq_self_eq_true, show ((2 : Int) < 4) from by decide]
            | true =>
              refine ⟨(c3, s.2 ++ [R]), done R c3 hc3 (by omega) hR3, fun M rec _ => ?_⟩
              dsimp only
              subst hi2
              simp only [hlt, decide_true, if_true]
              simp only [e1, Option.bind_some, e2, e3, e4, hap, hw, decide_true, if_true, Bool.not_false, Bool.not_true, Bool.false_eq_true, if_false, beq_self_eq_true, show ((2 : Int) < 4) from by decide]
          · have hi2' : (i == 2) = false := by simpa using hi2
            refine ⟨(c2, s.2 ++ [R]), done R c2 (hc2.less (by omega)) (by omega) hR3, fun M rec _ => ?_⟩
            dsimp only
            simp only [hlt, decide_true, if_true]
            simp only [e1, Option.bind_some, e2, e3, hap, hw, hi4, hi2', decide_true, if_true, Bool.not_false, Bool.false_eq_true, if_false]
        | true =>
          by_cases hi2 : i = 2
          · obtain ⟨o', c3, e4, hc3⟩ := one_ok (k := k + 12 * m) hc2 (m := 20) (by decide)
            cases o' with
            | false =>
              obtain ⟨R', e5, hR1', hR2'⟩ := put_ok (l := K) (n := 3) (by omega)
              refine ⟨(c3, s.2 ++ [R']), done R' c3 hc3 (by omega) (fun a ha => ?_), fun M rec _ => ?_⟩
              · rcases hR2' a ha with ha | ha
                · exact hK2 a ha
                · omega
              · dsimp only
                subst hi2
                simp only [hlt, decide_true, if_true]
                simp only [e1, Option.bind_some, e2, e4, e5, hap, hw, decide_true, if_true, Bool.not_false, Bool.not_true, Bool.false_eq_true, if_false, beq_self_eq_true, show ((2 : Int) < 4) from by decide]
            | true =>
              refine ⟨(c3, s.2 ++ [K]), done K c3 hc3 (by omega) hK2, fun M rec _ => ?_⟩
              dsimp only
              subst hi2
              simp only [hlt, decide_true, if_true]
              simp only [e1, Option.bind_some, e2, e4, hap, hw, decide_true, if_true, Bool.not_true, Bool.false_eq_true, if_false, beq_self_eq_true, show ((2 : Int) < 4) from by decide]
          · have hi2' : (i == 2) = false := by simpa using hi2
            refine ⟨(c2, s.2 ++ [K]), done K c2 (hc2.less (by omega)) (by omega) hK2, fun M rec _ => ?_⟩
            dsimp only
            simp only [hlt, decide_true, if_true]
            simp only [e1, Option.bind_some, e2, hap, hw, hi4, hi2', decide_true, if_true, Bool.not_true, Bool.false_eq_true, if_false]
      · have hi2' : (i == 2) = false := by simp; omega
        refine ⟨(c1, s.2 ++ [K]), done K c1 (hc1.less (by omega)) (by omega) hK2, fun M rec _ => ?_⟩
        dsimp only
        simp only [hlt, decide_true, if_true]
        simp only [e1, Option.bind_some, hap, hw, hi4, hi2', decide_true, decide_false, if_true, Bool.false_eq_true, if_false]
    · obtain ⟨_, h2, h3, h4⟩ := hI
      refine ⟨((s.2, ()), (s.1, ())), ⟨h2.less (by omega), by show s.2.length ≤ 5; omega, h4⟩, fun M rec _ => ?_⟩
      dsimp only
      have hlt : ¬ (((n - 0 : Nat) : Int) < (n : Int)) := by simp
      simp only [hlt, decide_false, Bool.false_eq_true, if_false]
  obtain ⟨⟨⟨P, ⟨⟩⟩, c', ⟨⟩⟩, ⟨h1, h2, h3⟩, hM⟩ := main
  exact ⟨P, c', lim_eq _ hM, h1, h2, h3⟩
/-- few entries, good commands, and told as they were played -/
def goodE (l : List T4) : Prop := l.length ≤ 7 ∧ (∀ e ∈ l, gcmd e.2.2.1 = true) ∧ l.map (fun e => e.2.2.2.1) = (playL (l.map fun e => e.2.2.1) [100, 100, 100, 100]).2
theorem playL_len : ∀ (l : List T2) (s : List Int), (playL l s).2.length = l.length
  | [], s => rfl
  | c :: t, s => by simp [playL, playL_len t]
theorem map_set_same {α β : Type} {l : List α} {i : Nat} {a : α} {f : α → β} (h : i < l.length) (hf : f a = f l[i]) : (l.set i a).map f = l.map f := by
  rw [List.map_set, hf]
  apply List.ext_getElem
  · simp
  · intro n h1 h2
    rw [List.getElem_set]
    split
    · subst_vars; simp
    · rfl
theorem goodE_of {l : List T4} {cm : List T2} (hc : cm.length ≤ 7) (hg : ∀ c ∈ cm, gcmd c = true) (h1 : l.map (fun e => e.2.2.1) = cm) (h2 : l.map (fun e => e.2.2.2.1) = (playL cm [100, 100, 100, 100]).2) : goodE l := by
  refine ⟨?_, fun e he => hg _ ?_, ?_⟩
  · rw [← h1] at hc; simpa using hc
  · rw [← h1]; exact List.mem_map_of_mem he
  · rw [h1]; exact h2
theorem entries_inner {c : T14} {k : Nat} (h : Cur c (k + 2)) {cm : List T2} {tl : List T3} (hc : cm.length ≤ 7) (ht : tl.length = cm.length) :
    ∃ v : (List T4 × Unit) × (T14 × Unit), (Cur v.2.1 k ∧ v.1.1.map (fun e => e.2.2.1) = cm ∧ v.1.1.map (fun e => e.2.2.2.1) = tl) ∧ ∀ M, 0 + cm.length + 1 ≤ M →
      (loopN M (fun rec8 (d9 : (Int × Int × Unit) × ((List Int × Int × Int × Unit) × List T4 × List T2 × List T3 × List T4 × Unit)) => (if (decide (d9.1.2.1 < d9.1.1)) then (if (decide (0 ≤ d9.1.2.1)) then (if (decide (d9.1.2.1 < d9.2.2.2.1.length)) then (if ((3 : Int) == (0 : Int)) then none else (if ((3 : Int) == (0 : Int)) then none else (if (decide (0 ≤ d9.1.2.1)) then (if (decide (d9.1.2.1 < d9.2.2.2.2.1.length)) then (if (decide ((d9.2.2.2.2.2.1.length + ([((Int.tmod d9.1.2.1 (3 : Int)), (IntKind.i64.wrap ((IntKind.i64.wrap (d9.1.2.1.tdiv (3 : Int))) + (1 : Int))), (rd d9.2.2.2.1 d9.1.2.1 Z2), (rd d9.2.2.2.2.1 d9.1.2.1 Z3), ())] : List T4).length) * 72 ≤ 140737488355328)) then (rec8 ((d9.1.1, (IntKind.i64.wrap (d9.1.2.1 + (1 : Int))), ()), ((d9.2.1.1, d9.2.1.2.1, d9.2.1.2.2.1, ()), d9.2.2.1, d9.2.2.2.1, d9.2.2.2.2.1, (d9.2.2.2.2.2.1 ++ ([((Int.tmod d9.1.2.1 (3 : Int)), (IntKind.i64.wrap ((IntKind.i64.wrap (d9.1.2.1.tdiv (3 : Int))) + (1 : Int))), (rd d9.2.2.2.1 d9.1.2.1 Z2), (rd d9.2.2.2.2.1 d9.1.2.1 Z3), ())] : List T4)), ()))) else none) else none) else none))) else none) else none) else (if (decide ((d9.2.2.2.2.2.1.length : Int) > (1 : Int))) then ((S_Pspec_l1Cur_one (d9.2.1.1, d9.2.1.2.1, d9.2.1.2.2.1, ()) (30 : Int)).bind fun y10 => (if y10.1.1 then (if (decide (0 ≤ (0 : Int))) then (if (decide ((0 : Int) < d9.2.2.2.2.2.1.length)) then (if (decide (0 ≤ (1 : Int))) then (if (decide ((1 : Int) < d9.2.2.2.2.2.1.length)) then (some (((d9.2.2.2.2.2.1.set (1 : Int).toNat ((rd d9.2.2.2.2.2.1 (0 : Int) Z4).1, (rd d9.2.2.2.2.2.1 (1 : Int) Z4).2)), ()), (y10.2.1, ()))) else none) else none) else none) else none) else (some ((d9.2.2.2.2.2.1, ()), (y10.2.1, ()))))) else (some ((d9.2.2.2.2.2.1, ()), ((d9.2.1.1, d9.2.1.2.1, d9.2.1.2.2.1, ()), ())))))) (((cm.length : Int), (0 : Int), ()), ((c.1, c.2.1, c.2.2.1, ()), ([] : List T4), cm, tl, ([] : List T4), ()))) = some v := by
  refine lim_loop (σ := List T4) 0 (fun m s => (((cm.length : Int), ((cm.length - m : Nat) : Int), ()), ((c.1, c.2.1, c.2.2.1, ()), ([] : List T4), cm, tl, s, ()))) (fun m s => m ≤ cm.length ∧ s.map (fun e => e.2.2.1) = cm.take (cm.length - m) ∧ s.map (fun e => e.2.2.2.1) = tl.take (cm.length - m)) cm.length [] (by simp) ⟨Nat.le_refl _, by simp, by simp⟩ (fun m s hI => ?_) (fun s hI => ?_)
  · obtain ⟨h1, h2, h3⟩ := hI
    have hsl : s.length = cm.length - (m + 1) := by have := congrArg List.length h2; simp at this; omega
    have hlt : (((cm.length - (m + 1) : Nat) : Int) < (cm.length : Int)) := by omega
    have hlt2 : (((cm.length - (m + 1) : Nat) : Int) < (tl.length : Int)) := by omega
    have hnn : (0 : Int) ≤ ((cm.length - (m + 1) : Nat) : Int) := by omega
    have hw : IntKind.i64.wrap (((cm.length - (m + 1) : Nat) : Int) + 1) = ((cm.length - m : Nat) : Int) := by rw [wrap_small (by omega) (by omega)]; omega
    have hap : ∀ R : T4, ((s.length + ([R] : List T4).length) * 72 ≤ 140737488355328) := fun R => by simp; omega
    have g1 := rd_get (d := Z2) hnn hlt
    have g2 := rd_get (d := Z3) hnn hlt2
    rw [show (((cm.length - (m + 1) : Nat) : Int)).toNat = cm.length - (m + 1) from rfl] at g1 g2
    refine ⟨s ++ [(Int.tmod ((cm.length - (m + 1) : Nat) : Int) 3, IntKind.i64.wrap (IntKind.i64.wrap (((cm.length - (m + 1) : Nat) : Int).tdiv 3) + 1), rd cm ((cm.length - (m + 1) : Nat) : Int) Z2, rd tl ((cm.length - (m + 1) : Nat) : Int) Z3, ())], ⟨by omega, ?_, ?_⟩, fun M rec _ => ?_⟩
    rotate_left 2
    · dsimp only
      simp only [hlt, hlt2, hnn, hap, hw, decide_true, if_true, Bool.false_eq_true, if_false, show ((3 : Int) == 0) = false from rfl]
    · rw [List.map_append, h2, show cm.length - m = cm.length - (m + 1) + 1 by omega, take_next g1]; rfl
    · rw [List.map_append, h3, show cm.length - m = cm.length - (m + 1) + 1 by omega, take_next g2]; rfl
  · obtain ⟨_, h2, h3⟩ := hI
    have h2 : s.map (fun e => e.2.2.1) = cm := by simpa using h2
    have h3 : s.map (fun e => e.2.2.2.1) = tl := by rw [h3, Nat.sub_zero, ← ht, List.take_length]
    have hlt : ¬ (((cm.length - 0 : Nat) : Int) < (cm.length : Int)) := by simp
    by_cases hs : (s.length : Int) > 1
    · obtain ⟨o, c1, e1, hc1⟩ := one_ok h (m := 30) (by decide)
      have e1 : S_Pspec_l1Cur_one (c.1, c.2.1, c.2.2.1, ()) 30 = _ := e1
      cases o with
      | true =>
        have z0 : (0 : Int) < (s.length : Int) := by omega
        have z1 : (1 : Int) < (s.length : Int) := by omega
        have z1' : 1 < s.length := by omega
        have zz : (0 : Int) ≤ 1 := by decide
        have q := List.getElem?_eq_some_iff.1 (rd_get (d := Z4) (xs := s) zz z1)
        obtain ⟨_, q⟩ := q
        refine ⟨((s.set 1 ((rd s 0 Z4).1, (rd s 1 Z4).2), ()), (c1, ())), ⟨hc1, ?_, ?_⟩, fun M rec _ => ?_⟩
        · show (s.set 1 _).map _ = _
          rw [map_set_same z1' (by rw [← q]; rfl)]; exact h2
        · show (s.set 1 _).map _ = _
          rw [map_set_same z1' (by rw [← q]; rfl)]; exact h3
        · dsimp only
          simp only [hlt, hs, decide_true, decide_false, if_true, Bool.false_eq_true, if_false]
          rw [e1, Option.bind_some]
          simp only [z0, z1, zz, Int.le_refl, decide_true, if_true]
          rfl
      | false =>
        refine ⟨((s, ()), (c1, ())), ⟨hc1, h2, h3⟩, fun M rec _ => ?_⟩
        dsimp only
        simp only [hlt, hs, decide_true, decide_false, if_true, Bool.false_eq_true, if_false]
        rw [e1, Option.bind_some]
        rfl
    · refine ⟨((s, ()), (c, ())), ⟨h.less (by omega), h2, h3⟩, fun M rec _ => ?_⟩
      dsimp only
      simp only [hlt, hs, decide_true, decide_false, if_true, Bool.false_eq_true, if_false]
theorem entries_ok {c : T14} {k : Nat} (h : Cur c (k + 130)) : ∃ E c', S_Pspec_l1Cur_entries c = some ((E, ()), (c', ())) ∧ Cur c' k ∧ goodE E := by
  have main : ∃ v : (List T4 × Unit) × (T14 × Unit), (Cur v.2.1 k ∧ goodE v.1.1) ∧ ∀ M, 10 + 7 + 1 ≤ M → p_Pspec_l1Cur_entries M c = some v := by
    obtain ⟨v0, c0, e0, hc0, p0, p1⟩ := pick_ok (k := k + 128) h (m := 8) (by decide)
    have p1 := p1 (by decide)
    have hvn : ((v0.toNat : Nat) : Int) = v0 := by omega
    unfold p_Pspec_l1Cur_entries
    rw [e0]
    simp only [Option.bind_some]
    suffices hh : ∃ v : (List T4 × Unit) × (T14 × Unit), (Cur v.2.1 k ∧ goodE v.1.1) ∧ ∀ M, 10 + v0.toNat + 1 ≤ M → _ = some v by
      obtain ⟨v, hv, hM⟩ := hh
      exact ⟨v, hv, fun M h => hM M (by omega)⟩
    refine lim_loop (σ := T14 × List T2) 10 (fun m s => (((m : Int), ()), ((s.1.1, s.1.2.1, s.1.2.2.1, ()), ([] : List T4), s.2, ()))) (fun m s => Cur s.1 (k + 2 + 16 * m) ∧ s.2.length + m ≤ 7 ∧ ∀ c ∈ s.2, gcmd c = true) v0.toNat (c0, []) (by simp only [hvn]) ⟨hc0.less (by omega), by show 0 + _ ≤ 7; omega, by simp⟩ (fun m s hI => ?_) (fun s hI => ?_)
    · obtain ⟨h1, h2, h3⟩ := hI
      obtain ⟨d, c1, e1, hc1, hd, hg⟩ := cmd_ok (k := k + 2 + 16 * m + 6) (c := s.1) (h1.less (by omega))
      have e1 : S_Pspec_l1Cur_cmd (s.1.1, s.1.2.1, s.1.2.2.1, ()) = _ := e1
      have hgt : ((m + 1 : Nat) : Int) > 0 := by omega
      have hw : IntKind.i64.wrap (((m + 1 : Nat) : Int) - 1) = (m : Int) := by rw [wrap_small (by omega) (by omega)]; omega
      have hap : ∀ R : T2, ((s.2.length + ([R] : List T2).length) * 40 ≤ 140737488355328) := fun R => by simp; omega
      have done : ∀ (R : T2) (c' : T14), Cur c' (k + 2 + 16 * m) → gcmd R = true → Cur c' (k + 2 + 16 * m) ∧ (s.2 ++ [R]).length + m ≤ 7 ∧ ∀ c ∈ s.2 ++ [R], gcmd c = true := by
        intro R c' a1 a2
        refine ⟨a1, by simp; omega, fun p hp => ?_⟩
        rcases List.mem_append.1 hp with hp | hp
        · exact h3 p hp
        · simp only [List.mem_singleton] at hp; subst hp; exact a2
      by_cases hk : d.1 = 1
      · have hk' : (d.1 == 1) = true := by simpa using hk
        obtain ⟨o, c2, e2, hc2⟩ := one_ok (k := k + 2 + 16 * m + 4) hc1 (m := 3) (by decide)
        cases o with
        | true =>
          obtain ⟨v, c3, e3, hc3, q0, q1⟩ := pick_ok (k := k + 2 + 16 * m) (hc2.less (by omega)) (m := 90) (by decide)
          have q1 := q1 (by decide)
          refine ⟨(c3, s.2 ++ [(d.1, d.2.1, d.2.2.1, d.2.2.2.1, IntKind.i64.wrap (60 + v), ())]), done _ c3 hc3 ?_, fun M rec _ => ?_⟩
          · rw [wrap_small (by omega) (by omega)]
            unfold gcmd inn at hg ⊢
            rw [hk'] at hg ⊢
            have hz : (d.1 == 0) = false := by simp [hk]
            rw [hz] at hg ⊢
            simp only [Bool.false_eq_true, if_false, if_true, Bool.and_eq_true, decide_eq_true_eq] at hg ⊢
            refine ⟨hg.1, hg.2.1, hg.2.2.1, hg.2.2.2.1, ?_, ?_⟩ <;> omega
          · dsimp only
            simp only [hgt, decide_true, if_true]
            rw [e1, Option.bind_some]
            simp only [hk', if_true, e2, Option.bind_some, e3, hap, hw, decide_true]
        | false =>
          refine ⟨(c2, s.2 ++ [d]), done _ c2 (hc2.less (by omega)) hg, fun M rec _ => ?_⟩
          dsimp only
          simp only [hgt, decide_true, if_true]
          rw [e1, Option.bind_some]
          simp only [hk', if_true, e2, Option.bind_some, hap, hw, decide_true, Bool.false_eq_true, if_false]
      · have hk' : (d.1 == 1) = false := by simpa using hk
        refine ⟨(c1, s.2 ++ [d]), done _ c1 (hc1.less (by omega)) hg, fun M rec _ => ?_⟩
        dsimp only
        simp only [hgt, decide_true, if_true]
        rw [e1, Option.bind_some]
        simp only [hk', hap, hw, decide_true, if_true, Bool.false_eq_true, if_false]
    · obtain ⟨h1, h2, h3⟩ := hI
      obtain ⟨v, ⟨g1, g2, g3⟩, hM⟩ := entries_inner (k := k) (c := s.1) (h1.less (by omega)) (cm := s.2) (tl := (playL s.2 [100, 100, 100, 100]).2) (by omega) (playL_len _ _)
      refine ⟨v, ⟨g1, goodE_of (cm := s.2) (by omega) h3 g2 g3⟩, fun M rec hb => ?_⟩
      dsimp only
      simp only [show ¬ (((0 : Nat) : Int) > 0) from by decide, decide_false, Bool.false_eq_true, if_false]
      rw [spec_play_eq (by omega) h3, Option.bind_some]
      exact hM M (by omega)
  obtain ⟨⟨⟨E, ⟨⟩⟩, c', ⟨⟩⟩, ⟨h1, h2⟩, hM⟩ := main
  exact ⟨E, c', lim_eq _ hM, h1, h2⟩
theorem sameInts_self (l : List Int) (hl : l.length ≤ maxLen) : S_laws_sameInts l l = some ((true, ()), ()) := by
  unfold S_laws_sameInts
  refine lim_eq (l.length + 1) fun N hN => ?_
  unfold p_laws_sameInts
  rw [if_neg (by simp)]
  refine loopN_over l hl (fun i (s : Unit) => ((l, l, (l.length : Int), (i : Int), ()), ())) (fun i t s => ((true, ()), ())) (fun i t s => True)
    () rfl rfl trivial hN (fun rec s h => ?_) (fun rec i b t s hat h hrec => ?_)
  · dsimp only
    simp
  · dsimp only
    simp only [hat.lt, hat.nn, hat.wrap, hat.rd, decide_true, if_true, bne_self_eq_false, Bool.false_eq_true, if_false]
    exact hrec () trivial
theorem sameLists_self (l : List (List Int)) (hl : WL.wl l) : S_laws_sameLists l l = some ((true, ()), ()) := by
  unfold S_laws_sameLists
  refine lim_eq (l.length + 1) fun N hN => ?_
  unfold p_laws_sameLists
  rw [if_neg (by simp)]
  refine loopN_over l hl.1 (fun i (s : Unit) => ((l, l, (l.length : Int), (i : Int), ()), ())) (fun i t s => ((true, ()), ())) (fun i t s => True)
    () rfl rfl trivial hN (fun rec s h => ?_) (fun rec i b t s hat h hrec => ?_)
  · dsimp only
    simp
  · dsimp only
    simp only [hat.lt, hat.nn, hat.wrap, hat.rd, decide_true, if_true, sameInts_self b (wl_mem hl hat.mem).1, Option.bind_some, Bool.not_true, Bool.false_eq_true, if_false]
    exact hrec () trivial
theorem sameVerdicts_self (l : List T5) (hl : l.length ≤ maxLen) : S_laws_sameVerdicts l l = some ((true, ()), ()) := by
  unfold S_laws_sameVerdicts
  refine lim_eq (l.length + 1) fun N hN => ?_
  unfold p_laws_sameVerdicts
  rw [if_neg (by simp)]
  refine loopN_over l hl (fun i (s : Unit) => ((l, l, (l.length : Int), (i : Int), ()), ())) (fun i t s => ((true, ()), ())) (fun i t s => True)
    () rfl rfl trivial hN (fun rec s h => ?_) (fun rec i b t s hat h hrec => ?_)
  · dsimp only
    simp
  · dsimp only
    simp only [hat.lt, hat.nn, hat.wrap, hat.rd, decide_true, if_true, beq_self_eq_true, Bool.and_true, Bool.not_true, Bool.false_eq_true, if_false]
    exact hrec () trivial
theorem laws_has_eq (l : List Int) (n : Int) (hl : l.length ≤ maxLen) : S_laws_has l n = some ((l.contains n, ()), ()) := by
  unfold S_laws_has
  refine lim_eq (l.length + 1) fun N hN => ?_
  unfold p_laws_has
  refine loopN_over l hl (fun i (s : Unit) => ((n, l, (l.length : Int), (i : Int), ()), ())) (fun i t s => ((t.contains n, ()), ())) (fun i t s => True)
    () rfl rfl trivial hN (fun rec s h => ?_) (fun rec i b t s hat h hrec => ?_)
  · dsimp only
    simp
  · dsimp only
    simp only [hat.lt, hat.nn, hat.wrap, hat.rd, decide_true, if_true, List.contains_cons]
    by_cases hb : b = n
    · simp [hb]
    · have : (b == n) = false := by simpa using hb
      have h2 : (n == b) = false := by simpa using fun h : n = b => hb h.symm
      simp only [this, h2, Bool.false_eq_true, if_false, Bool.false_or]
      exact hrec () trivial
/-- few places, few hosts -/
def goodP (P : List (List Int)) : Prop := P.length ≤ 5 ∧ ∀ p ∈ P, p.length ≤ 6 ∧ ∀ a ∈ p, 0 ≤ a ∧ a ≤ 3
theorem goodP.wl {P : List (List Int)} (h : goodP P) : WL.wl P := ⟨by rw [maxLen_eq]; have := h.1; omega, fun p hp => ⟨by rw [maxLen_eq]; have := (h.2 p hp).1; omega, fun _ _ => trivial⟩⟩
theorem cur0 {b : List Int} (hb : ∀ x ∈ b, 0 ≤ x ∧ x ≤ 255) (hl : b.length ≤ maxLen) {k : Nat} (hk : k ≤ 1000000) : Cur (b, 0, 0, ()) k := ⟨hb, hl, by simp, by show (0 : Int) + k ≤ _; omega⟩
theorem drawFull {b : List Int} (hb : ∀ x ∈ b, 0 ≤ x ∧ x ≤ 255) (hl : b.length ≤ maxLen) : ∃ n P E r, S_spec_DrawFullPart b = some ((n, P, E, r, ()), ()) ∧ goodP P ∧ goodE E := by
  unfold S_spec_DrawFullPart p_spec_DrawFullPart
  obtain ⟨n, c1, e1, hc1, hn⟩ := among_ok (k := 250) (cur0 hb hl (by decide)) (l := [3, 3, 5, 4]) (by simp) (by simp)
  have hn' : n = 3 ∨ n = 5 ∨ n = 4 := by simpa using hn
  obtain ⟨m, rfl, hm⟩ : ∃ m : Nat, n = (m : Int) ∧ m ≤ 5 := ⟨n.toNat, by omega, by omega⟩
  obtain ⟨P, c2, e2, hc2, hP⟩ := places_ok (k := 150) (hc1.less (by omega)) hm
  obtain ⟨E, c3, e3, hc3, hE⟩ := entries_ok (k := 20) (hc2.less (by omega))
  obtain ⟨v4, c4, e4, hc4, _⟩ := pick_ok (k := 10) (hc3.less (by omega)) (m := 6) (by decide)
  obtain ⟨v5, c5, e5, hc5, _⟩ := pick_ok (k := 0) (hc4.less (by omega)) (m := 9) (by decide)
  simp only [e1, e2, e3, e4, e5, Option.bind_some, show ((8 : Int) == 0) = false from rfl, Bool.false_eq_true, if_false]
  exact ⟨_, P, E, _, rfl, hP, hE⟩
theorem drawNeeds {b : List Int} (hb : ∀ x ∈ b, 0 ≤ x ∧ x ≤ 255) (hl : b.length ≤ maxLen) : ∃ E K, S_spec_DrawNeedsOf b = some ((E, K, ()), ()) ∧ goodE E ∧ K.length ≤ 4 := by
  unfold S_spec_DrawNeedsOf p_spec_DrawNeedsOf
  obtain ⟨E, c3, e3, hc3, hE⟩ := entries_ok (k := 20) (cur0 hb hl (by decide))
  obtain ⟨K, c4, e4, hc4, hK, _⟩ := keeps_ok (k := 0) (hc3.less (by omega))
  simp only [e3, e4, Option.bind_some]
  exact ⟨E, K, rfl, hE, hK⟩
theorem drawPlaces {b : List Int} (hb : ∀ x ∈ b, 0 ≤ x ∧ x ≤ 255) (hl : b.length ≤ maxLen) : ∃ n P, S_spec_DrawGoodPlaces b = some ((n, P, ()), ()) ∧ goodP P := by
  unfold S_spec_DrawGoodPlaces p_spec_DrawGoodPlaces S_Pspec_l1Cur_group p_Pspec_l1Cur_group
  obtain ⟨n, c1, e1, hc1, hn⟩ := among_ok (k := 250) (cur0 hb hl (by decide)) (l := [3, 3, 3, 5, 5, 4, 0]) (by simp) (by simp)
  have hn' : n = 3 ∨ n = 5 ∨ n = 4 ∨ n = 0 := by simpa using hn
  obtain ⟨m, rfl, hm⟩ : ∃ m : Nat, n = (m : Int) ∧ m ≤ 5 := ⟨n.toNat, by omega, by omega⟩
  obtain ⟨P, c2, e2, hc2, hP⟩ := places_ok (k := 150) (hc1.less (by omega)) hm
  simp only [e1, e2, Option.bind_some]
  exact ⟨_, P, rfl, hP⟩
theorem drawHosts {b : List Int} (hb : ∀ x ∈ b, 0 ≤ x ∧ x ≤ 255) (hl : b.length ≤ maxLen) : ∃ n P r, S_spec_DrawHostsOf b = some ((n, P, r, ()), ()) ∧ goodP P := by
  unfold S_spec_DrawHostsOf p_spec_DrawHostsOf
  obtain ⟨n, P, e1, hP⟩ := drawPlaces hb hl
  obtain ⟨v4, c4, e4, hc4, _⟩ := pick_ok (k := 10) (cur0 hb hl (by decide)) (m := 6) (by decide)
  obtain ⟨v5, c5, e5, hc5, _⟩ := pick_ok (k := 0) (hc4.less (by omega)) (m := 9) (by decide)
  simp only [e1, e4, e5, Option.bind_some, show ((8 : Int) == 0) = false from rfl, Bool.false_eq_true, if_false]
  exact ⟨_, P, _, rfl, hP⟩
theorem drawPart {b : List Int} (hb : ∀ x ∈ b, 0 ≤ x ∧ x ≤ 255) (hl : b.length ≤ maxLen) : ∃ E K V, S_spec_DrawPartBook b = some ((E, K, V, ()), ()) ∧ goodE E ∧ K.length ≤ 4 ∧ V.length ≤ 7 := by
  obtain ⟨E, c3, e3, hc3, hE⟩ := entries_ok (k := 40) (cur0 hb hl (by decide))
  have main : ∃ v : (List T4 × List Int × List T5 × Unit) × Unit, (goodE v.1.1 ∧ v.1.2.1.length ≤ 4 ∧ v.1.2.2.1.length ≤ 7) ∧ ∀ M, 0 + E.length + 1 ≤ M → p_spec_DrawPartBook M b = some v := by
    unfold p_spec_DrawPartBook
    rw [e3]
    simp only [Option.bind_some]
    refine lim_loop (σ := T14 × List T5) 0 (fun m s => (((E.length : Int), ((E.length - m : Nat) : Int), ()), (([] : List T4), ([] : List Int), ([] : List T5), (s.1.1, s.1.2.1, s.1.2.2.1, ()), E, s.2, ()))) (fun m s => m ≤ E.length ∧ Cur s.1 (20 + 2 * m) ∧ s.2.length + m ≤ 7) E.length (c3, []) (by simp) ⟨Nat.le_refl _, hc3.less (by have := hE.1; omega), by show 0 + _ ≤ 7; have := hE.1; omega⟩ (fun m s hI => ?_) (fun s hI => ?_)
    · obtain ⟨h1, h2, h3⟩ := hI
      obtain ⟨o, c1, e1, hc1⟩ := one_ok (k := 20 + 2 * m) (c := s.1) (h2.less (by omega)) (m := 6) (by decide)
      have e1 : S_Pspec_l1Cur_one (s.1.1, s.1.2.1, s.1.2.2.1, ()) 6 = _ := e1
      have hlt : (((E.length - (m + 1) : Nat) : Int) < (E.length : Int)) := by omega
      have hnn : (0 : Int) ≤ ((E.length - (m + 1) : Nat) : Int) := by omega
      have hE7 := hE.1
      have hw : IntKind.i64.wrap (((E.length - (m + 1) : Nat) : Int) + 1) = ((E.length - m : Nat) : Int) := by rw [wrap_small (by omega) (by omega)]; omega
      have hap : ∀ R : T5, ((s.2.length + ([R] : List T5).length) * 32 ≤ 140737488355328) := fun R => by simp; omega
      generalize hi : ((E.length - (m + 1) : Nat) : Int) = i at hlt hnn hw
      cases o with
      | false =>
        refine ⟨(c1, s.2 ++ [((rd E i Z4).1, (rd E i Z4).2.1, (rd E i Z4).2.2.2)]), ⟨by omega, hc1, by simp; omega⟩, fun M rec _ => ?_⟩
        dsimp only
        simp only [hlt, hnn, decide_true, if_true]
        rw [e1, Option.bind_some]
        simp only [Bool.not_false, if_true, hap, decide_true, hw]
      | true =>
        refine ⟨(c1, s.2), ⟨by omega, hc1, by show s.2.length + m ≤ 7; omega⟩, fun M rec _ => ?_⟩
        dsimp only
        simp only [hlt, hnn, decide_true, if_true]
        rw [e1, Option.bind_some]
        simp only [Bool.not_true, Bool.false_eq_true, if_false, hw]
    · obtain ⟨_, h2, h3⟩ := hI
      obtain ⟨K, c4, e4, hc4, hK, _⟩ := keeps_ok (k := 0) (c := s.1) (h2.less (by omega))
      have e4 : S_Pspec_l1Cur_keeps (s.1.1, s.1.2.1, s.1.2.2.1, ()) = _ := e4
      refine ⟨((E, K, s.2, ()), ()), ⟨hE, hK, by show s.2.length ≤ 7; omega⟩, fun M rec _ => ?_⟩
      dsimp only
      have hlt : ¬ (((E.length - 0 : Nat) : Int) < (E.length : Int)) := by simp
      simp only [hlt, decide_false, Bool.false_eq_true, if_false]
      rw [e4, Option.bind_some]
  obtain ⟨⟨⟨E', K, V, ⟨⟩⟩, ⟨⟩⟩, ⟨h1, h2, h3⟩, hM⟩ := main
  exact ⟨E', K, V, lim_eq _ hM, h1, h2, h3⟩
theorem contains_Cmd_eq {l : List T2} {p : (T2 × Unit) → Option Bool} (q : T2 → Bool) (hl : l.length ≤ maxLen) (hp : ∀ x ∈ l, p (x, ()) = some (q x)) : S_ContainsFunc_Limpl_Cmd_impl_Cmd l p = some ((l.any q, ()), ()) := by
  unfold S_ContainsFunc_Limpl_Cmd_impl_Cmd p_ContainsFunc_Limpl_Cmd_impl_Cmd
  have : S_IndexFunc_Limpl_Cmd_impl_Cmd l p = some ((idxI q l 0, ()), ()) := lim_eq (l.length + 1) fun N hN => index_gen _ l hl p q hp hN
  rw [this]
  simp only [Option.bind_some, idxI_any q l 0 (Int.le_refl 0)]
theorem playCmds_good {l : List T2} (hl : l.length ≤ 60) (hg : ∀ c ∈ l, gcmd c = true) : S_impl_PlayCmds l = some (((playL l [100, 100, 100, 100]).1, (playL l [100, 100, 100, 100]).2, true, ()), ()) := by
  unfold S_impl_PlayCmds p_impl_PlayCmds S_impl_goodCmds p_impl_goodCmds
  have h1 : (l.length : Int) ≤ 60 := by omega
  rw [contains_Cmd_eq (fun c => !gcmd c) (by rw [maxLen_eq]; omega) (fun x hx => by simp only [impl_GoodCmd_eq, Option.bind_some])]
  have h2 : (l.any fun c => !gcmd c) = false := by
    rw [List.any_eq_false]; intro c hc; simp [hg c hc]
  simp only [h1, decide_true, if_true, h2, Option.bind_some, Bool.not_false, Bool.not_true, Bool.false_eq_true, if_false, impl_playCmds_eq hl hg]
theorem tail_ok {b : List Int} (hb : ∀ x ∈ b, 0 ≤ x ∧ x ≤ 255) (hl : b.length ≤ maxLen) : ((S_spec_DrawPartBook b).bind fun y35 => ((S_impl_PartBook y35.1.1 y35.1.2.1 y35.1.2.2.1).bind fun y36 => ((S_spec_PartBook y35.1.1 y35.1.2.1 y35.1.2.2.1).bind fun y37 => ((S_spec_DrawNeedsOf b).bind fun y38 => ((S_impl_NeedsOf y38.1.1 y38.1.2.1).bind fun y39 => ((S_spec_NeedsOf y38.1.1 y38.1.2.1).bind fun y40 => ((S_impl_VerdictsOf y38.1.1 y38.1.2.1).bind fun y41 => ((S_spec_VerdictsOf y38.1.1 y38.1.2.1).bind fun y42 => ((S_spec_DrawHostsOf b).bind fun y43 => ((S_impl_HostsOf y43.1.1 y43.1.2.1 y43.1.2.2.1).bind fun y44 => ((S_spec_HostsOf y43.1.1 y43.1.2.1 y43.1.2.2.1).bind fun y45 => (if (y36.1.2.2.1 != y37.1.2.2.1) then (some ((false, ()), ())) else (if (y36.1.2.1 != y37.1.2.1) then (some ((false, ()), ())) else ((S_laws_sameInts y36.1.1 y37.1.1).bind fun y46 => (if (!y46.1.1) then (some ((false, ()), ())) else (if (y39.1.2.1 != y40.1.2.1) then (some ((false, ()), ())) else ((S_laws_sameLists y39.1.1 y40.1.1).bind fun y47 => (if (!y47.1.1) then (some ((false, ()), ())) else (if (y41.1.2.1 != y42.1.2.1) then (some ((false, ()), ())) else ((S_laws_sameVerdicts y41.1.1 y42.1.1).bind fun y48 => (if (!y48.1.1) then (some ((false, ()), ())) else (if (y44.1.2.1 != y45.1.2.1) then (some ((false, ()), ())) else ((S_laws_sameInts y44.1.1 y45.1.1).bind fun y49 => (if (!y49.1.1) then (some ((false, ()), ())) else (if y39.1.2.1 then (if ((y39.1.1.length : Int) == (0 : Int)) then ((S_impl_PartBook y38.1.1 y38.1.2.1 ([] : List T5)).bind fun y50 => (if y50.1.2.2.1 then (some (((y50.1.2.1 == (y38.1.1.length : Int)), ()), ())) else (some ((false, ()), ())))) else (some ((true, ()), ()))) else (some ((true, ()), ()))))))))))))))))))))))))))) = some ((true, ()), ()) := by
  obtain ⟨E, K, V, e1, hE, hK, hV⟩ := drawPart hb hl
  obtain ⟨E2, K2, e2, hE2, hK2⟩ := drawNeeds hb hl
  obtain ⟨n, P, r, e3, hP⟩ := drawHosts hb hl
  have hE7 := hE.1
  have hE27 := hE2.1
  have hP5 := hP.1
  have iP := impl_PartBook_eq E K V (by omega) (by omega) (by rw [maxLen_eq]; omega)
  have sP := spec_PartBook_eq E K V (by omega) (by omega) (by rw [maxLen_eq]; omega)
  have iP2 := impl_PartBook_eq E2 K2 [] (by omega) (by omega) (by simp)
  have iN := impl_NeedsOf_eq E2 K2 (by omega) (by omega)
  have sN := spec_NeedsOf_eq E2 K2 (by omega) (by omega)
  have iV := impl_VerdictsOf_eq E2 K2 (by omega) (by omega)
  have sV := spec_VerdictsOf_eq E2 K2 (by omega) (by omega)
  have iH := impl_HostsOf_eq n P r hP.wl (by omega)
  have sH := spec_HostsOf_eq n P r hP.wl (by omega)
  have x1 : (if entriesOk E && keepsOk K then partRes E K V else ([], 0, false, ())).1.length ≤ maxLen := by
    rw [maxLen_eq]; split
    · show (List.map _ K).length ≤ _; rw [List.length_map]; omega
    · simp
  generalize (if entriesOk E && keepsOk K then partRes E K V else ([], 0, false, ())) = X1 at iP sP x1
  have x3 : (if placesOk n P && inn r 0 3 then (hostsOf r P 0, true, ()) else ([], false, ())).1.length ≤ maxLen := by
    rw [maxLen_eq]; split
    · show (hostsOf r P 0).length ≤ _; have := hostsOf_len r P 0; omega
    · simp
  generalize (if placesOk n P && inn r 0 3 then (hostsOf r P 0, true, ()) else ([], false, ())) = X3 at iH sH x3
  simp only [e1, e2, e3, iP, sP, iN, sN, iV, sV, iH, sH, Option.bind_some, bne_self_eq_false, Bool.false_eq_true, if_false, sameInts_self _ x1, sameInts_self _ x3, Bool.not_true]
  cases hc : entriesOk E2 && keepsOk K2 with
  | false =>
    simp only [Bool.false_eq_true, if_false, sameLists_self [] ⟨by simp, by simp⟩, sameVerdicts_self [] (by simp), Option.bind_some, Bool.not_true]
  | true =>
    have hn := needs_len K2 E2
    have hv := verds_len K2 E2
    simp only [if_true, sameLists_self (needs K2 E2) ⟨by rw [maxLen_eq]; omega, fun x hx => wl_ints (by rw [needs_two K2 E2 x hx, maxLen_eq]; omega)⟩, sameVerdicts_self (verds K2 E2) (by rw [maxLen_eq]; omega), Option.bind_some, Bool.not_true, Bool.false_eq_true, if_false]
    by_cases hz : needs K2 E2 = []
    · have hp := part_noneeds (K := K2) (V := []) E2 [100, 100, 100, 100] 0 hz
      simp only [hz, List.length_nil, iP2, hc, if_true, Option.bind_some, partRes, hp]
      simp
    · have : (((needs K2 E2).length : Int) == 0) = false := by
        have := List.length_pos_iff.2 hz
        simp; omega
      simp only [this, Bool.false_eq_true, if_false]
theorem hosts_mem {a : Int} {K : List Int} (hK : K.contains a = true) : ∀ (P : List (List Int)) (i : Int) (j : Nat), P[j]? = some K → i + (j : Int) ∈ hostsOf a P i
  | [], i, j, h => by simp at h
  | k :: t, i, 0, h => by
    obtain rfl : k = K := by simpa using h
    simp only [hostsOf, hK, if_true]
    simp
  | k :: t, i, j + 1, h => by
    have := hosts_mem hK t (i + 1) j (by simpa using h)
    rw [show i + ((j + 1 : Nat) : Int) = i + 1 + (j : Int) by omega]
    simp only [hostsOf]
    split
    · exact List.mem_cons_of_mem _ this
    · exact this
theorem playL_sums : ∀ (l : List T2) (s : List Int), (playL l s).1.length = s.length
  | [], s => rfl
  | c :: t, s => by simp [playL, playL_sums t, nextS_len]
theorem rd_map {α β : Type} {l : List α} {f : α → β} {i : Nat} {a : α} {d : β} (h : l[i]? = some a) : rd (l.map f) (i : Int) d = f a := by
  have hlt : i < (l.map f).length := by
    rw [List.length_map]; exact (List.getElem?_eq_some_iff.1 h).1
  have := rd_get (d := d) (xs := l.map f) (i := (i : Int)) (by omega) (by omega)
  rw [show ((i : Int)).toNat = i from rfl, List.getElem?_map, h] at this
  simpa using this.symm
theorem wf_bytes {l : List Int} (h : ∀ x ∈ l, (decide (IntKind.u8.min ≤ x) && decide (x ≤ IntKind.u8.max)) = true) : ∀ x ∈ l, 0 ≤ x ∧ x ≤ 255 := by
  intro x hx
  have := h x hx
  have h1 : IntKind.u8.min = 0 := by rfl
  have h2 : IntKind.u8.max = 255 := by rfl
  rw [h1, h2] at this
  simp at this
  omega
theorem law_Places (a b : List Int) (ha : ∀ x ∈ a, 0 ≤ x ∧ x ≤ 255) (hb : ∀ x ∈ b, 0 ≤ x ∧ x ≤ 255) {N : Nat} (hN : 30 ≤ N) : p_laws_FnPlaces N a b = some ((true, ()), ()) := by
  have hbig : S_laws_big a b = some ((true, ()), ()) ∨ (S_laws_big a b = some ((false, ()), ()) ∧ a.length ≤ maxLen ∧ b.length ≤ maxLen) := by
    unfold S_laws_big p_laws_big
    by_cases h1 : (a.length : Int) > 1048576
    · left; simp only [h1, decide_true, if_true]
    · simp only [h1, decide_false, Bool.false_eq_true, if_false]
      rw [wrap_small (by omega) (by omega)]
      by_cases h2 : (b.length : Int) > 1048576 - (a.length : Int)
      · left; simp only [h2, decide_true]
      · right
        refine ⟨by simp only [h2, decide_false], ?_, ?_⟩ <;> (rw [maxLen_eq]; omega)
  unfold p_laws_FnPlaces
  rcases hbig with hbig | ⟨hbig, hla, hlb⟩
  · rw [hbig, Option.bind_some]; rfl
  rw [hbig, Option.bind_some]
  simp only [Bool.false_eq_true, if_false]
  obtain ⟨n, P, E, r, e1, hP, hE⟩ := drawFull ha hla
  have hE7 := hE.1
  have hP5 := hP.1
  have iF := impl_FullPart_eq n P E r hP.wl (fun k hk => by have := (hP.2 k hk).1; omega) (by omega)
  have sF := spec_FullPart_eq n P E r hP.wl (fun k hk => by have := (hP.2 k hk).1; omega) (by omega)
  have iG := impl_GoodPlaces_eq n P hP.wl
  have sG := spec_GoodPlaces_eq n P hP.wl
  have hX : ∃ (H : List Int) (ok : Bool), (if placesOk n P && (entriesOk E && inn r 0 (n - 1)) then fullRes P E (rd P r []) else ([], false, ())) = (H, ok, ()) ∧ H.length ≤ maxLen ∧
      (ok = true → placesOk n P = true ∧ entriesOk E = true ∧ (0 ≤ r ∧ r ≤ n - 1) ∧ (partS (rd P r []) (knownAll E P) E [100, 100, 100, 100] 0).2 = 0 + (E.length : Int) ∧ H = (rd P r []).map fun a => rd (partS (rd P r []) (knownAll E P) E [100, 100, 100, 100] 0).1 a 0) := by
    cases hC : placesOk n P && (entriesOk E && inn r 0 (n - 1)) with
    | false => exact ⟨[], false, by simp, by simp, by simp⟩
    | true =>
      rw [Bool.and_eq_true, Bool.and_eq_true, inn_iff] at hC
      obtain ⟨c1, c2, c3⟩ := hC
      simp only [if_true]
      unfold fullRes
      by_cases hlt : (partS (rd P r []) (knownAll E P) E [100, 100, 100, 100] 0).2 < (E.length : Int)
      · exact ⟨[], false, by simp [hlt], by simp, by simp⟩
      · have hle := part_le (K := rd P r []) (V := knownAll E P) E [100, 100, 100, 100] 0
        refine ⟨_, true, by simp only [hlt, if_false], ?_, fun _ => ⟨c1, c2, c3, by omega, rfl⟩⟩
        obtain ⟨p1, p2, p3⟩ := placesOk_at c1
        have hm := (hP.2 _ (List.mem_of_getElem? (rd_get (d := ([] : List Int)) c3.1 (by omega)))).1
        rw [List.length_map, maxLen_eq]; omega
  obtain ⟨H, ok, hX, hH, hok⟩ := hX
  rw [hX] at iF sF
  simp only [e1, Option.bind_some, iF, sF, iG, sG, bne_self_eq_false, Bool.false_eq_true, if_false, sameInts_self H hH, Bool.not_true]
  cases ok with
  | false =>
    simp only [Bool.false_eq_true, if_false]
    exact tail_ok hb hlb
  | true =>
    simp only [if_true]
    obtain ⟨c1, c2, c3, c4, c5⟩ := hok rfl
    obtain ⟨p1, p2, p3⟩ := placesOk_at c1
    have hr : r < (P.length : Int) := by omega
    have hKat := rd_get (d := ([] : List Int)) c3.1 hr
    have hKm := List.mem_of_getElem? hKat
    have hK6 := hP.2 _ hKm
    have hE8 : E.length ≤ maxLen := by rw [maxLen_eq]; omega
    have hg : ∀ c ∈ E.map (fun e => e.2.2.1), gcmd c = true := by
      intro c hc
      obtain ⟨e, he, rfl⟩ := List.mem_map.1 hc
      exact hE.2.1 e he
    have hpc := playCmds_good (l := E.map fun e => e.2.2.1) (by rw [List.length_map]; omega) hg
    have hsl := playL_sums (E.map fun e => e.2.2.1) [100, 100, 100, 100]
    have hpl := part_play (K := rd P r []) (V := knownAll E P) hK6.2 E (s := [100, 100, 100, 100]) (s' := [100, 100, 100, 100]) (i := 0) rfl rfl hE.2.1 hE.2.2 (known_told c2) (fun _ _ => rfl) c4
    have htl := hE.2.2
    have hk3 := p3 _ hKm
    generalize hKe : rd P r [] = K at c4 c5 hKat hKm hK6 hpl hk3
    generalize (playL (E.map fun e => e.2.2.1) [100, 100, 100, 100]).1 = S at hpc hsl hpl
    generalize (playL (E.map fun e => e.2.2.1) [100, 100, 100, 100]).2 = T at hpc htl
    have hHK : H.length = K.length := by rw [c5, List.length_map]
    have hTE : T.length = E.length := by rw [← htl, List.length_map]
    have hK8 : K.length ≤ maxLen := by rw [maxLen_eq]; have := hK6.1; omega
    refine loopN_over E hE8 (fun i (s : List T2) => ((b, n, P, r, (E.length : Int), (i : Int), ()), (E, H, H, s, ()))) (fun i t s => ((true, ()), ())) (fun i t s => s ++ t.map (fun e => e.2.2.1) = E.map (fun e => e.2.2.1) ∧ s.length ≤ i) [] rfl rfl ⟨by simp, by simp⟩ (by omega) (fun rec s h => ?_) (fun rec i e t s hat h hrec => ?_)
    rotate_left
    · dsimp only
      have hil := hat.ltn
      have hap : ∀ R : T2, ((s.length + ([R] : List T2).length) * 40 ≤ 140737488355328) := fun R => by have := h.2; simp; omega
      simp only [hat.lt, hat.nn, hat.wrap, hat.rd, decide_true, if_true, hap]
      exact hrec (s ++ [e.2.2.1]) ⟨by rw [← h.1]; simp, by have := h.2; simp; omega⟩
    have hs : s = E.map fun e => e.2.2.1 := by simpa using h.1
    subst hs
    dsimp only
    rw [if_neg (by simp), hpc, Option.bind_some]
    have q1 : (0 : Int) ≤ r := c3.1
    simp only [Bool.not_true, Bool.false_eq_true, if_false, q1, hr, decide_true, if_true, hKe, hHK, hTE, hsl, bne_self_eq_false, List.length_cons, List.length_nil, show (((0 + 1 + 1 + 1 + 1 : Nat) : Int) != 4) = false from rfl]
    refine loopN_over E hE8 (fun i (s : Unit) => ((b, n, P, r, true, (E.length : Int), (i : Int), ()), (E, H, H, E.map (fun e => e.2.2.1), S, T, ()))) (fun i t s => ((true, ()), ())) (fun i t s => True) () rfl rfl trivial (by omega) (fun rec s h => ?_) (fun rec i e t s hat h hrec => ?_)
    rotate_left
    · dsimp only
      have hil := hat.ltn
      have ht : rd T (i : Int) Z3 = e.2.2.2.1 := by rw [← htl]; exact rd_map hat.get
      have hit : (i : Int) < (T.length : Int) := by omega
      simp only [hat.lt, hat.nn, hat.wrap, hat.rd, decide_true, if_true, ht, hit, beq_self_eq_true, Bool.and_true]
      exact hrec () trivial
    dsimp only
    rw [if_neg (by simp)]
    simp only [q1, hr, decide_true, if_true, hKe]
    refine loopN_over K hK8 (fun i (s : Unit) => ((b, n, P, r, true, K, (K.length : Int), (i : Int), ()), (E, H, H, E.map (fun e => e.2.2.1), S, T, ()))) (fun i t s => ((true, ()), ())) (fun i t s => True) () rfl rfl trivial (by have := hK6.1; omega) (fun rec s h => ?_) (fun rec i e t s hat h hrec => ?_)
    rotate_left
    · dsimp only
      have hil := hat.ltn
      have hiH : (i : Int) < (H.length : Int) := by omega
      have he := hK6.2 e hat.mem
      have heS : e < (S.length : Int) := by rw [hsl]; show e < 4; omega
      have hv : rd H (i : Int) 0 = rd S e 0 := by
        rw [c5, rd_map hat.get]; exact hpl e hat.mem
      have hin : inn e 0 3 = true := inn_iff.2 he
      have hh : (hostsOf e P 0).contains r = true := by
        have := hosts_mem (a := e) (K := K) (by simpa using hat.mem) P 0 r.toNat hKat
        rw [show (0 : Int) + (r.toNat : Int) = r by omega] at this
        simpa using this
      simp only [hat.lt, hat.nn, hat.wrap, hat.rd, decide_true, if_true, hiH, he.1, heS, hv, bne_self_eq_false, Bool.false_eq_true, if_false, impl_HostsOf_eq n P e hP.wl (by omega), c1, hin, Bool.and_self, Option.bind_some, Bool.not_true, laws_has_eq (hostsOf e P 0) r (by have := hostsOf_len e P 0; rw [maxLen_eq]; omega), hh]
      exact hrec () trivial
    dsimp only
    rw [if_neg (by simp)]
    exact tail_ok hb hlb
theorem law_PlacesW (a b : List Int) (ha : ∀ x ∈ a, (decide (IntKind.u8.min ≤ x) && decide (x ≤ IntKind.u8.max)) = true) (hb : ∀ x ∈ b, (decide (IntKind.u8.min ≤ x) && decide (x ≤ IntKind.u8.max)) = true) : p_laws_FnPlaces 40 a b = some ((true, ()), ()) :=
  law_Places a b (wf_bytes ha) (wf_bytes hb) (by decide)
end Go.AM.P
