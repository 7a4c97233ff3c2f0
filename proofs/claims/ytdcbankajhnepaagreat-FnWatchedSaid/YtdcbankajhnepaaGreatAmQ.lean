/- Lemmas on what functions do to data. No condition. -/
import Derived.Test.YtdcbankajhnepaaGreatAmP
set_option linter.unusedVariables false
set_option linter.unusedSimpArgs false
set_option maxRecDepth 4000
namespace Go.AM.P
open Go.AM
class WL (α : Type) where
 wl : α → Prop
instance : WL Int := ⟨fun _ => True⟩
instance : WL Bool := ⟨fun _ => True⟩
instance : WL Unit := ⟨fun _ => True⟩
instance : WL ByteArray := ⟨fun s => s.size ≤ maxLen⟩
instance {α β : Type} [WL α] [WL β] : WL (α × β) := ⟨fun x => WL.wl x.1 ∧ WL.wl x.2⟩
instance {α : Type} [WL α] : WL (List α) := ⟨fun l => l.length ≤ maxLen ∧ ∀ x ∈ l, WL.wl x⟩
theorem wl_mem {α : Type} [WL α] {l : List α} (h : WL.wl l) {x : α} (hx : x ∈ l) : WL.wl x := h.2 x hx
class Cnt (α : Type) where
 cnt : α → Nat
instance : Cnt Int := ⟨fun _ => 0⟩
instance : Cnt Bool := ⟨fun _ => 0⟩
instance : Cnt Unit := ⟨fun _ => 0⟩
instance : Cnt ByteArray := ⟨fun s => s.size⟩
instance {α β : Type} [Cnt α] [Cnt β] : Cnt (α × β) := ⟨fun x => Cnt.cnt x.1 + Cnt.cnt x.2⟩
def sumCnt {α : Type} (f : α → Nat) : List α → Nat
 | [] => 0
 | x :: r => f x + sumCnt f r
instance {α : Type} [Cnt α] : Cnt (List α) := ⟨fun l => l.length + sumCnt Cnt.cnt l⟩
theorem le_sumCnt {α : Type} (f : α → Nat) {l : List α} {x : α} (h : x ∈ l) : f x ≤ sumCnt f l := by
 induction l with
 | nil => cases h
 | cons y r ih =>
  simp only [sumCnt]
  rcases List.mem_cons.1 h with rfl | h
  ·omega
  ·have := ih h; omega
open Classical in
noncomputable def same {α : Type} (a b : α) : Bool := decide (a = b)
theorem same_iff {α : Type} {a b : α} : same a b = true ↔ a = b := by simp [same]
theorem same_self {α : Type} (a : α) : same a a = true := same_iff.2 rfl
theorem same_cons {α : Type} (a b : α) (s t : List α) : same (a :: s) (b :: t) = (same a b && same s t) := by
 rw [Bool.eq_iff_iff]; simp [same_iff]
theorem same_bne (a b : Int) : (a != b) = !same a b := by
 by_cases h : a = b
 ·subst h; simp [same_self]
 ·have : same a b = false := by rw [Bool.eq_false_iff]; intro h2; exact h (same_iff.1 h2)
  simp [this, h]
def inn (n lo hi : Int) : Bool := decide (lo ≤ n) && decide (n ≤ hi)
theorem inn_iff {n lo hi : Int} : inn n lo hi = true ↔ lo ≤ n ∧ n ≤ hi := by simp [inn]
theorem spec_l1In_eq (a b c : Int) : S_spec_l1In a b c = some ((inn a b c, ()), ()) := by
 unfold S_spec_l1In p_spec_l1In inn
 by_cases h : b ≤ a <;> simp [h]
theorem impl_within_eq (a b c : Int) : S_impl_within a b c = some ((inn a b c, ()), ()) := by
 unfold S_impl_within p_impl_within inn
 by_cases h : b ≤ a <;> simp [h]
def grp (n : Int) : Bool := n == 3 || n == 5
theorem grp_iff {n : Int} : grp n = true ↔ n = 3 ∨ n = 5 := by simp [grp]
theorem spec_IsGroup_eq (n : Int) : S_spec_IsGroup n = some ((grp n, ()), ()) := by
 unfold S_spec_IsGroup p_spec_IsGroup grp
 by_cases h : n = 3 <;> simp [h]
theorem impl_IsGroup_eq (n : Int) : S_impl_IsGroup n = some ((grp n, ()), ()) := by
 unfold S_impl_IsGroup p_impl_IsGroup grp
 by_cases h : n = 3 <;> simp [h]
theorem grp_wrap {n : Int} (h : grp n = true) : IntKind.i64.wrap (n - 1) = n - 1 := by
 rw [grp_iff] at h; apply wrap_small <;> omega
theorem spec_l1Has_eq (l : List Int) (n : Int) (hl : l.length ≤ maxLen) : S_spec_l1Has l n = some ((l.contains n, ()), ()) := by
 unfold S_spec_l1Has
 refine lim_eq (l.length + 1) fun N hN => ?_
 unfold p_spec_l1Has
 refine loopN_over l hl (fun i (s : Unit) => ((n, l, (l.length : Int), (i : Int), ()), ())) (fun i t s => ((t.contains n, ()), ())) (fun i t s => True)
  () rfl rfl trivial hN (fun rec s h => ?_) (fun rec i b t s hat h hrec => ?_)
 ·dsimp only
  simp
 ·dsimp only
  simp only [hat.lt, hat.nn, hat.wrap, hat.rd, decide_true, if_true, List.contains_cons]
  by_cases hb : b = n
  ·simp [hb]
  ·have : (b == n) = false := by simpa using hb
   have h2 : (n == b) = false := by simpa using fun h : n = b => hb h.symm
   simp only [this, h2, Bool.false_eq_true, if_false, Bool.false_or]
   exact hrec () trivial
def idxI {β : Type} (q : β → Bool) : List β → Int → Int
 | [], _ => -1
 | b :: t, i => if q b then i else idxI q t (i + 1)
theorem idxI_any {β : Type} (q : β → Bool) : ∀ (l : List β) (i : Int), 0 ≤ i → decide (idxI q l i ≥ 0) = l.any q
 | [], i, h => by simp [idxI]
 | b :: t, i, h => by
  cases hb : q b with
  | true => simp [idxI, hb, h]
  | false => simp only [idxI, hb, Bool.false_eq_true, if_false, List.any_cons, Bool.false_or]; exact idxI_any q t (i + 1) (by omega)
theorem index_gen {β : Type} (z : β) (l : List β) (hl : l.length ≤ maxLen) (p : (β × Unit) → Option Bool) (q : β → Bool) (hp : ∀ x ∈ l, p (x, ()) = some (q x)) {N : Nat} (hN : l.length < N) :
  (loopN N (fun rec1 (d2 : (List β × ((β × Unit) → Option Bool) × Int × Int × Unit) × (Unit)) => (if (decide (d2.1.2.2.2.1 < d2.1.2.2.1)) then (if (decide (0 ≤ d2.1.2.2.2.1)) then (if (decide (d2.1.2.2.2.1 < d2.1.1.length)) then ((d2.1.2.1 ((rd d2.1.1 d2.1.2.2.2.1 z), ())).bind fun y3 => (if y3 then (some ((d2.1.2.2.2.1, ()), ())) else (rec1 ((d2.1.1, d2.1.2.1, d2.1.2.2.1, (IntKind.i64.wrap (d2.1.2.2.2.1 + (1 : Int))), ()), (()))))) else none) else none) else (some (((-1 : Int), ()), ())))) ((l, p, (l.length : Int), (0 : Int), ()), (())))
   = some ((idxI q l 0, ()), ()) := by
 refine loopN_over l hl (fun i (s : Unit) => ((l, p, (l.length : Int), (i : Int), ()), ())) (fun i t s => ((idxI q t (i : Int), ()), ())) (fun i t s => True)
  () rfl rfl trivial hN (fun rec s h => ?_) (fun rec i b t s hat h hrec => ?_)
 ·dsimp only
  simp [idxI]
 ·dsimp only
  simp only [hat.lt, hat.nn, hat.wrap, hat.rd, decide_true, if_true, hp b hat.mem, Option.bind_some, idxI]
  cases q b with
  | true => simp
  | false => simp only [Bool.false_eq_true, if_false]; exact hrec () trivial
theorem IndexFunc_LLint_eq {l : List (List Int)} {p : (List Int × Unit) → Option Bool} (q : List Int → Bool) (hl : l.length ≤ maxLen) (hp : ∀ x ∈ l, p (x, ()) = some (q x)) : S_IndexFunc_LLint_Lint l p = some ((idxI q l 0, ()), ()) :=
 lim_eq (l.length + 1) fun N hN => index_gen [] l hl p q hp hN
theorem IndexFunc_Lint_eq {l : List Int} {p : (Int × Unit) → Option Bool} (q : Int → Bool) (hl : l.length ≤ maxLen) (hp : ∀ x ∈ l, p (x, ()) = some (q x)) : S_IndexFunc_Lint_int l p = some ((idxI q l 0, ()), ()) :=
 lim_eq (l.length + 1) fun N hN => index_gen 0 l hl p q hp hN
theorem ContainsFunc_Lint_eq {l : List Int} {p : (Int × Unit) → Option Bool} (q : Int → Bool) (hl : l.length ≤ maxLen) (hp : ∀ x ∈ l, p (x, ()) = some (q x)) : S_ContainsFunc_Lint_int l p = some ((l.any q, ()), ()) := by
 unfold S_ContainsFunc_Lint_int p_ContainsFunc_Lint_int
 rw [IndexFunc_Lint_eq q hl hp]
 simp only [Option.bind_some, idxI_any q l 0 (Int.le_refl 0)]
def prv {β : Type} (l : List β) (i : Nat) : Option β := if i = 0 then none else l[i - 1]?
theorem prv_zero {β : Type} (l : List β) : prv l 0 = none := rfl
theorem prv_succ {β : Type} {l : List β} {i : Nat} {b : β} (h : l[i]? = some b) : prv l (i + 1) = some b := by simp [prv, h]
theorem prv_pos {β : Type} {l : List β} (hl : l.length ≤ maxLen) {i : Nat} (h : 0 < i) (hi : i < l.length) :
  ∃ c, prv l i = some c ∧ (∀ d, rd l (IntKind.i64.wrap ((i : Int) - 1)) d = c) ∧ (0 : Int) ≤ IntKind.i64.wrap ((i : Int) - 1) ∧ IntKind.i64.wrap ((i : Int) - 1) < (l.length : Int) ∧ c ∈ l := by
 rw [maxLen_eq] at hl
 have hw : IntKind.i64.wrap ((i : Int) - 1) = ((i - 1 : Nat) : Int) := by rw [wrap_small (by omega) (by omega)]; omega
 have hg : l[i - 1]? = some (l[i - 1]'(by omega)) := List.getElem?_eq_getElem (by omega)
 refine ⟨l[i - 1]'(by omega), by rw [prv, if_neg (by omega), hg], fun d => ?_, by rw [hw]; omega, by rw [hw]; omega, List.getElem_mem _⟩
 rw [hw, rd_nat, List.getD_eq_getElem?_getD, hg]; rfl
theorem not_any_not {β : Type} (l : List β) (q : β → Bool) : (!l.any fun x => !q x) = l.all q := by
 induction l with
 | nil => rfl
 | cons b t ih => rw [List.any_cons, List.all_cons, Bool.not_or, Bool.not_not, ih]
def inst (n r k : Int) : Bool := inn r 0 (n - 1) && inn k 1 6
theorem spec_l3Inst_eq {n : Int} (hn : grp n = true) (r k : Int) : S_spec_l3Inst n r k = some ((inst n r k, ()), ()) := by
 unfold S_spec_l3Inst p_spec_l3Inst inst
 rw [grp_wrap hn, spec_l1In_eq]
 simp only [Option.bind_some, spec_l1In_eq]
 cases inn r 0 (n - 1) <;> simp
theorem impl_isInstance_eq {n : Int} (hn : grp n = true) (r k : Int) : S_impl_isInstance n r k = some ((inst n r k, ()), ()) := by
 unfold S_impl_isInstance p_impl_isInstance inst
 rw [grp_wrap hn, impl_IsGroup_eq, hn, impl_within_eq]
 simp only [Option.bind_some, if_true, impl_within_eq]
 cases inn r 0 (n - 1) <;> simp
def cmpI (a b : Int) : Int := if a < b then -1 else if a > b then 1 else 0
theorem cmp_Compare_eq (a b : Int) : S_cmp_Compare_int a b = some ((cmpI a b, ()), ()) := by
 unfold S_cmp_Compare_int p_cmp_Compare_int S_cmp_isNaN_int p_cmp_isNaN_int cmpI
 by_cases h : a < b
 ·simp [h]
 ·by_cases h2 : b < a <;> simp [h, h2]
def cmpL : List Int → List Int → Int
 | [], [] => 0
 | [], _ :: _ => -1
 | _ :: _, [] => 1
 | a :: s, b :: t => if cmpI a b != 0 then cmpI a b else cmpL s t
theorem Compare_Lint_eq (l m : List Int) (hl : l.length ≤ maxLen) (hm : m.length ≤ maxLen) : S_Compare_Lint_int l m = some ((cmpL l m, ()), ()) := by
 unfold S_Compare_Lint_int
 refine lim_eq (l.length + 1) fun N hN => ?_
 unfold p_Compare_Lint_int
 refine loopN_over l hl (fun i (s : Unit) => ((l, m, l, (l.length : Int), (i : Int), ()), ())) (fun i t s => ((cmpL t (m.drop i), ()), ())) (fun i t s => i ≤ m.length)
  () rfl rfl (by omega) hN (fun rec s h => ?_) (fun rec i b t s hat h hrec => ?_)
 ·dsimp only
  simp only [lenInt_lt_irrefl, decide_false, Bool.false_eq_true, if_false]
  rcases Nat.lt_or_ge l.length m.length with h1 | h1
  ·rw [List.drop_eq_getElem_cons h1, decide_eq_true (by omega)]; rfl
  ·rw [List.drop_eq_nil_of_le h1, decide_eq_false (by omega)]; rfl
 ·dsimp only
  simp only [hat.lt, hat.nn, hat.wrap, hat.rd, decide_true, if_true]
  rcases Nat.lt_or_ge i m.length with h1 | h1
  ·have hb := At.of hm (List.drop_eq_getElem_cons h1)
   rw [decide_eq_false (by omega)]
   simp only [hb.lt, hb.rd, hb.drop, Bool.false_eq_true, if_false, decide_true, if_true, cmp_Compare_eq, Option.bind_some, cmpL]
   by_cases hc : (cmpI b (m[i]'h1) != 0) = true
   ·simp [hc]
   ·simp only [hc]; exact hrec () (by omega)
  ·rw [List.drop_eq_nil_of_le h1, decide_eq_true (by omega)]; rfl
def pairLt : List Int → List Int → Bool
 | [c, d], [a, b] => decide (c < a) || (decide (c = a) && decide (d < b))
 | _, _ => true
def instOf (n : Int) : List Int → Bool
 | [a, b] => inst n a b
 | _ => false
def ltO : Option (List Int) → List Int → Bool
 | some y, x => pairLt y x
 | none, _ => true
def doneB (n : Int) : Option (List Int) → List (List Int) → Bool
 | _, [] => true
 | p, x :: t => instOf n x && ltO p x && doneB n (some x) t
theorem two_of {x : List Int} : ((x.length : Int) != 2) = false → ∃ a b, x = [a, b] := by
 intro h
 simp only [bne_eq_false_iff_eq] at h
 match x, h with
 | [a, b], _ => exact ⟨a, b, rfl⟩
 | [], h => simp at h
 | [_], h => simp at h
 | _ :: _ :: _ :: _, h => simp at h; omega
theorem not_two {n : Int} {x : List Int} (h : ((x.length : Int) != 2) = true) : instOf n x = false := by
 match x, h with
 | [a, b], h => simp at h
 | [], h => rfl
 | [_], h => rfl
 | _ :: _ :: _ :: _, h => rfl
theorem spec_l18Done_eq {n : Int} (hn : grp n = true) (l : List (List Int)) (hl : l.length ≤ maxLen) : S_spec_l18Done n l = some ((doneB n none l, ()), ()) := by
 unfold S_spec_l18Done
 refine lim_eq (l.length + 1) fun N hN => ?_
 unfold p_spec_l18Done
 refine loopN_over l hl (fun i (s : Unit) => ((n, l, l, (l.length : Int), (i : Int), ()), ())) (fun i t s => ((doneB n (prv l i) t, ()), ())) (fun i t s => ∀ y, prv l i = some y → ∃ c d, y = [c, d])
  () rfl rfl (fun y h => by cases h) hN (fun rec s h => ?_) (fun rec i b t s hat h hrec => ?_)
 ·dsimp only
  simp [doneB]
 ·have hlt := hat.ltn
  have hrec := hrec ()
  rw [prv_succ hat.get] at hrec
  dsimp only
  simp only [hat.lt, hat.nn, hat.wrap, hat.rd, decide_true, if_true]
  cases h2 : ((b.length : Int) != 2) with
  | true =>
   simp only [if_true, doneB, not_two h2, Bool.false_and]
  | false =>
   obtain ⟨x, y, rfl⟩ := two_of h2
   have hrec := hrec fun z hz => ⟨x, y, by simpa using hz.symm⟩
   have h3 : (0 : Int) < (([x, y] : List Int).length : Int) := by simp
   have h4 : (1 : Int) < (([x, y] : List Int).length : Int) := by simp
   have r0 : ∀ d, rd [x, y] (0 : Int) d = x := fun d => rfl
   have r1 : ∀ d, rd [x, y] (1 : Int) d = y := fun d => rfl
   simp only [Bool.false_eq_true, if_false, Int.le_refl, decide_true, if_true, h3, h4, r0, r1, spec_l3Inst_eq hn, Option.bind_some, doneB, instOf, show (0 : Int) ≤ 1 by omega]
   cases hi : inst n x y with
   | false => simp
   | true =>
    simp only [Bool.not_true, Bool.false_eq_true, if_false, Bool.true_and]
    rcases Nat.eq_zero_or_pos i with rfl | hi0
    ·rw [decide_eq_false (by omega)]
     simp only [Bool.false_eq_true, if_false, prv_zero, ltO, Bool.true_and]
     exact hrec
    ·obtain ⟨c, q1, q2, q3, q4, _⟩ := prv_pos hl hi0 hlt
     obtain ⟨u, v, rfl⟩ := h c q1
     have h5 : (0 : Int) < (([u, v] : List Int).length : Int) := by simp
     have h6 : (1 : Int) < (([u, v] : List Int).length : Int) := by simp
     have r2 : ∀ d, rd [u, v] (0 : Int) d = u := fun d => rfl
     have r3 : ∀ d, rd [u, v] (1 : Int) d = v := fun d => rfl
     rw [decide_eq_true (by omega)]
     simp only [if_true, q1, q2, q3, q4, decide_true, Int.le_refl, h5, h6, r2, r3, show (0 : Int) ≤ 1 by omega, ltO, pairLt]
     rcases Int.lt_trichotomy u x with hux | hux | hux
     ·rw [decide_eq_false (by omega), decide_eq_true hux]
      have : (u == x) = false := by simp; omega
      simp only [this, Bool.false_eq_true, if_false, Bool.true_or, Bool.true_and]
      exact hrec
     ·subst hux
      simp only [Int.lt_irrefl, gt_iff_lt, decide_false, Bool.false_eq_true, if_false, beq_self_eq_true, if_true, decide_true, Bool.false_or, Bool.true_and]
      by_cases hv : v < y
      ·rw [decide_eq_false (by omega), decide_eq_true hv]
       simp only [Bool.false_eq_true, if_false, Bool.true_and]
       exact hrec
      ·rw [decide_eq_true (by omega), decide_eq_false hv]
       simp
     ·have n1 : ¬ u < x := by omega
      have n2 : ¬ u = x := by omega
      simp [n1, n2, hux]
theorem cmpL_two (a b c d : Int) : decide (cmpL [c, d] [a, b] ≥ 0) = !pairLt [c, d] [a, b] := by
 simp only [cmpL, cmpI, pairLt]
 rcases Int.lt_trichotomy c a with h | h | h
 ·simp [h]
 ·subst h
  rcases Int.lt_trichotomy d b with h | h | h
  ·simp [h]
  ·subst h; simp
  ·have h1 : ¬ d < b := by omega
   simp [h, h1]
 ·have h1 : ¬ c < a := by omega
  have h2 : ¬ c = a := by omega
  simp [h, h1, h2]
theorem impl_riseInstances_eq {n : Int} (hn : grp n = true) (l : List (List Int)) (hl : l.length ≤ maxLen) : S_impl_riseInstances n l = some ((doneB n none l, ()), ()) := by
 unfold S_impl_riseInstances
 refine lim_eq (l.length + 1) fun N hN => ?_
 unfold p_impl_riseInstances
 refine loopN_over l hl (fun i (s : Unit) => ((n, l, l, (l.length : Int), (i : Int), ()), ())) (fun i t s => ((doneB n (prv l i) t, ()), ())) (fun i t s => ∀ y, prv l i = some y → ∃ c d, y = [c, d])
  () rfl rfl (fun y h => by cases h) hN (fun rec s h => ?_) (fun rec i b t s hat h hrec => ?_)
 ·dsimp only
  simp [doneB]
 ·have hlt := hat.ltn
  have hrec := hrec ()
  rw [prv_succ hat.get] at hrec
  dsimp only
  simp only [hat.lt, hat.nn, hat.wrap, hat.rd, decide_true, if_true]
  cases h2 : ((b.length : Int) != 2) with
  | true =>
   simp only [if_true, doneB, not_two h2, Bool.false_and]
  | false =>
   obtain ⟨x, y, rfl⟩ := two_of h2
   have hrec := hrec fun z hz => ⟨x, y, by simpa using hz.symm⟩
   have h3 : (0 : Int) < (([x, y] : List Int).length : Int) := by simp
   have h4 : (1 : Int) < (([x, y] : List Int).length : Int) := by simp
   have r0 : ∀ d, rd [x, y] (0 : Int) d = x := fun d => rfl
   have r1 : ∀ d, rd [x, y] (1 : Int) d = y := fun d => rfl
   simp only [Bool.false_eq_true, if_false, Int.le_refl, decide_true, if_true, h3, h4, r0, r1, impl_isInstance_eq hn, Option.bind_some, doneB, instOf, show (0 : Int) ≤ 1 by omega]
   cases hi : inst n x y with
   | false => simp
   | true =>
    simp only [Bool.not_true, Bool.false_eq_true, if_false, Bool.true_and]
    rcases Nat.eq_zero_or_pos i with rfl | hi0
    ·rw [decide_eq_false (by omega)]
     simp only [Bool.false_eq_true, if_false, prv_zero, ltO, Bool.true_and]
     exact hrec
    ·obtain ⟨c, q1, q2, q3, q4, _⟩ := prv_pos hl hi0 hlt
     obtain ⟨u, v, rfl⟩ := h c q1
     rw [decide_eq_true (by omega)]
     simp only [if_true, q1, q2, q3, q4, decide_true, ltO, Compare_Lint_eq [u, v] [x, y] (by simp [maxLen_eq]) (by simp [maxLen_eq]), Option.bind_some, cmpL_two]
     cases pairLt [u, v] [x, y] with
     | false => simp
     | true => simp only [Bool.not_true, Bool.false_eq_true, if_false, Bool.true_and]; exact hrec
theorem spec_l1All_eq (l : List Int) (lo hi : Int) (hl : l.length ≤ maxLen) : S_spec_l1All l lo hi = some ((l.all (fun b => inn b lo hi), ()), ()) := by
 unfold S_spec_l1All
 refine lim_eq (l.length + 1) fun N hN => ?_
 unfold p_spec_l1All
 refine loopN_over l hl (fun i (s : Unit) => ((lo, hi, l, (l.length : Int), (i : Int), ()), ())) (fun i t s => ((t.all (fun b => inn b lo hi), ()), ())) (fun i t s => True)
  () rfl rfl trivial hN (fun rec s h => ?_) (fun rec i b t s hat h hrec => ?_)
 ·dsimp only
  simp
 ·dsimp only
  simp only [hat.lt, hat.nn, hat.wrap, hat.rd, decide_true, if_true, spec_l1In_eq, Option.bind_some, List.all_cons]
  cases hb : inn b lo hi with
  | false => simp
  | true => simp only [Bool.not_true, Bool.false_eq_true, if_false, Bool.true_and]; exact hrec () trivial
abbrev WatchT := Int × (Int × (List (List Int) × (List Int × Unit)))
theorem spec_GoodWatch_eq (x : WatchT) (hl : WL.wl x) : S_spec_GoodWatch x = some ((grp x.2.1 && (inn x.1 0 (x.2.1 - 1) && (doneB x.2.1 none x.2.2.1 && (((x.2.2.2.1.length : Int) == (x.2.2.1.length : Int)) && x.2.2.2.1.all fun b => inn b 0 20))), ()), ()) := by
 unfold S_spec_GoodWatch p_spec_GoodWatch S_spec_l20Good p_spec_l20Good
 simp only [spec_IsGroup_eq, Option.bind_some]
 cases hg : grp x.2.1 with
 | false => simp
 | true =>
  simp only [if_true, grp_wrap hg, spec_l1In_eq, Option.bind_some]
  cases inn x.1 0 (x.2.1 - 1) with
  | false => simp
  | true =>
   simp only [if_true, spec_l18Done_eq hg _ hl.2.2.1.1, Option.bind_some]
   cases doneB x.2.1 none x.2.2.1 with
   | false => simp
   | true =>
    simp only [if_true, spec_l1All_eq _ _ _ hl.2.2.2.1.1, Option.bind_some, Bool.true_and]
    cases ((x.2.2.2.1.length : Int) == (x.2.2.1.length : Int)) <;> simp
theorem impl_GoodWatch_eq (x : WatchT) (hl : WL.wl x) : S_impl_GoodWatch x = some ((grp x.2.1 && (inn x.1 0 (x.2.1 - 1) && (doneB x.2.1 none x.2.2.1 && (((x.2.2.2.1.length : Int) == (x.2.2.1.length : Int)) && x.2.2.2.1.all fun b => inn b 0 20))), ()), ()) := by
 unfold S_impl_GoodWatch p_impl_GoodWatch
 simp only [impl_IsGroup_eq, Option.bind_some]
 cases hg : grp x.2.1 with
 | false => simp
 | true =>
  simp only [if_true, grp_wrap hg, impl_within_eq, Option.bind_some]
  cases inn x.1 0 (x.2.1 - 1) with
  | false => simp
  | true =>
   simp only [if_true, impl_riseInstances_eq hg _ hl.2.2.1.1, Option.bind_some]
   cases doneB x.2.1 none x.2.2.1 with
   | false => simp
   | true =>
    rw [ContainsFunc_Lint_eq (fun b => !inn b 0 20) hl.2.2.2.1.1 (fun x _ => rfl)]
    simp only [if_true, Option.bind_some, not_any_not, Bool.true_and]
    cases ((x.2.2.2.1.length : Int) == (x.2.2.1.length : Int)) <;> simp
theorem new_Watch (n m : Int) : S_spec_NewWatch n m = S_impl_NewWatch n m := by
 unfold S_spec_NewWatch p_spec_NewWatch S_impl_NewWatch p_impl_NewWatch
 simp only [spec_IsGroup_eq, impl_IsGroup_eq, spec_l1In_eq, impl_within_eq]
theorem impl_NewWatch_eq (n m : Int) : ∃ w r, WL.wl w ∧ Cnt.cnt w = 0 ∧ w.2.2.1 = [] ∧ w.2.2.2.1 = [] ∧ S_impl_NewWatch n m = some ((w, r, ()), ()) := by
 unfold S_impl_NewWatch p_impl_NewWatch
 simp only [impl_IsGroup_eq, impl_within_eq, Option.bind_some]
 have z : ∀ a b : Int, WL.wl ((a, b, [], [], ()) : WatchT) := fun a b => ⟨trivial, trivial, ⟨by simp, by simp⟩, ⟨by simp, by simp⟩, trivial⟩
 cases grp n with
 | false => exact ⟨(0, 0, [], [], ()), false, z _ _, rfl, rfl, rfl, by simp⟩
 | true =>
  simp only [Bool.not_true, Bool.false_eq_true, if_false]
  cases inn m 0 (IntKind.i64.wrap (n - 1)) with
  | false => exact ⟨(0, 0, [], [], ()), false, z _ _, rfl, rfl, rfl, by simp⟩
  | true => exact ⟨(m, n, [], [], ()), true, z _ _, rfl, rfl, rfl, by simp⟩
theorem spec_l2Account_eq (n : Int) : S_spec_l2Account n = some ((inn n 0 3, ()), ()) := by
 unfold S_spec_l2Account p_spec_l2Account; rw [spec_l1In_eq]; rfl
theorem impl_isAccount_eq (n : Int) : S_impl_isAccount n = some ((inn n 0 3, ()), ()) := by
 unfold S_impl_isAccount p_impl_isAccount; rw [impl_within_eq]; rfl
def zcmd (c : T2) : Bool := (c.1 == 0 && (c.2.1 == 0 && (c.2.2.1 == 0 && (c.2.2.2.1 == 0 && (c.2.2.2.2.1 == 0 && true)))))
def gcmd (c : T2) : Bool :=
 if c.1 == 0 then zcmd c
 else if c.1 == 1 then inn c.2.1 1 999 && (inn c.2.2.1 0 3 && (inn c.2.2.2.1 0 3 && ((c.2.2.1 != c.2.2.2.1) && inn c.2.2.2.2.1 1 1000)))
 else if c.1 == 2 then inn c.2.1 1 999 && (inn c.2.2.1 0 3 && ((c.2.2.2.1 == 0) && (c.2.2.2.2.1 == 0))) else false
theorem impl_GoodCmd_eq (c : T2) : S_impl_GoodCmd c = some ((gcmd c, ()), ()) := by
 unfold S_impl_GoodCmd p_impl_GoodCmd gcmd
 simp only [impl_within_eq, impl_isAccount_eq, Option.bind_some]
 split
 ·rfl
 ·split
  ·cases inn c.2.1 1 999 <;> cases inn c.2.2.1 0 3 <;> cases inn c.2.2.2.1 0 3 <;> cases (c.2.2.1 != c.2.2.2.1) <;> simp
  ·split
   ·cases inn c.2.1 1 999 <;> cases inn c.2.2.1 0 3 <;> cases (c.2.2.2.1 == 0) <;> simp
   ·rfl
theorem l2Code_move (c : T2) (h : (c.1 == (1 : Int)) = true) : ∃ k : Int, S_spec_l2Code c = some ((k, ()), ()) ∧ (k == 0) = (inn c.2.1 1 999 && (inn c.2.2.1 0 3 && (inn c.2.2.2.1 0 3 && ((c.2.2.1 != c.2.2.2.1) && inn c.2.2.2.2.1 1 1000)))) := by
 unfold S_spec_l2Code p_spec_l2Code
 simp only [h, if_true]
 simp only [spec_l1In_eq, spec_l2Account_eq, Option.bind_some]
 have hb : (c.2.2.1 != c.2.2.2.1) = !(c.2.2.1 == c.2.2.2.1) := rfl
 rw [hb]
 generalize inn c.2.1 1 999 = a
 generalize inn c.2.2.1 0 3 = b
 generalize inn c.2.2.2.1 0 3 = d
 generalize inn c.2.2.2.2.1 1 1000 = e
 generalize (c.2.2.1 == c.2.2.2.1) = f
 cases a <;> cases b <;> cases d <;> cases e <;> cases f <;> exact ⟨_, rfl, rfl⟩
theorem l2Code_read (c : T2) (h : (c.1 == (1 : Int)) = false) : ∃ k : Int, S_spec_l2Code c = some ((k, ()), ()) ∧ (k == 0) = (inn c.2.1 1 999 && inn c.2.2.1 0 3) := by
 unfold S_spec_l2Code p_spec_l2Code
 simp only [h, Bool.false_eq_true, if_false]
 simp only [spec_l1In_eq, spec_l2Account_eq, Option.bind_some]
 generalize inn c.2.1 1 999 = a
 generalize inn c.2.2.1 0 3 = b
 cases a <;> cases b <;> exact ⟨_, rfl, rfl⟩
theorem spec_GoodCmd_eq (c : T2) : S_spec_GoodCmd c = some ((gcmd c, ()), ()) := by
 unfold S_spec_GoodCmd p_spec_GoodCmd gcmd
 split
 ·rfl
 ·split
  ·rename_i h1
   obtain ⟨k, e1, e2⟩ := l2Code_move c h1
   rw [e1, Option.bind_some, e2]
  ·split
   ·rename_i h0 h1 h2
    obtain ⟨k, e1, e2⟩ := l2Code_read c (by simpa using h1)
    rw [e1, Option.bind_some, e2]
    generalize inn c.2.1 1 999 = a
    generalize inn c.2.2.1 0 3 = b
    generalize (c.2.2.2.1 == (0 : Int)) = d
    cases a <;> cases b <;> cases d <;> rfl
   ·rfl
theorem spec_l1Same_eq (a b : List Int) (ha : a.length ≤ maxLen) (hb : b.length ≤ maxLen) : S_spec_l1Same a b = some ((same a b, ()), ()) := by
 unfold S_spec_l1Same
 refine lim_eq (a.length + 1) fun N hN => ?_
 unfold p_spec_l1Same
 by_cases hlen : a.length = b.length
 ·have h1 : ((a.length : Int) != (b.length : Int)) = false := by simp [hlen]
  rw [h1]
  simp only [Bool.false_eq_true, if_false]
  refine loopN_over a ha (fun i (s : Unit) => ((a, b, (a.length : Int), (i : Int), ()), ())) (fun i t s => ((same t (b.drop i), ()), ())) (fun i t s => True)
   () rfl (by simp) trivial hN (fun rec s h => ?_) (fun rec i c t s hat h hrec => ?_)
  ·dsimp only
   simp [hlen, same_self]
  ·have hlt := hat.ltn
   have hd : b.drop i = b[i]'(by omega) :: b.drop (i + 1) := List.drop_eq_getElem_cons (by omega)
   have hb' := At.of hb hd
   dsimp only
   simp only [hat.lt, hb'.lt, hat.nn, hat.wrap, hat.rd, hb'.rd, decide_true, if_true, hd, same_cons, same_bne]
   cases same c (b[i]'(by omega)) with
   | false => simp
   | true =>
    simp only [Bool.not_true, Bool.false_eq_true, if_false, Bool.true_and]
    exact hrec () trivial
 ·have h1 : ((a.length : Int) != (b.length : Int)) = true := by simp; omega
  rw [h1]
  have : same a b = false := by rw [Bool.eq_false_iff]; intro h; rw [same_iff] at h; subst h; exact hlen rfl
  simp [this]
theorem Equal_Lint_eq (a b : List Int) (ha : a.length ≤ maxLen) (hb : b.length ≤ maxLen) : S_Equal_Lint_int a b = some ((same a b, ()), ()) := spec_l1Same_eq a b ha hb
noncomputable def sameAttr (a b : T6) : Bool := (a.1 == b.1) && same a.2.1 b.2.1
theorem spec_SameAttr_eq (a b : T6) (ha : a.2.1.length ≤ maxLen) (hb : b.2.1.length ≤ maxLen) : S_spec_SameAttr a b = some ((sameAttr a b, ()), ()) := by
 unfold S_spec_SameAttr p_spec_SameAttr sameAttr
 rw [spec_l1Same_eq _ _ ha hb]
 cases (a.1 == b.1) <;> simp
theorem impl_SameAttr_eq (a b : T6) (ha : a.2.1.length ≤ maxLen) (hb : b.2.1.length ≤ maxLen) : S_impl_SameAttr a b = some ((sameAttr a b, ()), ()) := by
 unfold S_impl_SameAttr p_impl_SameAttr sameAttr
 rw [Equal_Lint_eq _ _ ha hb]
 cases (a.1 == b.1) <;> simp
def none6 (n : Int) : T6 := (0, List.replicate n.toNat 0, ())
theorem none6_len {n : Int} (h : grp n = true) : (none6 n).2.1.length ≤ maxLen := by
 rw [grp_iff] at h; rw [maxLen_eq]; simp [none6]; omega
theorem spec_l3None_eq {n : Int} (h : grp n = true) : S_spec_l3None n = some ((none6 n, ()), ()) := by
 rw [grp_iff] at h
 rcases h with rfl | rfl <;> rfl
theorem impl_noneAttr_eq {n : Int} (h : grp n = true) : S_impl_noneAttr n = some ((none6 n, ()), ()) := by
 rw [grp_iff] at h
 rcases h with rfl | rfl <;> rfl
def attrOk (n : Int) (a : T6) : Bool := inn a.1 0 999 && (((a.2.1.length : Int) == n) && a.2.1.all fun b => inn b 0 6)
theorem spec_l3Attr_eq (n : Int) (a : T6) (ha : a.2.1.length ≤ maxLen) : S_spec_l3Attr n a = some ((attrOk n a, ()), ()) := by
 unfold S_spec_l3Attr p_spec_l3Attr attrOk
 simp only [spec_l1In_eq, spec_l1All_eq _ _ _ ha, Option.bind_some]
 cases inn a.1 0 999 <;> cases ((a.2.1.length : Int) == n) <;> simp
theorem impl_GoodAttr_eq {n : Int} (h : grp n = true) (a : T6) (ha : a.2.1.length ≤ maxLen) : S_impl_GoodAttr n a = some ((attrOk n a, ()), ()) := by
 unfold S_impl_GoodAttr p_impl_GoodAttr attrOk
 simp only [impl_IsGroup_eq, h, if_true, impl_within_eq, Option.bind_some]
 rw [ContainsFunc_Lint_eq (fun b => !inn b 0 6) ha (fun x _ => rfl)]
 simp only [Option.bind_some, not_any_not]
 cases inn a.1 0 999 <;> cases ((a.2.1.length : Int) == n) <;> simp
theorem attr_none {n : Int} (h : grp n = true) (a : T6) (hs : sameAttr a (none6 n) = true) : attrOk n a = true := by
 simp only [sameAttr, Bool.and_eq_true, beq_iff_eq, same_iff] at hs
 obtain ⟨h1, h2⟩ := hs
 rw [grp_iff] at h
 simp only [attrOk, h1, h2, none6]
 rcases h with rfl | rfl <;> rfl
noncomputable def rowOk (n : Int) (r : T7) : Bool :=
 inn r.1 0 9999 && (inn r.2.1 0 r.1 && (inn r.2.2.1 0 3 && (if r.2.2.1 == 0 then (r.2.1 == 0) && (zcmd r.2.2.2.1 && sameAttr r.2.2.2.2.1 (none6 n)) else gcmd r.2.2.2.1 && attrOk n r.2.2.2.2.1)))
theorem spec_l4Row_eq {n : Int} (h : grp n = true) (r : T7) (ha : r.2.2.2.2.1.2.1.length ≤ maxLen) : S_spec_l4Row n r = some ((rowOk n r, ()), ()) := by
 unfold S_spec_l4Row p_spec_l4Row rowOk
 simp only [spec_l1In_eq, Option.bind_some]
 rw [spec_l3None_eq h, Option.bind_some, spec_SameAttr_eq _ _ ha (none6_len h), spec_GoodCmd_eq, Option.bind_some, spec_l3Attr_eq n _ ha, Option.bind_some]
 have hz : zcmd r.2.2.2.1 = (r.2.2.2.1.1 == (0 : Int) && (r.2.2.2.1.2.1 == (0 : Int) && (r.2.2.2.1.2.2.1 == (0 : Int) && (r.2.2.2.1.2.2.2.1 == (0 : Int) && (r.2.2.2.1.2.2.2.2.1 == (0 : Int) && true))))) := rfl
 rw [← hz]
 generalize inn r.1 0 9999 = a
 generalize inn r.2.1 0 r.1 = b
 generalize inn r.2.2.1 0 3 = c
 generalize (r.2.2.1 == (0 : Int)) = d
 generalize (r.2.1 == (0 : Int)) = e
 generalize zcmd r.2.2.2.1 = f
 generalize sameAttr r.2.2.2.2.1 (none6 n) = g
 generalize gcmd r.2.2.2.1 = i
 generalize attrOk n r.2.2.2.2.1 = j
 cases a <;> cases b <;> cases c <;> cases d <;> cases e <;> cases f <;> cases i <;> rfl
theorem zcmd_gcmd {c : T2} (h : zcmd c = true) : gcmd c = true := by
 have h0 : (c.1 == 0) = true := by simp only [zcmd, Bool.and_eq_true] at h; exact h.1
 unfold gcmd
 rw [if_pos h0]; exact h
theorem impl_goodRow_eq {n : Int} (h : grp n = true) (r : T7) (ha : r.2.2.2.2.1.2.1.length ≤ maxLen) : S_impl_goodRow n r = some ((rowOk n r, ()), ()) := by
 unfold S_impl_goodRow p_impl_goodRow rowOk
 rw [impl_within_eq, impl_within_eq, impl_within_eq, impl_GoodCmd_eq, impl_GoodAttr_eq h _ ha, impl_noneAttr_eq h, Option.bind_some, Option.bind_some, Option.bind_some, Option.bind_some, Option.bind_some, Option.bind_some, impl_SameAttr_eq _ _ ha (none6_len h), Option.bind_some]
 have hz : zcmd r.2.2.2.1 = (r.2.2.2.1.1 == (0 : Int) && (r.2.2.2.1.2.1 == (0 : Int) && (r.2.2.2.1.2.2.1 == (0 : Int) && (r.2.2.2.1.2.2.2.1 == (0 : Int) && (r.2.2.2.1.2.2.2.2.1 == (0 : Int) && true))))) := rfl
 rw [← hz]
 have k1 : zcmd r.2.2.2.1 = true → gcmd r.2.2.2.1 = true := zcmd_gcmd
 have k2 : sameAttr r.2.2.2.2.1 (none6 n) = true → attrOk n r.2.2.2.2.1 = true := attr_none h _
 have hd : (r.2.2.1 != (0 : Int)) = !(r.2.2.1 == (0 : Int)) := rfl
 rw [hd]
 revert k1 k2
 generalize inn r.1 0 9999 = a
 generalize inn r.2.1 0 r.1 = b
 generalize inn r.2.2.1 0 3 = c
 generalize (r.2.2.1 == (0 : Int)) = d
 generalize (r.2.1 == (0 : Int)) = e
 generalize zcmd r.2.2.2.1 = f
 generalize sameAttr r.2.2.2.2.1 (none6 n) = g
 generalize gcmd r.2.2.2.1 = i
 generalize attrOk n r.2.2.2.2.1 = j
 intro k1 k2
 cases a <;> cases b <;> cases c <;> cases d <;> cases i <;> cases j <;> cases e <;> cases f <;> cases g <;> first | rfl | (exact absurd (k1 rfl) (by decide)) | (exact absurd (k2 rfl) (by decide))
noncomputable def listOk (n : Int) (l : List T7) : Bool := decide ((l.length : Int) ≤ 6) && l.all (rowOk n)
noncomputable def tableOk (t : T8) : Bool := grp t.1 && (((t.2.1.length : Int) == t.1) && t.2.1.all (listOk t.1))
theorem ContainsFunc_Row_eq {l : List T7} {p : (T7 × Unit) → Option Bool} (q : T7 → Bool) (hl : l.length ≤ maxLen) (hp : ∀ x ∈ l, p (x, ()) = some (q x)) : S_ContainsFunc_Limpl_Row_impl_Row l p = some ((l.any q, ()), ()) := by
 unfold S_ContainsFunc_Limpl_Row_impl_Row p_ContainsFunc_Limpl_Row_impl_Row
 rw [show S_IndexFunc_Limpl_Row_impl_Row l p = some ((idxI q l 0, ()), ()) from lim_eq (l.length + 1) fun N hN => index_gen _ l hl p q hp hN]
 simp only [Option.bind_some, idxI_any q l 0 (Int.le_refl 0)]
theorem ContainsFunc_Rows_eq {l : List (List T7)} {p : (List T7 × Unit) → Option Bool} (q : List T7 → Bool) (hl : l.length ≤ maxLen) (hp : ∀ x ∈ l, p (x, ()) = some (q x)) : S_ContainsFunc_LLimpl_Row_Limpl_Row l p = some ((l.any q, ()), ()) := by
 unfold S_ContainsFunc_LLimpl_Row_Limpl_Row p_ContainsFunc_LLimpl_Row_Limpl_Row
 rw [show S_IndexFunc_LLimpl_Row_Limpl_Row l p = some ((idxI q l 0, ()), ()) from lim_eq (l.length + 1) fun N hN => index_gen _ l hl p q hp hN]
 simp only [Option.bind_some, idxI_any q l 0 (Int.le_refl 0)]
theorem wl_row {l : List (List T7)} (h : WL.wl l) {x : List T7} (hx : x ∈ l) {r : T7} (hr : r ∈ x) : r.2.2.2.2.1.2.1.length ≤ maxLen := (wl_mem (wl_mem h hx) hr).2.2.2.2.1.2.1.1
theorem impl_GoodTable_eq (t : T8) (hl : WL.wl t) : S_impl_GoodTable t = some ((tableOk t, ()), ()) := by
 unfold S_impl_GoodTable p_impl_GoodTable tableOk
 simp only [impl_IsGroup_eq, Option.bind_some]
 cases hg : grp t.1 with
 | false => simp
 | true =>
  simp only [if_true, Bool.true_and]
  rw [ContainsFunc_Rows_eq (fun x => !listOk t.1 x) hl.2.1.1 (fun x hx => by
   dsimp only
   by_cases h6 : (x.length : Int) > 6
   ·have : ¬ (x.length : Int) ≤ 6 := by omega
    simp [h6, listOk, this]
   ·have h6' : (x.length : Int) ≤ 6 := by omega
    rw [decide_eq_false h6, ContainsFunc_Row_eq (fun r => !rowOk t.1 r) (wl_mem hl.2.1 hx).1 (fun r hr => by
     dsimp only
     rw [impl_goodRow_eq hg r (wl_row hl.2.1 hx hr)]; rfl)]
    simp only [Bool.false_eq_true, if_false, Option.bind_some, listOk, h6', decide_true, Bool.true_and, Option.some.injEq]
    rw [← not_any_not, Bool.not_not])]
  simp only [Option.bind_some, not_any_not]
  cases ((t.2.1.length : Int) == t.1) <;> simp
theorem spec_GoodTable_eq (t : T8) (hl : WL.wl t) : S_spec_GoodTable t = some ((tableOk t, ()), ()) := by
 unfold S_spec_GoodTable
 refine lim_eq (t.2.1.length + sumCnt List.length t.2.1 + 1) fun N hN => ?_
 unfold p_spec_GoodTable tableOk
 simp only [spec_IsGroup_eq, Option.bind_some]
 cases hg : grp t.1 with
 | false => simp
 | true =>
  simp only [Bool.not_true, Bool.false_eq_true, if_false, Bool.true_and]
  by_cases hlen : (t.2.1.length : Int) = t.1
  ·have h1 : ((t.2.1.length : Int) != t.1) = false := by simp [hlen]
   have h2 : ((t.2.1.length : Int) == t.1) = true := by simp [hlen]
   simp only [h1, h2, Bool.false_eq_true, if_false, Bool.true_and]
   refine loopN_over t.2.1 hl.2.1.1 (fun i (s : Unit) => ((t.2.1, (t.2.1.length : Int), (i : Int), ()), ((t.1, t.2.1, ()), ()))) (fun i u s => ((u.all (listOk t.1), ()), ())) (fun i u s => True)
    () rfl rfl trivial (by omega) (fun rec s h => ?_) (fun rec i b u s hat h hrec => ?_)
   ·dsimp only
    simp
   ·have hbl : b.length ≤ maxLen := (wl_mem hl.2.1 hat.mem).1
    dsimp only
    simp only [hat.lt, hat.nn, hat.rd, decide_true, if_true, List.all_cons]
    refine loopN_over b hbl (fun j (s : Unit) => ((b, t.2.1, (t.2.1.length : Int), (i : Int), b, (b.length : Int), (j : Int), ()), ((t.1, t.2.1, ()), ()))) (fun j v s => ((v.all (rowOk t.1) && decide ((b.length : Int) ≤ 6) && u.all (listOk t.1), ()), ())) (fun j v s => True)
     () rfl ?_ trivial (by have := le_sumCnt List.length hat.mem; omega) (fun rec2 s h => ?_) (fun rec2 j c v s hat2 h hrec2 => ?_)
    ·unfold listOk
     rw [Bool.and_comm (decide _)]
    ·dsimp only
     simp only [lenInt_lt_irrefl, decide_false, Bool.false_eq_true, if_false, List.all_nil, Bool.true_and, hat.wrap]
     by_cases h6 : (b.length : Int) > 6
     ·rw [decide_eq_true h6, decide_eq_false (by omega)]; rfl
     ·rw [decide_eq_false h6, decide_eq_true (by omega)]
      simp only [Bool.false_eq_true, if_false, Bool.true_and]
      exact hrec () trivial
    ·dsimp only
     simp only [hat2.lt, hat2.nn, hat2.wrap, hat2.rd, decide_true, if_true, spec_l4Row_eq hg c (wl_row hl.2.1 hat.mem hat2.mem), Option.bind_some, List.all_cons]
     cases rowOk t.1 c with
     | false => simp
     | true => simp only [Bool.not_true, Bool.false_eq_true, if_false, Bool.true_and]; exact hrec2 () trivial
  ·have h1 : ((t.2.1.length : Int) != t.1) = true := by simp [hlen]
   have h2 : ((t.2.1.length : Int) == t.1) = false := by simp [hlen]
   simp [h1, h2]
theorem inn6 {b : Int} (h : inn b 0 6 = true) : 0 ≤ b ∧ b ≤ 6 := inn_iff.1 h
inductive Rch (E : Nat → Nat → Prop) : Nat → Nat → Prop where
 | one {a b : Nat} (h : E a b) : Rch E a b
 | more {a b c : Nat} (h : Rch E a b) (k : E b c) : Rch E a c
def PE (l : List (List Int)) (a b : Nat) : Prop := [(a : Int), (b : Int)] ∈ l
noncomputable def cyc (l : List (List Int)) : Bool := open Classical in decide (∃ i, Rch (PE l) i i)
def okP (n : Int) (p : List Int) : Bool := (p.length == 2) && (p.all fun x => inn x 0 (n - 1))
noncomputable def hr (l : List (List Int)) (n : Int) : Bool × Bool × Unit := if (decide (l.length ≤ 2000) && inn n 0 60) && l.all (okP n) then (cyc l, true, ()) else (false, false, ())
abbrev rlist (r : T7) : List Int := r.2.2.2.2.1.2.1
structure GoodR (R : List (List T7)) : Prop where
 n : R.length = 3 ∨ R.length = 5
 six : ∀ x ∈ R, x.length ≤ 6
 len : ∀ x ∈ R, ∀ r ∈ x, (rlist r).length = R.length
 val : ∀ x ∈ R, ∀ r ∈ x, ∀ b ∈ rlist r, 0 ≤ b ∧ b ≤ 6
theorem GoodR.five {R : List (List T7)} (h : GoodR R) : R.length ≤ 5 := by have := h.n; omega
theorem GoodR.grp {R : List (List T7)} (h : GoodR R) : grp (R.length : Int) = true := by rw [grp_iff]; have := h.n; omega
theorem GoodR.max {R : List (List T7)} (h : GoodR R) : R.length ≤ maxLen := by rw [maxLen_eq]; have := h.n; omega
theorem goodR_of {t : T8} (h : tableOk t = true) : t = ((t.2.1.length : Int), t.2.1, ()) ∧ GoodR t.2.1 := by
 simp only [tableOk, Bool.and_eq_true, beq_iff_eq, List.all_eq_true] at h
 obtain ⟨hg, hn, hall⟩ := h
 have hx : ∀ x ∈ t.2.1, x.length ≤ 6 ∧ ∀ r ∈ x, attrOk t.1 r.2.2.2.2.1 = true := by
  intro x hx
  have := hall x hx
  simp only [listOk, Bool.and_eq_true, decide_eq_true_eq, List.all_eq_true] at this
  refine ⟨by omega, fun r hr => ?_⟩
  have hr := this.2 r hr
  simp only [rowOk, Bool.and_eq_true] at hr
  have hr := hr.2.2.2
  split at hr
  ·simp only [Bool.and_eq_true] at hr
   exact attr_none hg _ hr.2.2
  ·simp only [Bool.and_eq_true] at hr
   exact hr.2
 have ha : ∀ x ∈ t.2.1, ∀ r ∈ x, ((rlist r).length : Int) = t.1 ∧ ∀ b ∈ rlist r, inn b 0 6 = true := by
  intro x hx' r hr
  have := (hx x hx').2 r hr
  simp only [attrOk, Bool.and_eq_true, beq_iff_eq, List.all_eq_true] at this
  exact this.2
 refine ⟨by rw [hn], ⟨?_, fun x h => (hx x h).1, fun x h r hr => ?_, fun x h r hr b hb => inn6 ((ha x h r hr).2 b hb)⟩⟩
 ·rw [grp_iff] at hg; omega
 ·have := (ha x h r hr).1; omega
def kept (x : List T7) (c : Nat) : Bool := match x[c]? with
 | some r => r.2.2.1 == (3 : Int)
 | none => false
def rhit (j : Nat) (c : Int) (r : T7) : Bool := r.2.2.1 == (3 : Int) && decide (c ≤ (rlist r).getD j 0)
def ment (R : List (List T7)) (j : Nat) (x : List T7) (c : Int) : Bool := decide (c ≤ (x.length : Int)) || R.any fun y => y.any (rhit j c)
def pl (j c : Nat) : List Int := [(j : Int), ((c + 1 : Nat) : Int)]
def menRow (R : List (List T7)) (j : Nat) (x : List T7) : List (List Int) := ((List.range 6).filter fun c => ment R j x ((c + 1 : Nat) : Int)).map (pl j)
def menR (R : List (List T7)) : Nat → List (List T7) → List (List Int)
 | _, [] => []
 | j, x :: u => menRow R j x ++ menR R (j + 1) u
def opRow (R : List (List T7)) (j : Nat) (x : List T7) : List (List Int) := ((List.range 6).filter fun c => ment R j x ((c + 1 : Nat) : Int) && !kept x c).map (pl j)
def opR (R : List (List T7)) : Nat → List (List T7) → List (List Int)
 | _, [] => []
 | j, x :: u => opRow R j x ++ opR R (j + 1) u
theorem filter_len6 (p : Nat → Bool) : ((List.range 6).filter p).length ≤ 6 := by
 have := List.length_filter_le p (List.range 6)
 simpa using this
theorem opR_len (R : List (List T7)) : ∀ u j, (opR R j u).length ≤ 6 * u.length
 | [], j => by simp [opR]
 | x :: u, j => by
  have := opR_len R u (j + 1)
  have h6 := filter_len6 (fun c => ment R j x ((c + 1 : Nat) : Int) && !kept x c)
  simp only [opR, opRow, List.length_append, List.length_map, List.length_cons]
  omega
theorem opR_pl (R : List (List T7)) : ∀ u j, ∀ e ∈ opR R j u, e.length = 2
 | [], j, e, he => by simp [opR] at he
 | x :: u, j, e, he => by
  simp only [opR, opRow, List.mem_append, List.mem_map] at he
  rcases he with ⟨c, _, rfl⟩ | he
  ·rfl
  ·exact opR_pl R u (j + 1) e he
theorem own_eq {l : List Int} (h : l.length ≤ 5) : S_spec_l1Own l = some ((l, ()), ()) := by
 unfold S_spec_l1Own p_spec_l1Own
 have : ((([] : List Int).length + l.length) * 8 ≤ 140737488355328) = True := by simp; omega
 simp only [this, decide_true, if_true, List.nil_append]
theorem clone_eq {l : List Int} (h : l.length ≤ 5) : S_Clone_Lint_int l = some ((l, ()), ()) := by
 unfold S_Clone_Lint_int p_Clone_Lint_int
 have : ((([] : List Int).length + l.length) * 8 ≤ 140737488355328) = True := by simp; omega
 simp only [this, decide_true, if_true, List.nil_append]
 cases l with
 | nil => simp [bothO]
 | cons a l => simp
theorem at_some {R : List (List T7)} (hR : GoodR R) {j : Nat} {x : List T7} (hx : R[j]? = some x) {c : Nat} (hc : c ≤ 6) : ∃ y : T7, S_spec_l4At ((R.length : Int), R, ()) (j : Int) ((c + 1 : Nat) : Int) = some ((y, ()), ()) ∧ (y.2.2.1 == (3 : Int)) = kept x c := by
 have hj : j < R.length := (List.getElem?_eq_some_iff.1 hx).1
 have hmem : x ∈ R := List.mem_of_getElem? hx
 have hrd : rd R (j : Int) [] = x := by rw [rd_nat]; simp [List.getD, hx]
 have h0 : (0 : Int) ≤ (j : Int) := by omega
 have hlt : ((j : Int) < (R.length : Int)) := by omega
 have h6 := hR.six x hmem
 have hw : IntKind.i64.wrap (((c + 1 : Nat) : Int) - 1) = (c : Int) := by rw [wrap_small (by omega) (by omega)]; omega
 unfold S_spec_l4At p_spec_l4At
 simp only [h0, hlt, decide_true, if_true, hrd, hw]
 by_cases hcx : c < x.length
 ·have hg : x[c]? = some x[c] := List.getElem?_eq_getElem hcx
  have hrm : x[c] ∈ x := List.getElem_mem hcx
  have h1 : ¬ (((c + 1 : Nat) : Int) > (x.length : Int)) := by omega
  have h2 : (c : Int) < (x.length : Int) := by omega
  have hr2 : rd x (c : Int) Z7 = x[c] := by rw [rd_nat]; simp [List.getD, hg]
  simp only [h1, h2, decide_true, decide_false, if_true, if_false, Bool.false_eq_true, hr2, show (0 : Int) ≤ (c : Int) from by omega]
  unfold S_spec_l4OwnRow p_spec_l4OwnRow S_spec_l4OwnAttr p_spec_l4OwnAttr
  rw [own_eq (by rw [hR.len x hmem _ hrm]; exact hR.five)]
  exact ⟨_, rfl, by simp [kept, hg]⟩
 ·have hg : x[c]? = none := List.getElem?_eq_none (by omega)
  have h1 : (((c + 1 : Nat) : Int) > (x.length : Int)) := by omega
  simp only [h1, decide_true, if_true]
  rw [spec_l3None_eq hR.grp]
  exact ⟨_, rfl, by simp [kept, hg]⟩
theorem row_some {R : List (List T7)} (hR : GoodR R) {j : Nat} {x : List T7} (hx : R[j]? = some x) {c : Nat} (hc : c ≤ 6) : ∃ y : T7, S_impl_Table_row ((R.length : Int), R, ()) (j : Int) ((c + 1 : Nat) : Int) = some ((y, ()), ()) ∧ (y.2.2.1 == (3 : Int)) = kept x c := by
 have hj : j < R.length := (List.getElem?_eq_some_iff.1 hx).1
 have hmem : x ∈ R := List.mem_of_getElem? hx
 have hrd : rd R (j : Int) [] = x := by rw [rd_nat]; simp [List.getD, hx]
 have h0 : (0 : Int) ≤ (j : Int) := by omega
 have hlt : ((j : Int) < (R.length : Int)) := by omega
 have h6 := hR.six x hmem
 have hw : IntKind.i64.wrap (((c + 1 : Nat) : Int) - 1) = (c : Int) := by rw [wrap_small (by omega) (by omega)]; omega
 unfold S_impl_Table_row p_impl_Table_row
 simp only [h0, hlt, decide_true, if_true, hrd, hw]
 by_cases hcx : c < x.length
 ·have hg : x[c]? = some x[c] := List.getElem?_eq_getElem hcx
  have hrm : x[c] ∈ x := List.getElem_mem hcx
  have h1 : (((c + 1 : Nat) : Int) ≤ (x.length : Int)) := by omega
  have h2 : (c : Int) < (x.length : Int) := by omega
  have hr2 : rd x (c : Int) Z7 = x[c] := by rw [rd_nat]; simp [List.getD, hg]
  simp only [h1, h2, decide_true, if_true, hr2, show (0 : Int) ≤ (c : Int) from by omega]
  unfold S_impl_Row_copied p_impl_Row_copied S_impl_Attr_copied p_impl_Attr_copied
  rw [clone_eq (by rw [hR.len x hmem _ hrm]; exact hR.five)]
  exact ⟨_, rfl, by simp [kept, hg]⟩
 ·have hg : x[c]? = none := List.getElem?_eq_none (by omega)
  have h1 : ¬ (((c + 1 : Nat) : Int) ≤ (x.length : Int)) := by omega
  simp only [h1, decide_false, if_false, Bool.false_eq_true]
  rw [impl_noneAttr_eq hR.grp]
  exact ⟨_, rfl, by simp [kept, hg]⟩
theorem filterO_eq {α : Type} {p : α → Option Bool} (q : α → Bool) : ∀ {xs : List α}, (∀ x ∈ xs, p x = some (q x)) → filterO p xs = some (xs.filter fun x => !q x)
 | [], _ => rfl
 | x :: xs, h => by
  unfold filterO
  rw [h x (by simp), filterO_eq q fun y hy => h y (by simp [hy])]
  cases hq : q x <;> simp [hq]
theorem range_at {m i b : Nat} {t : List Nat} (h : At (List.range m) i b t) : b = i ∧ i < m := by
 have hl := h.ltn
 have hg := h.get
 rw [List.length_range] at hl
 rw [List.getElem?_range hl] at hg
 exact ⟨(Option.some.inj hg).symm, hl⟩
theorem mentioned_eq {R : List (List T7)} (hR : GoodR R) : S_impl_Table_mentioned ((R.length : Int), R, ()) = some ((menR R 0 R, ()), ()) := by
 unfold S_impl_Table_mentioned
 refine lim_eq 7 fun N hN => ?_
 unfold p_impl_Table_mentioned
 have h5 := hR.five
 refine loopN_over R hR.max (fun j (s : List (List Int)) => (((R.length : Int), (j : Int), ()), (((R.length : Int), R, ()), ([] : List (List Int)), s, ()))) (fun j u s => ((s ++ menR R j u, ()), ())) (fun j u s => s.length ≤ 6 * j)
  [] rfl (by simp) (by simp) (by omega) (fun rec s h => ?_) (fun rec j x u s hat h hrec => ?_)
 ·dsimp only
  simp [menR]
 ·have hjlt := hat.ltn
  have hxm := hat.mem
  dsimp only
  simp only [hat.lt, decide_true, if_true]
  refine loopN_over (List.range 6) (by rw [maxLen_eq]; simp) (fun i (s : List (List Int)) => (((R.length : Int), (j : Int), ()), (((R.length : Int), R, ()), ([] : List (List Int)), s, ((j : Int), ()), (((i + 1 : Nat) : Int), ()), ())))
   (fun i v s => ((s ++ ((v.filter fun c => ment R j x ((c + 1 : Nat) : Int)).map (pl j)) ++ menR R (j + 1) u, ()), ())) (fun i v s => s.length ≤ 6 * j + i)
   s rfl (by simp [menR, menRow]) (by simpa using h) (by simp; omega) (fun rec2 s h => ?_) (fun rec2 i c v s hat2 h hrec2 => ?_)
  ·have h7 : ¬ (((List.range 6).length + 1 : Nat) : Int) ≤ 6 := by simp
   dsimp only
   simp only [h7, decide_false, Bool.false_eq_true, if_false, hat.wrap, List.filter_nil, List.map_nil, List.append_nil]
   refine hrec s (by simp at h; omega)
  ·obtain ⟨rfl, hi6⟩ := range_at hat2
   have h7 : (((c + 1 : Nat) : Int) ≤ 6) := by omega
   dsimp only
   simp only [h7, decide_true, if_true, hat.lt, hat.nn, hat.rd]
   refine loopN_over R hR.max (fun i (m : Bool) => ((R, (R.length : Int), (i : Int), (R.length : Int), (j : Int), ((c + 1 : Nat) : Int), true, ((c + 1 : Nat) : Int), R, (j : Int), x, (x.length : Int), decide (((c + 1 : Nat) : Int) ≤ (x.length : Int)), ()),
     (((R.length : Int), R, ()), ([] : List (List Int)), s, ((j : Int), ()), (((c + 1 : Nat) : Int), ()), (m, ()), ((R.length : Int), R, ()), ())))
    (fun i w m => ((s ++ (if m || w.any (fun y => y.any (rhit j ((c + 1 : Nat) : Int))) then [pl j c] else []) ++ ((v.filter fun c => ment R j x ((c + 1 : Nat) : Int)).map (pl j)) ++ menR R (j + 1) u, ()), ())) (fun i w m => True)
    (decide (((c + 1 : Nat) : Int) ≤ (x.length : Int))) rfl ?_ trivial (by omega) (fun rec3 m _ => ?_) (fun rec3 i y w m hat3 _ hrec3 => ?_)
   ·simp only [List.filter_cons, ment]
    cases (decide (((c + 1 : Nat) : Int) ≤ (x.length : Int)) || R.any fun y => y.any (rhit j ((c + 1 : Nat) : Int))) <;> simp
   ·dsimp only
    have hwr : IntKind.i64.wrap (((c + 1 : Nat) : Int) + 1) = ((c + 1 + 1 : Nat) : Int) := by rw [wrap_small (by omega) (by omega)]; omega
    have hcap : ((s.length + ([([(j : Int), ((c + 1 : Nat) : Int)] : List Int)] : List (List Int)).length) * 24 ≤ 140737488355328) = True := by simp; omega
    simp only [lenInt_lt_irrefl, decide_false, Bool.false_eq_true, if_false, hwr, hcap, decide_true, if_true, List.any_nil, Bool.or_false]
    cases m with
    | true =>
     simp only [if_true]
     exact hrec2 _ (by simp; omega)
    | false =>
     simp only [Bool.false_eq_true, if_false, List.append_nil]
     exact hrec2 _ (by omega)
   ·have hy6 := hR.six y hat3.mem
    dsimp only
    simp only [hat3.lt, hat3.nn, hat3.rd, decide_true, if_true]
    refine loopN_over y (by rw [maxLen_eq]; omega) (fun k (m : Bool) => (((i : Int), R, (R.length : Int), (i : Int), y, (y.length : Int), (k : Int), (R.length : Int), (j : Int), ((c + 1 : Nat) : Int), true, ((c + 1 : Nat) : Int), R, (j : Int), x, (x.length : Int), decide (((c + 1 : Nat) : Int) ≤ (x.length : Int)), ()),
      (((R.length : Int), R, ()), ([] : List (List Int)), s, ((j : Int), ()), (((c + 1 : Nat) : Int), ()), (m, ()), ((R.length : Int), R, ()), ())))
     (fun k z m => ((s ++ (if m || z.any (rhit j ((c + 1 : Nat) : Int)) || w.any (fun y => y.any (rhit j ((c + 1 : Nat) : Int))) then [pl j c] else []) ++ ((v.filter fun c => ment R j x ((c + 1 : Nat) : Int)).map (pl j)) ++ menR R (j + 1) u, ()), ())) (fun k z m => True)
     m rfl ?_ trivial (by omega) (fun rec4 m _ => ?_) (fun rec4 k r z m hat4 _ hrec4 => ?_)
    ·simp only [List.any_cons, Bool.or_assoc]; rfl
    ·dsimp only
     simp only [lenInt_lt_irrefl, decide_false, Bool.false_eq_true, if_false, hat3.wrap, List.any_nil, Bool.or_false]
     exact hrec3 m trivial
    ·have hrl := hR.len y hat3.mem r hat4.mem
     have hjl : (j : Int) < ((rlist r).length : Int) := by omega
     dsimp only
     simp only [hat4.lt, hat4.nn, hat4.wrap, hat4.rd, decide_true, if_true, List.any_cons]
     cases m with
     | true =>
      simp only [if_true, Bool.true_or]
      exact (hrec4 true trivial).trans (by simp)
     | false =>
      simp only [Bool.false_eq_true, if_false, Bool.false_or]
      cases hst : (r.2.2.1 == (3 : Int)) with
      | true =>
       simp only [if_true, hat.nn, hjl, decide_true]
       refine (hrec4 _ trivial).trans ?_
       simp only [rhit, hst, Bool.true_and, rd_nat]; rfl
      | false =>
       simp only [Bool.false_eq_true, if_false]
       refine (hrec4 _ trivial).trans ?_
       simp only [rhit, hst, Bool.false_and, Bool.false_or]
theorem menR_mem {R : List (List T7)} : ∀ (u : List (List T7)) (j : Nat), (∀ i x, u[i]? = some x → R[j + i]? = some x) → ∀ e ∈ menR R j u, ∃ (i c : Nat) (x : List T7), R[i]? = some x ∧ c < 6 ∧ e = pl i c
 | [], j, _, e, he => by simp [menR] at he
 | x :: u, j, h, e, he => by
  simp only [menR, menRow, List.mem_append, List.mem_map, List.mem_filter, List.mem_range] at he
  rcases he with ⟨c, ⟨hc, _⟩, rfl⟩ | he
  ·exact ⟨j, c, x, by simpa using h 0 x rfl, hc, rfl⟩
  ·exact menR_mem u (j + 1) (fun i y hy => by have := h (i + 1) y (by simpa using hy); rw [← this]; congr 1; omega) e he
def keptE (R : List (List T7)) (e : List Int) : Bool := kept (R.getD (e.getD 0 0).toNat []) ((e.getD 1 0).toNat - 1)
theorem menR_filter {R : List (List T7)} : ∀ (u : List (List T7)) (j : Nat), (∀ i x, u[i]? = some x → R[j + i]? = some x) → (menR R j u).filter (fun e => !keptE R e) = opR R j u
 | [], j, _ => rfl
 | x :: u, j, h => by
  have hx : R[j]? = some x := by simpa using h 0 x rfl
  simp only [menR, menRow, opR, opRow, List.filter_append, List.filter_map, List.filter_filter]
  congr 1
  ·congr 1
   refine List.filter_congr fun c hc => ?_
   have : keptE R (pl j c) = kept x c := by
    unfold keptE pl
    have e1 : (((c + 1 : Nat) : Int)).toNat - 1 = c := by omega
    simp [List.getD, hx]
   simp only [Function.comp, this]
   rw [Bool.and_comm]
  ·exact menR_filter u (j + 1) fun i y hy => by have := h (i + 1) y (by simpa using hy); rw [← this]; congr 1; omega
theorem open_eq {R : List (List T7)} (hR : GoodR R) : S_impl_Table_open ((R.length : Int), R, ()) = some ((opR R 0 R, ()), ()) := by
 unfold S_impl_Table_open p_impl_Table_open
 rw [mentioned_eq hR, Option.bind_some]
 dsimp only
 rw [filterO_eq (keptE R), menR_filter R 0 (fun i x h => by simpa using h)]
 ·rfl
 ·intro e he
  obtain ⟨i, c, x, hx, hc, rfl⟩ := menR_mem R 0 (fun i x h => by simpa using h) e he
  obtain ⟨y, hy, hk⟩ := row_some hR hx (c := c) (by omega)
  have e0 : rd (pl i c) 0 0 = (i : Int) := rfl
  have e1 : rd (pl i c) 1 0 = ((c + 1 : Nat) : Int) := rfl
  have el : (pl i c).length = 2 := rfl
  have hke : keptE R (pl i c) = kept x c := by
   unfold keptE pl
   simp [List.getD, hx]
  simp only [e0, e1, el, hy, Option.bind_some, hk, hke, Int.le_refl, decide_true, if_true, show (0 : Int) < (2 : Nat) from by decide, show (0 : Int) ≤ 1 from by decide, show (1 : Int) < (2 : Nat) from by decide]
def bump (M : List Int) (k : Nat) (x : Int) : List Int := M.set k (max (M.getD k 0) x)
def zipM (M : List Int) : Nat → List Int → List Int
 | _, [] => M
 | k, x :: w => zipM (bump M k x) (k + 1) w
def addRow (M : List Int) (r : T7) : List Int := if r.2.2.1 == (3 : Int) then zipM M 0 (rlist r) else M
def phR (M : List Int) : Nat → List (List T7) → List Int
 | _, [] => M
 | j, x :: u => phR (x.foldl addRow (bump M j (x.length : Int))) (j + 1) u
theorem bump_len (M : List Int) (k : Nat) (x : Int) : (bump M k x).length = M.length := by simp [bump]
theorem zipM_len : ∀ (w : List Int) (M : List Int) (k : Nat), (zipM M k w).length = M.length
 | [], M, k => rfl
 | x :: w, M, k => by rw [zipM, zipM_len w, bump_len]
theorem addRow_len (M : List Int) (r : T7) : (addRow M r).length = M.length := by
 unfold addRow; split
 ·exact zipM_len _ _ _
 ·rfl
theorem addRows_len : ∀ (x : List T7) (M : List Int), (x.foldl addRow M).length = M.length
 | [], M => rfl
 | r :: x, M => by rw [List.foldl_cons, addRows_len x, addRow_len]
theorem phR_len : ∀ (u : List (List T7)) (M : List Int) (j : Nat), (phR M j u).length = M.length
 | [], M, j => rfl
 | x :: u, M, j => by rw [phR, phR_len u, addRows_len, bump_len]
theorem bump_get (M : List Int) (k : Nat) (x : Int) (j : Nat) (hj : j < M.length) (c : Int) (hc : 1 ≤ c) : decide (c ≤ (bump M k x).getD j 0) = (decide (c ≤ M.getD j 0) || (decide (k = j) && decide (c ≤ x))) := by
 unfold bump
 by_cases e : k = j
 ·subst e
  rw [show (M.set k (max (M.getD k 0) x)).getD k 0 = max (M.getD k 0) x by simp [List.getD, hj]]
  rw [Bool.eq_iff_iff]
  simp
  omega
 ·rw [show (M.set k (max (M.getD k 0) x)).getD j 0 = M.getD j 0 by simp [List.getD, List.getElem?_set_ne e]]
  simp [e]
theorem zipM_get : ∀ (w : List Int) (M : List Int) (k j : Nat), j < M.length → ∀ c : Int, 1 ≤ c → decide (c ≤ (zipM M k w).getD j 0) = (decide (c ≤ M.getD j 0) || (decide (k ≤ j) && decide (c ≤ w.getD (j - k) 0)))
 | [], M, k, j, hj, c, hc => by
  have : ¬ c ≤ 0 := by omega
  simp [zipM, this]
 | x :: w, M, k, j, hj, c, hc => by
  rw [zipM, zipM_get w _ _ _ (by rw [bump_len]; exact hj) c hc, bump_get M k x j hj c hc, Bool.or_assoc]
  congr 1
  rcases Nat.lt_trichotomy k j with h | h | h
  ·have e1 : ¬ k = j := by omega
   have e2 : k + 1 ≤ j := by omega
   have e3 : k ≤ j := by omega
   have e4 : j - k = (j - (k + 1)) + 1 := by omega
   simp [e1, e2, e3, e4]
  ·subst h
   simp
   intro h; omega
  ·have e1 : ¬ k = j := by omega
   have e2 : ¬ k + 1 ≤ j := by omega
   have e3 : ¬ k ≤ j := by omega
   simp [e1, e2, e3]
theorem addRow_get (r : T7) (M : List Int) (j : Nat) (hj : j < M.length) (c : Int) (hc : 1 ≤ c) : decide (c ≤ (addRow M r).getD j 0) = (decide (c ≤ M.getD j 0) || rhit j c r) := by
 unfold addRow rhit
 cases hst : (r.2.2.1 == (3 : Int)) with
 | true => simp only [if_true, Bool.true_and]; rw [zipM_get _ _ _ _ hj c hc]; simp
 | false => simp
theorem addRows_get : ∀ (x : List T7) (M : List Int) (j : Nat), j < M.length → ∀ c : Int, 1 ≤ c → decide (c ≤ (x.foldl addRow M).getD j 0) = (decide (c ≤ M.getD j 0) || x.any (rhit j c))
 | [], M, j, hj, c, hc => by simp
 | r :: x, M, j, hj, c, hc => by
  rw [List.foldl_cons, addRows_get x _ _ (by rw [addRow_len]; exact hj) c hc, addRow_get r M j hj c hc, List.any_cons, Bool.or_assoc]
theorem phR_get : ∀ (u : List (List T7)) (M : List Int) (k j : Nat), j < M.length → ∀ c : Int, 1 ≤ c →
  decide (c ≤ (phR M k u).getD j 0) = (decide (c ≤ M.getD j 0) || ((decide (k ≤ j) && decide (c ≤ ((u.getD (j - k) []).length : Int))) || u.any fun y => y.any (rhit j c)))
 | [], M, k, j, hj, c, hc => by
  have : ¬ c ≤ 0 := by omega
  simp [phR, this]
 | x :: u, M, k, j, hj, c, hc => by
  rw [phR, phR_get u _ _ _ (by rw [addRows_len, bump_len]; exact hj) c hc, addRows_get x _ _ (by rw [bump_len]; exact hj) c hc, bump_get M k _ j hj c hc, List.any_cons]
  generalize decide (c ≤ M.getD j 0) = A
  generalize x.any (rhit j c) = B
  generalize (u.any fun y => y.any (rhit j c)) = D
  rcases Nat.lt_trichotomy k j with h | h | h
  ·have e1 : ¬ k = j := by omega
   have e2 : k + 1 ≤ j := by omega
   have e3 : k ≤ j := by omega
   have e4 : j - k = (j - (k + 1)) + 1 := by omega
   simp only [e1, e2, e3, e4, decide_true, decide_false, Bool.true_and, Bool.false_and, Bool.or_false, List.getD_cons_succ]
   cases A <;> cases B <;> cases D <;> simp
  ·subst h
   have e2 : ¬ k + 1 ≤ k := by omega
   simp only [e2, Nat.le_refl, decide_true, decide_false, Bool.true_and, Bool.false_and, Nat.sub_self, List.getD_cons_zero]
   cases A <;> cases B <;> cases D <;> simp
  ·have e1 : ¬ k = j := by omega
   have e2 : ¬ k + 1 ≤ j := by omega
   have e3 : ¬ k ≤ j := by omega
   simp only [e1, e2, e3, decide_false, Bool.false_and, Bool.or_false, Bool.false_or]
   cases A <;> cases B <;> cases D <;> rfl
def mostOf (R : List (List T7)) : List Int := phR (List.replicate R.length 0) 0 R
theorem mostOf_len (R : List (List T7)) : (mostOf R).length = R.length := by simp [mostOf, phR_len]
theorem mostOf_get {R : List (List T7)} {j : Nat} {x : List T7} (hx : R[j]? = some x) (c : Int) (hc : 1 ≤ c) : decide (c ≤ (mostOf R).getD j 0) = ment R j x c := by
 have hj : j < R.length := (List.getElem?_eq_some_iff.1 hx).1
 unfold mostOf ment
 rw [phR_get R _ 0 j (by simpa using hj) c hc]
 have : ¬ c ≤ 0 := by omega
 have hxe : R[j] = x := (List.getElem?_eq_some_iff.1 hx).2
 simp [List.getD, hj, this, hxe]
theorem mostOf_le {R : List (List T7)} (hR : GoodR R) {j : Nat} {x : List T7} (hx : R[j]? = some x) : (mostOf R).getD j 0 ≤ 6 := by
 have h7 := mostOf_get hx 7 (by decide)
 have : ment R j x 7 = false := by
  have hx6 := hR.six x (List.mem_of_getElem? hx)
  unfold ment
  rw [Bool.or_eq_false_iff]
  refine ⟨decide_eq_false (by omega), ?_⟩
  rw [List.any_eq_false]
  intro y hy
  rw [Bool.not_eq_true, List.any_eq_false]
  intro r hr
  rw [Bool.not_eq_true]
  unfold rhit
  have : ¬ (7 : Int) ≤ (rlist r).getD j 0 := by
   by_cases hj : j < (rlist r).length
   ·rw [show (rlist r).getD j 0 = (rlist r)[j] by simp [List.getD, List.getElem?_eq_getElem hj]]
    have := (hR.val y hy r hr _ (List.getElem_mem hj)).2
    omega
   ·rw [show (rlist r).getD j 0 = 0 by simp [List.getD, List.getElem?_eq_none (by omega : (rlist r).length ≤ j)]]
    omega
  rw [decide_eq_false this, Bool.and_false]
 rw [this] at h7
 have := of_decide_eq_false h7
 omega
def spRow (j : Nat) (m : Int) (x : List T7) : List (List Int) := ((List.range m.toNat).filter fun c => !kept x c).map (pl j)
def spR (M : List Int) : Nat → List (List T7) → List (List Int)
 | _, [] => []
 | j, x :: u => spRow j (M.getD j 0) x ++ spR M (j + 1) u
theorem range_cut (p : Nat → Bool) : ∀ {m n : Nat}, m ≤ n → (List.range n).filter (fun c => decide (c < m) && p c) = (List.range m).filter p := by
 intro m n h
 obtain ⟨k, rfl⟩ := Nat.exists_eq_add_of_le h
 rw [List.range_add, List.filter_append]
 have e1 : (List.range m).filter (fun c => decide (c < m) && p c) = (List.range m).filter p := List.filter_congr fun c hc => by simp [List.mem_range.1 hc]
 have e2 : ((List.range k).map (m + ·)).filter (fun c => decide (c < m) && p c) = [] := by
  rw [List.filter_eq_nil_iff]
  intro c hc
  obtain ⟨i, _, rfl⟩ := List.mem_map.1 hc
  simp
  intro h; omega
 rw [e1, e2, List.append_nil]
theorem spR_eq {R : List (List T7)} (hR : GoodR R) : ∀ (u : List (List T7)) (j : Nat), (∀ i x, u[i]? = some x → R[j + i]? = some x) → spR (mostOf R) j u = opR R j u
 | [], j, _ => rfl
 | x :: u, j, h => by
  have hx : R[j]? = some x := by simpa using h 0 x rfl
  simp only [spR, opR]
  congr 1
  ·have h6 := mostOf_le hR hx
   unfold spRow opRow
   congr 1
   rw [← range_cut (fun c => !kept x c) (show ((mostOf R).getD j 0).toNat ≤ 6 by omega)]
   refine List.filter_congr fun c hc => ?_
   rw [← mostOf_get hx _ (by omega)]
   congr 1
   rw [Bool.eq_iff_iff]
   simp
   omega
  ·exact spR_eq hR u (j + 1) fun i y hy => by have := h (i + 1) y (by simpa using hy); rw [← this]; congr 1; omega
theorem most_eq (a b : Int) : S_spec_l1Most a b = some ((max a b, ()), ()) := by
 unfold S_spec_l1Most p_spec_l1Most
 by_cases h : a > b
 ·rw [decide_eq_true h, if_pos rfl]; simp only [Option.some.injEq, Prod.mk.injEq, and_true]; omega
 ·rw [decide_eq_false h, if_neg (by simp)]; simp only [Option.some.injEq, Prod.mk.injEq, and_true]; omega
theorem zero_at {i : Nat} {b : Int} {t : List Int} (h : At [(0 : Int)] i b t) : i = 0 ∧ b = 0 ∧ t = [] := by
 have hl := h.ltn
 simp at hl
 subst hl
 have := h.drop
 simp at this
 exact ⟨rfl, this.1.symm, this.2⟩
theorem l10Open_eq {R : List (List T7)} (hR : GoodR R) {S : List T10} (hS : S.length = R.length) (hS0 : (rd S 0 Z10).2.1 = ((R.length : Int), R, ())) :
  S_spec_l10Open (S, [], [], ()) [0] = some ((opR R 0 R, ()), ()) := by
 rw [← spR_eq hR R 0 (fun i x h => by simpa using h)]
 unfold S_spec_l10Open
 refine lim_eq 7 fun N hN => ?_
 unfold p_spec_l10Open
 have h5 := hR.five
 have hpos : 0 < R.length := by have := hR.n; omega
 have hml := mostOf_len R
 have one : ([(0 : Int)] : List Int).length ≤ maxLen := by rw [maxLen_eq]; simp
 have hS0l : ((0 : Int) < (R.length : Int)) := by omega
 have hcap : ((R.length : Int) * 8 ≤ 140737488355328) := by omega
 dsimp only
 simp only [hS, beq_self_eq_true, hcap, show (0 : Int) ≤ (R.length : Int) from by omega, decide_true, if_true, Int.toNat_natCast]
 refine loopN_over [(0 : Int)] one (fun i (M : List Int) => (([0], (R.length : Int), [0], (([(0 : Int)] : List Int).length : Int), (i : Int), ()), ((S, [], [], ()), [], M, ()))) (fun _ _ _ => ((spR (mostOf R) 0 R, ()), ()))
  (fun i u M => (u = [0] → M = List.replicate R.length 0) ∧ (u = [] → M = mostOf R)) (List.replicate R.length 0) rfl rfl ⟨fun _ => rfl, by simp⟩ (by simp; omega) (fun rec M hM => ?_) (fun rec i b t M hat hM hrec => ?_)
 ·obtain rfl := hM.2 rfl
  dsimp only
  simp only [lenInt_lt_irrefl, decide_false, Bool.false_eq_true, if_false]
  refine loopN_over R hR.max (fun j (s : List (List Int)) => (([0], (R.length : Int), (j : Int), ()), ((S, [], [], ()), [], mostOf R, s, ()))) (fun j u s => ((s ++ spR (mostOf R) j u, ()), ())) (fun j u s => s.length ≤ 6 * j)
   [] rfl (by simp) (by simp) (by omega) (fun rec s h => ?_) (fun rec j x u s hat h hrec => ?_)
  ·dsimp only
   simp [spR]
  ·have hx := hat.get
   have hjlt := hat.ltn
   have h6 := mostOf_le hR hx
   have hjm : (j : Int) < ((mostOf R).length : Int) := by omega
   have hrd : rd (mostOf R) (j : Int) 0 = (mostOf R).getD j 0 := rfl
   obtain ⟨m, hm⟩ : ∃ m, m = (mostOf R).getD j 0 := ⟨_, rfl⟩
   dsimp only
   simp only [hat.lt, decide_true, if_true]
   refine loopN_over (List.range m.toNat) (by rw [maxLen_eq]; simp; omega) (fun c (s : List (List Int)) => (([0], (R.length : Int), (j : Int), ((c + 1 : Nat) : Int), ()), ((S, [], [], ()), [], mostOf R, s, ())))
    (fun c v s => ((s ++ ((v.filter fun c => !kept x c).map (pl j)) ++ spR (mostOf R) (j + 1) u, ()), ())) (fun c v s => s.length ≤ 6 * j + c)
    s rfl (by simp only [spR, spRow, ← hm, List.append_assoc]) (by simpa using h) (by simp; omega) (fun rec2 s h => ?_) (fun rec2 c c' v s hat2 h hrec2 => ?_)
   ·have h7 : ¬ (((List.range m.toNat).length + 1 : Nat) : Int) ≤ m := by simp; omega
    dsimp only
    simp only [hat.nn, hjm, hrd, ← hm, h7, decide_true, decide_false, Bool.false_eq_true, if_true, if_false, hat.wrap, List.filter_nil, List.map_nil, List.append_nil]
    refine hrec s (by simp at h; omega)
   ·obtain ⟨rfl, hi6⟩ := range_at hat2
    have h7 : (((c' + 1 : Nat) : Int) ≤ m) := by omega
    have hwr : IntKind.i64.wrap (((c' + 1 : Nat) : Int) + 1) = ((c' + 1 + 1 : Nat) : Int) := by rw [wrap_small (by omega) (by omega)]; omega
    dsimp only
    simp only [hat.nn, hjm, hrd, ← hm, h7, decide_true, if_true]
    refine loopN_over [(0 : Int)] one (fun i (a : Bool) => (([0], (R.length : Int), (j : Int), ((c' + 1 : Nat) : Int), a, [0], (([(0 : Int)] : List Int).length : Int), (i : Int), ()), ((S, [], [], ()), [], mostOf R, s, ())))
     (fun _ _ _ => ((s ++ (if kept x c' then [] else [pl j c']) ++ ((v.filter fun c => !kept x c).map (pl j)) ++ spR (mostOf R) (j + 1) u, ()), ()))
     (fun i w a => (w = [0] → a = true) ∧ (w = [] → a = kept x c')) true rfl ?_ ⟨fun _ => rfl, by simp⟩ (by simp; omega) (fun rec3 a ha => ?_) (fun rec3 i b t a hat3 ha hrec3 => ?_)
    ·rw [List.filter_cons]
     cases kept x c' <;> simp
    ·obtain rfl := ha.2 rfl
     have hcap2 : ((s.length + ([([(j : Int), ((c' + 1 : Nat) : Int)] : List Int)] : List (List Int)).length) * 24 ≤ 140737488355328) = True := by simp; omega
     dsimp only
     simp only [lenInt_lt_irrefl, decide_false, Bool.false_eq_true, if_false, hwr, hcap2, decide_true, if_true]
     cases hk : kept x c' with
     | true =>
      simp only [Bool.not_true, Bool.false_eq_true, if_false, if_true, List.append_nil]
      exact hrec2 s (by omega)
     | false =>
      simp only [Bool.not_false, Bool.false_eq_true, if_false, if_true]
      exact hrec2 _ (by simp; omega)
    ·obtain ⟨rfl, rfl, rfl⟩ := zero_at hat3
     obtain rfl := ha.1 rfl
     obtain ⟨y, hy, hk⟩ := at_some hR hx (c := c') (by omega)
     dsimp only
     simp only [hat3.lt, hat3.nn, hat3.rd, hat3.wrap, hS, hS0l, hS0, hy, hk, Option.bind_some, Int.le_refl, decide_true, if_true]
     exact hrec3 _ ⟨by simp, fun _ => rfl⟩
 ·obtain ⟨rfl, rfl, rfl⟩ := zero_at hat
  obtain rfl := hM.1 rfl
  dsimp only
  simp only [hat.lt, hat.nn, hat.rd, hS, hS0l, hS0, Int.le_refl, decide_true, if_true]
  refine loopN_over R hR.max (fun j (M : List Int) => (([0], (R.length : Int), [0], (([(0 : Int)] : List Int).length : Int), ((0 : Nat) : Int), R, (R.length : Int), (j : Int), ()), ((S, [], [], ()), [], M, ((R.length : Int), R, ()), ()))) (fun _ _ _ => ((spR (mostOf R) 0 R, ()), ()))
   (fun j u M => phR M j u = mostOf R ∧ M.length = R.length) (List.replicate R.length 0) rfl rfl ⟨rfl, by simp⟩ (by omega) (fun rec3 M hM => ?_) (fun rec3 j x u M hat3 hM hrec3 => ?_)
  ·dsimp only
   simp only [lenInt_lt_irrefl, decide_false, Bool.false_eq_true, if_false, hat.wrap]
   exact hrec M ⟨by simp, fun _ => hM.1⟩
  ·have hjM : (j : Int) < (M.length : Int) := by have := hat3.ltn; omega
   have hx6 := hR.six x hat3.mem
   dsimp only
   simp only [hat3.lt, hat3.nn, hat3.rd, hjM, decide_true, if_true, most_eq, Option.bind_some, Int.toNat_natCast]
   refine loopN_over x (by rw [maxLen_eq]; omega) (fun k (M : List Int) => (([0], (R.length : Int), [0], (([(0 : Int)] : List Int).length : Int), ((0 : Nat) : Int), R, (R.length : Int), (j : Int), x, (x.length : Int), (k : Int), ()), ((S, [], [], ()), [], M, ((R.length : Int), R, ()), ()))) (fun _ _ _ => ((spR (mostOf R) 0 R, ()), ()))
    (fun k v M => phR (v.foldl addRow M) (j + 1) u = mostOf R ∧ M.length = R.length) (bump M j (x.length : Int)) rfl rfl ⟨hM.1, by rw [bump_len]; exact hM.2⟩ (by omega) (fun rec6 M hM => ?_) (fun rec6 k r v M hat6 hM hrec6 => ?_)
   ·dsimp only
    simp only [lenInt_lt_irrefl, decide_false, Bool.false_eq_true, if_false, hat3.wrap]
    exact hrec3 M hM
   ·have hrl := hR.len x hat3.mem r hat6.mem
    dsimp only
    simp only [hat6.lt, hat6.nn, hat6.rd, decide_true, if_true]
    refine loopN_over (rlist r) (by rw [maxLen_eq]; omega) (fun q (M : List Int) => (([0], (R.length : Int), [0], (([(0 : Int)] : List Int).length : Int), ((0 : Nat) : Int), R, (R.length : Int), (j : Int), x, (x.length : Int), (k : Int), rlist r, ((rlist r).length : Int), (q : Int), ()),
      ((S, [], [], ()), [], M, ((R.length : Int), R, ()), (r.1, r.2.1, r.2.2.1, r.2.2.2.1.1, r.2.2.2.1.2.1, r.2.2.2.1.2.2.1, r.2.2.2.1.2.2.2.1, r.2.2.2.1.2.2.2.2.1, r.2.2.2.2.1.1, r.2.2.2.2.1.2.1, ()), ()))) (fun _ _ _ => ((spR (mostOf R) 0 R, ()), ()))
     (fun q w M => phR (v.foldl addRow (if r.2.2.1 == (3 : Int) then zipM M q w else M)) (j + 1) u = mostOf R ∧ M.length = R.length) M rfl rfl hM (by omega) (fun rec8 M hM => ?_) (fun rec8 q b w M hat8 hM hrec8 => ?_)
    ·dsimp only
     simp only [lenInt_lt_irrefl, decide_false, Bool.false_eq_true, if_false, hat6.wrap]
     refine hrec6 M ⟨?_, hM.2⟩
     have := hM.1
     simpa only [zipM, ite_self] using this
    ·have hqM : (q : Int) < (M.length : Int) := by have := hat8.ltn; omega
     dsimp only
     simp only [hat8.lt, hat8.nn, hat8.rd, hat8.wrap, hqM, decide_true, if_true, most_eq, Option.bind_some, Int.toNat_natCast]
     cases hst : (r.2.2.1 == (3 : Int)) with
     | true =>
      simp only [if_true]
      refine hrec8 (bump M q b) ⟨?_, by rw [bump_len]; exact hM.2⟩
      have := hM.1
      rw [hst] at this
      rw [hst]
      exact this
     | false =>
      simp only [Bool.false_eq_true, if_false]
      refine hrec8 M ⟨?_, hM.2⟩
      have := hM.1
      rw [hst] at this
      rw [hst]
      exact this
def snap (R : List (List T7)) (i : Nat) : T10 := ((i : Int), ((R.length : Int), R, ()), [], ())
theorem l20Open_eq {R : List (List T7)} (hR : GoodR R) : S_spec_l20Open ((R.length : Int), R, ()) = some ((opR R 0 R, ()), ()) := by
 unfold S_spec_l20Open
 refine lim_eq 6 fun N hN => ?_
 unfold p_spec_l20Open
 have h5 := hR.five
 have hpos : 0 < R.length := by have := hR.n; omega
 refine loopN_over (List.range R.length) (by rw [maxLen_eq]; simp; omega) (fun i (s : List T10) => (((i : Int), ()), (((R.length : Int), R, ()), ([] : List (List Int)), (()), s, ()))) (fun _ _ _ => ((opR R 0 R, ()), ()))
  (fun i u s => s = (List.range i).map (snap R) ∧ i ≤ R.length) [] rfl rfl ⟨rfl, by omega⟩ (by simp; omega) (fun rec s h => ?_) (fun rec i b u s hat h hrec => ?_)
 ·obtain ⟨rfl, _⟩ := h
  dsimp only
  simp only [List.length_range, lenInt_lt_irrefl, decide_false, Bool.false_eq_true, if_false]
  rw [l10Open_eq hR (by simp) ?_]
  ·rfl
  ·rw [show rd ((List.range R.length).map (snap R)) 0 Z10 = snap R 0 from ?_]
   ·rfl
   ·rw [show (0 : Int) = ((0 : Nat) : Int) from rfl, rd_nat]
    simp [List.getD, hpos]
 ·obtain ⟨rfl, hi⟩ := range_at hat
  obtain ⟨rfl, _⟩ := h
  have hlt : (b : Int) < (R.length : Int) := by omega
  have hcap : ((((List.range b).map (snap R)).length + ([((b : Int), ((R.length : Int), R, ()), ([] : List T9), ())] : List T10).length) * 64 ≤ 140737488355328) = True := by simp; omega
  dsimp only
  simp only [hlt, hcap, decide_true, if_true, hat.wrap]
  exact hrec _ ⟨by rw [List.range_succ, List.map_append]; rfl, hi⟩
noncomputable def openRes (t : T8) : List (List Int) × Bool × Unit := if tableOk t then (opR t.2.1 0 t.2.1, true, ()) else ([], false, ())
theorem spec_OpenIn_eq (t : T8) (hl : WL.wl t) : S_spec_OpenIn t = some (openRes t, ()) := by
 unfold S_spec_OpenIn p_spec_OpenIn openRes
 rw [spec_GoodTable_eq t hl, Option.bind_some]
 dsimp only
 cases h : tableOk t with
 | false => simp
 | true =>
  obtain ⟨ht, hR⟩ := goodR_of h
  rw [ht]
  simp only [Bool.not_true, Bool.false_eq_true, if_false, if_true]
  rw [l20Open_eq hR]
  rfl
theorem impl_OpenIn_eq (t : T8) (hl : WL.wl t) : S_impl_OpenIn t = some (openRes t, ()) := by
 unfold S_impl_OpenIn p_impl_OpenIn openRes
 rw [impl_GoodTable_eq t hl, Option.bind_some]
 dsimp only
 cases h : tableOk t with
 | false => simp
 | true =>
  obtain ⟨ht, hR⟩ := goodR_of h
  rw [ht]
  simp only [Bool.not_true, Bool.false_eq_true, if_false, if_true]
  rw [open_eq hR]
  rfl
noncomputable def ageOf (S : List (List Int)) (G : List Int) (e : List Int) : Int :=
 if idxI (fun x => same e x) S 0 ≥ 0 then (if (20 : Int) < rd G (idxI (fun x => same e x) S 0) 0 + 1 then 20 else rd G (idxI (fun x => same e x) S 0) 0 + 1) else 0
def waitV (n a b : Int) : Int := 3 + 2 * Int.tmod (a - b + n) n
noncomputable def turnOf (n a : Int) (S : List (List Int)) (G : List Int) (e : List Int) : Bool := decide (ageOf S G e > 0) && (Int.tmod (ageOf S G e) (waitV n a (rd e 0 0)) == 0)
theorem idxI_lt {β : Type} (q : β → Bool) : ∀ (l : List β) (i : Int), 0 ≤ i → idxI q l i ≥ 0 → idxI q l i < i + (l.length : Int)
 | [], i, h, h' => by simp [idxI] at h'
 | b :: t, i, h, h' => by
  unfold idxI at h' ⊢
  cases hb : q b with
  | true => simp; omega
  | false =>
   rw [hb] at h'
   simp only [Bool.false_eq_true, if_false] at h' ⊢
   have := idxI_lt q t (i + 1) (by omega) h'
   simp only [List.length_cons]
   omega
theorem waitV_ok {n a b : Int} (hn : grp n = true) (ha : 0 ≤ a ∧ a < n) (hb : 0 ≤ b ∧ b < n) : 3 ≤ waitV n a b ∧ waitV n a b ≤ 11 := by
 rw [grp_iff] at hn
 unfold waitV
 have h0 : 0 ≤ a - b + n := by omega
 rw [Int.tmod_eq_emod_of_nonneg h0]
 have h1 := Int.emod_nonneg (a - b + n) (show n ≠ 0 by omega)
 have h2 := Int.emod_lt_of_pos (a - b + n) (show 0 < n by omega)
 omega
theorem wait_eq {n a b : Int} (hn : grp n = true) (ha : 0 ≤ a ∧ a < n) (hb : 0 ≤ b ∧ b < n) : S_spec_l20Wait n a b = some ((waitV n a b, ()), ()) ∧ S_impl_waitOf n a b = some ((waitV n a b, ()), ()) := by
 have hn' := hn
 rw [grp_iff] at hn'
 have h0 : (n == 0) = false := by simp; omega
 have hw := waitV_ok hn ha hb
 have e1 : IntKind.i64.wrap (a - b) = a - b := wrap_small (by omega) (by omega)
 have e2 : IntKind.i64.wrap (a - b + n) = a - b + n := wrap_small (by omega) (by omega)
 unfold waitV at hw
 have e3 : IntKind.i64.wrap (2 * Int.tmod (a - b + n) n) = 2 * Int.tmod (a - b + n) n := wrap_small (by omega) (by omega)
 have e4 : IntKind.i64.wrap (3 + 2 * Int.tmod (a - b + n) n) = waitV n a b := by rw [wrap_small (by omega) (by omega)]; rfl
 unfold S_spec_l20Wait p_spec_l20Wait S_impl_waitOf p_impl_waitOf
 simp only [h0, Bool.false_eq_true, if_false, e1, e2, e3, e4]
 exact ⟨trivial, trivial⟩
theorem find_eq {S : List (List Int)} {e : List Int} (hS : WL.wl S) (he : e.length ≤ maxLen) : S_spec_l6Find S e = some ((idxI (fun x => same e x) S 0, ()), ()) := by
 unfold S_spec_l6Find
 refine lim_eq (S.length + 1) fun N hN => ?_
 unfold p_spec_l6Find
 refine loopN_over S hS.1 (fun i (s : Unit) => ((e, S, (S.length : Int), (i : Int), ()), ())) (fun i t s => ((idxI (fun x => same e x) t (i : Int), ()), ())) (fun _ _ _ => True) () rfl rfl trivial hN (fun rec s h => ?_) (fun rec i b t s hat h hrec => ?_)
 ·dsimp only
  simp [idxI]
 ·dsimp only
  simp only [hat.lt, hat.nn, hat.wrap, hat.rd, decide_true, if_true, spec_l1Same_eq e b he (wl_mem hS hat.mem).1, Option.bind_some, idxI]
  by_cases hs : same e b = true
  ·simp [hs]
  ·simp only [hs, Bool.false_eq_true, if_false]; exact (hrec () trivial).trans (by simp)
theorem opR_mem {R : List (List T7)} : ∀ (u : List (List T7)) (j : Nat), ∀ e ∈ opR R j u, ∃ i c, i < j + u.length ∧ e = pl i c
 | [], j, e, he => by simp [opR] at he
 | x :: u, j, e, he => by
  simp only [opR, opRow, List.mem_append, List.mem_map] at he
  rcases he with ⟨c, _, rfl⟩ | he
  ·exact ⟨j, c, by simp, rfl⟩
  ·obtain ⟨i, c, hi, h⟩ := opR_mem u (j + 1) e he
   exact ⟨i, c, by simp only [List.length_cons]; omega, h⟩
structure GoodW (n a : Int) (S : List (List Int)) (G : List Int) : Prop where
 grp : grp n = true
 who : 0 ≤ a ∧ a < n
 wl : WL.wl S
 len : G.length = S.length
 val : ∀ b ∈ G, 0 ≤ b ∧ b ≤ 20
theorem GoodW.at {n a : Int} {S : List (List Int)} {G : List Int} (h : GoodW n a S G) {q : List Int → Bool} (hk : idxI q S 0 ≥ 0) : idxI q S 0 < (G.length : Int) ∧ 0 ≤ rd G (idxI q S 0) 0 ∧ rd G (idxI q S 0) 0 ≤ 20 := by
 have h1 := idxI_lt q S 0 (by omega) hk
 have h2 : idxI q S 0 < (G.length : Int) := by rw [h.len]; omega
 have h3 := h.val _ (List.mem_of_getElem? (rd_get (d := 0) hk h2))
 exact ⟨h2, h3⟩
theorem tick_step {α : Type} (O : List α) {i : Nat} {e : α} {u : List α} (h : At O i e u) : O.take (i + 1) = O.take i ++ [e] := by
 rw [List.take_add_one, h.get]; rfl
theorem l20Tick_eq {R : List (List T7)} (hR : GoodR R) {a : Int} {S : List (List Int)} {G : List Int} (hW : GoodW (R.length : Int) a S G) :
  S_spec_l20Tick (a, (R.length : Int), S, G, ()) ((R.length : Int), R, ()) = some (((a, (R.length : Int), opR R 0 R, (opR R 0 R).map (ageOf S G), ()), (opR R 0 R).filter (turnOf (R.length : Int) a S G), ()), ()) := by
 unfold S_spec_l20Tick
 have h5 := hR.five
 have hl := opR_len R R 0
 have hm := opR_mem (R := R) R 0
 refine lim_eq ((opR R 0 R).length + 1) fun N hN => ?_
 unfold p_spec_l20Tick
 rw [l20Open_eq hR, Option.bind_some]
 generalize opR R 0 R = O at hl hm hN ⊢
 dsimp only
 refine loopN_over O (by rw [maxLen_eq]; omega) (fun i (s : List (List Int) × List (List Int) × List Int) => (((O.length : Int), (i : Int), ()), ((a, (R.length : Int), S, G, ()), ((R.length : Int), R, ()), ((0 : Int), (0 : Int), ()), ([] : List (List Int)), (a, (R.length : Int), ()), s.1, O, s.2.1, s.2.2, ())))
  (fun _ _ _ => (((a, (R.length : Int), O, O.map (ageOf S G), ()), O.filter (turnOf (R.length : Int) a S G), ()), ())) (fun i u s => s = ((O.take i).filter (turnOf (R.length : Int) a S G), O.take i, (O.take i).map (ageOf S G)) ∧ i ≤ O.length)
  ([], [], []) rfl rfl ⟨by simp, by omega⟩ hN (fun rec s h => ?_) (fun rec i e u s hat h hrec => ?_)
 ·obtain ⟨rfl, _⟩ := h
  dsimp only
  simp only [lenInt_lt_irrefl, decide_false, Bool.false_eq_true, if_false, List.take_length]
 ·obtain ⟨rfl, hi⟩ := h
  have hil := hat.ltn
  obtain ⟨j, c, hj, rfl⟩ := hm e hat.mem
  have hf := find_eq (e := pl j c) hW.wl (by rw [maxLen_eq]; simp [pl])
  have hwt := wait_eq hW.grp hW.who (b := (j : Int)) ⟨by omega, by omega⟩
  have hwv := waitV_ok hW.grp hW.who (b := (j : Int)) ⟨by omega, by omega⟩
  have r0 : rd (pl j c) 0 0 = (j : Int) := rfl
  have r1 : rd (pl j c) 1 0 = ((c + 1 : Nat) : Int) := rfl
  have rl : (pl j c).length = 2 := rfl
  have rp : ([(j : Int), ((c + 1 : Nat) : Int)] : List Int) = pl j c := rfl
  have cap1 : ((O.take i).length + ([pl j c] : List (List Int)).length) * 24 ≤ 140737488355328 := by simp; omega
  have cap2 : ∀ v : Int, (((O.take i).map (ageOf S G)).length + ([v] : List Int).length) * 8 ≤ 140737488355328 := fun v => by simp; omega
  have cap3 : (((O.take i).filter (turnOf (R.length : Int) a S G)).length + ([pl j c] : List (List Int)).length) * 24 ≤ 140737488355328 := by
   have := List.length_filter_le (turnOf (R.length : Int) a S G) (O.take i)
   simp at this ⊢; omega
  have hw0 : (waitV (R.length : Int) a (j : Int) == 0) = false := by simp; omega
  have fin : ∀ v : Int, ageOf S G (pl j c) = v → ∀ T, T = (O.take i).filter (turnOf (R.length : Int) a S G) ++ (if decide (v > 0) && (Int.tmod v (waitV (R.length : Int) a (j : Int)) == 0) then [pl j c] else []) →
    rec ((((O.length : Int), ((i + 1 : Nat) : Int), ()), ((a, (R.length : Int), S, G, ()), ((R.length : Int), R, ()), ((0 : Int), (0 : Int), ()), ([] : List (List Int)), (a, (R.length : Int), ()), T, O, O.take i ++ [pl j c], (O.take i).map (ageOf S G) ++ [v], ()))) = some (((a, (R.length : Int), O, O.map (ageOf S G), ()), O.filter (turnOf (R.length : Int) a S G), ()), ()) := by
   rintro v rfl T rfl
   refine hrec (_, _, _) ⟨?_, by omega⟩
   rw [tick_step O hat, List.filter_append, List.map_append]
   have : turnOf (R.length : Int) a S G (pl j c) = (decide (ageOf S G (pl j c) > 0) && (Int.tmod (ageOf S G (pl j c)) (waitV (R.length : Int) a (j : Int)) == 0)) := rfl
   simp only [List.filter_cons, List.filter_nil, List.map_cons, List.map_nil, this]
  dsimp only
  simp only [hat.lt, hat.nn, hat.rd, hat.wrap, decide_true, if_true, hf, Option.bind_some]
  by_cases hk : idxI (fun x => same (pl j c) x) S 0 ≥ 0
  ·obtain ⟨k1, k2, k3⟩ := hW.at hk
   have hk' : 0 ≤ idxI (fun x => same (pl j c) x) S 0 := hk
   have hage : ageOf S G (pl j c) = (if (20 : Int) < rd G (idxI (fun x => same (pl j c) x) S 0) 0 + 1 then 20 else rd G (idxI (fun x => same (pl j c) x) S 0) 0 + 1) := by unfold ageOf; rw [if_pos hk]
   have hleast : ∀ x y : Int, S_spec_l1Least x y = some ((if x < y then x else y, ()), ()) := fun x y => by
    unfold S_spec_l1Least p_spec_l1Least
    by_cases h : x < y <;> simp [h]
   rw [decide_eq_true hk, if_pos rfl, wrap_small (n := rd G (idxI (fun x => same (pl j c) x) S 0) 0 + 1) (by omega) (by omega)]
   simp only [hk', k1, decide_true, if_true, hleast, Option.bind_some, ← hage, r0, r1, rl, rp, cap1, cap2, cap3, hwt.1, hw0, Int.le_refl, show (0 : Int) < ((2 : Nat) : Int) from by decide, show (1 : Int) < ((2 : Nat) : Int) from by decide, show (0 : Int) ≤ 1 from by decide, Bool.false_eq_true, if_false]
   cases hp : decide (ageOf S G (pl j c) > 0) with
   | false =>
    simp only [Bool.false_eq_true, if_false]
    exact fin _ rfl _ (by simp [hp])
   | true =>
    simp only [if_true]
    cases ht : (Int.tmod (ageOf S G (pl j c)) (waitV (R.length : Int) a (j : Int)) == 0) with
    | true => simp only [if_true]; exact fin _ rfl _ (by simp [hp, ht])
    | false => simp only [Bool.false_eq_true, if_false]; exact fin _ rfl _ (by simp [hp, ht])
  ·have hage : ageOf S G (pl j c) = 0 := by unfold ageOf; rw [if_neg hk]
   rw [decide_eq_false hk]
   simp only [Bool.false_eq_true, if_false, r0, r1, rl, rp, cap1, cap2, decide_true, if_true, Int.le_refl, show (0 : Int) < ((2 : Nat) : Int) from by decide, show (1 : Int) < ((2 : Nat) : Int) from by decide, show (0 : Int) ≤ 1 from by decide, show ((0 : Int) > 0) = False from by simp, decide_false]
   exact fin 0 hage _ (by simp)
def watchOk (x : WatchT) : Bool := grp x.2.1 && (inn x.1 0 (x.2.1 - 1) && (doneB x.2.1 none x.2.2.1 && (((x.2.2.2.1.length : Int) == (x.2.2.1.length : Int)) && x.2.2.2.1.all fun b => inn b 0 20)))
theorem spec_l20Good_eq (x : WatchT) (hl : WL.wl x) : S_spec_l20Good x = some ((watchOk x, ()), ()) := by
 unfold S_spec_l20Good p_spec_l20Good watchOk
 simp only [spec_IsGroup_eq, Option.bind_some]
 cases hg : grp x.2.1 with
 | false => simp
 | true =>
  simp only [if_true, grp_wrap hg, spec_l1In_eq, Option.bind_some]
  cases inn x.1 0 (x.2.1 - 1) with
  | false => simp
  | true =>
   simp only [if_true, spec_l18Done_eq hg _ hl.2.2.1.1, Option.bind_some]
   cases doneB x.2.1 none x.2.2.1 with
   | false => simp
   | true =>
    simp only [if_true, spec_l1All_eq _ _ _ hl.2.2.2.1.1, Option.bind_some, Bool.true_and]
    cases ((x.2.2.2.1.length : Int) == (x.2.2.1.length : Int)) <;> simp
theorem watchOk_good {x : WatchT} (hl : WL.wl x) (h : watchOk x = true) : GoodW x.2.1 x.1 x.2.2.1 x.2.2.2.1 := by
 simp only [watchOk, Bool.and_eq_true, beq_iff_eq, List.all_eq_true] at h
 obtain ⟨h1, h2, h3, h4, h5⟩ := h
 have h2 := inn_iff.1 h2
 exact ⟨h1, by omega, hl.2.2.1, by omega, fun b hb => inn_iff.1 (h5 b hb)⟩
noncomputable def tickRes (x : WatchT) (t : T8) : WatchT × List (List Int) × Bool × Unit :=
 if watchOk x && (tableOk t && !(t.1 != x.2.1)) then ((x.1, x.2.1, opR t.2.1 0 t.2.1, (opR t.2.1 0 t.2.1).map (ageOf x.2.2.1 x.2.2.2.1), ()), (opR t.2.1 0 t.2.1).filter (turnOf x.2.1 x.1 x.2.2.1 x.2.2.2.1), true, ())
 else ((0, 0, [], [], ()), [], false, ())
theorem spec_TickWatch_eq (x : WatchT) (t : T8) (hx : WL.wl x) (ht : WL.wl t) : S_spec_TickWatch x t = some (tickRes x t, ()) := by
 unfold S_spec_TickWatch p_spec_TickWatch tickRes
 rw [spec_l20Good_eq x hx, spec_GoodTable_eq t ht, Option.bind_some, Option.bind_some]
 dsimp only
 cases hw : watchOk x with
 | false => simp
 | true =>
  cases hg : tableOk t with
  | false => simp
  | true =>
   cases hn : (t.1 != x.2.1) with
   | true => simp
   | false =>
    obtain ⟨e, hR⟩ := goodR_of hg
    have hW := watchOk_good hx hw
    obtain ⟨n, R, ⟨⟩⟩ := t
    obtain ⟨a, m, S, G, ⟨⟩⟩ := x
    simp only [Prod.mk.injEq, and_true] at e
    subst e
    obtain rfl : (R.length : Int) = m := by simpa using hn
    simp only [Bool.not_true, Bool.false_eq_true, if_false, Bool.not_false, Bool.and_self, if_true]
    rw [l20Tick_eq hR hW]
    rfl
theorem impl_TickWatch_eq (x : WatchT) (t : T8) (hx : WL.wl x) (ht : WL.wl t) : S_impl_TickWatch x t = some (tickRes x t, ()) := by
 unfold S_impl_TickWatch tickRes
 have hl := opR_len t.2.1 t.2.1 0
 refine lim_eq ((opR t.2.1 0 t.2.1).length + 1) fun N hN => ?_
 unfold p_impl_TickWatch
 rw [show S_impl_GoodWatch x = some ((watchOk x, ()), ()) from impl_GoodWatch_eq x hx, impl_GoodTable_eq t ht, Option.bind_some, Option.bind_some]
 dsimp only
 cases hw : watchOk x with
 | false => simp
 | true =>
  cases hg : tableOk t with
  | false => simp
  | true =>
   cases hn : (t.1 != x.2.1) with
   | true => simp [hn]
   | false =>
    obtain ⟨e, hR⟩ := goodR_of hg
    have hW := watchOk_good hx hw
    have h5 := hR.five
    have hm := opR_mem (R := t.2.1) t.2.1 0
    obtain ⟨n, R, ⟨⟩⟩ := t
    obtain ⟨a, m, S, G, ⟨⟩⟩ := x
    simp only [Prod.mk.injEq, and_true] at e
    subst e
    obtain rfl : (R.length : Int) = m := by simpa using hn
    simp only [Bool.not_true, Bool.false_eq_true, if_false, Bool.not_false, Bool.and_self, if_true, hn]
    rw [open_eq hR, Option.bind_some]
    dsimp only at hl hm hN hW h5 ⊢
    generalize opR R 0 R = O at hl hm hN ⊢
    refine loopN_over O (by rw [maxLen_eq]; omega) (fun i (s : List Int × List (List Int)) => (((O.length : Int), (i : Int), false, true, false, false, true, false, false, false, (R.length : Int), (R.length : Int), false, false, ()), ((a, (R.length : Int), S, G, ()), ((R.length : Int), R, ()), ((0 : Int), (0 : Int), ()), ([] : List (List Int)), ((R.length : Int), R, ()), ([] : List (List Int)), O, s.1, s.2, ())))
     (fun _ _ _ => (((a, (R.length : Int), O, O.map (ageOf S G), ()), O.filter (turnOf (R.length : Int) a S G), true, ()), ())) (fun i u s => s = ((O.take i).map (ageOf S G), (O.take i).filter (turnOf (R.length : Int) a S G)) ∧ i ≤ O.length)
     ([], []) rfl rfl ⟨by simp, by omega⟩ hN (fun rec s h => ?_) (fun rec i e u s hat h hrec => ?_)
    ·obtain ⟨rfl, _⟩ := h
     dsimp only
     simp only [lenInt_lt_irrefl, decide_false, Bool.false_eq_true, if_false, List.take_length]
    ·obtain ⟨rfl, hi⟩ := h
     have hil := hat.ltn
     obtain ⟨j, c, hj, rfl⟩ := hm e hat.mem
     have hpl : (pl j c).length ≤ maxLen := by rw [maxLen_eq]; simp [pl]
     have hf := IndexFunc_LLint_eq (l := S) (p := fun (x6 : (List Int × Unit)) => (((S_Equal_Lint_int (pl j c) x6.1).bind fun y7 => (some ((y7.1.1, ()), ())))).bind fun y8 => some y8.1.1) (fun x => same (pl j c) x) hW.wl.1 (fun x hxS => by
      dsimp only
      rw [Equal_Lint_eq _ _ hpl (wl_mem hW.wl hxS).1]; rfl)
     have hcl := clone_eq (l := pl j c) (by simp [pl])
     have hwt := wait_eq hW.grp hW.who (b := (j : Int)) ⟨by omega, by omega⟩
     have hwv := waitV_ok hW.grp hW.who (b := (j : Int)) ⟨by omega, by omega⟩
     have r0 : rd (pl j c) 0 0 = (j : Int) := rfl
     have rl : (pl j c).length = 2 := rfl
     have cap2 : ∀ v : Int, (((O.take i).map (ageOf S G)).length + ([v] : List Int).length) * 8 ≤ 140737488355328 := fun v => by simp; omega
     have cap3 : (((O.take i).filter (turnOf (R.length : Int) a S G)).length + ([pl j c] : List (List Int)).length) * 24 ≤ 140737488355328 := by
      have := List.length_filter_le (turnOf (R.length : Int) a S G) (O.take i)
      simp at this ⊢; omega
     have hw0 : (waitV (R.length : Int) a (j : Int) == 0) = false := by simp; omega
     have fin : ∀ v : Int, ageOf S G (pl j c) = v → ∀ T, T = (O.take i).filter (turnOf (R.length : Int) a S G) ++ (if decide (v > 0) && (Int.tmod v (waitV (R.length : Int) a (j : Int)) == 0) then [pl j c] else []) →
       rec ((((O.length : Int), ((i + 1 : Nat) : Int), false, true, false, false, true, false, false, false, (R.length : Int), (R.length : Int), false, false, ()), ((a, (R.length : Int), S, G, ()), ((R.length : Int), R, ()), ((0 : Int), (0 : Int), ()), ([] : List (List Int)), ((R.length : Int), R, ()), ([] : List (List Int)), O, (O.take i).map (ageOf S G) ++ [v], T, ()))) = some (((a, (R.length : Int), O, O.map (ageOf S G), ()), O.filter (turnOf (R.length : Int) a S G), true, ()), ()) := by
      rintro v rfl T rfl
      refine hrec (_, _) ⟨?_, by omega⟩
      rw [tick_step O hat, List.filter_append, List.map_append]
      have : turnOf (R.length : Int) a S G (pl j c) = (decide (ageOf S G (pl j c) > 0) && (Int.tmod (ageOf S G (pl j c)) (waitV (R.length : Int) a (j : Int)) == 0)) := rfl
      simp only [List.filter_cons, List.filter_nil, List.map_cons, List.map_nil, this]
     dsimp only
     simp only [hat.lt, hat.nn, hat.rd, hat.wrap, decide_true, if_true, hf, Option.bind_some]
     by_cases hk : idxI (fun x => same (pl j c) x) S 0 ≥ 0
     ·obtain ⟨k1, k2, k3⟩ := hW.at hk
      have hk' : 0 ≤ idxI (fun x => same (pl j c) x) S 0 := hk
      have hage : ageOf S G (pl j c) = (if (20 : Int) < rd G (idxI (fun x => same (pl j c) x) S 0) 0 + 1 then 20 else rd G (idxI (fun x => same (pl j c) x) S 0) 0 + 1) := by unfold ageOf; rw [if_pos hk]
      rw [decide_eq_true hk, if_pos rfl, wrap_small (n := rd G (idxI (fun x => same (pl j c) x) S 0) 0 + 1) (by omega) (by omega)]
      simp only [hk', k1, decide_true, if_true, Option.bind_some, ← hage, r0, rl, cap2, cap3, hwt.2, hw0, hcl, Int.le_refl, show (0 : Int) < ((2 : Nat) : Int) from by decide, Bool.false_eq_true, if_false]
      cases hp : decide (ageOf S G (pl j c) > 0) with
      | false =>
       simp only [Bool.false_eq_true, if_false]
       exact fin _ rfl _ (by simp [hp])
      | true =>
       simp only [if_true]
       cases htm : (Int.tmod (ageOf S G (pl j c)) (waitV (R.length : Int) a (j : Int)) == 0) with
       | true => simp only [if_true]; exact fin _ rfl _ (by simp [hp, htm])
       | false => simp only [Bool.false_eq_true, if_false]; exact fin _ rfl _ (by simp [hp, htm])
     ·have hage : ageOf S G (pl j c) = 0 := by unfold ageOf; rw [if_neg hk]
      rw [decide_eq_false hk]
      simp only [Bool.false_eq_true, if_false, cap2, decide_true, if_true, show ((0 : Int) > 0) = False from by simp, decide_false]
      exact fin 0 hage _ (by simp)
structure Cur (c : T14) (k : Nat) : Prop where
 bytes : ∀ b ∈ c.1, 0 ≤ b ∧ b ≤ 255
 len : c.1.length ≤ maxLen
 nn : 0 ≤ c.2.1
 room : c.2.1 + (k : Int) ≤ 4611686018427387904
theorem Cur.less {c : T14} {k m : Nat} (h : Cur c k) (hm : m ≤ k) : Cur c m := ⟨h.bytes, h.len, h.nn, by have := h.room; omega⟩
theorem and255 (x : Int) : 0 ≤ IntKind.i64.wrap (bits .and .u64 x 255) ∧ IntKind.i64.wrap (bits .and .u64 x 255) ≤ 255 := by
 have h : ∃ n : Nat, n ≤ 255 ∧ bits .and .u64 x 255 = (n : Int) := by
  refine ⟨(BitVec.ofInt 64 x &&& BitVec.ofInt 64 255).toNat, ?_, ?_⟩
  ·rw [BitVec.toNat_and]
   exact Nat.le_trans Nat.and_le_right (by decide)
  ·have hle : (BitVec.ofInt 64 x &&& BitVec.ofInt 64 255).toNat ≤ 255 := by
    rw [BitVec.toNat_and]
    exact Nat.le_trans Nat.and_le_right (by decide)
   show IntKind.u64.wrap ((BitVec.ofInt 64 x &&& BitVec.ofInt 64 255).toNat : Int) = _
   unfold IntKind.wrap
   simp only [IntKind.bits, IntKind.signed, Bool.false_and, Bool.false_eq_true, if_false]
   omega
 obtain ⟨n, hn, e⟩ := h
 rw [e, wrap_small (by omega) (by omega)]
 omega
theorem next_ok {c : T14} {k : Nat} (h : Cur c (k + 1)) : ∃ v c', S_Pspec_l1Cur_next c = some ((v, ()), (c', ())) ∧ Cur c' k ∧ 0 ≤ v ∧ v ≤ 255 := by
 have hr := h.room
 have hn := h.nn
 have hw : IntKind.i64.wrap (c.2.1 + 1) = c.2.1 + 1 := wrap_small (by omega) (by omega)
 have hc : ∀ s : Int, Cur (c.1, c.2.1 + 1, s, ()) k := fun s => ⟨h.bytes, h.len, by show 0 ≤ c.2.1 + 1; omega, by show c.2.1 + 1 + (k : Int) ≤ _; omega⟩
 unfold S_Pspec_l1Cur_next p_Pspec_l1Cur_next
 rw [hw]
 by_cases hlt : c.2.1 < (c.1.length : Int)
 ·have hb := h.bytes _ (List.mem_of_getElem? (rd_get (d := 0) hn hlt))
  have hv : IntKind.i64.wrap (rd c.1 c.2.1 0) = rd c.1 c.2.1 0 := wrap_small (by omega) (by omega)
  have hle : c.2.1 + 1 ≤ (c.1.length : Int) := by omega
  simp only [hlt, hn, hle, decide_true, if_true]
  rw [hv]
  exact ⟨_, _, rfl, hc _, hb⟩
 ·have hle : ¬ c.2.1 + 1 ≤ (c.1.length : Int) := by omega
  simp only [hlt, hle, decide_false, Bool.false_eq_true, if_false, show ¬ (40 : Int) < 0 from by decide]
  exact ⟨_, _, rfl, hc _, and255 _⟩
theorem pick_ok {c : T14} {k : Nat} (h : Cur c (k + 2)) {m : Int} (hm : m ≤ 60000) : ∃ v c', S_Pspec_l1Cur_pick c m = some ((v, ()), (c', ())) ∧ Cur c' k ∧ 0 ≤ v ∧ (1 ≤ m → v < m) := by
 unfold S_Pspec_l1Cur_pick p_Pspec_l1Cur_pick
 by_cases h1 : m ≤ 1
 ·simp only [h1, decide_true, if_true]
  exact ⟨0, c, rfl, h.less (by omega), by omega, fun _ => by omega⟩
 ·obtain ⟨v, c1, e1, hc1, hv0, hv1⟩ := next_ok h
  have h0 : (m == 0) = false := by simp; omega
  simp only [h1, decide_false, Bool.false_eq_true, if_false]
  rw [e1, Option.bind_some]
  by_cases h2 : m > 200
  ·obtain ⟨u, c2, e2, hc2, hu0, hu1⟩ := next_ok hc1
   simp only [h2, decide_true, if_true]
   rw [e2, Option.bind_some]
   simp only [h0, Bool.false_eq_true, if_false]
   rw [wrap_small (n := v * 256) (by omega) (by omega), wrap_small (by omega) (by omega), Int.tmod_eq_emod_of_nonneg (by omega)]
   exact ⟨_, c2, rfl, hc2, Int.emod_nonneg _ (by omega), fun _ => Int.emod_lt_of_pos _ (by omega)⟩
  ·simp only [h2, decide_false, Bool.false_eq_true, if_false, h0]
   rw [Int.tmod_eq_emod_of_nonneg hv0]
   exact ⟨_, c1, rfl, hc1.less (by omega), Int.emod_nonneg _ (by omega), fun _ => Int.emod_lt_of_pos _ (by omega)⟩
theorem among_ok {c : T14} {k : Nat} (h : Cur c (k + 2)) {l : List Int} (hl : l ≠ []) (hl2 : l.length ≤ 200) : ∃ v c', S_Pspec_l1Cur_among c l = some ((v, ()), (c', ())) ∧ Cur c' k ∧ v ∈ l := by
 unfold S_Pspec_l1Cur_among p_Pspec_l1Cur_among
 have hpos : 0 < l.length := List.length_pos_iff.2 hl
 obtain ⟨v, c1, e1, hc1, hv0, hv1⟩ := pick_ok h (m := (l.length : Int)) (by omega)
 have hv1 := hv1 (by omega)
 rw [e1, Option.bind_some]
 simp only [hv0, hv1, decide_true, if_true]
 exact ⟨_, c1, rfl, hc1, List.mem_of_getElem? (rd_get hv0 hv1)⟩
theorem one_ok {c : T14} {k : Nat} (h : Cur c (k + 2)) {m : Int} (hm : m ≤ 60000) : ∃ b c', S_Pspec_l1Cur_one c m = some ((b, ()), (c', ())) ∧ Cur c' k := by
 unfold S_Pspec_l1Cur_one p_Pspec_l1Cur_one
 obtain ⟨v, c1, e1, hc1, _⟩ := pick_ok h hm
 rw [e1, Option.bind_some]
 exact ⟨_, c1, rfl, hc1⟩
theorem cmd_ok {c : T14} {k : Nat} (h : Cur c (k + 10)) : ∃ d c', S_Pspec_l1Cur_cmd c = some ((d, ()), (c', ())) ∧ Cur c' k ∧ ((d.1 = 1 ∧ (0 ≤ d.2.2.2.1 ∧ d.2.2.2.1 ≤ 3) ∧ 1 ≤ d.2.2.2.2.1 ∧ d.2.2.2.2.1 ≤ 30) ∨ (d.1 = 2 ∧ d.2.2.2.1 = 0 ∧ d.2.2.2.2.1 = 0)) ∧ gcmd d = true := by
 unfold S_Pspec_l1Cur_cmd p_Pspec_l1Cur_cmd
 obtain ⟨v1, c1, e1, hc1, a1, b1⟩ := pick_ok (k := k + 8) h (m := 9) (by decide)
 obtain ⟨v2, c2, e2, hc2, a2, b2⟩ := pick_ok (k := k + 6) hc1 (m := 4) (by decide)
 obtain ⟨v3, c3, e3, hc3, a3, b3⟩ := pick_ok (k := k + 4) hc2 (m := 30) (by decide)
 obtain ⟨v4, c4, e4, hc4, a4, b4⟩ := pick_ok (k := k + 2) hc3 (m := 3) (by decide)
 obtain ⟨o, c5, e5, hc5⟩ := one_ok (k := k) hc4 (m := 4) (by decide)
 have b1 := b1 (by decide); have b2 := b2 (by decide); have b3 := b3 (by decide); have b4 := b4 (by decide)
 rw [e1, Option.bind_some]
 dsimp only
 rw [e2, Option.bind_some]
 dsimp only
 rw [e3, Option.bind_some]
 dsimp only
 rw [e4, Option.bind_some]
 dsimp only
 rw [if_neg (by decide), e5, Option.bind_some]
 dsimp only
 rw [wrap_small (n := 1 + v1) (by omega) (by omega), wrap_small (n := v2 + 1) (by omega) (by omega), wrap_small (n := v2 + 1 + v4) (by omega) (by omega), wrap_small (n := 1 + v3) (by omega) (by omega), Int.tmod_eq_emod_of_nonneg (by omega)]
 cases o with
 | true =>
  simp only [if_true]
  exact ⟨_, c5, rfl, hc5, .inr ⟨rfl, rfl, rfl⟩, by
   unfold gcmd inn
   have x1 : 1 ≤ 1 + v1 := by omega
   have x2 : 1 + v1 ≤ 999 := by omega
   have x3 : v2 ≤ 3 := by omega
   simp [x1, x2, x3, a2]⟩
 | false =>
  simp only [Bool.false_eq_true, if_false]
  have q1 := Int.emod_nonneg (v2 + 1 + v4) (show (4 : Int) ≠ 0 by decide)
  have q2 := Int.emod_lt_of_pos (v2 + 1 + v4) (show (0 : Int) < 4 by decide)
  exact ⟨_, c5, rfl, hc5, .inl ⟨rfl, ⟨q1, by show (v2 + 1 + v4) % 4 ≤ 3; omega⟩, by show 1 ≤ 1 + v3; omega, by show 1 + v3 ≤ 30; omega⟩, by
   unfold gcmd inn
   have x1 : 1 ≤ 1 + v1 := by omega
   have x2 : 1 + v1 ≤ 999 := by omega
   have x3 : v2 ≤ 3 := by omega
   have x4 : (v2 + 1 + v4) % 4 ≤ 3 := by omega
   have x5 : v2 ≠ (v2 + 1 + v4) % 4 := by omega
   have x6 : 1 ≤ 1 + v3 := by omega
   have x7 : 1 + v3 ≤ 1000 := by omega
   simp only [x1, x2, x3, x4, x5, x6, x7, a2, q1, decide_true, Bool.true_and, Bool.and_true]
   simp [x5]⟩
theorem lim_loop2 {σ α ρ : Type} {body : Nat → (α → Option ρ) → α → Option ρ} {x : α} {Post : ρ → Prop} (b : Nat) (mk : Nat → σ → α) (I : Nat → σ → Prop) (n : Nat) (s : σ) (hx : mk n s = x) (hI : I n s)
  (succ : ∀ n s, I (n + 1) s → (∃ v, Post v ∧ ∀ M rec, b ≤ M → body M rec (mk (n + 1) s) = some v) ∨ ∃ s', I n s' ∧ ∀ M rec, b ≤ M → body M rec (mk (n + 1) s) = rec (mk n s'))
  (fin : ∀ s, I 0 s → ∃ v, Post v ∧ ∀ M rec, b ≤ M → body M rec (mk 0 s) = some v) : ∃ v, Post v ∧ ∀ M, b + n + 1 ≤ M → loopN M (body M) x = some v := by
 subst hx
 have key : ∀ n s, I n s → ∃ v, Post v ∧ ∀ M N, b ≤ M → n < N → loopN N (body M) (mk n s) = some v := by
  intro n
  induction n with
  | zero =>
   intro s hI
   obtain ⟨v, hv, h⟩ := fin s hI
   refine ⟨v, hv, fun M N hM hN => ?_⟩
   cases N with
   | zero => omega
   | succ N => exact h M _ hM
  | succ n ih =>
   intro s hI
   rcases succ n s hI with ⟨v, hv, h⟩ | ⟨s', hI', h⟩
   ·refine ⟨v, hv, fun M N hM hN => ?_⟩
    cases N with
    | zero => omega
    | succ N => exact h M _ hM
   obtain ⟨v, hv, h2⟩ := ih s' hI'
   refine ⟨v, hv, fun M N hM hN => ?_⟩
   cases N with
   | zero => omega
   | succ N =>
    show body M (loopN N (body M)) (mk (n + 1) s) = some v
    rw [h M _ hM]
    exact h2 M N hM (by omega)
 obtain ⟨v, hv, h⟩ := key n s hI
 exact ⟨v, hv, fun M hM => h M M (by omega) (by omega)⟩
theorem put_ok {l : List Int} {n : Int} (hl : l.length ≤ 1000000) : ∃ m, S_spec_l1Put l n = some ((m, ()), ()) ∧ m.length ≤ l.length + 1 ∧ ∀ a ∈ m, a ∈ l ∨ a = n := by
 have main : ∃ v : (List Int × Unit) × Unit, (v.1.1.length ≤ l.length + 1 ∧ ∀ a ∈ v.1.1, a ∈ l ∨ a = n) ∧ ∀ M, 0 + l.length + 1 ≤ M → p_spec_l1Put M l n = some v := by
  unfold p_spec_l1Put
  have step : ∀ (i : Nat), i ≤ l.length → ∃ v : (List Int × Unit) × Unit, (v.1.1.length ≤ l.length + 1 ∧ ∀ a ∈ v.1.1, a ∈ l ∨ a = n) ∧
    (if (decide (0 ≤ (i : Int))) then (if (decide ((i : Int) ≤ l.length)) then (if (decide (0 ≤ (0 : Int))) then (if (decide ((0 : Int) ≤ (i : Int))) then (if (decide ((([] : List Int).length + ((l.take (i : Int).toNat).drop (0 : Int).toNat).length) * 8 ≤ 140737488355328)) then (if (decide (((([] : List Int) ++ ((l.take (i : Int).toNat).drop (0 : Int).toNat)).length + ([n] : List Int).length) * 8 ≤ 140737488355328)) then (if (decide (0 ≤ (l.length : Int))) then (if (decide ((l.length : Int) ≤ l.length)) then (if (decide (0 ≤ (i : Int))) then (if (decide ((i : Int) ≤ (l.length : Int))) then (if (decide ((((([] : List Int) ++ ((l.take (i : Int).toNat).drop (0 : Int).toNat)) ++ ([n] : List Int)).length + ((l.take (l.length : Int).toNat).drop (i : Int).toNat).length) * 8 ≤ 140737488355328)) then (some (((((([] : List Int) ++ ((l.take (i : Int).toNat).drop (0 : Int).toNat)) ++ ([n] : List Int)) ++ ((l.take (l.length : Int).toNat).drop (i : Int).toNat)), ()), ())) else none) else none) else none) else none) else none) else none) else none) else none) else none) else none) else none) = some v := by
   intro i hi
   refine ⟨((l.take i ++ [n] ++ l.drop i, ()), ()), ⟨?_, ?_⟩, ?_⟩
   ·simp; omega
   ·intro a ha
    simp only [List.mem_append, List.mem_singleton] at ha
    rcases ha with (ha | ha) | ha
    ·exact .inl (List.mem_of_mem_take ha)
    ·exact .inr ha
    ·exact .inl (List.mem_of_mem_drop ha)
   ·have a1 : (i : Int) ≤ (l.length : Int) := by omega
    have a2 : ((([] : List Int).length + ((l.take (i : Int).toNat).drop (0 : Int).toNat).length) * 8 ≤ 140737488355328) := by simp; omega
    have a3 : (((([] : List Int) ++ ((l.take (i : Int).toNat).drop (0 : Int).toNat)).length + ([n] : List Int).length) * 8 ≤ 140737488355328) := by simp; omega
    have a4 : ((((([] : List Int) ++ ((l.take (i : Int).toNat).drop (0 : Int).toNat)) ++ ([n] : List Int)).length + ((l.take (l.length : Int).toNat).drop (i : Int).toNat).length) * 8 ≤ 140737488355328) := by simp; omega
    have a5 : (0 : Int) ≤ (i : Int) := by omega
    have a6 : (0 : Int) ≤ (l.length : Int) := by omega
    simp only [a1, a2, a3, a4, a5, a6, Int.le_refl, decide_true, if_true]
    simp
  refine lim_loop2 (σ := Unit) 0 (fun k _ => ((l, n, ((l.length - k : Nat) : Int), ()), (([] : List Int), ()))) (fun k _ => k ≤ l.length) l.length () (by simp) (Nat.le_refl _) (fun k s hI => ?_) (fun s hI => ?_)
  ·have hlt : ((l.length - (k + 1) : Nat) : Int) < (l.length : Int) := by omega
   have hnn : (0 : Int) ≤ ((l.length - (k + 1) : Nat) : Int) := by omega
   have hw : IntKind.i64.wrap (((l.length - (k + 1) : Nat) : Int) + 1) = ((l.length - k : Nat) : Int) := by rw [wrap_small (by omega) (by omega)]; omega
   by_cases h1 : rd l ((l.length - (k + 1) : Nat) : Int) 0 < n
   ·refine .inr ⟨(), by omega, fun M rec _ => ?_⟩
    dsimp only
    simp only [hlt, hnn, h1, decide_true, if_true, hw]
   ·by_cases h2 : rd l ((l.length - (k + 1) : Nat) : Int) 0 = n
    ·refine .inl ⟨((l, ()), ()), ⟨by simp, fun a ha => .inl ha⟩, fun M rec _ => ?_⟩
     have h2' : (rd l ((l.length - (k + 1) : Nat) : Int) 0 == n) = true := by simpa using h2
     dsimp only
     simp only [hlt, hnn, h1, h2', decide_true, decide_false, Bool.false_eq_true, if_false, if_true]
    ·obtain ⟨v, hv, he⟩ := step (l.length - (k + 1)) (by omega)
     refine .inl ⟨v, hv, fun M rec _ => ?_⟩
     have h2' : (rd l ((l.length - (k + 1) : Nat) : Int) 0 == n) = false := by simpa using h2
     dsimp only
     rw [← he]
     simp only [hlt, hnn, h1, h2', decide_true, decide_false, Bool.false_eq_true, if_false, if_true]
  ·obtain ⟨v, hv, he⟩ := step l.length (Nat.le_refl _)
   refine ⟨v, hv, fun M rec _ => ?_⟩
   have hlt : ¬ ((l.length - 0 : Nat) : Int) < (l.length : Int) := by simp
   dsimp only
   rw [if_neg (by simp)]
   rw [if_neg (by simp)]
   exact he
 obtain ⟨⟨⟨m, ⟨⟩⟩, ⟨⟩⟩, ⟨h1, h2⟩, hM⟩ := main
 exact ⟨m, lim_eq _ hM, h1, h2⟩
theorem sameInts_self (l : List Int) (hl : l.length ≤ maxLen) : S_laws_sameInts l l = some ((true, ()), ()) := by
 unfold S_laws_sameInts
 refine lim_eq (l.length + 1) fun N hN => ?_
 unfold p_laws_sameInts
 rw [if_neg (by simp)]
 refine loopN_over l hl (fun i (s : Unit) => ((l, l, (l.length : Int), (i : Int), ()), ())) (fun i t s => ((true, ()), ())) (fun i t s => True)
  () rfl rfl trivial hN (fun rec s h => ?_) (fun rec i b t s hat h hrec => ?_)
 ·dsimp only
  simp
 ·dsimp only
  simp only [hat.lt, hat.nn, hat.wrap, hat.rd, decide_true, if_true, bne_self_eq_false, Bool.false_eq_true, if_false]
  exact hrec () trivial
theorem sameLists_self (l : List (List Int)) (hl : WL.wl l) : S_laws_sameLists l l = some ((true, ()), ()) := by
 unfold S_laws_sameLists
 refine lim_eq (l.length + 1) fun N hN => ?_
 unfold p_laws_sameLists
 rw [if_neg (by simp)]
 refine loopN_over l hl.1 (fun i (s : Unit) => ((l, l, (l.length : Int), (i : Int), ()), ())) (fun i t s => ((true, ()), ())) (fun i t s => True)
  () rfl rfl trivial hN (fun rec s h => ?_) (fun rec i b t s hat h hrec => ?_)
 ·dsimp only
  simp
 ·dsimp only
  simp only [hat.lt, hat.nn, hat.wrap, hat.rd, decide_true, if_true, sameInts_self b (wl_mem hl hat.mem).1, Option.bind_some, Bool.not_true, Bool.false_eq_true, if_false]
  exact hrec () trivial
theorem cur0 {b : List Int} (hb : ∀ x ∈ b, 0 ≤ x ∧ x ≤ 255) (hl : b.length ≤ maxLen) {k : Nat} (hk : k ≤ 1000000) : Cur (b, 0, 0, ()) k := ⟨hb, hl, by simp, by show (0 : Int) + k ≤ _; omega⟩
theorem wf_bytes {l : List Int} (h : ∀ x ∈ l, (decide (IntKind.u8.min ≤ x) && decide (x ≤ IntKind.u8.max)) = true) : ∀ x ∈ l, 0 ≤ x ∧ x ≤ 255 := by
 intro x hx
 have := h x hx
 have h1 : IntKind.u8.min = 0 := by rfl
 have h2 : IntKind.u8.max = 255 := by rfl
 rw [h1, h2] at this
 simp at this
 omega
def Sat {ρ : Type} (o : Option ρ) (P : ρ → Prop) : Prop := ∃ r, o = some r ∧ P r
theorem Sat.bind {ρ σ : Type} {o : Option ρ} {f : ρ → Option σ} {P : ρ → Prop} {Q : σ → Prop} (h : Sat o P) (hf : ∀ r, P r → Sat (f r) Q) : Sat (o.bind f) Q := by
 obtain ⟨r, rfl, hp⟩ := h
 exact hf r hp
theorem Sat.ite {ρ : Type} {c : Prop} [Decidable c] {a b : Option ρ} {P : ρ → Prop} (h1 : c → Sat a P) (h2 : ¬ c → Sat b P) : Sat (if c then a else b) P := by
 split
 ·rename_i h; exact h1 h
 ·rename_i h; exact h2 h
theorem Sat.pos {ρ : Type} {c : Prop} [Decidable c] {a b : Option ρ} {P : ρ → Prop} (hc : c) (h : Sat a P) : Sat (if c then a else b) P := by rw [if_pos hc]; exact h
theorem Sat.neg {ρ : Type} {c : Prop} [Decidable c] {a b : Option ρ} {P : ρ → Prop} (hc : ¬ c) (h : Sat b P) : Sat (if c then a else b) P := by rw [if_neg hc]; exact h
theorem Sat.ret {ρ : Type} {r : ρ} {P : ρ → Prop} (h : P r) : Sat (some r) P := ⟨r, rfl, h⟩
theorem Sat.limBind {ρ σ : Type} {o : Option ρ} {f : Nat → ρ → Option σ} {P : ρ → Prop} {Q : σ → Prop} (h : Sat o P) (hf : ∀ r, P r → Sat (Go.AM.lim fun N => f N r) Q) : Sat (Go.AM.lim fun N => o.bind (f N)) Q := by
 obtain ⟨r, rfl, hp⟩ := h
 exact hf r hp
def StepO {α ρ : Type} (o : (α → Option ρ) → Option ρ) (P : ρ → Prop) (Q : α → Prop) : Prop := (∃ v, P v ∧ ∀ rec, o rec = some v) ∨ ∃ y, Q y ∧ ∀ rec, o rec = rec y
theorem StepO.bind {α ρ σ : Type} {o : Option σ} {f : σ → (α → Option ρ) → Option ρ} {R : σ → Prop} {P : ρ → Prop} {Q : α → Prop} (h : Sat o R) (hf : ∀ r, R r → StepO (f r) P Q) : StepO (fun rec => o.bind fun r => f r rec) P Q := by
 obtain ⟨r, rfl, hp⟩ := h
 exact hf r hp
theorem StepO.ite {α ρ : Type} {c : Prop} [Decidable c] {a b : (α → Option ρ) → Option ρ} {P : ρ → Prop} {Q : α → Prop} (h1 : c → StepO a P Q) (h2 : ¬ c → StepO b P Q) : StepO (fun rec => if c then a rec else b rec) P Q := by
 by_cases h : c
 ·simp only [if_pos h]; exact h1 h
 ·simp only [if_neg h]; exact h2 h
theorem StepO.pos {α ρ : Type} {c : Prop} [Decidable c] {a b : (α → Option ρ) → Option ρ} {P : ρ → Prop} {Q : α → Prop} (hc : c) (h : StepO a P Q) : StepO (fun rec => if c then a rec else b rec) P Q := by simp only [if_pos hc]; exact h
theorem StepO.ret {α ρ : Type} {v : ρ} {P : ρ → Prop} {Q : α → Prop} (h : P v) : StepO (fun _ => some v) P Q := .inl ⟨v, h, fun _ => rfl⟩
theorem StepO.go {α ρ : Type} {y : α} {P : ρ → Prop} {Q : α → Prop} (h : Q y) : StepO (fun rec => rec y) P Q := .inr ⟨y, h, fun _ => rfl⟩
theorem StepO.sat {α ρ : Type} {o : Option ρ} {P : ρ → Prop} {Q : α → Prop} (h : Sat o P) : StepO (fun _ => o) P Q := by
 obtain ⟨r, rfl, hp⟩ := h
 exact .ret hp
theorem sat_loop {α ρ : Type} {body : (α → Option ρ) → α → Option ρ} {P : ρ → Prop} (I : Nat → α → Prop) (n : Nat) {x : α} (hI : I n x)
  (step : ∀ n x, I n x → StepO (fun rec => body rec x) P (fun y => ∃ m, m < n ∧ I m y)) : Sat (lim fun N => loopN N body x) P := by
 have key : ∀ n x, I n x → ∃ v, P v ∧ ∀ M, n < M → loopN M body x = some v := by
  intro n
  induction n using Nat.strongRecOn with
  | _ n ih =>
   intro x hI
   rcases step n x hI with ⟨v, hv, h⟩ | ⟨y, ⟨m, hm, hy⟩, h⟩
   ·refine ⟨v, hv, fun M hM => ?_⟩
    cases M with
    | zero => omega
    | succ M => exact h _
   ·obtain ⟨v, hv, h2⟩ := ih m hm y hy
    refine ⟨v, hv, fun M hM => ?_⟩
    cases M with
    | zero => omega
    | succ M =>
     exact (h (loopN M body)).trans (h2 M (by omega))
 obtain ⟨v, hv, h⟩ := key n x hI
 exact ⟨v, lim_eq (n + 1) fun N hN => h N (by omega), hv⟩
theorem pick_sat {c : T14} {k : Nat} (h : Cur c (k + 2)) {m : Int} (hm : m ≤ 60000) : Sat (S_Pspec_l1Cur_pick c m) (fun r => Cur r.2.1 k ∧ 0 ≤ r.1.1 ∧ (1 ≤ m → r.1.1 < m)) := by
 obtain ⟨v, c', e, h1, h2, h3⟩ := pick_ok h hm
 exact ⟨_, e, h1, h2, h3⟩
theorem among_sat {c : T14} {k : Nat} (h : Cur c (k + 2)) {l : List Int} (hl : l ≠ []) (hl2 : l.length ≤ 200) : Sat (S_Pspec_l1Cur_among c l) (fun r => Cur r.2.1 k ∧ r.1.1 ∈ l) := by
 obtain ⟨v, c', e, h1, h2⟩ := among_ok h hl hl2
 exact ⟨_, e, h1, h2⟩
theorem one_sat {c : T14} {k : Nat} (h : Cur c (k + 2)) {m : Int} (hm : m ≤ 60000) : Sat (S_Pspec_l1Cur_one c m) (fun r => Cur r.2.1 k) := by
 obtain ⟨b, c', e, h1⟩ := one_ok h hm
 exact ⟨_, e, h1⟩
theorem cmd_sat {c : T14} {k : Nat} (h : Cur c (k + 10)) : Sat (S_Pspec_l1Cur_cmd c) (fun r => Cur r.2.1 k ∧ gcmd r.1.1 = true) := by
 obtain ⟨d, c', e, h1, _, h2⟩ := cmd_ok h
 exact ⟨_, e, h1, h2⟩
theorem most_sat (a b : Int) : Sat (S_spec_l1Most a b) (fun r => r.1.1 = max a b) := ⟨_, most_eq a b, rfl⟩
theorem none_sat {n : Int} (h0 : 0 ≤ n) (h1 : n ≤ 6) : Sat (S_spec_l3None n) (fun r => r.1.1.2.1.length ≤ 7) := by
 unfold S_spec_l3None p_spec_l3None
 refine .pos (decide_eq_true h0) (.pos (by simp) (.pos (decide_eq_true (by omega)) (.ret ?_)))
 dsimp only
 rw [List.length_replicate]
 omega
theorem row_sat {c : T14} {k : Nat} (h : Cur c (k + 40)) {n : Int} (h0 : 0 ≤ n) (hn : n ≤ 6) : Sat (S_Pspec_l1Cur_row c n) (fun r => Cur r.2.1 k ∧ r.1.1.2.2.2.2.1.2.1.length ≤ 7) := by
 unfold S_Pspec_l1Cur_row p_Pspec_l1Cur_row
 refine .limBind (among_sat (k := k + 38) h (by simp) (by decide)) fun y1 h1 => ?_
 refine .limBind (pick_sat (k := k + 36) h1.1 (by decide)) fun y2 h2 => ?_
 refine .limBind (cmd_sat (k := k + 26) h2.1) fun y3 h3 => ?_
 refine .limBind (pick_sat (k := k + 24) h3.1 (by decide)) fun y4 h4 => ?_
 refine sat_loop (fun m d => d.1.1 = n ∧ 0 ≤ d.1.2.1 ∧ n - d.1.2.1 ≤ (m : Int) ∧ d.1.2.1 + (m : Int) ≤ 6 ∧ Cur (d.2.1.1, d.2.1.2.1, d.2.1.2.2.1, ()) (k + 10 + 2 * m) ∧ (d.2.2.2.2.2.1.length : Int) = d.1.2.1) 6 ⟨rfl, by simp, by simp; omega, by simp, h4.1.less (by omega), by simp⟩ fun m d hI => ?_
 obtain ⟨i1, i2, i3, i4, i5, i6⟩ := hI
 refine .ite (fun hc => ?_) fun hc => ?_
 ·simp only [decide_eq_true_eq] at hc
  have hm : 1 ≤ m := by omega
  refine .bind (pick_sat (k := k + 10 + 2 * (m - 1)) (i5.less (by omega)) (by decide)) fun y4 h4 => ?_
  refine .pos (decide_eq_true (by simp; omega)) (.go ⟨m - 1, by omega, i1, ?_, ?_, ?_, h4.1, ?_⟩)
  ·dsimp only; rw [wrap_small (by omega) (by omega)]; omega
  ·dsimp only; rw [wrap_small (by omega) (by omega)]; omega
  ·dsimp only; rw [wrap_small (by omega) (by omega)]; omega
  ·dsimp only; rw [wrap_small (by omega) (by omega), List.length_append, List.length_singleton]; omega
 ·refine .bind (one_sat (k := k + 8) (i5.less (by omega)) (by decide)) fun y5 h5 => ?_
  refine .ite (fun _ => .ite (fun _ => .bind (none_sat (by omega) (by omega)) fun y9 h9 => .ret ⟨h5.less (by omega), h9⟩) fun _ => .ret ⟨h5.less (by omega), by dsimp only; omega⟩) fun _ => .ite (fun _ => .bind (none_sat (by omega) (by omega)) fun y9 h9 => .ret ⟨h5.less (by omega), h9⟩) fun _ => .ret ⟨h5.less (by omega), by dsimp only; omega⟩
theorem group_sat {c : T14} {k : Nat} (h : Cur c (k + 2)) : Sat (S_Pspec_l1Cur_group c) (fun r => Cur r.2.1 k ∧ 0 ≤ r.1.1 ∧ r.1.1 ≤ 6) := by
 unfold S_Pspec_l1Cur_group p_Pspec_l1Cur_group
 refine .bind (among_sat h (by simp) (by decide)) fun y hy => .ret ⟨hy.1, ?_⟩
 have := hy.2
 simp only [List.mem_cons, List.not_mem_nil, or_false] at this
 dsimp only
 omega
theorem Sat.eq {ρ : Type} {o : Option ρ} {r : ρ} (h : o = some r) : Sat o (fun x => x = r) := ⟨r, h, rfl⟩
theorem cutN_eq {α ρ : Type} {rest : α → Option ρ} {first : (α → Option ρ) → Option ρ} {v : ρ} (I : α → Prop) (h1 : ∀ d, I d → rest d = some v) (h2 : ∀ q : α → Option ρ, (∀ d, I d → q d = some v) → first q = some v) : cutN rest first = some v := h2 rest h1
def tickO (t : T8) : List (List Int) := opR t.2.1 0 t.2.1
noncomputable def playW (n a : Int) : List T8 → List (List Int) → List Int → List (List (List Int)) → (List (List Int) × List Int) × List (List (List Int))
 | [], S, G, out => ((S, G), out)
 | t :: u, S, G, out => playW n a u (tickO t) ((tickO t).map (ageOf S G)) (out ++ [(tickO t).filter (turnOf n a S G)])
noncomputable def fitsT (n : Int) (t : T8) : Bool := tableOk t && !(t.1 != n)
def noW : (T0 × List (List (List Int)) × Bool × Unit) × Unit := (((0, 0, [], [], ()), [], false, ()), ())
noncomputable def playR (n a : Int) (u : List T8) (S : List (List Int)) (G : List Int) (out : List (List (List Int))) : (T0 × List (List (List Int)) × Bool × Unit) × Unit :=
 if u.all (fitsT n) then (((a, n, (playW n a u S G out).1.1, (playW n a u S G out).1.2, ()), (playW n a u S G out).2, true, ()), ()) else noW
noncomputable def playRes (n a : Int) (l : List T8) : (T0 × List (List (List Int)) × Bool × Unit) × Unit :=
 if grp n && inn a 0 (n - 1) then (if l.length ≤ 60 then playR n a l [] [] [] else noW) else noW
theorem fitsT_ok {n : Int} {t : T8} (h : fitsT n t = true) : t = ((t.2.1.length : Int), t.2.1, ()) ∧ GoodR t.2.1 ∧ (t.2.1.length : Int) = n := by
 unfold fitsT at h
 simp only [Bool.and_eq_true] at h
 obtain ⟨e, hR⟩ := goodR_of h.1
 refine ⟨e, hR, ?_⟩
 have h2 : t.1 = n := by simpa using h.2
 rw [← h2, e]
theorem ageOf_in {n a : Int} {S : List (List Int)} {G : List Int} (h : GoodW n a S G) (e : List Int) : 0 ≤ ageOf S G e ∧ ageOf S G e ≤ 20 := by
 unfold ageOf
 split
 ·rename_i hk
  obtain ⟨_, h2, h3⟩ := h.at hk
  split <;> omega
 ·omega
theorem tickO_len {t : T8} (hR : GoodR t.2.1) : (tickO t).length ≤ 30 := by
 have := opR_len t.2.1 t.2.1 0
 have := hR.five
 unfold tickO
 omega
theorem tickO_wl {t : T8} (hR : GoodR t.2.1) : WL.wl (tickO t) :=
 ⟨by have := tickO_len hR; rw [maxLen_eq]; omega, fun e he => ⟨by rw [opR_pl t.2.1 t.2.1 0 e he, maxLen_eq]; omega, fun _ _ => trivial⟩⟩
theorem GoodW.tick {n a : Int} {S : List (List Int)} {G : List Int} (h : GoodW n a S G) {t : T8} (hR : GoodR t.2.1) : GoodW n a (tickO t) ((tickO t).map (ageOf S G)) :=
 ⟨h.grp, h.who, tickO_wl hR, by rw [List.length_map], fun b hb => by
  obtain ⟨e, _, rfl⟩ := List.mem_map.1 hb
  exact ageOf_in h e⟩
theorem newW (n a : Int) : S_spec_NewWatch n a = some (if grp n && inn a 0 (n - 1) then (((a, n, [], [], ()), true, ()), ()) else (((0, 0, [], [], ()), false, ()), ())) := by
 unfold S_spec_NewWatch p_spec_NewWatch
 rw [spec_IsGroup_eq, Option.bind_some]
 cases hg : grp n with
 | false => rfl
 | true =>
  rw [grp_wrap hg, spec_l1In_eq, Option.bind_some]
  cases inn a 0 (n - 1) <;> rfl
theorem spec_PlayWatch_eq (n a : Int) (l : List T8) (hl : WL.wl l) : S_spec_PlayWatch n a l = some (playRes n a l) := by
 unfold S_spec_PlayWatch
 refine lim_eq (l.length + 1) fun N hN => ?_
 unfold p_spec_PlayWatch playRes
 rw [newW, Option.bind_some]
 cases hc : grp n && inn a 0 (n - 1) with
 | false => rfl
 | true =>
  simp only [Bool.and_eq_true] at hc
  have hi := inn_iff.1 hc.2
  rw [if_pos rfl, if_pos rfl]
  dsimp only
  rw [if_neg (by simp)]
  by_cases h60 : l.length ≤ 60
  ·rw [if_neg (by simp only [decide_eq_true_eq]; omega), if_pos h60]
   refine loopN_over l hl.1 (fun i (s : (List (List Int) × List Int) × List (List (List Int))) => ((n, l, (l.length : Int), (i : Int), ()), ((0, 0, ()), ([] : List (List (List Int))), s.1.1, s.1.2, (a, n, ()), s.2, ()))) (fun i u s => playR n a u s.1.1 s.1.2 s.2) (fun i u s => GoodW n a s.1.1 s.1.2 ∧ s.2.length = i ∧ ∀ t ∈ u, WL.wl t)
    (([], []), []) rfl rfl ⟨⟨hc.1, by omega, ⟨by simp, by simp⟩, rfl, by simp⟩, rfl, hl.2⟩ hN (fun rec s h => ?_) (fun rec i t u s hat h hrec => ?_)
   ·dsimp only
    simp only [lenInt_lt_irrefl, decide_false, Bool.false_eq_true, if_false]
    rfl
   ·obtain ⟨hW, hlen, hw⟩ := h
    have hil := hat.ltn
    dsimp only
    simp only [hat.lt, hat.nn, hat.rd, hat.wrap, decide_true, if_true, spec_GoodTable_eq t (hw t (by simp)), Option.bind_some]
    unfold playR
    cases hg : tableOk t with
    | false =>
     have : (t :: u).all (fitsT n) = false := by simp [fitsT, hg]
     rw [this]
     rfl
    | true =>
     cases hn : (t.1 != n) with
     | true =>
      have : (t :: u).all (fitsT n) = false := by simp [fitsT, hn]
      rw [this]
      rfl
     | false =>
      have hf : fitsT n t = true := by unfold fitsT; rw [hg, hn]; rfl
      obtain ⟨e, hR, hn2⟩ := fitsT_ok hf
      rw [if_neg (by simp), if_neg (by simp)]
      have ht := l20Tick_eq hR (a := a) (S := s.1.1) (G := s.1.2) (by rw [hn2]; exact hW)
      rw [hn2] at ht
      have e2 : t = (n, t.2.1, ()) := by rw [← hn2]; exact e
      rw [show S_spec_l20Tick (a, n, s.1.1, s.1.2, ()) t = S_spec_l20Tick (a, n, s.1.1, s.1.2, ()) (n, t.2.1, ()) from congrArg _ e2, ht, Option.bind_some]
      dsimp only
      rw [if_pos (decide_eq_true (by rw [hlen, List.length_singleton]; omega))]
      refine (hrec ((_, _), _) ⟨hW.tick hR, by rw [List.length_append, List.length_singleton, hlen], fun x hx => hw x (by simp [hx])⟩).trans ?_
      have hall : (t :: u).all (fitsT n) = u.all (fitsT n) := by rw [List.all_cons, hf]; rfl
      rw [hall]
      rfl
  ·rw [if_pos (by simp only [decide_eq_true_eq]; omega), if_neg h60]
   rfl
theorem contains_Table_eq {l : List T8} {p : (T8 × Unit) → Option Bool} (q : T8 → Bool) (hl : l.length ≤ maxLen) (hp : ∀ x ∈ l, p (x, ()) = some (q x)) : S_ContainsFunc_Limpl_Table_impl_Table l p = some ((l.any q, ()), ()) := by
 unfold S_ContainsFunc_Limpl_Table_impl_Table p_ContainsFunc_Limpl_Table_impl_Table
 have : S_IndexFunc_Limpl_Table_impl_Table l p = some ((idxI q l 0, ()), ()) := lim_eq (l.length + 1) fun N hN => index_gen _ l hl p q hp hN
 rw [this]
 simp only [Option.bind_some, idxI_any q l 0 (Int.le_refl 0)]
theorem any_fits (n : Int) (l : List T8) : l.any (fun t => !fitsT n t) = !l.all (fitsT n) := by
 induction l with
 | nil => rfl
 | cons t u ih => rw [List.any_cons, List.all_cons, ih]; cases fitsT n t <;> rfl
theorem impl_PlayWatch_eq (n a : Int) (l : List T8) (hl : WL.wl l) : S_impl_PlayWatch n a l = some (playRes n a l) := by
 unfold S_impl_PlayWatch
 refine lim_eq (l.length + 31) fun N hN => ?_
 unfold p_impl_PlayWatch playRes
 rw [← new_Watch, newW, Option.bind_some]
 cases hc : grp n && inn a 0 (n - 1) with
 | false => rfl
 | true =>
  simp only [Bool.and_eq_true] at hc
  have hi := inn_iff.1 hc.2
  rw [if_pos rfl, if_pos rfl]
  dsimp only
  rw [if_neg (by simp)]
  by_cases h60 : l.length ≤ 60
  ·rw [if_neg (by simp only [decide_eq_true_eq]; omega), if_pos h60]
   rw [contains_Table_eq (fun t => !fitsT n t) hl.1 (fun t ht => by
    dsimp only
    rw [impl_GoodTable_eq t (wl_mem hl ht)]
    unfold fitsT
    cases tableOk t <;> simp), Option.bind_some, any_fits]
   dsimp only
   cases hall : l.all (fitsT n) with
   | false =>
    rw [if_pos (show (!false) = true from rfl)]
    unfold playR
    rw [hall]
    rfl
   | true =>
    rw [if_neg (by simp)]
    refine loopN_over l hl.1 (fun i (s : (List (List Int) × List Int) × List (List (List Int))) => ((l, (l.length : Int), (i : Int), ()), ((n, ()), (0, 0, ()), ([] : List (List (List Int))), s.1.1, s.1.2, (a, n, ()), s.2, ()))) (fun i u s => (((a, n, (playW n a u s.1.1 s.1.2 s.2).1.1, (playW n a u s.1.1 s.1.2 s.2).1.2, ()), (playW n a u s.1.1 s.1.2 s.2).2, true, ()), ())) (fun i u s => GoodW n a s.1.1 s.1.2 ∧ s.2.length = i ∧ u.all (fitsT n) = true)
     (([], []), []) rfl (by unfold playR; rw [hall]; rfl) ⟨⟨hc.1, by omega, ⟨by simp, by simp⟩, rfl, by simp⟩, rfl, hall⟩ (by omega) (fun rec s h => ?_) (fun rec i t u s hat h hrec => ?_)
    ·dsimp only
     simp only [lenInt_lt_irrefl, decide_false, Bool.false_eq_true, if_false]
     rfl
    ·obtain ⟨hW, hlen, hfu⟩ := h
     have hil := hat.ltn
     rw [List.all_cons, Bool.and_eq_true] at hfu
     obtain ⟨e, hR, hn2⟩ := fitsT_ok hfu.1
     obtain ⟨⟨S, G⟩, out⟩ := s
     dsimp only at hW hlen
     have hop : S_impl_Table_open t = some ((tickO t, ()), ()) := by
      rw [e]
      exact open_eq hR
     dsimp only
     simp only [hat.lt, hat.nn, hat.rd, decide_true, if_true]
     rw [hop, Option.bind_some]
     dsimp only
     have hO30 := tickO_len hR
     have hm : ∀ e ∈ tickO t, ∃ j c, j < t.2.1.length ∧ e = pl j c := fun e he => by
      obtain ⟨j, c, h1, h2⟩ := opR_mem (R := t.2.1) t.2.1 0 e he
      exact ⟨j, c, by omega, h2⟩
     have hfinal : playW n a (t :: u) S G out = playW n a u (tickO t) ((tickO t).map (ageOf S G)) (out ++ [(tickO t).filter (turnOf n a S G)]) := rfl
     rw [hfinal]
     have hrec' := hrec ((tickO t, (tickO t).map (ageOf S G)), out ++ [(tickO t).filter (turnOf n a S G)]) ⟨hW.tick hR, by rw [List.length_append, List.length_singleton, hlen], hfu.2⟩
     dsimp only at hrec'
     generalize tickO t = O at hO30 hm hrec' ⊢
     generalize hV : playW n a u O (O.map (ageOf S G)) (out ++ [O.filter (turnOf n a S G)]) = V at hrec' ⊢
     clear hV
     refine loopN_over O (by rw [maxLen_eq]; omega) (fun j (s : List Int × List (List Int)) => (((O.length : Int), (j : Int), l, (l.length : Int), (i : Int), true, ()), ((n, ()), (0, 0, ()), ([] : List (List (List Int))), S, G, (a, n, ()), out, (t.1, t.2.1, ()), (t.1, t.2.1, ()), ([] : List (List Int)), O, s.1, s.2, ())))
      (fun _ _ _ => (((a, n, V.1.1, V.1.2, ()), V.2, true, ()), ())) (fun j u s => s = ((O.take j).map (ageOf S G), (O.take j).filter (turnOf n a S G)) ∧ j ≤ O.length)
      ([], []) rfl rfl ⟨by simp, by omega⟩ (by omega) (fun rec2 s h => ?_) (fun rec2 j e u2 s hat2 h hrec2 => ?_)
     ·obtain ⟨rfl, _⟩ := h
      dsimp only
      simp only [lenInt_lt_irrefl, decide_false, Bool.false_eq_true, if_false, List.take_length]
      rw [if_pos (decide_eq_true (by rw [hlen, List.length_singleton]; omega)), hat.wrap]
      exact hrec'
     ·obtain ⟨rfl, hj⟩ := h
      have hil2 := hat2.ltn
      obtain ⟨k, c, hk5, rfl⟩ := hm e hat2.mem
      have hpl : (pl k c).length ≤ maxLen := by rw [maxLen_eq]; simp [pl]
      have hf := IndexFunc_LLint_eq (l := S) (p := fun (x6 : (List Int × Unit)) => (((S_Equal_Lint_int (pl k c) x6.1).bind fun y7 => (some ((y7.1.1, ()), ())))).bind fun y8 => some y8.1.1) (fun x => same (pl k c) x) hW.wl.1 (fun x hxS => by
       dsimp only
       rw [Equal_Lint_eq _ _ hpl (wl_mem hW.wl hxS).1]; rfl)
      have hcl := clone_eq (l := pl k c) (by simp [pl])
      have hwt := wait_eq hW.grp hW.who (b := (k : Int)) ⟨by omega, by omega⟩
      have hwv := waitV_ok hW.grp hW.who (b := (k : Int)) ⟨by omega, by omega⟩
      have r0 : rd (pl k c) 0 0 = (k : Int) := rfl
      have rl : (pl k c).length = 2 := rfl
      have cap2 : ∀ v : Int, (((O.take j).map (ageOf S G)).length + ([v] : List Int).length) * 8 ≤ 140737488355328 := fun v => by simp; omega
      have cap3 : (((O.take j).filter (turnOf n a S G)).length + ([pl k c] : List (List Int)).length) * 24 ≤ 140737488355328 := by
       have := List.length_filter_le (turnOf n a S G) (O.take j)
       simp at this ⊢; omega
      have hw0 : (waitV n a (k : Int) == 0) = false := by simp; omega
      have fin : ∀ v : Int, ageOf S G (pl k c) = v → ∀ T, T = (O.take j).filter (turnOf n a S G) ++ (if decide (v > 0) && (Int.tmod v (waitV n a (k : Int)) == 0) then [pl k c] else []) →
        rec2 (((O.length : Int), ((j + 1 : Nat) : Int), l, (l.length : Int), (i : Int), true, ()), ((n, ()), (0, 0, ()), ([] : List (List (List Int))), S, G, (a, n, ()), out, (t.1, t.2.1, ()), (t.1, t.2.1, ()), ([] : List (List Int)), O, (O.take j).map (ageOf S G) ++ [v], T, ())) = some (((a, n, V.1.1, V.1.2, ()), V.2, true, ()), ()) := by
       rintro v rfl T rfl
       refine hrec2 (_, _) ⟨?_, by omega⟩
       rw [tick_step O hat2, List.filter_append, List.map_append]
       have : turnOf n a S G (pl k c) = (decide (ageOf S G (pl k c) > 0) && (Int.tmod (ageOf S G (pl k c)) (waitV n a (k : Int)) == 0)) := rfl
       simp only [List.filter_cons, List.filter_nil, List.map_cons, List.map_nil, this]
      dsimp only
      simp only [hat2.lt, hat2.nn, hat2.rd, hat2.wrap, decide_true, if_true, hf, Option.bind_some]
      by_cases hk : idxI (fun x => same (pl k c) x) S 0 ≥ 0
      ·obtain ⟨k1, k2, k3⟩ := hW.at hk
       have hk' : 0 ≤ idxI (fun x => same (pl k c) x) S 0 := hk
       have hage : ageOf S G (pl k c) = (if (20 : Int) < rd G (idxI (fun x => same (pl k c) x) S 0) 0 + 1 then 20 else rd G (idxI (fun x => same (pl k c) x) S 0) 0 + 1) := by unfold ageOf; rw [if_pos hk]
       rw [decide_eq_true hk, if_pos rfl, wrap_small (n := rd G (idxI (fun x => same (pl k c) x) S 0) 0 + 1) (by omega) (by omega)]
       simp only [hk', k1, decide_true, if_true, Option.bind_some, ← hage, r0, rl, cap2, cap3, hwt.2, hw0, hcl, Int.le_refl, show (0 : Int) < ((2 : Nat) : Int) from by decide, Bool.false_eq_true, if_false]
       cases hp : decide (ageOf S G (pl k c) > 0) with
       | false =>
        simp only [Bool.false_eq_true, if_false]
        exact fin _ rfl _ (by simp [hp])
       | true =>
        simp only [if_true]
        cases htm : (Int.tmod (ageOf S G (pl k c)) (waitV n a (k : Int)) == 0) with
        | true => simp only [if_true]; exact fin _ rfl _ (by simp [hp, htm])
        | false => simp only [Bool.false_eq_true, if_false]; exact fin _ rfl _ (by simp [hp, htm])
      ·have hage : ageOf S G (pl k c) = 0 := by unfold ageOf; rw [if_neg hk]
       rw [decide_eq_false hk]
       simp only [Bool.false_eq_true, if_false, cap2, decide_true, if_true, show ((0 : Int) > 0) = False from by simp, decide_false]
       exact fin 0 hage _ (by simp)
  ·rw [if_pos (by simp only [decide_eq_true_eq]; omega), if_neg h60]
   rfl
def smallO (x : List (List Int)) : Prop := x.length ≤ 30 ∧ ∀ e ∈ x, e.length = 2
theorem smallO.wl {x : List (List Int)} (h : smallO x) : WL.wl x := ⟨by have := h.1; rw [maxLen_eq]; omega, fun e he => ⟨by rw [h.2 e he, maxLen_eq]; omega, fun _ _ => trivial⟩⟩
theorem tickO_small {t : T8} (hR : GoodR t.2.1) : smallO (tickO t) := ⟨tickO_len hR, opR_pl t.2.1 t.2.1 0⟩
theorem playW_small {n a : Int} : ∀ (u : List T8) (S : List (List Int)) (G : List Int) (out : List (List (List Int))), u.all (fitsT n) = true → smallO S → G.length ≤ 30 → (∀ x ∈ out, smallO x) →
  smallO (playW n a u S G out).1.1 ∧ (playW n a u S G out).1.2.length ≤ 30 ∧ (playW n a u S G out).2.length = out.length + u.length ∧ ∀ x ∈ (playW n a u S G out).2, smallO x
 | [], S, G, out, _, h1, h2, h3 => ⟨h1, h2, rfl, h3⟩
 | t :: u, S, G, out, hf, h1, h2, h3 => by
  rw [List.all_cons, Bool.and_eq_true] at hf
  obtain ⟨_, hR, _⟩ := fitsT_ok hf.1
  have hs := tickO_small hR
  obtain ⟨q1, q2, q3, q4⟩ := playW_small (n := n) (a := a) u (tickO t) ((tickO t).map (ageOf S G)) (out ++ [(tickO t).filter (turnOf n a S G)]) hf.2 hs (by rw [List.length_map]; exact hs.1) (fun x hx => by
   rcases List.mem_append.1 hx with hx | hx
   ·exact h3 x hx
   ·rw [List.mem_singleton] at hx
    rw [hx]
    have := List.length_filter_le (turnOf n a S G) (tickO t)
    have := hs.1
    exact ⟨by omega, fun e he => hs.2 e (List.mem_filter.1 he).1⟩)
  refine ⟨q1, q2, ?_, q4⟩
  rw [show playW n a (t :: u) S G out = playW n a u (tickO t) ((tickO t).map (ageOf S G)) (out ++ [(tickO t).filter (turnOf n a S G)]) from rfl, q3, List.length_append, List.length_singleton, List.length_cons]
  omega
def StepB {α ρ : Type} (B : Nat) (o : Nat → (α → Option ρ) → Option ρ) (P : ρ → Prop) (Q : α → Prop) : Prop :=
 (∃ v, P v ∧ ∀ N rec, B < N → o N rec = some v) ∨ ∃ y, Q y ∧ ∀ N rec, B < N → o N rec = rec y
theorem StepB.bind {α ρ σ : Type} {B : Nat} {o : Option σ} {f : σ → Nat → (α → Option ρ) → Option ρ} {R : σ → Prop} {P : ρ → Prop} {Q : α → Prop} (h : Sat o R) (hf : ∀ r, R r → StepB B (f r) P Q) : StepB B (fun N rec => o.bind fun r => f r N rec) P Q := by
 obtain ⟨r, rfl, hp⟩ := h
 exact hf r hp
theorem StepB.ite {α ρ : Type} {B : Nat} {c : Prop} [Decidable c] {a b : Nat → (α → Option ρ) → Option ρ} {P : ρ → Prop} {Q : α → Prop} (h1 : c → StepB B a P Q) (h2 : ¬ c → StepB B b P Q) : StepB B (fun N rec => if c then a N rec else b N rec) P Q := by
 by_cases h : c
 ·simp only [if_pos h]; exact h1 h
 ·simp only [if_neg h]; exact h2 h
theorem StepB.pos {α ρ : Type} {B : Nat} {c : Prop} [Decidable c] {a b : Nat → (α → Option ρ) → Option ρ} {P : ρ → Prop} {Q : α → Prop} (hc : c) (h : StepB B a P Q) : StepB B (fun N rec => if c then a N rec else b N rec) P Q := by simp only [if_pos hc]; exact h
theorem StepB.ret {α ρ : Type} {B : Nat} {v : ρ} {P : ρ → Prop} {Q : α → Prop} (h : P v) : StepB B (fun _ (_ : α → Option ρ) => some v) P Q := .inl ⟨v, h, fun _ _ _ => rfl⟩
theorem StepB.go {α ρ : Type} {B : Nat} {y : α} {P : ρ → Prop} {Q : α → Prop} (h : Q y) : StepB B (fun _ rec => rec y) P Q := .inr ⟨y, h, fun _ _ _ => rfl⟩
theorem StepB.loop {α β ρ : Type} {B : Nat} {inner : Nat → (β → Option ρ) → (α → Option ρ) → β → Option ρ} {P : ρ → Prop} {Q : α → Prop} (I : Nat → β → Prop) (n : Nat) (hn : n ≤ B) {z : β} (hI : I n z)
  (step : ∀ n z, I n z → StepB B (fun N (rec : α ⊕ β → Option ρ) => inner N (fun z => rec (.inr z)) (fun y => rec (.inl y)) z) P (fun s => match s with | .inl y => Q y | .inr z' => ∃ m, m < n ∧ I m z')) :
  StepB B (fun N ro => loopN N (fun ri => inner N ri ro) z) P Q := by
 have key : ∀ n z, I n z → (∃ v, P v ∧ ∀ N M ro, B < N → n < M → loopN M (fun ri => inner N ri ro) z = some v) ∨ ∃ y, Q y ∧ ∀ N M ro, B < N → n < M → loopN M (fun ri => inner N ri ro) z = ro y := by
  intro n
  induction n using Nat.strongRecOn with
  | _ n ih =>
   intro z hI
   rcases step n z hI with ⟨v, hv, h⟩ | ⟨s, hs, h⟩
   ·refine .inl ⟨v, hv, fun N M ro hN hM => ?_⟩
    cases M with
    | zero => omega
    | succ M => exact h N (Sum.elim ro (loopN M (fun ri => inner N ri ro))) hN
   ·cases s with
    | inl y =>
     refine .inr ⟨y, hs, fun N M ro hN hM => ?_⟩
     cases M with
     | zero => omega
     | succ M => exact h N (Sum.elim ro (loopN M (fun ri => inner N ri ro))) hN
    | inr z' =>
     obtain ⟨m, hm, hz⟩ := hs
     rcases ih m hm z' hz with ⟨v, hv, h2⟩ | ⟨y, hy, h2⟩
     ·refine .inl ⟨v, hv, fun N M ro hN hM => ?_⟩
      cases M with
      | zero => omega
      | succ M => exact (h N (Sum.elim ro (loopN M (fun ri => inner N ri ro))) hN).trans (h2 N M ro hN (by omega))
     ·refine .inr ⟨y, hy, fun N M ro hN hM => ?_⟩
      cases M with
      | zero => omega
      | succ M => exact (h N (Sum.elim ro (loopN M (fun ri => inner N ri ro))) hN).trans (h2 N M ro hN (by omega))
 rcases key n z hI with ⟨v, hv, h⟩ | ⟨y, hy, h⟩
 ·exact .inl ⟨v, hv, fun N ro hN => h N N ro hN (by omega)⟩
 ·exact .inr ⟨y, hy, fun N ro hN => h N N ro hN (by omega)⟩
theorem sat_loopB {α ρ : Type} {body : Nat → (α → Option ρ) → α → Option ρ} {P : ρ → Prop} (B : Nat) (I : Nat → α → Prop) (n : Nat) {x : α} (hI : I n x)
  (step : ∀ n x, I n x → StepB B (fun N rec => body N rec x) P (fun y => ∃ m, m < n ∧ I m y)) : Sat (lim fun N => loopN N (body N) x) P := by
 have key : ∀ n x, I n x → ∃ v, P v ∧ ∀ N M, B < N → n < M → loopN M (body N) x = some v := by
  intro n
  induction n using Nat.strongRecOn with
  | _ n ih =>
   intro x hI
   rcases step n x hI with ⟨v, hv, h⟩ | ⟨y, ⟨m, hm, hy⟩, h⟩
   ·refine ⟨v, hv, fun N M hN hM => ?_⟩
    cases M with
    | zero => omega
    | succ M => exact h N _ hN
   ·obtain ⟨v, hv, h2⟩ := ih m hm y hy
    refine ⟨v, hv, fun N M hN hM => ?_⟩
    cases M with
    | zero => omega
    | succ M => exact (h N (loopN M (body N)) hN).trans (h2 N M hN (by omega))
 obtain ⟨v, hv, h⟩ := key n x hI
 exact ⟨v, lim_eq (max (B + 1) (n + 1)) fun N hN => h N N (by omega) (by omega), hv⟩
def rowsOk (f : Nat → Nat) (d : Nat) (R : List (List T7)) : Prop := ∀ (j : Nat) (x : List T7), R[j]? = some x → x.length ≤ f j ∧ ∀ r ∈ x, (rlist r).length ≤ d
theorem rowsOk.mono {f g : Nat → Nat} {d : Nat} {R : List (List T7)} (h : rowsOk f d R) (hg : ∀ j, f j ≤ g j) : rowsOk g d R := fun j x hx => ⟨Nat.le_trans (h j x hx).1 (hg j), (h j x hx).2⟩
theorem rowsOk.rd {f : Nat → Nat} {d : Nat} {R : List (List T7)} (h : rowsOk f d R) {i : Int} (h0 : 0 ≤ i) : (rd R i []).length ≤ f i.toNat ∧ ∀ r ∈ rd R i [], (rlist r).length ≤ d := by
 by_cases h1 : i < (R.length : Int)
 ·exact h i.toNat _ (rd_get h0 h1)
 ·have : Go.AM.rd R i [] = [] := by
   unfold Go.AM.rd
   rw [List.getD_eq_getElem?_getD, List.getElem?_eq_none (by omega)]; rfl
  rw [this]; simp
theorem rowsOk.set {f : Nat → Nat} {d : Nat} {R : List (List T7)} (h : rowsOk f d R) {i : Int} {y : List T7} {n : Nat} (hy : y.length ≤ n) (hd : ∀ r ∈ y, (rlist r).length ≤ d) : rowsOk (fun j => if j = i.toNat then n else f j) d (R.set i.toNat y) := by
 intro j x hx
 show x.length ≤ (if j = i.toNat then n else f j) ∧ _
 rw [List.getElem?_set] at hx
 split at hx
 ·rename_i e
  split at hx
  ·simp only [Option.some.injEq] at hx
   subst hx
   rw [if_pos e.symm]
   exact ⟨hy, hd⟩
  ·cases hx
 ·rename_i e
  rw [if_neg (fun e2 : j = i.toNat => e e2.symm)]
  exact h j x hx
theorem rowsOk.app {f : Nat → Nat} {d : Nat} {R : List (List T7)} (h : rowsOk f d R) {i : Int} (h0 : 0 ≤ i) {r : T7} (hr : (rlist r).length ≤ d) : rowsOk (fun j => if j = i.toNat then f i.toNat + 1 else f j) d (R.set i.toNat (Go.AM.rd R i [] ++ [r])) := by
 obtain ⟨h1, h2⟩ := h.rd h0
 refine h.set (by rw [List.length_append, List.length_singleton]; omega) fun s hs => ?_
 rcases List.mem_append.1 hs with hs | hs
 ·exact h2 s hs
 ·rw [List.mem_singleton] at hs; rw [hs]; exact hr
def smT (m d : Nat) (t : T8) : Prop := t.2.1.length ≤ 5 ∧ rowsOk (fun _ => m) d t.2.1
theorem smT.wl {m d : Nat} {t : T8} (h : smT m d t) (hm : m ≤ 10) (hd : d ≤ 10) : WL.wl t := by
 have hx := maxLen_eq
 refine ⟨trivial, ⟨by have := h.1; omega, fun x hx2 => ?_⟩, trivial⟩
 obtain ⟨j, hj, rfl⟩ := List.getElem_of_mem hx2
 obtain ⟨h1, h2⟩ := h.2 j _ (List.getElem?_eq_getElem hj)
 have h1 : t.2.1[j].length ≤ m := h1
 exact ⟨by omega, fun r hr => ⟨trivial, trivial, trivial, ⟨trivial, trivial, trivial, trivial, trivial, trivial⟩, ⟨trivial, ⟨Nat.le_trans (h2 r hr) (by omega), fun _ _ => trivial⟩, trivial⟩, trivial⟩⟩
theorem new_sat {n : Int} (h0 : 0 ≤ n) (h1 : n ≤ 6) : Sat (S_spec_l4New n) (fun r => r.1.1.1 = n ∧ r.1.1.2.1.length = n.toNat ∧ rowsOk (fun _ => 0) 0 r.1.1.2.1) := by
 unfold S_spec_l4New p_spec_l4New
 refine .pos (decide_eq_true h0) (.pos (by simp) (.pos (decide_eq_true (by omega)) (.ret ⟨rfl, by simp, fun j x hx => ?_⟩)))
 rw [List.getElem?_replicate] at hx
 split at hx
 ·simp only [Option.some.injEq] at hx; subst hx; simp
 ·cases hx
theorem table_sat {c : T14} {k : Nat} (h : Cur c (k + 1000)) : Sat (S_Pspec_l1Cur_table c) (fun r => Cur r.2.1 k ∧ smT 4 7 r.1.1) := by
 unfold S_Pspec_l1Cur_table p_Pspec_l1Cur_table
 refine .limBind (among_sat (k := k + 998) h (by simp) (by decide)) fun y1 h1 => ?_
 have hn : 3 ≤ y1.1.1 ∧ y1.1.1 ≤ 5 := by
  have := h1.2
  simp only [List.mem_cons, List.not_mem_nil, or_false] at this
  omega
 refine .limBind (new_sat (by omega) (by omega)) fun y2 h2 => ?_
 refine sat_loopB 5 (fun m d => d.1.1 = y1.1.1 ∧ d.1.2.1 = (d.2.2.2.2.1.length : Int) ∧ 0 ≤ d.1.2.2.1 ∧ d.1.2.1 - d.1.2.2.1 ≤ (m : Int) ∧ m ≤ 5 ∧ Cur (d.2.1.1, d.2.1.2.1, d.2.1.2.2.1, ()) (k + 20 + 160 * m) ∧ (d.2.2.2.2.1.length ≤ 5 ∧ 3 ≤ d.2.2.2.2.1.length) ∧ rowsOk (fun j => if (j : Int) < d.1.2.2.1 then 3 else 0) 7 d.2.2.2.2.1) 5
  ⟨rfl, rfl, by simp, by dsimp only; rw [h2.2.1]; omega, by omega, h1.1.less (by omega), by dsimp only; rw [h2.2.1]; omega, fun j x hx => ⟨Nat.le_trans (h2.2.2 j x hx).1 (Nat.zero_le _), fun r hr => Nat.le_trans ((h2.2.2 j x hx).2 r hr) (by omega)⟩⟩ fun m d hI => ?_
 obtain ⟨i1, i2, i3, i4, i5, i6, i7, i8⟩ := hI
 refine .ite (fun hc => ?_) fun hc => ?_
 ·simp only [decide_eq_true_eq] at hc
  have hm : 1 ≤ m := by omega
  refine .bind (pick_sat (k := k + 20 + 160 * (m - 1) + 158) (i6.less (by omega)) (m := 4) (by decide)) fun y5 h5 => ?_
  have h5b := h5.2.2 (by omega)
  refine .loop (fun q z => z.1.1 = y1.1.1 ∧ z.1.2.1 = d.1.2.2.1 ∧ z.1.2.2.1 ≤ (q : Int) ∧ 0 ≤ z.1.2.2.1 ∧ q ≤ 3 ∧ z.1.2.2.2.1 = d.1.2.1 ∧ z.1.2.2.2.2.1 = d.1.2.2.1 ∧ Cur (z.2.1.1, z.2.1.2.1, z.2.1.2.2.1, ()) (k + 20 + 160 * (m - 1) + 40 * q) ∧ z.2.2.2.2.1.length = d.2.2.2.2.1.length ∧ rowsOk (fun j => if (j : Int) < d.1.2.2.1 then 3 else if (j : Int) = d.1.2.2.1 then 3 - q else 0) 7 z.2.2.2.2.1) 3 (by omega)
   ⟨i1, rfl, by dsimp only; omega, by dsimp only; omega, by omega, rfl, rfl, h5.1.less (by omega), rfl, i8.mono fun j => by split <;> omega⟩ fun q z hz => ?_
  obtain ⟨q1, q2, q3, q4, q5, q6, q7, q8, q9, q10⟩ := hz
  refine .ite (fun hp => ?_) fun hp => ?_
  ·simp only [decide_eq_true_eq] at hp
   have hq : 1 ≤ q := by omega
   refine .pos (decide_eq_true (by omega)) (.pos (decide_eq_true (by omega)) ?_)
   refine .bind (row_sat (k := k + 20 + 160 * (m - 1) + 40 * (q - 1)) (q8.less (by omega)) (n := z.1.1) (by omega) (by omega)) fun y8 h8 => ?_
   have hr := q10.rd (i := z.1.2.1) (by omega)
   refine .pos (decide_eq_true ?_) (.pos (decide_eq_true (by omega)) (.pos (decide_eq_true (by rw [List.length_set]; omega)) (.pos (by simp) (.pos (by simp) (.go ⟨q - 1, by omega, q1, q2, ?_, ?_, by omega, q6, q7, h8.1, ?_, ?_⟩)))))
   ·have := hr.1
    try dsimp only at this
    rw [q2] at this
    rw [List.length_singleton, q2]
    split at this
    ·omega
    ·split at this <;> omega
   ·dsimp only; rw [wrap_small (by omega) (by omega)]; omega
   ·dsimp only; rw [wrap_small (by omega) (by omega)]; omega
   ·dsimp only; rw [List.length_set]; exact q9
   ·dsimp only
    refine (q10.app (i := z.1.2.1) (by omega) h8.2).mono fun j => ?_
    try dsimp only
    rw [q2]
    split
    ·rename_i e
     subst e
     rw [if_neg (by omega), if_pos (by omega), if_neg (by omega), if_pos (by omega)]
     omega
    ·rename_i e
     split
     ·omega
     ·rw [if_neg (by omega)]; omega
  ·refine .go ⟨m - 1, by omega, q1, ?_, ?_, ?_, by omega, q8.less (by omega), ?_, ?_⟩
   ·dsimp only; rw [q6, i2, q9]
   ·dsimp only; rw [q7, wrap_small (by omega) (by omega)]; omega
   ·dsimp only; rw [q6, q7, wrap_small (by omega) (by omega)]; omega
   ·dsimp only; rw [q9]; exact i7
   ·dsimp only
    refine q10.mono fun j => ?_
    try dsimp only
    rw [q7, wrap_small (by omega) (by omega)]
    split
    ·rw [if_pos (by omega)]; omega
    ·split
     ·rw [if_pos (by omega)]; omega
     ·omega
 ·have i9 : rowsOk (fun _ => 3) 7 d.2.2.2.2.1 := i8.mono fun j => by split <;> omega
  have h3 := i7.2
  refine .bind (pick_sat (k := k + 18) (i6.less (by omega)) (m := 40) (by decide)) fun y9 h9 => ?_
  refine .ite (fun _ => ?_) fun _ => .ite (fun _ => ?_) fun _ => ?_
  ·refine .bind (pick_sat (k := k) (h9.1.less (by omega)) (m := 6) (by decide)) fun y10 h10 => .ret ⟨h10.1, i7.1, i9.mono fun _ => by omega⟩
  ·have hr := i9.rd (i := 0) (by omega)
   refine .pos (by decide) (.pos (decide_eq_true (by omega)) (.pos (decide_eq_true (by rw [List.length_singleton]; omega)) (.pos (by decide) (.pos (decide_eq_true (by rw [List.length_set]; omega)) (.pos (by decide) (.pos (by decide) (.ret ⟨h9.1.less (by omega), ?_, ?_⟩)))))))
   ·dsimp only; rw [List.length_set]; exact i7.1
   ·dsimp only
    refine (i9.app (i := 0) (by omega) (by simp [rlist])).mono fun j => ?_
    try dsimp only
    split <;> omega
  ·exact .ret ⟨h9.1.less (by omega), i7.1, i9.mono fun _ => by omega⟩
theorem touches_sat (d : T2) : Sat (S_spec_l2Touches d) (fun r => r.1.1.length ≤ 2) := by
 unfold S_spec_l2Touches p_spec_l2Touches
 refine .ite (fun _ => ?_) fun _ => .ite (fun _ => .ret (by simp)) fun _ => .ret (by simp)
 obtain ⟨m, e, h1, _⟩ := put_ok (l := [d.2.2.1]) (n := d.2.2.2.1) (by simp)
 exact .bind ⟨_, e, h1⟩ fun y h => .ret (by simpa using h)
theorem has_sat {l : List Int} (n : Int) (hl : l.length ≤ 10) : Sat (S_spec_l1Has l n) (fun _ => True) := ⟨_, spec_l1Has_eq l n (by rw [maxLen_eq]; omega), trivial⟩
theorem interfere_sat (a b : T2) : Sat (S_spec_l2Interfere a b) (fun _ => True) := by
 unfold S_spec_l2Interfere p_spec_l2Interfere
 refine .limBind (touches_sat a) fun y1 h1 => ?_
 refine sat_loop (fun m d => d.1.2.1 = (d.1.1.length : Int) ∧ d.1.1.length ≤ 2 ∧ 0 ≤ d.1.2.2.1 ∧ d.1.2.1 - d.1.2.2.1 ≤ (m : Int)) 2 ⟨rfl, h1, by simp, by dsimp only; omega⟩ fun m d hI => ?_
 obtain ⟨i1, i2, i3, i4⟩ := hI
 refine .ite (fun hc => ?_) fun _ => .ret trivial
 simp only [decide_eq_true_eq] at hc
 refine .pos (decide_eq_true i3) (.pos (decide_eq_true (by omega)) ?_)
 refine .bind (touches_sat _) fun y4 h4 => .bind (has_sat _ (by omega)) fun y5 _ => .ite (fun _ => .ret trivial) fun _ => .go ⟨m - 1, by omega, i1, i2, ?_, ?_⟩
 ·dsimp only; rw [wrap_small (by omega) (by omega)]; omega
 ·dsimp only; rw [wrap_small (by omega) (by omega)]; omega
theorem none_len {n : Int} (h0 : 0 ≤ n) (h1 : n ≤ 6) : Sat (S_spec_l3None n) (fun r => r.1.1.2.1.length = n.toNat) := by
 unfold S_spec_l3None p_spec_l3None
 refine .pos (decide_eq_true h0) (.pos (by simp) (.pos (decide_eq_true (by omega)) (.ret ?_)))
 dsimp only
 rw [List.length_replicate]
def thT (t : T8) : Prop := t.1 = 3 ∧ t.2.1.length = 3 ∧ rowsOk (fun _ => 4) 3 t.2.1
theorem l4Attr_sat {t : T8} (h : thT t) (x : T2) (a b : Int) : Sat (S_spec_l4Attr t x a b) (fun r => r.1.1.2.1.length = 3) := by
 obtain ⟨t1, t2, t3⟩ := h
 unfold S_spec_l4Attr p_spec_l4Attr
 refine .limBind (none_len (n := t.1) (by omega) (by omega)) fun y1 h1 => ?_
 refine sat_loopB 4 (fun m d => d.1.2.2.1 = t.2.1 ∧ d.1.2.2.2.1 = 3 ∧ 0 ≤ d.1.2.2.2.2.1 ∧ 3 - d.1.2.2.2.2.1 ≤ (m : Int) ∧ m ≤ 3 ∧ d.2.2.2.2.1.length = 3) 3 ⟨rfl, by dsimp only; rw [t2]; rfl, by simp, by simp, by omega, by rw [h1, t1]; rfl⟩ fun m d hI => ?_
 obtain ⟨i1, i2, i3, i4, i5, i6⟩ := hI
 refine .ite (fun hc => ?_) fun _ => .ret i6
 simp only [decide_eq_true_eq] at hc
 rw [i2] at hc
 refine .pos (decide_eq_true i3) (.pos (decide_eq_true (by rw [i1, t2]; exact hc)) ?_)
 have hr := t3.rd (i := d.1.2.2.2.2.1) i3
 rw [← i1] at hr
 refine .loop (fun q z => z.1.2.2.1 = d.1.2.2.2.2.1 ∧ z.1.2.2.2.1 = t.2.1 ∧ z.1.2.2.2.2.1 = 3 ∧ z.1.2.2.2.2.2.1 = d.1.2.2.2.2.1 ∧ z.1.2.2.2.2.2.2.2.1 = (z.1.2.2.2.2.2.2.1.length : Int) ∧ z.1.2.2.2.2.2.2.1.length ≤ 4 ∧ 0 ≤ z.1.2.2.2.2.2.2.2.2.1 ∧ z.1.2.2.2.2.2.2.2.1 - z.1.2.2.2.2.2.2.2.2.1 ≤ (q : Int) ∧ z.2.2.2.2.1.length = 3) 4 (by omega)
  ⟨rfl, i1, i2, rfl, rfl, hr.1, by simp, by have := hr.1; dsimp only; omega, i6⟩ fun q z hz => ?_
 obtain ⟨q1, q2, q3, q4, q5, q6, q7, q8, q9⟩ := hz
 refine .ite (fun hp => ?_) fun hp => ?_
 ·simp only [decide_eq_true_eq] at hp
  have hwr : IntKind.i64.wrap (z.1.2.2.2.2.2.2.2.2.1 + 1) = z.1.2.2.2.2.2.2.2.2.1 + 1 := wrap_small (by omega) (by omega)
  have next : ∀ (D : List Int), D.length = 3 → ∃ m, m < q ∧ (z.1.2.2.1 = d.1.2.2.2.2.1 ∧ z.1.2.2.2.1 = t.2.1 ∧ z.1.2.2.2.2.1 = 3 ∧ z.1.2.2.2.2.2.1 = d.1.2.2.2.2.1 ∧ z.1.2.2.2.2.2.2.2.1 = (z.1.2.2.2.2.2.2.1.length : Int) ∧ z.1.2.2.2.2.2.2.1.length ≤ 4 ∧ 0 ≤ IntKind.i64.wrap (z.1.2.2.2.2.2.2.2.2.1 + 1) ∧ z.1.2.2.2.2.2.2.2.1 - IntKind.i64.wrap (z.1.2.2.2.2.2.2.2.2.1 + 1) ≤ (m : Int) ∧ D.length = 3) := fun D hD =>
   ⟨q - 1, by omega, q1, q2, q3, q4, q5, q6, by rw [hwr]; omega, by rw [hwr]; omega, hD⟩
  refine .pos (decide_eq_true q7) (.pos (decide_eq_true (by omega)) ?_)
  refine .ite (fun _ => .go (next _ q9)) fun _ => ?_
  refine .bind (interfere_sat _ _) fun y6 _ => ?_
  refine .ite (fun _ => .go (next _ q9)) fun _ => ?_
  have hk : 0 ≤ z.1.2.2.1 ∧ z.1.2.2.1 < (z.2.2.2.2.1.length : Int) := by rw [q1, q9]; exact ⟨i3, hc⟩
  refine .ite (fun _ => .ite (fun _ => .go (next _ q9)) fun _ => ?_) fun _ => ?_
  ·exact .pos (decide_eq_true hk.1) (.pos (decide_eq_true hk.2) (.bind (most_sat _ _) fun y7 _ => .go (next _ (by rw [List.length_set]; exact q9))))
  ·exact .pos (decide_eq_true hk.1) (.pos (decide_eq_true hk.2) (.bind (most_sat _ _) fun y7 _ => .go (next _ (by rw [List.length_set]; exact q9))))
 ·have hwr : IntKind.i64.wrap (d.1.2.2.2.2.1 + 1) = d.1.2.2.2.2.1 + 1 := wrap_small (by omega) (by omega)
  refine .go ⟨m - 1, by omega, q2, q3, ?_, ?_, by omega, q9⟩
  ·dsimp only; rw [q4, hwr]; omega
  ·dsimp only; rw [q4, hwr]; omega
theorem ownRow_sat {r : T7} (h : (rlist r).length ≤ 3) : Sat (S_spec_l4OwnRow r) (fun y => (rlist y.1.1).length ≤ 3) := by
 unfold S_spec_l4OwnRow p_spec_l4OwnRow S_spec_l4OwnAttr p_spec_l4OwnAttr
 rw [own_eq (by unfold rlist at h; omega)]
 exact .ret h
theorem l4Own_sat {t : T8} (h : thT t) : Sat (S_spec_l4Own t) (fun r => thT r.1.1) := by
 obtain ⟨t1, t2, t3⟩ := h
 unfold S_spec_l4Own p_spec_l4Own
 refine .limBind (new_sat (n := t.1) (by omega) (by omega)) fun y1 h1 => ?_
 refine sat_loopB 4 (fun m d => d.1.1 = t.2.1 ∧ d.1.2.1 = 3 ∧ 0 ≤ d.1.2.2.1 ∧ 3 - d.1.2.2.1 ≤ (m : Int) ∧ m ≤ 3 ∧ d.2.2.2.1.length = 3 ∧ d.2.2.2.2.1.1 = 3 ∧ rowsOk (fun j => if (j : Int) < d.1.2.2.1 then 4 else 0) 3 d.2.2.2.1) 3
  ⟨rfl, by dsimp only; rw [t2]; rfl, by simp, by simp, by omega, by rw [h1.2.1, t1]; rfl, by rw [h1.1, t1], fun j x hx => ⟨Nat.le_trans (h1.2.2 j x hx).1 (Nat.zero_le _), fun r hr => Nat.le_trans ((h1.2.2 j x hx).2 r hr) (by omega)⟩⟩ fun m d hI => ?_
 obtain ⟨i1, i2, i3, i4, i5, i6, i7, i8⟩ := hI
 refine .ite (fun hc => ?_) fun _ => .ret ⟨i7, i6, i8.mono fun j => by split <;> omega⟩
 simp only [decide_eq_true_eq] at hc
 rw [i2] at hc
 refine .pos (decide_eq_true i3) (.pos (decide_eq_true (by rw [i1, t2]; exact hc)) ?_)
 have hr := t3.rd (i := d.1.2.2.1) i3
 rw [← i1] at hr
 refine .loop (fun q z => z.1.1 = d.1.2.2.1 ∧ z.1.2.1 = t.2.1 ∧ z.1.2.2.1 = 3 ∧ z.1.2.2.2.1 = d.1.2.2.1 ∧ z.1.2.2.2.2.2.1 = (z.1.2.2.2.2.1.length : Int) ∧ (z.1.2.2.2.2.1.length ≤ 4 ∧ ∀ r ∈ z.1.2.2.2.2.1, (rlist r).length ≤ 3) ∧ 0 ≤ z.1.2.2.2.2.2.2.1 ∧ z.1.2.2.2.2.2.1 - z.1.2.2.2.2.2.2.1 ≤ (q : Int) ∧ q ≤ 4 ∧ z.2.2.2.1.length = 3 ∧ z.2.2.2.2.1.1 = 3 ∧ rowsOk (fun j => if (j : Int) < d.1.2.2.1 then 4 else if (j : Int) = d.1.2.2.1 then 4 - q else 0) 3 z.2.2.2.1) 4 (by omega)
  ⟨rfl, i1, i2, rfl, rfl, hr, by simp, by have := hr.1; dsimp only; omega, by omega, i6, i7, i8.mono fun j => by split <;> omega⟩ fun q z hz => ?_
 obtain ⟨q1, q2, q3, q4, q5, q6, q7, q8, q9, q10, q11, q12⟩ := hz
 refine .ite (fun hp => ?_) fun hp => ?_
 ·simp only [decide_eq_true_eq] at hp
  have hq : 1 ≤ q := by omega
  have hwr : IntKind.i64.wrap (z.1.2.2.2.2.2.2.1 + 1) = z.1.2.2.2.2.2.2.1 + 1 := wrap_small (by have := q6.1; omega) (by omega)
  refine .pos (decide_eq_true q7) (.pos (decide_eq_true (by omega)) (.pos (decide_eq_true (by omega)) (.pos (decide_eq_true (by omega)) ?_)))
  refine .bind (ownRow_sat (q6.2 _ (List.mem_of_getElem? (rd_get (d := Z7) q7 (by omega))))) fun y6 h6 => ?_
  have hr := q12.rd (i := z.1.1) (by omega)
  refine .pos (decide_eq_true ?_) (.pos (decide_eq_true (by omega)) (.pos (decide_eq_true (by rw [List.length_set]; omega)) (.pos (by simp) (.pos (by simp) (.go ⟨q - 1, by omega, q1, q2, q3, q4, q5, q6, ?_, ?_, by omega, ?_, q11, ?_⟩)))))
  ·have := hr.1
   try dsimp only at this
   rw [List.length_singleton]
   split at this
   ·omega
   ·split at this <;> omega
  ·dsimp only; rw [hwr]; omega
  ·dsimp only; rw [hwr]; omega
  ·dsimp only; rw [List.length_set]; exact q10
  ·dsimp only
   refine (q12.app (i := z.1.1) (by omega) h6).mono fun j => ?_
   try dsimp only
   rw [q1]
   split
   ·rename_i e
    subst e
    rw [if_neg (by omega), if_pos (by omega), if_neg (by omega), if_pos (by omega)]
    omega
   ·split
    ·omega
    ·rw [if_neg (by omega)]; omega
 ·have hwr : IntKind.i64.wrap (d.1.2.2.1 + 1) = d.1.2.2.1 + 1 := wrap_small (by omega) (by omega)
  refine .go ⟨m - 1, by omega, q2, q3, ?_, ?_, by omega, q10, q11, ?_⟩
  ·dsimp only; rw [q4, hwr]; omega
  ·dsimp only; rw [q4, hwr]; omega
  ·dsimp only
   refine q12.mono fun j => ?_
   try dsimp only
   rw [q4, hwr]
   split
   ·rw [if_pos (by omega)]; omega
   ·split
    ·rw [if_pos (by omega)]; omega
    ·omega
theorem l4Set_sat {t : T8} (h : thT t) {a b : Int} (ha : 0 ≤ a ∧ a < 3) (hb : 1 ≤ b ∧ b ≤ 4) {r : T7} (hr : (rlist r).length ≤ 3) : Sat (S_spec_l4Set t a b r) (fun r => thT r.1.1) := by
 unfold S_spec_l4Set p_spec_l4Set
 refine .limBind (l4Own_sat h) fun y1 h1 => ?_
 refine sat_loop (fun m d => d.1.1 = a ∧ d.1.2.1 = b ∧ b - ((rd d.2.2.2.2.1 a []).length : Int) ≤ (m : Int) ∧ d.2.1.1 = 3 ∧ d.2.2.2.2.1.length = 3 ∧ d.2.2.2.2.2.1.1 = 3 ∧ rowsOk (fun _ => 4) 3 d.2.2.2.2.1 ∧ d.2.2.1.2.2.2.2.2.2.2.2.2.1.length ≤ 3) 4
  ⟨rfl, rfl, by omega, h.1, h1.2.1, h1.1, h1.2.2, hr⟩ fun m d hI => ?_
 obtain ⟨i1, i2, i3, i4, i5, i6, i7, i8⟩ := hI
 have hrd := i7.rd (i := a) ha.1
 refine .pos (decide_eq_true (by omega)) (.pos (decide_eq_true (by omega)) ?_)
 rw [i1, i2]
 refine .ite (fun hc => ?_) fun hc => ?_
 ·simp only [decide_eq_true_eq] at hc
  refine .pos (decide_eq_true (by omega)) (.pos (decide_eq_true (by omega)) ?_)
  rw [i4]
  refine .bind (none_len (by omega) (by omega)) fun y4 h4 => ?_
  have hnew : (rd (d.2.2.2.2.1.set a.toNat (rd d.2.2.2.2.1 a [] ++ [(((0 : Int), (0 : Int), (0 : Int), ((0 : Int), (0 : Int), (0 : Int), (0 : Int), (0 : Int), ()), y4.1.1, ()) : T7)])) a []).length = (rd d.2.2.2.2.1 a []).length + 1 := by
   have e : (d.2.2.2.2.1.set a.toNat (rd d.2.2.2.2.1 a [] ++ [(((0 : Int), (0 : Int), (0 : Int), ((0 : Int), (0 : Int), (0 : Int), (0 : Int), (0 : Int), ()), y4.1.1, ()) : T7)]))[a.toNat]? = some (rd d.2.2.2.2.1 a [] ++ [((0 : Int), (0 : Int), (0 : Int), ((0 : Int), (0 : Int), (0 : Int), (0 : Int), (0 : Int), ()), y4.1.1, ())]) := by
    rw [List.getElem?_set_self (by omega)]
   rw [show rd (d.2.2.2.2.1.set a.toNat (rd d.2.2.2.2.1 a [] ++ [(((0 : Int), (0 : Int), (0 : Int), ((0 : Int), (0 : Int), (0 : Int), (0 : Int), (0 : Int), ()), y4.1.1, ()) : T7)])) a [] = rd d.2.2.2.2.1 a [] ++ [((0 : Int), (0 : Int), (0 : Int), ((0 : Int), (0 : Int), (0 : Int), (0 : Int), (0 : Int), ()), y4.1.1, ())] by
    unfold rd at e ⊢
    rw [List.getD_eq_getElem?_getD, e]; rfl]
   rw [List.length_append, List.length_singleton]
  refine .pos (decide_eq_true (by rw [List.length_singleton]; omega)) (.pos (decide_eq_true (by omega)) (.pos (decide_eq_true (by rw [List.length_set]; omega)) (.pos (by simp) (.pos (by simp) (.go ⟨m - 1, by omega, rfl, rfl, ?_, ?_, ?_, i6, ?_, i8⟩)))))
  ·dsimp only; rw [hnew]; omega
  ·rfl
  ·dsimp only; rw [List.length_set]; exact i5
  ·dsimp only
   refine (i7.set (i := a) (n := 4) ?_ fun s hs => ?_).mono fun j => by split <;> omega
   ·rw [List.length_append, List.length_singleton]; omega
   ·rcases List.mem_append.1 hs with hs | hs
    ·exact hrd.2 s hs
    ·rw [List.mem_singleton] at hs
     rw [hs]
     show y4.1.1.2.1.length ≤ 3
     rw [h4]; decide
 ·simp only [decide_eq_true_eq] at hc
  refine .pos (decide_eq_true (by omega)) (.pos (decide_eq_true (by omega)) ?_)
  refine .bind (ownRow_sat i8) fun y5 h5 => ?_
  rw [wrap_small (by omega) (by omega)]
  refine .pos (decide_eq_true (by omega)) (.pos (decide_eq_true (by omega)) (.ret ⟨i6, by dsimp only; rw [List.length_set]; exact i5, ?_⟩))
  dsimp only
  refine (i7.set (i := a) (n := 4) ?_ fun s hs => ?_).mono fun j => by split <;> omega
  ·rw [List.length_set]; exact hrd.1
  ·rcases List.mem_or_eq_of_mem_set hs with hs | hs
   ·exact hrd.2 s hs
   ·rw [hs]; exact h5
theorem settled_sat {c : T14} {k : Nat} (h : Cur c (k + 2000)) : Sat (S_Pspec_l1Cur_settled c) (fun r => Cur r.2.1 k ∧ smT 4 7 r.1.1) := by
 unfold S_Pspec_l1Cur_settled p_Pspec_l1Cur_settled
 refine .limBind (new_sat (by decide) (by decide)) fun y1 h1 => ?_
 refine .limBind (pick_sat (k := k + 1998) h (m := 9) (by decide)) fun y2 h2 => ?_
 have h2b := h2.2.2 (by omega)
 refine sat_loop (fun m d => d.1.1 ≤ (m : Int) ∧ m ≤ 9 ∧ 0 ≤ d.1.1 ∧ Cur (d.2.1.1, d.2.1.2.1, d.2.1.2.2.1, ()) (k + 1010 + 40 * m) ∧ thT (d.2.2.2.1.1, d.2.2.2.1.2.1, ())) 9
  ⟨by dsimp only; omega, by omega, h2.2.1, h2.1.less (by omega), h1.1, h1.2.1, fun j x hx => ⟨Nat.le_trans (h1.2.2 j x hx).1 (Nat.zero_le _), fun r hr => Nat.le_trans ((h1.2.2 j x hx).2 r hr) (by omega)⟩⟩ fun m d hI => ?_
 obtain ⟨i1, i2, i3, i4, i5⟩ := hI
 refine .ite (fun hc => ?_) fun hc => ?_
 ·simp only [decide_eq_true_eq] at hc
  have hm : 1 ≤ m := by omega
  have hwr : IntKind.i64.wrap (d.1.1 - 1) = d.1.1 - 1 := wrap_small (by omega) (by omega)
  refine .bind (pick_sat (k := k + 1010 + 40 * (m - 1) + 38) (i4.less (by omega)) (m := 3) (by decide)) fun y5 h5 => ?_
  have h5b := h5.2.2 (by omega)
  have hr := i5.2.2.rd (i := y5.1.1) h5.2.1
  have hl : d.2.2.2.1.2.1.length = 3 := i5.2.1
  dsimp only at hr
  have hwn : IntKind.i64.wrap (((rd d.2.2.2.1.2.1 y5.1.1 ([] : List T7)).length : Int) + 1) = ((rd d.2.2.2.1.2.1 y5.1.1 ([] : List T7)).length : Int) + 1 := wrap_small (by omega) (by omega)
  refine .pos (decide_eq_true h5.2.1) (.pos (decide_eq_true (by omega)) ?_)
  rw [hwn, hwr]
  refine .ite (fun _ => .go ⟨m - 1, by omega, ?_, by omega, ?_, h5.1.less (by omega), i5⟩) fun hn => ?_
  ·dsimp only; omega
  ·dsimp only; omega
  simp only [decide_eq_true_eq] at hn
  refine .bind (cmd_sat (k := k + 1010 + 40 * (m - 1) + 20) (h5.1.less (by omega))) fun y6 h6 => ?_
  refine .bind (l4Attr_sat i5 _ _ _) fun y7 h7 => ?_
  refine .bind (one_sat (k := k + 1010 + 40 * (m - 1) + 18) (h6.1.less (by omega)) (m := 3) (by decide)) fun y8 h8 => ?_
  have fin : ∀ (c' : T14) (t' : T8), Cur c' (k + 1010 + 40 * (m - 1)) → thT t' → ∃ n, n < m ∧ (d.1.1 - 1 ≤ (n : Int) ∧ n ≤ 9 ∧ 0 ≤ d.1.1 - 1 ∧ Cur (c'.1, c'.2.1, c'.2.2.1, ()) (k + 1010 + 40 * n) ∧ thT (t'.1, t'.2.1, ())) := fun c' t' hc' ht' => ⟨m - 1, by omega, by omega, by omega, by omega, hc', ht'⟩
  refine .ite (fun _ => ?_) fun _ => ?_
  ·refine .bind (pick_sat (k := k + 1010 + 40 * (m - 1) + 16) (h8.less (by omega)) (m := 3) (by decide)) fun y9 h9 => ?_
   have h9b := h9.2.2 (by omega)
   refine .bind (pick_sat (k := k + 1010 + 40 * (m - 1) + 14) (h9.1.less (by omega)) (m := 4) (by decide)) fun y10 h10 => ?_
   refine .pos (decide_eq_true h9.2.1) (.pos (decide_eq_true (by omega)) ?_)
   refine .bind (one_sat (k := k + 1010 + 40 * (m - 1) + 12) (h10.1.less (by omega)) (m := 5) (by decide)) fun y11 h11 => ?_
   refine .ite (fun _ => ?_) fun _ => ?_
   ·refine .bind (pick_sat (k := k + 1010 + 40 * (m - 1)) (h11.less (by omega)) (m := 2) (by decide)) fun y12 h12 => ?_
    refine .bind (l4Set_sat i5 ⟨h5.2.1, h5b⟩ ⟨by omega, by omega⟩ ?_) fun y13 h13 => .go (fin y12.2.1 y13.1.1 h12.1 h13)
    show (y7.1.1.2.1.set y9.1.1.toNat y10.1.1).length ≤ 3
    rw [List.length_set]; omega
   ·refine .bind (l4Set_sat i5 ⟨h5.2.1, h5b⟩ ⟨by omega, by omega⟩ ?_) fun y13 h13 => .go (fin y11.2.1 y13.1.1 (h11.less (by omega)) h13)
    show (y7.1.1.2.1.set y9.1.1.toNat y10.1.1).length ≤ 3
    rw [List.length_set]; omega
  ·refine .bind (one_sat (k := k + 1010 + 40 * (m - 1) + 12) (h8.less (by omega)) (m := 5) (by decide)) fun y11 h11 => ?_
   refine .ite (fun _ => ?_) fun _ => ?_
   ·refine .bind (pick_sat (k := k + 1010 + 40 * (m - 1)) (h11.less (by omega)) (m := 2) (by decide)) fun y12 h12 => ?_
    refine .bind (l4Set_sat i5 ⟨h5.2.1, h5b⟩ ⟨by omega, by omega⟩ (by show y7.1.1.2.1.length ≤ 3; omega)) fun y13 h13 => .go (fin y12.2.1 y13.1.1 h12.1 h13)
   ·exact .bind (l4Set_sat i5 ⟨h5.2.1, h5b⟩ ⟨by omega, by omega⟩ (by show y7.1.1.2.1.length ≤ 3; omega)) fun y13 h13 => .go (fin y11.2.1 y13.1.1 (h11.less (by omega)) h13)
 ·refine .bind (one_sat (k := k + 1000) (i4.less (by omega)) (m := 20) (by decide)) fun y19 h19 => ?_
  refine .ite (fun _ => .bind (table_sat h19) fun y20 h20 => .ret h20) fun _ => .ret ⟨h19.less (by omega), by have := i5.2.1; dsimp only at this ⊢; show List.length _ ≤ 5; omega, fun j x hx => ⟨(i5.2.2 j x hx).1, fun r hr => Nat.le_trans ((i5.2.2 j x hx).2 r hr) (by omega)⟩⟩
def smW (w : T0) : Prop := smallO w.2.2.1 ∧ w.2.2.2.1.length ≤ 40
theorem smW.wl {w : T0} (h : smW w) : WL.wl w := ⟨trivial, trivial, h.1.wl, ⟨by have := h.2; rw [maxLen_eq]; omega, fun _ _ => trivial⟩, trivial⟩
theorem watch_sat {c : T14} {k : Nat} (h : Cur c (k + 10)) {t : T8} (ht : smT 4 7 t) : Sat (S_Pspec_l1Cur_watch c t) (fun r => Cur r.2.1 k ∧ smW r.1.1) := by
 have hwl := ht.wl (by decide) (by decide)
 unfold S_Pspec_l1Cur_watch p_Pspec_l1Cur_watch
 refine .limBind (pick_sat (k := k + 8) h (m := 3) (by decide)) fun y1 h1 => ?_
 have h1b := h1.2.2 (by omega)
 refine .limBind (pick_sat (k := k + 6) h1.1 (m := 14) (by decide)) fun y2 h2 => ?_
 have h2b := h2.2.2 (by omega)
 have fin : ∀ (c' : T14) (a n : Int) (S : List (List Int)) (G : List Int), Cur c' (k + 6) → smallO S → G.length ≤ 30 → Sat ((S_Pspec_l1Cur_pick c' 30).bind fun y8 => (if (y8.1.1 == (0 : Int)) then (some ((((5 : Int), n, S, G, ()), ()), (y8.2.1, ()))) else (if (y8.1.1 == (1 : Int)) then (if (decide ((G.length + ([(1 : Int)] : List Int).length) * 8 ≤ 140737488355328)) then (some (((a, n, S, (G ++ ([(1 : Int)] : List Int)), ()), ()), (y8.2.1, ()))) else none) else (some (((a, n, S, G, ()), ()), (y8.2.1, ())))))) (fun r : (T0 × Unit) × (T14 × Unit) => Cur r.2.1 k ∧ smW r.1.1) := by
  intro c' a n S G hc hS hG
  refine .bind (pick_sat (k := k + 4) hc (m := 30) (by decide)) fun y h => ?_
  refine .ite (fun _ => .ret ⟨h.1.less (by omega), hS, by dsimp only; omega⟩) fun _ => .ite (fun _ => ?_) fun _ => .ret ⟨h.1.less (by omega), hS, by dsimp only; omega⟩
  exact .pos (decide_eq_true (by rw [List.length_singleton]; omega)) (.ret ⟨h.1.less (by omega), hS, by dsimp only; rw [List.length_append, List.length_singleton]; omega⟩)
 refine sat_loop (fun m d => d.1.1 ≤ (m : Int) ∧ 0 ≤ d.1.1 ∧ m ≤ 14 ∧ Cur (d.2.1.1, d.2.1.2.1, d.2.1.2.2.1, ()) (k + 6) ∧ (d.2.2.1.1, d.2.2.1.2.1, ()) = t ∧ d.2.2.2.2.1.1 = y1.1.1 ∧ d.2.2.2.2.1.2.1 = t.1 ∧ smallO d.2.2.2.2.2.1 ∧ d.2.2.2.2.2.2.1.length ≤ 30 ∧ (tableOk t = true → GoodW t.1 y1.1.1 d.2.2.2.2.2.1 d.2.2.2.2.2.2.1)) 14
  ⟨by dsimp only; omega, h2.2.1, by omega, h2.1, rfl, rfl, rfl, ⟨by simp, by simp⟩, by simp, fun hk => ?_⟩ fun m d hI => ?_
 ·obtain ⟨e, hR⟩ := goodR_of hk
  have hg := hR.grp
  have et : t.1 = (t.2.1.length : Int) := congrArg Prod.fst e
  rw [← et] at hg
  refine ⟨hg, ⟨h1.2.1, ?_⟩, ⟨by simp, by simp⟩, rfl, by simp⟩
  rw [grp_iff] at hg
  omega
 obtain ⟨i1, i2, i3, i4, i5, i6, i7, i8, i9, i10⟩ := hI
 refine .ite (fun hc => ?_) fun hc => .sat (fin _ _ _ _ _ i4 i8 i9)
 simp only [decide_eq_true_eq] at hc
 rw [i5]
 refine .bind (Sat.eq (spec_GoodTable_eq t hwl)) fun y5 h5 => ?_
 rw [h5]
 refine .ite (fun hk => ?_) fun _ => .sat (fin _ _ _ _ _ i4 i8 i9)
 obtain ⟨e, hR⟩ := goodR_of hk
 have hW := i10 hk
 have et : t.1 = (t.2.1.length : Int) := congrArg Prod.fst e
 have hs := tickO_small (t := t) hR
 have hW' := hW
 rw [et] at hW'
 have htick := l20Tick_eq hR hW'
 rw [← e] at htick
 rw [i6, i7, et]
 refine .bind (Sat.eq htick) fun y6 h6 => ?_
 rw [h6]
 have hwr : IntKind.i64.wrap (d.1.1 - 1) = d.1.1 - 1 := wrap_small (by omega) (by omega)
 refine .go ⟨m - 1, by omega, ?_, ?_, by omega, i4, rfl, rfl, rfl, hs, by dsimp only; rw [List.length_map]; exact hs.1, fun _ => hW'.tick hR⟩
 ·dsimp only; rw [hwr]; omega
 ·dsimp only; rw [hwr]; omega
theorem drawTick_sat {b : List Int} (hb : ∀ x ∈ b, 0 ≤ x ∧ x ≤ 255) (hl : b.length ≤ maxLen) : Sat (S_spec_DrawTickWatch b) (fun r => smT 4 7 r.1.2.1 ∧ smW r.1.1) := by
 unfold S_spec_DrawTickWatch p_spec_DrawTickWatch
 exact .bind (table_sat (k := 10) (cur0 hb hl (by omega))) fun y1 h1 => .bind (watch_sat (k := 0) h1.1 h1.2) fun y2 h2 => .ret ⟨h1.2, h2.2⟩
theorem drawPlay_sat {b : List Int} (hb : ∀ x ∈ b, 0 ≤ x ∧ x ≤ 255) (hl : b.length ≤ maxLen) : Sat (S_spec_DrawPlayWatch b) (fun r => r.1.2.2.1.length ≤ 16 ∧ ∀ t ∈ r.1.2.2.1, smT 4 7 t) := by
 unfold S_spec_DrawPlayWatch p_spec_DrawPlayWatch
 refine .limBind (table_sat (k := 50000) (cur0 hb hl (by omega))) fun y1 h1 => ?_
 refine .limBind (pick_sat (k := 49998) h1.1 (m := 16) (by decide)) fun y2 h2 => ?_
 have h2b := h2.2.2 (by omega)
 refine sat_loop (fun m d => d.1.1 ≤ (m : Int) ∧ 0 ≤ d.1.1 ∧ m ≤ 16 ∧ Cur (d.2.2.1.1, d.2.2.1.2.1, d.2.2.1.2.2.1, ()) (10 + 2010 * m) ∧ smT 4 7 (d.2.2.2.1.1, d.2.2.2.1.2.1, ()) ∧ d.2.2.2.2.1.length + m ≤ 16 ∧ ∀ t ∈ d.2.2.2.2.1, smT 4 7 t) 16
  ⟨by dsimp only; omega, h2.2.1, by omega, h2.1.less (by omega), h1.2, by simp, by simp⟩ fun m d hI => ?_
 obtain ⟨i1, i2, i3, i4, i5, i6, i7⟩ := hI
 refine .ite (fun hc => ?_) fun hc => ?_
 ·simp only [decide_eq_true_eq] at hc
  have hm : 1 ≤ m := by omega
  have hwr : IntKind.i64.wrap (d.1.1 - 1) = d.1.1 - 1 := wrap_small (by omega) (by omega)
  have fin : ∀ (c' : T14) (t' x : T8), Cur c' (10 + 2010 * (m - 1)) → smT 4 7 t' → smT 4 7 x → ∃ n, n < m ∧ (IntKind.i64.wrap (d.1.1 - 1) ≤ (n : Int) ∧ 0 ≤ IntKind.i64.wrap (d.1.1 - 1) ∧ n ≤ 16 ∧ Cur (c'.1, c'.2.1, c'.2.2.1, ()) (10 + 2010 * n) ∧ smT 4 7 (t'.1, t'.2.1, ()) ∧ (d.2.2.2.2.1 ++ [x]).length + n ≤ 16 ∧ ∀ t ∈ d.2.2.2.2.1 ++ [x], smT 4 7 t) := fun c' t' x hc' ht' hx =>
   ⟨m - 1, by omega, by rw [hwr]; omega, by rw [hwr]; omega, by omega, hc', ht', by rw [List.length_append, List.length_singleton]; omega, fun t ht => by
    rcases List.mem_append.1 ht with ht | ht
    ·exact i7 t ht
    ·rw [List.mem_singleton] at ht; rw [ht]; exact hx⟩
  refine .bind (one_sat (k := 10 + 2010 * (m - 1) + 2000) (i4.less (by omega)) (m := 12) (by decide)) fun y5 h5 => ?_
  refine .ite (fun _ => ?_) fun _ => ?_
  ·refine .bind (settled_sat (k := 10 + 2010 * (m - 1)) h5) fun y6 h6 => ?_
   exact .pos (decide_eq_true (by rw [List.length_singleton]; omega)) (.go (fin y6.2.1 y6.1.1 y6.1.1 h6.1 h6.2 h6.2))
  ·exact .pos (decide_eq_true (by rw [List.length_singleton]; omega)) (.go (fin y5.2.1 (d.2.2.2.1.1, d.2.2.2.1.2.1, ()) _ (h5.less (by omega)) i5 i5))
 ·refine .ite (fun hp => ?_) fun hp => ?_
  ·simp only [decide_eq_true_eq] at hp
   exact .pos (by decide) (.pos (decide_eq_true hp) (.bind (pick_sat (k := 8) (i4.less (by omega)) (m := 4) (by decide)) fun y7 _ => .ret ⟨by dsimp only; omega, i7⟩))
  ·exact .bind (pick_sat (k := 8) (i4.less (by omega)) (m := 4) (by decide)) fun y7 _ => .ret ⟨by dsimp only; omega, i7⟩
theorem drawWait_sat {b : List Int} (hb : ∀ x ∈ b, 0 ≤ x ∧ x ≤ 255) (hl : b.length ≤ maxLen) : Sat (S_spec_DrawWaitOf b) (fun _ => True) := by
 unfold S_spec_DrawWaitOf p_spec_DrawWaitOf
 exact .bind (group_sat (k := 10) (cur0 hb hl (by omega))) fun y1 h1 => .bind (pick_sat (k := 8) h1.1 (m := 6) (by decide)) fun y2 h2 => .bind (pick_sat (k := 6) h2.1 (m := 20) (by decide)) fun y3 h3 => .neg (by decide) (.bind (pick_sat (k := 4) h3.1 (m := 6) (by decide)) fun y4 h4 => .ret trivial)
theorem drawNew_sat {b : List Int} (hb : ∀ x ∈ b, 0 ≤ x ∧ x ≤ 255) (hl : b.length ≤ maxLen) : Sat (S_spec_DrawNewWatch b) (fun _ => True) := by
 unfold S_spec_DrawNewWatch p_spec_DrawNewWatch S_spec_DrawNewReplica p_spec_DrawNewReplica
 exact .bind (.bind (group_sat (k := 10) (cur0 hb hl (by omega))) fun y1 h1 => .bind (pick_sat (k := 8) h1.1 (m := 6) (by decide)) fun y2 h2 => .bind (pick_sat (k := 6) h2.1 (m := 9) (by decide)) fun y3 h3 => .neg (by decide) (.ret (P := fun _ => True) trivial)) fun y h => .ret trivial
theorem sameInts_eq (a b : List Int) (ha : a.length ≤ maxLen) (hb : b.length ≤ maxLen) : S_laws_sameInts a b = some ((same a b, ()), ()) := spec_l1Same_eq a b ha hb
theorem contains_eq (L : List (List Int)) (e : List Int) (hL : WL.wl L) (he : e.length ≤ maxLen) : S_laws_contains L e = some ((L.any (same e), ()), ()) := by
 unfold S_laws_contains
 refine lim_eq (L.length + 1) fun N hN => ?_
 unfold p_laws_contains
 refine loopN_over L hL.1 (fun i (s : Unit) => ((e, L, (L.length : Int), (i : Int), ()), ())) (fun i t s => ((t.any (same e), ()), ())) (fun _ _ _ => True) () rfl rfl trivial hN (fun rec s h => ?_) (fun rec i b t s hat h hrec => ?_)
 ·dsimp only
  simp
 ·dsimp only
  simp only [hat.lt, hat.nn, hat.wrap, hat.rd, decide_true, if_true, sameInts_eq e b he (wl_mem hL hat.mem).1, Option.bind_some, List.any_cons]
  cases same e b with
  | true => simp
  | false =>
   simp only [Bool.false_eq_true, if_false, Bool.false_or]
   exact hrec () trivial
theorem sameWatch_self (w : T0) (h : WL.wl w) : S_laws_sameWatch w w = some ((true, ()), ()) := by
 unfold S_laws_sameWatch p_laws_sameWatch
 rw [if_pos (beq_self_eq_true _), if_pos (beq_self_eq_true _), sameLists_self _ h.2.2.1, Option.bind_some]
 dsimp only
 rw [if_pos rfl, sameInts_self _ h.2.2.2.1.1, Option.bind_some]
theorem sameAll_self (l : List (List (List Int))) (hl : WL.wl l) : S_laws_sameAll l l = some ((true, ()), ()) := by
 unfold S_laws_sameAll
 refine lim_eq (l.length + 1) fun N hN => ?_
 unfold p_laws_sameAll
 rw [if_neg (by simp)]
 refine loopN_over l hl.1 (fun i (s : Unit) => ((l, l, (l.length : Int), (i : Int), ()), ())) (fun i t s => ((true, ()), ())) (fun i t s => True)
  () rfl rfl trivial hN (fun rec s h => ?_) (fun rec i b t s hat h hrec => ?_)
 ·dsimp only
  simp
 ·dsimp only
  simp only [hat.lt, hat.nn, hat.wrap, hat.rd, decide_true, if_true, sameLists_self b (wl_mem hl hat.mem), Option.bind_some, Bool.not_true, Bool.false_eq_true, if_false]
  exact hrec () trivial
theorem play_both (n a : Int) (l : List T8) (hl : WL.wl l) : ∃ (w : T0) (h : List (List (List Int))) (ok : Bool), WL.wl w ∧ WL.wl h ∧ S_impl_PlayWatch n a l = some ((w, h, ok, ()), ()) ∧ S_spec_PlayWatch n a l = some ((w, h, ok, ()), ()) := by
 rw [impl_PlayWatch_eq n a l hl, spec_PlayWatch_eq n a l hl]
 have none : ∃ (w : T0) (h : List (List (List Int))) (ok : Bool), WL.wl w ∧ WL.wl h ∧ some noW = some ((w, h, ok, ()), ()) ∧ some noW = some ((w, h, ok, ()), ()) :=
  ⟨_, [], false, ⟨trivial, trivial, ⟨by simp, by simp⟩, ⟨by simp, by simp⟩, trivial⟩, ⟨by simp, by simp⟩, rfl, rfl⟩
 unfold playRes
 split
 ·split
  ·rename_i h60
   unfold playR
   split
   ·rename_i hf
    obtain ⟨q1, q2, q3, q4⟩ := playW_small (n := n) (a := a) l [] [] [] hf ⟨by simp, by simp⟩ (by simp) (by simp)
    generalize playW n a l [] [] [] = V at q1 q2 q3 q4 ⊢
    rw [List.length_nil, Nat.zero_add] at q3
    exact ⟨(a, n, V.1.1, V.1.2, ()), V.2, true, ⟨trivial, trivial, q1.wl, ⟨by show V.1.2.length ≤ maxLen; rw [maxLen_eq]; omega, fun _ _ => trivial⟩, trivial⟩, ⟨by rw [maxLen_eq]; omega, fun x hx => (q4 x hx).wl⟩, rfl, rfl⟩
   ·exact none
  ·exact none
 ·exact none
theorem wait_both (n a r : Int) : ∃ (k : Int) (ok : Bool), S_impl_WaitOf n a r = some ((k, ok, ()), ()) ∧ S_spec_WaitOf n a r = some ((k, ok, ()), ()) ∧ (grp n = true → 0 ≤ a ∧ a < n → 0 ≤ r ∧ r < n → ok = true ∧ k = waitV n a r) := by
 unfold S_impl_WaitOf p_impl_WaitOf S_spec_WaitOf p_spec_WaitOf
 rw [impl_IsGroup_eq, spec_IsGroup_eq, Option.bind_some, Option.bind_some]
 dsimp only
 cases hg : grp n with
 | false => exact ⟨0, false, rfl, rfl, fun h => by cases h⟩
 | true =>
  simp only [Bool.not_true, Bool.false_eq_true, if_false, grp_wrap hg, impl_within_eq, spec_l1In_eq, Option.bind_some]
  cases h1 : inn a 0 (n - 1) with
  | false =>
   refine ⟨0, false, by simp, by simp, fun _ h2 => ?_⟩
   rw [inn_iff.2 (by omega)] at h1; cases h1
  | true =>
   cases h2 : inn r 0 (n - 1) with
   | false =>
    refine ⟨0, false, by simp, by simp, fun _ _ h3 => ?_⟩
    rw [inn_iff.2 (by omega)] at h2; cases h2
   | true =>
    rw [inn_iff] at h1 h2
    obtain ⟨e1, e2⟩ := wait_eq hg (a := a) (b := r) (by omega) (by omega)
    simp only [Bool.not_true, Bool.false_eq_true, if_false, e1, e2, Option.bind_some]
    exact ⟨_, true, rfl, rfl, fun _ _ _ => ⟨rfl, rfl⟩⟩
theorem watch_tail {b : List Int} (hb : ∀ x ∈ b, 0 ≤ x ∧ x ≤ 255) (hl : b.length ≤ maxLen) :
  ((S_spec_DrawPlayWatch b).bind fun y26 => ((S_impl_PlayWatch y26.1.1 y26.1.2.1 y26.1.2.2.1).bind fun y27 => ((S_spec_PlayWatch y26.1.1 y26.1.2.1 y26.1.2.2.1).bind fun y28 => ((S_spec_DrawWaitOf b).bind fun y29 => ((S_impl_WaitOf y29.1.1 y29.1.2.1 y29.1.2.2.1).bind fun y30 => ((S_spec_WaitOf y29.1.1 y29.1.2.1 y29.1.2.2.1).bind fun y31 => ((S_spec_DrawNewWatch b).bind fun y32 => ((S_impl_NewWatch y32.1.1 y32.1.2.1).bind fun y33 => ((S_spec_NewWatch y32.1.1 y32.1.2.1).bind fun y34 => (if (y27.1.2.2.1 == y28.1.2.2.1) then ((S_laws_sameWatch y27.1.1 y28.1.1).bind fun y35 => (if y35.1.1 then ((S_laws_sameAll y27.1.2.1 y28.1.2.1).bind fun y36 => (if y36.1.1 then (if (y30.1.2.1 == y31.1.2.1) then (if (y30.1.1 == y31.1.1) then (if (y33.1.2.1 == y34.1.2.1) then ((S_laws_sameWatch y33.1.1 y34.1.1).bind fun y37 => (some ((y37.1.1, ()), ()))) else (some ((false, ()), ()))) else (some ((false, ()), ()))) else (some ((false, ()), ()))) else (some ((false, ()), ())))) else (some ((false, ()), ())))) else (some ((false, ()), ())))))))))))) = some ((true, ()), ()) := by
 obtain ⟨⟨⟨n, me, l, ⟨⟩⟩, ⟨⟩⟩, e1, h1, h2⟩ := drawPlay_sat hb hl
 obtain ⟨⟨⟨x, y, z, ⟨⟩⟩, ⟨⟩⟩, e2, _⟩ := drawWait_sat hb hl
 obtain ⟨⟨⟨u, v, ⟨⟩⟩, ⟨⟩⟩, e3, _⟩ := drawNew_sat hb hl
 dsimp only at h1 h2
 have hwl : WL.wl l := ⟨by rw [maxLen_eq]; omega, fun t ht => (h2 t ht).wl (by decide) (by decide)⟩
 obtain ⟨w, h, ok, hw, hh, p1, p2⟩ := play_both n me l hwl
 obtain ⟨k, ok2, q1, q2, _⟩ := wait_both x y z
 obtain ⟨w2, ok3, hw2, _, _, _, r1⟩ := impl_NewWatch_eq u v
 rw [e1, Option.bind_some]
 dsimp only
 rw [p1, p2, Option.bind_some, Option.bind_some, e2, Option.bind_some]
 dsimp only
 rw [q1, q2, Option.bind_some, Option.bind_some, e3, Option.bind_some]
 dsimp only
 rw [new_Watch, r1, Option.bind_some, Option.bind_some, if_pos (beq_self_eq_true _), sameWatch_self w hw, Option.bind_some]
 dsimp only
 rw [if_pos rfl, sameAll_self h hh, Option.bind_some]
 dsimp only
 rw [if_pos rfl, if_pos (beq_self_eq_true _), if_pos (beq_self_eq_true _), if_pos (beq_self_eq_true _), sameWatch_self w2 hw2, Option.bind_some]
theorem done_row {n : Int} {j : Nat} {R : List (List Int)} (hR : ∀ p, (∀ (i c : Nat), j + 1 ≤ i → ltO p (pl i c) = true) → doneB n p R = true) (hj : (j : Int) < n) : ∀ (cs : List Nat) (p : Option (List Int)), cs.Pairwise (· < ·) → (∀ c ∈ cs, c < 6) → (∀ c ∈ cs, ltO p (pl j c) = true) → (∀ (i c : Nat), j + 1 ≤ i → ltO p (pl i c) = true) → doneB n p (cs.map (pl j) ++ R) = true
 | [], p, _, _, _, h => hR p h
 | c :: cs, p, hs, h6, h1, h2 => by
  rw [List.pairwise_cons] at hs
  have hc := h6 c (by simp)
  show doneB n p (pl j c :: (cs.map (pl j) ++ R)) = true
  simp only [doneB, Bool.and_eq_true]
  refine ⟨⟨?_, h1 c (by simp)⟩, done_row hR hj cs (some (pl j c)) hs.2 (fun d hd => h6 d (by simp [hd])) (fun d hd => ?_) fun i d hi => ?_⟩
  ·show inst n (j : Int) ((c + 1 : Nat) : Int) = true
   simp only [inst, Bool.and_eq_true, inn_iff]
   omega
  ·have := hs.1 d hd
   simp [ltO, pl, pairLt]
   omega
  ·simp only [ltO, pl, pairLt, Bool.or_eq_true, Bool.and_eq_true, decide_eq_true_eq]
   omega
theorem done_opR (R : List (List T7)) {n : Int} : ∀ (u : List (List T7)) (j : Nat) (p : Option (List Int)), (j : Int) + (u.length : Int) ≤ n → (∀ (i c : Nat), j ≤ i → ltO p (pl i c) = true) → doneB n p (opR R j u) = true
 | [], j, p, _, _ => by simp [opR, doneB]
 | x :: u, j, p, hn, h => by
  rw [List.length_cons] at hn
  simp only [opR, opRow]
  refine done_row (fun q hq => done_opR R u (j + 1) q (by omega) hq) (by omega) _ p ?_ (fun c hc => ?_) (fun c _ => h j c (Nat.le_refl _)) fun i c hi => h i c (by omega)
  ·exact List.pairwise_lt_range.sublist List.filter_sublist
  ·exact List.mem_range.1 (List.mem_filter.1 hc).1
theorem openRes_small (t : T8) : smallO (openRes t).1 := by
 unfold openRes
 split
 ·rename_i h
  exact tickO_small (goodR_of h).2
 ·exact ⟨by simp, by simp⟩
theorem tickRes_facts (w : T0) (t : T8) (hw : WL.wl w) : WL.wl (tickRes w t).1 ∧ smallO (tickRes w t).2.1 ∧ ((tickRes w t).2.2.1 = true → watchOk (tickRes w t).1 = true ∧ (tickRes w t).1.2.2.1 = (openRes t).1 ∧ ∀ e ∈ (tickRes w t).2.1, e ∈ (openRes t).1) := by
 unfold tickRes openRes
 split
 ·rename_i h
  simp only [Bool.and_eq_true] at h
  obtain ⟨h1, h2, h3⟩ := h
  obtain ⟨e, hR⟩ := goodR_of h2
  have hG := watchOk_good hw h1
  have hs := tickO_small (t := t) hR
  have hn : t.1 = w.2.1 := by simpa using h3
  have et : t.1 = (t.2.1.length : Int) := congrArg Prod.fst e
  have hT := hG.tick hR
  rw [if_pos h2]
  refine ⟨⟨trivial, trivial, hs.wl, ⟨by rw [List.length_map]; exact hs.wl.1, fun _ _ => trivial⟩, trivial⟩, ⟨by dsimp only; have := List.length_filter_le (turnOf w.2.1 w.1 w.2.2.1 w.2.2.2.1) (opR t.2.1 0 t.2.1); have := hs.1; unfold tickO at this; omega, fun x hx => hs.2 x (List.mem_filter.1 hx).1⟩, fun _ => ⟨?_, rfl, fun x hx => (List.mem_filter.1 hx).1⟩⟩
  unfold watchOk
  dsimp only
  rw [hG.grp, inn_iff.2 (by have := hG.who; omega), done_opR t.2.1 t.2.1 0 none (by omega) (fun _ _ _ => rfl), List.length_map, beq_self_eq_true, Bool.true_and, Bool.true_and, Bool.true_and, Bool.true_and, List.all_eq_true]
  intro b hb
  exact inn_iff.2 (hT.val b hb)
 ·exact ⟨⟨trivial, trivial, ⟨by simp, by simp⟩, ⟨by simp, by simp⟩, trivial⟩, ⟨by simp, by simp⟩, fun h => by cases h⟩
theorem age_step {O : List (List Int)} {g : List Int → Int} {c : Int} (hg : ∀ e ∈ O, g e = c) (hc : c < 20) : ∀ e ∈ O, ageOf O (O.map g) e = c + 1 := by
 intro e he
 have h0 : idxI (fun x => same e x) O 0 ≥ 0 := by
  have := idxI_any (fun x => same e x) O 0 (by omega)
  rw [List.any_eq_true.2 ⟨e, he, same_self e⟩, decide_eq_true_eq] at this
  exact this
 have hlt := idxI_lt (fun x => same e x) O 0 (by omega) h0
 have hr : rd (O.map g) (idxI (fun x => same e x) O 0) 0 = c := by
  have h1 := rd_get (xs := O.map g) (d := 0) h0 (by rw [List.length_map]; omega)
  obtain ⟨y, hy, e2⟩ := List.mem_map.1 (List.mem_of_getElem? h1)
  rw [← e2, hg y hy]
 unfold ageOf
 rw [if_pos h0, hr, if_neg (by omega)]
theorem age_first (O : List (List Int)) : ∀ e ∈ O, ageOf [] [] e = 0 := by
 intro e _
 unfold ageOf
 rw [if_neg (by simp [idxI])]
theorem age_fourth (O : List (List Int)) : (∀ e ∈ O, ageOf O (O.map (ageOf O (O.map (ageOf [] [])))) e = 2) ∧ (∀ e ∈ O, ageOf O (O.map (ageOf O (O.map (ageOf O (O.map (ageOf [] [])))))) e = 3) := by
 have a1 := age_step (age_first O) (by decide)
 have a2 := age_step a1 (by decide)
 have a3 := age_step a2 (by decide)
 exact ⟨a2, a3⟩
theorem wait_three {n a b : Int} (hn : grp n = true) (ha : 0 ≤ a ∧ a < n) (hb : 0 ≤ b ∧ b < n) : (waitV n a b == 3) = (a == b) ∧ (Int.tmod 3 (waitV n a b) == 0) = (a == b) ∧ (Int.tmod 2 (waitV n a b) == 0) = false := by
 have hw := waitV_ok hn ha hb
 have h0 : 0 ≤ a - b + n := by omega
 have key : (waitV n a b = 3 ↔ a = b) := by
  unfold waitV
  rw [Int.tmod_eq_emod_of_nonneg h0]
  constructor
  ·intro h
   have h1 : (a - b + n) % n = 0 := by omega
   rw [grp_iff] at hn
   rcases hn with rfl | rfl <;> omega
  ·intro h
   subst h
   rw [show a - a + n = n by omega, Int.emod_self]; rfl
 refine ⟨?_, ?_, ?_⟩
 ·rw [Bool.eq_iff_iff, beq_iff_eq, beq_iff_eq]; exact key
 ·rw [Bool.eq_iff_iff, beq_iff_eq, beq_iff_eq, ← key, Int.tmod_eq_emod_of_nonneg (by omega)]
  constructor
  ·intro h
   refine Decidable.byContradiction fun h3 => ?_
   rw [Int.emod_eq_of_lt (by omega) (by omega)] at h
   omega
  ·intro h; rw [h]; rfl
 ·rw [beq_eq_false_iff_ne, Int.tmod_eq_emod_of_nonneg (by omega), Int.emod_eq_of_lt (by omega) (by omega)]
  decide
theorem any_filter_self {O : List (List Int)} {q : List Int → Bool} {e : List Int} (he : e ∈ O) : (O.filter q).any (same e) = q e := by
 rw [Bool.eq_iff_iff, List.any_eq_true]
 constructor
 ·rintro ⟨x, hx, hs⟩
  rw [same_iff] at hs
  subst hs
  exact (List.mem_filter.1 hx).2
 ·intro h
  exact ⟨e, List.mem_filter.2 ⟨he, h⟩, same_self e⟩
theorem turn_age {O : List (List Int)} {n a c : Int} {S : List (List Int)} {G : List Int} (h : ∀ e ∈ O, ageOf S G e = c) {e : List Int} (he : e ∈ O) : turnOf n a S G e = (decide (c > 0) && (Int.tmod c (waitV n a (rd e 0 0)) == 0)) := by
 unfold turnOf
 rw [h e he]
theorem play_four {t : T8} (hk : tableOk t = true) (hwl : WL.wl t) {a : Int} (ha : 0 ≤ a ∧ a < t.1) :
  ∃ (w : T0) (A B D : List (List Int)), S_impl_PlayWatch t.1 a [t, t, t, t] = some ((w, [A, B, [], D], true, ()), ()) ∧ smallO D ∧ ∀ e ∈ opR t.2.1 0 t.2.1, D.any (same e) = (a == rd e 0 0) := by
 obtain ⟨e, hR⟩ := goodR_of hk
 have et : t.1 = (t.2.1.length : Int) := congrArg Prod.fst e
 have hg : grp t.1 = true := by rw [et]; exact hR.grp
 have hs := tickO_small (t := t) hR
 have hf : ([t, t, t, t] : List T8).all (fitsT t.1) = true := by
  have : fitsT t.1 t = true := by unfold fitsT; rw [hk]; simp
  simp only [List.all_cons, this, List.all_nil, Bool.and_self]
 have hw4 : WL.wl ([t, t, t, t] : List T8) := ⟨by rw [maxLen_eq]; simp, fun x hx => by
  have : x = t := by simpa using hx
  rw [this]; exact hwl⟩
 rw [impl_PlayWatch_eq _ _ _ hw4]
 have hin : inn a 0 (t.1 - 1) = true := inn_iff.2 (by omega)
 obtain ⟨a2, a3⟩ := age_fourth (tickO t)
 have hmem : ∀ e ∈ tickO t, 0 ≤ rd e 0 0 ∧ rd e 0 0 < t.1 := by
  intro e he
  obtain ⟨i, c, hi, rfl⟩ := opR_mem (R := t.2.1) t.2.1 0 e he
  show 0 ≤ (i : Int) ∧ (i : Int) < t.1
  omega
 have hC : (tickO t).filter (turnOf t.1 a (tickO t) ((tickO t).map (ageOf (tickO t) ((tickO t).map (ageOf [] []))))) = [] := by
  rw [List.filter_eq_nil_iff]
  intro e he
  rw [turn_age a2 he, (wait_three hg ha (hmem e he)).2.2]
  simp
 refine ⟨(a, t.1, tickO t, (tickO t).map (ageOf (tickO t) ((tickO t).map (ageOf (tickO t) ((tickO t).map (ageOf (tickO t) ((tickO t).map (ageOf [] []))))))), ()), (tickO t).filter (turnOf t.1 a [] []), (tickO t).filter (turnOf t.1 a (tickO t) ((tickO t).map (ageOf [] []))), (tickO t).filter (turnOf t.1 a (tickO t) ((tickO t).map (ageOf (tickO t) ((tickO t).map (ageOf (tickO t) ((tickO t).map (ageOf [] []))))))), ?_, ⟨?_, fun x hx => hs.2 x (List.mem_filter.1 hx).1⟩, fun e he => ?_⟩
 ·unfold playRes playR
  rw [hg, hin, if_pos (by rfl), if_pos (by simp), if_pos hf]
  have h2 : (playW t.1 a [t, t, t, t] [] [] []).2 = [(tickO t).filter (turnOf t.1 a [] []), (tickO t).filter (turnOf t.1 a (tickO t) ((tickO t).map (ageOf [] []))), (tickO t).filter (turnOf t.1 a (tickO t) ((tickO t).map (ageOf (tickO t) ((tickO t).map (ageOf [] []))))), (tickO t).filter (turnOf t.1 a (tickO t) ((tickO t).map (ageOf (tickO t) ((tickO t).map (ageOf (tickO t) ((tickO t).map (ageOf [] [])))))))] := rfl
  rw [hC] at h2
  rw [h2]
  rfl
 ·exact Nat.le_trans (List.length_filter_le _ _) hs.1
 ·have he' : e ∈ tickO t := he
  rw [any_filter_self he', turn_age a3 he', (wait_three hg ha (hmem e he')).2.1]
  rfl
theorem law_FnWatched (a b : List Int) (ha : ∀ x ∈ a, 0 ≤ x ∧ x ≤ 255) (hb : ∀ x ∈ b, 0 ≤ x ∧ x ≤ 255) : p_laws_FnWatched 40 a b = some ((true, ()), ()) := by
 have hbig : S_laws_big a b = some ((true, ()), ()) ∨ (S_laws_big a b = some ((false, ()), ()) ∧ a.length ≤ maxLen ∧ b.length ≤ maxLen) := by
  have hmax := maxLen_eq
  unfold S_laws_big p_laws_big
  by_cases h1 : (a.length : Int) > 1048576
  ·left; rw [if_pos (decide_eq_true h1)]
  ·rw [if_neg (by simpa using h1), wrap_small (by omega) (by omega)]
   by_cases h2 : (b.length : Int) > 1048576 - (a.length : Int)
   ·left; rw [decide_eq_true h2]
   ·right; rw [decide_eq_false h2]; exact ⟨rfl, by omega, by omega⟩
 unfold p_laws_FnWatched
 rcases hbig with e0 | ⟨e0, hal, hbl⟩
 ·rw [e0]; rfl
 rw [e0, Option.bind_some, if_neg (by simp)]
 obtain ⟨⟨⟨w, t, ⟨⟩⟩, ⟨⟩⟩, e1, ht, hw⟩ := drawTick_sat ha hal
 dsimp only at ht hw
 have hwt := ht.wl (by decide) (by decide)
 have hww := hw.wl
 obtain ⟨x1, x2, x3⟩ := tickRes_facts w t hww
 have o1 := openRes_small t
 have o2 : (openRes t).2.1 = true → tableOk t = true ∧ (openRes t).1 = opR t.2.1 0 t.2.1 := by
  unfold openRes
  split
  ·rename_i h; exact fun _ => ⟨h, rfl⟩
  ·intro h; cases h
 rw [e1, Option.bind_some]
 dsimp only
 rw [impl_TickWatch_eq w t hww hwt, spec_TickWatch_eq w t hww hwt, Option.bind_some, Option.bind_some, impl_OpenIn_eq t hwt, spec_OpenIn_eq t hwt, Option.bind_some, Option.bind_some]
 generalize tickRes w t = X at x1 x2 x3 ⊢
 generalize openRes t = O at x3 o1 o2 ⊢
 obtain ⟨x, told, ok, ⟨⟩⟩ := X
 obtain ⟨o, one, ⟨⟩⟩ := O
 obtain ⟨xm, xn, xS, xG, ⟨⟩⟩ := x
 obtain ⟨wm, wn, wS, wG, ⟨⟩⟩ := w
 obtain ⟨tn, tR, ⟨⟩⟩ := t
 dsimp only at x1 x2 x3 o1 o2 ⊢
 rw [if_neg (by simp), sameWatch_self _ x1, Option.bind_some]
 dsimp only
 rw [if_neg (by simp), sameLists_self _ x2.wl, Option.bind_some]
 dsimp only
 rw [if_neg (by simp), if_neg (by simp), sameLists_self _ o1.wl, Option.bind_some]
 dsimp only
 rw [if_neg (by simp), impl_GoodWatch_eq _ hww, spec_GoodWatch_eq _ hww, Option.bind_some, Option.bind_some]
 dsimp only
 rw [if_neg (by simp)]
 refine cutN_eq (fun d => d.1.1 = b ∧ d.1.2.1 = one ∧ d.2.2.2.1 = tR ∧ d.2.2.2.2.2.1.1 = tn ∧ d.2.2.2.2.2.2.2.2.2.2.2.2.2.2.1 = o) (fun d hd => ?_) fun go hgo => ?_
 ·obtain ⟨⟨b', one', ⟨⟩⟩, ⟨d1, d2, R', d3, ⟨n', ⟨⟩⟩, d4, d5, d6, d7, d8, d9, d10, d11, o', D⟩⟩ := d
  dsimp only at hd
  obtain ⟨rfl, rfl, rfl, rfl, rfl⟩ := hd
  dsimp only
  refine cutN_eq (fun d => d.1.1 = b') (fun d hd => ?_) fun go2 hgo2 => ?_
  ·rw [hd]
   exact watch_tail hb hbl
  by_cases hone : one' = true
  ·rw [if_pos hone]
   by_cases hpos : (o'.length : Int) > 0
   ·rw [if_pos (decide_eq_true hpos)]
    obtain ⟨hk, ho⟩ := o2 hone
    obtain ⟨e, hR⟩ := goodR_of hk
    have et : n' = (R'.length : Int) := congrArg Prod.fst e
    have h5 : R'.length ≤ 5 := hR.five
    have hg : grp n' = true := by rw [et]; exact hR.grp
    have hl0 : (0 : Int) < (o'.length : Int) := hpos
    have hmem : rd o' 0 [] ∈ o' := List.mem_of_getElem? (rd_get (d := []) (by decide) hl0)
    have hr2 : (rd o' 0 []).length = 2 := o1.2 _ hmem
    have hrep : 0 ≤ rd (rd o' 0 []) 0 0 ∧ rd (rd o' 0 []) 0 0 < n' := by
     rw [ho] at hmem
     obtain ⟨i, c, hi, e3⟩ := opR_mem (R := R') R' 0 _ hmem
     rw [ho, e3]
     show 0 ≤ (i : Int) ∧ (i : Int) < n'
     omega
    have hl0' : (0 : Int) < ((rd o' 0 []).length : Int) := by omega
    refine loopN_upto R'.length (fun i (s : Unit) => ((b', (i : Int), ()), (d1, d2, R', (d3.1, d3.2.1, ()), (n', ()), d4, d5, d6, (d7.1, d7.2.1, ()), d8, d9, d10, (d11.1, d11.2.1, ()), o', D.1, [(n', R', ()), (n', R', ()), (n', R', ()), (n', R', ())], ()))) (fun _ _ => ((true, ()), ())) (fun _ _ => True) () rfl rfl trivial (by omega) fun rec i s hi _ hrec => ?_
    dsimp only
    by_cases hlt : (i : Int) < n'
    ·rw [if_pos (decide_eq_true hlt)]
     obtain ⟨w4, A, B, Dd, p1, p2, p3⟩ := play_four (t := (n', R', ())) hk hwt (a := (i : Int)) ⟨by omega, hlt⟩
     obtain ⟨k, okk, q1, _, q3⟩ := wait_both n' (i : Int) (rd (rd o' 0 []) 0 0)
     obtain ⟨rfl, rfl⟩ := q3 hg ⟨by omega, hlt⟩ hrep
     obtain ⟨z1, z2, z3⟩ := wait_three hg (a := (i : Int)) ⟨by omega, hlt⟩ hrep
     have p4 := p3 (rd o' 0 []) (by rw [← ho]; exact hmem)
     rw [p1, Option.bind_some]
     dsimp only
     rw [q1, Option.bind_some]
     dsimp only
     rw [decide_eq_true hl0, decide_eq_true hl0', z1]
     have hc := contains_eq Dd (rd o' 0 []) p2.wl (by rw [hr2, maxLen_eq]; decide)
     rw [p4] at hc
     have e3 : rd [A, B, [], Dd] 3 [] = Dd := rfl
     have e2 : rd [A, B, ([] : List (List Int)), Dd] 2 [] = [] := rfl
     rw [e3, e2, hc, Option.bind_some]
     dsimp only
     have hlen : (([A, B, [], Dd] : List (List (List Int))).length : Int) = 4 := rfl
     simp only [hlen, bne_self_eq_false, Bool.not_true, Bool.false_eq_true, if_false, if_true, decide_true]
     have f0 : decide ((0 : Int) ≤ 0) = true := rfl
     have f1 : decide ((0 : Int) ≤ 3) = true := rfl
     have f2 : decide ((3 : Int) < 4) = true := rfl
     have f3 : decide ((0 : Int) ≤ 2) = true := rfl
     have f4 : decide ((2 : Int) < 4) = true := rfl
     have f5 : decide ((([] : List (List Int)).length : Int) > 0) = false := rfl
     simp only [f0, f1, f2, f3, f4, f5, if_true, Bool.false_eq_true, if_false]
     rw [wrap_small (by omega) (by omega)]
     exact hrec (by omega) () trivial
    ·rw [if_neg (by simpa using hlt)]
     exact hgo2 _ rfl
   ·rw [if_neg (by simpa using hpos)]
    exact hgo2 _ rfl
  ·rw [if_neg hone]
   exact hgo2 _ rfl
 ·by_cases hok : ok = true
  ·obtain ⟨g1, g2, g3⟩ := x3 hok
   rw [if_pos hok, show S_impl_GoodWatch (xm, xn, xS, xG, ()) = some ((watchOk (xm, xn, xS, xG, ()), ()), ()) from impl_GoodWatch_eq _ x1, Option.bind_some]
   dsimp only
   rw [g1, if_neg (by simp)]
   subst g2
   rw [sameLists_self _ o1.wl, Option.bind_some]
   dsimp only
   rw [if_neg (by simp)]
   refine loopN_over told x2.wl.1 (fun i (s : Unit) => ((b, one, (told.length : Int), (i : Int), ()), (wS, wG, tR, (wm, wn, ()), (tn, ()), xS, xG, told, (xm, xn, ()), xS, xG, told, (xm, xn, ()), xS, xS, ()))) (fun _ _ _ => ((true, ()), ())) (fun _ _ _ => True) () rfl rfl trivial (by have := x2.1; omega) (fun rec s h => ?_) (fun rec i e u s hat h hrec => ?_)
   ·dsimp only
    rw [if_neg (by simp)]
    exact hgo _ ⟨rfl, rfl, rfl, rfl, rfl⟩
   ·dsimp only
    simp only [hat.lt, hat.nn, hat.wrap, hat.rd, decide_true, if_true]
    rw [contains_eq xS e o1.wl (by rw [x2.2 e hat.mem, maxLen_eq]; decide), Option.bind_some]
    dsimp only
    rw [List.any_eq_true.2 ⟨e, g3 e hat.mem, same_self e⟩, if_neg (by simp)]
    exact hrec () trivial
  ·rw [if_neg hok]
   exact hgo _ ⟨rfl, rfl, rfl, rfl, rfl⟩
theorem law_FnWatchedW (a b : List Int) (ha : ∀ x ∈ a, (decide (IntKind.u8.min ≤ x) && decide (x ≤ IntKind.u8.max)) = true) (hb : ∀ x ∈ b, (decide (IntKind.u8.min ≤ x) && decide (x ≤ IntKind.u8.max)) = true) : p_laws_FnWatched 40 a b = some ((true, ()), ()) := law_FnWatched a b (wf_bytes ha) (wf_bytes hb)
end Go.AM.P
