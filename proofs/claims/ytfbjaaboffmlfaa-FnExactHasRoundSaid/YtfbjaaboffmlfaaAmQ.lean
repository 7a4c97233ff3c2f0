/- Lemmas on what functions do to data. No condition. -/
import Derived.Test.YtfbjaaboffmlfaaAmP
set_option linter.unusedVariables false
set_option linter.unusedSimpArgs false
namespace Go.AM.P
open Go.AM

/-- lists no longer than lists are -/
class WL (α : Type) where
  wl : α → Prop
instance : WL Int := ⟨fun _ => True⟩
instance : WL Bool := ⟨fun _ => True⟩
instance : WL Unit := ⟨fun _ => True⟩
instance : WL ByteArray := ⟨fun s => s.size ≤ maxLen⟩
instance {α β : Type} [WL α] [WL β] : WL (α × β) := ⟨fun x => WL.wl x.1 ∧ WL.wl x.2⟩
instance {α : Type} [WL α] : WL (List α) := ⟨fun l => l.length ≤ maxLen ∧ ∀ x ∈ l, WL.wl x⟩
theorem wl_mem {α : Type} [WL α] {l : List α} (h : WL.wl l) {x : α} (hx : x ∈ l) : WL.wl x := h.2 x hx
class Cnt (α : Type) where
  cnt : α → Nat
instance : Cnt Int := ⟨fun _ => 0⟩
instance : Cnt Bool := ⟨fun _ => 0⟩
instance : Cnt Unit := ⟨fun _ => 0⟩
instance : Cnt ByteArray := ⟨fun s => s.size⟩
instance {α β : Type} [Cnt α] [Cnt β] : Cnt (α × β) := ⟨fun x => Cnt.cnt x.1 + Cnt.cnt x.2⟩
def sumCnt {α : Type} (f : α → Nat) : List α → Nat
  | [] => 0
  | x :: r => f x + sumCnt f r
instance {α : Type} [Cnt α] : Cnt (List α) := ⟨fun l => l.length + sumCnt Cnt.cnt l⟩
theorem le_sumCnt {α : Type} (f : α → Nat) {l : List α} {x : α} (h : x ∈ l) : f x ≤ sumCnt f l := by
  induction l with
  | nil => cases h
  | cons y r ih =>
    simp only [sumCnt]
    rcases List.mem_cons.1 h with rfl | h
    · omega
    · have := ih h; omega
theorem cnt_list {α : Type} [Cnt α] (l : List α) : Cnt.cnt l = l.length + sumCnt Cnt.cnt l := rfl
theorem sumCnt_int (l : List Int) : sumCnt Cnt.cnt l = 0 := by
  induction l with
  | nil => rfl
  | cons x r ih => simp only [sumCnt, ih]; rfl
theorem cnt_ints (l : List Int) : Cnt.cnt l = l.length := by rw [cnt_list, sumCnt_int, Nat.add_zero]
/-- what the laws' counting says -/
def szV (n : Nat) (k : Int) : Int := if (n : Int) ≤ k then k - n else -1
def szRes (n : Nat) (k : Int) : Option ((Int × Unit) × Unit) := some ((szV n k, ()), ())
theorem szV_pos {n : Nat} {k : Int} (h : (n : Int) ≤ k) : szV n k = k - n := if_pos h
theorem szV_neg {n : Nat} {k : Int} (h : ¬ (n : Int) ≤ k) : szV n k = -1 := if_neg h
def SzOk {α : Type} [Cnt α] [WL α] (f : α → Int → Option ((Int × Unit) × Unit)) : Prop :=
  ∀ (x : α) (k : Int), 0 ≤ k → k ≤ 1048576 → WL.wl x → f x k = szRes (Cnt.cnt x) k
theorem sz_head {n : Nat} {k : Int} (hn : n ≤ maxLen) (h0 : 0 ≤ k) (h1 : k ≤ 1048576) : IntKind.i64.wrap (k - (n : Int)) = k - n := by
  rw [maxLen_eq] at hn
  exact wrap_small (by omega) (by omega)
theorem sz_list {α : Type} [Cnt α] [WL α] {f : α → Int → Option ((Int × Unit) × Unit)} (hf : SzOk f) (z : α) (l : List α) (k : Int) (h0 : 0 ≤ k) (h1 : k ≤ 1048576) (hl : WL.wl l) {N : Nat} (hN : l.length < N) :
    (if (decide ((IntKind.i64.wrap (k - (l.length : Int))) < (0 : Int))) then (some (((-1 : Int), ()), ())) else (loopN N (fun rec1 (d2 : (List α × Int × Int × Unit) × (Unit)) => (if (decide (d2.1.2.2.1 < (d2.1.1.length : Int))) then (if (decide (0 ≤ d2.1.2.2.1)) then (if (decide (d2.1.2.2.1 < d2.1.1.length)) then ((f (rd d2.1.1 d2.1.2.2.1 z) d2.1.2.1).bind fun y3 => (if (decide (y3.1.1 < (0 : Int))) then (some (((-1 : Int), ()), ())) else (rec1 ((d2.1.1, y3.1.1, (IntKind.i64.wrap (d2.1.2.2.1 + (1 : Int))), ()), (()))))) else none) else none) else (some ((d2.1.2.1, ()), ())))) ((l, (IntKind.i64.wrap (k - (l.length : Int))), (0 : Int), ()), (()))))
    = szRes (Cnt.cnt l) k := by
  rw [sz_head hl.1 h0 h1]
  by_cases hk : k - (l.length : Int) < 0
  · simp only [hk, decide_true, if_true, szRes, cnt_list]
    rw [szV_neg (by omega)]
  simp only [hk, decide_false, Bool.false_eq_true, if_false]
  refine loopN_over l hl.1 (fun i (s : Int) => ((l, s, (i : Int), ()), ())) (fun i t s => ((szV (sumCnt Cnt.cnt t) s, ()), ())) (fun i t s => 0 ≤ s ∧ s ≤ 1048576)
    (k - l.length) rfl ?_ ⟨by omega, by omega⟩ hN (fun rec s h => ?_) (fun rec i b t s hat h hrec => ?_)
  · rw [cnt_list]
    simp only [Prod.mk.injEq, and_true]
    unfold szV
    split <;> split <;> omega
  · dsimp only
    simp only [lenInt_lt_irrefl, decide_false, Bool.false_eq_true, if_false, sumCnt]
    simp [szV, h.1]
  · dsimp only
    simp only [hat.lt, hat.nn, hat.wrap, hat.rd, decide_true, if_true]
    rw [hf b s h.1 h.2 (wl_mem hl hat.mem)]
    simp only [szRes, Option.bind_some, sumCnt]
    by_cases hb : (Cnt.cnt b : Int) ≤ s
    · rw [szV_pos hb, decide_eq_false (by omega)]
      simp only [Bool.false_eq_true, if_false]
      refine (hrec _ ⟨by omega, by omega⟩).trans ?_
      simp only [Option.some.injEq, Prod.mk.injEq, and_true]
      unfold szV
      split <;> split <;> omega
    · rw [szV_neg hb, szV_neg (by omega)]
      simp
theorem sz_IntS : SzOk S_laws_szIntS := fun x k h0 h1 hl => by
  unfold S_laws_szIntS p_laws_szIntS
  rw [sz_head hl.1 h0 h1, szRes, cnt_ints]
  by_cases hk : k - (x.length : Int) < 0
  · simp only [hk, decide_true, if_true]
    rw [szV_neg (by omega)]
  · simp only [hk, decide_false, Bool.false_eq_true, if_false]
    rw [szV_pos (by omega)]
theorem sz_IntSS : SzOk S_laws_szIntSS := fun x k h0 h1 hl => lim_eq (x.length + 1) fun N hN => sz_list sz_IntS [] x k h0 h1 hl hN
/-- of no more than was counted -/
def ToOk {α : Type} [Cnt α] (f : α → Option ((α × Unit) × Unit)) : Prop := ∀ x : α, Cnt.cnt x ≤ 1048576 → f x = some ((x, ()), ())
theorem set_rep {β : Type} (xs : List β) (n : Nat) (z c : β) (i : Nat) (h : xs.length = i) : (xs ++ List.replicate (n + 1) z).set i c = (xs ++ [c]) ++ List.replicate n z := by
  subst h
  rw [List.replicate_succ]
  simp
theorem to_list {α : Type} [Cnt α] {f : α → Option ((α × Unit) × Unit)} (hf : ToOk f) (z : α) (w : Nat) (hw : w ≤ 1000) (l : List α) (hl : Cnt.cnt l ≤ 1048576) {N : Nat} (hN : l.length < N) :
    (if (decide ((0 : Int) ≤ (l.length : Int))) then (if ((l.length : Int) == (l.length : Int)) then (if (decide ((l.length : Int) * w ≤ 140737488355328)) then (loopN N (fun rec1 (d2 : (List α × Int × Unit) × (List α × List α × Unit)) => (if (decide (d2.1.2.1 < (d2.1.1.length : Int))) then (if (decide (0 ≤ d2.1.2.1)) then (if (decide (d2.1.2.1 < d2.1.1.length)) then ((f (rd d2.1.1 d2.1.2.1 z)).bind fun y3 => (if (decide (0 ≤ d2.1.2.1)) then (if (decide (d2.1.2.1 < d2.2.2.1.length)) then (rec1 ((d2.1.1, (IntKind.i64.wrap (d2.1.2.1 + (1 : Int))), ()), (d2.2.1, (d2.2.2.1.set d2.1.2.1.toNat y3.1.1), ()))) else none) else none)) else none) else none) else (some ((d2.2.2.1, ()), ())))) ((l, (0 : Int), ()), (([] : List α), (List.replicate (l.length : Int).toNat z), ()))) else none) else none) else none)
    = some ((l, ()), ()) := by
  rw [cnt_list] at hl
  have h1 : (0 : Int) ≤ (l.length : Int) := by omega
  have h2 : (l.length : Int) * w ≤ 140737488355328 := by
    have : (l.length : Int) * w ≤ 1048576 * 1000 := Int.mul_le_mul (by omega) (by omega) (by omega) (by omega)
    omega
  simp only [h1, h2, decide_true, if_true, beq_self_eq_true, Int.toNat_natCast]
  refine loopN_over l (by rw [maxLen_eq]; omega) (fun i (s : List α) => ((l, (i : Int), ()), ([], s ++ List.replicate (l.length - i) z, ()))) (fun i t s => ((s ++ t, ()), ())) (fun i t s => s.length = i)
    [] rfl rfl rfl hN (fun rec s h => ?_) (fun rec i b t s hat h hrec => ?_)
  · dsimp only
    simp [h]
  · have hlt := hat.ltn
    obtain ⟨m, hm⟩ : ∃ m, l.length - i = m + 1 := ⟨l.length - i - 1, by omega⟩
    dsimp only
    rw [hm]
    have hb : Cnt.cnt b ≤ 1048576 := by have := le_sumCnt Cnt.cnt hat.mem; omega
    have h5 : (i : Int) < ((s ++ List.replicate (m + 1) z).length : Int) := by simp [h]; omega
    simp only [hat.lt, hat.nn, hat.wrap, hat.rd, decide_true, if_true, hf b hb, Option.bind_some, h5, Int.toNat_natCast, set_rep s m z b i h]
    have := hrec (s ++ [b]) (by simp [h])
    rw [show l.length - (i + 1) = m by omega] at this
    exact this.trans (by simp)
theorem to_list0 {α : Type} [Cnt α] (z : α) (w : Nat) (hw : w ≤ 1000) (l : List α) (hl : Cnt.cnt l ≤ 1048576) {N : Nat} (hN : l.length < N) :
    (if (decide ((0 : Int) ≤ (l.length : Int))) then (if ((l.length : Int) == (l.length : Int)) then (if (decide ((l.length : Int) * w ≤ 140737488355328)) then (loopN N (fun rec1 (d2 : (List α × Int × Unit) × (List α × List α × Unit)) => (if (decide (d2.1.2.1 < (d2.1.1.length : Int))) then (if (decide (0 ≤ d2.1.2.1)) then (if (decide (d2.1.2.1 < d2.1.1.length)) then (if (decide (0 ≤ d2.1.2.1)) then (if (decide (d2.1.2.1 < d2.2.2.1.length)) then (rec1 ((d2.1.1, (IntKind.i64.wrap (d2.1.2.1 + (1 : Int))), ()), (d2.2.1, (d2.2.2.1.set d2.1.2.1.toNat (rd d2.1.1 d2.1.2.1 z)), ()))) else none) else none) else none) else none) else (some ((d2.2.2.1, ()), ())))) ((l, (0 : Int), ()), (([] : List α), (List.replicate (l.length : Int).toNat z), ()))) else none) else none) else none)
    = some ((l, ()), ()) := to_list (f := fun x => some ((x, ()), ())) (fun x _ => rfl) z w hw l hl hN
theorem to_IntS : ToOk S_laws_toIntS := fun x h => lim_eq (x.length + 1) fun N hN => to_list0 0 8 (by omega) x h hN
theorem to_IntSS : ToOk S_laws_toIntSS := fun x h => lim_eq (x.length + 1) fun N hN => to_list to_IntS [] 24 (by omega) x h hN
open Classical in
/-- are they the same? -/
noncomputable def same {α : Type} (a b : α) : Bool := decide (a = b)
theorem same_iff {α : Type} {a b : α} : same a b = true ↔ a = b := by simp [same]
theorem same_self {α : Type} (a : α) : same a a = true := same_iff.2 rfl
theorem same_cons {α : Type} (a b : α) (s t : List α) : same (a :: s) (b :: t) = (same a b && same s t) := by
  rw [Bool.eq_iff_iff]; simp [same_iff]
theorem same_bne (a b : Int) : (a != b) = !same a b := by
  by_cases h : a = b
  · subst h; simp [same_self]
  · have : same a b = false := by rw [Bool.eq_false_iff]; intro h2; exact h (same_iff.1 h2)
    simp [this, h]
def EqOk {α : Type} [WL α] (f : α → α → Option ((Bool × Unit) × Unit)) : Prop := ∀ a b : α, WL.wl a → WL.wl b → f a b = some ((same a b, ()), ())
theorem eq_list {α : Type} [WL α] {f : α → α → Option ((Bool × Unit) × Unit)} (hf : EqOk f) (z : α) (l m : List α) (hl : WL.wl l) (hm : WL.wl m) {N : Nat} (hN : l.length < N) :
    (if ((l.length : Int) != (m.length : Int)) then (some ((false, ()), ())) else (loopN N (fun rec1 (d2 : (List α × List α × Int × Unit) × (Unit)) => (if (decide (d2.1.2.2.1 < (d2.1.1.length : Int))) then (if (decide (0 ≤ d2.1.2.2.1)) then (if (decide (d2.1.2.2.1 < d2.1.1.length)) then (if (decide (0 ≤ d2.1.2.2.1)) then (if (decide (d2.1.2.2.1 < d2.1.2.1.length)) then ((f (rd d2.1.1 d2.1.2.2.1 z) (rd d2.1.2.1 d2.1.2.2.1 z)).bind fun y3 => (if (!y3.1.1) then (some ((false, ()), ())) else (rec1 ((d2.1.1, d2.1.2.1, (IntKind.i64.wrap (d2.1.2.2.1 + (1 : Int))), ()), (()))))) else none) else none) else none) else none) else (some ((true, ()), ())))) ((l, m, (0 : Int), ()), (()))))
      = some ((same l m, ()), ()) := by
  by_cases hlen : l.length = m.length
  · have h1 : ((l.length : Int) != (m.length : Int)) = false := by simp [hlen]
    rw [h1]
    simp only [Bool.false_eq_true, if_false]
    refine loopN_over l hl.1 (fun i (s : Unit) => ((l, m, (i : Int), ()), ())) (fun i t s => ((same t (m.drop i), ()), ())) (fun i t s => True)
      () rfl (by simp) trivial hN (fun rec s h => ?_) (fun rec i b t s hat h hrec => ?_)
    · dsimp only
      simp [hlen, same_self]
    · have hlt := hat.ltn
      have hd : m.drop i = m[i]'(by omega) :: m.drop (i + 1) := List.drop_eq_getElem_cons (by omega)
      have hb := At.of hm.1 hd
      have hr := hf b (m[i]'(by omega)) (wl_mem hl hat.mem) (wl_mem hm hb.mem)
      dsimp only
      simp only [hat.lt, hb.lt, hat.nn, hat.wrap, hat.rd, hb.rd, decide_true, if_true, hr, Option.bind_some, hd, same_cons]
      cases same b (m[i]'(by omega)) with
      | false => simp
      | true =>
        simp only [Bool.not_true, Bool.false_eq_true, if_false, Bool.true_and]
        exact hrec () trivial
  · have h1 : ((l.length : Int) != (m.length : Int)) = true := by simp; omega
    rw [h1]
    have : same l m = false := by rw [Bool.eq_false_iff]; intro h; rw [same_iff] at h; subst h; exact hlen rfl
    simp [this]
theorem eq_IntS : EqOk S_laws_eqIntS := fun a b ha hb => lim_eq (a.length + 1) fun N hN => by
  have h := eq_list (f := fun a b : Int => some ((same a b, ()), ())) (fun a b _ _ => rfl) 0 a b ha hb (N := N) hN
  unfold p_laws_eqIntS
  simp only [same_bne (rd _ _ _)]
  exact h
theorem eq_IntSS : EqOk S_laws_eqIntSS := fun a b ha hb => lim_eq (a.length + 1) fun N hN => eq_list eq_IntS [] a b ha hb hN
theorem sz_over {n : Nat} {k : Int} (h0 : 0 ≤ k) {G : (Int × Unit) × Unit → Option ((Bool × Unit) × Unit)} (hneg : G ((-1, ()), ()) = some ((true, ()), ())) (hK : (n : Int) ≤ k → ∀ r : Int, decide (r < 0) = false → G ((r, ()), ()) = some ((true, ()), ())) :
    (szRes n k).bind G = some ((true, ()), ()) := by
  simp only [szRes, Option.bind_some]
  by_cases hn : (n : Int) ≤ k
  · rw [szV_pos hn]
    exact hK hn _ (decide_eq_false (by omega))
  · rw [szV_neg hn]; exact hneg
/-- a number within bounds -/
def inn (n lo hi : Int) : Bool := decide (lo ≤ n) && decide (n ≤ hi)
theorem inn_iff {n lo hi : Int} : inn n lo hi = true ↔ lo ≤ n ∧ n ≤ hi := by simp [inn]
theorem spec_l1In_eq (a b c : Int) : S_spec_l1In a b c = some ((inn a b c, ()), ()) := by
  unfold S_spec_l1In p_spec_l1In inn
  by_cases h : b ≤ a <;> simp [h]
theorem impl_within_eq (a b c : Int) : S_impl_within a b c = some ((inn a b c, ()), ()) := by
  unfold S_impl_within p_impl_within inn
  by_cases h : b ≤ a <;> simp [h]
/-- the first place of one that meets a test, -1 where none does -/
def idxI {β : Type} (q : β → Bool) : List β → Int → Int
  | [], _ => -1
  | b :: t, i => if q b then i else idxI q t (i + 1)
theorem idxI_any {β : Type} (q : β → Bool) : ∀ (l : List β) (i : Int), 0 ≤ i → decide (idxI q l i ≥ 0) = l.any q
  | [], i, h => by simp [idxI]
  | b :: t, i, h => by
    cases hb : q b with
    | true => simp [idxI, hb, h]
    | false => simp only [idxI, hb, Bool.false_eq_true, if_false, List.any_cons, Bool.false_or]; exact idxI_any q t (i + 1) (by omega)
theorem index_gen {β : Type} (z : β) (l : List β) (hl : l.length ≤ maxLen) (p : (β × Unit) → Option Bool) (q : β → Bool) (hp : ∀ x ∈ l, p (x, ()) = some (q x)) {N : Nat} (hN : l.length < N) :
    (loopN N (fun rec1 (d2 : (List β × ((β × Unit) → Option Bool) × Int × Int × Unit) × (Unit)) => (if (decide (d2.1.2.2.2.1 < d2.1.2.2.1)) then (if (decide (0 ≤ d2.1.2.2.2.1)) then (if (decide (d2.1.2.2.2.1 < d2.1.1.length)) then ((d2.1.2.1 ((rd d2.1.1 d2.1.2.2.2.1 z), ())).bind fun y3 => (if y3 then (some ((d2.1.2.2.2.1, ()), ())) else (rec1 ((d2.1.1, d2.1.2.1, d2.1.2.2.1, (IntKind.i64.wrap (d2.1.2.2.2.1 + (1 : Int))), ()), (()))))) else none) else none) else (some (((-1 : Int), ()), ())))) ((l, p, (l.length : Int), (0 : Int), ()), (())))
      = some ((idxI q l 0, ()), ()) := by
  refine loopN_over l hl (fun i (s : Unit) => ((l, p, (l.length : Int), (i : Int), ()), ())) (fun i t s => ((idxI q t (i : Int), ()), ())) (fun i t s => True)
    () rfl rfl trivial hN (fun rec s h => ?_) (fun rec i b t s hat h hrec => ?_)
  · dsimp only
    simp [idxI]
  · dsimp only
    simp only [hat.lt, hat.nn, hat.wrap, hat.rd, decide_true, if_true, hp b hat.mem, Option.bind_some, idxI]
    cases q b with
    | true => simp
    | false => simp only [Bool.false_eq_true, if_false]; exact hrec () trivial
theorem IndexFunc_LLint_eq {l : List (List Int)} {p : (List Int × Unit) → Option Bool} (q : List Int → Bool) (hl : l.length ≤ maxLen) (hp : ∀ x ∈ l, p (x, ()) = some (q x)) : S_IndexFunc_LLint_Lint l p = some ((idxI q l 0, ()), ()) :=
  lim_eq (l.length + 1) fun N hN => index_gen [] l hl p q hp hN
theorem ContainsFunc_LLint_eq {l : List (List Int)} {p : (List Int × Unit) → Option Bool} (q : List Int → Bool) (hl : l.length ≤ maxLen) (hp : ∀ x ∈ l, p (x, ()) = some (q x)) : S_ContainsFunc_LLint_Lint l p = some ((l.any q, ()), ()) := by
  unfold S_ContainsFunc_LLint_Lint p_ContainsFunc_LLint_Lint
  rw [IndexFunc_LLint_eq q hl hp]
  simp only [Option.bind_some, idxI_any q l 0 (Int.le_refl 0)]
theorem not_any_not {β : Type} (l : List β) (q : β → Bool) : (!l.any fun x => !q x) = l.all q := by
  induction l with
  | nil => rfl
  | cons b t ih => rw [List.any_cons, List.all_cons, Bool.not_or, Bool.not_not, ih]
theorem two_of {x : List Int} : ((x.length : Int) != 2) = false → ∃ a b, x = [a, b] := by
  intro h
  simp only [bne_eq_false_iff_eq] at h
  match x, h with
  | [a, b], _ => exact ⟨a, b, rfl⟩
  | [], h => simp at h
  | [_], h => simp at h
  | _ :: _ :: _ :: _, h => simp at h; omega
theorem spec_l1All_eq (l : List Int) (lo hi : Int) (hl : l.length ≤ maxLen) : S_spec_l1All l lo hi = some ((l.all (fun b => inn b lo hi), ()), ()) := by
  unfold S_spec_l1All
  refine lim_eq (l.length + 1) fun N hN => ?_
  unfold p_spec_l1All
  refine loopN_over l hl (fun i (s : Unit) => ((lo, hi, l, (l.length : Int), (i : Int), ()), ())) (fun i t s => ((t.all (fun b => inn b lo hi), ()), ())) (fun i t s => True)
    () rfl rfl trivial hN (fun rec s h => ?_) (fun rec i b t s hat h hrec => ?_)
  · dsimp only
    simp
  · dsimp only
    simp only [hat.lt, hat.nn, hat.wrap, hat.rd, decide_true, if_true, spec_l1In_eq, Option.bind_some, List.all_cons]
    cases hb : inn b lo hi with
    | false => simp
    | true => simp only [Bool.not_true, Bool.false_eq_true, if_false, Bool.true_and]; exact hrec () trivial
inductive Rch (E : Nat → Nat → Prop) : Nat → Nat → Prop where
  | one {a b : Nat} (h : E a b) : Rch E a b
  | more {a b c : Nat} (h : Rch E a b) (k : E b c) : Rch E a c
theorem Rch.trans {E : Nat → Nat → Prop} {a b c : Nat} (h : Rch E a b) (k : Rch E b c) : Rch E a c := by
  induction k with
  | one k => exact .more h k
  | more _ k ih => exact .more ih k
theorem Rch.sub {E F : Nat → Nat → Prop} (hEF : ∀ a b, E a b → Rch F a b) {a b : Nat} (h : Rch E a b) : Rch F a b := by
  induction h with
  | one h => exact hEF _ _ h
  | more _ k ih => exact ih.trans (hEF _ _ k)
theorem Rch.last {E : Nat → Nat → Prop} {a b : Nat} (h : Rch E a b) : ∃ c, E c b ∧ (c = a ∨ Rch E a c) := by
  cases h with
  | one h => exact ⟨a, h, .inl rfl⟩
  | more h k => exact ⟨_, k, .inr h⟩
/-- a way whose inner points are below k -/
def Pth (E : Nat → Nat → Prop) : Nat → Nat → Nat → Prop
  | 0, i, j => E i j
  | k + 1, i, j => Pth E k i j ∨ (Pth E k i k ∧ Pth E k k j)
theorem Pth.of {E : Nat → Nat → Prop} {i j : Nat} (h : E i j) : ∀ k, Pth E k i j
  | 0 => h
  | k + 1 => .inl (Pth.of h k)
theorem Pth.trans {E : Nat → Nat → Prop} : ∀ {k m i j : Nat}, m < k → Pth E k i m → Pth E k m j → Pth E k i j
  | 0, m, _, _, h, _, _ => by omega
  | k + 1, m, i, j, h, h1, h2 => by
    rcases Nat.lt_or_ge m k with hm | hm
    · rcases h1 with h1 | ⟨h1, h1'⟩ <;> rcases h2 with h2 | ⟨h2, h2'⟩
      · exact .inl (Pth.trans hm h1 h2)
      · exact .inr ⟨Pth.trans hm h1 h2, h2'⟩
      · exact .inr ⟨h1, Pth.trans hm h1' h2⟩
      · exact .inr ⟨h1, h2'⟩
    · obtain rfl : m = k := by omega
      have a1 : Pth E m i m := by rcases h1 with h1 | h1; exact h1; exact h1.1
      have a2 : Pth E m m j := by rcases h2 with h2 | h2; exact h2; exact h2.2
      exact .inr ⟨a1, a2⟩
theorem Rch.pth {E : Nat → Nat → Prop} {n : Nat} (hE : ∀ a b, E a b → a < n ∧ b < n) {a b : Nat} (h : Rch E a b) : Pth E n a b := by
  induction h with
  | one h => exact Pth.of h n
  | more _ k ih => exact Pth.trans (hE _ _ k).1 ih (Pth.of k n)
/-- where each point has one ahead of it, something leads round -/
theorem closed_round : ∀ (n : Nat) (E : Nat → Nat → Prop) (L : Nat → Prop), (∀ k, L k → k < n) → (∀ k, L k → ∃ j, E j k ∧ L j) → (∃ k, L k) → ∃ i, Rch E i i
  | 0, E, L, hb, _, ⟨k, hk⟩ => by have := hb k hk; omega
  | n + 1, E, L, hb, hc, ⟨k0, hk0⟩ => by
    by_cases hn : L n
    · by_cases hs : E n n
      · exact ⟨n, .one hs⟩
      · obtain ⟨j0, hj0, hl0⟩ := hc n hn
        have hj0n : j0 ≠ n := by rintro rfl; exact hs hj0
        obtain ⟨i, hi⟩ := closed_round n (fun j k => E j k ∨ (E j n ∧ E n k)) (fun k => L k ∧ k ≠ n) (fun k hk => by have := hb k hk.1; have := hk.2; omega) (fun k hk => by
          obtain ⟨j, hj, hlj⟩ := hc k hk.1
          by_cases hjn : j = n
          · subst hjn; exact ⟨j0, .inr ⟨hj0, hj⟩, hl0, hj0n⟩
          · exact ⟨j, .inl hj, hlj, hjn⟩) ⟨j0, hl0, hj0n⟩
        refine ⟨i, hi.sub fun a b hab => ?_⟩
        rcases hab with h | ⟨h, k⟩
        · exact .one h
        · exact .more (.one h) k
    · exact closed_round n E L (fun k hk => by have := hb k hk; have : k ≠ n := fun e => hn (e ▸ hk); omega) hc ⟨k0, hk0⟩
def PE (l : List (List Int)) (a b : Nat) : Prop := [(a : Int), (b : Int)] ∈ l
noncomputable def cyc (l : List (List Int)) : Bool := open Classical in decide (∃ i, Rch (PE l) i i)
theorem cyc_iff {l : List (List Int)} : cyc l = true ↔ ∃ i, Rch (PE l) i i := by simp [cyc]
def okP (n : Int) (p : List Int) : Bool := (p.length == 2) && (p.all fun x => inn x 0 (n - 1))
theorem okP_some {n : Nat} {p : List Int} (h : okP n p = true) : ∃ a b : Nat, p = [(a : Int), (b : Int)] ∧ a < n ∧ b < n := by
  unfold okP at h
  rw [Bool.and_eq_true] at h
  match p, h with
  | [x, y], h =>
    simp only [List.all_cons, List.all_nil, Bool.and_true, Bool.and_eq_true, inn_iff] at h
    exact ⟨x.toNat, y.toNat, by rw [Int.toNat_of_nonneg h.2.1.1, Int.toNat_of_nonneg h.2.2.1], by omega, by omega⟩
theorem PE.lt {l : List (List Int)} {n : Nat} (h : ∀ p ∈ l, okP n p = true) (a b : Nat) (hab : PE l a b) : a < n ∧ b < n := by
  obtain ⟨x, y, he, h1, h2⟩ := okP_some (h _ hab)
  simp only [List.cons.injEq, and_true] at he
  omega
theorem getD_set_eq {β : Type} {l : List β} {i : Nat} {v d : β} (h : i < l.length) : (l.set i v).getD i d = v := by simp [List.getD, h]
theorem getD_set_ne {β : Type} {l : List β} {i j : Nat} {v d : β} (h : i ≠ j) : (l.set i v).getD j d = l.getD j d := by simp [List.getD, List.getElem?_set_ne h]
theorem getD_none {β : Type} {l : List β} {i : Nat} {d : β} (h : l.length ≤ i) : l.getD i d = d := by simp [List.getD, List.getElem?_eq_none h]
def mg (m : List (List Bool)) (a b : Nat) : Bool := (m.getD a []).getD b false
def Shp (n : Nat) (m : List (List Bool)) : Prop := m.length = n ∧ ∀ a, a < n → (m.getD a []).length = n
def stm (m : List (List Bool)) (i j : Nat) (v : Bool) : List (List Bool) := m.set i ((m.getD i []).set j v)
theorem Shp.stm {n : Nat} {m : List (List Bool)} (h : Shp n m) {i j : Nat} {v : Bool} (hi : i < n) : Shp n (stm m i j v) := by
  refine ⟨by simp [P.stm, h.1], fun a ha => ?_⟩
  unfold P.stm
  by_cases e : i = a
  · subst e
    rw [getD_set_eq (by rw [h.1]; exact hi), List.length_set]
    exact h.2 i hi
  · rw [getD_set_ne e]
    exact h.2 a ha
theorem mg_stm {n : Nat} {m : List (List Bool)} (h : Shp n m) {i j : Nat} {v : Bool} (hi : i < n) (hj : j < n) (a b : Nat) : mg (stm m i j v) a b = if a = i ∧ b = j then v else mg m a b := by
  unfold mg stm
  by_cases e : i = a
  · subst e
    rw [getD_set_eq (by rw [h.1]; exact hi)]
    by_cases e' : j = b
    · subst e'
      rw [getD_set_eq (by rw [h.2 i hi]; exact hj)]
      simp
    · rw [getD_set_ne e', if_neg (fun hh => e' hh.2.symm)]
  · rw [getD_set_ne e, if_neg (fun hh => e hh.1.symm)]
theorem mg_lt {n : Nat} {m : List (List Bool)} (h : Shp n m) {a b : Nat} (hm : mg m a b = true) : a < n ∧ b < n := by
  have ha : a < n := by
    apply Decidable.byContradiction
    intro hn
    unfold mg at hm
    rw [getD_none (l := m) (by rw [h.1]; omega), getD_none (l := ([] : List Bool)) (by simp)] at hm
    cases hm
  refine ⟨ha, ?_⟩
  apply Decidable.byContradiction
  intro hn
  unfold mg at hm
  rw [getD_none (by rw [h.2 a ha]; omega)] at hm
  cases hm
structure WI (E : Nat → Nat → Prop) (n k i j : Nat) (m : List (List Bool)) : Prop where
  shp : Shp n m
  snd : ∀ a b, mg m a b = true → Rch E a b
  all : ∀ a b, Pth E k a b → mg m a b = true
  now : ∀ a b, a < n → b < n → (a < i ∨ (a = i ∧ b < j)) → Pth E (k + 1) a b → mg m a b = true
theorem WI.step {E : Nat → Nat → Prop} {n k i j : Nat} {m : List (List Bool)} (h : WI E n k i j m) (hi : i < n) (hj : j < n) {v : Bool} (hv : v = (mg m i j || (mg m i k && mg m k j))) : WI E n k i (j + 1) (stm m i j v) := by
  have hup : ∀ a b, mg m a b = true → mg (stm m i j v) a b = true := by
    intro a b hab
    rw [mg_stm h.shp hi hj]
    split
    · rename_i e
      rw [e.1, e.2] at hab
      rw [hv, hab, Bool.true_or]
    · exact hab
  refine ⟨h.shp.stm hi, fun a b hab => ?_, fun a b hab => hup a b (h.all a b hab), fun a b ha hb hlt hp => ?_⟩
  · rw [mg_stm h.shp hi hj] at hab
    split at hab
    · rename_i e
      obtain ⟨rfl, rfl⟩ := e
      rw [hv, Bool.or_eq_true, Bool.and_eq_true] at hab
      rcases hab with hab | ⟨h1, h2⟩
      · exact h.snd _ _ hab
      · exact (h.snd _ _ h1).trans (h.snd _ _ h2)
    · exact h.snd _ _ hab
  · by_cases e : a = i ∧ b = j
    · rw [mg_stm h.shp hi hj, if_pos e]
      obtain ⟨rfl, rfl⟩ := e
      rw [hv]
      rcases hp with hp | ⟨h1, h2⟩
      · rw [h.all _ _ hp, Bool.true_or]
      · rw [h.all _ _ h1, h.all _ _ h2]; simp
    · refine hup a b (h.now a b ha hb ?_ hp)
      rcases hlt with hlt | ⟨h1, h2⟩
      · exact .inl hlt
      · right; refine ⟨h1, ?_⟩
        have : b ≠ j := fun e' => e ⟨h1, e'⟩
        omega
theorem WI.row {E : Nat → Nat → Prop} {n k i : Nat} {m : List (List Bool)} (h : WI E n k i n m) : WI E n k (i + 1) 0 m :=
  ⟨h.shp, h.snd, h.all, fun a b ha hb hlt hp => h.now a b ha hb (by rcases hlt with h1 | h1 <;> omega) hp⟩
theorem WI.turn {E : Nat → Nat → Prop} {n k : Nat} {m : List (List Bool)} (hE : ∀ a b, E a b → a < n ∧ b < n) (h : WI E n k n 0 m) : WI E n (k + 1) 0 0 m := by
  have hb : ∀ k a b, Pth E k a b → a < n ∧ b < n := by
    intro k
    induction k with
    | zero => exact hE
    | succ k ih =>
      intro a b hp
      rcases hp with hp | ⟨h1, h2⟩
      · exact ih a b hp
      · exact ⟨(ih _ _ h1).1, (ih _ _ h2).2⟩
  exact ⟨h.shp, h.snd, fun a b hp => h.now a b (hb _ _ _ hp).1 (hb _ _ _ hp).2 (.inl (hb _ _ _ hp).1) hp, fun a b _ _ hlt _ => by omega⟩
theorem okP_clo {n : Int} (hw : IntKind.i64.wrap (n - 1) = n - 1) (x : List Int) :
    (((if ((x.length : Int) != (2 : Int)) then (some ((true, ()), ())) else (if (decide (0 ≤ (0 : Int))) then (if (decide ((0 : Int) < x.length)) then ((S_impl_within (rd x (0 : Int) (0 : Int)) (0 : Int) (IntKind.i64.wrap (n - (1 : Int)))).bind fun y3 => (if (!y3.1.1) then (some ((true, ()), ())) else (if (decide (0 ≤ (1 : Int))) then (if (decide ((1 : Int) < x.length)) then ((S_impl_within (rd x (1 : Int) (0 : Int)) (0 : Int) (IntKind.i64.wrap (n - (1 : Int)))).bind fun y4 => (some (((!y4.1.1), ()), ()))) else none) else none))) else none) else none)) : Option ((Bool × Unit) × Unit)).bind fun y5 => some y5.1.1) = some (!okP n x) := by
  cases h : ((x.length : Int) != 2) with
  | true =>
    have : (x.length == 2) = false := by simp at h ⊢; omega
    simp [okP, this]
  | false =>
    obtain ⟨a, b, rfl⟩ := two_of h
    simp only [hw, impl_within_eq, Option.bind_some, show rd [a, b] 0 (0 : Int) = a from rfl, show rd [a, b] 1 (0 : Int) = b from rfl, okP, List.all_cons, List.all_nil, Bool.and_true]
    cases inn a 0 (n - 1) <;> cases inn b 0 (n - 1) <;> simp
noncomputable def hr (l : List (List Int)) (n : Int) : Bool × Bool × Unit := if (decide (l.length ≤ 2000) && inn n 0 60) && l.all (okP n) then (cyc l, true, ()) else (false, false, ())
theorem decT {p : Prop} [Decidable p] (h : p) : decide p = true := decide_eq_true h
theorem rdm {m : List (List Bool)} {i : Nat} : rd m (i : Int) ([] : List Bool) = m.getD i [] := rfl
theorem rdb {r : List Bool} {j : Nat} : rd r (j : Int) false = r.getD j false := rfl
theorem wrapS {i : Nat} (h : i ≤ 1000000) : IntKind.i64.wrap ((i : Int) + 1) = ((i + 1 : Nat) : Int) := by rw [wrap_small (by omega) (by omega)]; rfl
theorem impl_HasRound_eq (l : List (List Int)) (n : Int) (hl : l.length ≤ maxLen) : S_impl_HasRound l n = some ((hr l n), ()) := by
  unfold S_impl_HasRound
  refine lim_eq 3000 fun N hN => ?_
  unfold p_impl_HasRound hr
  by_cases h1 : (l.length : Int) > 2000
  · rw [decT h1, decide_eq_false (show ¬ l.length ≤ 2000 by omega)]; rfl
  rw [decide_eq_false h1, decT (show l.length ≤ 2000 by omega), impl_within_eq]
  simp only [Bool.false_eq_true, if_false, Option.bind_some, Bool.true_and]
  cases h2 : inn n 0 60 with
  | false => rfl
  | true =>
  rw [inn_iff] at h2
  obtain ⟨k, rfl⟩ : ∃ k : Nat, n = k := ⟨n.toNat, by omega⟩
  have hk : k ≤ 60 := by omega
  have hw : IntKind.i64.wrap ((k : Int) - 1) = (k : Int) - 1 := wrap_small (by omega) (by omega)
  rw [ContainsFunc_LLint_eq (fun x => !okP k x) hl (fun x hx => okP_clo hw x)]
  simp only [Bool.not_true, Bool.false_eq_true, if_false, Option.bind_some, Bool.true_and]
  have hna := not_any_not l (okP k)
  cases h3 : l.all (okP k) with
  | false =>
    rw [h3] at hna
    simp only [Bool.not_eq_false'] at hna
    rw [hna]; rfl
  | true =>
  rw [h3] at hna
  simp only [Bool.not_eq_true'] at hna
  rw [hna]
  rw [List.all_eq_true] at h3
  have hE := PE.lt h3
  simp only [Bool.false_eq_true, if_false, if_true, decT (show (0 : Int) ≤ (k : Int) by omega), beq_self_eq_true, decT (show (k : Int) * 24 ≤ 140737488355328 by omega), Int.toNat_natCast, List.length_replicate]
  refine loopN_upto k (fun i (m : List (List Bool)) => ((l, (k : Int), (i : Int), ()), (((k : Int), ()), m, ()))) (fun _ _ => ((cyc l, true, ()), ())) (fun i m => m.length = k ∧ ∀ a, a < i → m.getD a [] = List.replicate k false)
    _ rfl rfl ⟨by simp, by omega⟩ (by omega) (fun rec i m hi hI hrec => ?_)
  dsimp only
  by_cases hik : i < k
  · rw [decT (show (i : Int) < (k : Int) by omega)]
    simp only [if_true, decT (show (0 : Int) ≤ (k : Int) by omega), beq_self_eq_true, decT (show (k : Int) * 1 ≤ 140737488355328 by omega), decT (show (0 : Int) ≤ (i : Int) by omega), decT (show (i : Int) < (m.length : Int) by rw [hI.1]; omega), Int.toNat_natCast, wrapS (show i ≤ 1000000 by omega)]
    refine hrec hik _ ⟨by rw [List.length_set]; exact hI.1, fun a ha => ?_⟩
    by_cases e : i = a
    · subst e; exact getD_set_eq (by rw [hI.1]; exact hik)
    · rw [getD_set_ne e]; exact hI.2 a (by omega)
  · obtain rfl : i = k := by omega
    rw [decide_eq_false (show ¬ (i : Int) < (i : Int) by omega)]
    simp only [Bool.false_eq_true, if_false]
    have hS : Shp i m := ⟨hI.1, fun a ha => by rw [hI.2 a ha, List.length_replicate]⟩
    have hz : ∀ a b, mg m a b = false := fun a b => by
      unfold mg
      by_cases ha : a < i
      · rw [hI.2 a ha]
        by_cases hb : b < i
        · simp [List.getD, hb]
        · exact getD_none (by simp; omega)
      · rw [getD_none (l := m) (by rw [hI.1]; omega)]; exact getD_none (by simp)
    clear hrec hI hik hi
    -- the pairs
    refine loopN_over l hl (fun j (m : List (List Bool)) => ((l, (l.length : Int), (j : Int), ()), (((i : Int), ()), m, ()))) (fun _ _ _ => ((cyc l, true, ()), ())) (fun j t m => Shp i m ∧ (∀ a b, mg m a b = true → PE l a b) ∧ ∀ a b, PE l a b → [(a : Int), (b : Int)] ∈ t ∨ mg m a b = true)
      m rfl rfl ⟨hS, (fun a b h => by rw [hz] at h; cases h), fun a b h => .inl h⟩ (by omega) (fun rec m hm => ?_) (fun rec j p t m hat hm hrec => ?_)
    · dsimp only
      simp only [lenInt_lt_irrefl, decide_false, Bool.false_eq_true, if_false]
      obtain ⟨hS, hs, ha⟩ := hm
      have h0 : WI (PE l) i 0 0 0 m := ⟨hS, fun a b h => .one (hs a b h), fun a b h => (ha a b h).resolve_left (by simp), fun a b _ _ h _ => by omega⟩
      -- the points on the way
      refine loopN_upto i (fun q (m : List (List Bool)) => (((i : Int), (q : Int), ()), (((i : Int), ()), m, ()))) (fun _ _ => ((cyc l, true, ()), ())) (fun q m => WI (PE l) i q 0 0 m)
        m rfl rfl h0 (by omega) (fun rec q m hq hW hrec => ?_)
      dsimp only
      by_cases hqi : q < i
      · rw [decT (show (q : Int) < (i : Int) by omega)]
        simp only [if_true]
        refine loopN_upto i (fun x (m : List (List Bool)) => (((q : Int), (i : Int), (q : Int), (i : Int), (x : Int), ()), (((i : Int), ()), m, ()))) (fun _ _ => ((cyc l, true, ()), ())) (fun x m => WI (PE l) i q x 0 m)
          m rfl rfl hW (by omega) (fun rec2 x m hx hW hrec2 => ?_)
        dsimp only
        by_cases hxi : x < i
        · rw [decT (show (x : Int) < (i : Int) by omega)]
          simp only [if_true]
          refine loopN_upto i (fun y (m : List (List Bool)) => (((q : Int), (x : Int), (i : Int), (q : Int), (i : Int), (x : Int), (i : Int), (y : Int), ()), (((i : Int), ()), m, ()))) (fun _ _ => ((cyc l, true, ()), ())) (fun y m => WI (PE l) i q x y m)
            m rfl rfl hW (by omega) (fun rec3 y m hy hW hrec3 => ?_)
          dsimp only
          by_cases hyi : y < i
          · have hS := hW.shp
            have e1 := hS.1
            have e2 := hS.2 x hxi
            have e3 := hS.2 q hqi
            have go : ∀ v : Bool, v = (mg m x y || (mg m x q && mg m q y)) → rec3 (((q : Int), (x : Int), (i : Int), (q : Int), (i : Int), (x : Int), (i : Int), (((y + 1 : Nat)) : Int), ()), (((i : Int), ()), m.set x ((m.getD x []).set y v), ())) = some ((cyc l, true, ()), ()) := fun v hv => hrec3 hyi _ (hW.step hxi hyi hv)
            simp only [rdm, rdb, Int.toNat_natCast, wrapS (show y ≤ 1000000 by omega), decT (show (y : Int) < (i : Int) by omega), decT (show (0 : Int) ≤ (x : Int) by omega), decT (show (0 : Int) ≤ (y : Int) by omega), decT (show (0 : Int) ≤ (q : Int) by omega), e1, e2, e3, decT (show (x : Int) < (i : Int) by omega), decT (show (q : Int) < (i : Int) by omega), if_true]
            show (if mg m x y = true then _ else (if mg m x q = true then _ else _)) = _
            cases h1 : mg m x y with
            | true => rw [if_pos rfl]; exact go true (by rw [h1]; rfl)
            | false =>
              rw [if_neg (by simp)]
              cases h2 : mg m x q with
              | true => rw [if_pos rfl]; exact go (mg m q y) (by rw [h1, h2]; simp)
              | false => rw [if_neg (by simp)]; exact go false (by rw [h1, h2]; rfl)
          · obtain rfl : y = i := by omega
            rw [decide_eq_false (show ¬ (y : Int) < (y : Int) by omega)]
            simp only [Bool.false_eq_true, if_false, wrapS (show x ≤ 1000000 by omega)]
            exact hrec2 hxi _ hW.row
        · obtain rfl : x = i := by omega
          rw [decide_eq_false (show ¬ (x : Int) < (x : Int) by omega)]
          simp only [Bool.false_eq_true, if_false, wrapS (show q ≤ 1000000 by omega)]
          exact hrec hqi _ (hW.turn hE)
      · obtain rfl : q = i := by omega
        rw [decide_eq_false (show ¬ (q : Int) < (q : Int) by omega)]
        simp only [Bool.false_eq_true, if_false]
        have hS := hW.shp
        refine loopN_upto q (fun x (_ : Unit) => (((q : Int), (x : Int), ()), (((q : Int), ()), m, ()))) (fun _ _ => ((cyc l, true, ()), ())) (fun x _ => ∀ a, a < x → mg m a a = false)
          () rfl rfl (by omega) (by omega) (fun rec2 x _ hx hX hrec2 => ?_)
        dsimp only
        by_cases hxi : x < q
        · have e1 := hS.1
          have e2 := hS.2 x hxi
          simp only [rdm, rdb, decT (show (0 : Int) ≤ (x : Int) by omega), e1, e2, decT (show (x : Int) < (q : Int) by omega), if_true, wrapS (show x ≤ 1000000 by omega)]
          show (if mg m x x = true then _ else _) = _
          cases h1 : mg m x x with
          | true =>
            rw [if_pos rfl]
            have : cyc l = true := cyc_iff.2 ⟨x, hW.snd _ _ h1⟩
            rw [this]
          | false =>
            rw [if_neg (by simp)]
            exact hrec2 hxi () fun a ha => by
              by_cases e : a = x
              · rw [e]; exact h1
              · exact hX a (by omega)
        · obtain rfl : x = q := by omega
          rw [decide_eq_false (show ¬ (x : Int) < (x : Int) by omega)]
          simp only [Bool.false_eq_true, if_false]
          have : cyc l = false := by
            cases hc : cyc l with
            | false => rfl
            | true =>
              obtain ⟨a, ha⟩ := cyc_iff.1 hc
              have h1 := hW.all a a (ha.pth hE)
              rw [hX a (mg_lt hS h1).1] at h1
              cases h1
          rw [this]
    · obtain ⟨hS, hs, ha⟩ := hm
      obtain ⟨x, y, rfl, hx, hy⟩ := okP_some (h3 p hat.mem)
      dsimp only
      simp only [hat.lt, hat.nn, hat.wrap, hat.rd, decide_true, if_true, List.length_cons, List.length_nil, show rd [(x : Int), (y : Int)] (0 : Int) (0 : Int) = (x : Int) from rfl, show rd [(x : Int), (y : Int)] (1 : Int) (0 : Int) = (y : Int) from rfl]
      have e1 := hS.1
      have e2 := hS.2 x hx
      simp only [rdm, rdb, Int.toNat_natCast, e1, e2, decT (show (0 : Int) ≤ (x : Int) by omega), decT (show (0 : Int) ≤ (y : Int) by omega), decT (show (x : Int) < (i : Int) by omega), decT (show (y : Int) < (i : Int) by omega), decT (show (0 : Int) ≤ (0 : Int) by omega), decT (show (0 : Int) ≤ (1 : Int) by omega), if_true]
      refine hrec _ ⟨hS.stm hx, fun a b hab => ?_, fun a b hab => ?_⟩
      · replace hab : mg (stm m x y true) a b = true := hab
        rw [mg_stm hS hx hy] at hab
        split at hab
        · rename_i e; rw [e.1, e.2]; exact hat.mem
        · exact hs a b hab
      · show _ ∨ mg (stm m x y true) a b = true
        rw [mg_stm hS hx hy]
        rcases ha a b hab with h | h
        · rcases List.mem_cons.1 h with h | h
          · simp only [List.cons.injEq, and_true] at h
            right
            rw [if_pos (by omega)]
          · exact .inl h
        · right; split
          · rfl
          · exact h
def yes (l : List Bool) (k : Nat) : Bool := l.getD k false
theorem yes_lt {l : List Bool} {k : Nat} (h : yes l k = true) : k < l.length := by
  apply Decidable.byContradiction
  intro hn
  unfold yes at h
  rw [getD_none (by omega)] at h
  cases h
theorem yes_set {l : List Bool} {k : Nat} (hk : k < l.length) (v : Bool) (a : Nat) : yes (l.set k v) a = if a = k then v else yes l a := by
  unfold yes
  by_cases e : k = a
  · subst e; rw [getD_set_eq hk, if_pos rfl]
  · rw [getD_set_ne e, if_neg (fun h => e h.symm)]
def cntT : List Bool → Nat
  | [] => 0
  | b :: t => (if b then 1 else 0) + cntT t
theorem cntT_set : ∀ {l : List Bool} {k : Nat}, yes l k = true → cntT (l.set k false) + 1 = cntT l
  | [], k, h => by simp [yes] at h
  | b :: t, 0, h => by
    have : b = true := by simpa [yes] using h
    subst this
    simp [cntT]; omega
  | b :: t, k + 1, h => by
    have := cntT_set (l := t) (k := k) (by simpa [yes] using h)
    simp only [List.set_cons_succ, cntT]; omega
structure SI (l : List (List Int)) (n : Nat) (left : List Bool) : Prop where
  len : left.length = n
  keep : ∀ a, Rch (PE l) a a → yes left a = true
def Cls (l : List (List Int)) (left : List Bool) (k : Nat) : Prop := ∀ b, b < k → yes left b = true → ∃ a, PE l a b ∧ yes left a = true
theorem spec_HasRound_eq (l : List (List Int)) (n : Int) (hl : l.length ≤ maxLen) (hm : ∀ p ∈ l, p.length ≤ maxLen) : S_spec_HasRound l n = some ((hr l n), ()) := by
  unfold S_spec_HasRound
  refine lim_eq 3000 fun N hN => ?_
  unfold p_spec_HasRound hr
  rw [spec_l1In_eq]
  simp only [Option.bind_some]
  cases h2 : inn n 0 60 with
  | false => simp
  | true =>
  simp only [Bool.not_true, Bool.false_eq_true, if_false]
  by_cases h1 : (l.length : Int) > 2000
  · rw [decT h1, decide_eq_false (show ¬ l.length ≤ 2000 by omega)]; rfl
  rw [decide_eq_false h1, decT (show l.length ≤ 2000 by omega)]
  simp only [Bool.false_eq_true, if_false, Bool.true_and]
  rw [inn_iff] at h2
  obtain ⟨k, rfl⟩ : ∃ k : Nat, n = k := ⟨n.toNat, by omega⟩
  have hk : k ≤ 60 := by omega
  have hw : IntKind.i64.wrap ((k : Int) - 1) = (k : Int) - 1 := wrap_small (by omega) (by omega)
  simp only [decT (show (0 : Int) ≤ (k : Int) by omega), beq_self_eq_true, decT (show (k : Int) * 1 ≤ 140737488355328 by omega), if_true, Int.toNat_natCast, List.length_replicate]
  refine loopN_upto k (fun i (m : List Bool) => ((l, (k : Int), (k : Int), (i : Int), ()), (m, ()))) (fun _ _ => ((if l.all (okP k) then (cyc l, true, ()) else (false, false, ())), ())) (fun i m => m.length = k ∧ ∀ a, a < i → yes m a = true)
    _ rfl rfl ⟨by simp, by omega⟩ (by omega) (fun rec i m hi hI hrec => ?_)
  dsimp only
  by_cases hik : i < k
  · rw [decT (show (i : Int) < (k : Int) by omega)]
    simp only [if_true, decT (show (0 : Int) ≤ (i : Int) by omega), decT (show (i : Int) < (m.length : Int) by rw [hI.1]; omega), Int.toNat_natCast, wrapS (show i ≤ 1000000 by omega)]
    refine hrec hik _ ⟨by rw [List.length_set]; exact hI.1, fun a ha => ?_⟩
    rw [yes_set (by rw [hI.1]; exact hik)]
    split
    · rfl
    · exact hI.2 a (by omega)
  obtain rfl : i = k := by omega
  rw [decide_eq_false (show ¬ (i : Int) < (i : Int) by omega)]
  simp only [Bool.false_eq_true, if_false]
  clear hrec hik hi
  refine loopN_over l hl (fun j (_ : Unit) => ((l, (i : Int), l, (l.length : Int), (j : Int), ()), (m, ()))) (fun _ t _ => ((if t.all (okP i) then (cyc l, true, ()) else (false, false, ())), ())) (fun j t _ => l.all (okP i) = t.all (okP i))
    () rfl rfl rfl (by omega) (fun rec _ hh => ?_) (fun rec j p t _ hat hh hrec => ?_)
  · dsimp only
    simp only [lenInt_lt_irrefl, decide_false, Bool.false_eq_true, if_false, List.all_nil, if_true]
    have h3 : ∀ p ∈ l, okP i p = true := List.all_eq_true.1 hh
    have hE := PE.lt h3
    have hbound : ∀ a, Rch (PE l) a a → a < i := fun a ha => by
      obtain ⟨c, hc, _⟩ := ha.last
      exact (hE _ _ hc).2
    refine loopN_ind (F := fun _ => ((cyc l, true, ()), ())) (I := fun x => x.1.1 = l ∧ SI l i x.2.1 ∧ (x.1.2.1 = false → Cls l x.2.1 i)) (μ := fun x => 2 * cntT x.2.1 + if x.1.2.1 then 1 else 0) (fun rec x hx hrec => ?_) N _ ⟨rfl, ⟨hI.1, fun a ha => hI.2 a (hbound a ha)⟩, fun h => by cases h⟩ ?_
    · obtain ⟨⟨x1, more, ⟨⟩⟩, left, ⟨⟩⟩ := x
      have hlen : l.length ≤ 2000 := by omega
      obtain ⟨rfl, hS, hcl⟩ := hx
      dsimp only at hS hcl hrec hlen ⊢
      cases more with
      | true =>
        rw [if_pos rfl, hS.len]
        refine loopN_upto i (fun b (s : Bool × List Bool) => ((x1, s.1, (i : Int), (b : Int), ()), (s.2, ()))) (fun _ _ => ((cyc x1, true, ()), ())) (fun b s => SI x1 i s.2 ∧ cntT s.2 ≤ cntT left ∧ (s.1 = true → cntT s.2 < cntT left) ∧ (s.1 = false → Cls x1 s.2 b))
          (false, left) rfl rfl ⟨hS, Nat.le_refl _, fun h => (by cases h), fun _ a ha => by omega⟩ (by omega) (fun rec2 b s hb hJ hrec2 => ?_)
        obtain ⟨more, m⟩ := s
        obtain ⟨hS2, hc1, hc2, hc3⟩ := hJ
        dsimp only at hS2 hc1 hc2 hc3 ⊢
        by_cases hbi : b < i
        · have e1 := hS2.len
          simp only [decT (show (b : Int) < (i : Int) by omega), decT (show (0 : Int) ≤ (b : Int) by omega), e1, if_true, rdb]
          refine loopN_over x1 hl (fun j (f : Bool) => ((x1, more, (b : Int), f, (i : Int), (b : Int), x1, (x1.length : Int), (j : Int), ()), (m, ()))) (fun _ _ _ => ((cyc x1, true, ()), ())) (fun j t f => (f && t.all fun p => (rd p 1 0 != (b : Int)) || !yes m (rd p 0 0).toNat) = (yes m b && x1.all fun p => (rd p 1 0 != (b : Int)) || !yes m (rd p 0 0).toNat))
            (yes m b) rfl rfl rfl (by omega) (fun rec3 f hf => ?_) (fun rec3 j p t f hat hf hrec3 => ?_)
          · dsimp only
            simp only [lenInt_lt_irrefl, decide_false, Bool.false_eq_true, if_false]
            rw [List.all_nil, Bool.and_true] at hf
            simp only [decT (show (b : Int) < (i : Int) by omega), decT (show (0 : Int) ≤ (b : Int) by omega), e1, if_true, Int.toNat_natCast, wrapS (show b ≤ 1000000 by omega)]
            cases f with
            | true =>
              rw [if_pos rfl]
              have hf := hf.symm
              rw [Bool.and_eq_true, List.all_eq_true] at hf
              have hlt := cntT_set hf.1
              refine hrec2 hbi (true, m.set b false) ⟨⟨by simp [e1], fun a ha => ?_⟩, by dsimp only; omega, fun _ => by dsimp only; omega, fun h => by cases h⟩
              rw [yes_set (by rw [e1]; exact hbi)]
              split
              · rename_i e
                subst e
                obtain ⟨c, hc, hcr⟩ := ha.last
                have h5 := hf.2 _ hc
                have h6 : Rch (PE x1) c c := by
                  rcases hcr with rfl | hcr
                  · exact ha
                  · exact (Rch.one hc).trans hcr
                have h7 := hS2.keep c h6
                simp only [show rd [(c : Int), (a : Int)] 1 (0 : Int) = (a : Int) from rfl, show rd [(c : Int), (a : Int)] 0 (0 : Int) = (c : Int) from rfl, Int.toNat_natCast, bne_self_eq_false, Bool.false_or, h7] at h5
                cases h5
              · exact hS2.keep a ha
            | false =>
              rw [if_neg (by simp)]
              refine hrec2 hbi (more, m) ⟨hS2, hc1, hc2, fun h a ha hy => ?_⟩
              by_cases e : a = b
              · subst e
                dsimp only at hy
                rw [hy, Bool.true_and] at hf
                obtain ⟨p, hp, hq⟩ := List.all_eq_false.1 hf.symm
                obtain ⟨u, v, rfl, _, _⟩ := okP_some (h3 p hp)
                simp only [show rd [(u : Int), (v : Int)] 1 (0 : Int) = (v : Int) from rfl, show rd [(u : Int), (v : Int)] 0 (0 : Int) = (u : Int) from rfl, Int.toNat_natCast, Bool.or_eq_true, not_or, bne_iff_ne, ne_eq, Decidable.not_not, Bool.not_eq_true', Bool.not_eq_false] at hq
                obtain ⟨q1, q2⟩ := hq
                obtain rfl : v = a := by omega
                exact ⟨u, hp, q2⟩
              · exact hc3 h a (by omega) hy
          · obtain ⟨u, v, rfl, hu, hv⟩ := okP_some (h3 p hat.mem)
            dsimp only
            rw [List.all_cons] at hf
            simp only [show rd [(u : Int), (v : Int)] 1 (0 : Int) = (v : Int) from rfl, show rd [(u : Int), (v : Int)] 0 (0 : Int) = (u : Int) from rfl, Int.toNat_natCast] at hf
            simp only [hat.lt, hat.nn, hat.wrap, hat.rd, decide_true, if_true, List.length_cons, List.length_nil, show rd [(u : Int), (v : Int)] (0 : Int) (0 : Int) = (u : Int) from rfl, show rd [(u : Int), (v : Int)] (1 : Int) (0 : Int) = (v : Int) from rfl, decT (show (0 : Int) ≤ (0 : Int) by omega), decT (show (0 : Int) ≤ (1 : Int) by omega), decT (show (0 : Int) ≤ (u : Int) by omega), e1, decT (show (u : Int) < (i : Int) by omega), rdb]
            cases f with
            | false => rw [if_neg (by simp)]; exact hrec3 false (by simpa using hf)
            | true =>
              rw [if_pos rfl]
              cases hvb : ((v : Int) != (b : Int)) with
              | true => rw [if_pos (by decide)]; rw [hvb] at hf; exact hrec3 true (by simpa using hf)
              | false =>
                rw [hvb] at hf
                exact hrec3 (!yes m u) (by simpa using hf)
        · obtain rfl : b = i := by omega
          rw [decide_eq_false (show ¬ (b : Int) < (b : Int) by omega)]
          simp only [Bool.false_eq_true, if_false]
          refine hrec _ ⟨rfl, hS2, hc3⟩ ?_
          dsimp only
          cases more with
          | true => have := hc2 rfl; simp only [if_true]; omega
          | false => simp only [Bool.false_eq_true, if_false, if_true]; omega
      | false =>
        rw [if_neg (by simp), hS.len]
        have hcl := hcl rfl
        have e1 := hS.len
        refine loopN_upto i (fun b (_ : Unit) => (((i : Int), (b : Int), ()), (left, ()))) (fun _ _ => ((cyc x1, true, ()), ())) (fun b _ => ∀ a, a < b → yes left a = false)
          () rfl rfl (by omega) (by omega) (fun rec2 b _ hb hX hrec2 => ?_)
        dsimp only
        by_cases hbi : b < i
        · simp only [decT (show (b : Int) < (i : Int) by omega), decT (show (0 : Int) ≤ (b : Int) by omega), e1, if_true, rdb, wrapS (show b ≤ 1000000 by omega)]
          show (if yes left b = true then _ else _) = _
          cases h1 : yes left b with
          | true =>
            rw [if_pos rfl]
            have : cyc x1 = true := cyc_iff.2 (closed_round i (PE x1) (fun a => yes left a = true) (fun a ha => by have := yes_lt ha; omega) (fun a ha => hcl a (by have := yes_lt ha; omega) ha) ⟨b, h1⟩)
            rw [this]
          | false =>
            rw [if_neg (by simp)]
            exact hrec2 hbi () fun a ha => by
              by_cases e : a = b
              · rw [e]; exact h1
              · exact hX a (by omega)
        · obtain rfl : b = i := by omega
          rw [decide_eq_false (show ¬ (b : Int) < (b : Int) by omega)]
          simp only [Bool.false_eq_true, if_false]
          have : cyc x1 = false := by
            cases hc : cyc x1 with
            | false => rfl
            | true =>
              obtain ⟨a, ha⟩ := cyc_iff.1 hc
              have h1 := hS.keep a ha
              rw [hX a (hbound a ha)] at h1
              cases h1
          rw [this]
    · have hle : ∀ (m : List Bool), cntT m ≤ m.length := by
        intro m
        induction m with
        | nil => simp [cntT]
        | cons b t ih => simp only [cntT, List.length_cons]; split <;> omega
      have := hle m
      dsimp only
      simp only [if_true]
      rw [hI.1] at this
      omega
  · dsimp only
    simp only [hat.lt, hat.nn, hat.wrap, hat.rd, decide_true, if_true, List.all_cons, hw]
    rw [List.all_cons] at hh
    cases hp : ((p.length : Int) != 2) with
    | true =>
      have : okP i p = false := by
        unfold okP
        have : (p.length == 2) = false := by simp at hp ⊢; omega
        rw [this, Bool.false_and]
      simp only [this, Bool.false_and, if_true, Bool.false_eq_true, if_false]
    | false =>
      simp only [Bool.false_eq_true, if_false, spec_l1All_eq p _ _ (hm p hat.mem), Option.bind_some]
      have : okP i p = p.all fun b => inn b 0 ((i : Int) - 1) := by
        unfold okP
        have : (p.length == 2) = true := by simp at hp ⊢; omega
        rw [this, Bool.true_and]
      rw [← this]
      by_cases hq : okP i p = true
      · rw [hq, Bool.true_and] at hh
        simp only [hq, Bool.not_true, Bool.false_eq_true, if_false, Bool.true_and]
        exact hrec () hh
      · have hq := Bool.eq_false_iff.2 hq
        simp only [hq, Bool.not_false, if_true, Bool.false_and, Bool.false_eq_true, if_false]
theorem law_HasRound (l : List (List Int)) (n : Int) (hl : WL.wl l) (N : Nat) : p_laws_FnExactHasRound N l n = some ((true, ()), ()) := by
  unfold p_laws_FnExactHasRound
  rw [sz_IntSS l _ (by omega) (by omega) hl]
  refine sz_over (by omega) rfl fun hn r hr' => ?_
  have hc : Cnt.cnt l ≤ 1048576 := Int.ofNat_le.1 hn
  simp only [hr', Bool.false_eq_true, if_false, to_IntSS l hc, Option.bind_some, spec_HasRound_eq l n hl.1 (fun p hp => (wl_mem hl hp).1), impl_HasRound_eq l n hl.1, eq_IntSS l l hl hl, same_self, bne_self_eq_false, Bool.not_true]
end Go.AM.P
