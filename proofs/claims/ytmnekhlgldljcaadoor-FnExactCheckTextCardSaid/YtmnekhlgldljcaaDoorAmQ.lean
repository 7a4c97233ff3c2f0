/- Lemmas on what functions do to data. No condition. -/
import Derived.Test.YtmnekhlgldljcaaDoorAmP
set_option linter.unusedVariables false
set_option linter.unusedSimpArgs false
set_option maxRecDepth 4000
namespace Go.AM.P
open Go.AM Go.Lib

/-- lists no longer than lists are -/
class WL (α : Type) where
  wl : α → Prop
instance : WL Int := ⟨fun _ => True⟩
instance : WL Bool := ⟨fun _ => True⟩
instance : WL Unit := ⟨fun _ => True⟩
instance : WL ByteArray := ⟨fun s => s.size ≤ maxLen⟩
instance {α β : Type} [WL α] [WL β] : WL (α × β) := ⟨fun x => WL.wl x.1 ∧ WL.wl x.2⟩
instance {α : Type} [WL α] : WL (List α) := ⟨fun l => l.length ≤ maxLen ∧ ∀ x ∈ l, WL.wl x⟩
theorem wl_mem {α : Type} [WL α] {l : List α} (h : WL.wl l) {x : α} (hx : x ∈ l) : WL.wl x := h.2 x hx
class Cnt (α : Type) where
  cnt : α → Nat
instance : Cnt Int := ⟨fun _ => 0⟩
instance : Cnt Bool := ⟨fun _ => 0⟩
instance : Cnt Unit := ⟨fun _ => 0⟩
instance : Cnt ByteArray := ⟨fun s => s.size⟩
instance {α β : Type} [Cnt α] [Cnt β] : Cnt (α × β) := ⟨fun x => Cnt.cnt x.1 + Cnt.cnt x.2⟩
def sumCnt {α : Type} (f : α → Nat) : List α → Nat
  | [] => 0
  | x :: r => f x + sumCnt f r
instance {α : Type} [Cnt α] : Cnt (List α) := ⟨fun l => l.length + sumCnt Cnt.cnt l⟩
theorem le_sumCnt {α : Type} (f : α → Nat) {l : List α} {x : α} (h : x ∈ l) : f x ≤ sumCnt f l := by
  induction l with
  | nil => cases h
  | cons y r ih =>
    simp only [sumCnt]
    rcases List.mem_cons.1 h with rfl | h
    · omega
    · have := ih h; omega
theorem cnt_list {α : Type} [Cnt α] (l : List α) : Cnt.cnt l = l.length + sumCnt Cnt.cnt l := rfl
theorem sumCnt_int (l : List Int) : sumCnt Cnt.cnt l = 0 := by
  induction l with
  | nil => rfl
  | cons x r ih => simp only [sumCnt, ih]; rfl
theorem cnt_ints (l : List Int) : Cnt.cnt l = l.length := by rw [cnt_list, sumCnt_int, Nat.add_zero]
/-- what the laws' counting says -/
def szV (n : Nat) (k : Int) : Int := if (n : Int) ≤ k then k - n else -1
def szRes (n : Nat) (k : Int) : Option ((Int × Unit) × Unit) := some ((szV n k, ()), ())
theorem szV_pos {n : Nat} {k : Int} (h : (n : Int) ≤ k) : szV n k = k - n := if_pos h
theorem szV_neg {n : Nat} {k : Int} (h : ¬ (n : Int) ≤ k) : szV n k = -1 := if_neg h
def SzOk {α : Type} [Cnt α] [WL α] (f : α → Int → Option ((Int × Unit) × Unit)) : Prop :=
  ∀ (x : α) (k : Int), 0 ≤ k → k ≤ 1048576 → WL.wl x → f x k = szRes (Cnt.cnt x) k
theorem sz_head {n : Nat} {k : Int} (hn : n ≤ maxLen) (h0 : 0 ≤ k) (h1 : k ≤ 1048576) : IntKind.i64.wrap (k - (n : Int)) = k - n := by
  rw [maxLen_eq] at hn
  exact wrap_small (by omega) (by omega)
theorem sz_list {α : Type} [Cnt α] [WL α] {f : α → Int → Option ((Int × Unit) × Unit)} (hf : SzOk f) (z : α) (l : List α) (k : Int) (h0 : 0 ≤ k) (h1 : k ≤ 1048576) (hl : WL.wl l) {N : Nat} (hN : l.length < N) :
    (if (decide ((IntKind.i64.wrap (k - (l.length : Int))) < (0 : Int))) then (some (((-1 : Int), ()), ())) else (loopN N (fun rec1 (d2 : (List α × Int × Int × Unit) × (Unit)) => (if (decide (d2.1.2.2.1 < (d2.1.1.length : Int))) then (if (decide (0 ≤ d2.1.2.2.1)) then (if (decide (d2.1.2.2.1 < d2.1.1.length)) then ((f (rd d2.1.1 d2.1.2.2.1 z) d2.1.2.1).bind fun y3 => (if (decide (y3.1.1 < (0 : Int))) then (some (((-1 : Int), ()), ())) else (rec1 ((d2.1.1, y3.1.1, (IntKind.i64.wrap (d2.1.2.2.1 + (1 : Int))), ()), (()))))) else none) else none) else (some ((d2.1.2.1, ()), ())))) ((l, (IntKind.i64.wrap (k - (l.length : Int))), (0 : Int), ()), (()))))
    = szRes (Cnt.cnt l) k := by
  rw [sz_head hl.1 h0 h1]
  by_cases hk : k - (l.length : Int) < 0
  · simp only [hk, decide_true, if_true, szRes, cnt_list]
    rw [szV_neg (by omega)]
  simp only [hk, decide_false, Bool.false_eq_true, if_false]
  refine loopN_over l hl.1 (fun i (s : Int) => ((l, s, (i : Int), ()), ())) (fun i t s => ((szV (sumCnt Cnt.cnt t) s, ()), ())) (fun i t s => 0 ≤ s ∧ s ≤ 1048576)
    (k - l.length) rfl ?_ ⟨by omega, by omega⟩ hN (fun rec s h => ?_) (fun rec i b t s hat h hrec => ?_)
  · rw [cnt_list]
    simp only [Prod.mk.injEq, and_true]
    unfold szV
    split <;> split <;> omega
  · dsimp only
    simp only [lenInt_lt_irrefl, decide_false, Bool.false_eq_true, if_false, sumCnt]
    simp [szV, h.1]
  · dsimp only
    simp only [hat.lt, hat.nn, hat.wrap, hat.rd, decide_true, if_true]
    rw [hf b s h.1 h.2 (wl_mem hl hat.mem)]
    simp only [szRes, Option.bind_some, sumCnt]
    by_cases hb : (Cnt.cnt b : Int) ≤ s
    · rw [szV_pos hb, decide_eq_false (by omega)]
      simp only [Bool.false_eq_true, if_false]
      refine (hrec _ ⟨by omega, by omega⟩).trans ?_
      simp only [Option.some.injEq, Prod.mk.injEq, and_true]
      unfold szV
      split <;> split <;> omega
    · rw [szV_neg hb, szV_neg (by omega)]
      simp
theorem sz_IntS : SzOk S_laws_szIntS := fun x k h0 h1 hl => by
  unfold S_laws_szIntS p_laws_szIntS
  rw [sz_head hl.1 h0 h1, szRes, cnt_ints]
  by_cases hk : k - (x.length : Int) < 0
  · simp only [hk, decide_true, if_true]
    rw [szV_neg (by omega)]
  · simp only [hk, decide_false, Bool.false_eq_true, if_false]
    rw [szV_pos (by omega)]
theorem sz_IntSS : SzOk S_laws_szIntSS := fun x k h0 h1 hl => lim_eq (x.length + 1) fun N hN => sz_list sz_IntS [] x k h0 h1 hl hN
/-- of no more than was counted -/
def ToOk {α : Type} [Cnt α] (f : α → Option ((α × Unit) × Unit)) : Prop := ∀ x : α, Cnt.cnt x ≤ 1048576 → f x = some ((x, ()), ())
theorem set_rep {β : Type} (xs : List β) (n : Nat) (z c : β) (i : Nat) (h : xs.length = i) : (xs ++ List.replicate (n + 1) z).set i c = (xs ++ [c]) ++ List.replicate n z := by
  subst h
  rw [List.replicate_succ]
  simp
theorem to_list {α : Type} [Cnt α] {f : α → Option ((α × Unit) × Unit)} (hf : ToOk f) (z : α) (w : Nat) (hw : w ≤ 1000) (l : List α) (hl : Cnt.cnt l ≤ 1048576) {N : Nat} (hN : l.length < N) :
    (if (decide ((0 : Int) ≤ (l.length : Int))) then (if ((l.length : Int) == (l.length : Int)) then (if (decide ((l.length : Int) * w ≤ 140737488355328)) then (loopN N (fun rec1 (d2 : (List α × Int × Unit) × (List α × List α × Unit)) => (if (decide (d2.1.2.1 < (d2.1.1.length : Int))) then (if (decide (0 ≤ d2.1.2.1)) then (if (decide (d2.1.2.1 < d2.1.1.length)) then ((f (rd d2.1.1 d2.1.2.1 z)).bind fun y3 => (if (decide (0 ≤ d2.1.2.1)) then (if (decide (d2.1.2.1 < d2.2.2.1.length)) then (rec1 ((d2.1.1, (IntKind.i64.wrap (d2.1.2.1 + (1 : Int))), ()), (d2.2.1, (d2.2.2.1.set d2.1.2.1.toNat y3.1.1), ()))) else none) else none)) else none) else none) else (some ((d2.2.2.1, ()), ())))) ((l, (0 : Int), ()), (([] : List α), (List.replicate (l.length : Int).toNat z), ()))) else none) else none) else none)
    = some ((l, ()), ()) := by
  rw [cnt_list] at hl
  have h1 : (0 : Int) ≤ (l.length : Int) := by omega
  have h2 : (l.length : Int) * w ≤ 140737488355328 := by
    have : (l.length : Int) * w ≤ 1048576 * 1000 := Int.mul_le_mul (by omega) (by omega) (by omega) (by omega)
    omega
  simp only [h1, h2, decide_true, if_true, beq_self_eq_true, Int.toNat_natCast]
  refine loopN_over l (by rw [maxLen_eq]; omega) (fun i (s : List α) => ((l, (i : Int), ()), ([], s ++ List.replicate (l.length - i) z, ()))) (fun i t s => ((s ++ t, ()), ())) (fun i t s => s.length = i)
    [] rfl rfl rfl hN (fun rec s h => ?_) (fun rec i b t s hat h hrec => ?_)
  · dsimp only
    simp [h]
  · have hlt := hat.ltn
    obtain ⟨m, hm⟩ : ∃ m, l.length - i = m + 1 := ⟨l.length - i - 1, by omega⟩
    dsimp only
    rw [hm]
    have hb : Cnt.cnt b ≤ 1048576 := by have := le_sumCnt Cnt.cnt hat.mem; omega
    have h5 : (i : Int) < ((s ++ List.replicate (m + 1) z).length : Int) := by simp [h]; omega
    simp only [hat.lt, hat.nn, hat.wrap, hat.rd, decide_true, if_true, hf b hb, Option.bind_some, h5, Int.toNat_natCast, set_rep s m z b i h]
    have := hrec (s ++ [b]) (by simp [h])
    rw [show l.length - (i + 1) = m by omega] at this
    exact this.trans (by simp)
theorem to_list0 {α : Type} [Cnt α] (z : α) (w : Nat) (hw : w ≤ 1000) (l : List α) (hl : Cnt.cnt l ≤ 1048576) {N : Nat} (hN : l.length < N) :
    (if (decide ((0 : Int) ≤ (l.length : Int))) then (if ((l.length : Int) == (l.length : Int)) then (if (decide ((l.length : Int) * w ≤ 140737488355328)) then (loopN N (fun rec1 (d2 : (List α × Int × Unit) × (List α × List α × Unit)) => (if (decide (d2.1.2.1 < (d2.1.1.length : Int))) then (if (decide (0 ≤ d2.1.2.1)) then (if (decide (d2.1.2.1 < d2.1.1.length)) then (if (decide (0 ≤ d2.1.2.1)) then (if (decide (d2.1.2.1 < d2.2.2.1.length)) then (rec1 ((d2.1.1, (IntKind.i64.wrap (d2.1.2.1 + (1 : Int))), ()), (d2.2.1, (d2.2.2.1.set d2.1.2.1.toNat (rd d2.1.1 d2.1.2.1 z)), ()))) else none) else none) else none) else none) else (some ((d2.2.2.1, ()), ())))) ((l, (0 : Int), ()), (([] : List α), (List.replicate (l.length : Int).toNat z), ()))) else none) else none) else none)
    = some ((l, ()), ()) := to_list (f := fun x => some ((x, ()), ())) (fun x _ => rfl) z w hw l hl hN
theorem to_IntS : ToOk S_laws_toIntS := fun x h => lim_eq (x.length + 1) fun N hN => to_list0 0 8 (by omega) x h hN
theorem to_IntSS : ToOk S_laws_toIntSS := fun x h => lim_eq (x.length + 1) fun N hN => to_list to_IntS [] 24 (by omega) x h hN
open Classical in
/-- are they the same? -/
noncomputable def same {α : Type} (a b : α) : Bool := decide (a = b)
theorem same_iff {α : Type} {a b : α} : same a b = true ↔ a = b := by simp [same]
theorem same_self {α : Type} (a : α) : same a a = true := same_iff.2 rfl
theorem same_cons {α : Type} (a b : α) (s t : List α) : same (a :: s) (b :: t) = (same a b && same s t) := by
  rw [Bool.eq_iff_iff]; simp [same_iff]
theorem same_pair {α β : Type} (a b : α × β) : same a b = (same a.1 b.1 && same a.2 b.2) := by
  rw [Bool.eq_iff_iff]; simp [same_iff, Prod.ext_iff]
theorem same_unit (a b : Unit) : same a b = true := same_iff.2 rfl
theorem same_bne (a b : Int) : (a != b) = !same a b := by
  by_cases h : a = b
  · subst h; simp [same_self]
  · have : same a b = false := by rw [Bool.eq_false_iff]; intro h2; exact h (same_iff.1 h2)
    simp [this, h]
def EqOk {α : Type} [WL α] (f : α → α → Option ((Bool × Unit) × Unit)) : Prop := ∀ a b : α, WL.wl a → WL.wl b → f a b = some ((same a b, ()), ())
theorem eq_list {α : Type} [WL α] {f : α → α → Option ((Bool × Unit) × Unit)} (hf : EqOk f) (z : α) (l m : List α) (hl : WL.wl l) (hm : WL.wl m) {N : Nat} (hN : l.length < N) :
    (if ((l.length : Int) != (m.length : Int)) then (some ((false, ()), ())) else (loopN N (fun rec1 (d2 : (List α × List α × Int × Unit) × (Unit)) => (if (decide (d2.1.2.2.1 < (d2.1.1.length : Int))) then (if (decide (0 ≤ d2.1.2.2.1)) then (if (decide (d2.1.2.2.1 < d2.1.1.length)) then (if (decide (0 ≤ d2.1.2.2.1)) then (if (decide (d2.1.2.2.1 < d2.1.2.1.length)) then ((f (rd d2.1.1 d2.1.2.2.1 z) (rd d2.1.2.1 d2.1.2.2.1 z)).bind fun y3 => (if (!y3.1.1) then (some ((false, ()), ())) else (rec1 ((d2.1.1, d2.1.2.1, (IntKind.i64.wrap (d2.1.2.2.1 + (1 : Int))), ()), (()))))) else none) else none) else none) else none) else (some ((true, ()), ())))) ((l, m, (0 : Int), ()), (()))))
      = some ((same l m, ()), ()) := by
  by_cases hlen : l.length = m.length
  · have h1 : ((l.length : Int) != (m.length : Int)) = false := by simp [hlen]
    rw [h1]
    simp only [Bool.false_eq_true, if_false]
    refine loopN_over l hl.1 (fun i (s : Unit) => ((l, m, (i : Int), ()), ())) (fun i t s => ((same t (m.drop i), ()), ())) (fun i t s => True)
      () rfl (by simp) trivial hN (fun rec s h => ?_) (fun rec i b t s hat h hrec => ?_)
    · dsimp only
      simp [hlen, same_self]
    · have hlt := hat.ltn
      have hd : m.drop i = m[i]'(by omega) :: m.drop (i + 1) := List.drop_eq_getElem_cons (by omega)
      have hb := At.of hm.1 hd
      have hr := hf b (m[i]'(by omega)) (wl_mem hl hat.mem) (wl_mem hm hb.mem)
      dsimp only
      simp only [hat.lt, hb.lt, hat.nn, hat.wrap, hat.rd, hb.rd, decide_true, if_true, hr, Option.bind_some, hd, same_cons]
      cases same b (m[i]'(by omega)) with
      | false => simp
      | true =>
        simp only [Bool.not_true, Bool.false_eq_true, if_false, Bool.true_and]
        exact hrec () trivial
  · have h1 : ((l.length : Int) != (m.length : Int)) = true := by simp; omega
    rw [h1]
    have : same l m = false := by rw [Bool.eq_false_iff]; intro h; rw [same_iff] at h; subst h; exact hlen rfl
    simp [this]
theorem eq_IntS : EqOk S_laws_eqIntS := fun a b ha hb => lim_eq (a.length + 1) fun N hN => by
  have h := eq_list (f := fun a b : Int => some ((same a b, ()), ())) (fun a b _ _ => rfl) 0 a b ha hb (N := N) hN
  unfold p_laws_eqIntS
  simp only [same_bne (rd _ _ _)]
  exact h
theorem eq_IntSS : EqOk S_laws_eqIntSS := fun a b ha hb => lim_eq (a.length + 1) fun N hN => eq_list eq_IntS [] a b ha hb hN
theorem sz_then {n m : Nat} {k : Int} (h0 : 0 ≤ k) (h1 : k ≤ 1048576) {G : (Int × Unit) × Unit → Option ((Int × Unit) × Unit)} (hneg : G ((-1, ()), ()) = some ((-1, ()), ())) (hK : ∀ k' : Int, decide (k' < 0) = false → 0 ≤ k' → k' ≤ 1048576 → G ((k', ()), ()) = szRes m k') :
    (szRes n k).bind G = szRes (n + m) k := by
  simp only [szRes, Option.bind_some]
  by_cases hn : (n : Int) ≤ k
  · rw [szV_pos hn, hK _ (decide_eq_false (by omega)) (by omega) (by omega), szRes]
    simp only [Option.some.injEq, Prod.mk.injEq, and_true]
    unfold szV
    split <;> split <;> omega
  · rw [szV_neg hn, szV_neg (by omega), hneg]
theorem sz_last {n : Nat} {k : Int} (h0 : 0 ≤ k) (h1 : k ≤ 1048576) {G : (Int × Unit) × Unit → Option ((Int × Unit) × Unit)} (hneg : G ((-1, ()), ()) = some ((-1, ()), ())) (hK : ∀ k' : Int, decide (k' < 0) = false → G ((k', ()), ()) = some ((k', ()), ())) :
    (szRes n k).bind G = szRes n k := by
  have := sz_then (n := n) (m := 0) h0 h1 hneg fun k' h h2 h3 => (hK k' h).trans (by simp [szRes, szV, h2])
  simpa using this
theorem sz_over {n : Nat} {k : Int} (h0 : 0 ≤ k) {G : (Int × Unit) × Unit → Option ((Bool × Unit) × Unit)} (hneg : G ((-1, ()), ()) = some ((true, ()), ())) (hK : (n : Int) ≤ k → ∀ r : Int, decide (r < 0) = false → G ((r, ()), ()) = some ((true, ()), ())) :
    (szRes n k).bind G = some ((true, ()), ()) := by
  simp only [szRes, Option.bind_some]
  by_cases hn : (n : Int) ≤ k
  · rw [szV_pos hn]
    exact hK hn _ (decide_eq_false (by omega))
  · rw [szV_neg hn]; exact hneg
theorem eq_then {a r : Bool} {K : Option ((Bool × Unit) × Unit)} (hK : K = some ((r, ()), ())) : (if (!a) = true then (some ((false, ()), ())) else K) = some ((a && r, ()), ()) := by
  subst hK
  cases a <;> simp
/-- a number within bounds -/
def inn (n lo hi : Int) : Bool := decide (lo ≤ n) && decide (n ≤ hi)
theorem inn_iff {n lo hi : Int} : inn n lo hi = true ↔ lo ≤ n ∧ n ≤ hi := by simp [inn]
theorem spec_l1In_eq (a b c : Int) : S_spec_l1In a b c = some ((inn a b c, ()), ()) := by
  unfold S_spec_l1In p_spec_l1In inn
  by_cases h : b ≤ a <;> simp [h]
theorem impl_within_eq (a b c : Int) : S_impl_within a b c = some ((inn a b c, ()), ()) := by
  unfold S_impl_within p_impl_within inn
  by_cases h : b ≤ a <;> simp [h]
def grp (n : Int) : Bool := n == 3 || n == 5
theorem grp_iff {n : Int} : grp n = true ↔ n = 3 ∨ n = 5 := by simp [grp]
theorem spec_IsGroup_eq (n : Int) : S_spec_IsGroup n = some ((grp n, ()), ()) := by
  unfold S_spec_IsGroup p_spec_IsGroup grp
  by_cases h : n = 3 <;> simp [h]
theorem impl_IsGroup_eq (n : Int) : S_impl_IsGroup n = some ((grp n, ()), ()) := by
  unfold S_impl_IsGroup p_impl_IsGroup grp
  by_cases h : n = 3 <;> simp [h]
theorem grp_wrap {n : Int} (h : grp n = true) : IntKind.i64.wrap (n - 1) = n - 1 := by
  rw [grp_iff] at h; apply wrap_small <;> omega
/-- the first place of one that meets a test, -1 where none does -/
def idxI {β : Type} (q : β → Bool) : List β → Int → Int
  | [], _ => -1
  | b :: t, i => if q b then i else idxI q t (i + 1)
theorem idxI_any {β : Type} (q : β → Bool) : ∀ (l : List β) (i : Int), 0 ≤ i → decide (idxI q l i ≥ 0) = l.any q
  | [], i, h => by simp [idxI]
  | b :: t, i, h => by
    cases hb : q b with
    | true => simp [idxI, hb, h]
    | false => simp only [idxI, hb, Bool.false_eq_true, if_false, List.any_cons, Bool.false_or]; exact idxI_any q t (i + 1) (by omega)
theorem index_gen {β : Type} (z : β) (l : List β) (hl : l.length ≤ maxLen) (p : (β × Unit) → Option Bool) (q : β → Bool) (hp : ∀ x ∈ l, p (x, ()) = some (q x)) {N : Nat} (hN : l.length < N) :
    (loopN N (fun rec1 (d2 : (List β × ((β × Unit) → Option Bool) × Int × Int × Unit) × (Unit)) => (if (decide (d2.1.2.2.2.1 < d2.1.2.2.1)) then (if (decide (0 ≤ d2.1.2.2.2.1)) then (if (decide (d2.1.2.2.2.1 < d2.1.1.length)) then ((d2.1.2.1 ((rd d2.1.1 d2.1.2.2.2.1 z), ())).bind fun y3 => (if y3 then (some ((d2.1.2.2.2.1, ()), ())) else (rec1 ((d2.1.1, d2.1.2.1, d2.1.2.2.1, (IntKind.i64.wrap (d2.1.2.2.2.1 + (1 : Int))), ()), (()))))) else none) else none) else (some (((-1 : Int), ()), ())))) ((l, p, (l.length : Int), (0 : Int), ()), (())))
      = some ((idxI q l 0, ()), ()) := by
  refine loopN_over l hl (fun i (s : Unit) => ((l, p, (l.length : Int), (i : Int), ()), ())) (fun i t s => ((idxI q t (i : Int), ()), ())) (fun i t s => True)
    () rfl rfl trivial hN (fun rec s h => ?_) (fun rec i b t s hat h hrec => ?_)
  · dsimp only
    simp [idxI]
  · dsimp only
    simp only [hat.lt, hat.nn, hat.wrap, hat.rd, decide_true, if_true, hp b hat.mem, Option.bind_some, idxI]
    cases q b with
    | true => simp
    | false => simp only [Bool.false_eq_true, if_false]; exact hrec () trivial
theorem IndexFunc_Lint_eq {l : List Int} {p : (Int × Unit) → Option Bool} (q : Int → Bool) (hl : l.length ≤ maxLen) (hp : ∀ x ∈ l, p (x, ()) = some (q x)) : S_IndexFunc_Lint_int l p = some ((idxI q l 0, ()), ()) :=
  lim_eq (l.length + 1) fun N hN => index_gen 0 l hl p q hp hN
theorem ContainsFunc_Lint_eq {l : List Int} {p : (Int × Unit) → Option Bool} (q : Int → Bool) (hl : l.length ≤ maxLen) (hp : ∀ x ∈ l, p (x, ()) = some (q x)) : S_ContainsFunc_Lint_int l p = some ((l.any q, ()), ()) := by
  unfold S_ContainsFunc_Lint_int p_ContainsFunc_Lint_int
  rw [IndexFunc_Lint_eq q hl hp]
  simp only [Option.bind_some, idxI_any q l 0 (Int.le_refl 0)]
/-- the one ahead of place i -/
def prv {β : Type} (l : List β) (i : Nat) : Option β := if i = 0 then none else l[i - 1]?
theorem prv_zero {β : Type} (l : List β) : prv l 0 = none := rfl
theorem prv_succ {β : Type} {l : List β} {i : Nat} {b : β} (h : l[i]? = some b) : prv l (i + 1) = some b := by simp [prv, h]
theorem prv_pos {β : Type} {l : List β} (hl : l.length ≤ maxLen) {i : Nat} (h : 0 < i) (hi : i < l.length) :
    ∃ c, prv l i = some c ∧ (∀ d, rd l (IntKind.i64.wrap ((i : Int) - 1)) d = c) ∧ (0 : Int) ≤ IntKind.i64.wrap ((i : Int) - 1) ∧ IntKind.i64.wrap ((i : Int) - 1) < (l.length : Int) ∧ c ∈ l := by
  rw [maxLen_eq] at hl
  have hw : IntKind.i64.wrap ((i : Int) - 1) = ((i - 1 : Nat) : Int) := by rw [wrap_small (by omega) (by omega)]; omega
  have hg : l[i - 1]? = some (l[i - 1]'(by omega)) := List.getElem?_eq_getElem (by omega)
  refine ⟨l[i - 1]'(by omega), by rw [prv, if_neg (by omega), hg], fun d => ?_, by rw [hw]; omega, by rw [hw]; omega, List.getElem_mem _⟩
  rw [hw, rd_nat, List.getD_eq_getElem?_getD, hg]; rfl
theorem not_any_not {β : Type} (l : List β) (q : β → Bool) : (!l.any fun x => !q x) = l.all q := by
  induction l with
  | nil => rfl
  | cons b t ih => rw [List.any_cons, List.all_cons, Bool.not_or, Bool.not_not, ih]
def inst (n r k : Int) : Bool := inn r 0 (n - 1) && inn k 1 6
theorem spec_l3Inst_eq {n : Int} (hn : grp n = true) (r k : Int) : S_spec_l3Inst n r k = some ((inst n r k, ()), ()) := by
  unfold S_spec_l3Inst p_spec_l3Inst inst
  rw [grp_wrap hn, spec_l1In_eq]
  simp only [Option.bind_some, spec_l1In_eq]
  cases inn r 0 (n - 1) <;> simp
theorem impl_isInstance_eq {n : Int} (hn : grp n = true) (r k : Int) : S_impl_isInstance n r k = some ((inst n r k, ()), ()) := by
  unfold S_impl_isInstance p_impl_isInstance inst
  rw [grp_wrap hn, impl_IsGroup_eq, hn, impl_within_eq]
  simp only [Option.bind_some, if_true, impl_within_eq]
  cases inn r 0 (n - 1) <;> simp
def cmpI (a b : Int) : Int := if a < b then -1 else if a > b then 1 else 0
theorem cmp_Compare_eq (a b : Int) : S_cmp_Compare_int a b = some ((cmpI a b, ()), ()) := by
  unfold S_cmp_Compare_int p_cmp_Compare_int S_cmp_isNaN_int p_cmp_isNaN_int cmpI
  by_cases h : a < b
  · simp [h]
  · by_cases h2 : b < a <;> simp [h, h2]
def cmpL : List Int → List Int → Int
  | [], [] => 0
  | [], _ :: _ => -1
  | _ :: _, [] => 1
  | a :: s, b :: t => if cmpI a b != 0 then cmpI a b else cmpL s t
theorem Compare_Lint_eq (l m : List Int) (hl : l.length ≤ maxLen) (hm : m.length ≤ maxLen) : S_Compare_Lint_int l m = some ((cmpL l m, ()), ()) := by
  unfold S_Compare_Lint_int
  refine lim_eq (l.length + 1) fun N hN => ?_
  unfold p_Compare_Lint_int
  refine loopN_over l hl (fun i (s : Unit) => ((l, m, l, (l.length : Int), (i : Int), ()), ())) (fun i t s => ((cmpL t (m.drop i), ()), ())) (fun i t s => i ≤ m.length)
    () rfl rfl (by omega) hN (fun rec s h => ?_) (fun rec i b t s hat h hrec => ?_)
  · dsimp only
    simp only [lenInt_lt_irrefl, decide_false, Bool.false_eq_true, if_false]
    rcases Nat.lt_or_ge l.length m.length with h1 | h1
    · rw [List.drop_eq_getElem_cons h1, decide_eq_true (by omega)]; rfl
    · rw [List.drop_eq_nil_of_le h1, decide_eq_false (by omega)]; rfl
  · dsimp only
    simp only [hat.lt, hat.nn, hat.wrap, hat.rd, decide_true, if_true]
    rcases Nat.lt_or_ge i m.length with h1 | h1
    · have hb := At.of hm (List.drop_eq_getElem_cons h1)
      rw [decide_eq_false (by omega)]
      simp only [hb.lt, hb.rd, hb.drop, Bool.false_eq_true, if_false, decide_true, if_true, cmp_Compare_eq, Option.bind_some, cmpL]
      by_cases hc : (cmpI b (m[i]'h1) != 0) = true
      · simp [hc]
      · simp only [hc]; exact hrec () (by omega)
    · rw [List.drop_eq_nil_of_le h1, decide_eq_true (by omega)]; rfl
def pairLt : List Int → List Int → Bool
  | [c, d], [a, b] => decide (c < a) || (decide (c = a) && decide (d < b))
  | _, _ => true
def instOf (n : Int) : List Int → Bool
  | [a, b] => inst n a b
  | _ => false
def ltO : Option (List Int) → List Int → Bool
  | some y, x => pairLt y x
  | none, _ => true
def doneB (n : Int) : Option (List Int) → List (List Int) → Bool
  | _, [] => true
  | p, x :: t => instOf n x && ltO p x && doneB n (some x) t
theorem two_of {x : List Int} : ((x.length : Int) != 2) = false → ∃ a b, x = [a, b] := by
  intro h
  simp only [bne_eq_false_iff_eq] at h
  match x, h with
  | [a, b], _ => exact ⟨a, b, rfl⟩
  | [], h => simp at h
  | [_], h => simp at h
  | _ :: _ :: _ :: _, h => simp at h; omega
theorem not_two {n : Int} {x : List Int} (h : ((x.length : Int) != 2) = true) : instOf n x = false := by
  match x, h with
  | [a, b], h => simp at h
  | [], h => rfl
  | [_], h => rfl
  | _ :: _ :: _ :: _, h => rfl
theorem spec_l18Done_eq {n : Int} (hn : grp n = true) (l : List (List Int)) (hl : l.length ≤ maxLen) : S_spec_l18Done n l = some ((doneB n none l, ()), ()) := by
  unfold S_spec_l18Done
  refine lim_eq (l.length + 1) fun N hN => ?_
  unfold p_spec_l18Done
  refine loopN_over l hl (fun i (s : Unit) => ((n, l, l, (l.length : Int), (i : Int), ()), ())) (fun i t s => ((doneB n (prv l i) t, ()), ())) (fun i t s => ∀ y, prv l i = some y → ∃ c d, y = [c, d])
    () rfl rfl (fun y h => by cases h) hN (fun rec s h => ?_) (fun rec i b t s hat h hrec => ?_)
  · dsimp only
    simp [doneB]
  · have hlt := hat.ltn
    have hrec := hrec ()
    rw [prv_succ hat.get] at hrec
    dsimp only
    simp only [hat.lt, hat.nn, hat.wrap, hat.rd, decide_true, if_true]
    cases h2 : ((b.length : Int) != 2) with
    | true =>
      simp only [if_true, doneB, not_two h2, Bool.false_and]
    | false =>
      obtain ⟨x, y, rfl⟩ := two_of h2
      have hrec := hrec fun z hz => ⟨x, y, by simpa using hz.symm⟩
      have h3 : (0 : Int) < (([x, y] : List Int).length : Int) := by simp
      have h4 : (1 : Int) < (([x, y] : List Int).length : Int) := by simp
      have r0 : ∀ d, rd [x, y] (0 : Int) d = x := fun d => rfl
      have r1 : ∀ d, rd [x, y] (1 : Int) d = y := fun d => rfl
      simp only [Bool.false_eq_true, if_false, Int.le_refl, decide_true, if_true, h3, h4, r0, r1, spec_l3Inst_eq hn, Option.bind_some, doneB, instOf, show (0 : Int) ≤ 1 by omega]
      cases hi : inst n x y with
      | false => simp
      | true =>
        simp only [Bool.not_true, Bool.false_eq_true, if_false, Bool.true_and]
        rcases Nat.eq_zero_or_pos i with rfl | hi0
        · rw [decide_eq_false (by omega)]
          simp only [Bool.false_eq_true, if_false, prv_zero, ltO, Bool.true_and]
          exact hrec
        · obtain ⟨c, q1, q2, q3, q4, _⟩ := prv_pos hl hi0 hlt
          obtain ⟨u, v, rfl⟩ := h c q1
          have h5 : (0 : Int) < (([u, v] : List Int).length : Int) := by simp
          have h6 : (1 : Int) < (([u, v] : List Int).length : Int) := by simp
          have r2 : ∀ d, rd [u, v] (0 : Int) d = u := fun d => rfl
          have r3 : ∀ d, rd [u, v] (1 : Int) d = v := fun d => rfl
          rw [decide_eq_true (by omega)]
          simp only [if_true, q1, q2, q3, q4, decide_true, Int.le_refl, h5, h6, r2, r3, show (0 : Int) ≤ 1 by omega, ltO, pairLt]
          rcases Int.lt_trichotomy u x with hux | hux | hux
          · rw [decide_eq_false (by omega), decide_eq_true hux]
            have : (u == x) = false := by simp; omega
            simp only [this, Bool.false_eq_true, if_false, Bool.true_or, Bool.true_and]
            exact hrec
          · subst hux
            simp only [Int.lt_irrefl, gt_iff_lt, decide_false, Bool.false_eq_true, if_false, beq_self_eq_true, if_true, decide_true, Bool.false_or, Bool.true_and]
            by_cases hv : v < y
            · rw [decide_eq_false (by omega), decide_eq_true hv]
              simp only [Bool.false_eq_true, if_false, Bool.true_and]
              exact hrec
            · rw [decide_eq_true (by omega), decide_eq_false hv]
              simp
          · have n1 : ¬ u < x := by omega
            have n2 : ¬ u = x := by omega
            simp [n1, n2, hux]
theorem cmpL_two (a b c d : Int) : decide (cmpL [c, d] [a, b] ≥ 0) = !pairLt [c, d] [a, b] := by
  simp only [cmpL, cmpI, pairLt]
  rcases Int.lt_trichotomy c a with h | h | h
  · simp [h]
  · subst h
    rcases Int.lt_trichotomy d b with h | h | h
    · simp [h]
    · subst h; simp
    · have h1 : ¬ d < b := by omega
      simp [h, h1]
  · have h1 : ¬ c < a := by omega
    have h2 : ¬ c = a := by omega
    simp [h, h1, h2]
theorem impl_riseInstances_eq {n : Int} (hn : grp n = true) (l : List (List Int)) (hl : l.length ≤ maxLen) : S_impl_riseInstances n l = some ((doneB n none l, ()), ()) := by
  unfold S_impl_riseInstances
  refine lim_eq (l.length + 1) fun N hN => ?_
  unfold p_impl_riseInstances
  refine loopN_over l hl (fun i (s : Unit) => ((n, l, l, (l.length : Int), (i : Int), ()), ())) (fun i t s => ((doneB n (prv l i) t, ()), ())) (fun i t s => ∀ y, prv l i = some y → ∃ c d, y = [c, d])
    () rfl rfl (fun y h => by cases h) hN (fun rec s h => ?_) (fun rec i b t s hat h hrec => ?_)
  · dsimp only
    simp [doneB]
  · have hlt := hat.ltn
    have hrec := hrec ()
    rw [prv_succ hat.get] at hrec
    dsimp only
    simp only [hat.lt, hat.nn, hat.wrap, hat.rd, decide_true, if_true]
    cases h2 : ((b.length : Int) != 2) with
    | true =>
      simp only [if_true, doneB, not_two h2, Bool.false_and]
    | false =>
      obtain ⟨x, y, rfl⟩ := two_of h2
      have hrec := hrec fun z hz => ⟨x, y, by simpa using hz.symm⟩
      have h3 : (0 : Int) < (([x, y] : List Int).length : Int) := by simp
      have h4 : (1 : Int) < (([x, y] : List Int).length : Int) := by simp
      have r0 : ∀ d, rd [x, y] (0 : Int) d = x := fun d => rfl
      have r1 : ∀ d, rd [x, y] (1 : Int) d = y := fun d => rfl
      simp only [Bool.false_eq_true, if_false, Int.le_refl, decide_true, if_true, h3, h4, r0, r1, impl_isInstance_eq hn, Option.bind_some, doneB, instOf, show (0 : Int) ≤ 1 by omega]
      cases hi : inst n x y with
      | false => simp
      | true =>
        simp only [Bool.not_true, Bool.false_eq_true, if_false, Bool.true_and]
        rcases Nat.eq_zero_or_pos i with rfl | hi0
        · rw [decide_eq_false (by omega)]
          simp only [Bool.false_eq_true, if_false, prv_zero, ltO, Bool.true_and]
          exact hrec
        · obtain ⟨c, q1, q2, q3, q4, _⟩ := prv_pos hl hi0 hlt
          obtain ⟨u, v, rfl⟩ := h c q1
          rw [decide_eq_true (by omega)]
          simp only [if_true, q1, q2, q3, q4, decide_true, ltO, Compare_Lint_eq [u, v] [x, y] (by simp [maxLen_eq]) (by simp [maxLen_eq]), Option.bind_some, cmpL_two]
          cases pairLt [u, v] [x, y] with
          | false => simp
          | true => simp only [Bool.not_true, Bool.false_eq_true, if_false, Bool.true_and]; exact hrec
def addAll : List Int → Int
  | [] => 0
  | b :: t => b + addAll t
def goodSums (l : List Int) : Bool := (l.length == 4) && (l.all fun b => inn b 0 400) && (addAll l == 400)
theorem impl_total_eq (l : List Int) (hl : l.length ≤ 1048576) (h : ∀ b ∈ l, 0 ≤ b ∧ b ≤ 400) : S_impl_total l = some ((addAll l, ()), ()) := by
  unfold S_impl_total
  refine lim_eq (l.length + 1) fun N hN => ?_
  unfold p_impl_total
  refine loopN_over l (by rw [maxLen_eq]; omega) (fun i (s : Int) => ((s, l, (l.length : Int), (i : Int), ()), ())) (fun i t s => ((s + addAll t, ()), ())) (fun i t s => 0 ≤ s ∧ s ≤ 400 * i)
    0 rfl (by simp) ⟨by omega, by omega⟩ hN (fun rec s h => ?_) (fun rec i b t s hat hI hrec => ?_)
  · dsimp only
    simp [addAll]
  · obtain ⟨h1, h2⟩ := h b hat.mem
    have := hat.ltn
    dsimp only
    simp only [hat.lt, hat.nn, hat.wrap, hat.rd, decide_true, if_true]
    rw [wrap_small (n := s + b) (by omega) (by omega)]
    refine (hrec (s + b) ⟨by omega, by omega⟩).trans ?_
    simp only [addAll, Option.some.injEq, Prod.mk.injEq, and_true]
    omega
theorem impl_GoodSums_eq (l : List Int) (hl : l.length ≤ maxLen) : S_impl_GoodSums l = some ((goodSums l, ()), ()) := by
  unfold S_impl_GoodSums p_impl_GoodSums goodSums
  by_cases h4 : l.length = 4
  · simp only [h4, show (((4 : Nat) : Int) == 4) = true from rfl, if_true, impl_within_eq, Option.bind_some]
    rw [ContainsFunc_Lint_eq (fun b => !inn b 0 400) hl (fun x _ => rfl)]
    simp only [Option.bind_some, not_any_not]
    cases ha : l.all (fun b => inn b 0 400) with
    | false => simp
    | true =>
      rw [List.all_eq_true] at ha
      rw [if_pos rfl, impl_total_eq l (by omega) fun b hb => by have := ha b hb; simpa [inn] using this]
      simp
  · have h5 : ((l.length : Int) == 4) = false := by simp; omega
    have h6 : (l.length == 4) = false := by simpa using h4
    simp [h5, h6]
theorem spec_GoodSums_eq (l : List Int) (hl : l.length ≤ maxLen) : S_spec_GoodSums l = some ((goodSums l, ()), ()) := by
  unfold S_spec_GoodSums
  refine lim_eq (l.length + 1) fun N hN => ?_
  unfold p_spec_GoodSums
  refine loopN_over l hl (fun i (s : Int) => ((l, s, l, (l.length : Int), (i : Int), ()), ())) (fun i t s => (((l.length == 4) && (t.all fun b => inn b 0 400) && (s + addAll t == 400), ()), ())) (fun i t s => l.length = 4 → 0 ≤ s ∧ s ≤ 400 * i)
    0 rfl (by simp [goodSums]) (fun _ => ⟨by omega, by omega⟩) hN (fun rec s h => ?_) (fun rec i b t s hat hI hrec => ?_)
  · dsimp only
    simp only [lenInt_lt_irrefl, decide_false, Bool.false_eq_true, if_false, addAll, List.all_nil, Bool.and_true, Int.add_zero]
    by_cases h4 : l.length = 4
    · simp [h4]
    · have h5 : ((l.length : Int) == 4) = false := by simp; omega
      have h6 : (l.length == 4) = false := by simpa using h4
      simp [h5, h6]
  · have hlt := hat.ltn
    dsimp only
    simp only [hat.lt, hat.nn, hat.wrap, hat.rd, decide_true, if_true, spec_l1In_eq, Option.bind_some, List.all_cons]
    cases hb : inn b 0 400 with
    | false => simp
    | true =>
      have hb' := inn_iff.1 hb
      simp only [Bool.not_true, Bool.false_eq_true, if_false, Bool.true_and]
      by_cases h4 : l.length = 4
      · obtain ⟨h1, h2⟩ := hI h4
        rw [wrap_small (n := s + b) (by omega) (by omega)]
        refine (hrec (s + b) fun _ => ⟨by omega, by omega⟩).trans ?_
        simp only [addAll, Int.add_assoc]
      · refine (hrec _ fun h => absurd h h4).trans ?_
        have h6 : (l.length == 4) = false := by simpa using h4
        simp [h6]
abbrev CheckT := List (List Int) × (List Int × Unit)
theorem sz_Check : SzOk S_laws_szCheck := fun x k h0 h1 hl => by
  unfold S_laws_szCheck p_laws_szCheck
  have e : Cnt.cnt x = Cnt.cnt x.1 + Cnt.cnt x.2.1 := by show _ + (_ + 0) = _; omega
  rw [e, sz_IntSS _ _ h0 h1 hl.1]
  refine sz_then h0 h1 rfl fun k' hk h0 h1 => ?_
  simp only [hk, Bool.false_eq_true, if_false]
  rw [sz_IntS _ _ h0 h1 hl.2.1]
  exact sz_last h0 h1 rfl fun k' hk => by simp only [hk, Bool.false_eq_true, if_false]
theorem to_Check : ToOk S_laws_toCheck := fun x h => by
  have e : Cnt.cnt x = Cnt.cnt x.1 + Cnt.cnt x.2.1 := by show _ + (_ + 0) = _; omega
  unfold S_laws_toCheck p_laws_toCheck
  rw [to_IntSS _ (by omega), to_IntS _ (by omega)]
  rfl
theorem eq_Check : EqOk S_laws_eqCheck := fun a b ha hb => by
  unfold S_laws_eqCheck p_laws_eqCheck
  simp only [eq_IntSS _ _ ha.1 hb.1, eq_IntS _ _ ha.2.1 hb.2.1, Option.bind_some]
  refine (eq_then (eq_then rfl)).trans ?_
  simp only [same_pair a, same_pair a.2, same_unit]
theorem spec_GoodCheck_eq (n : Int) (x : CheckT) (hl : WL.wl x) : S_spec_GoodCheck n x = some ((grp n && (doneB n none x.1 && goodSums x.2.1), ()), ()) := by
  unfold S_spec_GoodCheck p_spec_GoodCheck
  simp only [spec_IsGroup_eq, Option.bind_some]
  cases hg : grp n with
  | false => simp
  | true =>
    simp only [if_true, spec_l18Done_eq hg _ hl.1.1, spec_GoodSums_eq _ hl.2.1.1, Option.bind_some]
    cases doneB n none x.1 <;> simp
theorem impl_GoodCheck_eq (n : Int) (x : CheckT) (hl : WL.wl x) : S_impl_GoodCheck n x = some ((grp n && (doneB n none x.1 && goodSums x.2.1), ()), ()) := by
  unfold S_impl_GoodCheck p_impl_GoodCheck
  simp only [impl_IsGroup_eq, Option.bind_some]
  cases hg : grp n with
  | false => simp
  | true =>
    simp only [if_true, impl_riseInstances_eq hg _ hl.1.1, impl_GoodSums_eq _ hl.2.1.1, Option.bind_some]
    cases doneB n none x.1 <;> simp
inductive Rch (E : Nat → Nat → Prop) : Nat → Nat → Prop where
  | one {a b : Nat} (h : E a b) : Rch E a b
  | more {a b c : Nat} (h : Rch E a b) (k : E b c) : Rch E a c
theorem Rch.trans {E : Nat → Nat → Prop} {a b c : Nat} (h : Rch E a b) (k : Rch E b c) : Rch E a c := by
  induction k with
  | one k => exact .more h k
  | more _ k ih => exact .more ih k
/-- a way whose inner points are below k -/
def Pth (E : Nat → Nat → Prop) : Nat → Nat → Nat → Prop
  | 0, i, j => E i j
  | k + 1, i, j => Pth E k i j ∨ (Pth E k i k ∧ Pth E k k j)
theorem Pth.of {E : Nat → Nat → Prop} {i j : Nat} (h : E i j) : ∀ k, Pth E k i j
  | 0 => h
  | k + 1 => .inl (Pth.of h k)
theorem Pth.trans {E : Nat → Nat → Prop} : ∀ {k m i j : Nat}, m < k → Pth E k i m → Pth E k m j → Pth E k i j
  | 0, m, _, _, h, _, _ => by omega
  | k + 1, m, i, j, h, h1, h2 => by
    rcases Nat.lt_or_ge m k with hm | hm
    · rcases h1 with h1 | ⟨h1, h1'⟩ <;> rcases h2 with h2 | ⟨h2, h2'⟩
      · exact .inl (Pth.trans hm h1 h2)
      · exact .inr ⟨Pth.trans hm h1 h2, h2'⟩
      · exact .inr ⟨h1, Pth.trans hm h1' h2⟩
      · exact .inr ⟨h1, h2'⟩
    · obtain rfl : m = k := by omega
      have a1 : Pth E m i m := by rcases h1 with h1 | h1; exact h1; exact h1.1
      have a2 : Pth E m m j := by rcases h2 with h2 | h2; exact h2; exact h2.2
      exact .inr ⟨a1, a2⟩
def PE (l : List (List Int)) (a b : Nat) : Prop := [(a : Int), (b : Int)] ∈ l
noncomputable def cyc (l : List (List Int)) : Bool := open Classical in decide (∃ i, Rch (PE l) i i)
def okP (n : Int) (p : List Int) : Bool := (p.length == 2) && (p.all fun x => inn x 0 (n - 1))
theorem okP_some {n : Nat} {p : List Int} (h : okP n p = true) : ∃ a b : Nat, p = [(a : Int), (b : Int)] ∧ a < n ∧ b < n := by
  unfold okP at h
  rw [Bool.and_eq_true] at h
  match p, h with
  | [x, y], h =>
    simp only [List.all_cons, List.all_nil, Bool.and_true, Bool.and_eq_true, inn_iff] at h
    exact ⟨x.toNat, y.toNat, by rw [Int.toNat_of_nonneg h.2.1.1, Int.toNat_of_nonneg h.2.2.1], by omega, by omega⟩
theorem PE.lt {l : List (List Int)} {n : Nat} (h : ∀ p ∈ l, okP n p = true) (a b : Nat) (hab : PE l a b) : a < n ∧ b < n := by
  obtain ⟨x, y, he, h1, h2⟩ := okP_some (h _ hab)
  simp only [List.cons.injEq, and_true] at he
  omega
noncomputable def hr (l : List (List Int)) (n : Int) : Bool × Bool × Unit := if (decide (l.length ≤ 2000) && inn n 0 60) && l.all (okP n) then (cyc l, true, ()) else (false, false, ())
abbrev rlist (r : T7) : List Int := r.2.2.2.2.1.2.1
structure GoodR (R : List (List T7)) : Prop where
  n : R.length = 3 ∨ R.length = 5
  six : ∀ x ∈ R, x.length ≤ 6
  len : ∀ x ∈ R, ∀ r ∈ x, (rlist r).length = R.length
  val : ∀ x ∈ R, ∀ r ∈ x, ∀ b ∈ rlist r, 0 ≤ b ∧ b ≤ 6
theorem GoodR.grp {R : List (List T7)} (h : GoodR R) : grp (R.length : Int) = true := by rw [grp_iff]; have := h.n; omega
theorem idxI_lt {β : Type} (q : β → Bool) : ∀ (l : List β) (i : Int), 0 ≤ i → idxI q l i ≥ 0 → idxI q l i < i + (l.length : Int)
  | [], i, h, h' => by simp [idxI] at h'
  | b :: t, i, h, h' => by
    unfold idxI at h' ⊢
    cases hb : q b with
    | true => simp; omega
    | false =>
      rw [hb] at h'
      simp only [Bool.false_eq_true, if_false] at h' ⊢
      have := idxI_lt q t (i + 1) (by omega) h'
      simp only [List.length_cons]
      omega
structure GoodW (n a : Int) (S : List (List Int)) (G : List Int) : Prop where
  grp : grp n = true
  who : 0 ≤ a ∧ a < n
  wl : WL.wl S
  len : G.length = S.length
  val : ∀ b ∈ G, 0 ≤ b ∧ b ≤ 20
theorem GoodW.at {n a : Int} {S : List (List Int)} {G : List Int} (h : GoodW n a S G) {q : List Int → Bool} (hk : idxI q S 0 ≥ 0) : idxI q S 0 < (G.length : Int) ∧ 0 ≤ rd G (idxI q S 0) 0 ∧ rd G (idxI q S 0) 0 ≤ 20 := by
  have h1 := idxI_lt q S 0 (by omega) hk
  have h2 : idxI q S 0 < (G.length : Int) := by rw [h.len]; omega
  have h3 := h.val _ (List.mem_of_getElem? (rd_get (d := 0) hk h2))
  exact ⟨h2, h3⟩
/-- few places, few hosts -/
def goodP (P : List (List Int)) : Prop := P.length ≤ 5 ∧ ∀ p ∈ P, p.length ≤ 6 ∧ ∀ a ∈ p, 0 ≤ a ∧ a ≤ 3
theorem goodP.wl {P : List (List Int)} (h : goodP P) : WL.wl P := ⟨by rw [maxLen_eq]; have := h.1; omega, fun p hp => ⟨by rw [maxLen_eq]; have := (h.2 p hp).1; omega, fun _ _ => trivial⟩⟩
/-- a text of these bytes -/
def bs (l : List UInt8) : ByteArray := ⟨l.toArray⟩
theorem bs_data (l : List UInt8) : (bs l).data.toList = l := by simp [bs]
theorem bs_size (l : List UInt8) : (bs l).size = l.length := by simp [bs, ByteArray.size]
theorem bs_append (a b : List UInt8) : bs a ++ bs b = bs (a ++ b) := by
  apply ByteArray.ext
  rw [ByteArray.data_append]
  simp [bs]
theorem one_bs (c : UInt8) : (⟨#[c]⟩ : ByteArray) = bs [c] := rfl
theorem nDigits_le : ∀ (k u : Nat), u < 10 ^ (k + 1) → nDigits u ≤ k + 1
  | 0, u, h => by rw [nDigits_small (by simpa using h)]; omega
  | k + 1, u, h => by
    by_cases h1 : u < 10
    · rw [nDigits_small h1]; omega
    · rw [nDigits_big h1]
      rw [Nat.pow_succ] at h
      have := nDigits_le k (u / 10) (by omega)
      omega
theorem digits_len {u : Nat} (h : u ≤ 9223372036854775807) : (decDigits u).length ≤ 19 := by
  rw [decDigits_length]
  exact nDigits_le 18 u (by omega)
/-- the digits of a number that is not negative -/
def num (n : Int) : List UInt8 := decDigits n.toNat
/-- is it a number of the machine's? -/
def I64 (n : Int) : Prop := -9223372036854775808 ≤ n ∧ n ≤ 9223372036854775807
theorem num_len {n : Int} (h : I64 n) : (num n).length ≤ 19 := digits_len (by have := h.2; omega)
theorem digit_str {u : Nat} (h : u < 10) : strOf [IntKind.u8.wrap (IntKind.i64.wrap ((48 : Int) + (u : Int)))] = bs [UInt8.ofNat (48 + u)] := by
  rw [wrap_small (n := (48 : Int) + u) (by omega) (by omega)]
  have : IntKind.u8.wrap ((48 : Int) + u) = ((48 + u : Nat) : Int) := by
    rw [IntKind.wrap_u8]; omega
  rw [this]
  rfl
theorem spec_num_at : ∀ (N u : Nat), u ≤ 9223372036854775807 → u < N → p_spec_l1Num N (u : Int) = some ((bs (decDigits u), ()), ())
  | 0, u, _, h => by omega
  | N + 1, u, hu, h => by
    unfold p_spec_l1Num
    by_cases h1 : u < 10
    · rw [decide_eq_true (by omega), if_pos rfl, digit_str h1, decDigits_one h1]
    · rw [decide_eq_false (by omega), if_neg (by simp)]
      have hd : ((u : Int)).tdiv 10 = ((u / 10 : Nat) : Int) := by
        rw [Int.tdiv_eq_ediv_of_nonneg (by omega)]; rfl
      have hm : Int.tmod (u : Int) 10 = ((u % 10 : Nat) : Int) := by
        rw [Int.tmod_eq_emod_of_nonneg (by omega)]; rfl
      rw [hd, hm, wrap_small (n := ((u / 10 : Nat) : Int)) (by omega) (by omega), spec_num_at N (u / 10) (by omega) (by omega), digit_str (by omega)]
      have hl := digits_len (u := u / 10) (by omega)
      simp only [show ((10 : Int) == 0) = false from rfl, Bool.false_eq_true, if_false, Option.bind_some, bs_size, bs_append, List.length_singleton]
      rw [decide_eq_true (by omega), if_pos rfl]
      conv => rhs; rw [decDigits, dif_neg h1]
theorem spec_num_eq {n : Int} (h0 : 0 ≤ n) (h : I64 n) : S_spec_l1Num n = some ((bs (num n), ()), ()) := by
  obtain ⟨u, rfl⟩ := Int.eq_ofNat_of_zero_le h0
  have := h.2
  exact lim_eq (u + 1) fun N hN => spec_num_at N u (by omega) (by omega)
theorem itoa_eq {n : Int} (h0 : 0 ≤ n) (h : I64 n) : S_strconv_Itoa n = some ((bs (num n), ()), ()) := by
  unfold S_strconv_Itoa
  rw [if_pos (show _ ∧ _ from h)]
  obtain ⟨u, rfl⟩ := Int.eq_ofNat_of_zero_le h0
  unfold itoa num
  rw [if_neg (by omega)]; rfl
theorem join_eq (ws : List (List UInt8)) (sep : List UInt8) (h1 : ws.length ≤ 140737488355328) (h2 : (join ws sep).length ≤ 140737488355328) : S_strings_Join (ws.map bs) (bs sep) = some ((bs (join ws sep), ()), ()) := by
  unfold S_strings_Join
  have e : (ws.map bs).map (fun x => x.data.toList) = ws := by
    rw [List.map_map]
    exact (List.map_congr_left fun x _ => bs_data x).trans (List.map_id _)
  rw [e, bs_data, if_pos ⟨by simpa using h1, h2⟩]
  rfl
theorem bs_beq (a : List UInt8) : ((bs a).toList == (bs a).toList) = true := by simp
theorem joinTail_nil (sep : List UInt8) : joinTail sep [] = [] := rfl
theorem joinTail_cons (sep x : List UInt8) (r : List (List UInt8)) : joinTail sep (x :: r) = sep ++ x ++ joinTail sep r := by simp [joinTail]
theorem lens_le {k : Nat} : ∀ (ws : List (List UInt8)), (∀ w ∈ ws, w.length ≤ k) → lens ws ≤ k * ws.length
  | [], _ => by simp [lens]
  | x :: r, h => by
    have h1 := h x (by simp)
    have h2 := lens_le r fun w hw => h w (by simp [hw])
    simp only [lens, List.map_cons, List.sum_cons, List.length_cons, Nat.mul_succ] at h2 ⊢
    omega
theorem join_len {k : Nat} (ws : List (List UInt8)) (sep : List UInt8) (h : ∀ w ∈ ws, w.length ≤ k) : (join ws sep).length ≤ (sep.length + k) * ws.length := by
  cases ws with
  | nil => simp [join_nil]
  | cons x r =>
    rw [join_length]
    have h1 := lens_le (x :: r) h
    have h2 : sep.length * r.length ≤ sep.length * (x :: r).length := Nat.mul_le_mul_left _ (by simp)
    rw [Nat.add_mul]
    omega
abbrev YI : Ty := .int .i64
theorem wl_ints' {s : Nat} {l : List Int} (h : Wf (.slice s YI) l) : WL.wl l := ⟨h.1, fun _ _ => trivial⟩
/-- a number that is not negative -/
def Nn (n : Int) : Prop := 0 ≤ n ∧ I64 n
theorem nn_num {n : Int} (h : Nn n) : (num n).length ≤ 19 := num_len h.2
theorem nn_of {n : Int} (h : 0 ≤ n) (h' : n ≤ 9223372036854775807) : Nn n := ⟨h, by unfold I64; omega⟩
/-- what is written so far, and what comes -/
def joinFrom (i : Nat) (s sep : List UInt8) (ws : List (List UInt8)) : List UInt8 := if i = 0 then join ws sep else s ++ joinTail sep ws
theorem joinFrom_nil (i : Nat) (s sep : List UInt8) (h : i = 0 → s = []) : joinFrom i s sep [] = s := by
  unfold joinFrom
  split
  · rename_i h0; rw [h h0, join_nil]
  · simp [joinTail_nil]
theorem joinFrom_zero (s sep : List UInt8) (x : List UInt8) (r : List (List UInt8)) : joinFrom 0 s sep (x :: r) = joinFrom 1 x sep r := by
  simp [joinFrom, join_cons]
theorem joinFrom_succ {i : Nat} (s sep : List UInt8) (x : List UInt8) (r : List (List UInt8)) (h : i ≠ 0) : joinFrom i s sep (x :: r) = joinFrom (i + 1) (s ++ sep ++ x) sep r := by
  simp [joinFrom, h, joinTail_cons]
theorem spec_l3List_eq (l : List Int) (hl : l.length ≤ 1048576) (h : ∀ x ∈ l, Nn x) : S_spec_l3List l = some ((bs (join (l.map num) [44]), ()), ()) := by
  unfold S_spec_l3List
  refine lim_eq (l.length + 1) fun N hN => ?_
  unfold p_spec_l3List
  refine loopN_over l (by rw [maxLen_eq]; omega) (fun i (s : List UInt8) => ((bs s, l, (l.length : Int), (i : Int), ()), ())) (fun i t s => ((bs (joinFrom i s [44] (t.map num)), ()), ())) (fun i t s => s.length ≤ 20 * i ∧ (i = 0 → s = []) ∧ i ≤ l.length)
    [] rfl (by simp [joinFrom]) ⟨by simp, fun _ => rfl, by omega⟩ hN (fun rec s hs => ?_) (fun rec i b t s hat hs hrec => ?_)
  · dsimp only
    simp only [lenInt_lt_irrefl, decide_false, Bool.false_eq_true, if_false, List.map_nil]
    rw [joinFrom_nil _ _ _ hs.2.1]
  · obtain ⟨hs1, hs2, hs3⟩ := hs
    have hb := h b hat.mem
    have hbl := nn_num hb
    have hi := hat.ltn
    dsimp only
    simp only [hat.lt, hat.nn, hat.wrap, hat.rd, decide_true, if_true, spec_num_eq hb.1 hb.2, Option.bind_some, one_bs, bs_append, bs_size, List.length_append, List.length_singleton]
    rcases Nat.eq_zero_or_pos i with rfl | hi0
    · obtain rfl := hs2 rfl
      rw [decide_eq_false (by omega), if_neg (by simp), decide_eq_true (by simp; omega), if_pos rfl]
      refine (hrec _ ⟨by simp; omega, by simp, by omega⟩).trans ?_
      simp only [List.map_cons, joinFrom_zero, List.nil_append]
    · rw [decide_eq_true (by omega), if_pos rfl, decide_eq_true (by omega), if_pos rfl, decide_eq_true (by omega), if_pos rfl]
      refine (hrec _ ⟨by simp; omega, by omega, by omega⟩).trans ?_
      simp only [List.map_cons, joinFrom_succ _ _ _ _ (Nat.ne_of_gt hi0)]
theorem mem_snoc {β : Type} {s : List β} {x : β} {P : β → Prop} (h : ∀ w ∈ s, P w) (hx : P x) : ∀ w ∈ s ++ [x], P w := by
  intro w hw
  rcases List.mem_append.1 hw with hw | hw
  · exact h w hw
  · simp at hw; subst hw; exact hx
theorem impl_joined_eq (c : UInt8) (l : List Int) (hl : l.length ≤ 1048576) (h : ∀ x ∈ l, Nn x) : S_impl_joined (bs [c]) l = some ((bs (join (l.map num) [c]), ()), ()) := by
  unfold S_impl_joined
  refine lim_eq (l.length + 1) fun N hN => ?_
  unfold p_impl_joined
  refine loopN_over l (by rw [maxLen_eq]; omega) (fun i (s : List (List UInt8)) => ((bs [c], l, (l.length : Int), (i : Int), ()), s.map bs, ())) (fun i t s => ((bs (join (s ++ t.map num) [c]), ()), ())) (fun i t s => s.length = i ∧ i ≤ l.length ∧ ∀ w ∈ s, w.length ≤ 19)
    [] rfl rfl ⟨rfl, by omega, by simp⟩ hN (fun rec s hs => ?_) (fun rec i b t s hat hs hrec => ?_)
  · obtain ⟨hs1, hs2, hs3⟩ := hs
    have hj := join_len s [c] hs3
    simp only [List.length_singleton] at hj
    dsimp only
    simp only [lenInt_lt_irrefl, decide_false, Bool.false_eq_true, if_false, List.map_nil, List.append_nil]
    rw [join_eq s [c] (by omega) (by omega)]
    rfl
  · obtain ⟨hs1, hs2, hs3⟩ := hs
    have hb := h b hat.mem
    have hi := hat.ltn
    have hr := hrec (s ++ [num b]) ⟨by simp; omega, by omega, mem_snoc hs3 (nn_num hb)⟩
    simp only [List.map_append, List.map_cons, List.map_nil] at hr
    dsimp only
    simp only [hat.lt, hat.nn, hat.wrap, hat.rd, decide_true, if_true, itoa_eq hb.1 hb.2, Option.bind_some, List.length_map, List.length_singleton]
    rw [decide_eq_true (by omega), if_pos rfl]
    refine hr.trans ?_
    simp
/-- an instance's text -/
def instText : List Int → List UInt8
  | [a, b] => num a ++ [46] ++ num b
  | _ => []
/-- two numbers that are not negative -/
def Two (x : List Int) : Prop := ∃ a b, x = [a, b] ∧ Nn a ∧ Nn b
theorem two_len {x : List Int} (h : Two x) : (instText x).length ≤ 39 := by
  obtain ⟨a, b, rfl, ha, hb⟩ := h
  have h1 := nn_num ha
  have h2 := nn_num hb
  simp [instText]; omega
/-- a checkpoint's text -/
def checkText (x : T1) : List UInt8 := join (x.1.map instText) [32] ++ [124] ++ join (x.2.1.map num) [44]
theorem spec_l18Text_eq (x : T1) (h1 : x.1.length ≤ 1048576) (h2 : x.2.1.length ≤ 1048576) (hx : ∀ y ∈ x.1, Two y) (hs : ∀ y ∈ x.2.1, Nn y) : S_spec_l18Text x = some ((bs (checkText x), ()), ()) := by
  obtain ⟨l, m, ⟨⟩⟩ := x
  dsimp only at h1 h2 hx hs
  unfold S_spec_l18Text
  refine lim_eq (l.length + 1) fun N hN => ?_
  unfold p_spec_l18Text
  refine loopN_over l (by rw [maxLen_eq]; omega) (fun i (s : List UInt8) => ((bs s, l, (l.length : Int), (i : Int), ()), (l, m, ()), ())) (fun i t s => ((bs (joinFrom i s [32] (t.map instText) ++ [124] ++ join (m.map num) [44]), ()), ())) (fun i t s => s.length ≤ 40 * i ∧ (i = 0 → s = []) ∧ i ≤ l.length)
    [] rfl (by simp [joinFrom, checkText]) ⟨by simp, fun _ => rfl, by omega⟩ hN (fun rec s hs' => ?_) (fun rec i b t s hat hs' hrec => ?_)
  · obtain ⟨hs1, hs2, hs3⟩ := hs'
    have hj := join_len (m.map num) [44] (k := 19) (by intro w hw; obtain ⟨y, hy, rfl⟩ := List.mem_map.1 hw; exact nn_num (hs y hy))
    simp only [List.length_singleton, List.length_map] at hj
    dsimp only
    simp only [lenInt_lt_irrefl, decide_false, Bool.false_eq_true, if_false, List.map_nil, one_bs, bs_append, bs_size, spec_l3List_eq m h2 hs, Option.bind_some, List.length_append, List.length_singleton]
    rw [decide_eq_true (by omega), if_pos rfl, decide_eq_true (by omega), if_pos rfl, joinFrom_nil _ _ _ hs2]
  · obtain ⟨hs1, hs2, hs3⟩ := hs'
    obtain ⟨a, c, rfl, ha, hc⟩ := hx b hat.mem
    have hal := nn_num ha
    have hcl := nn_num hc
    have hi := hat.ltn
    have e0 : ∀ d, rd [a, c] (0 : Int) d = a := fun d => rfl
    have e1 : ∀ d, rd [a, c] (1 : Int) d = c := fun d => rfl
    dsimp only
    simp only [hat.lt, hat.nn, hat.wrap, hat.rd, e0, e1, decide_true, if_true, Int.le_refl, show (0 : Int) ≤ 1 by omega, show (0 : Int) < (([a, c] : List Int).length : Int) by simp, show (1 : Int) < (([a, c] : List Int).length : Int) by simp, spec_num_eq ha.1 ha.2, spec_num_eq hc.1 hc.2, Option.bind_some, one_bs, bs_append, bs_size, List.length_append, List.length_singleton]
    rcases Nat.eq_zero_or_pos i with rfl | hi0
    · obtain rfl := hs2 rfl
      rw [decide_eq_false (by omega), if_neg (by simp), decide_eq_true (by omega), if_pos rfl, decide_eq_true (by omega), if_pos rfl, decide_eq_true (by simp; omega), if_pos rfl]
      refine (hrec _ ⟨by simp; omega, by simp, by omega⟩).trans ?_
      simp only [List.map_cons, joinFrom_zero, List.nil_append, instText]
    · rw [decide_eq_true (by omega), if_pos rfl, decide_eq_true (by omega), if_pos rfl, decide_eq_true (by omega), if_pos rfl, decide_eq_true (by omega), if_pos rfl, decide_eq_true (by omega), if_pos rfl]
      refine (hrec _ ⟨by simp; omega, by omega, by omega⟩).trans ?_
      simp only [List.map_cons, joinFrom_succ _ _ _ _ (Nat.ne_of_gt hi0), instText]
theorem impl_checkText_eq (x : T1) (h1 : x.1.length ≤ 1048576) (h2 : x.2.1.length ≤ 1048576) (hx : ∀ y ∈ x.1, Two y) (hs : ∀ y ∈ x.2.1, Nn y) : S_impl_checkText x = some ((bs (checkText x), ()), ()) := by
  obtain ⟨l, m, ⟨⟩⟩ := x
  dsimp only at h1 h2 hx hs
  unfold S_impl_checkText
  refine lim_eq (l.length + 1) fun N hN => ?_
  unfold p_impl_checkText
  refine loopN_over l (by rw [maxLen_eq]; omega) (fun i (s : List (List UInt8)) => ((l, (l.length : Int), (i : Int), ()), (l, m, ()), s.map bs, ())) (fun i t s => ((bs (join (s ++ t.map instText) [32] ++ [124] ++ join (m.map num) [44]), ()), ())) (fun i t s => s.length = i ∧ i ≤ l.length ∧ ∀ w ∈ s, w.length ≤ 39)
    [] rfl rfl ⟨rfl, by omega, by simp⟩ hN (fun rec s hs' => ?_) (fun rec i b t s hat hs' hrec => ?_)
  · obtain ⟨hs1, hs2, hs3⟩ := hs'
    have hj := join_len (m.map num) [44] (k := 19) (by intro w hw; obtain ⟨y, hy, rfl⟩ := List.mem_map.1 hw; exact nn_num (hs y hy))
    have hk := join_len s [32] hs3
    simp only [List.length_singleton, List.length_map] at hj hk
    dsimp only
    simp only [lenInt_lt_irrefl, decide_false, Bool.false_eq_true, if_false, List.map_nil, List.append_nil, one_bs]
    rw [join_eq s [32] (by omega) (by omega)]
    simp only [Option.bind_some, bs_append, bs_size, impl_joined_eq 44 m h2 hs, List.length_append, List.length_singleton]
    rw [decide_eq_true (by omega), if_pos rfl, decide_eq_true (by omega), if_pos rfl]
  · obtain ⟨hs1, hs2, hs3⟩ := hs'
    have htw := hx b hat.mem
    have hi := hat.ltn
    have hr := hrec (s ++ [instText b]) ⟨by simp; omega, by omega, mem_snoc hs3 (two_len htw)⟩
    obtain ⟨a, c, rfl, ha, hc⟩ := htw
    have hal := nn_num ha
    have hcl := nn_num hc
    have e0 : ∀ d, rd [a, c] (0 : Int) d = a := fun d => rfl
    have e1 : ∀ d, rd [a, c] (1 : Int) d = c := fun d => rfl
    simp only [List.map_append, List.map_cons, List.map_nil, instText] at hr
    dsimp only
    simp only [hat.lt, hat.nn, hat.wrap, hat.rd, e0, e1, decide_true, if_true, Int.le_refl, show (0 : Int) ≤ 1 by omega, show (0 : Int) < (([a, c] : List Int).length : Int) by simp, show (1 : Int) < (([a, c] : List Int).length : Int) by simp, itoa_eq ha.1 ha.2, itoa_eq hc.1 hc.2, Option.bind_some, one_bs, bs_append, bs_size, List.length_append, List.length_singleton, List.length_map]
    rw [decide_eq_true (by omega), if_pos rfl, decide_eq_true (by omega), if_pos rfl, decide_eq_true (by omega), if_pos rfl]
    refine hr.trans ?_
    simp [instText]
theorem doneB_two {n : Int} (hg : grp n = true) : ∀ (l : List (List Int)) (p : Option (List Int)), doneB n p l = true → ∀ y ∈ l, Two y
  | [], _, _, y, hy => by cases hy
  | x :: r, p, h, y, hy => by
    simp only [doneB, Bool.and_eq_true] at h
    rcases List.mem_cons.1 hy with rfl | hy
    · have h1 := h.1.1
      unfold instOf at h1
      split at h1
      · rename_i a b
        simp only [inst, Bool.and_eq_true, inn_iff] at h1
        have hn := grp_iff.1 hg
        exact ⟨a, b, rfl, nn_of h1.1.1 (by omega), nn_of (by omega) (by omega)⟩
      · cases h1
    · exact doneB_two hg r _ h.2 y hy
theorem goodSums_nn {l : List Int} (h : goodSums l = true) : ∀ y ∈ l, Nn y := by
  simp only [goodSums, Bool.and_eq_true, List.all_eq_true] at h
  intro y hy
  have := inn_iff.1 (h.1.2 y hy)
  exact nn_of this.1 (by omega)
abbrev Y1 (s t : Nat) : Ty := .pair (.slice s (.slice t YI)) (.pair (.slice t YI) .unit)
theorem wl1 {s t : Nat} {x : T1} (h : Wf (Y1 s t) x) : WL.wl x := ⟨⟨h.1.1, fun y hy => wl_ints' (s := t) (h.1.2 y hy)⟩, wl_ints' h.2.1, trivial⟩
theorem law_CheckText (n : Int) (x : T1) (hl : WL.wl x) (N : Nat) : p_laws_FnExactCheckText N n x = some ((true, ()), ()) := by
  unfold p_laws_FnExactCheckText
  rw [sz_Check _ _ (by omega) (by omega) hl]
  refine sz_over (by omega) rfl fun hn r hr => ?_
  have hc : Cnt.cnt x ≤ 1048576 := Int.ofNat_le.1 hn
  have ht := to_Check x hc
  have e : Cnt.cnt x = Cnt.cnt x.1 + Cnt.cnt x.2.1 := by show _ + (_ + 0) = _; omega
  rw [e, cnt_list, cnt_list] at hc
  simp only [hr, Bool.false_eq_true, if_false, ht, Option.bind_some]
  unfold S_spec_CheckText p_spec_CheckText S_impl_CheckText p_impl_CheckText
  simp only [spec_GoodCheck_eq n x hl, impl_GoodCheck_eq n x hl, Option.bind_some]
  cases hg : (grp n && (doneB n none x.1 && goodSums x.2.1)) with
  | false => simp [eq_Check x x hl hl, same_self]
  | true =>
    simp only [Bool.and_eq_true] at hg
    have hx := doneB_two hg.1 x.1 none hg.2.1
    have hs := goodSums_nn hg.2.2
    simp only [Bool.not_true, Bool.false_eq_true, if_false, spec_l18Text_eq x (by omega) (by omega) hx hs, impl_checkText_eq x (by omega) (by omega) hx hs, Option.bind_some, bs_beq, bne_self_eq_false, eq_Check x x hl hl, same_self]
end Go.AM.P
