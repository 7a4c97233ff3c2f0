/- Lemmas on what functions do to data. No condition. -/
import Derived.Test.YtmnekhlgldljcaaDoorAmP
set_option linter.unusedVariables false
set_option linter.unusedSimpArgs false
set_option maxRecDepth 4000
namespace Go.AM.P
open Go.AM Go.Lib

/-- lists no longer than lists are -/
class WL (α : Type) where
  wl : α → Prop
instance : WL Int := ⟨fun _ => True⟩
instance : WL Bool := ⟨fun _ => True⟩
instance : WL Unit := ⟨fun _ => True⟩
instance : WL ByteArray := ⟨fun s => s.size ≤ maxLen⟩
instance {α β : Type} [WL α] [WL β] : WL (α × β) := ⟨fun x => WL.wl x.1 ∧ WL.wl x.2⟩
instance {α : Type} [WL α] : WL (List α) := ⟨fun l => l.length ≤ maxLen ∧ ∀ x ∈ l, WL.wl x⟩
theorem wl_mem {α : Type} [WL α] {l : List α} (h : WL.wl l) {x : α} (hx : x ∈ l) : WL.wl x := h.2 x hx
class Cnt (α : Type) where
  cnt : α → Nat
instance : Cnt Int := ⟨fun _ => 0⟩
instance : Cnt Bool := ⟨fun _ => 0⟩
instance : Cnt Unit := ⟨fun _ => 0⟩
instance : Cnt ByteArray := ⟨fun s => s.size⟩
instance {α β : Type} [Cnt α] [Cnt β] : Cnt (α × β) := ⟨fun x => Cnt.cnt x.1 + Cnt.cnt x.2⟩
def sumCnt {α : Type} (f : α → Nat) : List α → Nat
  | [] => 0
  | x :: r => f x + sumCnt f r
instance {α : Type} [Cnt α] : Cnt (List α) := ⟨fun l => l.length + sumCnt Cnt.cnt l⟩
theorem le_sumCnt {α : Type} (f : α → Nat) {l : List α} {x : α} (h : x ∈ l) : f x ≤ sumCnt f l := by
  induction l with
  | nil => cases h
  | cons y r ih =>
    simp only [sumCnt]
    rcases List.mem_cons.1 h with rfl | h
    · omega
    · have := ih h; omega
theorem cnt_list {α : Type} [Cnt α] (l : List α) : Cnt.cnt l = l.length + sumCnt Cnt.cnt l := rfl
theorem cnt_pair {α β : Type} [Cnt α] [Cnt β] (x : α × β) : Cnt.cnt x = Cnt.cnt x.1 + Cnt.cnt x.2 := rfl
theorem sumCnt_int (l : List Int) : sumCnt Cnt.cnt l = 0 := by
  induction l with
  | nil => rfl
  | cons x r ih => simp only [sumCnt, ih]; rfl
theorem cnt_ints (l : List Int) : Cnt.cnt l = l.length := by rw [cnt_list, sumCnt_int, Nat.add_zero]
/-- what the laws' counting says -/
def szV (n : Nat) (k : Int) : Int := if (n : Int) ≤ k then k - n else -1
def szRes (n : Nat) (k : Int) : Option ((Int × Unit) × Unit) := some ((szV n k, ()), ())
theorem szV_pos {n : Nat} {k : Int} (h : (n : Int) ≤ k) : szV n k = k - n := if_pos h
theorem szV_neg {n : Nat} {k : Int} (h : ¬ (n : Int) ≤ k) : szV n k = -1 := if_neg h
def SzOk {α : Type} [Cnt α] [WL α] (f : α → Int → Option ((Int × Unit) × Unit)) : Prop :=
  ∀ (x : α) (k : Int), 0 ≤ k → k ≤ 1048576 → WL.wl x → f x k = szRes (Cnt.cnt x) k
theorem sz_head {n : Nat} {k : Int} (hn : n ≤ maxLen) (h0 : 0 ≤ k) (h1 : k ≤ 1048576) : IntKind.i64.wrap (k - (n : Int)) = k - n := by
  rw [maxLen_eq] at hn
  exact wrap_small (by omega) (by omega)
theorem sz_list {α : Type} [Cnt α] [WL α] {f : α → Int → Option ((Int × Unit) × Unit)} (hf : SzOk f) (z : α) (l : List α) (k : Int) (h0 : 0 ≤ k) (h1 : k ≤ 1048576) (hl : WL.wl l) {N : Nat} (hN : l.length < N) :
    (if (decide ((IntKind.i64.wrap (k - (l.length : Int))) < (0 : Int))) then (some (((-1 : Int), ()), ())) else (loopN N (fun rec1 (d2 : (List α × Int × Int × Unit) × (Unit)) => (if (decide (d2.1.2.2.1 < (d2.1.1.length : Int))) then (if (decide (0 ≤ d2.1.2.2.1)) then (if (decide (d2.1.2.2.1 < d2.1.1.length)) then ((f (rd d2.1.1 d2.1.2.2.1 z) d2.1.2.1).bind fun y3 => (if (decide (y3.1.1 < (0 : Int))) then (some (((-1 : Int), ()), ())) else (rec1 ((d2.1.1, y3.1.1, (IntKind.i64.wrap (d2.1.2.2.1 + (1 : Int))), ()), (()))))) else none) else none) else (some ((d2.1.2.1, ()), ())))) ((l, (IntKind.i64.wrap (k - (l.length : Int))), (0 : Int), ()), (()))))
    = szRes (Cnt.cnt l) k := by
  rw [sz_head hl.1 h0 h1]
  by_cases hk : k - (l.length : Int) < 0
  · simp only [hk, decide_true, if_true, szRes, cnt_list]
    rw [szV_neg (by omega)]
  simp only [hk, decide_false, Bool.false_eq_true, if_false]
  refine loopN_over l hl.1 (fun i (s : Int) => ((l, s, (i : Int), ()), ())) (fun i t s => ((szV (sumCnt Cnt.cnt t) s, ()), ())) (fun i t s => 0 ≤ s ∧ s ≤ 1048576)
    (k - l.length) rfl ?_ ⟨by omega, by omega⟩ hN (fun rec s h => ?_) (fun rec i b t s hat h hrec => ?_)
  · rw [cnt_list]
    simp only [Prod.mk.injEq, and_true]
    unfold szV
    split <;> split <;> omega
  · dsimp only
    simp only [lenInt_lt_irrefl, decide_false, Bool.false_eq_true, if_false, sumCnt]
    simp [szV, h.1]
  · dsimp only
    simp only [hat.lt, hat.nn, hat.wrap, hat.rd, decide_true, if_true]
    rw [hf b s h.1 h.2 (wl_mem hl hat.mem)]
    simp only [szRes, Option.bind_some, sumCnt]
    by_cases hb : (Cnt.cnt b : Int) ≤ s
    · rw [szV_pos hb, decide_eq_false (by omega)]
      simp only [Bool.false_eq_true, if_false]
      refine (hrec _ ⟨by omega, by omega⟩).trans ?_
      simp only [Option.some.injEq, Prod.mk.injEq, and_true]
      unfold szV
      split <;> split <;> omega
    · rw [szV_neg hb, szV_neg (by omega)]
      simp
theorem sz_IntS : SzOk S_laws_szIntS := fun x k h0 h1 hl => by
  unfold S_laws_szIntS p_laws_szIntS
  rw [sz_head hl.1 h0 h1, szRes, cnt_ints]
  by_cases hk : k - (x.length : Int) < 0
  · simp only [hk, decide_true, if_true]
    rw [szV_neg (by omega)]
  · simp only [hk, decide_false, Bool.false_eq_true, if_false]
    rw [szV_pos (by omega)]
/-- of no more than was counted -/
def ToOk {α : Type} [Cnt α] (f : α → Option ((α × Unit) × Unit)) : Prop := ∀ x : α, Cnt.cnt x ≤ 1048576 → f x = some ((x, ()), ())
theorem set_rep {β : Type} (xs : List β) (n : Nat) (z c : β) (i : Nat) (h : xs.length = i) : (xs ++ List.replicate (n + 1) z).set i c = (xs ++ [c]) ++ List.replicate n z := by
  subst h
  rw [List.replicate_succ]
  simp
theorem to_list {α : Type} [Cnt α] {f : α → Option ((α × Unit) × Unit)} (hf : ToOk f) (z : α) (w : Nat) (hw : w ≤ 1000) (l : List α) (hl : Cnt.cnt l ≤ 1048576) {N : Nat} (hN : l.length < N) :
    (if (decide ((0 : Int) ≤ (l.length : Int))) then (if ((l.length : Int) == (l.length : Int)) then (if (decide ((l.length : Int) * w ≤ 140737488355328)) then (loopN N (fun rec1 (d2 : (List α × Int × Unit) × (List α × List α × Unit)) => (if (decide (d2.1.2.1 < (d2.1.1.length : Int))) then (if (decide (0 ≤ d2.1.2.1)) then (if (decide (d2.1.2.1 < d2.1.1.length)) then ((f (rd d2.1.1 d2.1.2.1 z)).bind fun y3 => (if (decide (0 ≤ d2.1.2.1)) then (if (decide (d2.1.2.1 < d2.2.2.1.length)) then (rec1 ((d2.1.1, (IntKind.i64.wrap (d2.1.2.1 + (1 : Int))), ()), (d2.2.1, (d2.2.2.1.set d2.1.2.1.toNat y3.1.1), ()))) else none) else none)) else none) else none) else (some ((d2.2.2.1, ()), ())))) ((l, (0 : Int), ()), (([] : List α), (List.replicate (l.length : Int).toNat z), ()))) else none) else none) else none)
    = some ((l, ()), ()) := by
  rw [cnt_list] at hl
  have h1 : (0 : Int) ≤ (l.length : Int) := by omega
  have h2 : (l.length : Int) * w ≤ 140737488355328 := by
    have : (l.length : Int) * w ≤ 1048576 * 1000 := Int.mul_le_mul (by omega) (by omega) (by omega) (by omega)
    omega
  simp only [h1, h2, decide_true, if_true, beq_self_eq_true, Int.toNat_natCast]
  refine loopN_over l (by rw [maxLen_eq]; omega) (fun i (s : List α) => ((l, (i : Int), ()), ([], s ++ List.replicate (l.length - i) z, ()))) (fun i t s => ((s ++ t, ()), ())) (fun i t s => s.length = i)
    [] rfl rfl rfl hN (fun rec s h => ?_) (fun rec i b t s hat h hrec => ?_)
  · dsimp only
    simp [h]
  · have hlt := hat.ltn
    obtain ⟨m, hm⟩ : ∃ m, l.length - i = m + 1 := ⟨l.length - i - 1, by omega⟩
    dsimp only
    rw [hm]
    have hb : Cnt.cnt b ≤ 1048576 := by have := le_sumCnt Cnt.cnt hat.mem; omega
    have h5 : (i : Int) < ((s ++ List.replicate (m + 1) z).length : Int) := by simp [h]; omega
    simp only [hat.lt, hat.nn, hat.wrap, hat.rd, decide_true, if_true, hf b hb, Option.bind_some, h5, Int.toNat_natCast, set_rep s m z b i h]
    have := hrec (s ++ [b]) (by simp [h])
    rw [show l.length - (i + 1) = m by omega] at this
    exact this.trans (by simp)
theorem to_list0 {α : Type} [Cnt α] (z : α) (w : Nat) (hw : w ≤ 1000) (l : List α) (hl : Cnt.cnt l ≤ 1048576) {N : Nat} (hN : l.length < N) :
    (if (decide ((0 : Int) ≤ (l.length : Int))) then (if ((l.length : Int) == (l.length : Int)) then (if (decide ((l.length : Int) * w ≤ 140737488355328)) then (loopN N (fun rec1 (d2 : (List α × Int × Unit) × (List α × List α × Unit)) => (if (decide (d2.1.2.1 < (d2.1.1.length : Int))) then (if (decide (0 ≤ d2.1.2.1)) then (if (decide (d2.1.2.1 < d2.1.1.length)) then (if (decide (0 ≤ d2.1.2.1)) then (if (decide (d2.1.2.1 < d2.2.2.1.length)) then (rec1 ((d2.1.1, (IntKind.i64.wrap (d2.1.2.1 + (1 : Int))), ()), (d2.2.1, (d2.2.2.1.set d2.1.2.1.toNat (rd d2.1.1 d2.1.2.1 z)), ()))) else none) else none) else none) else none) else (some ((d2.2.2.1, ()), ())))) ((l, (0 : Int), ()), (([] : List α), (List.replicate (l.length : Int).toNat z), ()))) else none) else none) else none)
    = some ((l, ()), ()) := to_list (f := fun x => some ((x, ()), ())) (fun x _ => rfl) z w hw l hl hN
theorem to_IntS : ToOk S_laws_toIntS := fun x h => lim_eq (x.length + 1) fun N hN => to_list0 0 8 (by omega) x h hN
open Classical in
/-- are they the same? -/
noncomputable def same {α : Type} (a b : α) : Bool := decide (a = b)
theorem same_iff {α : Type} {a b : α} : same a b = true ↔ a = b := by simp [same]
theorem same_self {α : Type} (a : α) : same a a = true := same_iff.2 rfl
theorem same_cons {α : Type} (a b : α) (s t : List α) : same (a :: s) (b :: t) = (same a b && same s t) := by
  rw [Bool.eq_iff_iff]; simp [same_iff]
theorem same_pair {α β : Type} (a b : α × β) : same a b = (same a.1 b.1 && same a.2 b.2) := by
  rw [Bool.eq_iff_iff]; simp [same_iff, Prod.ext_iff]
theorem same_unit (a b : Unit) : same a b = true := same_iff.2 rfl
theorem same_bne (a b : Int) : (a != b) = !same a b := by
  by_cases h : a = b
  · subst h; simp [same_self]
  · have : same a b = false := by rw [Bool.eq_false_iff]; intro h2; exact h (same_iff.1 h2)
    simp [this, h]
def EqOk {α : Type} [WL α] (f : α → α → Option ((Bool × Unit) × Unit)) : Prop := ∀ a b : α, WL.wl a → WL.wl b → f a b = some ((same a b, ()), ())
theorem eq_list {α : Type} [WL α] {f : α → α → Option ((Bool × Unit) × Unit)} (hf : EqOk f) (z : α) (l m : List α) (hl : WL.wl l) (hm : WL.wl m) {N : Nat} (hN : l.length < N) :
    (if ((l.length : Int) != (m.length : Int)) then (some ((false, ()), ())) else (loopN N (fun rec1 (d2 : (List α × List α × Int × Unit) × (Unit)) => (if (decide (d2.1.2.2.1 < (d2.1.1.length : Int))) then (if (decide (0 ≤ d2.1.2.2.1)) then (if (decide (d2.1.2.2.1 < d2.1.1.length)) then (if (decide (0 ≤ d2.1.2.2.1)) then (if (decide (d2.1.2.2.1 < d2.1.2.1.length)) then ((f (rd d2.1.1 d2.1.2.2.1 z) (rd d2.1.2.1 d2.1.2.2.1 z)).bind fun y3 => (if (!y3.1.1) then (some ((false, ()), ())) else (rec1 ((d2.1.1, d2.1.2.1, (IntKind.i64.wrap (d2.1.2.2.1 + (1 : Int))), ()), (()))))) else none) else none) else none) else none) else (some ((true, ()), ())))) ((l, m, (0 : Int), ()), (()))))
      = some ((same l m, ()), ()) := by
  by_cases hlen : l.length = m.length
  · have h1 : ((l.length : Int) != (m.length : Int)) = false := by simp [hlen]
    rw [h1]
    simp only [Bool.false_eq_true, if_false]
    refine loopN_over l hl.1 (fun i (s : Unit) => ((l, m, (i : Int), ()), ())) (fun i t s => ((same t (m.drop i), ()), ())) (fun i t s => True)
      () rfl (by simp) trivial hN (fun rec s h => ?_) (fun rec i b t s hat h hrec => ?_)
    · dsimp only
      simp [hlen, same_self]
    · have hlt := hat.ltn
      have hd : m.drop i = m[i]'(by omega) :: m.drop (i + 1) := List.drop_eq_getElem_cons (by omega)
      have hb := At.of hm.1 hd
      have hr := hf b (m[i]'(by omega)) (wl_mem hl hat.mem) (wl_mem hm hb.mem)
      dsimp only
      simp only [hat.lt, hb.lt, hat.nn, hat.wrap, hat.rd, hb.rd, decide_true, if_true, hr, Option.bind_some, hd, same_cons]
      cases same b (m[i]'(by omega)) with
      | false => simp
      | true =>
        simp only [Bool.not_true, Bool.false_eq_true, if_false, Bool.true_and]
        exact hrec () trivial
  · have h1 : ((l.length : Int) != (m.length : Int)) = true := by simp; omega
    rw [h1]
    have : same l m = false := by rw [Bool.eq_false_iff]; intro h; rw [same_iff] at h; subst h; exact hlen rfl
    simp [this]
theorem eq_IntS : EqOk S_laws_eqIntS := fun a b ha hb => lim_eq (a.length + 1) fun N hN => by
  have h := eq_list (f := fun a b : Int => some ((same a b, ()), ())) (fun a b _ _ => rfl) 0 a b ha hb (N := N) hN
  unfold p_laws_eqIntS
  simp only [same_bne (rd _ _ _)]
  exact h
theorem cnt_int0 (n : Int) : Cnt.cnt n = 0 := rfl
theorem cnt_bool0 (n : Bool) : Cnt.cnt n = 0 := rfl
theorem cnt_unit0 (n : Unit) : Cnt.cnt n = 0 := rfl
theorem sz_then {n m : Nat} {k : Int} (h0 : 0 ≤ k) (h1 : k ≤ 1048576) {G : (Int × Unit) × Unit → Option ((Int × Unit) × Unit)} (hneg : G ((-1, ()), ()) = some ((-1, ()), ())) (hK : ∀ k' : Int, decide (k' < 0) = false → 0 ≤ k' → k' ≤ 1048576 → G ((k', ()), ()) = szRes m k') :
    (szRes n k).bind G = szRes (n + m) k := by
  simp only [szRes, Option.bind_some]
  by_cases hn : (n : Int) ≤ k
  · rw [szV_pos hn, hK _ (decide_eq_false (by omega)) (by omega) (by omega), szRes]
    simp only [Option.some.injEq, Prod.mk.injEq, and_true]
    unfold szV
    split <;> split <;> omega
  · rw [szV_neg hn, szV_neg (by omega), hneg]
theorem sz_last {n : Nat} {k : Int} (h0 : 0 ≤ k) (h1 : k ≤ 1048576) {G : (Int × Unit) × Unit → Option ((Int × Unit) × Unit)} (hneg : G ((-1, ()), ()) = some ((-1, ()), ())) (hK : ∀ k' : Int, decide (k' < 0) = false → G ((k', ()), ()) = some ((k', ()), ())) :
    (szRes n k).bind G = szRes n k := by
  have := sz_then (n := n) (m := 0) h0 h1 hneg fun k' h h2 h3 => (hK k' h).trans (by simp [szRes, szV, h2])
  simpa using this
theorem sz_over {n : Nat} {k : Int} (h0 : 0 ≤ k) {G : (Int × Unit) × Unit → Option ((Bool × Unit) × Unit)} (hneg : G ((-1, ()), ()) = some ((true, ()), ())) (hK : (n : Int) ≤ k → ∀ r : Int, decide (r < 0) = false → G ((r, ()), ()) = some ((true, ()), ())) :
    (szRes n k).bind G = some ((true, ()), ()) := by
  simp only [szRes, Option.bind_some]
  by_cases hn : (n : Int) ≤ k
  · rw [szV_pos hn]
    exact hK hn _ (decide_eq_false (by omega))
  · rw [szV_neg hn]; exact hneg
theorem eq_then {a r : Bool} {K : Option ((Bool × Unit) × Unit)} (hK : K = some ((r, ()), ())) : (if (!a) = true then (some ((false, ()), ())) else K) = some ((a && r, ()), ()) := by
  subst hK
  cases a <;> simp
theorem eq_thenI {a b : Int} {r : Bool} {K : Option ((Bool × Unit) × Unit)} (hK : K = some ((r, ()), ())) : (if (a != b) then (some ((false, ()), ())) else K) = some ((same a b && r, ()), ()) := by
  subst hK
  rw [same_bne]
  cases same a b <;> simp
/-- a number within bounds -/
def inn (n lo hi : Int) : Bool := decide (lo ≤ n) && decide (n ≤ hi)
theorem inn_iff {n lo hi : Int} : inn n lo hi = true ↔ lo ≤ n ∧ n ≤ hi := by simp [inn]
theorem spec_l1In_eq (a b c : Int) : S_spec_l1In a b c = some ((inn a b c, ()), ()) := by
  unfold S_spec_l1In p_spec_l1In inn
  by_cases h : b ≤ a <;> simp [h]
theorem impl_within_eq (a b c : Int) : S_impl_within a b c = some ((inn a b c, ()), ()) := by
  unfold S_impl_within p_impl_within inn
  by_cases h : b ≤ a <;> simp [h]
def grp (n : Int) : Bool := n == 3 || n == 5
theorem grp_iff {n : Int} : grp n = true ↔ n = 3 ∨ n = 5 := by simp [grp]
theorem spec_IsGroup_eq (n : Int) : S_spec_IsGroup n = some ((grp n, ()), ()) := by
  unfold S_spec_IsGroup p_spec_IsGroup grp
  by_cases h : n = 3 <;> simp [h]
theorem impl_IsGroup_eq (n : Int) : S_impl_IsGroup n = some ((grp n, ()), ()) := by
  unfold S_impl_IsGroup p_impl_IsGroup grp
  by_cases h : n = 3 <;> simp [h]
theorem grp_wrap {n : Int} (h : grp n = true) : IntKind.i64.wrap (n - 1) = n - 1 := by
  rw [grp_iff] at h; apply wrap_small <;> omega
/-- the first place of one that meets a test, -1 where none does -/
def idxI {β : Type} (q : β → Bool) : List β → Int → Int
  | [], _ => -1
  | b :: t, i => if q b then i else idxI q t (i + 1)
theorem idxI_any {β : Type} (q : β → Bool) : ∀ (l : List β) (i : Int), 0 ≤ i → decide (idxI q l i ≥ 0) = l.any q
  | [], i, h => by simp [idxI]
  | b :: t, i, h => by
    cases hb : q b with
    | true => simp [idxI, hb, h]
    | false => simp only [idxI, hb, Bool.false_eq_true, if_false, List.any_cons, Bool.false_or]; exact idxI_any q t (i + 1) (by omega)
theorem index_gen {β : Type} (z : β) (l : List β) (hl : l.length ≤ maxLen) (p : (β × Unit) → Option Bool) (q : β → Bool) (hp : ∀ x ∈ l, p (x, ()) = some (q x)) {N : Nat} (hN : l.length < N) :
    (loopN N (fun rec1 (d2 : (List β × ((β × Unit) → Option Bool) × Int × Int × Unit) × (Unit)) => (if (decide (d2.1.2.2.2.1 < d2.1.2.2.1)) then (if (decide (0 ≤ d2.1.2.2.2.1)) then (if (decide (d2.1.2.2.2.1 < d2.1.1.length)) then ((d2.1.2.1 ((rd d2.1.1 d2.1.2.2.2.1 z), ())).bind fun y3 => (if y3 then (some ((d2.1.2.2.2.1, ()), ())) else (rec1 ((d2.1.1, d2.1.2.1, d2.1.2.2.1, (IntKind.i64.wrap (d2.1.2.2.2.1 + (1 : Int))), ()), (()))))) else none) else none) else (some (((-1 : Int), ()), ())))) ((l, p, (l.length : Int), (0 : Int), ()), (())))
      = some ((idxI q l 0, ()), ()) := by
  refine loopN_over l hl (fun i (s : Unit) => ((l, p, (l.length : Int), (i : Int), ()), ())) (fun i t s => ((idxI q t (i : Int), ()), ())) (fun i t s => True)
    () rfl rfl trivial hN (fun rec s h => ?_) (fun rec i b t s hat h hrec => ?_)
  · dsimp only
    simp [idxI]
  · dsimp only
    simp only [hat.lt, hat.nn, hat.wrap, hat.rd, decide_true, if_true, hp b hat.mem, Option.bind_some, idxI]
    cases q b with
    | true => simp
    | false => simp only [Bool.false_eq_true, if_false]; exact hrec () trivial
theorem IndexFunc_Lint_eq {l : List Int} {p : (Int × Unit) → Option Bool} (q : Int → Bool) (hl : l.length ≤ maxLen) (hp : ∀ x ∈ l, p (x, ()) = some (q x)) : S_IndexFunc_Lint_int l p = some ((idxI q l 0, ()), ()) :=
  lim_eq (l.length + 1) fun N hN => index_gen 0 l hl p q hp hN
theorem ContainsFunc_Lint_eq {l : List Int} {p : (Int × Unit) → Option Bool} (q : Int → Bool) (hl : l.length ≤ maxLen) (hp : ∀ x ∈ l, p (x, ()) = some (q x)) : S_ContainsFunc_Lint_int l p = some ((l.any q, ()), ()) := by
  unfold S_ContainsFunc_Lint_int p_ContainsFunc_Lint_int
  rw [IndexFunc_Lint_eq q hl hp]
  simp only [Option.bind_some, idxI_any q l 0 (Int.le_refl 0)]
theorem not_any_not {β : Type} (l : List β) (q : β → Bool) : (!l.any fun x => !q x) = l.all q := by
  induction l with
  | nil => rfl
  | cons b t ih => rw [List.any_cons, List.all_cons, Bool.not_or, Bool.not_not, ih]
def inst (n r k : Int) : Bool := inn r 0 (n - 1) && inn k 1 6
theorem spec_l3Inst_eq {n : Int} (hn : grp n = true) (r k : Int) : S_spec_l3Inst n r k = some ((inst n r k, ()), ()) := by
  unfold S_spec_l3Inst p_spec_l3Inst inst
  rw [grp_wrap hn, spec_l1In_eq]
  simp only [Option.bind_some, spec_l1In_eq]
  cases inn r 0 (n - 1) <;> simp
theorem impl_isInstance_eq {n : Int} (hn : grp n = true) (r k : Int) : S_impl_isInstance n r k = some ((inst n r k, ()), ()) := by
  unfold S_impl_isInstance p_impl_isInstance inst
  rw [grp_wrap hn, impl_IsGroup_eq, hn, impl_within_eq]
  simp only [Option.bind_some, if_true, impl_within_eq]
  cases inn r 0 (n - 1) <;> simp
theorem spec_l1All_eq (l : List Int) (lo hi : Int) (hl : l.length ≤ maxLen) : S_spec_l1All l lo hi = some ((l.all (fun b => inn b lo hi), ()), ()) := by
  unfold S_spec_l1All
  refine lim_eq (l.length + 1) fun N hN => ?_
  unfold p_spec_l1All
  refine loopN_over l hl (fun i (s : Unit) => ((lo, hi, l, (l.length : Int), (i : Int), ()), ())) (fun i t s => ((t.all (fun b => inn b lo hi), ()), ())) (fun i t s => True)
    () rfl rfl trivial hN (fun rec s h => ?_) (fun rec i b t s hat h hrec => ?_)
  · dsimp only
    simp
  · dsimp only
    simp only [hat.lt, hat.nn, hat.wrap, hat.rd, decide_true, if_true, spec_l1In_eq, Option.bind_some, List.all_cons]
    cases hb : inn b lo hi with
    | false => simp
    | true => simp only [Bool.not_true, Bool.false_eq_true, if_false, Bool.true_and]; exact hrec () trivial
theorem to_Cmd : ToOk S_laws_toCmd := fun x h => by
  unfold S_laws_toCmd p_laws_toCmd
  rfl
theorem eq_Cmd : EqOk S_laws_eqCmd := fun a b ha hb => by
  unfold S_laws_eqCmd p_laws_eqCmd
  refine (eq_thenI (eq_thenI (eq_thenI (eq_thenI (eq_thenI rfl))))).trans ?_
  simp only [same_pair a, same_pair a.2, same_pair a.2.2, same_pair a.2.2.2, same_pair a.2.2.2.2, same_unit]
theorem sz_Attr : SzOk S_laws_szAttr := fun x k h0 h1 hl => by
  unfold S_laws_szAttr p_laws_szAttr
  have e : Cnt.cnt x = Cnt.cnt x.2.1 := by simp only [cnt_pair, cnt_int0, cnt_bool0, cnt_unit0]; omega
  rw [e]
  rw [sz_IntS _ _ h0 h1 hl.2.1]
  exact sz_last h0 h1 rfl fun k' hk => by simp only [hk, Bool.false_eq_true, if_false]
theorem to_Attr : ToOk S_laws_toAttr := fun x h => by
  unfold S_laws_toAttr p_laws_toAttr
  simp only [cnt_pair, cnt_int0, cnt_bool0, cnt_unit0] at h
  have e : Cnt.cnt x.2.1 ≤ 1048576 := by (first | omega | (simp only [cnt_pair, cnt_int0, cnt_bool0, cnt_unit0]; omega))
  simp only [to_IntS x.2.1 e, Option.bind_some]
theorem eq_Attr : EqOk S_laws_eqAttr := fun a b ha hb => by
  unfold S_laws_eqAttr p_laws_eqAttr
  simp only [eq_IntS _ _ ha.2.1 hb.2.1, Option.bind_some]
  refine (eq_thenI (eq_then rfl)).trans ?_
  simp only [same_pair a, same_pair a.2, same_unit]
theorem spec_l2Account_eq (n : Int) : S_spec_l2Account n = some ((inn n 0 3, ()), ()) := by
  unfold S_spec_l2Account p_spec_l2Account; rw [spec_l1In_eq]; rfl
theorem impl_isAccount_eq (n : Int) : S_impl_isAccount n = some ((inn n 0 3, ()), ()) := by
  unfold S_impl_isAccount p_impl_isAccount; rw [impl_within_eq]; rfl
def zcmd (c : T2) : Bool := (c.1 == 0 && (c.2.1 == 0 && (c.2.2.1 == 0 && (c.2.2.2.1 == 0 && (c.2.2.2.2.1 == 0 && true)))))
def gcmd (c : T2) : Bool :=
  if c.1 == 0 then zcmd c
  else if c.1 == 1 then inn c.2.1 1 999 && (inn c.2.2.1 0 3 && (inn c.2.2.2.1 0 3 && ((c.2.2.1 != c.2.2.2.1) && inn c.2.2.2.2.1 1 1000)))
  else if c.1 == 2 then inn c.2.1 1 999 && (inn c.2.2.1 0 3 && ((c.2.2.2.1 == 0) && (c.2.2.2.2.1 == 0))) else false
theorem impl_GoodCmd_eq (c : T2) : S_impl_GoodCmd c = some ((gcmd c, ()), ()) := by
  unfold S_impl_GoodCmd p_impl_GoodCmd gcmd
  simp only [impl_within_eq, impl_isAccount_eq, Option.bind_some]
  split
  · rfl
  · split
    · cases inn c.2.1 1 999 <;> cases inn c.2.2.1 0 3 <;> cases inn c.2.2.2.1 0 3 <;> cases (c.2.2.1 != c.2.2.2.1) <;> simp
    · split
      · cases inn c.2.1 1 999 <;> cases inn c.2.2.1 0 3 <;> cases (c.2.2.2.1 == 0) <;> simp
      · rfl
theorem l2Code_move (c : T2) (h : (c.1 == (1 : Int)) = true) : ∃ k : Int, S_spec_l2Code c = some ((k, ()), ()) ∧ (k == 0) = (inn c.2.1 1 999 && (inn c.2.2.1 0 3 && (inn c.2.2.2.1 0 3 && ((c.2.2.1 != c.2.2.2.1) && inn c.2.2.2.2.1 1 1000)))) := by
  unfold S_spec_l2Code p_spec_l2Code
  simp only [h, if_true]
  simp only [spec_l1In_eq, spec_l2Account_eq, Option.bind_some]
  have hb : (c.2.2.1 != c.2.2.2.1) = !(c.2.2.1 == c.2.2.2.1) := rfl
  rw [hb]
  generalize inn c.2.1 1 999 = a
  generalize inn c.2.2.1 0 3 = b
  generalize inn c.2.2.2.1 0 3 = d
  generalize inn c.2.2.2.2.1 1 1000 = e
  generalize (c.2.2.1 == c.2.2.2.1) = f
  cases a <;> cases b <;> cases d <;> cases e <;> cases f <;> exact ⟨_, rfl, rfl⟩
theorem l2Code_read (c : T2) (h : (c.1 == (1 : Int)) = false) : ∃ k : Int, S_spec_l2Code c = some ((k, ()), ()) ∧ (k == 0) = (inn c.2.1 1 999 && inn c.2.2.1 0 3) := by
  unfold S_spec_l2Code p_spec_l2Code
  simp only [h, Bool.false_eq_true, if_false]
  simp only [spec_l1In_eq, spec_l2Account_eq, Option.bind_some]
  generalize inn c.2.1 1 999 = a
  generalize inn c.2.2.1 0 3 = b
  cases a <;> cases b <;> exact ⟨_, rfl, rfl⟩
theorem spec_GoodCmd_eq (c : T2) : S_spec_GoodCmd c = some ((gcmd c, ()), ()) := by
  unfold S_spec_GoodCmd p_spec_GoodCmd gcmd
  split
  · rfl
  · split
    · rename_i h1
      obtain ⟨k, e1, e2⟩ := l2Code_move c h1
      rw [e1, Option.bind_some, e2]
    · split
      · rename_i h0 h1 h2
        obtain ⟨k, e1, e2⟩ := l2Code_read c (by simpa using h1)
        rw [e1, Option.bind_some, e2]
        generalize inn c.2.1 1 999 = a
        generalize inn c.2.2.1 0 3 = b
        generalize (c.2.2.2.1 == (0 : Int)) = d
        cases a <;> cases b <;> cases d <;> rfl
      · rfl
theorem spec_l1Same_eq (a b : List Int) (ha : a.length ≤ maxLen) (hb : b.length ≤ maxLen) : S_spec_l1Same a b = some ((same a b, ()), ()) := by
  unfold S_spec_l1Same
  refine lim_eq (a.length + 1) fun N hN => ?_
  unfold p_spec_l1Same
  by_cases hlen : a.length = b.length
  · have h1 : ((a.length : Int) != (b.length : Int)) = false := by simp [hlen]
    rw [h1]
    simp only [Bool.false_eq_true, if_false]
    refine loopN_over a ha (fun i (s : Unit) => ((a, b, (a.length : Int), (i : Int), ()), ())) (fun i t s => ((same t (b.drop i), ()), ())) (fun i t s => True)
      () rfl (by simp) trivial hN (fun rec s h => ?_) (fun rec i c t s hat h hrec => ?_)
    · dsimp only
      simp [hlen, same_self]
    · have hlt := hat.ltn
      have hd : b.drop i = b[i]'(by omega) :: b.drop (i + 1) := List.drop_eq_getElem_cons (by omega)
      have hb' := At.of hb hd
      dsimp only
      simp only [hat.lt, hb'.lt, hat.nn, hat.wrap, hat.rd, hb'.rd, decide_true, if_true, hd, same_cons, same_bne]
      cases same c (b[i]'(by omega)) with
      | false => simp
      | true =>
        simp only [Bool.not_true, Bool.false_eq_true, if_false, Bool.true_and]
        exact hrec () trivial
  · have h1 : ((a.length : Int) != (b.length : Int)) = true := by simp; omega
    rw [h1]
    have : same a b = false := by rw [Bool.eq_false_iff]; intro h; rw [same_iff] at h; subst h; exact hlen rfl
    simp [this]
theorem Equal_Lint_eq (a b : List Int) (ha : a.length ≤ maxLen) (hb : b.length ≤ maxLen) : S_Equal_Lint_int a b = some ((same a b, ()), ()) := spec_l1Same_eq a b ha hb
noncomputable def sameAttr (a b : T6) : Bool := (a.1 == b.1) && same a.2.1 b.2.1
theorem spec_SameAttr_eq (a b : T6) (ha : a.2.1.length ≤ maxLen) (hb : b.2.1.length ≤ maxLen) : S_spec_SameAttr a b = some ((sameAttr a b, ()), ()) := by
  unfold S_spec_SameAttr p_spec_SameAttr sameAttr
  rw [spec_l1Same_eq _ _ ha hb]
  cases (a.1 == b.1) <;> simp
theorem impl_SameAttr_eq (a b : T6) (ha : a.2.1.length ≤ maxLen) (hb : b.2.1.length ≤ maxLen) : S_impl_SameAttr a b = some ((sameAttr a b, ()), ()) := by
  unfold S_impl_SameAttr p_impl_SameAttr sameAttr
  rw [Equal_Lint_eq _ _ ha hb]
  cases (a.1 == b.1) <;> simp
def none6 (n : Int) : T6 := (0, List.replicate n.toNat 0, ())
theorem none6_len {n : Int} (h : grp n = true) : (none6 n).2.1.length ≤ maxLen := by
  rw [grp_iff] at h; rw [maxLen_eq]; simp [none6]; omega
theorem spec_l3None_eq {n : Int} (h : grp n = true) : S_spec_l3None n = some ((none6 n, ()), ()) := by
  rw [grp_iff] at h
  rcases h with rfl | rfl <;> rfl
theorem impl_noneAttr_eq {n : Int} (h : grp n = true) : S_impl_noneAttr n = some ((none6 n, ()), ()) := by
  rw [grp_iff] at h
  rcases h with rfl | rfl <;> rfl
def attrOk (n : Int) (a : T6) : Bool := inn a.1 0 999 && (((a.2.1.length : Int) == n) && a.2.1.all fun b => inn b 0 6)
theorem spec_l3Attr_eq (n : Int) (a : T6) (ha : a.2.1.length ≤ maxLen) : S_spec_l3Attr n a = some ((attrOk n a, ()), ()) := by
  unfold S_spec_l3Attr p_spec_l3Attr attrOk
  simp only [spec_l1In_eq, spec_l1All_eq _ _ _ ha, Option.bind_some]
  cases inn a.1 0 999 <;> cases ((a.2.1.length : Int) == n) <;> simp
theorem impl_GoodAttr_eq {n : Int} (h : grp n = true) (a : T6) (ha : a.2.1.length ≤ maxLen) : S_impl_GoodAttr n a = some ((attrOk n a, ()), ()) := by
  unfold S_impl_GoodAttr p_impl_GoodAttr attrOk
  simp only [impl_IsGroup_eq, h, if_true, impl_within_eq, Option.bind_some]
  rw [ContainsFunc_Lint_eq (fun b => !inn b 0 6) ha (fun x _ => rfl)]
  simp only [Option.bind_some, not_any_not]
  cases inn a.1 0 999 <;> cases ((a.2.1.length : Int) == n) <;> simp
theorem attr_none {n : Int} (h : grp n = true) (a : T6) (hs : sameAttr a (none6 n) = true) : attrOk n a = true := by
  simp only [sameAttr, Bool.and_eq_true, beq_iff_eq, same_iff] at hs
  obtain ⟨h1, h2⟩ := hs
  rw [grp_iff] at h
  simp only [attrOk, h1, h2, none6]
  rcases h with rfl | rfl <;> rfl
noncomputable def rowOk (n : Int) (r : T7) : Bool :=
  inn r.1 0 9999 && (inn r.2.1 0 r.1 && (inn r.2.2.1 0 3 && (if r.2.2.1 == 0 then (r.2.1 == 0) && (zcmd r.2.2.2.1 && sameAttr r.2.2.2.2.1 (none6 n)) else gcmd r.2.2.2.1 && attrOk n r.2.2.2.2.1)))
theorem spec_l4Row_eq {n : Int} (h : grp n = true) (r : T7) (ha : r.2.2.2.2.1.2.1.length ≤ maxLen) : S_spec_l4Row n r = some ((rowOk n r, ()), ()) := by
  unfold S_spec_l4Row p_spec_l4Row rowOk
  simp only [spec_l1In_eq, Option.bind_some]
  rw [spec_l3None_eq h, Option.bind_some, spec_SameAttr_eq _ _ ha (none6_len h), spec_GoodCmd_eq, Option.bind_some, spec_l3Attr_eq n _ ha, Option.bind_some]
  have hz : zcmd r.2.2.2.1 = (r.2.2.2.1.1 == (0 : Int) && (r.2.2.2.1.2.1 == (0 : Int) && (r.2.2.2.1.2.2.1 == (0 : Int) && (r.2.2.2.1.2.2.2.1 == (0 : Int) && (r.2.2.2.1.2.2.2.2.1 == (0 : Int) && true))))) := rfl
  rw [← hz]
  generalize inn r.1 0 9999 = a
  generalize inn r.2.1 0 r.1 = b
  generalize inn r.2.2.1 0 3 = c
  generalize (r.2.2.1 == (0 : Int)) = d
  generalize (r.2.1 == (0 : Int)) = e
  generalize zcmd r.2.2.2.1 = f
  generalize sameAttr r.2.2.2.2.1 (none6 n) = g
  generalize gcmd r.2.2.2.1 = i
  generalize attrOk n r.2.2.2.2.1 = j
  cases a <;> cases b <;> cases c <;> cases d <;> cases e <;> cases f <;> cases i <;> rfl
theorem zcmd_gcmd {c : T2} (h : zcmd c = true) : gcmd c = true := by
  have h0 : (c.1 == 0) = true := by simp only [zcmd, Bool.and_eq_true] at h; exact h.1
  unfold gcmd
  rw [if_pos h0]; exact h
theorem impl_goodRow_eq {n : Int} (h : grp n = true) (r : T7) (ha : r.2.2.2.2.1.2.1.length ≤ maxLen) : S_impl_goodRow n r = some ((rowOk n r, ()), ()) := by
  unfold S_impl_goodRow p_impl_goodRow rowOk
  rw [impl_within_eq, impl_within_eq, impl_within_eq, impl_GoodCmd_eq, impl_GoodAttr_eq h _ ha, impl_noneAttr_eq h, Option.bind_some, Option.bind_some, Option.bind_some, Option.bind_some, Option.bind_some, Option.bind_some, impl_SameAttr_eq _ _ ha (none6_len h), Option.bind_some]
  have hz : zcmd r.2.2.2.1 = (r.2.2.2.1.1 == (0 : Int) && (r.2.2.2.1.2.1 == (0 : Int) && (r.2.2.2.1.2.2.1 == (0 : Int) && (r.2.2.2.1.2.2.2.1 == (0 : Int) && (r.2.2.2.1.2.2.2.2.1 == (0 : Int) && true))))) := rfl
  rw [← hz]
  have k1 : zcmd r.2.2.2.1 = true → gcmd r.2.2.2.1 = true := zcmd_gcmd
  have k2 : sameAttr r.2.2.2.2.1 (none6 n) = true → attrOk n r.2.2.2.2.1 = true := attr_none h _
  have hd : (r.2.2.1 != (0 : Int)) = !(r.2.2.1 == (0 : Int)) := rfl
  rw [hd]
  revert k1 k2
  generalize inn r.1 0 9999 = a
  generalize inn r.2.1 0 r.1 = b
  generalize inn r.2.2.1 0 3 = c
  generalize (r.2.2.1 == (0 : Int)) = d
  generalize (r.2.1 == (0 : Int)) = e
  generalize zcmd r.2.2.2.1 = f
  generalize sameAttr r.2.2.2.2.1 (none6 n) = g
  generalize gcmd r.2.2.2.1 = i
  generalize attrOk n r.2.2.2.2.1 = j
  intro k1 k2
  cases a <;> cases b <;> cases c <;> cases d <;> cases i <;> cases j <;> cases e <;> cases f <;> cases g <;> first | rfl | (exact absurd (k1 rfl) (by decide)) | (exact absurd (k2 rfl) (by decide))
inductive Rch (E : Nat → Nat → Prop) : Nat → Nat → Prop where
  | one {a b : Nat} (h : E a b) : Rch E a b
  | more {a b c : Nat} (h : Rch E a b) (k : E b c) : Rch E a c
theorem Rch.trans {E : Nat → Nat → Prop} {a b c : Nat} (h : Rch E a b) (k : Rch E b c) : Rch E a c := by
  induction k with
  | one k => exact .more h k
  | more _ k ih => exact .more ih k
/-- a way whose inner points are below k -/
def Pth (E : Nat → Nat → Prop) : Nat → Nat → Nat → Prop
  | 0, i, j => E i j
  | k + 1, i, j => Pth E k i j ∨ (Pth E k i k ∧ Pth E k k j)
theorem Pth.of {E : Nat → Nat → Prop} {i j : Nat} (h : E i j) : ∀ k, Pth E k i j
  | 0 => h
  | k + 1 => .inl (Pth.of h k)
theorem Pth.trans {E : Nat → Nat → Prop} : ∀ {k m i j : Nat}, m < k → Pth E k i m → Pth E k m j → Pth E k i j
  | 0, m, _, _, h, _, _ => by omega
  | k + 1, m, i, j, h, h1, h2 => by
    rcases Nat.lt_or_ge m k with hm | hm
    · rcases h1 with h1 | ⟨h1, h1'⟩ <;> rcases h2 with h2 | ⟨h2, h2'⟩
      · exact .inl (Pth.trans hm h1 h2)
      · exact .inr ⟨Pth.trans hm h1 h2, h2'⟩
      · exact .inr ⟨h1, Pth.trans hm h1' h2⟩
      · exact .inr ⟨h1, h2'⟩
    · obtain rfl : m = k := by omega
      have a1 : Pth E m i m := by rcases h1 with h1 | h1; exact h1; exact h1.1
      have a2 : Pth E m m j := by rcases h2 with h2 | h2; exact h2; exact h2.2
      exact .inr ⟨a1, a2⟩
def PE (l : List (List Int)) (a b : Nat) : Prop := [(a : Int), (b : Int)] ∈ l
noncomputable def cyc (l : List (List Int)) : Bool := open Classical in decide (∃ i, Rch (PE l) i i)
def okP (n : Int) (p : List Int) : Bool := (p.length == 2) && (p.all fun x => inn x 0 (n - 1))
theorem okP_some {n : Nat} {p : List Int} (h : okP n p = true) : ∃ a b : Nat, p = [(a : Int), (b : Int)] ∧ a < n ∧ b < n := by
  unfold okP at h
  rw [Bool.and_eq_true] at h
  match p, h with
  | [x, y], h =>
    simp only [List.all_cons, List.all_nil, Bool.and_true, Bool.and_eq_true, inn_iff] at h
    exact ⟨x.toNat, y.toNat, by rw [Int.toNat_of_nonneg h.2.1.1, Int.toNat_of_nonneg h.2.2.1], by omega, by omega⟩
theorem PE.lt {l : List (List Int)} {n : Nat} (h : ∀ p ∈ l, okP n p = true) (a b : Nat) (hab : PE l a b) : a < n ∧ b < n := by
  obtain ⟨x, y, he, h1, h2⟩ := okP_some (h _ hab)
  simp only [List.cons.injEq, and_true] at he
  omega
noncomputable def hr (l : List (List Int)) (n : Int) : Bool × Bool × Unit := if (decide (l.length ≤ 2000) && inn n 0 60) && l.all (okP n) then (cyc l, true, ()) else (false, false, ())
abbrev rlist (r : T7) : List Int := r.2.2.2.2.1.2.1
structure GoodR (R : List (List T7)) : Prop where
  n : R.length = 3 ∨ R.length = 5
  six : ∀ x ∈ R, x.length ≤ 6
  len : ∀ x ∈ R, ∀ r ∈ x, (rlist r).length = R.length
  val : ∀ x ∈ R, ∀ r ∈ x, ∀ b ∈ rlist r, 0 ≤ b ∧ b ≤ 6
theorem GoodR.grp {R : List (List T7)} (h : GoodR R) : grp (R.length : Int) = true := by rw [grp_iff]; have := h.n; omega
theorem idxI_lt {β : Type} (q : β → Bool) : ∀ (l : List β) (i : Int), 0 ≤ i → idxI q l i ≥ 0 → idxI q l i < i + (l.length : Int)
  | [], i, h, h' => by simp [idxI] at h'
  | b :: t, i, h, h' => by
    unfold idxI at h' ⊢
    cases hb : q b with
    | true => simp; omega
    | false =>
      rw [hb] at h'
      simp only [Bool.false_eq_true, if_false] at h' ⊢
      have := idxI_lt q t (i + 1) (by omega) h'
      simp only [List.length_cons]
      omega
structure GoodW (n a : Int) (S : List (List Int)) (G : List Int) : Prop where
  grp : grp n = true
  who : 0 ≤ a ∧ a < n
  wl : WL.wl S
  len : G.length = S.length
  val : ∀ b ∈ G, 0 ≤ b ∧ b ≤ 20
theorem GoodW.at {n a : Int} {S : List (List Int)} {G : List Int} (h : GoodW n a S G) {q : List Int → Bool} (hk : idxI q S 0 ≥ 0) : idxI q S 0 < (G.length : Int) ∧ 0 ≤ rd G (idxI q S 0) 0 ∧ rd G (idxI q S 0) 0 ≤ 20 := by
  have h1 := idxI_lt q S 0 (by omega) hk
  have h2 : idxI q S 0 < (G.length : Int) := by rw [h.len]; omega
  have h3 := h.val _ (List.mem_of_getElem? (rd_get (d := 0) hk h2))
  exact ⟨h2, h3⟩
/-- few places, few hosts -/
def goodP (P : List (List Int)) : Prop := P.length ≤ 5 ∧ ∀ p ∈ P, p.length ≤ 6 ∧ ∀ a ∈ p, 0 ≤ a ∧ a ≤ 3
theorem goodP.wl {P : List (List Int)} (h : goodP P) : WL.wl P := ⟨by rw [maxLen_eq]; have := h.1; omega, fun p hp => ⟨by rw [maxLen_eq]; have := (h.2 p hp).1; omega, fun _ _ => trivial⟩⟩
/-- a text of these bytes -/
def bs (l : List UInt8) : ByteArray := ⟨l.toArray⟩
theorem bs_data (l : List UInt8) : (bs l).data.toList = l := by simp [bs]
theorem bs_size (l : List UInt8) : (bs l).size = l.length := by simp [bs, ByteArray.size]
theorem bs_append (a b : List UInt8) : bs a ++ bs b = bs (a ++ b) := by
  apply ByteArray.ext
  rw [ByteArray.data_append]
  simp [bs]
theorem nil_bs : (⟨#[]⟩ : ByteArray) = bs [] := rfl
theorem one_bs (c : UInt8) : (⟨#[c]⟩ : ByteArray) = bs [c] := rfl
theorem nDigits_le : ∀ (k u : Nat), u < 10 ^ (k + 1) → nDigits u ≤ k + 1
  | 0, u, h => by rw [nDigits_small (by simpa using h)]; omega
  | k + 1, u, h => by
    by_cases h1 : u < 10
    · rw [nDigits_small h1]; omega
    · rw [nDigits_big h1]
      rw [Nat.pow_succ] at h
      have := nDigits_le k (u / 10) (by omega)
      omega
theorem digits_len {u : Nat} (h : u ≤ 9223372036854775807) : (decDigits u).length ≤ 19 := by
  rw [decDigits_length]
  exact nDigits_le 18 u (by omega)
/-- the digits of a number that is not negative -/
def num (n : Int) : List UInt8 := decDigits n.toNat
/-- is it a number of the machine's? -/
def I64 (n : Int) : Prop := -9223372036854775808 ≤ n ∧ n ≤ 9223372036854775807
theorem num_len {n : Int} (h : I64 n) : (num n).length ≤ 19 := digits_len (by have := h.2; omega)
theorem digit_str {u : Nat} (h : u < 10) : strOf [IntKind.u8.wrap (IntKind.i64.wrap ((48 : Int) + (u : Int)))] = bs [UInt8.ofNat (48 + u)] := by
  rw [wrap_small (n := (48 : Int) + u) (by omega) (by omega)]
  have : IntKind.u8.wrap ((48 : Int) + u) = ((48 + u : Nat) : Int) := by
    rw [IntKind.wrap_u8]; omega
  rw [this]
  rfl
theorem spec_num_at : ∀ (N u : Nat), u ≤ 9223372036854775807 → u < N → p_spec_l1Num N (u : Int) = some ((bs (decDigits u), ()), ())
  | 0, u, _, h => by omega
  | N + 1, u, hu, h => by
    unfold p_spec_l1Num
    by_cases h1 : u < 10
    · rw [decide_eq_true (by omega), if_pos rfl, digit_str h1, decDigits_one h1]
    · rw [decide_eq_false (by omega), if_neg (by simp)]
      have hd : ((u : Int)).tdiv 10 = ((u / 10 : Nat) : Int) := by
        rw [Int.tdiv_eq_ediv_of_nonneg (by omega)]; rfl
      have hm : Int.tmod (u : Int) 10 = ((u % 10 : Nat) : Int) := by
        rw [Int.tmod_eq_emod_of_nonneg (by omega)]; rfl
      rw [hd, hm, wrap_small (n := ((u / 10 : Nat) : Int)) (by omega) (by omega), spec_num_at N (u / 10) (by omega) (by omega), digit_str (by omega)]
      have hl := digits_len (u := u / 10) (by omega)
      simp only [show ((10 : Int) == 0) = false from rfl, Bool.false_eq_true, if_false, Option.bind_some, bs_size, bs_append, List.length_singleton]
      rw [decide_eq_true (by omega), if_pos rfl]
      conv => rhs; rw [decDigits, dif_neg h1]
theorem spec_num_eq {n : Int} (h0 : 0 ≤ n) (h : I64 n) : S_spec_l1Num n = some ((bs (num n), ()), ()) := by
  obtain ⟨u, rfl⟩ := Int.eq_ofNat_of_zero_le h0
  have := h.2
  exact lim_eq (u + 1) fun N hN => spec_num_at N u (by omega) (by omega)
theorem itoa_eq {n : Int} (h0 : 0 ≤ n) (h : I64 n) : S_strconv_Itoa n = some ((bs (num n), ()), ()) := by
  unfold S_strconv_Itoa
  rw [if_pos (show _ ∧ _ from h)]
  obtain ⟨u, rfl⟩ := Int.eq_ofNat_of_zero_le h0
  unfold itoa num
  rw [if_neg (by omega)]; rfl
theorem join_eq (ws : List (List UInt8)) (sep : List UInt8) (h1 : ws.length ≤ 140737488355328) (h2 : (join ws sep).length ≤ 140737488355328) : S_strings_Join (ws.map bs) (bs sep) = some ((bs (join ws sep), ()), ()) := by
  unfold S_strings_Join
  have e : (ws.map bs).map (fun x => x.data.toList) = ws := by
    rw [List.map_map]
    exact (List.map_congr_left fun x _ => bs_data x).trans (List.map_id _)
  rw [e, bs_data, if_pos ⟨by simpa using h1, h2⟩]
  rfl
theorem joinTail_nil (sep : List UInt8) : joinTail sep [] = [] := rfl
theorem joinTail_cons (sep x : List UInt8) (r : List (List UInt8)) : joinTail sep (x :: r) = sep ++ x ++ joinTail sep r := by simp [joinTail]
theorem lens_le {k : Nat} : ∀ (ws : List (List UInt8)), (∀ w ∈ ws, w.length ≤ k) → lens ws ≤ k * ws.length
  | [], _ => by simp [lens]
  | x :: r, h => by
    have h1 := h x (by simp)
    have h2 := lens_le r fun w hw => h w (by simp [hw])
    simp only [lens, List.map_cons, List.sum_cons, List.length_cons, Nat.mul_succ] at h2 ⊢
    omega
theorem join_len {k : Nat} (ws : List (List UInt8)) (sep : List UInt8) (h : ∀ w ∈ ws, w.length ≤ k) : (join ws sep).length ≤ (sep.length + k) * ws.length := by
  cases ws with
  | nil => simp [join_nil]
  | cons x r =>
    rw [join_length]
    have h1 := lens_le (x :: r) h
    have h2 : sep.length * r.length ≤ sep.length * (x :: r).length := Nat.mul_le_mul_left _ (by simp)
    rw [Nat.add_mul]
    omega
theorem sz_Msg : SzOk S_laws_szMsg := fun x k h0 h1 hl => by
  unfold S_laws_szMsg p_laws_szMsg
  have e : Cnt.cnt x = Cnt.cnt x.2.2.2.2.2.2.2.2.2.1 := by simp only [cnt_pair, cnt_int0, cnt_bool0, cnt_unit0]; omega
  rw [e]
  rw [sz_Attr _ _ h0 h1 hl.2.2.2.2.2.2.2.2.2.1]
  exact sz_last h0 h1 rfl fun k' hk => by simp only [hk, Bool.false_eq_true, if_false]
theorem to_Msg : ToOk S_laws_toMsg := fun x h => by
  unfold S_laws_toMsg p_laws_toMsg
  simp only [cnt_pair, cnt_int0, cnt_bool0, cnt_unit0] at h
  have e : Cnt.cnt x.2.2.2.2.2.2.2.2.1 ≤ 1048576 ∧ Cnt.cnt x.2.2.2.2.2.2.2.2.2.1 ≤ 1048576 := by refine ⟨?_, ?_⟩ <;> (first | omega | (simp only [cnt_pair, cnt_int0, cnt_bool0, cnt_unit0]; omega))
  simp only [to_Cmd x.2.2.2.2.2.2.2.2.1 e.1, to_Attr x.2.2.2.2.2.2.2.2.2.1 e.2, Option.bind_some]
theorem eq_Msg : EqOk S_laws_eqMsg := fun a b ha hb => by
  unfold S_laws_eqMsg p_laws_eqMsg
  simp only [eq_Cmd _ _ ha.2.2.2.2.2.2.2.2.1 hb.2.2.2.2.2.2.2.2.1, eq_Attr _ _ ha.2.2.2.2.2.2.2.2.2.1 hb.2.2.2.2.2.2.2.2.2.1, Option.bind_some]
  refine (eq_thenI (eq_thenI (eq_thenI (eq_thenI (eq_thenI (eq_thenI (eq_thenI (eq_thenI (eq_then (eq_then rfl)))))))))).trans ?_
  simp only [same_pair a, same_pair a.2, same_pair a.2.2, same_pair a.2.2.2, same_pair a.2.2.2.2, same_pair a.2.2.2.2.2, same_pair a.2.2.2.2.2.2, same_pair a.2.2.2.2.2.2.2, same_pair a.2.2.2.2.2.2.2.2, same_pair a.2.2.2.2.2.2.2.2.2, same_unit]
theorem sz_MsgS : SzOk S_laws_szMsgS := fun x k h0 h1 hl => lim_eq (x.length + 1) fun N hN => sz_list sz_Msg _ x k h0 h1 hl hN
theorem to_MsgS : ToOk S_laws_toMsgS := fun x h => lim_eq (x.length + 1) fun N hN => to_list to_Msg _ 136 (by omega) x h hN
theorem eq_MsgS : EqOk S_laws_eqMsgS := fun a b ha hb => lim_eq (a.length + 1) fun N hN => eq_list eq_Msg _ a b ha hb hN
abbrev YI : Ty := .int .i64
abbrev Y2 : Ty := .pair YI (.pair YI (.pair YI (.pair YI (.pair YI .unit))))
abbrev Y6 (s : Nat) : Ty := .pair YI (.pair (.slice s YI) .unit)
abbrev Y11 (s : Nat) : Ty := .pair YI (.pair YI (.pair YI (.pair YI (.pair YI (.pair YI (.pair YI (.pair YI (.pair Y2 (.pair (Y6 s) .unit)))))))))
theorem wl_ints' {s : Nat} {l : List Int} (h : Wf (.slice s YI) l) : WL.wl l := ⟨h.1, fun _ _ => trivial⟩
theorem wl6 {s : Nat} {a : T6} (h : Wf (Y6 s) a) : WL.wl a := ⟨trivial, wl_ints' h.2.1, trivial⟩
theorem wl11 {s : Nat} {a : T11} (h : Wf (Y11 s) a) : WL.wl a := ⟨trivial, trivial, trivial, trivial, trivial, trivial, trivial, trivial, ⟨trivial, trivial, trivial, trivial, trivial, trivial⟩, wl6 h.2.2.2.2.2.2.2.2.2.1, trivial⟩
/-- a number that is not negative -/
def Nn (n : Int) : Prop := 0 ≤ n ∧ I64 n
theorem nn_num {n : Int} (h : Nn n) : (num n).length ≤ 19 := num_len h.2
theorem nn_of {n : Int} (h : 0 ≤ n) (h' : n ≤ 9223372036854775807) : Nn n := ⟨h, by unfold I64; omega⟩
/-- what is written so far, and what comes -/
def joinFrom (i : Nat) (s sep : List UInt8) (ws : List (List UInt8)) : List UInt8 := if i = 0 then join ws sep else s ++ joinTail sep ws
theorem joinFrom_nil (i : Nat) (s sep : List UInt8) (h : i = 0 → s = []) : joinFrom i s sep [] = s := by
  unfold joinFrom
  split
  · rename_i h0; rw [h h0, join_nil]
  · simp [joinTail_nil]
theorem joinFrom_zero (s sep : List UInt8) (x : List UInt8) (r : List (List UInt8)) : joinFrom 0 s sep (x :: r) = joinFrom 1 x sep r := by
  simp [joinFrom, join_cons]
theorem joinFrom_succ {i : Nat} (s sep : List UInt8) (x : List UInt8) (r : List (List UInt8)) (h : i ≠ 0) : joinFrom i s sep (x :: r) = joinFrom (i + 1) (s ++ sep ++ x) sep r := by
  simp [joinFrom, h, joinTail_cons]
theorem spec_l3List_eq (l : List Int) (hl : l.length ≤ 1048576) (h : ∀ x ∈ l, Nn x) : S_spec_l3List l = some ((bs (join (l.map num) [44]), ()), ()) := by
  unfold S_spec_l3List
  refine lim_eq (l.length + 1) fun N hN => ?_
  unfold p_spec_l3List
  refine loopN_over l (by rw [maxLen_eq]; omega) (fun i (s : List UInt8) => ((bs s, l, (l.length : Int), (i : Int), ()), ())) (fun i t s => ((bs (joinFrom i s [44] (t.map num)), ()), ())) (fun i t s => s.length ≤ 20 * i ∧ (i = 0 → s = []) ∧ i ≤ l.length)
    [] rfl (by simp [joinFrom]) ⟨by simp, fun _ => rfl, by omega⟩ hN (fun rec s hs => ?_) (fun rec i b t s hat hs hrec => ?_)
  · dsimp only
    simp only [lenInt_lt_irrefl, decide_false, Bool.false_eq_true, if_false, List.map_nil]
    rw [joinFrom_nil _ _ _ hs.2.1]
  · obtain ⟨hs1, hs2, hs3⟩ := hs
    have hb := h b hat.mem
    have hbl := nn_num hb
    have hi := hat.ltn
    dsimp only
    simp only [hat.lt, hat.nn, hat.wrap, hat.rd, decide_true, if_true, spec_num_eq hb.1 hb.2, Option.bind_some, one_bs, bs_append, bs_size, List.length_append, List.length_singleton]
    rcases Nat.eq_zero_or_pos i with rfl | hi0
    · obtain rfl := hs2 rfl
      rw [decide_eq_false (by omega), if_neg (by simp), decide_eq_true (by simp; omega), if_pos rfl]
      refine (hrec _ ⟨by simp; omega, by simp, by omega⟩).trans ?_
      simp only [List.map_cons, joinFrom_zero, List.nil_append]
    · rw [decide_eq_true (by omega), if_pos rfl, decide_eq_true (by omega), if_pos rfl, decide_eq_true (by omega), if_pos rfl]
      refine (hrec _ ⟨by simp; omega, by omega, by omega⟩).trans ?_
      simp only [List.map_cons, joinFrom_succ _ _ _ _ (Nat.ne_of_gt hi0)]
theorem mem_snoc {β : Type} {s : List β} {x : β} {P : β → Prop} (h : ∀ w ∈ s, P w) (hx : P x) : ∀ w ∈ s ++ [x], P w := by
  intro w hw
  rcases List.mem_append.1 hw with hw | hw
  · exact h w hw
  · simp at hw; subst hw; exact hx
theorem impl_joined_eq (c : UInt8) (l : List Int) (hl : l.length ≤ 1048576) (h : ∀ x ∈ l, Nn x) : S_impl_joined (bs [c]) l = some ((bs (join (l.map num) [c]), ()), ()) := by
  unfold S_impl_joined
  refine lim_eq (l.length + 1) fun N hN => ?_
  unfold p_impl_joined
  refine loopN_over l (by rw [maxLen_eq]; omega) (fun i (s : List (List UInt8)) => ((bs [c], l, (l.length : Int), (i : Int), ()), s.map bs, ())) (fun i t s => ((bs (join (s ++ t.map num) [c]), ()), ())) (fun i t s => s.length = i ∧ i ≤ l.length ∧ ∀ w ∈ s, w.length ≤ 19)
    [] rfl rfl ⟨rfl, by omega, by simp⟩ hN (fun rec s hs => ?_) (fun rec i b t s hat hs hrec => ?_)
  · obtain ⟨hs1, hs2, hs3⟩ := hs
    have hj := join_len s [c] hs3
    simp only [List.length_singleton] at hj
    dsimp only
    simp only [lenInt_lt_irrefl, decide_false, Bool.false_eq_true, if_false, List.map_nil, List.append_nil]
    rw [join_eq s [c] (by omega) (by omega)]
    rfl
  · obtain ⟨hs1, hs2, hs3⟩ := hs
    have hb := h b hat.mem
    have hi := hat.ltn
    have hr := hrec (s ++ [num b]) ⟨by simp; omega, by omega, mem_snoc hs3 (nn_num hb)⟩
    simp only [List.map_append, List.map_cons, List.map_nil] at hr
    dsimp only
    simp only [hat.lt, hat.nn, hat.wrap, hat.rd, decide_true, if_true, itoa_eq hb.1 hb.2, Option.bind_some, List.length_map, List.length_singleton]
    rw [decide_eq_true (by omega), if_pos rfl]
    refine hr.trans ?_
    simp
theorem clone_big {l : List Int} (h : l.length ≤ 1048576) : S_Clone_Lint_int l = some ((l, ()), ()) := by
  unfold S_Clone_Lint_int p_Clone_Lint_int
  have h1 : ((([] : List Int).length + l.length) * 8 ≤ 140737488355328) := by simp; omega
  rw [decide_eq_true h1]
  cases l with
  | nil => simp [bothO]
  | cons a r => rfl
/-- the last words on a message: no command, no attributes -/
noncomputable def msgEnd (n : Int) (a : T11) : Bool :=
  if a.1 == 2 then zcmd a.2.2.2.2.2.2.2.2.1
  else if a.1 == 4 || a.1 == 6 then zcmd a.2.2.2.2.2.2.2.2.1 && sameAttr a.2.2.2.2.2.2.2.2.2.1 (none6 n) else true
noncomputable def msgRest (n : Int) (a : T11) : Bool :=
  if a.1 == 7 then (a.2.2.2.2.2.2.2.1 != 3) && rowOk n a.2.2.2.2.2
  else (!(a.2.2.2.2.2.2.1 != 0)) && ((!(a.2.2.2.2.2.2.2.1 != 0)) && (attrOk n a.2.2.2.2.2.2.2.2.2.1 && (gcmd a.2.2.2.2.2.2.2.2.1 && ((!(a.1 == 5) || !(a.2.2.2.2.2.1 != 0)) && msgEnd n a))))
noncomputable def msgOk (n : Int) (a : T11) : Bool :=
  grp n && (inn a.1 1 7 && (inn a.2.1 0 (n - 1) && (inn a.2.2.1 0 (n - 1) && ((!(a.2.1 == a.2.2.1)) && (inst n a.2.2.2.1 a.2.2.2.2.1 && (inn a.2.2.2.2.2.1 0 9999 && msgRest n a))))))
theorem zcmd_eq (c : T2) : (c.1 == (0 : Int) && (c.2.1 == (0 : Int) && (c.2.2.1 == (0 : Int) && (c.2.2.2.1 == (0 : Int) && (c.2.2.2.2.1 == (0 : Int) && true))))) = zcmd c := rfl
theorem spec_GoodMsg_eq (n : Int) (a : T11) (hl : WL.wl a) : S_spec_GoodMsg n a = some ((msgOk n a, ()), ()) := by
  have ha : a.2.2.2.2.2.2.2.2.2.1.2.1.length ≤ maxLen := hl.2.2.2.2.2.2.2.2.2.1.2.1.1
  unfold S_spec_GoodMsg p_spec_GoodMsg msgOk
  simp only [spec_IsGroup_eq, Option.bind_some]
  cases hg : grp n with
  | false => simp
  | true =>
    simp only [grp_wrap hg, spec_l1In_eq, spec_l3Inst_eq hg, spec_l4Row_eq hg a.2.2.2.2.2 ha, spec_l3Attr_eq n _ ha, spec_GoodCmd_eq, spec_l3None_eq hg, spec_SameAttr_eq _ _ ha (none6_len hg), Option.bind_some, zcmd_eq, Bool.not_true, Bool.false_eq_true, if_false, Bool.true_and]
    cases inn a.1 1 7 with
    | false => rfl
    | true =>
    cases inn a.2.1 0 (n - 1) with
    | false => rfl
    | true =>
    cases inn a.2.2.1 0 (n - 1) with
    | false => rfl
    | true =>
    cases hft : (a.2.1 == a.2.2.1) with
    | true => rfl
    | false =>
    cases inst n a.2.2.2.1 a.2.2.2.2.1 with
    | false => rfl
    | true =>
    cases inn a.2.2.2.2.2.1 0 9999 with
    | false => rfl
    | true =>
    simp only [Bool.not_true, Bool.false_eq_true, if_false, Bool.true_and, Bool.not_false, msgRest, msgEnd]
    cases h7 : (a.1 == (7 : Int)) with
    | true => cases (a.2.2.2.2.2.2.2.1 != (3 : Int)) <;> rfl
    | false =>
    simp only [Bool.false_eq_true, if_false]
    cases (a.2.2.2.2.2.2.1 != (0 : Int)) with
    | true => rfl
    | false =>
    cases (a.2.2.2.2.2.2.2.1 != (0 : Int)) with
    | true => rfl
    | false =>
    cases attrOk n a.2.2.2.2.2.2.2.2.2.1 with
    | false => rfl
    | true =>
    cases gcmd a.2.2.2.2.2.2.2.2.1 with
    | false => rfl
    | true =>
    simp only [Bool.not_true, Bool.false_eq_true, if_false, Bool.true_and, Bool.not_false]
    cases (a.1 == (5 : Int)) <;> cases (a.2.2.2.2.2.1 != (0 : Int)) <;> cases (a.1 == (2 : Int)) <;> cases (a.1 == (4 : Int)) <;> cases (a.1 == (6 : Int)) <;> cases zcmd a.2.2.2.2.2.2.2.2.1 <;> rfl
theorem impl_isInstance_all (n r k : Int) : S_impl_isInstance n r k = some ((grp n && inst n r k, ()), ()) := by
  cases hg : grp n with
  | true => rw [impl_isInstance_eq hg]; rfl
  | false =>
    unfold S_impl_isInstance p_impl_isInstance
    simp [impl_IsGroup_eq, hg]
theorem impl_Msg_row_eq (a : T11) (h : a.2.2.2.2.2.2.2.2.2.1.2.1.length ≤ 1048576) : S_impl_Msg_row a = some ((a.2.2.2.2.2, ()), ()) := by
  unfold S_impl_Msg_row p_impl_Msg_row S_impl_Attr_copied p_impl_Attr_copied
  simp only [clone_big h, Option.bind_some]
theorem impl_GoodMsg_eq (n : Int) (a : T11) (hl : WL.wl a) (hc : a.2.2.2.2.2.2.2.2.2.1.2.1.length ≤ 1048576) : S_impl_GoodMsg n a = some ((msgOk n a, ()), ()) := by
  have ha : a.2.2.2.2.2.2.2.2.2.1.2.1.length ≤ maxLen := hl.2.2.2.2.2.2.2.2.2.1.2.1.1
  unfold S_impl_GoodMsg p_impl_GoodMsg msgOk
  simp only [impl_within_eq, impl_isInstance_all, Option.bind_some]
  cases hg : grp n with
  | false => cases inn a.1 1 7 <;> simp
  | true =>
    simp only [grp_wrap hg, impl_Msg_row_eq a hc, impl_goodRow_eq hg a.2.2.2.2.2 ha, impl_GoodAttr_eq hg _ ha, impl_GoodCmd_eq, impl_noneAttr_eq hg, impl_SameAttr_eq _ _ ha (none6_len hg), Option.bind_some, zcmd_eq, Bool.not_true, Bool.false_eq_true, if_false, Bool.true_and]
    cases hk : inn a.1 1 7 with
    | false => rfl
    | true =>
    cases inst n a.2.2.2.1 a.2.2.2.2.1 with
    | false => cases inn a.2.1 0 (n - 1) <;> cases inn a.2.2.1 0 (n - 1) <;> cases (a.2.1 == a.2.2.1) <;> rfl
    | true =>
    cases inn a.2.1 0 (n - 1) with
    | false => rfl
    | true =>
    cases inn a.2.2.1 0 (n - 1) with
    | false => rfl
    | true =>
    cases hft : (a.2.1 == a.2.2.1) with
    | true => rfl
    | false =>
    cases inn a.2.2.2.2.2.1 0 9999 with
    | false => rfl
    | true =>
    simp only [Bool.not_true, Bool.false_eq_true, if_false, Bool.true_and, Bool.not_false, msgRest, msgEnd]
    have hk := inn_iff.1 hk
    have hcase : a.1 = 1 ∨ a.1 = 2 ∨ a.1 = 3 ∨ a.1 = 4 ∨ a.1 = 5 ∨ a.1 = 6 ∨ a.1 = 7 := by omega
    rcases hcase with h | h | h | h | h | h | h <;> rw [h] <;>
      simp only [show ((1 : Int) == 1) = true from rfl, show ((1 : Int) == 2) = false from rfl, show ((1 : Int) == 3) = false from rfl, show ((1 : Int) == 4) = false from rfl, show ((1 : Int) == 5) = false from rfl, show ((1 : Int) == 6) = false from rfl, show ((1 : Int) == 7) = false from rfl,
        show ((2 : Int) == 1) = false from rfl, show ((2 : Int) == 2) = true from rfl, show ((2 : Int) == 3) = false from rfl, show ((2 : Int) == 4) = false from rfl, show ((2 : Int) == 5) = false from rfl, show ((2 : Int) == 6) = false from rfl, show ((2 : Int) == 7) = false from rfl,
        show ((3 : Int) == 1) = false from rfl, show ((3 : Int) == 2) = false from rfl, show ((3 : Int) == 3) = true from rfl, show ((3 : Int) == 4) = false from rfl, show ((3 : Int) == 5) = false from rfl, show ((3 : Int) == 6) = false from rfl, show ((3 : Int) == 7) = false from rfl,
        show ((4 : Int) == 1) = false from rfl, show ((4 : Int) == 2) = false from rfl, show ((4 : Int) == 3) = false from rfl, show ((4 : Int) == 4) = true from rfl, show ((4 : Int) == 5) = false from rfl, show ((4 : Int) == 6) = false from rfl, show ((4 : Int) == 7) = false from rfl,
        show ((5 : Int) == 1) = false from rfl, show ((5 : Int) == 2) = false from rfl, show ((5 : Int) == 3) = false from rfl, show ((5 : Int) == 4) = false from rfl, show ((5 : Int) == 5) = true from rfl, show ((5 : Int) == 6) = false from rfl, show ((5 : Int) == 7) = false from rfl,
        show ((6 : Int) == 1) = false from rfl, show ((6 : Int) == 2) = false from rfl, show ((6 : Int) == 3) = false from rfl, show ((6 : Int) == 4) = false from rfl, show ((6 : Int) == 5) = false from rfl, show ((6 : Int) == 6) = true from rfl, show ((6 : Int) == 7) = false from rfl,
        show ((7 : Int) == 1) = false from rfl, show ((7 : Int) == 2) = false from rfl, show ((7 : Int) == 3) = false from rfl, show ((7 : Int) == 4) = false from rfl, show ((7 : Int) == 5) = false from rfl, show ((7 : Int) == 6) = false from rfl, show ((7 : Int) == 7) = true from rfl,
        Bool.false_eq_true, if_false, if_true, Bool.not_true, Bool.not_false] <;>
      generalize (a.2.2.2.2.2.2.1 != (0 : Int)) = b1 <;> generalize (a.2.2.2.2.2.2.2.1 != (0 : Int)) = b2 <;> generalize (a.2.2.2.2.2.2.2.1 != (3 : Int)) = b3 <;> generalize attrOk n a.2.2.2.2.2.2.2.2.2.1 = b4 <;> generalize gcmd a.2.2.2.2.2.2.2.2.1 = b5 <;> generalize zcmd a.2.2.2.2.2.2.2.2.1 = b6 <;> generalize (a.2.2.2.2.2.1 != (0 : Int)) = b7 <;>
      cases b1 <;> cases b2 <;> cases b3 <;> cases b4 <;> cases b5 <;> cases b6 <;> cases b7 <;> rfl
/-- the seven numbers behind the kind -/
def seven (a : T11) : List Int := [a.2.1, a.2.2.1, a.2.2.2.1, a.2.2.2.2.1, a.2.2.2.2.2.1, a.2.2.2.2.2.2.1, a.2.2.2.2.2.2.2.1]
structure MsgNums (n : Int) (a : T11) : Prop where
  grp : grp n = true
  k1 : 1 ≤ a.1
  k7 : a.1 ≤ 7
  nums : ∀ x ∈ seven a, 0 ≤ x ∧ x ≤ 9999
  cmd : gcmd a.2.2.2.2.2.2.2.2.1 = true
  attr : attrOk n a.2.2.2.2.2.2.2.2.2.1 = true
theorem msgNums {n : Int} {a : T11} (h : msgOk n a = true) : MsgNums n a := by
  simp only [msgOk, Bool.and_eq_true, inst, inn_iff] at h
  obtain ⟨hg, hk, hf, ht, _, hi, hb, hr⟩ := h
  have hn := grp_iff.1 hg
  unfold msgRest at hr
  have key : 0 ≤ a.2.2.2.2.2.2.1 ∧ a.2.2.2.2.2.2.1 ≤ 9999 ∧ 0 ≤ a.2.2.2.2.2.2.2.1 ∧ a.2.2.2.2.2.2.2.1 ≤ 9999 ∧ gcmd a.2.2.2.2.2.2.2.2.1 = true ∧ attrOk n a.2.2.2.2.2.2.2.2.2.1 = true := by
    split at hr
    · simp only [Bool.and_eq_true, rowOk, inn_iff] at hr
      obtain ⟨_, h1, h2, h3, h4⟩ := hr
      split at h4
      · simp only [Bool.and_eq_true] at h4
        exact ⟨by omega, by omega, by omega, by omega, zcmd_gcmd h4.2.1, attr_none hg _ h4.2.2⟩
      · simp only [Bool.and_eq_true] at h4
        exact ⟨by omega, by omega, by omega, by omega, h4.1, h4.2⟩
    · simp only [Bool.and_eq_true, Bool.not_eq_true', bne_eq_false_iff_eq] at hr
      obtain ⟨h1, h2, h3, h4, _⟩ := hr
      exact ⟨by omega, by omega, by omega, by omega, h4, h3⟩
  obtain ⟨k1, k2, k3, k4, k5, k6⟩ := key
  refine ⟨hg, hk.1, hk.2, fun x hx => ?_, k5, k6⟩
  simp only [seven, List.mem_cons, List.not_mem_nil, or_false] at hx
  rcases hx with rfl | rfl | rfl | rfl | rfl | rfl | rfl <;> omega
theorem gcmd_nums {c : T2} (h : gcmd c = true) : (0 ≤ c.1 ∧ c.1 ≤ 9999) ∧ (0 ≤ c.2.1 ∧ c.2.1 ≤ 9999) ∧ (0 ≤ c.2.2.1 ∧ c.2.2.1 ≤ 9999) ∧ (0 ≤ c.2.2.2.1 ∧ c.2.2.2.1 ≤ 9999) ∧ (0 ≤ c.2.2.2.2.1 ∧ c.2.2.2.2.1 ≤ 9999) := by
  unfold gcmd at h
  split at h
  · simp only [zcmd, Bool.and_eq_true, beq_iff_eq] at h
    omega
  · split at h
    · rename_i h1
      simp only [beq_iff_eq] at h1
      simp only [Bool.and_eq_true, inn_iff] at h
      omega
    · split at h
      · rename_i h1
        simp only [beq_iff_eq] at h1
        simp only [Bool.and_eq_true, inn_iff, beq_iff_eq] at h
        omega
      · cases h
theorem attr_nums {n : Int} {a : T6} (h : attrOk n a = true) : (0 ≤ a.1 ∧ a.1 ≤ 9999) ∧ (a.2.1.length : Int) = n ∧ ∀ x ∈ a.2.1, 0 ≤ x ∧ x ≤ 9999 := by
  simp only [attrOk, Bool.and_eq_true, inn_iff, beq_iff_eq, List.all_eq_true] at h
  exact ⟨by omega, h.2.1, fun x hx => by have := h.2.2 x hx; omega⟩
theorem nn_small {x : Int} (h : 0 ≤ x ∧ x ≤ 9999) : Nn x := nn_of h.1 (by omega)
theorem num_small {x : Int} (h : 0 ≤ x ∧ x ≤ 9999) : (num x).length ≤ 4 := by
  unfold num
  rw [decDigits_length]
  exact nDigits_le 3 _ (by omega)
def kindWords : List (List UInt8) := [[], [112, 114, 101], [112, 114, 101, 111, 107], [97, 99, 99], [97, 99, 99, 111, 107], [99, 111, 109], [112, 114, 101, 112], [112, 114, 101, 112, 111, 107]]
def kindWord (k : Int) : List UInt8 := kindWords.getD k.toNat []
theorem kindWord_len (k : Int) : (kindWord k).length ≤ 6 := by
  unfold kindWord
  have : ∀ j : Nat, (kindWords.getD j []).length ≤ 6 := by
    intro j
    rcases Nat.lt_or_ge j 8 with h | h
    · have hall : ∀ i : Fin 8, (kindWords.getD i.val []).length ≤ 6 := by decide
      exact hall ⟨j, h⟩
    · rw [List.getD_eq_getElem?_getD, List.getElem?_eq_none (by simpa [kindWords] using h)]; simp
  exact this _
theorem words_rd {k : Int} (h1 : 1 ≤ k) (h7 : k ≤ 7) : rd (kindWords.map bs) k (bs []) = bs (kindWord k) := by
  obtain ⟨j, rfl⟩ := Int.eq_ofNat_of_zero_le (show 0 ≤ k by omega)
  rw [rd_nat]
  unfold kindWord
  rw [List.getD_eq_getElem?_getD, List.getElem?_map, List.getD_eq_getElem?_getD, Int.toNat_natCast]
  have : j < kindWords.length := by simp [kindWords]; omega
  rw [List.getElem?_eq_getElem this]
  rfl
theorem spec_words : S_spec_l7Words = some ((kindWords.map bs, ()), ()) := rfl
theorem impl_words : S_impl_msgWords = some ((kindWords.map bs, ()), ()) := rfl
def cmdText (c : T2) : List UInt8 :=
  if c.1 == 1 then [109, 111, 118, 101, 32] ++ join [num c.2.1, num c.2.2.1, num c.2.2.2.1, num c.2.2.2.2.1] [32]
  else if c.1 == 2 then [114, 101, 97, 100, 32] ++ join [num c.2.1, num c.2.2.1] [32] else [45]
def attrText (a : T6) : List UInt8 := num a.1 ++ [58] ++ join (a.2.1.map num) [44]
def msgText (a : T11) : List UInt8 := kindWord a.1 ++ joinTail [32] ((seven a).map num) ++ [124] ++ cmdText a.2.2.2.2.2.2.2.2.1 ++ [124] ++ attrText a.2.2.2.2.2.2.2.2.2.1
theorem spec_l2Text_eq (c : T2) (h : gcmd c = true) : S_spec_l2Text c = some ((bs (cmdText c), ()), ()) := by
  obtain ⟨h1, h2, h3, h4, h5⟩ := gcmd_nums h
  have e2 := num_small h2
  have e3 := num_small h3
  have e4 := num_small h4
  have e5 := num_small h5
  unfold S_spec_l2Text p_spec_l2Text cmdText
  simp only [spec_num_eq h2.1 (nn_small h2).2, spec_num_eq h3.1 (nn_small h3).2, spec_num_eq h4.1 (nn_small h4).2, spec_num_eq h5.1 (nn_small h5).2, Option.bind_some, show (⟨#[109, 111, 118, 101, 32]⟩ : ByteArray) = bs [109, 111, 118, 101, 32] from rfl, show (⟨#[114, 101, 97, 100, 32]⟩ : ByteArray) = bs [114, 101, 97, 100, 32] from rfl, one_bs, bs_append, bs_size, List.length_append, List.length_cons, List.length_nil, join_cons, joinTail_cons, joinTail_nil]
  split
  · repeat rw [decide_eq_true (by omega), if_pos rfl]
    simp
  · split
    · repeat rw [decide_eq_true (by omega), if_pos rfl]
      simp
    · rfl
theorem spec_l3Text_eq {n : Int} (hg : grp n = true) (a : T6) (h : attrOk n a = true) : S_spec_l3Text a = some ((bs (attrText a), ()), ()) := by
  obtain ⟨h1, h2, h3⟩ := attr_nums h
  have e1 := num_small h1
  have hn := grp_iff.1 hg
  have hj := join_len (a.2.1.map num) [44] (k := 4) (by intro w hw; obtain ⟨y, hy, rfl⟩ := List.mem_map.1 hw; exact num_small (h3 y hy))
  simp only [List.length_singleton, List.length_map] at hj
  unfold S_spec_l3Text p_spec_l3Text attrText
  simp only [spec_num_eq h1.1 (nn_small h1).2, spec_l3List_eq a.2.1 (by omega) (fun x hx => nn_small (h3 x hx)), Option.bind_some, one_bs, bs_append, bs_size, List.length_append, List.length_cons, List.length_nil]
  repeat rw [decide_eq_true (by omega), if_pos rfl]
theorem cmdText_len {c : T2} (h : gcmd c = true) : (cmdText c).length ≤ 24 := by
  obtain ⟨h1, h2, h3, h4, h5⟩ := gcmd_nums h
  have e2 := num_small h2
  have e3 := num_small h3
  have e4 := num_small h4
  have e5 := num_small h5
  unfold cmdText
  split
  · simp [join_cons, joinTail_cons, joinTail_nil]; omega
  · split
    · simp [join_cons, joinTail_cons, joinTail_nil]; omega
    · simp
theorem attrText_len {n : Int} (hg : grp n = true) {a : T6} (h : attrOk n a = true) : (attrText a).length ≤ 30 := by
  obtain ⟨h1, h2, h3⟩ := attr_nums h
  have e1 := num_small h1
  have hn := grp_iff.1 hg
  have hj := join_len (a.2.1.map num) [44] (k := 4) (by intro w hw; obtain ⟨y, hy, rfl⟩ := List.mem_map.1 hw; exact num_small (h3 y hy))
  simp only [List.length_singleton, List.length_map] at hj
  unfold attrText
  simp only [List.length_append, List.length_singleton]
  omega
theorem spec_MsgText_eq (n : Int) (a : T11) (hl : WL.wl a) : S_spec_MsgText n a = some (if msgOk n a then ((bs (msgText a), true, ()), ()) else ((bs [], false, ()), ())) := by
  unfold S_spec_MsgText
  refine lim_eq 8 fun N hN => ?_
  unfold p_spec_MsgText
  simp only [spec_GoodMsg_eq n a hl, Option.bind_some]
  cases hm : msgOk n a with
  | false => rfl
  | true =>
    have hN' := msgNums hm
    simp only [Bool.not_true, Bool.false_eq_true, if_false, if_true, spec_words, Option.bind_some, nil_bs, words_rd hN'.k1 hN'.k7]
    have hk1 := hN'.k1
    have hk7 := hN'.k7
    rw [decide_eq_true (by omega), if_pos rfl, decide_eq_true (by simp [kindWords]; omega), if_pos rfl]
    have hkl := kindWord_len a.1
    have hc := cmdText_len hN'.cmd
    have hat' := attrText_len hN'.grp hN'.attr
    refine loopN_over (seven a) (by simp [seven, maxLen_eq]) (fun i (s : List UInt8) => ((bs s, ((seven a).length : Int), (i : Int), ()), (a.1, a.2.1, a.2.2.1, a.2.2.2.1, a.2.2.2.2.1, a.2.2.2.2.2.1, a.2.2.2.2.2.2.1, a.2.2.2.2.2.2.2.1, a.2.2.2.2.2.2.2.2.1.1, a.2.2.2.2.2.2.2.2.1.2.1, a.2.2.2.2.2.2.2.2.1.2.2.1, a.2.2.2.2.2.2.2.2.1.2.2.2.1, a.2.2.2.2.2.2.2.2.1.2.2.2.2.1, a.2.2.2.2.2.2.2.2.2.1.1, a.2.2.2.2.2.2.2.2.2.1.2.1, ()), kindWords.map bs, seven a, ()))
      (fun i t s => ((bs (s ++ joinTail [32] (t.map num) ++ [124] ++ cmdText a.2.2.2.2.2.2.2.2.1 ++ [124] ++ attrText a.2.2.2.2.2.2.2.2.2.1), true, ()), ())) (fun i t s => s.length ≤ 20 * (i + 1) ∧ i ≤ 7)
      (kindWord a.1) rfl rfl ⟨by omega, by omega⟩ (by simp [seven]; omega) (fun rec s hs => ?_) (fun rec i b r s hat hs hrec => ?_)
    · obtain ⟨hs1, hs2⟩ := hs
      have e1 : S_spec_l2Text (a.2.2.2.2.2.2.2.2.1.1, a.2.2.2.2.2.2.2.2.1.2.1, a.2.2.2.2.2.2.2.2.1.2.2.1, a.2.2.2.2.2.2.2.2.1.2.2.2.1, a.2.2.2.2.2.2.2.2.1.2.2.2.2.1, ()) = _ := spec_l2Text_eq a.2.2.2.2.2.2.2.2.1 hN'.cmd
      have e2 : S_spec_l3Text (a.2.2.2.2.2.2.2.2.2.1.1, a.2.2.2.2.2.2.2.2.2.1.2.1, ()) = _ := spec_l3Text_eq hN'.grp a.2.2.2.2.2.2.2.2.2.1 hN'.attr
      dsimp only
      simp only [lenInt_lt_irrefl, decide_false, Bool.false_eq_true, if_false, List.map_nil, joinTail_nil, List.append_nil, one_bs, bs_append, bs_size, e1, e2, Option.bind_some, List.length_append, List.length_singleton]
      repeat rw [decide_eq_true (by omega), if_pos rfl]
    · obtain ⟨hs1, hs2⟩ := hs
      have hb := hN'.nums b hat.mem
      have hbl := num_small hb
      have hi := hat.ltn
      simp only [seven, List.length_cons, List.length_nil] at hi
      dsimp only
      simp only [hat.lt, hat.nn, hat.wrap, hat.rd, decide_true, if_true, spec_num_eq hb.1 (nn_small hb).2, Option.bind_some, one_bs, bs_append, bs_size, List.length_append, List.length_singleton]
      rw [decide_eq_true (by omega), if_pos rfl, decide_eq_true (by omega), if_pos rfl]
      refine (hrec _ ⟨by simp; omega, by omega⟩).trans ?_
      simp only [List.map_cons, joinTail_cons, List.append_assoc]
theorem impl_spelled_eq (l : List Int) (hl : l.length ≤ 1048576) (h : ∀ x ∈ l, Nn x) : S_impl_spelled l = some ((bs (join (l.map num) [32]), ()), ()) := by
  unfold S_impl_spelled p_impl_spelled
  rw [one_bs, impl_joined_eq 32 l hl h]
  rfl
theorem impl_cmdText_eq (c : T2) (h : gcmd c = true) : S_impl_cmdText c = some ((bs (cmdText c), ()), ()) := by
  obtain ⟨h1, h2, h3, h4, h5⟩ := gcmd_nums h
  have e2 := num_small h2
  have e3 := num_small h3
  have e4 := num_small h4
  have e5 := num_small h5
  unfold S_impl_cmdText p_impl_cmdText cmdText
  rw [impl_spelled_eq [c.2.1, c.2.2.1, c.2.2.2.1, c.2.2.2.2.1] (by simp) (by intro x hx; simp only [List.mem_cons, List.not_mem_nil, or_false] at hx; rcases hx with rfl | rfl | rfl | rfl <;> exact nn_small (by assumption)),
    impl_spelled_eq [c.2.1, c.2.2.1] (by simp) (by intro x hx; simp only [List.mem_cons, List.not_mem_nil, or_false] at hx; rcases hx with rfl | rfl <;> exact nn_small (by assumption))]
  simp only [Option.bind_some, show (⟨#[109, 111, 118, 101, 32]⟩ : ByteArray) = bs [109, 111, 118, 101, 32] from rfl, show (⟨#[114, 101, 97, 100, 32]⟩ : ByteArray) = bs [114, 101, 97, 100, 32] from rfl, one_bs, bs_append, bs_size, List.map_cons, List.map_nil, List.length_append, List.length_cons, List.length_nil, join_cons, joinTail_cons, joinTail_nil]
  split
  · repeat rw [decide_eq_true (by omega), if_pos rfl]
  · split
    · repeat rw [decide_eq_true (by omega), if_pos rfl]
    · rfl
theorem impl_attrText_eq {n : Int} (hg : grp n = true) (a : T6) (h : attrOk n a = true) : S_impl_attrText a = some ((bs (attrText a), ()), ()) := by
  obtain ⟨h1, h2, h3⟩ := attr_nums h
  have e1 := num_small h1
  have hn := grp_iff.1 hg
  have hj := join_len (a.2.1.map num) [44] (k := 4) (by intro w hw; obtain ⟨y, hy, rfl⟩ := List.mem_map.1 hw; exact num_small (h3 y hy))
  simp only [List.length_singleton, List.length_map] at hj
  unfold S_impl_attrText p_impl_attrText attrText
  simp only [itoa_eq h1.1 (nn_small h1).2, one_bs, impl_joined_eq 44 a.2.1 (by omega) (fun x hx => nn_small (h3 x hx)), Option.bind_some, bs_append, bs_size, List.length_append, List.length_cons, List.length_nil]
  repeat rw [decide_eq_true (by omega), if_pos rfl]
theorem impl_MsgText_eq (n : Int) (a : T11) (hl : WL.wl a) (hcl : a.2.2.2.2.2.2.2.2.2.1.2.1.length ≤ 1048576) : S_impl_MsgText n a = some (if msgOk n a then ((bs (msgText a), true, ()), ()) else ((bs [], false, ()), ())) := by
  unfold S_impl_MsgText p_impl_MsgText
  simp only [impl_GoodMsg_eq n a hl hcl, Option.bind_some]
  cases hm : msgOk n a with
  | false => rfl
  | true =>
    have hN' := msgNums hm
    have hk1 := hN'.k1
    have hk7 := hN'.k7
    have hkl := kindWord_len a.1
    have hc := cmdText_len hN'.cmd
    have hat' := attrText_len hN'.grp hN'.attr
    have hj := join_len ((seven a).map num) [32] (k := 4) (by intro w hw; obtain ⟨y, hy, rfl⟩ := List.mem_map.1 hw; exact num_small (hN'.nums y hy))
    simp only [List.length_singleton, List.length_map, show (seven a).length = 7 from rfl] at hj
    have e : S_impl_spelled [a.2.1, a.2.2.1, a.2.2.2.1, a.2.2.2.2.1, a.2.2.2.2.2.1, a.2.2.2.2.2.2.1, a.2.2.2.2.2.2.2.1] = _ := impl_spelled_eq (seven a) (by simp [seven]) (fun x hx => nn_small (hN'.nums x hx))
    unfold S_impl_msgText p_impl_msgText
    simp only [Bool.not_true, Bool.false_eq_true, if_false, if_true, impl_words, Option.bind_some, nil_bs, words_rd hk1 hk7, e, impl_cmdText_eq _ hN'.cmd, impl_attrText_eq hN'.grp _ hN'.attr, one_bs, bs_append, bs_size, List.length_append, List.length_singleton]
    rw [decide_eq_true (by omega), if_pos rfl, decide_eq_true (by simp [kindWords]; omega), if_pos rfl]
    repeat rw [decide_eq_true (by omega), if_pos rfl]
    simp only [Option.bind_some, msgText, seven, List.map_cons, join_cons, joinTail_cons, List.append_assoc]
theorem bt_bs {l : List UInt8} {i : Nat} {b : UInt8} (h : l[i]? = some b) : bt (bs l) (i : Int) = (b.toNat : Int) := by
  obtain ⟨hi, hb⟩ := List.getElem?_eq_some_iff.1 h
  unfold bt
  rw [dif_pos (by rw [bs_size]; simpa using hi)]
  subst hb
  rfl
/-- the sum of a text, on from n -/
def sumL : List UInt8 → Int → Int
  | [], n => n
  | b :: t, n => sumL t ((31 * n + (b.toNat : Int)) % 65521)
theorem sum_step {n : Int} {b : UInt8} (h0 : 0 ≤ n) (h1 : n < 65521) : Int.tmod (IntKind.i64.wrap (IntKind.i64.wrap (31 * n) + IntKind.i64.wrap (b.toNat : Int))) 65521 = (31 * n + (b.toNat : Int)) % 65521 := by
  have hb := b.toNat_lt
  rw [wrap_small (n := 31 * n) (by omega) (by omega), wrap_small (n := (b.toNat : Int)) (by omega) (by omega), wrap_small (n := 31 * n + (b.toNat : Int)) (by omega) (by omega), Int.tmod_eq_emod_of_nonneg (by omega)]
theorem spec_l21Sum_eq (l : List UInt8) (hl : l.length ≤ maxLen) : S_spec_l21Sum (bs l) = some ((sumL l 5, ()), ()) := by
  unfold S_spec_l21Sum
  refine lim_eq (l.length + 1) fun N hN => ?_
  unfold p_spec_l21Sum
  refine loopN_over l hl (fun i (s : Int) => ((bs l, s, (i : Int), ()), ())) (fun i t s => ((sumL t s, ()), ())) (fun i t s => 0 ≤ s ∧ s < 65521)
    5 rfl rfl ⟨by omega, by omega⟩ hN (fun rec s h => ?_) (fun rec i b t s hat h hrec => ?_)
  · dsimp only
    simp only [bs_size, lenInt_lt_irrefl, decide_false, Bool.false_eq_true, if_false, sumL]
  · dsimp only
    simp only [bs_size, hat.lt, hat.nn, hat.wrap, bt_bs hat.get, sum_step h.1 h.2, decide_true, if_true, show ((65521 : Int) == 0) = false from rfl, Bool.false_eq_true, if_false, sumL]
    exact hrec _ ⟨Int.emod_nonneg _ (by omega), Int.emod_lt_of_pos _ (by omega)⟩
theorem impl_sumOf_eq (l : List UInt8) (hl : l.length ≤ maxLen) : S_impl_sumOf (bs l) 5 31 = some ((sumL l 5, ()), ()) := by
  unfold S_impl_sumOf
  refine lim_eq (l.length + 1) fun N hN => ?_
  unfold p_impl_sumOf
  refine loopN_over l hl (fun i (s : Int) => ((bs l, s, 31, (l.length : Int), (i : Int), ()), ())) (fun i t s => ((sumL t s, ()), ())) (fun i t s => 0 ≤ s ∧ s < 65521)
    5 (by rw [bs_size]; rfl) rfl ⟨by omega, by omega⟩ hN (fun rec s h => ?_) (fun rec i b t s hat h hrec => ?_)
  · dsimp only
    simp only [lenInt_lt_irrefl, decide_false, Bool.false_eq_true, if_false, sumL]
  · have e : IntKind.i64.wrap (s * 31) = IntKind.i64.wrap (31 * s) := by rw [Int.mul_comm]
    dsimp only
    simp only [bs_size, hat.lt, hat.nn, hat.wrap, bt_bs hat.get, e, sum_step h.1 h.2, decide_true, if_true, show ((65521 : Int) == 0) = false from rfl, Bool.false_eq_true, if_false, sumL]
    exact hrec _ ⟨Int.emod_nonneg _ (by omega), Int.emod_lt_of_pos _ (by omega)⟩
def byteOf (n : Int) : UInt8 := n.toNat.toUInt8
def lenB (l : List UInt8) : UInt8 := byteOf (IntKind.u8.wrap (l.length : Int))
def hiB (n : Int) : UInt8 := byteOf (IntKind.u8.wrap (IntKind.i64.wrap (n.tdiv 256)))
def loB (n : Int) : UInt8 := byteOf (IntKind.u8.wrap (n.tmod 256))
/-- a text in its frame -/
def frame (l : List UInt8) : List UInt8 := [255, lenB l] ++ l ++ [hiB (sumL l 5), loB (sumL l 5)]
theorem frame_len (l : List UInt8) : (frame l).length = l.length + 4 := by simp [frame]
theorem spec_l21Frame_eq (l : List UInt8) (hl : l.length ≤ 1048576) : S_spec_l21Frame (bs l) = some ((bs (frame l), ()), ()) := by
  unfold S_spec_l21Frame p_spec_l21Frame
  have e1 : strOf [(255 : Int), IntKind.u8.wrap (l.length : Int)] = bs [255, lenB l] := rfl
  have e2 : strOf [IntKind.u8.wrap (IntKind.i64.wrap ((sumL l 5).tdiv 256)), IntKind.u8.wrap ((sumL l 5).tmod 256)] = bs [hiB (sumL l 5), loB (sumL l 5)] := rfl
  simp only [spec_l21Sum_eq l (by rw [maxLen_eq]; omega), Option.bind_some, bs_size, e1, e2, bs_append, List.length_append, List.length_cons, List.length_nil, show ((256 : Int) == 0) = false from rfl, Bool.false_eq_true, if_false]
  repeat rw [decide_eq_true (by omega), if_pos rfl]
  rfl
theorem impl_wireBytes_eq (l : List UInt8) (hl : l.length ≤ 1048576) : S_impl_wireBytes (bs l) = some ((bs (frame l), ()), ()) := by
  unfold S_impl_wireBytes p_impl_wireBytes
  have e1 : strOf [IntKind.u8.wrap (l.length : Int)] = bs [lenB l] := rfl
  have e2 : S_impl_twoBytes (sumL l 5) = some ((bs [hiB (sumL l 5), loB (sumL l 5)], ()), ()) := rfl
  simp only [impl_sumOf_eq l (by rw [maxLen_eq]; omega), Option.bind_some, bs_size, e1, e2, one_bs, bs_append, List.length_append, List.length_cons, List.length_nil]
  repeat rw [decide_eq_true (by omega), if_pos rfl]
  rfl
theorem msgText_len {n : Int} {a : T11} (h : MsgNums n a) : (msgText a).length ≤ 105 := by
  have hkl := kindWord_len a.1
  have hc := cmdText_len h.cmd
  have hat' := attrText_len h.grp h.attr
  have hj : (joinTail [32] ((seven a).map num)).length ≤ 35 := by
    rw [joinTail_length]
    have := lens_le (k := 4) ((seven a).map num) (by intro w hw; obtain ⟨y, hy, rfl⟩ := List.mem_map.1 hw; exact num_small (h.nums y hy))
    simp only [List.length_singleton, List.length_map, show (seven a).length = 7 from rfl] at this ⊢
    omega
  unfold msgText
  simp only [List.length_append, List.length_singleton]
  omega
/-- what MsgBytes says -/
noncomputable def msgBytes (n : Int) (a : T11) : List UInt8 × Bool := if msgOk n a then (frame (msgText a), true) else ([], false)
theorem spec_MsgBytes_eq (n : Int) (a : T11) (hl : WL.wl a) : S_spec_MsgBytes n a = some ((bs (msgBytes n a).1, (msgBytes n a).2, ()), ()) := by
  unfold S_spec_MsgBytes p_spec_MsgBytes msgBytes
  rw [spec_MsgText_eq n a hl]
  cases hm : msgOk n a with
  | false => rfl
  | true =>
    have := msgText_len (msgNums hm)
    simp only [if_true, Option.bind_some, Bool.not_true, Bool.false_eq_true, if_false, bs_size, spec_l21Frame_eq (msgText a) (by omega)]
    rw [decide_eq_false (by omega), if_neg (by simp)]
theorem impl_MsgBytes_eq (n : Int) (a : T11) (hl : WL.wl a) (hcl : a.2.2.2.2.2.2.2.2.2.1.2.1.length ≤ 1048576) : S_impl_MsgBytes n a = some ((bs (msgBytes n a).1, (msgBytes n a).2, ()), ()) := by
  unfold S_impl_MsgBytes p_impl_MsgBytes msgBytes
  rw [impl_MsgText_eq n a hl hcl]
  cases hm : msgOk n a with
  | false => rfl
  | true =>
    have := msgText_len (msgNums hm)
    simp only [if_true, Option.bind_some, Bool.not_true, Bool.false_eq_true, if_false, bs_size, impl_wireBytes_eq (msgText a) (by omega)]
    rw [decide_eq_false (by omega), if_neg (by simp)]
theorem cnt11 {a : T11} (h : Cnt.cnt a ≤ 1048576) : a.2.2.2.2.2.2.2.2.2.1.2.1.length ≤ 1048576 := by
  have e : Cnt.cnt a = Cnt.cnt a.2.2.2.2.2.2.2.2.2.1.2.1 := by simp only [cnt_pair, cnt_int0, cnt_bool0, cnt_unit0]; omega
  rw [e, cnt_ints] at h
  exact h
/-- frames, one behind the other -/
def wire : List T11 → List UInt8
  | [] => []
  | a :: t => frame (msgText a) ++ wire t
def wres (b : Bool) (x : List UInt8) : (ByteArray × Bool × Unit) × Unit := if b then ((bs x, true, ()), ()) else ((bs [], false, ()), ())
theorem frame_small {n : Int} {a : T11} (h : msgOk n a = true) : (frame (msgText a)).length ≤ 109 := by
  have := msgText_len (msgNums h)
  rw [frame_len]; omega
theorem spec_WireOf_eq (n : Int) (l : List T11) (hl : WL.wl l) (h2 : l.length ≤ 1048576) : S_spec_WireOf n l = some (wres (l.all (msgOk n) && (grp n && decide ((wire l).length ≤ 4000))) (wire l)) := by
  unfold S_spec_WireOf
  refine lim_eq (l.length + 1) fun N hN => ?_
  unfold p_spec_WireOf
  refine loopN_over l hl.1 (fun i (s : List UInt8) => ((n, bs s, l, (l.length : Int), (i : Int), ()), ())) (fun i t s => wres (t.all (msgOk n) && (grp n && decide ((s ++ wire t).length ≤ 4000))) (s ++ wire t)) (fun i t s => s.length ≤ 109 * i ∧ i ≤ l.length)
    [] rfl rfl ⟨by simp, by omega⟩ hN (fun rec s hs => ?_) (fun rec i b t s hat hs hrec => ?_)
  · dsimp only
    simp only [lenInt_lt_irrefl, decide_false, Bool.false_eq_true, if_false, spec_IsGroup_eq, Option.bind_some, List.all_nil, Bool.true_and, wire, List.append_nil, bs_size, nil_bs]
    cases grp n with
    | false => rfl
    | true =>
      by_cases h : s.length ≤ 4000
      · rw [decide_eq_false (by omega), decide_eq_true h]; rfl
      · rw [decide_eq_true (by omega), decide_eq_false h]; rfl
  · obtain ⟨hs1, hs2⟩ := hs
    have hi := hat.ltn
    dsimp only
    simp only [hat.lt, hat.nn, hat.wrap, hat.rd, decide_true, if_true, spec_MsgBytes_eq n b (hl.2 b hat.mem), Option.bind_some, List.all_cons, nil_bs]
    unfold msgBytes
    cases hm : msgOk n b with
    | false => rfl
    | true =>
      have hf := frame_small hm
      simp only [if_true, Bool.not_true, Bool.false_eq_true, if_false, bs_size, bs_append, Bool.true_and]
      rw [decide_eq_true (by omega), if_pos rfl]
      refine (hrec _ ⟨by simp; omega, by omega⟩).trans ?_
      simp only [wire, List.append_assoc]
      rfl
theorem impl_WireOf_eq (n : Int) (l : List T11) (hl : WL.wl l) (h2 : ∀ a ∈ l, a.2.2.2.2.2.2.2.2.2.1.2.1.length ≤ 1048576) : S_impl_WireOf n l = some (wres (l.all (msgOk n) && (grp n && decide ((wire l).length ≤ 4000))) (wire l)) := by
  unfold S_impl_WireOf
  refine lim_eq (l.length + 1) fun N hN => ?_
  unfold p_impl_WireOf
  simp only [impl_IsGroup_eq, Option.bind_some]
  cases hg : grp n with
  | false => simp [wres, nil_bs]
  | true =>
  simp only [Bool.not_true, Bool.false_eq_true, if_false, Bool.true_and]
  refine loopN_over l hl.1 (fun i (s : List UInt8) => ((n, bs s, l, (l.length : Int), (i : Int), ()), ())) (fun i t s => wres (t.all (msgOk n) && decide ((s ++ wire t).length ≤ 4000)) (s ++ wire t)) (fun i t s => s.length ≤ 4000)
    [] rfl rfl (by simp) hN (fun rec s hs => ?_) (fun rec i b t s hat hs hrec => ?_)
  · dsimp only
    simp only [lenInt_lt_irrefl, decide_false, Bool.false_eq_true, if_false, List.all_nil, Bool.true_and, wire, List.append_nil]
    rw [decide_eq_true hs]; rfl
  · dsimp only
    simp only [hat.lt, hat.nn, hat.wrap, hat.rd, decide_true, if_true, impl_MsgBytes_eq n b (hl.2 b hat.mem) (h2 b hat.mem), Option.bind_some, List.all_cons, nil_bs]
    unfold msgBytes
    cases hm : msgOk n b with
    | false =>
      simp only [Bool.false_eq_true, if_false, bs_size, bs_append, List.length_nil, List.append_nil, Bool.not_false, if_true, Bool.false_and]
      rw [decide_eq_true (by omega), if_pos rfl]; rfl
    | true =>
      have hf := frame_small hm
      simp only [if_true, Bool.not_true, Bool.false_eq_true, if_false, bs_size, bs_append, Bool.true_and, List.length_append]
      rw [decide_eq_true (by omega), if_pos rfl]
      by_cases h : (s ++ frame (msgText b)).length ≤ 4000
      · have h' := h
        rw [List.length_append] at h'
        rw [decide_eq_false (by omega), if_neg (by simp)]
        refine (hrec _ h).trans ?_
        simp only [wire, List.append_assoc, List.length_append]
      · rw [List.length_append] at h
        rw [decide_eq_true (by omega), if_pos rfl, decide_eq_false (by simp only [wire, List.length_append]; omega), Bool.and_false]; rfl
theorem wl11s {s s' : Nat} {l : List T11} (h : Wf (.slice s' (Y11 s)) l) : WL.wl l := ⟨h.1, fun a ha => wl11 (h.2 a ha)⟩
theorem law_WireOf (n : Int) (l : List T11) (hl : WL.wl l) (N : Nat) : p_laws_FnExactWireOf N n l = some ((true, ()), ()) := by
  unfold p_laws_FnExactWireOf
  rw [sz_MsgS _ _ (by omega) (by omega) hl]
  refine sz_over (by omega) rfl fun hn r hr => ?_
  have hc : Cnt.cnt l ≤ 1048576 := Int.ofNat_le.1 hn
  have ht := to_MsgS l hc
  rw [cnt_list] at hc
  have h2 : ∀ a ∈ l, a.2.2.2.2.2.2.2.2.2.1.2.1.length ≤ 1048576 := fun a ha => cnt11 (by have := le_sumCnt Cnt.cnt ha; omega)
  simp only [hr, Bool.false_eq_true, if_false, ht, Option.bind_some, spec_WireOf_eq n l hl (by omega), impl_WireOf_eq n l hl h2, eq_MsgS l l hl hl, same_self]
  simp
end Go.AM.P
