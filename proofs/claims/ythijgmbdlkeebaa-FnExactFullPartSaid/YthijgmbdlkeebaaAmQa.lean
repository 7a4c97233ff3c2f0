/- What the laws' own functions do to data: sizes, copies, comparisons, marks. No condition. -/
import Derived.Test.YthijgmbdlkeebaaAmPb
set_option linter.unusedVariables false
set_option linter.unusedSimpArgs false
namespace Go.AM.P
open Go.AM

/-- lists no longer than lists are -/
class WL (α : Type) where
  wl : α → Prop
instance : WL Int := ⟨fun _ => True⟩
instance : WL Bool := ⟨fun _ => True⟩
instance : WL Unit := ⟨fun _ => True⟩
instance : WL ByteArray := ⟨fun s => s.size ≤ maxLen⟩
instance {α β : Type} [WL α] [WL β] : WL (α × β) := ⟨fun x => WL.wl x.1 ∧ WL.wl x.2⟩
instance {α : Type} [WL α] : WL (List α) := ⟨fun l => l.length ≤ maxLen ∧ ∀ x ∈ l, WL.wl x⟩
theorem wl_list {α : Type} [WL α] {l : List α} (h : WL.wl l) : l.length ≤ maxLen := h.1
theorem wl_mem {α : Type} [WL α] {l : List α} (h : WL.wl l) {x : α} (hx : x ∈ l) : WL.wl x := h.2 x hx


/-- marking: what it writes is what is found -/
def Marks {α : Type} [WL α] (f : α → Int → Option ((Int × Unit) × (α × Unit))) (g : α → Int → Option ((Int × Unit) × Unit)) (u : α → Nat) : Prop :=
  ∀ (x : α) (k : Int), WL.wl x → 0 < k → k + (u x : Int) ≤ 4611686018427387904 → ∃ x' : α, f x k = some ((k + (u x : Int), ()), (x', ())) ∧ g x' k = some ((k + (u x : Int), ()), ())

def marks (k : Int) : Nat → List Int
  | 0 => []
  | n + 1 => k :: marks (k + 1) n
theorem marks_len (k : Int) (n : Nat) : (marks k n).length = n := by
  induction n generalizing k with
  | zero => rfl
  | succ n ih => simp [marks, ih]

theorem markIntS_eq {l : List Int} {k : Int} (h0 : 0 < k) (hk : k + l.length ≤ 4611686018427387904) : S_laws_markIntS l k = some ((k + l.length, ()), (marks k l.length, ())) := by
  unfold S_laws_markIntS
  refine lim_eq (l.length + 1) fun N hN => ?_
  unfold p_laws_markIntS
  refine loopN_over l (by rw [maxLen_eq]; omega) (fun i (s : Int × List Int) => ((s.1, (i : Int), ()), (s.2, ()))) (fun i t s => ((s.1 + t.length, ()), (s.2.take i ++ marks s.1 t.length, ())))
    (fun i t s => 0 < s.1 ∧ s.1 + t.length ≤ 4611686018427387904 ∧ s.2.length = l.length ∧ i + t.length = l.length)
    (k, l) rfl (by simp) ⟨h0, hk, rfl, by simp⟩ hN (fun rec s h => ?_) (fun rec i b t s hat h hrec => ?_)
  · obtain ⟨h1, h2, h3, h4⟩ := h
    dsimp only
    simp only [h3, lenInt_lt_irrefl, decide_false, Bool.false_eq_true, if_false, marks]
    rw [← h3, List.take_length]
    simp [marks]
  · obtain ⟨k, xs⟩ := s
    obtain ⟨h1, h2, h3, h4⟩ := h
    simp only [List.length_cons] at h1 h2 h3 h4
    have hlt := hat.ltn
    dsimp only
    simp only [h3, hat.lt, hat.nn, hat.wrap, decide_true, if_true, Int.toNat_natCast]
    rw [wrap_small (n := k + 1) (by omega) (by omega)]
    have hi : i < xs.length := by omega
    refine (hrec (k + 1, xs.set i k) ⟨by simp; omega, by simp; omega, by simp [h3], by omega⟩).trans ?_
    simp only [List.length_cons, marks, Option.some.injEq, Prod.mk.injEq, and_true]
    refine ⟨by omega, ?_⟩
    rw [List.take_add_one, List.getElem?_set_self hi, List.take_set, List.set_eq_of_length_le (by simp; omega)]
    simp

theorem heldIntS_eq {n : Nat} {k : Int} (h0 : 0 < k) (hk : k + n ≤ 4611686018427387904) : S_laws_heldIntS (marks k n) k = some ((k + n, ()), ()) := by
  unfold S_laws_heldIntS
  refine lim_eq (n + 1) fun N hN => ?_
  unfold p_laws_heldIntS
  refine loopN_over (marks k n) (by rw [maxLen_eq, marks_len]; omega) (fun i (s : Int) => ((marks k n, s, (i : Int), ()), ())) (fun i t s => ((s + t.length, ()), ()))
    (fun i t s => 0 < s ∧ s + t.length ≤ 4611686018427387904 ∧ t = marks s t.length)
    k rfl (by simp [marks_len]) ⟨h0, by simpa [marks_len] using hk, by rw [marks_len]⟩ (by rw [marks_len]; omega) (fun rec s h => ?_) (fun rec i b t s hat h hrec => ?_)
  · dsimp only
    simp only [lenInt_lt_irrefl, decide_false, Bool.false_eq_true, if_false]
    simp
  · obtain ⟨h1, h2, h3⟩ := h
    simp only [List.length_cons, marks, List.cons.injEq] at h2 h3
    obtain ⟨rfl, h3⟩ := h3
    dsimp only
    simp only [hat.lt, hat.nn, hat.wrap, hat.rd, decide_true, if_true, bne_self_eq_false, Bool.false_eq_true, if_false]
    rw [wrap_small (n := b + 1) (by omega) (by omega)]
    refine (hrec (b + 1) ⟨by omega, by omega, h3⟩).trans ?_
    simp only [List.length_cons, Option.some.injEq, Prod.mk.injEq, and_true]
    omega

theorem marks_IntS : Marks S_laws_markIntS S_laws_heldIntS List.length := fun l k _ h0 hk => ⟨_, markIntS_eq h0 hk, heldIntS_eq h0 hk⟩

/-! ### sizes: what is read is no longer than what was counted -/
class Cnt (α : Type) where
  cnt : α → Nat
instance : Cnt Int := ⟨fun _ => 0⟩
instance : Cnt Bool := ⟨fun _ => 0⟩
instance : Cnt Unit := ⟨fun _ => 0⟩
instance : Cnt ByteArray := ⟨fun s => s.size⟩
instance {α β : Type} [Cnt α] [Cnt β] : Cnt (α × β) := ⟨fun x => Cnt.cnt x.1 + Cnt.cnt x.2⟩
def sumCnt {α : Type} (f : α → Nat) : List α → Nat
  | [] => 0
  | x :: r => f x + sumCnt f r
instance {α : Type} [Cnt α] : Cnt (List α) := ⟨fun l => l.length + sumCnt Cnt.cnt l⟩
theorem le_sumCnt {α : Type} (f : α → Nat) {l : List α} {x : α} (h : x ∈ l) : f x ≤ sumCnt f l := by
  induction l with
  | nil => cases h
  | cons y r ih =>
    simp only [sumCnt]
    rcases List.mem_cons.1 h with rfl | h
    · omega
    · have := ih h; omega
theorem cnt_list {α : Type} [Cnt α] (l : List α) : Cnt.cnt l = l.length + sumCnt Cnt.cnt l := rfl
theorem cnt_pair {α β : Type} [Cnt α] [Cnt β] (x : α × β) : Cnt.cnt x = Cnt.cnt x.1 + Cnt.cnt x.2 := rfl
theorem sumCnt_int (l : List Int) : sumCnt Cnt.cnt l = 0 := by
  induction l with
  | nil => rfl
  | cons x r ih => simp only [sumCnt, ih]; rfl
theorem cnt_ints (l : List Int) : Cnt.cnt l = l.length := by rw [cnt_list, sumCnt_int, Nat.add_zero]


/-- what the laws' counting says -/
def szV (n : Nat) (k : Int) : Int := if (n : Int) ≤ k then k - n else -1
def szRes (n : Nat) (k : Int) : Option ((Int × Unit) × Unit) := some ((szV n k, ()), ())
theorem szV_pos {n : Nat} {k : Int} (h : (n : Int) ≤ k) : szV n k = k - n := if_pos h
theorem szV_neg {n : Nat} {k : Int} (h : ¬ (n : Int) ≤ k) : szV n k = -1 := if_neg h
def SzOk {α : Type} [Cnt α] [WL α] (f : α → Int → Option ((Int × Unit) × Unit)) : Prop :=
  ∀ (x : α) (k : Int), 0 ≤ k → k ≤ 1048576 → WL.wl x → f x k = szRes (Cnt.cnt x) k

theorem sz_head {n : Nat} {k : Int} (hn : n ≤ maxLen) (h0 : 0 ≤ k) (h1 : k ≤ 1048576) : IntKind.i64.wrap (k - (n : Int)) = k - n := by
  rw [maxLen_eq] at hn
  exact wrap_small (by omega) (by omega)

theorem sz_list {α : Type} [Cnt α] [WL α] {f : α → Int → Option ((Int × Unit) × Unit)} (hf : SzOk f) (z : α) (l : List α) (k : Int) (h0 : 0 ≤ k) (h1 : k ≤ 1048576) (hl : WL.wl l) {N : Nat} (hN : l.length < N) :
    (if (decide ((IntKind.i64.wrap (k - (l.length : Int))) < (0 : Int))) then (some (((-1 : Int), ()), ())) else (loopN N (fun rec1 (d2 : (List α × Int × Int × Unit) × (Unit)) => (if (decide (d2.1.2.2.1 < (d2.1.1.length : Int))) then (if (decide (0 ≤ d2.1.2.2.1)) then (if (decide (d2.1.2.2.1 < d2.1.1.length)) then ((f (rd d2.1.1 d2.1.2.2.1 z) d2.1.2.1).bind fun y3 => (if (decide (y3.1.1 < (0 : Int))) then (some (((-1 : Int), ()), ())) else (rec1 ((d2.1.1, y3.1.1, (IntKind.i64.wrap (d2.1.2.2.1 + (1 : Int))), ()), (()))))) else none) else none) else (some ((d2.1.2.1, ()), ())))) ((l, (IntKind.i64.wrap (k - (l.length : Int))), (0 : Int), ()), (()))))
    = szRes (Cnt.cnt l) k := by
  rw [sz_head hl.1 h0 h1]
  by_cases hk : k - (l.length : Int) < 0
  · simp only [hk, decide_true, if_true, szRes, cnt_list]
    rw [szV_neg (by omega)]
  simp only [hk, decide_false, Bool.false_eq_true, if_false]
  refine loopN_over l hl.1 (fun i (s : Int) => ((l, s, (i : Int), ()), ())) (fun i t s => ((szV (sumCnt Cnt.cnt t) s, ()), ())) (fun i t s => 0 ≤ s ∧ s ≤ 1048576)
    (k - l.length) rfl ?_ ⟨by omega, by omega⟩ hN (fun rec s h => ?_) (fun rec i b t s hat h hrec => ?_)
  · rw [cnt_list]
    simp only [Prod.mk.injEq, and_true]
    unfold szV
    split <;> split <;> omega
  · dsimp only
    simp only [lenInt_lt_irrefl, decide_false, Bool.false_eq_true, if_false, sumCnt]
    simp [szV, h.1]
  · dsimp only
    simp only [hat.lt, hat.nn, hat.wrap, hat.rd, decide_true, if_true]
    rw [hf b s h.1 h.2 (wl_mem hl hat.mem)]
    simp only [szRes, Option.bind_some, sumCnt]
    by_cases hb : (Cnt.cnt b : Int) ≤ s
    · rw [szV_pos hb, decide_eq_false (by omega)]
      simp only [Bool.false_eq_true, if_false]
      refine (hrec _ ⟨by omega, by omega⟩).trans ?_
      simp only [Option.some.injEq, Prod.mk.injEq, and_true]
      unfold szV
      split <;> split <;> omega
    · rw [szV_neg hb, szV_neg (by omega)]
      simp

theorem sz_IntS : SzOk S_laws_szIntS := fun x k h0 h1 hl => by
  unfold S_laws_szIntS p_laws_szIntS
  rw [sz_head hl.1 h0 h1, szRes, cnt_ints]
  by_cases hk : k - (x.length : Int) < 0
  · simp only [hk, decide_true, if_true]
    rw [szV_neg (by omega)]
  · simp only [hk, decide_false, Bool.false_eq_true, if_false]
    rw [szV_pos (by omega)]
theorem sz_IntSS : SzOk S_laws_szIntSS := fun x k h0 h1 hl => lim_eq (x.length + 1) fun N hN => sz_list sz_IntS [] x k h0 h1 hl hN

/-! ### copies -/
/-- of no more than was counted -/
def ToOk {α : Type} [Cnt α] (f : α → Option ((α × Unit) × Unit)) : Prop := ∀ x : α, Cnt.cnt x ≤ 1048576 → f x = some ((x, ()), ())

theorem set_rep {β : Type} (xs : List β) (n : Nat) (z c : β) (i : Nat) (h : xs.length = i) : (xs ++ List.replicate (n + 1) z).set i c = (xs ++ [c]) ++ List.replicate n z := by
  subst h
  rw [List.replicate_succ]
  simp

theorem to_list {α : Type} [Cnt α] {f : α → Option ((α × Unit) × Unit)} (hf : ToOk f) (z : α) (w : Nat) (hw : w ≤ 1000) (l : List α) (hl : Cnt.cnt l ≤ 1048576) {N : Nat} (hN : l.length < N) :
    (if (decide ((0 : Int) ≤ (l.length : Int))) then (if ((l.length : Int) == (l.length : Int)) then (if (decide ((l.length : Int) * w ≤ 140737488355328)) then (loopN N (fun rec1 (d2 : (List α × Int × Unit) × (List α × List α × Unit)) => (if (decide (d2.1.2.1 < (d2.1.1.length : Int))) then (if (decide (0 ≤ d2.1.2.1)) then (if (decide (d2.1.2.1 < d2.1.1.length)) then ((f (rd d2.1.1 d2.1.2.1 z)).bind fun y3 => (if (decide (0 ≤ d2.1.2.1)) then (if (decide (d2.1.2.1 < d2.2.2.1.length)) then (rec1 ((d2.1.1, (IntKind.i64.wrap (d2.1.2.1 + (1 : Int))), ()), (d2.2.1, (d2.2.2.1.set d2.1.2.1.toNat y3.1.1), ()))) else none) else none)) else none) else none) else (some ((d2.2.2.1, ()), ())))) ((l, (0 : Int), ()), (([] : List α), (List.replicate (l.length : Int).toNat z), ()))) else none) else none) else none)
    = some ((l, ()), ()) := by
  rw [cnt_list] at hl
  have h1 : (0 : Int) ≤ (l.length : Int) := by omega
  have h2 : (l.length : Int) * w ≤ 140737488355328 := by
    have : (l.length : Int) * w ≤ 1048576 * 1000 := Int.mul_le_mul (by omega) (by omega) (by omega) (by omega)
    omega
  simp only [h1, h2, decide_true, if_true, beq_self_eq_true, Int.toNat_natCast]
  refine loopN_over l (by rw [maxLen_eq]; omega) (fun i (s : List α) => ((l, (i : Int), ()), ([], s ++ List.replicate (l.length - i) z, ()))) (fun i t s => ((s ++ t, ()), ())) (fun i t s => s.length = i)
    [] rfl rfl rfl hN (fun rec s h => ?_) (fun rec i b t s hat h hrec => ?_)
  · dsimp only
    simp [h]
  · have hlt := hat.ltn
    obtain ⟨m, hm⟩ : ∃ m, l.length - i = m + 1 := ⟨l.length - i - 1, by omega⟩
    dsimp only
    rw [hm]
    have hb : Cnt.cnt b ≤ 1048576 := by have := le_sumCnt Cnt.cnt hat.mem; omega
    have h5 : (i : Int) < ((s ++ List.replicate (m + 1) z).length : Int) := by simp [h]; omega
    simp only [hat.lt, hat.nn, hat.wrap, hat.rd, decide_true, if_true, hf b hb, Option.bind_some, h5, Int.toNat_natCast, set_rep s m z b i h]
    have := hrec (s ++ [b]) (by simp [h])
    rw [show l.length - (i + 1) = m by omega] at this
    exact this.trans (by simp)

theorem to_list0 {α : Type} [Cnt α] (z : α) (w : Nat) (hw : w ≤ 1000) (l : List α) (hl : Cnt.cnt l ≤ 1048576) {N : Nat} (hN : l.length < N) :
    (if (decide ((0 : Int) ≤ (l.length : Int))) then (if ((l.length : Int) == (l.length : Int)) then (if (decide ((l.length : Int) * w ≤ 140737488355328)) then (loopN N (fun rec1 (d2 : (List α × Int × Unit) × (List α × List α × Unit)) => (if (decide (d2.1.2.1 < (d2.1.1.length : Int))) then (if (decide (0 ≤ d2.1.2.1)) then (if (decide (d2.1.2.1 < d2.1.1.length)) then (if (decide (0 ≤ d2.1.2.1)) then (if (decide (d2.1.2.1 < d2.2.2.1.length)) then (rec1 ((d2.1.1, (IntKind.i64.wrap (d2.1.2.1 + (1 : Int))), ()), (d2.2.1, (d2.2.2.1.set d2.1.2.1.toNat (rd d2.1.1 d2.1.2.1 z)), ()))) else none) else none) else none) else none) else (some ((d2.2.2.1, ()), ())))) ((l, (0 : Int), ()), (([] : List α), (List.replicate (l.length : Int).toNat z), ()))) else none) else none) else none)
    = some ((l, ()), ()) := to_list (f := fun x => some ((x, ()), ())) (fun x _ => rfl) z w hw l hl hN

theorem to_IntS : ToOk S_laws_toIntS := fun x h => lim_eq (x.length + 1) fun N hN => to_list0 0 8 (by omega) x h hN
theorem to_IntSS : ToOk S_laws_toIntSS := fun x h => lim_eq (x.length + 1) fun N hN => to_list to_IntS [] 24 (by omega) x h hN

/-! ### comparisons -/
open Classical in
/-- are they the same? -/
noncomputable def same {α : Type} (a b : α) : Bool := decide (a = b)
theorem same_iff {α : Type} {a b : α} : same a b = true ↔ a = b := by simp [same]
theorem same_self {α : Type} (a : α) : same a a = true := same_iff.2 rfl
theorem same_of {α : Type} {a b : α} {r : Bool} (h : r = true ↔ a = b) : r = same a b := by
  rw [Bool.eq_iff_iff, h, same_iff]
theorem same_cons {α : Type} (a b : α) (s t : List α) : same (a :: s) (b :: t) = (same a b && same s t) := by
  rw [Bool.eq_iff_iff]; simp [same_iff]
theorem same_pair {α β : Type} (a b : α × β) : same a b = (same a.1 b.1 && same a.2 b.2) := by
  rw [Bool.eq_iff_iff]; simp [same_iff, Prod.ext_iff]
theorem same_unit (a b : Unit) : same a b = true := same_iff.2 rfl
theorem same_bne (a b : Int) : (a != b) = !same a b := by
  by_cases h : a = b
  · subst h; simp [same_self]
  · have : same a b = false := by rw [Bool.eq_false_iff]; intro h2; exact h (same_iff.1 h2)
    simp [this, h]
theorem same_bneB (a b : Bool) : (a != b) = !same a b := by
  by_cases h : a = b
  · subst h; simp [same_self]
  · have : same a b = false := by rw [Bool.eq_false_iff]; intro h2; exact h (same_iff.1 h2)
    rw [this]; cases a <;> cases b <;> simp at h ⊢
def EqOk {α : Type} [WL α] (f : α → α → Option ((Bool × Unit) × Unit)) : Prop := ∀ a b : α, WL.wl a → WL.wl b → f a b = some ((same a b, ()), ())

theorem eq_list {α : Type} [WL α] {f : α → α → Option ((Bool × Unit) × Unit)} (hf : EqOk f) (z : α) (l m : List α) (hl : WL.wl l) (hm : WL.wl m) {N : Nat} (hN : l.length < N) :
    (if ((l.length : Int) != (m.length : Int)) then (some ((false, ()), ())) else (loopN N (fun rec1 (d2 : (List α × List α × Int × Unit) × (Unit)) => (if (decide (d2.1.2.2.1 < (d2.1.1.length : Int))) then (if (decide (0 ≤ d2.1.2.2.1)) then (if (decide (d2.1.2.2.1 < d2.1.1.length)) then (if (decide (0 ≤ d2.1.2.2.1)) then (if (decide (d2.1.2.2.1 < d2.1.2.1.length)) then ((f (rd d2.1.1 d2.1.2.2.1 z) (rd d2.1.2.1 d2.1.2.2.1 z)).bind fun y3 => (if (!y3.1.1) then (some ((false, ()), ())) else (rec1 ((d2.1.1, d2.1.2.1, (IntKind.i64.wrap (d2.1.2.2.1 + (1 : Int))), ()), (()))))) else none) else none) else none) else none) else (some ((true, ()), ())))) ((l, m, (0 : Int), ()), (()))))
      = some ((same l m, ()), ()) := by
  by_cases hlen : l.length = m.length
  · have h1 : ((l.length : Int) != (m.length : Int)) = false := by simp [hlen]
    rw [h1]
    simp only [Bool.false_eq_true, if_false]
    refine loopN_over l hl.1 (fun i (s : Unit) => ((l, m, (i : Int), ()), ())) (fun i t s => ((same t (m.drop i), ()), ())) (fun i t s => True)
      () rfl (by simp) trivial hN (fun rec s h => ?_) (fun rec i b t s hat h hrec => ?_)
    · dsimp only
      simp [hlen, same_self]
    · have hlt := hat.ltn
      have hd : m.drop i = m[i]'(by omega) :: m.drop (i + 1) := List.drop_eq_getElem_cons (by omega)
      have hb := At.of hm.1 hd
      have hr := hf b (m[i]'(by omega)) (wl_mem hl hat.mem) (wl_mem hm hb.mem)
      dsimp only
      simp only [hat.lt, hb.lt, hat.nn, hat.wrap, hat.rd, hb.rd, decide_true, if_true, hr, Option.bind_some, hd, same_cons]
      cases same b (m[i]'(by omega)) with
      | false => simp
      | true =>
        simp only [Bool.not_true, Bool.false_eq_true, if_false, Bool.true_and]
        exact hrec () trivial
  · have h1 : ((l.length : Int) != (m.length : Int)) = true := by simp; omega
    rw [h1]
    have : same l m = false := by rw [Bool.eq_false_iff]; intro h; rw [same_iff] at h; subst h; exact hlen rfl
    simp [this]

theorem eq_IntS : EqOk S_laws_eqIntS := fun a b ha hb => lim_eq (a.length + 1) fun N hN => by
  have h := eq_list (f := fun a b : Int => some ((same a b, ()), ())) (fun a b _ _ => rfl) 0 a b ha hb (N := N) hN
  unfold p_laws_eqIntS
  simp only [same_bne (rd _ _ _)]
  exact h
theorem eq_IntSS : EqOk S_laws_eqIntSS := fun a b ha hb => lim_eq (a.length + 1) fun N hN => eq_list eq_IntS [] a b ha hb hN

/-! ### marks in lists -/
/-- a list marked element by element -/
def mlist {α : Type} (f : α → Int → Option ((Int × Unit) × (α × Unit))) : Int → List α → List α
  | _, [] => []
  | k, b :: t => match f b k with
    | some ((k', _), (b', _)) => b' :: mlist f k' t
    | none => []

theorem mlist_cons {α : Type} {f : α → Int → Option ((Int × Unit) × (α × Unit))} {k k' : Int} {b b' : α} {t : List α} (h : f b k = some ((k', ()), (b', ()))) : mlist f k (b :: t) = b' :: mlist f k' t := by
  simp only [mlist, h]

theorem mlist_len {α : Type} [WL α] {f : α → Int → Option ((Int × Unit) × (α × Unit))} {g : α → Int → Option ((Int × Unit) × Unit)} {u : α → Nat} (h : Marks f g u) : ∀ (l : List α) (k : Int), (∀ x ∈ l, WL.wl x) → 0 < k → k + (sumCnt u l : Int) ≤ 4611686018427387904 → (mlist f k l).length = l.length
  | [], _, _, _, _ => rfl
  | b :: t, k, hl, h0, hk => by
    simp only [sumCnt] at hk
    obtain ⟨b', h1, _⟩ := h b k (hl b (by simp)) h0 (by omega)
    rw [mlist_cons h1, List.length_cons, mlist_len h t _ (fun x hx => hl x (by simp [hx])) (by omega) (by omega), List.length_cons]

theorem loopN_mut {β σ α ρ : Type} {body : (α → Option ρ) → α → Option ρ} {N : Nat} {x : α} {v : ρ} (l : List β) (hl : l.length ≤ maxLen) (mk : Nat → List β → σ → α) (G : List β → List β → σ → ρ) (I : List β → List β → σ → Prop)
    (s : σ) (hx : mk 0 l s = x) (hv : G [] l s = v) (hI : I [] l s) (hN : l.length < N)
    (nil : ∀ rec dn s, dn.length = l.length → I dn [] s → body rec (mk dn.length dn s) = some (G dn [] s))
    (cons : ∀ rec dn b t s, At (dn ++ b :: t) dn.length b t → I dn (b :: t) s → (∀ b' s', I (dn ++ [b']) t s' → rec (mk (dn.length + 1) (dn ++ b' :: t) s') = some (G (dn ++ [b']) t s')) → body rec (mk dn.length (dn ++ b :: t) s) = some (G dn (b :: t) s)) :
    loopN N body x = some v := by
  subst hx; subst hv
  have key : ∀ (todo dn : List β) (s : σ) (N : Nat), dn.length + todo.length = l.length → I dn todo s → todo.length < N → loopN N body (mk dn.length (dn ++ todo) s) = some (G dn todo s) := by
    intro todo
    induction todo with
    | nil =>
      intro dn s N h1 h2 h3
      obtain ⟨n, rfl⟩ : ∃ n, N = n + 1 := ⟨N - 1, by simp at h3; omega⟩
      have := nil (loopN n body) dn s (by simpa using h1) h2
      simpa [loopN] using this
    | cons b t ih =>
      intro dn s N h1 h2 h3
      obtain ⟨n, rfl⟩ : ∃ n, N = n + 1 := ⟨N - 1, by omega⟩
      simp only [List.length_cons] at h1 h3
      refine cons (loopN n body) dn b t s (At.of (by simp; omega) (by simp)) h2 fun b' s' hs' => ?_
      have := ih (dn ++ [b']) s' n (by simp; omega) hs' (by omega)
      simpa using this
  simpa using key l [] s N (by simp) hI hN

theorem set_mid {β : Type} (xs ys : List β) (b c : β) : (xs ++ b :: ys).set xs.length c = xs ++ c :: ys := by simp
theorem rd_mid {β : Type} (xs ys : List β) (b d : β) : rd (xs ++ b :: ys) (xs.length : Int) d = b := by
  rw [rd_nat]; simp

def MarkOk {α : Type} [WL α] (f : α → Int → Option ((Int × Unit) × (α × Unit))) (u : α → Nat) : Prop :=
  ∀ (x : α) (k : Int), WL.wl x → 0 < k → k + (u x : Int) ≤ 4611686018427387904 → ∃ x' : α, f x k = some ((k + (u x : Int), ()), (x', ()))
theorem Marks.ok {α : Type} [WL α] {f : α → Int → Option ((Int × Unit) × (α × Unit))} {g : α → Int → Option ((Int × Unit) × Unit)} {u : α → Nat} (h : Marks f g u) : MarkOk f u := fun x k a b c => (h x k a b c).imp fun _ h => h.1

theorem mark_list {α : Type} [WL α] {f : α → Int → Option ((Int × Unit) × (α × Unit))} {u : α → Nat} (h : MarkOk f u) (z : α) (l : List α) (k : Int) (h0 : 0 < k) (hlen : WL.wl l) (hk : k + (sumCnt u l : Int) ≤ 4611686018427387904) {N : Nat} (hN : l.length < N) :
    (loopN N (fun rec1 (d2 : (Int × Int × Unit) × (List α × Unit)) => (if (decide (d2.1.2.1 < (d2.2.1.length : Int))) then (if (decide (0 ≤ d2.1.2.1)) then (if (decide (d2.1.2.1 < d2.2.1.length)) then ((f (rd d2.2.1 d2.1.2.1 z) d2.1.1).bind fun y3 => (rec1 ((y3.1.1, (IntKind.i64.wrap (d2.1.2.1 + (1 : Int))), ()), ((d2.2.1.set d2.1.2.1.toNat y3.2.1), ())))) else none) else none) else (some ((d2.1.1, ()), (d2.2.1, ()))))) ((k, (0 : Int), ()), (l, ()))) = some ((k + (sumCnt u l : Int), ()), (mlist f k l, ())) := by
  refine loopN_mut l hlen.1 (fun i xs (s : Int) => ((s, (i : Int), ()), (xs, ()))) (fun dn t s => ((s + (sumCnt u t : Int), ()), (dn ++ mlist f s t, ()))) (fun dn t s => 0 < s ∧ s + (sumCnt u t : Int) ≤ 4611686018427387904 ∧ ∀ x ∈ t, WL.wl x)
    k rfl rfl ⟨h0, hk, hlen.2⟩ hN (fun rec dn s hd hs => ?_) (fun rec dn b t s hat hs hrec => ?_)
  · dsimp only
    simp [mlist, sumCnt]
  · simp only [sumCnt] at hs
    obtain ⟨b', h1⟩ := h b s (hs.2.2 b (by simp)) hs.1 (by omega)
    dsimp only
    simp only [hat.lt, hat.nn, hat.wrap, hat.rd, decide_true, if_true, h1, Option.bind_some, Int.toNat_natCast, set_mid]
    refine (hrec b' (s + (u b : Int)) ⟨by omega, by omega, fun x hx => hs.2.2 x (by simp [hx])⟩).trans ?_
    simp only [mlist_cons h1, sumCnt, List.append_assoc, List.singleton_append, Option.some.injEq, Prod.mk.injEq, and_true]
    omega

theorem held_list {α : Type} [WL α] {f : α → Int → Option ((Int × Unit) × (α × Unit))} {g : α → Int → Option ((Int × Unit) × Unit)} {u : α → Nat} (h : Marks f g u) (z : α) (l : List α) (k : Int) (h0 : 0 < k) (hlen : WL.wl l) (hk : k + (sumCnt u l : Int) ≤ 4611686018427387904) {N : Nat} (hN : l.length < N) :
    (loopN N (fun rec1 (d2 : (List α × Int × Int × Unit) × (Unit)) => (if (decide (d2.1.2.2.1 < (d2.1.1.length : Int))) then (if (decide (0 ≤ d2.1.2.2.1)) then (if (decide (d2.1.2.2.1 < d2.1.1.length)) then ((g (rd d2.1.1 d2.1.2.2.1 z) d2.1.2.1).bind fun y3 => (if (decide (y3.1.1 < (0 : Int))) then (some (((-1 : Int), ()), ())) else (rec1 ((d2.1.1, y3.1.1, (IntKind.i64.wrap (d2.1.2.2.1 + (1 : Int))), ()), (()))))) else none) else none) else (some ((d2.1.2.1, ()), ())))) ((mlist f k l, k, (0 : Int), ()), (()))) = some ((k + (sumCnt u l : Int), ()), ()) := by
  have hml := mlist_len h l k hlen.2 h0 hk
  refine loopN_over (mlist f k l) (by have := hlen.1; omega) (fun i (s : Int) => ((mlist f k l, s, (i : Int), ()), ())) (fun i t s => ((k + (sumCnt u l : Int), ()), ())) (fun i t s => 0 < s ∧ ∃ m, t = mlist f s m ∧ s + (sumCnt u m : Int) = k + (sumCnt u l : Int) ∧ ∀ x ∈ m, WL.wl x)
    k rfl rfl ⟨h0, l, rfl, rfl, hlen.2⟩ (by omega) (fun rec s hs => ?_) (fun rec i b t s hat hs hrec => ?_)
  · obtain ⟨h1, m, h2, h3, hwl⟩ := hs
    have : m = [] := by
      have := mlist_len h m s hwl h1 (by omega)
      rw [← h2] at this
      exact List.eq_nil_of_length_eq_zero this.symm
    subst this
    simp only [sumCnt] at h3
    dsimp only
    simp only [lenInt_lt_irrefl, decide_false, Bool.false_eq_true, if_false, Option.some.injEq, Prod.mk.injEq, and_true]
    omega
  · obtain ⟨h1, m, h2, h3, hwl⟩ := hs
    cases m with
    | nil => cases h2
    | cons c m =>
      simp only [sumCnt] at h3
      obtain ⟨c', h4, h5⟩ := h c s (hwl c (by simp)) h1 (by omega)
      rw [mlist_cons h4] at h2
      simp only [List.cons.injEq] at h2
      obtain ⟨rfl, h2⟩ := h2
      dsimp only
      simp only [hat.lt, hat.nn, hat.wrap, hat.rd, decide_true, if_true, h5, Option.bind_some]
      rw [decide_eq_false (by omega)]
      simp only [Bool.false_eq_true, if_false]
      exact hrec _ ⟨by omega, m, h2, by omega, fun x hx => hwl x (by simp [hx])⟩

theorem marks_IntSS : Marks S_laws_markIntSS S_laws_heldIntSS (sumCnt List.length) :=
  fun x k hl h0 hk => ⟨mlist S_laws_markIntS k x, lim_eq (x.length + 1) fun N hN => mark_list marks_IntS.ok [] x k h0 hl hk hN, lim_eq (x.length + 1) fun N hN => held_list marks_IntS [] x k h0 hl hk hN⟩

theorem lt_mid {β : Type} (dn : List β) (b : β) (t : List β) : ((dn.length : Int) < ((dn ++ b :: t).length : Int)) = True := by simp; omega
theorem nn_mid {β : Type} (dn : List β) : ((0 : Int) ≤ (dn.length : Int)) = True := by simp
theorem cnt_int0 (n : Int) : Cnt.cnt n = 0 := rfl
theorem cnt_bool0 (n : Bool) : Cnt.cnt n = 0 := rfl
theorem cnt_unit0 (n : Unit) : Cnt.cnt n = 0 := rfl
theorem cnt_flat {α : Type} [Cnt α] (h : ∀ x : α, Cnt.cnt x = 0) (l : List α) : Cnt.cnt l = l.length := by
  rw [cnt_list]
  have : sumCnt Cnt.cnt l = 0 := by
    induction l with
    | nil => rfl
    | cons x r ih => simp only [sumCnt, ih, h]
  omega

/-! ### one field behind the other -/
theorem sz_then {n m : Nat} {k : Int} (h0 : 0 ≤ k) (h1 : k ≤ 1048576) {G : (Int × Unit) × Unit → Option ((Int × Unit) × Unit)} (hneg : G ((-1, ()), ()) = some ((-1, ()), ())) (hK : ∀ k' : Int, decide (k' < 0) = false → 0 ≤ k' → k' ≤ 1048576 → G ((k', ()), ()) = szRes m k') :
    (szRes n k).bind G = szRes (n + m) k := by
  simp only [szRes, Option.bind_some]
  by_cases hn : (n : Int) ≤ k
  · rw [szV_pos hn, hK _ (decide_eq_false (by omega)) (by omega) (by omega), szRes]
    simp only [Option.some.injEq, Prod.mk.injEq, and_true]
    unfold szV
    split <;> split <;> omega
  · rw [szV_neg hn, szV_neg (by omega), hneg]
theorem sz_last {n : Nat} {k : Int} (h0 : 0 ≤ k) (h1 : k ≤ 1048576) {G : (Int × Unit) × Unit → Option ((Int × Unit) × Unit)} (hneg : G ((-1, ()), ()) = some ((-1, ()), ())) (hK : ∀ k' : Int, decide (k' < 0) = false → G ((k', ()), ()) = some ((k', ()), ())) :
    (szRes n k).bind G = szRes n k := by
  have := sz_then (n := n) (m := 0) h0 h1 hneg fun k' h h2 h3 => (hK k' h).trans (by simp [szRes, szV, h2])
  simpa using this
theorem sz_over {n : Nat} {k : Int} (h0 : 0 ≤ k) {G : (Int × Unit) × Unit → Option ((Bool × Unit) × Unit)} (hneg : G ((-1, ()), ()) = some ((true, ()), ())) (hK : (n : Int) ≤ k → ∀ r : Int, decide (r < 0) = false → G ((r, ()), ()) = some ((true, ()), ())) :
    (szRes n k).bind G = some ((true, ()), ()) := by
  simp only [szRes, Option.bind_some]
  by_cases hn : (n : Int) ≤ k
  · rw [szV_pos hn]
    exact hK hn _ (decide_eq_false (by omega))
  · rw [szV_neg hn]; exact hneg
theorem eq_then {a r : Bool} {K : Option ((Bool × Unit) × Unit)} (hK : K = some ((r, ()), ())) : (if (!a) = true then (some ((false, ()), ())) else K) = some ((a && r, ()), ()) := by
  subst hK
  cases a <;> simp
theorem eq_thenI {a b : Int} {r : Bool} {K : Option ((Bool × Unit) × Unit)} (hK : K = some ((r, ()), ())) : (if (a != b) then (some ((false, ()), ())) else K) = some ((same a b && r, ()), ()) := by
  subst hK
  rw [same_bne]
  cases same a b <;> simp
theorem eq_thenB {a b : Bool} {r : Bool} {K : Option ((Bool × Unit) × Unit)} (hK : K = some ((r, ()), ())) : (if (a != b) then (some ((false, ()), ())) else K) = some ((same a b && r, ()), ()) := by
  subst hK
  rw [same_bneB]
  cases same a b <;> simp
theorem held_then {α : Type} {k : Int} {x : Option α} {K : Option α} (h : 0 < k) : (if (decide (k < (0 : Int))) = true then x else K) = K := by
  rw [decide_eq_false (by omega)]
  simp
end Go.AM.P
