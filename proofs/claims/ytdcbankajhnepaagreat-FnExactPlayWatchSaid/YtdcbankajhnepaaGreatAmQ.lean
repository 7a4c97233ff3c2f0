/- Lemmas on what functions do to data. No condition. -/
import Derived.Test.YtdcbankajhnepaaGreatAmP
set_option linter.unusedVariables false
set_option linter.unusedSimpArgs false
set_option maxRecDepth 4000
namespace Go.AM.P
open Go.AM
class WL (α : Type) where
  wl : α → Prop
instance : WL Int := ⟨fun _ => True⟩
instance : WL Bool := ⟨fun _ => True⟩
instance : WL Unit := ⟨fun _ => True⟩
instance : WL ByteArray := ⟨fun s => s.size ≤ maxLen⟩
instance {α β : Type} [WL α] [WL β] : WL (α × β) := ⟨fun x => WL.wl x.1 ∧ WL.wl x.2⟩
instance {α : Type} [WL α] : WL (List α) := ⟨fun l => l.length ≤ maxLen ∧ ∀ x ∈ l, WL.wl x⟩
theorem wl_mem {α : Type} [WL α] {l : List α} (h : WL.wl l) {x : α} (hx : x ∈ l) : WL.wl x := h.2 x hx
def Marks {α : Type} [WL α] (f : α → Int → Option ((Int × Unit) × (α × Unit))) (g : α → Int → Option ((Int × Unit) × Unit)) (u : α → Nat) : Prop :=
  ∀ (x : α) (k : Int), WL.wl x → 0 < k → k + (u x : Int) ≤ 4611686018427387904 → ∃ x' : α, f x k = some ((k + (u x : Int), ()), (x', ())) ∧ g x' k = some ((k + (u x : Int), ()), ())
def marks (k : Int) : Nat → List Int
  | 0 => []
  | n + 1 => k :: marks (k + 1) n
theorem marks_len (k : Int) (n : Nat) : (marks k n).length = n := by
  induction n generalizing k with
  | zero => rfl
  | succ n ih => simp [marks, ih]
theorem markIntS_eq {l : List Int} {k : Int} (h0 : 0 < k) (hk : k + l.length ≤ 4611686018427387904) : S_laws_markIntS l k = some ((k + l.length, ()), (marks k l.length, ())) := by
  unfold S_laws_markIntS
  refine lim_eq (l.length + 1) fun N hN => ?_
  unfold p_laws_markIntS
  refine loopN_over l (by rw [maxLen_eq]; omega) (fun i (s : Int × List Int) => ((s.1, (i : Int), ()), (s.2, ()))) (fun i t s => ((s.1 + t.length, ()), (s.2.take i ++ marks s.1 t.length, ())))
    (fun i t s => 0 < s.1 ∧ s.1 + t.length ≤ 4611686018427387904 ∧ s.2.length = l.length ∧ i + t.length = l.length)
    (k, l) rfl (by simp) ⟨h0, hk, rfl, by simp⟩ hN (fun rec s h => ?_) (fun rec i b t s hat h hrec => ?_)
  · obtain ⟨h1, h2, h3, h4⟩ := h
    dsimp only
    simp only [h3, lenInt_lt_irrefl, decide_false, Bool.false_eq_true, if_false, marks]
    rw [← h3, List.take_length]
    simp [marks]
  · obtain ⟨k, xs⟩ := s
    obtain ⟨h1, h2, h3, h4⟩ := h
    simp only [List.length_cons] at h1 h2 h3 h4
    have hlt := hat.ltn
    dsimp only
    simp only [h3, hat.lt, hat.nn, hat.wrap, decide_true, if_true, Int.toNat_natCast]
    rw [wrap_small (n := k + 1) (by omega) (by omega)]
    have hi : i < xs.length := by omega
    refine (hrec (k + 1, xs.set i k) ⟨by simp; omega, by simp; omega, by simp [h3], by omega⟩).trans ?_
    simp only [List.length_cons, marks, Option.some.injEq, Prod.mk.injEq, and_true]
    refine ⟨by omega, ?_⟩
    rw [List.take_add_one, List.getElem?_set_self hi, List.take_set, List.set_eq_of_length_le (by simp; omega)]
    simp
theorem heldIntS_eq {n : Nat} {k : Int} (h0 : 0 < k) (hk : k + n ≤ 4611686018427387904) : S_laws_heldIntS (marks k n) k = some ((k + n, ()), ()) := by
  unfold S_laws_heldIntS
  refine lim_eq (n + 1) fun N hN => ?_
  unfold p_laws_heldIntS
  refine loopN_over (marks k n) (by rw [maxLen_eq, marks_len]; omega) (fun i (s : Int) => ((marks k n, s, (i : Int), ()), ())) (fun i t s => ((s + t.length, ()), ()))
    (fun i t s => 0 < s ∧ s + t.length ≤ 4611686018427387904 ∧ t = marks s t.length)
    k rfl (by simp [marks_len]) ⟨h0, by simpa [marks_len] using hk, by rw [marks_len]⟩ (by rw [marks_len]; omega) (fun rec s h => ?_) (fun rec i b t s hat h hrec => ?_)
  · dsimp only
    simp only [lenInt_lt_irrefl, decide_false, Bool.false_eq_true, if_false]
    simp
  · obtain ⟨h1, h2, h3⟩ := h
    simp only [List.length_cons, marks, List.cons.injEq] at h2 h3
    obtain ⟨rfl, h3⟩ := h3
    dsimp only
    simp only [hat.lt, hat.nn, hat.wrap, hat.rd, decide_true, if_true, bne_self_eq_false, Bool.false_eq_true, if_false]
    rw [wrap_small (n := b + 1) (by omega) (by omega)]
    refine (hrec (b + 1) ⟨by omega, by omega, h3⟩).trans ?_
    simp only [List.length_cons, Option.some.injEq, Prod.mk.injEq, and_true]
    omega
theorem marks_IntS : Marks S_laws_markIntS S_laws_heldIntS List.length := fun l k _ h0 hk => ⟨_, markIntS_eq h0 hk, heldIntS_eq h0 hk⟩
class Cnt (α : Type) where
  cnt : α → Nat
instance : Cnt Int := ⟨fun _ => 0⟩
instance : Cnt Bool := ⟨fun _ => 0⟩
instance : Cnt Unit := ⟨fun _ => 0⟩
instance : Cnt ByteArray := ⟨fun s => s.size⟩
instance {α β : Type} [Cnt α] [Cnt β] : Cnt (α × β) := ⟨fun x => Cnt.cnt x.1 + Cnt.cnt x.2⟩
def sumCnt {α : Type} (f : α → Nat) : List α → Nat
  | [] => 0
  | x :: r => f x + sumCnt f r
instance {α : Type} [Cnt α] : Cnt (List α) := ⟨fun l => l.length + sumCnt Cnt.cnt l⟩
theorem le_sumCnt {α : Type} (f : α → Nat) {l : List α} {x : α} (h : x ∈ l) : f x ≤ sumCnt f l := by
  induction l with
  | nil => cases h
  | cons y r ih =>
    simp only [sumCnt]
    rcases List.mem_cons.1 h with rfl | h
    · omega
    · have := ih h; omega
theorem cnt_list {α : Type} [Cnt α] (l : List α) : Cnt.cnt l = l.length + sumCnt Cnt.cnt l := rfl
theorem cnt_pair {α β : Type} [Cnt α] [Cnt β] (x : α × β) : Cnt.cnt x = Cnt.cnt x.1 + Cnt.cnt x.2 := rfl
theorem sumCnt_int (l : List Int) : sumCnt Cnt.cnt l = 0 := by
  induction l with
  | nil => rfl
  | cons x r ih => simp only [sumCnt, ih]; rfl
theorem cnt_ints (l : List Int) : Cnt.cnt l = l.length := by rw [cnt_list, sumCnt_int, Nat.add_zero]
def szV (n : Nat) (k : Int) : Int := if (n : Int) ≤ k then k - n else -1
def szRes (n : Nat) (k : Int) : Option ((Int × Unit) × Unit) := some ((szV n k, ()), ())
theorem szV_pos {n : Nat} {k : Int} (h : (n : Int) ≤ k) : szV n k = k - n := if_pos h
theorem szV_neg {n : Nat} {k : Int} (h : ¬ (n : Int) ≤ k) : szV n k = -1 := if_neg h
def SzOk {α : Type} [Cnt α] [WL α] (f : α → Int → Option ((Int × Unit) × Unit)) : Prop :=
  ∀ (x : α) (k : Int), 0 ≤ k → k ≤ 1048576 → WL.wl x → f x k = szRes (Cnt.cnt x) k
theorem sz_head {n : Nat} {k : Int} (hn : n ≤ maxLen) (h0 : 0 ≤ k) (h1 : k ≤ 1048576) : IntKind.i64.wrap (k - (n : Int)) = k - n := by
  rw [maxLen_eq] at hn
  exact wrap_small (by omega) (by omega)
theorem sz_list {α : Type} [Cnt α] [WL α] {f : α → Int → Option ((Int × Unit) × Unit)} (hf : SzOk f) (z : α) (l : List α) (k : Int) (h0 : 0 ≤ k) (h1 : k ≤ 1048576) (hl : WL.wl l) {N : Nat} (hN : l.length < N) :
    (if (decide ((IntKind.i64.wrap (k - (l.length : Int))) < (0 : Int))) then (some (((-1 : Int), ()), ())) else (loopN N (fun rec1 (d2 : (List α × Int × Int × Unit) × (Unit)) => (if (decide (d2.1.2.2.1 < (d2.1.1.length : Int))) then (if (decide (0 ≤ d2.1.2.2.1)) then (if (decide (d2.1.2.2.1 < d2.1.1.length)) then ((f (rd d2.1.1 d2.1.2.2.1 z) d2.1.2.1).bind fun y3 => (if (decide (y3.1.1 < (0 : Int))) then (some (((-1 : Int), ()), ())) else (rec1 ((d2.1.1, y3.1.1, (IntKind.i64.wrap (d2.1.2.2.1 + (1 : Int))), ()), (()))))) else none) else none) else (some ((d2.1.2.1, ()), ())))) ((l, (IntKind.i64.wrap (k - (l.length : Int))), (0 : Int), ()), (()))))
    = szRes (Cnt.cnt l) k := by
  rw [sz_head hl.1 h0 h1]
  by_cases hk : k - (l.length : Int) < 0
  · simp only [hk, decide_true, if_true, szRes, cnt_list]
    rw [szV_neg (by omega)]
  simp only [hk, decide_false, Bool.false_eq_true, if_false]
  refine loopN_over l hl.1 (fun i (s : Int) => ((l, s, (i : Int), ()), ())) (fun i t s => ((szV (sumCnt Cnt.cnt t) s, ()), ())) (fun i t s => 0 ≤ s ∧ s ≤ 1048576)
    (k - l.length) rfl ?_ ⟨by omega, by omega⟩ hN (fun rec s h => ?_) (fun rec i b t s hat h hrec => ?_)
  · rw [cnt_list]
    simp only [Prod.mk.injEq, and_true]
    unfold szV
    split <;> split <;> omega
  · dsimp only
    simp only [lenInt_lt_irrefl, decide_false, Bool.false_eq_true, if_false, sumCnt]
    simp [szV, h.1]
  · dsimp only
    simp only [hat.lt, hat.nn, hat.wrap, hat.rd, decide_true, if_true]
    rw [hf b s h.1 h.2 (wl_mem hl hat.mem)]
    simp only [szRes, Option.bind_some, sumCnt]
    by_cases hb : (Cnt.cnt b : Int) ≤ s
    · rw [szV_pos hb, decide_eq_false (by omega)]
      simp only [Bool.false_eq_true, if_false]
      refine (hrec _ ⟨by omega, by omega⟩).trans ?_
      simp only [Option.some.injEq, Prod.mk.injEq, and_true]
      unfold szV
      split <;> split <;> omega
    · rw [szV_neg hb, szV_neg (by omega)]
      simp
theorem sz_IntS : SzOk S_laws_szIntS := fun x k h0 h1 hl => by
  unfold S_laws_szIntS p_laws_szIntS
  rw [sz_head hl.1 h0 h1, szRes, cnt_ints]
  by_cases hk : k - (x.length : Int) < 0
  · simp only [hk, decide_true, if_true]
    rw [szV_neg (by omega)]
  · simp only [hk, decide_false, Bool.false_eq_true, if_false]
    rw [szV_pos (by omega)]
def ToOk {α : Type} [Cnt α] (f : α → Option ((α × Unit) × Unit)) : Prop := ∀ x : α, Cnt.cnt x ≤ 1048576 → f x = some ((x, ()), ())
theorem set_rep {β : Type} (xs : List β) (n : Nat) (z c : β) (i : Nat) (h : xs.length = i) : (xs ++ List.replicate (n + 1) z).set i c = (xs ++ [c]) ++ List.replicate n z := by
  subst h
  rw [List.replicate_succ]
  simp
theorem to_list {α : Type} [Cnt α] {f : α → Option ((α × Unit) × Unit)} (hf : ToOk f) (z : α) (w : Nat) (hw : w ≤ 1000) (l : List α) (hl : Cnt.cnt l ≤ 1048576) {N : Nat} (hN : l.length < N) :
    (if (decide ((0 : Int) ≤ (l.length : Int))) then (if ((l.length : Int) == (l.length : Int)) then (if (decide ((l.length : Int) * w ≤ 140737488355328)) then (loopN N (fun rec1 (d2 : (List α × Int × Unit) × (List α × List α × Unit)) => (if (decide (d2.1.2.1 < (d2.1.1.length : Int))) then (if (decide (0 ≤ d2.1.2.1)) then (if (decide (d2.1.2.1 < d2.1.1.length)) then ((f (rd d2.1.1 d2.1.2.1 z)).bind fun y3 => (if (decide (0 ≤ d2.1.2.1)) then (if (decide (d2.1.2.1 < d2.2.2.1.length)) then (rec1 ((d2.1.1, (IntKind.i64.wrap (d2.1.2.1 + (1 : Int))), ()), (d2.2.1, (d2.2.2.1.set d2.1.2.1.toNat y3.1.1), ()))) else none) else none)) else none) else none) else (some ((d2.2.2.1, ()), ())))) ((l, (0 : Int), ()), (([] : List α), (List.replicate (l.length : Int).toNat z), ()))) else none) else none) else none)
    = some ((l, ()), ()) := by
  rw [cnt_list] at hl
  have h1 : (0 : Int) ≤ (l.length : Int) := by omega
  have h2 : (l.length : Int) * w ≤ 140737488355328 := by
    have : (l.length : Int) * w ≤ 1048576 * 1000 := Int.mul_le_mul (by omega) (by omega) (by omega) (by omega)
    omega
  simp only [h1, h2, decide_true, if_true, beq_self_eq_true, Int.toNat_natCast]
  refine loopN_over l (by rw [maxLen_eq]; omega) (fun i (s : List α) => ((l, (i : Int), ()), ([], s ++ List.replicate (l.length - i) z, ()))) (fun i t s => ((s ++ t, ()), ())) (fun i t s => s.length = i)
    [] rfl rfl rfl hN (fun rec s h => ?_) (fun rec i b t s hat h hrec => ?_)
  · dsimp only
    simp [h]
  · have hlt := hat.ltn
    obtain ⟨m, hm⟩ : ∃ m, l.length - i = m + 1 := ⟨l.length - i - 1, by omega⟩
    dsimp only
    rw [hm]
    have hb : Cnt.cnt b ≤ 1048576 := by have := le_sumCnt Cnt.cnt hat.mem; omega
    have h5 : (i : Int) < ((s ++ List.replicate (m + 1) z).length : Int) := by simp [h]; omega
    simp only [hat.lt, hat.nn, hat.wrap, hat.rd, decide_true, if_true, hf b hb, Option.bind_some, h5, Int.toNat_natCast, set_rep s m z b i h]
    have := hrec (s ++ [b]) (by simp [h])
    rw [show l.length - (i + 1) = m by omega] at this
    exact this.trans (by simp)
theorem to_list0 {α : Type} [Cnt α] (z : α) (w : Nat) (hw : w ≤ 1000) (l : List α) (hl : Cnt.cnt l ≤ 1048576) {N : Nat} (hN : l.length < N) :
    (if (decide ((0 : Int) ≤ (l.length : Int))) then (if ((l.length : Int) == (l.length : Int)) then (if (decide ((l.length : Int) * w ≤ 140737488355328)) then (loopN N (fun rec1 (d2 : (List α × Int × Unit) × (List α × List α × Unit)) => (if (decide (d2.1.2.1 < (d2.1.1.length : Int))) then (if (decide (0 ≤ d2.1.2.1)) then (if (decide (d2.1.2.1 < d2.1.1.length)) then (if (decide (0 ≤ d2.1.2.1)) then (if (decide (d2.1.2.1 < d2.2.2.1.length)) then (rec1 ((d2.1.1, (IntKind.i64.wrap (d2.1.2.1 + (1 : Int))), ()), (d2.2.1, (d2.2.2.1.set d2.1.2.1.toNat (rd d2.1.1 d2.1.2.1 z)), ()))) else none) else none) else none) else none) else (some ((d2.2.2.1, ()), ())))) ((l, (0 : Int), ()), (([] : List α), (List.replicate (l.length : Int).toNat z), ()))) else none) else none) else none)
    = some ((l, ()), ()) := to_list (f := fun x => some ((x, ()), ())) (fun x _ => rfl) z w hw l hl hN
theorem to_IntS : ToOk S_laws_toIntS := fun x h => lim_eq (x.length + 1) fun N hN => to_list0 0 8 (by omega) x h hN
open Classical in
noncomputable def same {α : Type} (a b : α) : Bool := decide (a = b)
theorem same_iff {α : Type} {a b : α} : same a b = true ↔ a = b := by simp [same]
theorem same_self {α : Type} (a : α) : same a a = true := same_iff.2 rfl
theorem same_cons {α : Type} (a b : α) (s t : List α) : same (a :: s) (b :: t) = (same a b && same s t) := by
  rw [Bool.eq_iff_iff]; simp [same_iff]
theorem same_pair {α β : Type} (a b : α × β) : same a b = (same a.1 b.1 && same a.2 b.2) := by
  rw [Bool.eq_iff_iff]; simp [same_iff, Prod.ext_iff]
theorem same_unit (a b : Unit) : same a b = true := same_iff.2 rfl
theorem same_bne (a b : Int) : (a != b) = !same a b := by
  by_cases h : a = b
  · subst h; simp [same_self]
  · have : same a b = false := by rw [Bool.eq_false_iff]; intro h2; exact h (same_iff.1 h2)
    simp [this, h]
def EqOk {α : Type} [WL α] (f : α → α → Option ((Bool × Unit) × Unit)) : Prop := ∀ a b : α, WL.wl a → WL.wl b → f a b = some ((same a b, ()), ())
theorem eq_list {α : Type} [WL α] {f : α → α → Option ((Bool × Unit) × Unit)} (hf : EqOk f) (z : α) (l m : List α) (hl : WL.wl l) (hm : WL.wl m) {N : Nat} (hN : l.length < N) :
    (if ((l.length : Int) != (m.length : Int)) then (some ((false, ()), ())) else (loopN N (fun rec1 (d2 : (List α × List α × Int × Unit) × (Unit)) => (if (decide (d2.1.2.2.1 < (d2.1.1.length : Int))) then (if (decide (0 ≤ d2.1.2.2.1)) then (if (decide (d2.1.2.2.1 < d2.1.1.length)) then (if (decide (0 ≤ d2.1.2.2.1)) then (if (decide (d2.1.2.2.1 < d2.1.2.1.length)) then ((f (rd d2.1.1 d2.1.2.2.1 z) (rd d2.1.2.1 d2.1.2.2.1 z)).bind fun y3 => (if (!y3.1.1) then (some ((false, ()), ())) else (rec1 ((d2.1.1, d2.1.2.1, (IntKind.i64.wrap (d2.1.2.2.1 + (1 : Int))), ()), (()))))) else none) else none) else none) else none) else (some ((true, ()), ())))) ((l, m, (0 : Int), ()), (()))))
      = some ((same l m, ()), ()) := by
  by_cases hlen : l.length = m.length
  · have h1 : ((l.length : Int) != (m.length : Int)) = false := by simp [hlen]
    rw [h1]
    simp only [Bool.false_eq_true, if_false]
    refine loopN_over l hl.1 (fun i (s : Unit) => ((l, m, (i : Int), ()), ())) (fun i t s => ((same t (m.drop i), ()), ())) (fun i t s => True)
      () rfl (by simp) trivial hN (fun rec s h => ?_) (fun rec i b t s hat h hrec => ?_)
    · dsimp only
      simp [hlen, same_self]
    · have hlt := hat.ltn
      have hd : m.drop i = m[i]'(by omega) :: m.drop (i + 1) := List.drop_eq_getElem_cons (by omega)
      have hb := At.of hm.1 hd
      have hr := hf b (m[i]'(by omega)) (wl_mem hl hat.mem) (wl_mem hm hb.mem)
      dsimp only
      simp only [hat.lt, hb.lt, hat.nn, hat.wrap, hat.rd, hb.rd, decide_true, if_true, hr, Option.bind_some, hd, same_cons]
      cases same b (m[i]'(by omega)) with
      | false => simp
      | true =>
        simp only [Bool.not_true, Bool.false_eq_true, if_false, Bool.true_and]
        exact hrec () trivial
  · have h1 : ((l.length : Int) != (m.length : Int)) = true := by simp; omega
    rw [h1]
    have : same l m = false := by rw [Bool.eq_false_iff]; intro h; rw [same_iff] at h; subst h; exact hlen rfl
    simp [this]
theorem eq_IntS : EqOk S_laws_eqIntS := fun a b ha hb => lim_eq (a.length + 1) fun N hN => by
  have h := eq_list (f := fun a b : Int => some ((same a b, ()), ())) (fun a b _ _ => rfl) 0 a b ha hb (N := N) hN
  unfold p_laws_eqIntS
  simp only [same_bne (rd _ _ _)]
  exact h
theorem eq_IntSS : EqOk S_laws_eqIntSS := fun a b ha hb => lim_eq (a.length + 1) fun N hN => eq_list eq_IntS [] a b ha hb hN
def mlist {α : Type} (f : α → Int → Option ((Int × Unit) × (α × Unit))) : Int → List α → List α
  | _, [] => []
  | k, b :: t => match f b k with
    | some ((k', _), (b', _)) => b' :: mlist f k' t
    | none => []
theorem mlist_cons {α : Type} {f : α → Int → Option ((Int × Unit) × (α × Unit))} {k k' : Int} {b b' : α} {t : List α} (h : f b k = some ((k', ()), (b', ()))) : mlist f k (b :: t) = b' :: mlist f k' t := by
  simp only [mlist, h]
theorem mlist_len {α : Type} [WL α] {f : α → Int → Option ((Int × Unit) × (α × Unit))} {g : α → Int → Option ((Int × Unit) × Unit)} {u : α → Nat} (h : Marks f g u) : ∀ (l : List α) (k : Int), (∀ x ∈ l, WL.wl x) → 0 < k → k + (sumCnt u l : Int) ≤ 4611686018427387904 → (mlist f k l).length = l.length
  | [], _, _, _, _ => rfl
  | b :: t, k, hl, h0, hk => by
    simp only [sumCnt] at hk
    obtain ⟨b', h1, _⟩ := h b k (hl b (by simp)) h0 (by omega)
    rw [mlist_cons h1, List.length_cons, mlist_len h t _ (fun x hx => hl x (by simp [hx])) (by omega) (by omega), List.length_cons]
theorem loopN_mut {β σ α ρ : Type} {body : (α → Option ρ) → α → Option ρ} {N : Nat} {x : α} {v : ρ} (l : List β) (hl : l.length ≤ maxLen) (mk : Nat → List β → σ → α) (G : List β → List β → σ → ρ) (I : List β → List β → σ → Prop)
    (s : σ) (hx : mk 0 l s = x) (hv : G [] l s = v) (hI : I [] l s) (hN : l.length < N)
    (nil : ∀ rec dn s, dn.length = l.length → I dn [] s → body rec (mk dn.length dn s) = some (G dn [] s))
    (cons : ∀ rec dn b t s, At (dn ++ b :: t) dn.length b t → I dn (b :: t) s → (∀ b' s', I (dn ++ [b']) t s' → rec (mk (dn.length + 1) (dn ++ b' :: t) s') = some (G (dn ++ [b']) t s')) → body rec (mk dn.length (dn ++ b :: t) s) = some (G dn (b :: t) s)) :
    loopN N body x = some v := by
  subst hx; subst hv
  have key : ∀ (todo dn : List β) (s : σ) (N : Nat), dn.length + todo.length = l.length → I dn todo s → todo.length < N → loopN N body (mk dn.length (dn ++ todo) s) = some (G dn todo s) := by
    intro todo
    induction todo with
    | nil =>
      intro dn s N h1 h2 h3
      obtain ⟨n, rfl⟩ : ∃ n, N = n + 1 := ⟨N - 1, by simp at h3; omega⟩
      have := nil (loopN n body) dn s (by simpa using h1) h2
      simpa [loopN] using this
    | cons b t ih =>
      intro dn s N h1 h2 h3
      obtain ⟨n, rfl⟩ : ∃ n, N = n + 1 := ⟨N - 1, by omega⟩
      simp only [List.length_cons] at h1 h3
      refine cons (loopN n body) dn b t s (At.of (by simp; omega) (by simp)) h2 fun b' s' hs' => ?_
      have := ih (dn ++ [b']) s' n (by simp; omega) hs' (by omega)
      simpa using this
  simpa using key l [] s N (by simp) hI hN
theorem set_mid {β : Type} (xs ys : List β) (b c : β) : (xs ++ b :: ys).set xs.length c = xs ++ c :: ys := by simp
theorem rd_mid {β : Type} (xs ys : List β) (b d : β) : rd (xs ++ b :: ys) (xs.length : Int) d = b := by
  rw [rd_nat]; simp
def MarkOk {α : Type} [WL α] (f : α → Int → Option ((Int × Unit) × (α × Unit))) (u : α → Nat) : Prop :=
  ∀ (x : α) (k : Int), WL.wl x → 0 < k → k + (u x : Int) ≤ 4611686018427387904 → ∃ x' : α, f x k = some ((k + (u x : Int), ()), (x', ()))
theorem Marks.ok {α : Type} [WL α] {f : α → Int → Option ((Int × Unit) × (α × Unit))} {g : α → Int → Option ((Int × Unit) × Unit)} {u : α → Nat} (h : Marks f g u) : MarkOk f u := fun x k a b c => (h x k a b c).imp fun _ h => h.1
theorem mark_list {α : Type} [WL α] {f : α → Int → Option ((Int × Unit) × (α × Unit))} {u : α → Nat} (h : MarkOk f u) (z : α) (l : List α) (k : Int) (h0 : 0 < k) (hlen : WL.wl l) (hk : k + (sumCnt u l : Int) ≤ 4611686018427387904) {N : Nat} (hN : l.length < N) :
    (loopN N (fun rec1 (d2 : (Int × Int × Unit) × (List α × Unit)) => (if (decide (d2.1.2.1 < (d2.2.1.length : Int))) then (if (decide (0 ≤ d2.1.2.1)) then (if (decide (d2.1.2.1 < d2.2.1.length)) then ((f (rd d2.2.1 d2.1.2.1 z) d2.1.1).bind fun y3 => (rec1 ((y3.1.1, (IntKind.i64.wrap (d2.1.2.1 + (1 : Int))), ()), ((d2.2.1.set d2.1.2.1.toNat y3.2.1), ())))) else none) else none) else (some ((d2.1.1, ()), (d2.2.1, ()))))) ((k, (0 : Int), ()), (l, ()))) = some ((k + (sumCnt u l : Int), ()), (mlist f k l, ())) := by
  refine loopN_mut l hlen.1 (fun i xs (s : Int) => ((s, (i : Int), ()), (xs, ()))) (fun dn t s => ((s + (sumCnt u t : Int), ()), (dn ++ mlist f s t, ()))) (fun dn t s => 0 < s ∧ s + (sumCnt u t : Int) ≤ 4611686018427387904 ∧ ∀ x ∈ t, WL.wl x)
    k rfl rfl ⟨h0, hk, hlen.2⟩ hN (fun rec dn s hd hs => ?_) (fun rec dn b t s hat hs hrec => ?_)
  · dsimp only
    simp [mlist, sumCnt]
  · simp only [sumCnt] at hs
    obtain ⟨b', h1⟩ := h b s (hs.2.2 b (by simp)) hs.1 (by omega)
    dsimp only
    simp only [hat.lt, hat.nn, hat.wrap, hat.rd, decide_true, if_true, h1, Option.bind_some, Int.toNat_natCast, set_mid]
    refine (hrec b' (s + (u b : Int)) ⟨by omega, by omega, fun x hx => hs.2.2 x (by simp [hx])⟩).trans ?_
    simp only [mlist_cons h1, sumCnt, List.append_assoc, List.singleton_append, Option.some.injEq, Prod.mk.injEq, and_true]
    omega
theorem held_list {α : Type} [WL α] {f : α → Int → Option ((Int × Unit) × (α × Unit))} {g : α → Int → Option ((Int × Unit) × Unit)} {u : α → Nat} (h : Marks f g u) (z : α) (l : List α) (k : Int) (h0 : 0 < k) (hlen : WL.wl l) (hk : k + (sumCnt u l : Int) ≤ 4611686018427387904) {N : Nat} (hN : l.length < N) :
    (loopN N (fun rec1 (d2 : (List α × Int × Int × Unit) × (Unit)) => (if (decide (d2.1.2.2.1 < (d2.1.1.length : Int))) then (if (decide (0 ≤ d2.1.2.2.1)) then (if (decide (d2.1.2.2.1 < d2.1.1.length)) then ((g (rd d2.1.1 d2.1.2.2.1 z) d2.1.2.1).bind fun y3 => (if (decide (y3.1.1 < (0 : Int))) then (some (((-1 : Int), ()), ())) else (rec1 ((d2.1.1, y3.1.1, (IntKind.i64.wrap (d2.1.2.2.1 + (1 : Int))), ()), (()))))) else none) else none) else (some ((d2.1.2.1, ()), ())))) ((mlist f k l, k, (0 : Int), ()), (()))) = some ((k + (sumCnt u l : Int), ()), ()) := by
  have hml := mlist_len h l k hlen.2 h0 hk
  refine loopN_over (mlist f k l) (by have := hlen.1; omega) (fun i (s : Int) => ((mlist f k l, s, (i : Int), ()), ())) (fun i t s => ((k + (sumCnt u l : Int), ()), ())) (fun i t s => 0 < s ∧ ∃ m, t = mlist f s m ∧ s + (sumCnt u m : Int) = k + (sumCnt u l : Int) ∧ ∀ x ∈ m, WL.wl x)
    k rfl rfl ⟨h0, l, rfl, rfl, hlen.2⟩ (by omega) (fun rec s hs => ?_) (fun rec i b t s hat hs hrec => ?_)
  · obtain ⟨h1, m, h2, h3, hwl⟩ := hs
    have : m = [] := by
      have := mlist_len h m s hwl h1 (by omega)
      rw [← h2] at this
      exact List.eq_nil_of_length_eq_zero this.symm
    subst this
    simp only [sumCnt] at h3
    dsimp only
    simp only [lenInt_lt_irrefl, decide_false, Bool.false_eq_true, if_false, Option.some.injEq, Prod.mk.injEq, and_true]
    omega
  · obtain ⟨h1, m, h2, h3, hwl⟩ := hs
    cases m with
    | nil => cases h2
    | cons c m =>
      simp only [sumCnt] at h3
      obtain ⟨c', h4, h5⟩ := h c s (hwl c (by simp)) h1 (by omega)
      rw [mlist_cons h4] at h2
      simp only [List.cons.injEq] at h2
      obtain ⟨rfl, h2⟩ := h2
      dsimp only
      simp only [hat.lt, hat.nn, hat.wrap, hat.rd, decide_true, if_true, h5, Option.bind_some]
      rw [decide_eq_false (by omega)]
      simp only [Bool.false_eq_true, if_false]
      exact hrec _ ⟨by omega, m, h2, by omega, fun x hx => hwl x (by simp [hx])⟩
theorem marks_IntSS : Marks S_laws_markIntSS S_laws_heldIntSS (sumCnt List.length) :=
  fun x k hl h0 hk => ⟨mlist S_laws_markIntS k x, lim_eq (x.length + 1) fun N hN => mark_list marks_IntS.ok [] x k h0 hl hk hN, lim_eq (x.length + 1) fun N hN => held_list marks_IntS [] x k h0 hl hk hN⟩
theorem lt_mid {β : Type} (dn : List β) (b : β) (t : List β) : ((dn.length : Int) < ((dn ++ b :: t).length : Int)) = True := by simp; omega
theorem nn_mid {β : Type} (dn : List β) : ((0 : Int) ≤ (dn.length : Int)) = True := by simp
theorem cnt_int0 (n : Int) : Cnt.cnt n = 0 := rfl
theorem cnt_bool0 (n : Bool) : Cnt.cnt n = 0 := rfl
theorem cnt_unit0 (n : Unit) : Cnt.cnt n = 0 := rfl
theorem sz_then {n m : Nat} {k : Int} (h0 : 0 ≤ k) (h1 : k ≤ 1048576) {G : (Int × Unit) × Unit → Option ((Int × Unit) × Unit)} (hneg : G ((-1, ()), ()) = some ((-1, ()), ())) (hK : ∀ k' : Int, decide (k' < 0) = false → 0 ≤ k' → k' ≤ 1048576 → G ((k', ()), ()) = szRes m k') :
    (szRes n k).bind G = szRes (n + m) k := by
  simp only [szRes, Option.bind_some]
  by_cases hn : (n : Int) ≤ k
  · rw [szV_pos hn, hK _ (decide_eq_false (by omega)) (by omega) (by omega), szRes]
    simp only [Option.some.injEq, Prod.mk.injEq, and_true]
    unfold szV
    split <;> split <;> omega
  · rw [szV_neg hn, szV_neg (by omega), hneg]
theorem sz_last {n : Nat} {k : Int} (h0 : 0 ≤ k) (h1 : k ≤ 1048576) {G : (Int × Unit) × Unit → Option ((Int × Unit) × Unit)} (hneg : G ((-1, ()), ()) = some ((-1, ()), ())) (hK : ∀ k' : Int, decide (k' < 0) = false → G ((k', ()), ()) = some ((k', ()), ())) :
    (szRes n k).bind G = szRes n k := by
  have := sz_then (n := n) (m := 0) h0 h1 hneg fun k' h h2 h3 => (hK k' h).trans (by simp [szRes, szV, h2])
  simpa using this
theorem sz_over {n : Nat} {k : Int} (h0 : 0 ≤ k) {G : (Int × Unit) × Unit → Option ((Bool × Unit) × Unit)} (hneg : G ((-1, ()), ()) = some ((true, ()), ())) (hK : (n : Int) ≤ k → ∀ r : Int, decide (r < 0) = false → G ((r, ()), ()) = some ((true, ()), ())) :
    (szRes n k).bind G = some ((true, ()), ()) := by
  simp only [szRes, Option.bind_some]
  by_cases hn : (n : Int) ≤ k
  · rw [szV_pos hn]
    exact hK hn _ (decide_eq_false (by omega))
  · rw [szV_neg hn]; exact hneg
theorem eq_then {a r : Bool} {K : Option ((Bool × Unit) × Unit)} (hK : K = some ((r, ()), ())) : (if (!a) = true then (some ((false, ()), ())) else K) = some ((a && r, ()), ()) := by
  subst hK
  cases a <;> simp
theorem eq_thenI {a b : Int} {r : Bool} {K : Option ((Bool × Unit) × Unit)} (hK : K = some ((r, ()), ())) : (if (a != b) then (some ((false, ()), ())) else K) = some ((same a b && r, ()), ()) := by
  subst hK
  rw [same_bne]
  cases same a b <;> simp
theorem held_then {α : Type} {k : Int} {x : Option α} {K : Option α} (h : 0 < k) : (if (decide (k < (0 : Int))) = true then x else K) = K := by
  rw [decide_eq_false (by omega)]
  simp
def inn (n lo hi : Int) : Bool := decide (lo ≤ n) && decide (n ≤ hi)
theorem inn_iff {n lo hi : Int} : inn n lo hi = true ↔ lo ≤ n ∧ n ≤ hi := by simp [inn]
theorem spec_l1In_eq (a b c : Int) : S_spec_l1In a b c = some ((inn a b c, ()), ()) := by
  unfold S_spec_l1In p_spec_l1In inn
  by_cases h : b ≤ a <;> simp [h]
theorem impl_within_eq (a b c : Int) : S_impl_within a b c = some ((inn a b c, ()), ()) := by
  unfold S_impl_within p_impl_within inn
  by_cases h : b ≤ a <;> simp [h]
def grp (n : Int) : Bool := n == 3 || n == 5
theorem grp_iff {n : Int} : grp n = true ↔ n = 3 ∨ n = 5 := by simp [grp]
theorem spec_IsGroup_eq (n : Int) : S_spec_IsGroup n = some ((grp n, ()), ()) := by
  unfold S_spec_IsGroup p_spec_IsGroup grp
  by_cases h : n = 3 <;> simp [h]
theorem impl_IsGroup_eq (n : Int) : S_impl_IsGroup n = some ((grp n, ()), ()) := by
  unfold S_impl_IsGroup p_impl_IsGroup grp
  by_cases h : n = 3 <;> simp [h]
theorem grp_wrap {n : Int} (h : grp n = true) : IntKind.i64.wrap (n - 1) = n - 1 := by
  rw [grp_iff] at h; apply wrap_small <;> omega
def idxI {β : Type} (q : β → Bool) : List β → Int → Int
  | [], _ => -1
  | b :: t, i => if q b then i else idxI q t (i + 1)
theorem idxI_any {β : Type} (q : β → Bool) : ∀ (l : List β) (i : Int), 0 ≤ i → decide (idxI q l i ≥ 0) = l.any q
  | [], i, h => by simp [idxI]
  | b :: t, i, h => by
    cases hb : q b with
    | true => simp [idxI, hb, h]
    | false => simp only [idxI, hb, Bool.false_eq_true, if_false, List.any_cons, Bool.false_or]; exact idxI_any q t (i + 1) (by omega)
theorem index_gen {β : Type} (z : β) (l : List β) (hl : l.length ≤ maxLen) (p : (β × Unit) → Option Bool) (q : β → Bool) (hp : ∀ x ∈ l, p (x, ()) = some (q x)) {N : Nat} (hN : l.length < N) :
    (loopN N (fun rec1 (d2 : (List β × ((β × Unit) → Option Bool) × Int × Int × Unit) × (Unit)) => (if (decide (d2.1.2.2.2.1 < d2.1.2.2.1)) then (if (decide (0 ≤ d2.1.2.2.2.1)) then (if (decide (d2.1.2.2.2.1 < d2.1.1.length)) then ((d2.1.2.1 ((rd d2.1.1 d2.1.2.2.2.1 z), ())).bind fun y3 => (if y3 then (some ((d2.1.2.2.2.1, ()), ())) else (rec1 ((d2.1.1, d2.1.2.1, d2.1.2.2.1, (IntKind.i64.wrap (d2.1.2.2.2.1 + (1 : Int))), ()), (()))))) else none) else none) else (some (((-1 : Int), ()), ())))) ((l, p, (l.length : Int), (0 : Int), ()), (())))
      = some ((idxI q l 0, ()), ()) := by
  refine loopN_over l hl (fun i (s : Unit) => ((l, p, (l.length : Int), (i : Int), ()), ())) (fun i t s => ((idxI q t (i : Int), ()), ())) (fun i t s => True)
    () rfl rfl trivial hN (fun rec s h => ?_) (fun rec i b t s hat h hrec => ?_)
  · dsimp only
    simp [idxI]
  · dsimp only
    simp only [hat.lt, hat.nn, hat.wrap, hat.rd, decide_true, if_true, hp b hat.mem, Option.bind_some, idxI]
    cases q b with
    | true => simp
    | false => simp only [Bool.false_eq_true, if_false]; exact hrec () trivial
theorem IndexFunc_LLint_eq {l : List (List Int)} {p : (List Int × Unit) → Option Bool} (q : List Int → Bool) (hl : l.length ≤ maxLen) (hp : ∀ x ∈ l, p (x, ()) = some (q x)) : S_IndexFunc_LLint_Lint l p = some ((idxI q l 0, ()), ()) :=
  lim_eq (l.length + 1) fun N hN => index_gen [] l hl p q hp hN
theorem IndexFunc_Lint_eq {l : List Int} {p : (Int × Unit) → Option Bool} (q : Int → Bool) (hl : l.length ≤ maxLen) (hp : ∀ x ∈ l, p (x, ()) = some (q x)) : S_IndexFunc_Lint_int l p = some ((idxI q l 0, ()), ()) :=
  lim_eq (l.length + 1) fun N hN => index_gen 0 l hl p q hp hN
theorem ContainsFunc_Lint_eq {l : List Int} {p : (Int × Unit) → Option Bool} (q : Int → Bool) (hl : l.length ≤ maxLen) (hp : ∀ x ∈ l, p (x, ()) = some (q x)) : S_ContainsFunc_Lint_int l p = some ((l.any q, ()), ()) := by
  unfold S_ContainsFunc_Lint_int p_ContainsFunc_Lint_int
  rw [IndexFunc_Lint_eq q hl hp]
  simp only [Option.bind_some, idxI_any q l 0 (Int.le_refl 0)]
theorem not_any_not {β : Type} (l : List β) (q : β → Bool) : (!l.any fun x => !q x) = l.all q := by
  induction l with
  | nil => rfl
  | cons b t ih => rw [List.any_cons, List.all_cons, Bool.not_or, Bool.not_not, ih]
theorem spec_l1All_eq (l : List Int) (lo hi : Int) (hl : l.length ≤ maxLen) : S_spec_l1All l lo hi = some ((l.all (fun b => inn b lo hi), ()), ()) := by
  unfold S_spec_l1All
  refine lim_eq (l.length + 1) fun N hN => ?_
  unfold p_spec_l1All
  refine loopN_over l hl (fun i (s : Unit) => ((lo, hi, l, (l.length : Int), (i : Int), ()), ())) (fun i t s => ((t.all (fun b => inn b lo hi), ()), ())) (fun i t s => True)
    () rfl rfl trivial hN (fun rec s h => ?_) (fun rec i b t s hat h hrec => ?_)
  · dsimp only
    simp
  · dsimp only
    simp only [hat.lt, hat.nn, hat.wrap, hat.rd, decide_true, if_true, spec_l1In_eq, Option.bind_some, List.all_cons]
    cases hb : inn b lo hi with
    | false => simp
    | true => simp only [Bool.not_true, Bool.false_eq_true, if_false, Bool.true_and]; exact hrec () trivial
abbrev WatchT := Int × (Int × (List (List Int) × (List Int × Unit)))
theorem eq_Watch : EqOk S_laws_eqWatch := fun a b ha hb => by
  unfold S_laws_eqWatch p_laws_eqWatch
  simp only [eq_IntSS _ _ ha.2.2.1 hb.2.2.1, eq_IntS _ _ ha.2.2.2.1 hb.2.2.2.1, Option.bind_some]
  refine (eq_thenI (eq_thenI (eq_then (eq_then rfl)))).trans ?_
  simp only [same_pair a, same_pair a.2, same_pair a.2.2, same_pair a.2.2.2, same_unit]
theorem new_Watch (n m : Int) : S_spec_NewWatch n m = S_impl_NewWatch n m := by
  unfold S_spec_NewWatch p_spec_NewWatch S_impl_NewWatch p_impl_NewWatch
  simp only [spec_IsGroup_eq, impl_IsGroup_eq, spec_l1In_eq, impl_within_eq]
theorem to_Cmd : ToOk S_laws_toCmd := fun x h => by
  unfold S_laws_toCmd p_laws_toCmd
  rfl
theorem eq_Cmd : EqOk S_laws_eqCmd := fun a b ha hb => by
  unfold S_laws_eqCmd p_laws_eqCmd
  refine (eq_thenI (eq_thenI (eq_thenI (eq_thenI (eq_thenI rfl))))).trans ?_
  simp only [same_pair a, same_pair a.2, same_pair a.2.2, same_pair a.2.2.2, same_pair a.2.2.2.2, same_unit]
theorem sz_Attr : SzOk S_laws_szAttr := fun x k h0 h1 hl => by
  unfold S_laws_szAttr p_laws_szAttr
  have e : Cnt.cnt x = Cnt.cnt x.2.1 := by simp only [cnt_pair, cnt_int0, cnt_bool0, cnt_unit0]; omega
  rw [e]
  rw [sz_IntS _ _ h0 h1 hl.2.1]
  exact sz_last h0 h1 rfl fun k' hk => by simp only [hk, Bool.false_eq_true, if_false]
theorem sz_Row : SzOk S_laws_szRow := fun x k h0 h1 hl => by
  unfold S_laws_szRow p_laws_szRow
  have e : Cnt.cnt x = Cnt.cnt x.2.2.2.2.1 := by simp only [cnt_pair, cnt_int0, cnt_bool0, cnt_unit0]; omega
  rw [e]
  rw [sz_Attr _ _ h0 h1 hl.2.2.2.2.1]
  exact sz_last h0 h1 rfl fun k' hk => by simp only [hk, Bool.false_eq_true, if_false]
theorem sz_RowS : SzOk S_laws_szRowS := fun x k h0 h1 hl => lim_eq (x.length + 1) fun N hN => sz_list sz_Row _ x k h0 h1 hl hN
theorem sz_RowSS : SzOk S_laws_szRowSS := fun x k h0 h1 hl => lim_eq (x.length + 1) fun N hN => sz_list sz_RowS _ x k h0 h1 hl hN
theorem sz_Table : SzOk S_laws_szTable := fun x k h0 h1 hl => by
  unfold S_laws_szTable p_laws_szTable
  have e : Cnt.cnt x = Cnt.cnt x.2.1 := by simp only [cnt_pair, cnt_int0, cnt_bool0, cnt_unit0]; omega
  rw [e]
  rw [sz_RowSS _ _ h0 h1 hl.2.1]
  exact sz_last h0 h1 rfl fun k' hk => by simp only [hk, Bool.false_eq_true, if_false]
theorem to_Attr : ToOk S_laws_toAttr := fun x h => by
  unfold S_laws_toAttr p_laws_toAttr
  simp only [cnt_pair, cnt_int0, cnt_bool0, cnt_unit0] at h
  have e : Cnt.cnt x.2.1 ≤ 1048576 := by (first | omega | (simp only [cnt_pair, cnt_int0, cnt_bool0, cnt_unit0]; omega))
  simp only [to_IntS x.2.1 e, Option.bind_some]
theorem to_Row : ToOk S_laws_toRow := fun x h => by
  unfold S_laws_toRow p_laws_toRow
  simp only [cnt_pair, cnt_int0, cnt_bool0, cnt_unit0] at h
  have e : Cnt.cnt x.2.2.2.1 ≤ 1048576 ∧ Cnt.cnt x.2.2.2.2.1 ≤ 1048576 := by refine ⟨?_, ?_⟩ <;> (first | omega | (simp only [cnt_pair, cnt_int0, cnt_bool0, cnt_unit0]; omega))
  simp only [to_Cmd x.2.2.2.1 e.1, to_Attr x.2.2.2.2.1 e.2, Option.bind_some]
theorem to_RowS : ToOk S_laws_toRowS := fun x h => lim_eq (x.length + 1) fun N hN => to_list to_Row _ 96 (by omega) x h hN
theorem to_RowSS : ToOk S_laws_toRowSS := fun x h => lim_eq (x.length + 1) fun N hN => to_list to_RowS _ 24 (by omega) x h hN
theorem to_Table : ToOk S_laws_toTable := fun x h => by
  unfold S_laws_toTable p_laws_toTable
  simp only [cnt_pair, cnt_int0, cnt_bool0, cnt_unit0] at h
  have e : Cnt.cnt x.2.1 ≤ 1048576 := by (first | omega | (simp only [cnt_pair, cnt_int0, cnt_bool0, cnt_unit0]; omega))
  simp only [to_RowSS x.2.1 e, Option.bind_some]
theorem eq_Attr : EqOk S_laws_eqAttr := fun a b ha hb => by
  unfold S_laws_eqAttr p_laws_eqAttr
  simp only [eq_IntS _ _ ha.2.1 hb.2.1, Option.bind_some]
  refine (eq_thenI (eq_then rfl)).trans ?_
  simp only [same_pair a, same_pair a.2, same_unit]
theorem eq_Row : EqOk S_laws_eqRow := fun a b ha hb => by
  unfold S_laws_eqRow p_laws_eqRow
  simp only [eq_Cmd _ _ ha.2.2.2.1 hb.2.2.2.1, eq_Attr _ _ ha.2.2.2.2.1 hb.2.2.2.2.1, Option.bind_some]
  refine (eq_thenI (eq_thenI (eq_thenI (eq_then (eq_then rfl))))).trans ?_
  simp only [same_pair a, same_pair a.2, same_pair a.2.2, same_pair a.2.2.2, same_pair a.2.2.2.2, same_unit]
theorem eq_RowS : EqOk S_laws_eqRowS := fun a b ha hb => lim_eq (a.length + 1) fun N hN => eq_list eq_Row _ a b ha hb hN
theorem eq_RowSS : EqOk S_laws_eqRowSS := fun a b ha hb => lim_eq (a.length + 1) fun N hN => eq_list eq_RowS _ a b ha hb hN
theorem eq_Table : EqOk S_laws_eqTable := fun a b ha hb => by
  unfold S_laws_eqTable p_laws_eqTable
  simp only [eq_RowSS _ _ ha.2.1 hb.2.1, Option.bind_some]
  refine (eq_thenI (eq_then rfl)).trans ?_
  simp only [same_pair a, same_pair a.2, same_unit]
def ue_RowS (b : T7) : Nat := 9 + List.length b.2.2.2.2.1.2.1
def u_RowS (l : List (T7)) : Nat := sumCnt ue_RowS l
noncomputable def e_RowS (k : Int) (b : T7) : T7 := (k, k + 1, k + 1 + 1, (k + 1 + 1 + 1, k + 1 + 1 + 1 + 1, k + 1 + 1 + 1 + 1 + 1, k + 1 + 1 + 1 + 1 + 1 + 1, k + 1 + 1 + 1 + 1 + 1 + 1 + 1, ()), (k + 1 + 1 + 1 + 1 + 1 + 1 + 1 + 1, marks (k + 1 + 1 + 1 + 1 + 1 + 1 + 1 + 1 + 1) (b.2.2.2.2.1.2.1).length, ()), ())
noncomputable def M_RowS : Int → List (T7) → List (T7)
  | _, [] => []
  | k, b :: t => e_RowS k b :: M_RowS (k + (ue_RowS b : Int)) t
theorem mark_RowS {l : List (T7)} {k : Int} (hl : WL.wl l) (h0 : 0 < k) (hk : k + (u_RowS l : Int) ≤ 4611686018427387904) : S_laws_markRowS l k = some ((k + (u_RowS l : Int), ()), (M_RowS k l, ())) := by
  unfold S_laws_markRowS
  refine lim_eq (l.length + 1) fun N hN => ?_
  unfold p_laws_markRowS
  refine loopN_mut l hl.1 (fun i xs (s : Int) => ((s, (i : Int), ()), (xs, ()))) (fun dn t s => ((s + (u_RowS t : Int), ()), (dn ++ M_RowS s t, ()))) (fun dn t s => 0 < s ∧ s + (u_RowS t : Int) ≤ 4611686018427387904 ∧ ∀ x ∈ t, WL.wl x)
    k rfl rfl ⟨h0, hk, hl.2⟩ hN (fun rec dn s hd hs => ?_) (fun rec dn b t s hat hs hrec => ?_)
  · dsimp only
    simp [M_RowS, u_RowS, sumCnt]
  · obtain ⟨h1, h2, h3⟩ := hs
    have hu : (u_RowS (b :: t) : Int) = (ue_RowS b : Int) + (u_RowS t : Int) := by simp only [u_RowS, sumCnt]; omega
    have hb : (ue_RowS b : Int) = 9 + (List.length b.2.2.2.2.1.2.1 : Int) := by simp only [ue_RowS]; omega
    rw [hu, hb] at h2
    have c0 := markIntS_eq (l := b.2.2.2.2.1.2.1) (k := s + 1 + 1 + 1 + 1 + 1 + 1 + 1 + 1 + 1) (by omega) (by omega)
    have w0 : IntKind.i64.wrap (s + 1) = s + 1 := wrap_small (by omega) (by omega)
    have w1 : IntKind.i64.wrap (s + 1 + 1) = s + 1 + 1 := wrap_small (by omega) (by omega)
    have w2 : IntKind.i64.wrap (s + 1 + 1 + 1) = s + 1 + 1 + 1 := wrap_small (by omega) (by omega)
    have w3 : IntKind.i64.wrap (s + 1 + 1 + 1 + 1) = s + 1 + 1 + 1 + 1 := wrap_small (by omega) (by omega)
    have w4 : IntKind.i64.wrap (s + 1 + 1 + 1 + 1 + 1) = s + 1 + 1 + 1 + 1 + 1 := wrap_small (by omega) (by omega)
    have w5 : IntKind.i64.wrap (s + 1 + 1 + 1 + 1 + 1 + 1) = s + 1 + 1 + 1 + 1 + 1 + 1 := wrap_small (by omega) (by omega)
    have w6 : IntKind.i64.wrap (s + 1 + 1 + 1 + 1 + 1 + 1 + 1) = s + 1 + 1 + 1 + 1 + 1 + 1 + 1 := wrap_small (by omega) (by omega)
    have w7 : IntKind.i64.wrap (s + 1 + 1 + 1 + 1 + 1 + 1 + 1 + 1) = s + 1 + 1 + 1 + 1 + 1 + 1 + 1 + 1 := wrap_small (by omega) (by omega)
    have w8 : IntKind.i64.wrap (s + 1 + 1 + 1 + 1 + 1 + 1 + 1 + 1 + 1) = s + 1 + 1 + 1 + 1 + 1 + 1 + 1 + 1 + 1 := wrap_small (by omega) (by omega)
    dsimp only
    simp only [lt_mid, nn_mid, decide_true, if_true, Int.toNat_natCast, set_mid, rd_mid, hat.wrap, w0, w1, w2, w3, w4, w5, w6, w7, w8, c0]
    rw [Option.bind_some]
    simp only [lt_mid, nn_mid, decide_true, if_true, Int.toNat_natCast, set_mid, rd_mid, w0, w1, w2, w3, w4, w5, w6, w7, w8, c0]
    rw [Option.bind_some]
    simp only [lt_mid, nn_mid, decide_true, if_true, Int.toNat_natCast, set_mid, rd_mid, w0, w1, w2, w3, w4, w5, w6, w7, w8, c0]
    rw [Option.bind_some]
    simp only [lt_mid, nn_mid, decide_true, if_true, Int.toNat_natCast, set_mid, rd_mid, w0, w1, w2, w3, w4, w5, w6, w7, w8, c0]
    rw [Option.bind_some]
    simp only [lt_mid, nn_mid, decide_true, if_true, Int.toNat_natCast, set_mid, rd_mid, w0, w1, w2, w3, w4, w5, w6, w7, w8, c0]
    rw [Option.bind_some]
    simp only [lt_mid, nn_mid, decide_true, if_true, Int.toNat_natCast, set_mid, rd_mid, w0, w1, w2, w3, w4, w5, w6, w7, w8, c0]
    rw [Option.bind_some]
    simp only [lt_mid, nn_mid, decide_true, if_true, Int.toNat_natCast, set_mid, rd_mid, w0, w1, w2, w3, w4, w5, w6, w7, w8, c0]
    rw [Option.bind_some]
    simp only [lt_mid, nn_mid, decide_true, if_true, Int.toNat_natCast, set_mid, rd_mid, w0, w1, w2, w3, w4, w5, w6, w7, w8, c0]
    rw [Option.bind_some]
    simp only [lt_mid, nn_mid, decide_true, if_true, Int.toNat_natCast, set_mid, rd_mid, w0, w1, w2, w3, w4, w5, w6, w7, w8, c0]
    rw [Option.bind_some]
    simp only [lt_mid, nn_mid, decide_true, if_true, Int.toNat_natCast, set_mid, rd_mid, w0, w1, w2, w3, w4, w5, w6, w7, w8, c0]
    rw [Option.bind_some]
    simp only [lt_mid, nn_mid, decide_true, if_true, Int.toNat_natCast, set_mid, rd_mid, w0, w1, w2, w3, w4, w5, w6, w7, w8, c0]
    refine (hrec (e_RowS s b) (s + 1 + 1 + 1 + 1 + 1 + 1 + 1 + 1 + 1 + (List.length b.2.2.2.2.1.2.1 : Int)) ⟨by omega, by omega, fun x hx => h3 x (by simp [hx])⟩).trans ?_
    have hk' : s + 1 + 1 + 1 + 1 + 1 + 1 + 1 + 1 + 1 + (List.length b.2.2.2.2.1.2.1 : Int) = s + (ue_RowS b : Int) := by omega
    simp only [M_RowS, List.append_assoc, List.singleton_append, Option.some.injEq, Prod.mk.injEq, and_true, hk']
    omega
theorem markOk_RowS : MarkOk S_laws_markRowS u_RowS := fun l k hl h0 hk => ⟨_, mark_RowS hl h0 hk⟩
def u_RowSS (l : List (List (T7))) : Nat := sumCnt u_RowS l
noncomputable def M_RowSS (k : Int) (l : List (List (T7))) : List (List (T7)) := mlist S_laws_markRowS k l
theorem mark_RowSS {l : List (List (T7))} {k : Int} (hl : WL.wl l) (h0 : 0 < k) (hk : k + (u_RowSS l : Int) ≤ 4611686018427387904) : S_laws_markRowSS l k = some ((k + (u_RowSS l : Int), ()), (M_RowSS k l, ())) :=
  lim_eq (l.length + 1) fun N hN => mark_list markOk_RowS _ l k h0 hl hk hN
theorem spec_l2Account_eq (n : Int) : S_spec_l2Account n = some ((inn n 0 3, ()), ()) := by
  unfold S_spec_l2Account p_spec_l2Account; rw [spec_l1In_eq]; rfl
theorem impl_isAccount_eq (n : Int) : S_impl_isAccount n = some ((inn n 0 3, ()), ()) := by
  unfold S_impl_isAccount p_impl_isAccount; rw [impl_within_eq]; rfl
def zcmd (c : T2) : Bool := (c.1 == 0 && (c.2.1 == 0 && (c.2.2.1 == 0 && (c.2.2.2.1 == 0 && (c.2.2.2.2.1 == 0 && true)))))
def gcmd (c : T2) : Bool :=
  if c.1 == 0 then zcmd c
  else if c.1 == 1 then inn c.2.1 1 999 && (inn c.2.2.1 0 3 && (inn c.2.2.2.1 0 3 && ((c.2.2.1 != c.2.2.2.1) && inn c.2.2.2.2.1 1 1000)))
  else if c.1 == 2 then inn c.2.1 1 999 && (inn c.2.2.1 0 3 && ((c.2.2.2.1 == 0) && (c.2.2.2.2.1 == 0))) else false
theorem impl_GoodCmd_eq (c : T2) : S_impl_GoodCmd c = some ((gcmd c, ()), ()) := by
  unfold S_impl_GoodCmd p_impl_GoodCmd gcmd
  simp only [impl_within_eq, impl_isAccount_eq, Option.bind_some]
  split
  · rfl
  · split
    · cases inn c.2.1 1 999 <;> cases inn c.2.2.1 0 3 <;> cases inn c.2.2.2.1 0 3 <;> cases (c.2.2.1 != c.2.2.2.1) <;> simp
    · split
      · cases inn c.2.1 1 999 <;> cases inn c.2.2.1 0 3 <;> cases (c.2.2.2.1 == 0) <;> simp
      · rfl
theorem l2Code_move (c : T2) (h : (c.1 == (1 : Int)) = true) : ∃ k : Int, S_spec_l2Code c = some ((k, ()), ()) ∧ (k == 0) = (inn c.2.1 1 999 && (inn c.2.2.1 0 3 && (inn c.2.2.2.1 0 3 && ((c.2.2.1 != c.2.2.2.1) && inn c.2.2.2.2.1 1 1000)))) := by
  unfold S_spec_l2Code p_spec_l2Code
  simp only [h, if_true]
  simp only [spec_l1In_eq, spec_l2Account_eq, Option.bind_some]
  have hb : (c.2.2.1 != c.2.2.2.1) = !(c.2.2.1 == c.2.2.2.1) := rfl
  rw [hb]
  generalize inn c.2.1 1 999 = a
  generalize inn c.2.2.1 0 3 = b
  generalize inn c.2.2.2.1 0 3 = d
  generalize inn c.2.2.2.2.1 1 1000 = e
  generalize (c.2.2.1 == c.2.2.2.1) = f
  cases a <;> cases b <;> cases d <;> cases e <;> cases f <;> exact ⟨_, rfl, rfl⟩
theorem l2Code_read (c : T2) (h : (c.1 == (1 : Int)) = false) : ∃ k : Int, S_spec_l2Code c = some ((k, ()), ()) ∧ (k == 0) = (inn c.2.1 1 999 && inn c.2.2.1 0 3) := by
  unfold S_spec_l2Code p_spec_l2Code
  simp only [h, Bool.false_eq_true, if_false]
  simp only [spec_l1In_eq, spec_l2Account_eq, Option.bind_some]
  generalize inn c.2.1 1 999 = a
  generalize inn c.2.2.1 0 3 = b
  cases a <;> cases b <;> exact ⟨_, rfl, rfl⟩
theorem spec_GoodCmd_eq (c : T2) : S_spec_GoodCmd c = some ((gcmd c, ()), ()) := by
  unfold S_spec_GoodCmd p_spec_GoodCmd gcmd
  split
  · rfl
  · split
    · rename_i h1
      obtain ⟨k, e1, e2⟩ := l2Code_move c h1
      rw [e1, Option.bind_some, e2]
    · split
      · rename_i h0 h1 h2
        obtain ⟨k, e1, e2⟩ := l2Code_read c (by simpa using h1)
        rw [e1, Option.bind_some, e2]
        generalize inn c.2.1 1 999 = a
        generalize inn c.2.2.1 0 3 = b
        generalize (c.2.2.2.1 == (0 : Int)) = d
        cases a <;> cases b <;> cases d <;> rfl
      · rfl
theorem sum_two {l : List (List Int)} (h : ∀ x ∈ l, x.length = 2) : sumCnt List.length l = 2 * l.length := by
  induction l with
  | nil => rfl
  | cons b t ih =>
    have := ih fun x hx => h x (by simp [hx])
    have := h b (by simp)
    simp only [sumCnt, List.length_cons]; omega
theorem spec_l1Same_eq (a b : List Int) (ha : a.length ≤ maxLen) (hb : b.length ≤ maxLen) : S_spec_l1Same a b = some ((same a b, ()), ()) := by
  unfold S_spec_l1Same
  refine lim_eq (a.length + 1) fun N hN => ?_
  unfold p_spec_l1Same
  by_cases hlen : a.length = b.length
  · have h1 : ((a.length : Int) != (b.length : Int)) = false := by simp [hlen]
    rw [h1]
    simp only [Bool.false_eq_true, if_false]
    refine loopN_over a ha (fun i (s : Unit) => ((a, b, (a.length : Int), (i : Int), ()), ())) (fun i t s => ((same t (b.drop i), ()), ())) (fun i t s => True)
      () rfl (by simp) trivial hN (fun rec s h => ?_) (fun rec i c t s hat h hrec => ?_)
    · dsimp only
      simp [hlen, same_self]
    · have hlt := hat.ltn
      have hd : b.drop i = b[i]'(by omega) :: b.drop (i + 1) := List.drop_eq_getElem_cons (by omega)
      have hb' := At.of hb hd
      dsimp only
      simp only [hat.lt, hb'.lt, hat.nn, hat.wrap, hat.rd, hb'.rd, decide_true, if_true, hd, same_cons, same_bne]
      cases same c (b[i]'(by omega)) with
      | false => simp
      | true =>
        simp only [Bool.not_true, Bool.false_eq_true, if_false, Bool.true_and]
        exact hrec () trivial
  · have h1 : ((a.length : Int) != (b.length : Int)) = true := by simp; omega
    rw [h1]
    have : same a b = false := by rw [Bool.eq_false_iff]; intro h; rw [same_iff] at h; subst h; exact hlen rfl
    simp [this]
theorem Equal_Lint_eq (a b : List Int) (ha : a.length ≤ maxLen) (hb : b.length ≤ maxLen) : S_Equal_Lint_int a b = some ((same a b, ()), ()) := spec_l1Same_eq a b ha hb
noncomputable def sameAttr (a b : T6) : Bool := (a.1 == b.1) && same a.2.1 b.2.1
theorem spec_SameAttr_eq (a b : T6) (ha : a.2.1.length ≤ maxLen) (hb : b.2.1.length ≤ maxLen) : S_spec_SameAttr a b = some ((sameAttr a b, ()), ()) := by
  unfold S_spec_SameAttr p_spec_SameAttr sameAttr
  rw [spec_l1Same_eq _ _ ha hb]
  cases (a.1 == b.1) <;> simp
theorem impl_SameAttr_eq (a b : T6) (ha : a.2.1.length ≤ maxLen) (hb : b.2.1.length ≤ maxLen) : S_impl_SameAttr a b = some ((sameAttr a b, ()), ()) := by
  unfold S_impl_SameAttr p_impl_SameAttr sameAttr
  rw [Equal_Lint_eq _ _ ha hb]
  cases (a.1 == b.1) <;> simp
def none6 (n : Int) : T6 := (0, List.replicate n.toNat 0, ())
theorem none6_len {n : Int} (h : grp n = true) : (none6 n).2.1.length ≤ maxLen := by
  rw [grp_iff] at h; rw [maxLen_eq]; simp [none6]; omega
theorem spec_l3None_eq {n : Int} (h : grp n = true) : S_spec_l3None n = some ((none6 n, ()), ()) := by
  rw [grp_iff] at h
  rcases h with rfl | rfl <;> rfl
theorem impl_noneAttr_eq {n : Int} (h : grp n = true) : S_impl_noneAttr n = some ((none6 n, ()), ()) := by
  rw [grp_iff] at h
  rcases h with rfl | rfl <;> rfl
def attrOk (n : Int) (a : T6) : Bool := inn a.1 0 999 && (((a.2.1.length : Int) == n) && a.2.1.all fun b => inn b 0 6)
theorem spec_l3Attr_eq (n : Int) (a : T6) (ha : a.2.1.length ≤ maxLen) : S_spec_l3Attr n a = some ((attrOk n a, ()), ()) := by
  unfold S_spec_l3Attr p_spec_l3Attr attrOk
  simp only [spec_l1In_eq, spec_l1All_eq _ _ _ ha, Option.bind_some]
  cases inn a.1 0 999 <;> cases ((a.2.1.length : Int) == n) <;> simp
theorem impl_GoodAttr_eq {n : Int} (h : grp n = true) (a : T6) (ha : a.2.1.length ≤ maxLen) : S_impl_GoodAttr n a = some ((attrOk n a, ()), ()) := by
  unfold S_impl_GoodAttr p_impl_GoodAttr attrOk
  simp only [impl_IsGroup_eq, h, if_true, impl_within_eq, Option.bind_some]
  rw [ContainsFunc_Lint_eq (fun b => !inn b 0 6) ha (fun x _ => rfl)]
  simp only [Option.bind_some, not_any_not]
  cases inn a.1 0 999 <;> cases ((a.2.1.length : Int) == n) <;> simp
theorem attr_none {n : Int} (h : grp n = true) (a : T6) (hs : sameAttr a (none6 n) = true) : attrOk n a = true := by
  simp only [sameAttr, Bool.and_eq_true, beq_iff_eq, same_iff] at hs
  obtain ⟨h1, h2⟩ := hs
  rw [grp_iff] at h
  simp only [attrOk, h1, h2, none6]
  rcases h with rfl | rfl <;> rfl
noncomputable def rowOk (n : Int) (r : T7) : Bool :=
  inn r.1 0 9999 && (inn r.2.1 0 r.1 && (inn r.2.2.1 0 3 && (if r.2.2.1 == 0 then (r.2.1 == 0) && (zcmd r.2.2.2.1 && sameAttr r.2.2.2.2.1 (none6 n)) else gcmd r.2.2.2.1 && attrOk n r.2.2.2.2.1)))
theorem spec_l4Row_eq {n : Int} (h : grp n = true) (r : T7) (ha : r.2.2.2.2.1.2.1.length ≤ maxLen) : S_spec_l4Row n r = some ((rowOk n r, ()), ()) := by
  unfold S_spec_l4Row p_spec_l4Row rowOk
  simp only [spec_l1In_eq, Option.bind_some]
  rw [spec_l3None_eq h, Option.bind_some, spec_SameAttr_eq _ _ ha (none6_len h), spec_GoodCmd_eq, Option.bind_some, spec_l3Attr_eq n _ ha, Option.bind_some]
  have hz : zcmd r.2.2.2.1 = (r.2.2.2.1.1 == (0 : Int) && (r.2.2.2.1.2.1 == (0 : Int) && (r.2.2.2.1.2.2.1 == (0 : Int) && (r.2.2.2.1.2.2.2.1 == (0 : Int) && (r.2.2.2.1.2.2.2.2.1 == (0 : Int) && true))))) := rfl
  rw [← hz]
  generalize inn r.1 0 9999 = a
  generalize inn r.2.1 0 r.1 = b
  generalize inn r.2.2.1 0 3 = c
  generalize (r.2.2.1 == (0 : Int)) = d
  generalize (r.2.1 == (0 : Int)) = e
  generalize zcmd r.2.2.2.1 = f
  generalize sameAttr r.2.2.2.2.1 (none6 n) = g
  generalize gcmd r.2.2.2.1 = i
  generalize attrOk n r.2.2.2.2.1 = j
  cases a <;> cases b <;> cases c <;> cases d <;> cases e <;> cases f <;> cases i <;> rfl
theorem zcmd_gcmd {c : T2} (h : zcmd c = true) : gcmd c = true := by
  have h0 : (c.1 == 0) = true := by simp only [zcmd, Bool.and_eq_true] at h; exact h.1
  unfold gcmd
  rw [if_pos h0]; exact h
theorem impl_goodRow_eq {n : Int} (h : grp n = true) (r : T7) (ha : r.2.2.2.2.1.2.1.length ≤ maxLen) : S_impl_goodRow n r = some ((rowOk n r, ()), ()) := by
  unfold S_impl_goodRow p_impl_goodRow rowOk
  rw [impl_within_eq, impl_within_eq, impl_within_eq, impl_GoodCmd_eq, impl_GoodAttr_eq h _ ha, impl_noneAttr_eq h, Option.bind_some, Option.bind_some, Option.bind_some, Option.bind_some, Option.bind_some, Option.bind_some, impl_SameAttr_eq _ _ ha (none6_len h), Option.bind_some]
  have hz : zcmd r.2.2.2.1 = (r.2.2.2.1.1 == (0 : Int) && (r.2.2.2.1.2.1 == (0 : Int) && (r.2.2.2.1.2.2.1 == (0 : Int) && (r.2.2.2.1.2.2.2.1 == (0 : Int) && (r.2.2.2.1.2.2.2.2.1 == (0 : Int) && true))))) := rfl
  rw [← hz]
  have k1 : zcmd r.2.2.2.1 = true → gcmd r.2.2.2.1 = true := zcmd_gcmd
  have k2 : sameAttr r.2.2.2.2.1 (none6 n) = true → attrOk n r.2.2.2.2.1 = true := attr_none h _
  have hd : (r.2.2.1 != (0 : Int)) = !(r.2.2.1 == (0 : Int)) := rfl
  rw [hd]
  revert k1 k2
  generalize inn r.1 0 9999 = a
  generalize inn r.2.1 0 r.1 = b
  generalize inn r.2.2.1 0 3 = c
  generalize (r.2.2.1 == (0 : Int)) = d
  generalize (r.2.1 == (0 : Int)) = e
  generalize zcmd r.2.2.2.1 = f
  generalize sameAttr r.2.2.2.2.1 (none6 n) = g
  generalize gcmd r.2.2.2.1 = i
  generalize attrOk n r.2.2.2.2.1 = j
  intro k1 k2
  cases a <;> cases b <;> cases c <;> cases d <;> cases i <;> cases j <;> cases e <;> cases f <;> cases g <;> first | rfl | (exact absurd (k1 rfl) (by decide)) | (exact absurd (k2 rfl) (by decide))
noncomputable def listOk (n : Int) (l : List T7) : Bool := decide ((l.length : Int) ≤ 6) && l.all (rowOk n)
noncomputable def tableOk (t : T8) : Bool := grp t.1 && (((t.2.1.length : Int) == t.1) && t.2.1.all (listOk t.1))
theorem ContainsFunc_Row_eq {l : List T7} {p : (T7 × Unit) → Option Bool} (q : T7 → Bool) (hl : l.length ≤ maxLen) (hp : ∀ x ∈ l, p (x, ()) = some (q x)) : S_ContainsFunc_Limpl_Row_impl_Row l p = some ((l.any q, ()), ()) := by
  unfold S_ContainsFunc_Limpl_Row_impl_Row p_ContainsFunc_Limpl_Row_impl_Row
  rw [show S_IndexFunc_Limpl_Row_impl_Row l p = some ((idxI q l 0, ()), ()) from lim_eq (l.length + 1) fun N hN => index_gen _ l hl p q hp hN]
  simp only [Option.bind_some, idxI_any q l 0 (Int.le_refl 0)]
theorem ContainsFunc_Rows_eq {l : List (List T7)} {p : (List T7 × Unit) → Option Bool} (q : List T7 → Bool) (hl : l.length ≤ maxLen) (hp : ∀ x ∈ l, p (x, ()) = some (q x)) : S_ContainsFunc_LLimpl_Row_Limpl_Row l p = some ((l.any q, ()), ()) := by
  unfold S_ContainsFunc_LLimpl_Row_Limpl_Row p_ContainsFunc_LLimpl_Row_Limpl_Row
  rw [show S_IndexFunc_LLimpl_Row_Limpl_Row l p = some ((idxI q l 0, ()), ()) from lim_eq (l.length + 1) fun N hN => index_gen _ l hl p q hp hN]
  simp only [Option.bind_some, idxI_any q l 0 (Int.le_refl 0)]
theorem wl_row {l : List (List T7)} (h : WL.wl l) {x : List T7} (hx : x ∈ l) {r : T7} (hr : r ∈ x) : r.2.2.2.2.1.2.1.length ≤ maxLen := (wl_mem (wl_mem h hx) hr).2.2.2.2.1.2.1.1
theorem impl_GoodTable_eq (t : T8) (hl : WL.wl t) : S_impl_GoodTable t = some ((tableOk t, ()), ()) := by
  unfold S_impl_GoodTable p_impl_GoodTable tableOk
  simp only [impl_IsGroup_eq, Option.bind_some]
  cases hg : grp t.1 with
  | false => simp
  | true =>
    simp only [if_true, Bool.true_and]
    rw [ContainsFunc_Rows_eq (fun x => !listOk t.1 x) hl.2.1.1 (fun x hx => by
      dsimp only
      by_cases h6 : (x.length : Int) > 6
      · have : ¬ (x.length : Int) ≤ 6 := by omega
        simp [h6, listOk, this]
      · have h6' : (x.length : Int) ≤ 6 := by omega
        rw [decide_eq_false h6, ContainsFunc_Row_eq (fun r => !rowOk t.1 r) (wl_mem hl.2.1 hx).1 (fun r hr => by
          dsimp only
          rw [impl_goodRow_eq hg r (wl_row hl.2.1 hx hr)]; rfl)]
        simp only [Bool.false_eq_true, if_false, Option.bind_some, listOk, h6', decide_true, Bool.true_and, Option.some.injEq]
        rw [← not_any_not, Bool.not_not])]
    simp only [Option.bind_some, not_any_not]
    cases ((t.2.1.length : Int) == t.1) <;> simp
theorem spec_GoodTable_eq (t : T8) (hl : WL.wl t) : S_spec_GoodTable t = some ((tableOk t, ()), ()) := by
  unfold S_spec_GoodTable
  refine lim_eq (t.2.1.length + sumCnt List.length t.2.1 + 1) fun N hN => ?_
  unfold p_spec_GoodTable tableOk
  simp only [spec_IsGroup_eq, Option.bind_some]
  cases hg : grp t.1 with
  | false => simp
  | true =>
    simp only [Bool.not_true, Bool.false_eq_true, if_false, Bool.true_and]
    by_cases hlen : (t.2.1.length : Int) = t.1
    · have h1 : ((t.2.1.length : Int) != t.1) = false := by simp [hlen]
      have h2 : ((t.2.1.length : Int) == t.1) = true := by simp [hlen]
      simp only [h1, h2, Bool.false_eq_true, if_false, Bool.true_and]
      refine loopN_over t.2.1 hl.2.1.1 (fun i (s : Unit) => ((t.2.1, (t.2.1.length : Int), (i : Int), ()), ((t.1, t.2.1, ()), ()))) (fun i u s => ((u.all (listOk t.1), ()), ())) (fun i u s => True)
        () rfl rfl trivial (by omega) (fun rec s h => ?_) (fun rec i b u s hat h hrec => ?_)
      · dsimp only
        simp
      · have hbl : b.length ≤ maxLen := (wl_mem hl.2.1 hat.mem).1
        dsimp only
        simp only [hat.lt, hat.nn, hat.rd, decide_true, if_true, List.all_cons]
        refine loopN_over b hbl (fun j (s : Unit) => ((b, t.2.1, (t.2.1.length : Int), (i : Int), b, (b.length : Int), (j : Int), ()), ((t.1, t.2.1, ()), ()))) (fun j v s => ((v.all (rowOk t.1) && decide ((b.length : Int) ≤ 6) && u.all (listOk t.1), ()), ())) (fun j v s => True)
          () rfl ?_ trivial (by have := le_sumCnt List.length hat.mem; omega) (fun rec2 s h => ?_) (fun rec2 j c v s hat2 h hrec2 => ?_)
        · unfold listOk
          rw [Bool.and_comm (decide _)]
        · dsimp only
          simp only [lenInt_lt_irrefl, decide_false, Bool.false_eq_true, if_false, List.all_nil, Bool.true_and, hat.wrap]
          by_cases h6 : (b.length : Int) > 6
          · rw [decide_eq_true h6, decide_eq_false (by omega)]; rfl
          · rw [decide_eq_false h6, decide_eq_true (by omega)]
            simp only [Bool.false_eq_true, if_false, Bool.true_and]
            exact hrec () trivial
        · dsimp only
          simp only [hat2.lt, hat2.nn, hat2.wrap, hat2.rd, decide_true, if_true, spec_l4Row_eq hg c (wl_row hl.2.1 hat.mem hat2.mem), Option.bind_some, List.all_cons]
          cases rowOk t.1 c with
          | false => simp
          | true => simp only [Bool.not_true, Bool.false_eq_true, if_false, Bool.true_and]; exact hrec2 () trivial
    · have h1 : ((t.2.1.length : Int) != t.1) = true := by simp [hlen]
      have h2 : ((t.2.1.length : Int) == t.1) = false := by simp [hlen]
      simp [h1, h2]
theorem inn6 {b : Int} (h : inn b 0 6 = true) : 0 ≤ b ∧ b ≤ 6 := inn_iff.1 h
inductive Rch (E : Nat → Nat → Prop) : Nat → Nat → Prop where
  | one {a b : Nat} (h : E a b) : Rch E a b
  | more {a b c : Nat} (h : Rch E a b) (k : E b c) : Rch E a c
def PE (l : List (List Int)) (a b : Nat) : Prop := [(a : Int), (b : Int)] ∈ l
noncomputable def cyc (l : List (List Int)) : Bool := open Classical in decide (∃ i, Rch (PE l) i i)
def okP (n : Int) (p : List Int) : Bool := (p.length == 2) && (p.all fun x => inn x 0 (n - 1))
noncomputable def hr (l : List (List Int)) (n : Int) : Bool × Bool × Unit := if (decide (l.length ≤ 2000) && inn n 0 60) && l.all (okP n) then (cyc l, true, ()) else (false, false, ())
abbrev rlist (r : T7) : List Int := r.2.2.2.2.1.2.1
structure GoodR (R : List (List T7)) : Prop where
  n : R.length = 3 ∨ R.length = 5
  six : ∀ x ∈ R, x.length ≤ 6
  len : ∀ x ∈ R, ∀ r ∈ x, (rlist r).length = R.length
  val : ∀ x ∈ R, ∀ r ∈ x, ∀ b ∈ rlist r, 0 ≤ b ∧ b ≤ 6
theorem GoodR.five {R : List (List T7)} (h : GoodR R) : R.length ≤ 5 := by have := h.n; omega
theorem GoodR.grp {R : List (List T7)} (h : GoodR R) : grp (R.length : Int) = true := by rw [grp_iff]; have := h.n; omega
theorem GoodR.max {R : List (List T7)} (h : GoodR R) : R.length ≤ maxLen := by rw [maxLen_eq]; have := h.n; omega
theorem goodR_of {t : T8} (h : tableOk t = true) : t = ((t.2.1.length : Int), t.2.1, ()) ∧ GoodR t.2.1 := by
  simp only [tableOk, Bool.and_eq_true, beq_iff_eq, List.all_eq_true] at h
  obtain ⟨hg, hn, hall⟩ := h
  have hx : ∀ x ∈ t.2.1, x.length ≤ 6 ∧ ∀ r ∈ x, attrOk t.1 r.2.2.2.2.1 = true := by
    intro x hx
    have := hall x hx
    simp only [listOk, Bool.and_eq_true, decide_eq_true_eq, List.all_eq_true] at this
    refine ⟨by omega, fun r hr => ?_⟩
    have hr := this.2 r hr
    simp only [rowOk, Bool.and_eq_true] at hr
    have hr := hr.2.2.2
    split at hr
    · simp only [Bool.and_eq_true] at hr
      exact attr_none hg _ hr.2.2
    · simp only [Bool.and_eq_true] at hr
      exact hr.2
  have ha : ∀ x ∈ t.2.1, ∀ r ∈ x, ((rlist r).length : Int) = t.1 ∧ ∀ b ∈ rlist r, inn b 0 6 = true := by
    intro x hx' r hr
    have := (hx x hx').2 r hr
    simp only [attrOk, Bool.and_eq_true, beq_iff_eq, List.all_eq_true] at this
    exact this.2
  refine ⟨by rw [hn], ⟨?_, fun x h => (hx x h).1, fun x h r hr => ?_, fun x h r hr b hb => inn6 ((ha x h r hr).2 b hb)⟩⟩
  · rw [grp_iff] at hg; omega
  · have := (ha x h r hr).1; omega
def kept (x : List T7) (c : Nat) : Bool := match x[c]? with
  | some r => r.2.2.1 == (3 : Int)
  | none => false
def rhit (j : Nat) (c : Int) (r : T7) : Bool := r.2.2.1 == (3 : Int) && decide (c ≤ (rlist r).getD j 0)
def ment (R : List (List T7)) (j : Nat) (x : List T7) (c : Int) : Bool := decide (c ≤ (x.length : Int)) || R.any fun y => y.any (rhit j c)
def pl (j c : Nat) : List Int := [(j : Int), ((c + 1 : Nat) : Int)]
def menRow (R : List (List T7)) (j : Nat) (x : List T7) : List (List Int) := ((List.range 6).filter fun c => ment R j x ((c + 1 : Nat) : Int)).map (pl j)
def menR (R : List (List T7)) : Nat → List (List T7) → List (List Int)
  | _, [] => []
  | j, x :: u => menRow R j x ++ menR R (j + 1) u
def opRow (R : List (List T7)) (j : Nat) (x : List T7) : List (List Int) := ((List.range 6).filter fun c => ment R j x ((c + 1 : Nat) : Int) && !kept x c).map (pl j)
def opR (R : List (List T7)) : Nat → List (List T7) → List (List Int)
  | _, [] => []
  | j, x :: u => opRow R j x ++ opR R (j + 1) u
theorem filter_len6 (p : Nat → Bool) : ((List.range 6).filter p).length ≤ 6 := by
  have := List.length_filter_le p (List.range 6)
  simpa using this
theorem opR_len (R : List (List T7)) : ∀ u j, (opR R j u).length ≤ 6 * u.length
  | [], j => by simp [opR]
  | x :: u, j => by
    have := opR_len R u (j + 1)
    have h6 := filter_len6 (fun c => ment R j x ((c + 1 : Nat) : Int) && !kept x c)
    simp only [opR, opRow, List.length_append, List.length_map, List.length_cons]
    omega
theorem opR_pl (R : List (List T7)) : ∀ u j, ∀ e ∈ opR R j u, e.length = 2
  | [], j, e, he => by simp [opR] at he
  | x :: u, j, e, he => by
    simp only [opR, opRow, List.mem_append, List.mem_map] at he
    rcases he with ⟨c, _, rfl⟩ | he
    · rfl
    · exact opR_pl R u (j + 1) e he
theorem own_eq {l : List Int} (h : l.length ≤ 5) : S_spec_l1Own l = some ((l, ()), ()) := by
  unfold S_spec_l1Own p_spec_l1Own
  have : ((([] : List Int).length + l.length) * 8 ≤ 140737488355328) = True := by simp; omega
  simp only [this, decide_true, if_true, List.nil_append]
theorem clone_eq {l : List Int} (h : l.length ≤ 5) : S_Clone_Lint_int l = some ((l, ()), ()) := by
  unfold S_Clone_Lint_int p_Clone_Lint_int
  have : ((([] : List Int).length + l.length) * 8 ≤ 140737488355328) = True := by simp; omega
  simp only [this, decide_true, if_true, List.nil_append]
  cases l with
  | nil => simp [bothO]
  | cons a l => simp
theorem at_some {R : List (List T7)} (hR : GoodR R) {j : Nat} {x : List T7} (hx : R[j]? = some x) {c : Nat} (hc : c ≤ 6) : ∃ y : T7, S_spec_l4At ((R.length : Int), R, ()) (j : Int) ((c + 1 : Nat) : Int) = some ((y, ()), ()) ∧ (y.2.2.1 == (3 : Int)) = kept x c := by
  have hj : j < R.length := (List.getElem?_eq_some_iff.1 hx).1
  have hmem : x ∈ R := List.mem_of_getElem? hx
  have hrd : rd R (j : Int) [] = x := by rw [rd_nat]; simp [List.getD, hx]
  have h0 : (0 : Int) ≤ (j : Int) := by omega
  have hlt : ((j : Int) < (R.length : Int)) := by omega
  have h6 := hR.six x hmem
  have hw : IntKind.i64.wrap (((c + 1 : Nat) : Int) - 1) = (c : Int) := by rw [wrap_small (by omega) (by omega)]; omega
  unfold S_spec_l4At p_spec_l4At
  simp only [h0, hlt, decide_true, if_true, hrd, hw]
  by_cases hcx : c < x.length
  · have hg : x[c]? = some x[c] := List.getElem?_eq_getElem hcx
    have hrm : x[c] ∈ x := List.getElem_mem hcx
    have h1 : ¬ (((c + 1 : Nat) : Int) > (x.length : Int)) := by omega
    have h2 : (c : Int) < (x.length : Int) := by omega
    have hr2 : rd x (c : Int) Z7 = x[c] := by rw [rd_nat]; simp [List.getD, hg]
    simp only [h1, h2, decide_true, decide_false, if_true, if_false, Bool.false_eq_true, hr2, show (0 : Int) ≤ (c : Int) from by omega]
    unfold S_spec_l4OwnRow p_spec_l4OwnRow S_spec_l4OwnAttr p_spec_l4OwnAttr
    rw [own_eq (by rw [hR.len x hmem _ hrm]; exact hR.five)]
    exact ⟨_, rfl, by simp [kept, hg]⟩
  · have hg : x[c]? = none := List.getElem?_eq_none (by omega)
    have h1 : (((c + 1 : Nat) : Int) > (x.length : Int)) := by omega
    simp only [h1, decide_true, if_true]
    rw [spec_l3None_eq hR.grp]
    exact ⟨_, rfl, by simp [kept, hg]⟩
theorem row_some {R : List (List T7)} (hR : GoodR R) {j : Nat} {x : List T7} (hx : R[j]? = some x) {c : Nat} (hc : c ≤ 6) : ∃ y : T7, S_impl_Table_row ((R.length : Int), R, ()) (j : Int) ((c + 1 : Nat) : Int) = some ((y, ()), ()) ∧ (y.2.2.1 == (3 : Int)) = kept x c := by
  have hj : j < R.length := (List.getElem?_eq_some_iff.1 hx).1
  have hmem : x ∈ R := List.mem_of_getElem? hx
  have hrd : rd R (j : Int) [] = x := by rw [rd_nat]; simp [List.getD, hx]
  have h0 : (0 : Int) ≤ (j : Int) := by omega
  have hlt : ((j : Int) < (R.length : Int)) := by omega
  have h6 := hR.six x hmem
  have hw : IntKind.i64.wrap (((c + 1 : Nat) : Int) - 1) = (c : Int) := by rw [wrap_small (by omega) (by omega)]; omega
  unfold S_impl_Table_row p_impl_Table_row
  simp only [h0, hlt, decide_true, if_true, hrd, hw]
  by_cases hcx : c < x.length
  · have hg : x[c]? = some x[c] := List.getElem?_eq_getElem hcx
    have hrm : x[c] ∈ x := List.getElem_mem hcx
    have h1 : (((c + 1 : Nat) : Int) ≤ (x.length : Int)) := by omega
    have h2 : (c : Int) < (x.length : Int) := by omega
    have hr2 : rd x (c : Int) Z7 = x[c] := by rw [rd_nat]; simp [List.getD, hg]
    simp only [h1, h2, decide_true, if_true, hr2, show (0 : Int) ≤ (c : Int) from by omega]
    unfold S_impl_Row_copied p_impl_Row_copied S_impl_Attr_copied p_impl_Attr_copied
    rw [clone_eq (by rw [hR.len x hmem _ hrm]; exact hR.five)]
    exact ⟨_, rfl, by simp [kept, hg]⟩
  · have hg : x[c]? = none := List.getElem?_eq_none (by omega)
    have h1 : ¬ (((c + 1 : Nat) : Int) ≤ (x.length : Int)) := by omega
    simp only [h1, decide_false, if_false, Bool.false_eq_true]
    rw [impl_noneAttr_eq hR.grp]
    exact ⟨_, rfl, by simp [kept, hg]⟩
theorem filterO_eq {α : Type} {p : α → Option Bool} (q : α → Bool) : ∀ {xs : List α}, (∀ x ∈ xs, p x = some (q x)) → filterO p xs = some (xs.filter fun x => !q x)
  | [], _ => rfl
  | x :: xs, h => by
    unfold filterO
    rw [h x (by simp), filterO_eq q fun y hy => h y (by simp [hy])]
    cases hq : q x <;> simp [hq]
theorem range_at {m i b : Nat} {t : List Nat} (h : At (List.range m) i b t) : b = i ∧ i < m := by
  have hl := h.ltn
  have hg := h.get
  rw [List.length_range] at hl
  rw [List.getElem?_range hl] at hg
  exact ⟨(Option.some.inj hg).symm, hl⟩
theorem mentioned_eq {R : List (List T7)} (hR : GoodR R) : S_impl_Table_mentioned ((R.length : Int), R, ()) = some ((menR R 0 R, ()), ()) := by
  unfold S_impl_Table_mentioned
  refine lim_eq 7 fun N hN => ?_
  unfold p_impl_Table_mentioned
  have h5 := hR.five
  refine loopN_over R hR.max (fun j (s : List (List Int)) => (((R.length : Int), (j : Int), ()), (((R.length : Int), R, ()), ([] : List (List Int)), s, ()))) (fun j u s => ((s ++ menR R j u, ()), ())) (fun j u s => s.length ≤ 6 * j)
    [] rfl (by simp) (by simp) (by omega) (fun rec s h => ?_) (fun rec j x u s hat h hrec => ?_)
  · dsimp only
    simp [menR]
  · have hjlt := hat.ltn
    have hxm := hat.mem
    dsimp only
    simp only [hat.lt, decide_true, if_true]
    refine loopN_over (List.range 6) (by rw [maxLen_eq]; simp) (fun i (s : List (List Int)) => (((R.length : Int), (j : Int), ()), (((R.length : Int), R, ()), ([] : List (List Int)), s, ((j : Int), ()), (((i + 1 : Nat) : Int), ()), ())))
      (fun i v s => ((s ++ ((v.filter fun c => ment R j x ((c + 1 : Nat) : Int)).map (pl j)) ++ menR R (j + 1) u, ()), ())) (fun i v s => s.length ≤ 6 * j + i)
      s rfl (by simp [menR, menRow]) (by simpa using h) (by simp; omega) (fun rec2 s h => ?_) (fun rec2 i c v s hat2 h hrec2 => ?_)
    · have h7 : ¬ (((List.range 6).length + 1 : Nat) : Int) ≤ 6 := by simp
      dsimp only
      simp only [h7, decide_false, Bool.false_eq_true, if_false, hat.wrap, List.filter_nil, List.map_nil, List.append_nil]
      refine hrec s (by simp at h; omega)
    · obtain ⟨rfl, hi6⟩ := range_at hat2
      have h7 : (((c + 1 : Nat) : Int) ≤ 6) := by omega
      dsimp only
      simp only [h7, decide_true, if_true, hat.lt, hat.nn, hat.rd]
      refine loopN_over R hR.max (fun i (m : Bool) => ((R, (R.length : Int), (i : Int), (R.length : Int), (j : Int), ((c + 1 : Nat) : Int), true, ((c + 1 : Nat) : Int), R, (j : Int), x, (x.length : Int), decide (((c + 1 : Nat) : Int) ≤ (x.length : Int)), ()),
          (((R.length : Int), R, ()), ([] : List (List Int)), s, ((j : Int), ()), (((c + 1 : Nat) : Int), ()), (m, ()), ((R.length : Int), R, ()), ())))
        (fun i w m => ((s ++ (if m || w.any (fun y => y.any (rhit j ((c + 1 : Nat) : Int))) then [pl j c] else []) ++ ((v.filter fun c => ment R j x ((c + 1 : Nat) : Int)).map (pl j)) ++ menR R (j + 1) u, ()), ())) (fun i w m => True)
        (decide (((c + 1 : Nat) : Int) ≤ (x.length : Int))) rfl ?_ trivial (by omega) (fun rec3 m _ => ?_) (fun rec3 i y w m hat3 _ hrec3 => ?_)
      · simp only [List.filter_cons, ment]
        cases (decide (((c + 1 : Nat) : Int) ≤ (x.length : Int)) || R.any fun y => y.any (rhit j ((c + 1 : Nat) : Int))) <;> simp
      · dsimp only
        have hwr : IntKind.i64.wrap (((c + 1 : Nat) : Int) + 1) = ((c + 1 + 1 : Nat) : Int) := by rw [wrap_small (by omega) (by omega)]; omega
        have hcap : ((s.length + ([([(j : Int), ((c + 1 : Nat) : Int)] : List Int)] : List (List Int)).length) * 24 ≤ 140737488355328) = True := by simp; omega
        simp only [lenInt_lt_irrefl, decide_false, Bool.false_eq_true, if_false, hwr, hcap, decide_true, if_true, List.any_nil, Bool.or_false]
        cases m with
        | true =>
          simp only [if_true]
          exact hrec2 _ (by simp; omega)
        | false =>
          simp only [Bool.false_eq_true, if_false, List.append_nil]
          exact hrec2 _ (by omega)
      · have hy6 := hR.six y hat3.mem
        dsimp only
        simp only [hat3.lt, hat3.nn, hat3.rd, decide_true, if_true]
        refine loopN_over y (by rw [maxLen_eq]; omega) (fun k (m : Bool) => (((i : Int), R, (R.length : Int), (i : Int), y, (y.length : Int), (k : Int), (R.length : Int), (j : Int), ((c + 1 : Nat) : Int), true, ((c + 1 : Nat) : Int), R, (j : Int), x, (x.length : Int), decide (((c + 1 : Nat) : Int) ≤ (x.length : Int)), ()),
            (((R.length : Int), R, ()), ([] : List (List Int)), s, ((j : Int), ()), (((c + 1 : Nat) : Int), ()), (m, ()), ((R.length : Int), R, ()), ())))
          (fun k z m => ((s ++ (if m || z.any (rhit j ((c + 1 : Nat) : Int)) || w.any (fun y => y.any (rhit j ((c + 1 : Nat) : Int))) then [pl j c] else []) ++ ((v.filter fun c => ment R j x ((c + 1 : Nat) : Int)).map (pl j)) ++ menR R (j + 1) u, ()), ())) (fun k z m => True)
          m rfl ?_ trivial (by omega) (fun rec4 m _ => ?_) (fun rec4 k r z m hat4 _ hrec4 => ?_)
        · simp only [List.any_cons, Bool.or_assoc]; rfl
        · dsimp only
          simp only [lenInt_lt_irrefl, decide_false, Bool.false_eq_true, if_false, hat3.wrap, List.any_nil, Bool.or_false]
          exact hrec3 m trivial
        · have hrl := hR.len y hat3.mem r hat4.mem
          have hjl : (j : Int) < ((rlist r).length : Int) := by omega
          dsimp only
          simp only [hat4.lt, hat4.nn, hat4.wrap, hat4.rd, decide_true, if_true, List.any_cons]
          cases m with
          | true =>
            simp only [if_true, Bool.true_or]
            exact (hrec4 true trivial).trans (by simp)
          | false =>
            simp only [Bool.false_eq_true, if_false, Bool.false_or]
            cases hst : (r.2.2.1 == (3 : Int)) with
            | true =>
              simp only [if_true, hat.nn, hjl, decide_true]
              refine (hrec4 _ trivial).trans ?_
              simp only [rhit, hst, Bool.true_and, rd_nat]; rfl
            | false =>
              simp only [Bool.false_eq_true, if_false]
              refine (hrec4 _ trivial).trans ?_
              simp only [rhit, hst, Bool.false_and, Bool.false_or]
theorem menR_mem {R : List (List T7)} : ∀ (u : List (List T7)) (j : Nat), (∀ i x, u[i]? = some x → R[j + i]? = some x) → ∀ e ∈ menR R j u, ∃ (i c : Nat) (x : List T7), R[i]? = some x ∧ c < 6 ∧ e = pl i c
  | [], j, _, e, he => by simp [menR] at he
  | x :: u, j, h, e, he => by
    simp only [menR, menRow, List.mem_append, List.mem_map, List.mem_filter, List.mem_range] at he
    rcases he with ⟨c, ⟨hc, _⟩, rfl⟩ | he
    · exact ⟨j, c, x, by simpa using h 0 x rfl, hc, rfl⟩
    · exact menR_mem u (j + 1) (fun i y hy => by have := h (i + 1) y (by simpa using hy); rw [← this]; congr 1; omega) e he
def keptE (R : List (List T7)) (e : List Int) : Bool := kept (R.getD (e.getD 0 0).toNat []) ((e.getD 1 0).toNat - 1)
theorem menR_filter {R : List (List T7)} : ∀ (u : List (List T7)) (j : Nat), (∀ i x, u[i]? = some x → R[j + i]? = some x) → (menR R j u).filter (fun e => !keptE R e) = opR R j u
  | [], j, _ => rfl
  | x :: u, j, h => by
    have hx : R[j]? = some x := by simpa using h 0 x rfl
    simp only [menR, menRow, opR, opRow, List.filter_append, List.filter_map, List.filter_filter]
    congr 1
    · congr 1
      refine List.filter_congr fun c hc => ?_
      have : keptE R (pl j c) = kept x c := by
        unfold keptE pl
        have e1 : (((c + 1 : Nat) : Int)).toNat - 1 = c := by omega
        simp [List.getD, hx]
      simp only [Function.comp, this]
      rw [Bool.and_comm]
    · exact menR_filter u (j + 1) fun i y hy => by have := h (i + 1) y (by simpa using hy); rw [← this]; congr 1; omega
theorem open_eq {R : List (List T7)} (hR : GoodR R) : S_impl_Table_open ((R.length : Int), R, ()) = some ((opR R 0 R, ()), ()) := by
  unfold S_impl_Table_open p_impl_Table_open
  rw [mentioned_eq hR, Option.bind_some]
  dsimp only
  rw [filterO_eq (keptE R), menR_filter R 0 (fun i x h => by simpa using h)]
  · rfl
  · intro e he
    obtain ⟨i, c, x, hx, hc, rfl⟩ := menR_mem R 0 (fun i x h => by simpa using h) e he
    obtain ⟨y, hy, hk⟩ := row_some hR hx (c := c) (by omega)
    have e0 : rd (pl i c) 0 0 = (i : Int) := rfl
    have e1 : rd (pl i c) 1 0 = ((c + 1 : Nat) : Int) := rfl
    have el : (pl i c).length = 2 := rfl
    have hke : keptE R (pl i c) = kept x c := by
      unfold keptE pl
      simp [List.getD, hx]
    simp only [e0, e1, el, hy, Option.bind_some, hk, hke, Int.le_refl, decide_true, if_true, show (0 : Int) < (2 : Nat) from by decide, show (0 : Int) ≤ 1 from by decide, show (1 : Int) < (2 : Nat) from by decide]
def bump (M : List Int) (k : Nat) (x : Int) : List Int := M.set k (max (M.getD k 0) x)
def zipM (M : List Int) : Nat → List Int → List Int
  | _, [] => M
  | k, x :: w => zipM (bump M k x) (k + 1) w
def addRow (M : List Int) (r : T7) : List Int := if r.2.2.1 == (3 : Int) then zipM M 0 (rlist r) else M
def phR (M : List Int) : Nat → List (List T7) → List Int
  | _, [] => M
  | j, x :: u => phR (x.foldl addRow (bump M j (x.length : Int))) (j + 1) u
theorem bump_len (M : List Int) (k : Nat) (x : Int) : (bump M k x).length = M.length := by simp [bump]
theorem zipM_len : ∀ (w : List Int) (M : List Int) (k : Nat), (zipM M k w).length = M.length
  | [], M, k => rfl
  | x :: w, M, k => by rw [zipM, zipM_len w, bump_len]
theorem addRow_len (M : List Int) (r : T7) : (addRow M r).length = M.length := by
  unfold addRow; split
  · exact zipM_len _ _ _
  · rfl
theorem addRows_len : ∀ (x : List T7) (M : List Int), (x.foldl addRow M).length = M.length
  | [], M => rfl
  | r :: x, M => by rw [List.foldl_cons, addRows_len x, addRow_len]
theorem phR_len : ∀ (u : List (List T7)) (M : List Int) (j : Nat), (phR M j u).length = M.length
  | [], M, j => rfl
  | x :: u, M, j => by rw [phR, phR_len u, addRows_len, bump_len]
theorem bump_get (M : List Int) (k : Nat) (x : Int) (j : Nat) (hj : j < M.length) (c : Int) (hc : 1 ≤ c) : decide (c ≤ (bump M k x).getD j 0) = (decide (c ≤ M.getD j 0) || (decide (k = j) && decide (c ≤ x))) := by
  unfold bump
  by_cases e : k = j
  · subst e
    rw [show (M.set k (max (M.getD k 0) x)).getD k 0 = max (M.getD k 0) x by simp [List.getD, hj]]
    rw [Bool.eq_iff_iff]
    simp
    omega
  · rw [show (M.set k (max (M.getD k 0) x)).getD j 0 = M.getD j 0 by simp [List.getD, List.getElem?_set_ne e]]
    simp [e]
theorem zipM_get : ∀ (w : List Int) (M : List Int) (k j : Nat), j < M.length → ∀ c : Int, 1 ≤ c → decide (c ≤ (zipM M k w).getD j 0) = (decide (c ≤ M.getD j 0) || (decide (k ≤ j) && decide (c ≤ w.getD (j - k) 0)))
  | [], M, k, j, hj, c, hc => by
    have : ¬ c ≤ 0 := by omega
    simp [zipM, this]
  | x :: w, M, k, j, hj, c, hc => by
    rw [zipM, zipM_get w _ _ _ (by rw [bump_len]; exact hj) c hc, bump_get M k x j hj c hc, Bool.or_assoc]
    congr 1
    rcases Nat.lt_trichotomy k j with h | h | h
    · have e1 : ¬ k = j := by omega
      have e2 : k + 1 ≤ j := by omega
      have e3 : k ≤ j := by omega
      have e4 : j - k = (j - (k + 1)) + 1 := by omega
      simp [e1, e2, e3, e4]
    · subst h
      simp
      intro h; omega
    · have e1 : ¬ k = j := by omega
      have e2 : ¬ k + 1 ≤ j := by omega
      have e3 : ¬ k ≤ j := by omega
      simp [e1, e2, e3]
theorem addRow_get (r : T7) (M : List Int) (j : Nat) (hj : j < M.length) (c : Int) (hc : 1 ≤ c) : decide (c ≤ (addRow M r).getD j 0) = (decide (c ≤ M.getD j 0) || rhit j c r) := by
  unfold addRow rhit
  cases hst : (r.2.2.1 == (3 : Int)) with
  | true => simp only [if_true, Bool.true_and]; rw [zipM_get _ _ _ _ hj c hc]; simp
  | false => simp
theorem addRows_get : ∀ (x : List T7) (M : List Int) (j : Nat), j < M.length → ∀ c : Int, 1 ≤ c → decide (c ≤ (x.foldl addRow M).getD j 0) = (decide (c ≤ M.getD j 0) || x.any (rhit j c))
  | [], M, j, hj, c, hc => by simp
  | r :: x, M, j, hj, c, hc => by
    rw [List.foldl_cons, addRows_get x _ _ (by rw [addRow_len]; exact hj) c hc, addRow_get r M j hj c hc, List.any_cons, Bool.or_assoc]
theorem phR_get : ∀ (u : List (List T7)) (M : List Int) (k j : Nat), j < M.length → ∀ c : Int, 1 ≤ c →
    decide (c ≤ (phR M k u).getD j 0) = (decide (c ≤ M.getD j 0) || ((decide (k ≤ j) && decide (c ≤ ((u.getD (j - k) []).length : Int))) || u.any fun y => y.any (rhit j c)))
  | [], M, k, j, hj, c, hc => by
    have : ¬ c ≤ 0 := by omega
    simp [phR, this]
  | x :: u, M, k, j, hj, c, hc => by
    rw [phR, phR_get u _ _ _ (by rw [addRows_len, bump_len]; exact hj) c hc, addRows_get x _ _ (by rw [bump_len]; exact hj) c hc, bump_get M k _ j hj c hc, List.any_cons]
    generalize decide (c ≤ M.getD j 0) = A
    generalize x.any (rhit j c) = B
    generalize (u.any fun y => y.any (rhit j c)) = D
    rcases Nat.lt_trichotomy k j with h | h | h
    · have e1 : ¬ k = j := by omega
      have e2 : k + 1 ≤ j := by omega
      have e3 : k ≤ j := by omega
      have e4 : j - k = (j - (k + 1)) + 1 := by omega
      simp only [e1, e2, e3, e4, decide_true, decide_false, Bool.true_and, Bool.false_and, Bool.or_false, List.getD_cons_succ]
      cases A <;> cases B <;> cases D <;> simp
    · subst h
      have e2 : ¬ k + 1 ≤ k := by omega
      simp only [e2, Nat.le_refl, decide_true, decide_false, Bool.true_and, Bool.false_and, Nat.sub_self, List.getD_cons_zero]
      cases A <;> cases B <;> cases D <;> simp
    · have e1 : ¬ k = j := by omega
      have e2 : ¬ k + 1 ≤ j := by omega
      have e3 : ¬ k ≤ j := by omega
      simp only [e1, e2, e3, decide_false, Bool.false_and, Bool.or_false, Bool.false_or]
      cases A <;> cases B <;> cases D <;> rfl
def mostOf (R : List (List T7)) : List Int := phR (List.replicate R.length 0) 0 R
theorem mostOf_len (R : List (List T7)) : (mostOf R).length = R.length := by simp [mostOf, phR_len]
theorem mostOf_get {R : List (List T7)} {j : Nat} {x : List T7} (hx : R[j]? = some x) (c : Int) (hc : 1 ≤ c) : decide (c ≤ (mostOf R).getD j 0) = ment R j x c := by
  have hj : j < R.length := (List.getElem?_eq_some_iff.1 hx).1
  unfold mostOf ment
  rw [phR_get R _ 0 j (by simpa using hj) c hc]
  have : ¬ c ≤ 0 := by omega
  have hxe : R[j] = x := (List.getElem?_eq_some_iff.1 hx).2
  simp [List.getD, hj, this, hxe]
theorem mostOf_le {R : List (List T7)} (hR : GoodR R) {j : Nat} {x : List T7} (hx : R[j]? = some x) : (mostOf R).getD j 0 ≤ 6 := by
  have h7 := mostOf_get hx 7 (by decide)
  have : ment R j x 7 = false := by
    have hx6 := hR.six x (List.mem_of_getElem? hx)
    unfold ment
    rw [Bool.or_eq_false_iff]
    refine ⟨decide_eq_false (by omega), ?_⟩
    rw [List.any_eq_false]
    intro y hy
    rw [Bool.not_eq_true, List.any_eq_false]
    intro r hr
    rw [Bool.not_eq_true]
    unfold rhit
    have : ¬ (7 : Int) ≤ (rlist r).getD j 0 := by
      by_cases hj : j < (rlist r).length
      · rw [show (rlist r).getD j 0 = (rlist r)[j] by simp [List.getD, List.getElem?_eq_getElem hj]]
        have := (hR.val y hy r hr _ (List.getElem_mem hj)).2
        omega
      · rw [show (rlist r).getD j 0 = 0 by simp [List.getD, List.getElem?_eq_none (by omega : (rlist r).length ≤ j)]]
        omega
    rw [decide_eq_false this, Bool.and_false]
  rw [this] at h7
  have := of_decide_eq_false h7
  omega
def spRow (j : Nat) (m : Int) (x : List T7) : List (List Int) := ((List.range m.toNat).filter fun c => !kept x c).map (pl j)
def spR (M : List Int) : Nat → List (List T7) → List (List Int)
  | _, [] => []
  | j, x :: u => spRow j (M.getD j 0) x ++ spR M (j + 1) u
theorem range_cut (p : Nat → Bool) : ∀ {m n : Nat}, m ≤ n → (List.range n).filter (fun c => decide (c < m) && p c) = (List.range m).filter p := by
  intro m n h
  obtain ⟨k, rfl⟩ := Nat.exists_eq_add_of_le h
  rw [List.range_add, List.filter_append]
  have e1 : (List.range m).filter (fun c => decide (c < m) && p c) = (List.range m).filter p := List.filter_congr fun c hc => by simp [List.mem_range.1 hc]
  have e2 : ((List.range k).map (m + ·)).filter (fun c => decide (c < m) && p c) = [] := by
    rw [List.filter_eq_nil_iff]
    intro c hc
    obtain ⟨i, _, rfl⟩ := List.mem_map.1 hc
    simp
    intro h; omega
  rw [e1, e2, List.append_nil]
theorem spR_eq {R : List (List T7)} (hR : GoodR R) : ∀ (u : List (List T7)) (j : Nat), (∀ i x, u[i]? = some x → R[j + i]? = some x) → spR (mostOf R) j u = opR R j u
  | [], j, _ => rfl
  | x :: u, j, h => by
    have hx : R[j]? = some x := by simpa using h 0 x rfl
    simp only [spR, opR]
    congr 1
    · have h6 := mostOf_le hR hx
      unfold spRow opRow
      congr 1
      rw [← range_cut (fun c => !kept x c) (show ((mostOf R).getD j 0).toNat ≤ 6 by omega)]
      refine List.filter_congr fun c hc => ?_
      rw [← mostOf_get hx _ (by omega)]
      congr 1
      rw [Bool.eq_iff_iff]
      simp
      omega
    · exact spR_eq hR u (j + 1) fun i y hy => by have := h (i + 1) y (by simpa using hy); rw [← this]; congr 1; omega
theorem most_eq (a b : Int) : S_spec_l1Most a b = some ((max a b, ()), ()) := by
  unfold S_spec_l1Most p_spec_l1Most
  by_cases h : a > b
  · rw [decide_eq_true h, if_pos rfl]; simp only [Option.some.injEq, Prod.mk.injEq, and_true]; omega
  · rw [decide_eq_false h, if_neg (by simp)]; simp only [Option.some.injEq, Prod.mk.injEq, and_true]; omega
theorem zero_at {i : Nat} {b : Int} {t : List Int} (h : At [(0 : Int)] i b t) : i = 0 ∧ b = 0 ∧ t = [] := by
  have hl := h.ltn
  simp at hl
  subst hl
  have := h.drop
  simp at this
  exact ⟨rfl, this.1.symm, this.2⟩
theorem l10Open_eq {R : List (List T7)} (hR : GoodR R) {S : List T10} (hS : S.length = R.length) (hS0 : (rd S 0 Z10).2.1 = ((R.length : Int), R, ())) :
    S_spec_l10Open (S, [], [], ()) [0] = some ((opR R 0 R, ()), ()) := by
  rw [← spR_eq hR R 0 (fun i x h => by simpa using h)]
  unfold S_spec_l10Open
  refine lim_eq 7 fun N hN => ?_
  unfold p_spec_l10Open
  have h5 := hR.five
  have hpos : 0 < R.length := by have := hR.n; omega
  have hml := mostOf_len R
  have one : ([(0 : Int)] : List Int).length ≤ maxLen := by rw [maxLen_eq]; simp
  have hS0l : ((0 : Int) < (R.length : Int)) := by omega
  have hcap : ((R.length : Int) * 8 ≤ 140737488355328) := by omega
  dsimp only
  simp only [hS, beq_self_eq_true, hcap, show (0 : Int) ≤ (R.length : Int) from by omega, decide_true, if_true, Int.toNat_natCast]
  refine loopN_over [(0 : Int)] one (fun i (M : List Int) => (([0], (R.length : Int), [0], (([(0 : Int)] : List Int).length : Int), (i : Int), ()), ((S, [], [], ()), [], M, ()))) (fun _ _ _ => ((spR (mostOf R) 0 R, ()), ()))
    (fun i u M => (u = [0] → M = List.replicate R.length 0) ∧ (u = [] → M = mostOf R)) (List.replicate R.length 0) rfl rfl ⟨fun _ => rfl, by simp⟩ (by simp; omega) (fun rec M hM => ?_) (fun rec i b t M hat hM hrec => ?_)
  · obtain rfl := hM.2 rfl
    dsimp only
    simp only [lenInt_lt_irrefl, decide_false, Bool.false_eq_true, if_false]
    refine loopN_over R hR.max (fun j (s : List (List Int)) => (([0], (R.length : Int), (j : Int), ()), ((S, [], [], ()), [], mostOf R, s, ()))) (fun j u s => ((s ++ spR (mostOf R) j u, ()), ())) (fun j u s => s.length ≤ 6 * j)
      [] rfl (by simp) (by simp) (by omega) (fun rec s h => ?_) (fun rec j x u s hat h hrec => ?_)
    · dsimp only
      simp [spR]
    · have hx := hat.get
      have hjlt := hat.ltn
      have h6 := mostOf_le hR hx
      have hjm : (j : Int) < ((mostOf R).length : Int) := by omega
      have hrd : rd (mostOf R) (j : Int) 0 = (mostOf R).getD j 0 := rfl
      obtain ⟨m, hm⟩ : ∃ m, m = (mostOf R).getD j 0 := ⟨_, rfl⟩
      dsimp only
      simp only [hat.lt, decide_true, if_true]
      refine loopN_over (List.range m.toNat) (by rw [maxLen_eq]; simp; omega) (fun c (s : List (List Int)) => (([0], (R.length : Int), (j : Int), ((c + 1 : Nat) : Int), ()), ((S, [], [], ()), [], mostOf R, s, ())))
        (fun c v s => ((s ++ ((v.filter fun c => !kept x c).map (pl j)) ++ spR (mostOf R) (j + 1) u, ()), ())) (fun c v s => s.length ≤ 6 * j + c)
        s rfl (by simp only [spR, spRow, ← hm, List.append_assoc]) (by simpa using h) (by simp; omega) (fun rec2 s h => ?_) (fun rec2 c c' v s hat2 h hrec2 => ?_)
      · have h7 : ¬ (((List.range m.toNat).length + 1 : Nat) : Int) ≤ m := by simp; omega
        dsimp only
        simp only [hat.nn, hjm, hrd, ← hm, h7, decide_true, decide_false, Bool.false_eq_true, if_true, if_false, hat.wrap, List.filter_nil, List.map_nil, List.append_nil]
        refine hrec s (by simp at h; omega)
      · obtain ⟨rfl, hi6⟩ := range_at hat2
        have h7 : (((c' + 1 : Nat) : Int) ≤ m) := by omega
        have hwr : IntKind.i64.wrap (((c' + 1 : Nat) : Int) + 1) = ((c' + 1 + 1 : Nat) : Int) := by rw [wrap_small (by omega) (by omega)]; omega
        dsimp only
        simp only [hat.nn, hjm, hrd, ← hm, h7, decide_true, if_true]
        refine loopN_over [(0 : Int)] one (fun i (a : Bool) => (([0], (R.length : Int), (j : Int), ((c' + 1 : Nat) : Int), a, [0], (([(0 : Int)] : List Int).length : Int), (i : Int), ()), ((S, [], [], ()), [], mostOf R, s, ())))
          (fun _ _ _ => ((s ++ (if kept x c' then [] else [pl j c']) ++ ((v.filter fun c => !kept x c).map (pl j)) ++ spR (mostOf R) (j + 1) u, ()), ()))
          (fun i w a => (w = [0] → a = true) ∧ (w = [] → a = kept x c')) true rfl ?_ ⟨fun _ => rfl, by simp⟩ (by simp; omega) (fun rec3 a ha => ?_) (fun rec3 i b t a hat3 ha hrec3 => ?_)
        · rw [List.filter_cons]
          cases kept x c' <;> simp
        · obtain rfl := ha.2 rfl
          have hcap2 : ((s.length + ([([(j : Int), ((c' + 1 : Nat) : Int)] : List Int)] : List (List Int)).length) * 24 ≤ 140737488355328) = True := by simp; omega
          dsimp only
          simp only [lenInt_lt_irrefl, decide_false, Bool.false_eq_true, if_false, hwr, hcap2, decide_true, if_true]
          cases hk : kept x c' with
          | true =>
            simp only [Bool.not_true, Bool.false_eq_true, if_false, if_true, List.append_nil]
            exact hrec2 s (by omega)
          | false =>
            simp only [Bool.not_false, Bool.false_eq_true, if_false, if_true]
            exact hrec2 _ (by simp; omega)
        · obtain ⟨rfl, rfl, rfl⟩ := zero_at hat3
          obtain rfl := ha.1 rfl
          obtain ⟨y, hy, hk⟩ := at_some hR hx (c := c') (by omega)
          dsimp only
          simp only [hat3.lt, hat3.nn, hat3.rd, hat3.wrap, hS, hS0l, hS0, hy, hk, Option.bind_some, Int.le_refl, decide_true, if_true]
          exact hrec3 _ ⟨by simp, fun _ => rfl⟩
  · obtain ⟨rfl, rfl, rfl⟩ := zero_at hat
    obtain rfl := hM.1 rfl
    dsimp only
    simp only [hat.lt, hat.nn, hat.rd, hS, hS0l, hS0, Int.le_refl, decide_true, if_true]
    refine loopN_over R hR.max (fun j (M : List Int) => (([0], (R.length : Int), [0], (([(0 : Int)] : List Int).length : Int), ((0 : Nat) : Int), R, (R.length : Int), (j : Int), ()), ((S, [], [], ()), [], M, ((R.length : Int), R, ()), ()))) (fun _ _ _ => ((spR (mostOf R) 0 R, ()), ()))
      (fun j u M => phR M j u = mostOf R ∧ M.length = R.length) (List.replicate R.length 0) rfl rfl ⟨rfl, by simp⟩ (by omega) (fun rec3 M hM => ?_) (fun rec3 j x u M hat3 hM hrec3 => ?_)
    · dsimp only
      simp only [lenInt_lt_irrefl, decide_false, Bool.false_eq_true, if_false, hat.wrap]
      exact hrec M ⟨by simp, fun _ => hM.1⟩
    · have hjM : (j : Int) < (M.length : Int) := by have := hat3.ltn; omega
      have hx6 := hR.six x hat3.mem
      dsimp only
      simp only [hat3.lt, hat3.nn, hat3.rd, hjM, decide_true, if_true, most_eq, Option.bind_some, Int.toNat_natCast]
      refine loopN_over x (by rw [maxLen_eq]; omega) (fun k (M : List Int) => (([0], (R.length : Int), [0], (([(0 : Int)] : List Int).length : Int), ((0 : Nat) : Int), R, (R.length : Int), (j : Int), x, (x.length : Int), (k : Int), ()), ((S, [], [], ()), [], M, ((R.length : Int), R, ()), ()))) (fun _ _ _ => ((spR (mostOf R) 0 R, ()), ()))
        (fun k v M => phR (v.foldl addRow M) (j + 1) u = mostOf R ∧ M.length = R.length) (bump M j (x.length : Int)) rfl rfl ⟨hM.1, by rw [bump_len]; exact hM.2⟩ (by omega) (fun rec6 M hM => ?_) (fun rec6 k r v M hat6 hM hrec6 => ?_)
      · dsimp only
        simp only [lenInt_lt_irrefl, decide_false, Bool.false_eq_true, if_false, hat3.wrap]
        exact hrec3 M hM
      · have hrl := hR.len x hat3.mem r hat6.mem
        dsimp only
        simp only [hat6.lt, hat6.nn, hat6.rd, decide_true, if_true]
        refine loopN_over (rlist r) (by rw [maxLen_eq]; omega) (fun q (M : List Int) => (([0], (R.length : Int), [0], (([(0 : Int)] : List Int).length : Int), ((0 : Nat) : Int), R, (R.length : Int), (j : Int), x, (x.length : Int), (k : Int), rlist r, ((rlist r).length : Int), (q : Int), ()),
            ((S, [], [], ()), [], M, ((R.length : Int), R, ()), (r.1, r.2.1, r.2.2.1, r.2.2.2.1.1, r.2.2.2.1.2.1, r.2.2.2.1.2.2.1, r.2.2.2.1.2.2.2.1, r.2.2.2.1.2.2.2.2.1, r.2.2.2.2.1.1, r.2.2.2.2.1.2.1, ()), ()))) (fun _ _ _ => ((spR (mostOf R) 0 R, ()), ()))
          (fun q w M => phR (v.foldl addRow (if r.2.2.1 == (3 : Int) then zipM M q w else M)) (j + 1) u = mostOf R ∧ M.length = R.length) M rfl rfl hM (by omega) (fun rec8 M hM => ?_) (fun rec8 q b w M hat8 hM hrec8 => ?_)
        · dsimp only
          simp only [lenInt_lt_irrefl, decide_false, Bool.false_eq_true, if_false, hat6.wrap]
          refine hrec6 M ⟨?_, hM.2⟩
          have := hM.1
          simpa only [zipM, ite_self] using this
        · have hqM : (q : Int) < (M.length : Int) := by have := hat8.ltn; omega
          dsimp only
          simp only [hat8.lt, hat8.nn, hat8.rd, hat8.wrap, hqM, decide_true, if_true, most_eq, Option.bind_some, Int.toNat_natCast]
          cases hst : (r.2.2.1 == (3 : Int)) with
          | true =>
            simp only [if_true]
            refine hrec8 (bump M q b) ⟨?_, by rw [bump_len]; exact hM.2⟩
            have := hM.1
            rw [hst] at this
            rw [hst]
            exact this
          | false =>
            simp only [Bool.false_eq_true, if_false]
            refine hrec8 M ⟨?_, hM.2⟩
            have := hM.1
            rw [hst] at this
            rw [hst]
            exact this
def snap (R : List (List T7)) (i : Nat) : T10 := ((i : Int), ((R.length : Int), R, ()), [], ())
theorem l20Open_eq {R : List (List T7)} (hR : GoodR R) : S_spec_l20Open ((R.length : Int), R, ()) = some ((opR R 0 R, ()), ()) := by
  unfold S_spec_l20Open
  refine lim_eq 6 fun N hN => ?_
  unfold p_spec_l20Open
  have h5 := hR.five
  have hpos : 0 < R.length := by have := hR.n; omega
  refine loopN_over (List.range R.length) (by rw [maxLen_eq]; simp; omega) (fun i (s : List T10) => (((i : Int), ()), (((R.length : Int), R, ()), ([] : List (List Int)), (()), s, ()))) (fun _ _ _ => ((opR R 0 R, ()), ()))
    (fun i u s => s = (List.range i).map (snap R) ∧ i ≤ R.length) [] rfl rfl ⟨rfl, by omega⟩ (by simp; omega) (fun rec s h => ?_) (fun rec i b u s hat h hrec => ?_)
  · obtain ⟨rfl, _⟩ := h
    dsimp only
    simp only [List.length_range, lenInt_lt_irrefl, decide_false, Bool.false_eq_true, if_false]
    rw [l10Open_eq hR (by simp) ?_]
    · rfl
    · rw [show rd ((List.range R.length).map (snap R)) 0 Z10 = snap R 0 from ?_]
      · rfl
      · rw [show (0 : Int) = ((0 : Nat) : Int) from rfl, rd_nat]
        simp [List.getD, hpos]
  · obtain ⟨rfl, hi⟩ := range_at hat
    obtain ⟨rfl, _⟩ := h
    have hlt : (b : Int) < (R.length : Int) := by omega
    have hcap : ((((List.range b).map (snap R)).length + ([((b : Int), ((R.length : Int), R, ()), ([] : List T9), ())] : List T10).length) * 64 ≤ 140737488355328) = True := by simp; omega
    dsimp only
    simp only [hlt, hcap, decide_true, if_true, hat.wrap]
    exact hrec _ ⟨by rw [List.range_succ, List.map_append]; rfl, hi⟩
theorem cnt_row (r : T7) : Cnt.cnt r = (rlist r).length := by
  obtain ⟨a, b, c, ⟨d, e, f, g, h, ⟨⟩⟩, ⟨i, l, ⟨⟩⟩, ⟨⟩⟩ := r
  simp only [cnt_pair, cnt_int0, cnt_unit0, cnt_ints, rlist]
  omega
theorem u_RowS_le : ∀ l : List T7, u_RowS l ≤ 9 * (l.length + sumCnt Cnt.cnt l)
  | [] => by simp [u_RowS, sumCnt]
  | r :: l => by
    have := u_RowS_le l
    have e : u_RowS (r :: l) = ue_RowS r + u_RowS l := rfl
    have e2 : ue_RowS r = 9 + (rlist r).length := rfl
    simp only [sumCnt, List.length_cons, cnt_row]
    omega
theorem u_RowSS_le : ∀ l : List (List T7), u_RowSS l ≤ 9 * (l.length + sumCnt Cnt.cnt l)
  | [] => by simp [u_RowSS, sumCnt]
  | x :: l => by
    have := u_RowSS_le l
    have h := u_RowS_le x
    have e : u_RowSS (x :: l) = u_RowS x + u_RowSS l := rfl
    have e2 : Cnt.cnt x = x.length + sumCnt Cnt.cnt x := rfl
    simp only [sumCnt, List.length_cons]
    omega
noncomputable def ageOf (S : List (List Int)) (G : List Int) (e : List Int) : Int :=
  if idxI (fun x => same e x) S 0 ≥ 0 then (if (20 : Int) < rd G (idxI (fun x => same e x) S 0) 0 + 1 then 20 else rd G (idxI (fun x => same e x) S 0) 0 + 1) else 0
def waitV (n a b : Int) : Int := 3 + 2 * Int.tmod (a - b + n) n
noncomputable def turnOf (n a : Int) (S : List (List Int)) (G : List Int) (e : List Int) : Bool := decide (ageOf S G e > 0) && (Int.tmod (ageOf S G e) (waitV n a (rd e 0 0)) == 0)
theorem idxI_lt {β : Type} (q : β → Bool) : ∀ (l : List β) (i : Int), 0 ≤ i → idxI q l i ≥ 0 → idxI q l i < i + (l.length : Int)
  | [], i, h, h' => by simp [idxI] at h'
  | b :: t, i, h, h' => by
    unfold idxI at h' ⊢
    cases hb : q b with
    | true => simp; omega
    | false =>
      rw [hb] at h'
      simp only [Bool.false_eq_true, if_false] at h' ⊢
      have := idxI_lt q t (i + 1) (by omega) h'
      simp only [List.length_cons]
      omega
theorem waitV_ok {n a b : Int} (hn : grp n = true) (ha : 0 ≤ a ∧ a < n) (hb : 0 ≤ b ∧ b < n) : 3 ≤ waitV n a b ∧ waitV n a b ≤ 11 := by
  rw [grp_iff] at hn
  unfold waitV
  have h0 : 0 ≤ a - b + n := by omega
  rw [Int.tmod_eq_emod_of_nonneg h0]
  have h1 := Int.emod_nonneg (a - b + n) (show n ≠ 0 by omega)
  have h2 := Int.emod_lt_of_pos (a - b + n) (show 0 < n by omega)
  omega
theorem wait_eq {n a b : Int} (hn : grp n = true) (ha : 0 ≤ a ∧ a < n) (hb : 0 ≤ b ∧ b < n) : S_spec_l20Wait n a b = some ((waitV n a b, ()), ()) ∧ S_impl_waitOf n a b = some ((waitV n a b, ()), ()) := by
  have hn' := hn
  rw [grp_iff] at hn'
  have h0 : (n == 0) = false := by simp; omega
  have hw := waitV_ok hn ha hb
  have e1 : IntKind.i64.wrap (a - b) = a - b := wrap_small (by omega) (by omega)
  have e2 : IntKind.i64.wrap (a - b + n) = a - b + n := wrap_small (by omega) (by omega)
  unfold waitV at hw
  have e3 : IntKind.i64.wrap (2 * Int.tmod (a - b + n) n) = 2 * Int.tmod (a - b + n) n := wrap_small (by omega) (by omega)
  have e4 : IntKind.i64.wrap (3 + 2 * Int.tmod (a - b + n) n) = waitV n a b := by rw [wrap_small (by omega) (by omega)]; rfl
  unfold S_spec_l20Wait p_spec_l20Wait S_impl_waitOf p_impl_waitOf
  simp only [h0, Bool.false_eq_true, if_false, e1, e2, e3, e4]
  exact ⟨trivial, trivial⟩
theorem find_eq {S : List (List Int)} {e : List Int} (hS : WL.wl S) (he : e.length ≤ maxLen) : S_spec_l6Find S e = some ((idxI (fun x => same e x) S 0, ()), ()) := by
  unfold S_spec_l6Find
  refine lim_eq (S.length + 1) fun N hN => ?_
  unfold p_spec_l6Find
  refine loopN_over S hS.1 (fun i (s : Unit) => ((e, S, (S.length : Int), (i : Int), ()), ())) (fun i t s => ((idxI (fun x => same e x) t (i : Int), ()), ())) (fun _ _ _ => True) () rfl rfl trivial hN (fun rec s h => ?_) (fun rec i b t s hat h hrec => ?_)
  · dsimp only
    simp [idxI]
  · dsimp only
    simp only [hat.lt, hat.nn, hat.wrap, hat.rd, decide_true, if_true, spec_l1Same_eq e b he (wl_mem hS hat.mem).1, Option.bind_some, idxI]
    by_cases hs : same e b = true
    · simp [hs]
    · simp only [hs, Bool.false_eq_true, if_false]; exact (hrec () trivial).trans (by simp)
theorem opR_mem {R : List (List T7)} : ∀ (u : List (List T7)) (j : Nat), ∀ e ∈ opR R j u, ∃ i c, i < j + u.length ∧ e = pl i c
  | [], j, e, he => by simp [opR] at he
  | x :: u, j, e, he => by
    simp only [opR, opRow, List.mem_append, List.mem_map] at he
    rcases he with ⟨c, _, rfl⟩ | he
    · exact ⟨j, c, by simp, rfl⟩
    · obtain ⟨i, c, hi, h⟩ := opR_mem u (j + 1) e he
      exact ⟨i, c, by simp only [List.length_cons]; omega, h⟩
structure GoodW (n a : Int) (S : List (List Int)) (G : List Int) : Prop where
  grp : grp n = true
  who : 0 ≤ a ∧ a < n
  wl : WL.wl S
  len : G.length = S.length
  val : ∀ b ∈ G, 0 ≤ b ∧ b ≤ 20
theorem GoodW.at {n a : Int} {S : List (List Int)} {G : List Int} (h : GoodW n a S G) {q : List Int → Bool} (hk : idxI q S 0 ≥ 0) : idxI q S 0 < (G.length : Int) ∧ 0 ≤ rd G (idxI q S 0) 0 ∧ rd G (idxI q S 0) 0 ≤ 20 := by
  have h1 := idxI_lt q S 0 (by omega) hk
  have h2 : idxI q S 0 < (G.length : Int) := by rw [h.len]; omega
  have h3 := h.val _ (List.mem_of_getElem? (rd_get (d := 0) hk h2))
  exact ⟨h2, h3⟩
theorem tick_step {α : Type} (O : List α) {i : Nat} {e : α} {u : List α} (h : At O i e u) : O.take (i + 1) = O.take i ++ [e] := by
  rw [List.take_add_one, h.get]; rfl
theorem l20Tick_eq {R : List (List T7)} (hR : GoodR R) {a : Int} {S : List (List Int)} {G : List Int} (hW : GoodW (R.length : Int) a S G) :
    S_spec_l20Tick (a, (R.length : Int), S, G, ()) ((R.length : Int), R, ()) = some (((a, (R.length : Int), opR R 0 R, (opR R 0 R).map (ageOf S G), ()), (opR R 0 R).filter (turnOf (R.length : Int) a S G), ()), ()) := by
  unfold S_spec_l20Tick
  have h5 := hR.five
  have hl := opR_len R R 0
  have hm := opR_mem (R := R) R 0
  refine lim_eq ((opR R 0 R).length + 1) fun N hN => ?_
  unfold p_spec_l20Tick
  rw [l20Open_eq hR, Option.bind_some]
  generalize opR R 0 R = O at hl hm hN ⊢
  dsimp only
  refine loopN_over O (by rw [maxLen_eq]; omega) (fun i (s : List (List Int) × List (List Int) × List Int) => (((O.length : Int), (i : Int), ()), ((a, (R.length : Int), S, G, ()), ((R.length : Int), R, ()), ((0 : Int), (0 : Int), ()), ([] : List (List Int)), (a, (R.length : Int), ()), s.1, O, s.2.1, s.2.2, ())))
    (fun _ _ _ => (((a, (R.length : Int), O, O.map (ageOf S G), ()), O.filter (turnOf (R.length : Int) a S G), ()), ())) (fun i u s => s = ((O.take i).filter (turnOf (R.length : Int) a S G), O.take i, (O.take i).map (ageOf S G)) ∧ i ≤ O.length)
    ([], [], []) rfl rfl ⟨by simp, by omega⟩ hN (fun rec s h => ?_) (fun rec i e u s hat h hrec => ?_)
  · obtain ⟨rfl, _⟩ := h
    dsimp only
    simp only [lenInt_lt_irrefl, decide_false, Bool.false_eq_true, if_false, List.take_length]
  · obtain ⟨rfl, hi⟩ := h
    have hil := hat.ltn
    obtain ⟨j, c, hj, rfl⟩ := hm e hat.mem
    have hf := find_eq (e := pl j c) hW.wl (by rw [maxLen_eq]; simp [pl])
    have hwt := wait_eq hW.grp hW.who (b := (j : Int)) ⟨by omega, by omega⟩
    have hwv := waitV_ok hW.grp hW.who (b := (j : Int)) ⟨by omega, by omega⟩
    have r0 : rd (pl j c) 0 0 = (j : Int) := rfl
    have r1 : rd (pl j c) 1 0 = ((c + 1 : Nat) : Int) := rfl
    have rl : (pl j c).length = 2 := rfl
    have rp : ([(j : Int), ((c + 1 : Nat) : Int)] : List Int) = pl j c := rfl
    have cap1 : ((O.take i).length + ([pl j c] : List (List Int)).length) * 24 ≤ 140737488355328 := by simp; omega
    have cap2 : ∀ v : Int, (((O.take i).map (ageOf S G)).length + ([v] : List Int).length) * 8 ≤ 140737488355328 := fun v => by simp; omega
    have cap3 : (((O.take i).filter (turnOf (R.length : Int) a S G)).length + ([pl j c] : List (List Int)).length) * 24 ≤ 140737488355328 := by
      have := List.length_filter_le (turnOf (R.length : Int) a S G) (O.take i)
      simp at this ⊢; omega
    have hw0 : (waitV (R.length : Int) a (j : Int) == 0) = false := by simp; omega
    have fin : ∀ v : Int, ageOf S G (pl j c) = v → ∀ T, T = (O.take i).filter (turnOf (R.length : Int) a S G) ++ (if decide (v > 0) && (Int.tmod v (waitV (R.length : Int) a (j : Int)) == 0) then [pl j c] else []) →
        rec ((((O.length : Int), ((i + 1 : Nat) : Int), ()), ((a, (R.length : Int), S, G, ()), ((R.length : Int), R, ()), ((0 : Int), (0 : Int), ()), ([] : List (List Int)), (a, (R.length : Int), ()), T, O, O.take i ++ [pl j c], (O.take i).map (ageOf S G) ++ [v], ()))) = some (((a, (R.length : Int), O, O.map (ageOf S G), ()), O.filter (turnOf (R.length : Int) a S G), ()), ()) := by
      rintro v rfl T rfl
      refine hrec (_, _, _) ⟨?_, by omega⟩
      rw [tick_step O hat, List.filter_append, List.map_append]
      have : turnOf (R.length : Int) a S G (pl j c) = (decide (ageOf S G (pl j c) > 0) && (Int.tmod (ageOf S G (pl j c)) (waitV (R.length : Int) a (j : Int)) == 0)) := rfl
      simp only [List.filter_cons, List.filter_nil, List.map_cons, List.map_nil, this]
    dsimp only
    simp only [hat.lt, hat.nn, hat.rd, hat.wrap, decide_true, if_true, hf, Option.bind_some]
    by_cases hk : idxI (fun x => same (pl j c) x) S 0 ≥ 0
    · obtain ⟨k1, k2, k3⟩ := hW.at hk
      have hk' : 0 ≤ idxI (fun x => same (pl j c) x) S 0 := hk
      have hage : ageOf S G (pl j c) = (if (20 : Int) < rd G (idxI (fun x => same (pl j c) x) S 0) 0 + 1 then 20 else rd G (idxI (fun x => same (pl j c) x) S 0) 0 + 1) := by unfold ageOf; rw [if_pos hk]
      have hleast : ∀ x y : Int, S_spec_l1Least x y = some ((if x < y then x else y, ()), ()) := fun x y => by
        unfold S_spec_l1Least p_spec_l1Least
        by_cases h : x < y <;> simp [h]
      rw [decide_eq_true hk, if_pos rfl, wrap_small (n := rd G (idxI (fun x => same (pl j c) x) S 0) 0 + 1) (by omega) (by omega)]
      simp only [hk', k1, decide_true, if_true, hleast, Option.bind_some, ← hage, r0, r1, rl, rp, cap1, cap2, cap3, hwt.1, hw0, Int.le_refl, show (0 : Int) < ((2 : Nat) : Int) from by decide, show (1 : Int) < ((2 : Nat) : Int) from by decide, show (0 : Int) ≤ 1 from by decide, Bool.false_eq_true, if_false]
      cases hp : decide (ageOf S G (pl j c) > 0) with
      | false =>
        simp only [Bool.false_eq_true, if_false]
        exact fin _ rfl _ (by simp [hp])
      | true =>
        simp only [if_true]
        cases ht : (Int.tmod (ageOf S G (pl j c)) (waitV (R.length : Int) a (j : Int)) == 0) with
        | true => simp only [if_true]; exact fin _ rfl _ (by simp [hp, ht])
        | false => simp only [Bool.false_eq_true, if_false]; exact fin _ rfl _ (by simp [hp, ht])
    · have hage : ageOf S G (pl j c) = 0 := by unfold ageOf; rw [if_neg hk]
      rw [decide_eq_false hk]
      simp only [Bool.false_eq_true, if_false, r0, r1, rl, rp, cap1, cap2, decide_true, if_true, Int.le_refl, show (0 : Int) < ((2 : Nat) : Int) from by decide, show (1 : Int) < ((2 : Nat) : Int) from by decide, show (0 : Int) ≤ 1 from by decide, show ((0 : Int) > 0) = False from by simp, decide_false]
      exact fin 0 hage _ (by simp)
theorem marks_Watch2 (x : WatchT) (k : Int) (hl : WL.wl x) (h0 : 0 < k) (hk : k + ((sumCnt List.length x.2.2.1 + x.2.2.2.1.length : Nat) : Int) ≤ 4611686018427387904) :
    ∃ (s : List (List Int)) (g : List Int), S_laws_markWatch x k = some ((k + ((sumCnt List.length x.2.2.1 + x.2.2.2.1.length : Nat) : Int), ()), ((x.1, x.2.1, s, g, ()), ())) ∧ S_laws_heldWatch (x.1, x.2.1, s, g, ()) k = some ((k + ((sumCnt List.length x.2.2.1 + x.2.2.2.1.length : Nat) : Int), ()), ()) := by
  unfold S_laws_markWatch S_laws_heldWatch p_laws_markWatch p_laws_heldWatch
  obtain ⟨x1, a1, b1⟩ := marks_IntSS x.2.2.1 k hl.2.2.1 h0 (by omega)
  obtain ⟨x2, a2, b2⟩ := marks_IntS x.2.2.2.1 (k + (sumCnt List.length x.2.2.1 : Int)) hl.2.2.2.1 (by omega) (by omega)
  have e : k + (sumCnt List.length x.2.2.1 : Int) + (x.2.2.2.1.length : Int) = k + ((sumCnt List.length x.2.2.1 + x.2.2.2.1.length : Nat) : Int) := by omega
  refine ⟨x1, x2, by simp only [a1, Option.bind_some, a2, e], ?_⟩
  simp only [b1, Option.bind_some]
  rw [held_then (by omega)]
  simp only [b2, Option.bind_some]
  rw [held_then (by omega), e]
theorem sz_TableS : SzOk S_laws_szTableS := fun x k h0 h1 hl => lim_eq (x.length + 1) fun N hN => sz_list sz_Table _ x k h0 h1 hl hN
theorem to_TableS : ToOk S_laws_toTableS := fun x h => lim_eq (x.length + 1) fun N hN => to_list to_Table _ 32 (by omega) x h hN
theorem eq_IntSSS : EqOk S_laws_eqIntSSS := fun a b ha hb => lim_eq (a.length + 1) fun N hN => eq_list eq_IntSS _ a b ha hb hN
theorem eq_TableS : EqOk S_laws_eqTableS := fun a b ha hb => lim_eq (a.length + 1) fun N hN => eq_list eq_Table _ a b ha hb hN
def ue_TableS (b : T8) : Nat := 1 + u_RowSS b.2.1
def u_TableS (l : List (T8)) : Nat := sumCnt ue_TableS l
noncomputable def e_TableS (k : Int) (b : T8) : T8 := (k, M_RowSS (k + 1) (b.2.1), ())
noncomputable def M_TableS : Int → List (T8) → List (T8)
  | _, [] => []
  | k, b :: t => e_TableS k b :: M_TableS (k + (ue_TableS b : Int)) t
theorem mark_TableS {l : List (T8)} {k : Int} (hl : WL.wl l) (h0 : 0 < k) (hk : k + (u_TableS l : Int) ≤ 4611686018427387904) : S_laws_markTableS l k = some ((k + (u_TableS l : Int), ()), (M_TableS k l, ())) := by
  unfold S_laws_markTableS
  refine lim_eq (l.length + 1) fun N hN => ?_
  unfold p_laws_markTableS
  refine loopN_mut l hl.1 (fun i xs (s : Int) => ((s, (i : Int), ()), (xs, ()))) (fun dn t s => ((s + (u_TableS t : Int), ()), (dn ++ M_TableS s t, ()))) (fun dn t s => 0 < s ∧ s + (u_TableS t : Int) ≤ 4611686018427387904 ∧ ∀ x ∈ t, WL.wl x)
    k rfl rfl ⟨h0, hk, hl.2⟩ hN (fun rec dn s hd hs => ?_) (fun rec dn b t s hat hs hrec => ?_)
  · dsimp only
    simp [M_TableS, u_TableS, sumCnt]
  · obtain ⟨h1, h2, h3⟩ := hs
    have hu : (u_TableS (b :: t) : Int) = (ue_TableS b : Int) + (u_TableS t : Int) := by simp only [u_TableS, sumCnt]; omega
    have hb : (ue_TableS b : Int) = 1 + (u_RowSS b.2.1 : Int) := by simp only [ue_TableS]; omega
    rw [hu, hb] at h2
    have c0 := mark_RowSS (l := b.2.1) (k := s + 1) ((h3 b (by simp)).2.1) (by omega) (by omega)
    have w0 : IntKind.i64.wrap (s + 1) = s + 1 := wrap_small (by omega) (by omega)
    dsimp only
    simp only [lt_mid, nn_mid, decide_true, if_true, Int.toNat_natCast, set_mid, rd_mid, hat.wrap, w0, c0]
    rw [Option.bind_some]
    simp only [lt_mid, nn_mid, decide_true, if_true, Int.toNat_natCast, set_mid, rd_mid, w0, c0]
    rw [Option.bind_some]
    simp only [lt_mid, nn_mid, decide_true, if_true, Int.toNat_natCast, set_mid, rd_mid, w0, c0]
    refine (hrec (e_TableS s b) (s + 1 + (u_RowSS b.2.1 : Int)) ⟨by omega, by omega, fun x hx => h3 x (by simp [hx])⟩).trans ?_
    have hk' : s + 1 + (u_RowSS b.2.1 : Int) = s + (ue_TableS b : Int) := by omega
    simp only [M_TableS, List.append_assoc, List.singleton_append, Option.some.injEq, Prod.mk.injEq, and_true, hk']
    omega
theorem marks_IntSSS : Marks S_laws_markIntSSS S_laws_heldIntSSS (sumCnt (sumCnt List.length)) :=
  fun x k hl h0 hk => ⟨mlist S_laws_markIntSS k x, lim_eq (x.length + 1) fun N hN => mark_list marks_IntSS.ok [] x k h0 hl hk hN, lim_eq (x.length + 1) fun N hN => held_list marks_IntSS [] x k h0 hl hk hN⟩
def tickO (t : T8) : List (List Int) := opR t.2.1 0 t.2.1
noncomputable def playW (n a : Int) : List T8 → List (List Int) → List Int → List (List (List Int)) → (List (List Int) × List Int) × List (List (List Int))
  | [], S, G, out => ((S, G), out)
  | t :: u, S, G, out => playW n a u (tickO t) ((tickO t).map (ageOf S G)) (out ++ [(tickO t).filter (turnOf n a S G)])
noncomputable def fitsT (n : Int) (t : T8) : Bool := tableOk t && !(t.1 != n)
def noW : (T0 × List (List (List Int)) × Bool × Unit) × Unit := (((0, 0, [], [], ()), [], false, ()), ())
noncomputable def playR (n a : Int) (u : List T8) (S : List (List Int)) (G : List Int) (out : List (List (List Int))) : (T0 × List (List (List Int)) × Bool × Unit) × Unit :=
  if u.all (fitsT n) then (((a, n, (playW n a u S G out).1.1, (playW n a u S G out).1.2, ()), (playW n a u S G out).2, true, ()), ()) else noW
noncomputable def playRes (n a : Int) (l : List T8) : (T0 × List (List (List Int)) × Bool × Unit) × Unit :=
  if grp n && inn a 0 (n - 1) then (if l.length ≤ 60 then playR n a l [] [] [] else noW) else noW
theorem fitsT_ok {n : Int} {t : T8} (h : fitsT n t = true) : t = ((t.2.1.length : Int), t.2.1, ()) ∧ GoodR t.2.1 ∧ (t.2.1.length : Int) = n := by
  unfold fitsT at h
  simp only [Bool.and_eq_true] at h
  obtain ⟨e, hR⟩ := goodR_of h.1
  refine ⟨e, hR, ?_⟩
  have h2 : t.1 = n := by simpa using h.2
  rw [← h2, e]
theorem ageOf_in {n a : Int} {S : List (List Int)} {G : List Int} (h : GoodW n a S G) (e : List Int) : 0 ≤ ageOf S G e ∧ ageOf S G e ≤ 20 := by
  unfold ageOf
  split
  · rename_i hk
    obtain ⟨_, h2, h3⟩ := h.at hk
    split <;> omega
  · omega
theorem tickO_len {t : T8} (hR : GoodR t.2.1) : (tickO t).length ≤ 30 := by
  have := opR_len t.2.1 t.2.1 0
  have := hR.five
  unfold tickO
  omega
theorem tickO_wl {t : T8} (hR : GoodR t.2.1) : WL.wl (tickO t) :=
  ⟨by have := tickO_len hR; rw [maxLen_eq]; omega, fun e he => ⟨by rw [opR_pl t.2.1 t.2.1 0 e he, maxLen_eq]; omega, fun _ _ => trivial⟩⟩
theorem GoodW.tick {n a : Int} {S : List (List Int)} {G : List Int} (h : GoodW n a S G) {t : T8} (hR : GoodR t.2.1) : GoodW n a (tickO t) ((tickO t).map (ageOf S G)) :=
  ⟨h.grp, h.who, tickO_wl hR, by rw [List.length_map], fun b hb => by
    obtain ⟨e, _, rfl⟩ := List.mem_map.1 hb
    exact ageOf_in h e⟩
theorem newW (n a : Int) : S_spec_NewWatch n a = some (if grp n && inn a 0 (n - 1) then (((a, n, [], [], ()), true, ()), ()) else (((0, 0, [], [], ()), false, ()), ())) := by
  unfold S_spec_NewWatch p_spec_NewWatch
  rw [spec_IsGroup_eq, Option.bind_some]
  cases hg : grp n with
  | false => rfl
  | true =>
    rw [grp_wrap hg, spec_l1In_eq, Option.bind_some]
    cases inn a 0 (n - 1) <;> rfl
theorem spec_PlayWatch_eq (n a : Int) (l : List T8) (hl : WL.wl l) : S_spec_PlayWatch n a l = some (playRes n a l) := by
  unfold S_spec_PlayWatch
  refine lim_eq (l.length + 1) fun N hN => ?_
  unfold p_spec_PlayWatch playRes
  rw [newW, Option.bind_some]
  cases hc : grp n && inn a 0 (n - 1) with
  | false => rfl
  | true =>
    simp only [Bool.and_eq_true] at hc
    have hi := inn_iff.1 hc.2
    rw [if_pos rfl, if_pos rfl]
    dsimp only
    rw [if_neg (by simp)]
    by_cases h60 : l.length ≤ 60
    · rw [if_neg (by simp only [decide_eq_true_eq]; omega), if_pos h60]
      refine loopN_over l hl.1 (fun i (s : (List (List Int) × List Int) × List (List (List Int))) => ((n, l, (l.length : Int), (i : Int), ()), ((0, 0, ()), ([] : List (List (List Int))), s.1.1, s.1.2, (a, n, ()), s.2, ()))) (fun i u s => playR n a u s.1.1 s.1.2 s.2) (fun i u s => GoodW n a s.1.1 s.1.2 ∧ s.2.length = i ∧ ∀ t ∈ u, WL.wl t)
        (([], []), []) rfl rfl ⟨⟨hc.1, by omega, ⟨by simp, by simp⟩, rfl, by simp⟩, rfl, hl.2⟩ hN (fun rec s h => ?_) (fun rec i t u s hat h hrec => ?_)
      · dsimp only
        simp only [lenInt_lt_irrefl, decide_false, Bool.false_eq_true, if_false]
        rfl
      · obtain ⟨hW, hlen, hw⟩ := h
        have hil := hat.ltn
        dsimp only
        simp only [hat.lt, hat.nn, hat.rd, hat.wrap, decide_true, if_true, spec_GoodTable_eq t (hw t (by simp)), Option.bind_some]
        unfold playR
        cases hg : tableOk t with
        | false =>
          have : (t :: u).all (fitsT n) = false := by simp [fitsT, hg]
          rw [this]
          rfl
        | true =>
          cases hn : (t.1 != n) with
          | true =>
            have : (t :: u).all (fitsT n) = false := by simp [fitsT, hn]
            rw [this]
            rfl
          | false =>
            have hf : fitsT n t = true := by unfold fitsT; rw [hg, hn]; rfl
            obtain ⟨e, hR, hn2⟩ := fitsT_ok hf
            rw [if_neg (by simp), if_neg (by simp)]
            have ht := l20Tick_eq hR (a := a) (S := s.1.1) (G := s.1.2) (by rw [hn2]; exact hW)
            rw [hn2] at ht
            have e2 : t = (n, t.2.1, ()) := by rw [← hn2]; exact e
            rw [show S_spec_l20Tick (a, n, s.1.1, s.1.2, ()) t = S_spec_l20Tick (a, n, s.1.1, s.1.2, ()) (n, t.2.1, ()) from congrArg _ e2, ht, Option.bind_some]
            dsimp only
            rw [if_pos (decide_eq_true (by rw [hlen, List.length_singleton]; omega))]
            refine (hrec ((_, _), _) ⟨hW.tick hR, by rw [List.length_append, List.length_singleton, hlen], fun x hx => hw x (by simp [hx])⟩).trans ?_
            have hall : (t :: u).all (fitsT n) = u.all (fitsT n) := by rw [List.all_cons, hf]; rfl
            rw [hall]
            rfl
    · rw [if_pos (by simp only [decide_eq_true_eq]; omega), if_neg h60]
      rfl
theorem contains_Table_eq {l : List T8} {p : (T8 × Unit) → Option Bool} (q : T8 → Bool) (hl : l.length ≤ maxLen) (hp : ∀ x ∈ l, p (x, ()) = some (q x)) : S_ContainsFunc_Limpl_Table_impl_Table l p = some ((l.any q, ()), ()) := by
  unfold S_ContainsFunc_Limpl_Table_impl_Table p_ContainsFunc_Limpl_Table_impl_Table
  have : S_IndexFunc_Limpl_Table_impl_Table l p = some ((idxI q l 0, ()), ()) := lim_eq (l.length + 1) fun N hN => index_gen _ l hl p q hp hN
  rw [this]
  simp only [Option.bind_some, idxI_any q l 0 (Int.le_refl 0)]
theorem any_fits (n : Int) (l : List T8) : l.any (fun t => !fitsT n t) = !l.all (fitsT n) := by
  induction l with
  | nil => rfl
  | cons t u ih => rw [List.any_cons, List.all_cons, ih]; cases fitsT n t <;> rfl
theorem impl_PlayWatch_eq (n a : Int) (l : List T8) (hl : WL.wl l) : S_impl_PlayWatch n a l = some (playRes n a l) := by
  unfold S_impl_PlayWatch
  refine lim_eq (l.length + 31) fun N hN => ?_
  unfold p_impl_PlayWatch playRes
  rw [← new_Watch, newW, Option.bind_some]
  cases hc : grp n && inn a 0 (n - 1) with
  | false => rfl
  | true =>
    simp only [Bool.and_eq_true] at hc
    have hi := inn_iff.1 hc.2
    rw [if_pos rfl, if_pos rfl]
    dsimp only
    rw [if_neg (by simp)]
    by_cases h60 : l.length ≤ 60
    · rw [if_neg (by simp only [decide_eq_true_eq]; omega), if_pos h60]
      rw [contains_Table_eq (fun t => !fitsT n t) hl.1 (fun t ht => by
        dsimp only
        rw [impl_GoodTable_eq t (wl_mem hl ht)]
        unfold fitsT
        cases tableOk t <;> simp), Option.bind_some, any_fits]
      dsimp only
      cases hall : l.all (fitsT n) with
      | false =>
        rw [if_pos (show (!false) = true from rfl)]
        unfold playR
        rw [hall]
        rfl
      | true =>
        rw [if_neg (by simp)]
        refine loopN_over l hl.1 (fun i (s : (List (List Int) × List Int) × List (List (List Int))) => ((l, (l.length : Int), (i : Int), ()), ((n, ()), (0, 0, ()), ([] : List (List (List Int))), s.1.1, s.1.2, (a, n, ()), s.2, ()))) (fun i u s => (((a, n, (playW n a u s.1.1 s.1.2 s.2).1.1, (playW n a u s.1.1 s.1.2 s.2).1.2, ()), (playW n a u s.1.1 s.1.2 s.2).2, true, ()), ())) (fun i u s => GoodW n a s.1.1 s.1.2 ∧ s.2.length = i ∧ u.all (fitsT n) = true)
          (([], []), []) rfl (by unfold playR; rw [hall]; rfl) ⟨⟨hc.1, by omega, ⟨by simp, by simp⟩, rfl, by simp⟩, rfl, hall⟩ (by omega) (fun rec s h => ?_) (fun rec i t u s hat h hrec => ?_)
        · dsimp only
          simp only [lenInt_lt_irrefl, decide_false, Bool.false_eq_true, if_false]
          rfl
        · obtain ⟨hW, hlen, hfu⟩ := h
          have hil := hat.ltn
          rw [List.all_cons, Bool.and_eq_true] at hfu
          obtain ⟨e, hR, hn2⟩ := fitsT_ok hfu.1
          obtain ⟨⟨S, G⟩, out⟩ := s
          dsimp only at hW hlen
          have hop : S_impl_Table_open t = some ((tickO t, ()), ()) := by
            rw [e]
            exact open_eq hR
          dsimp only
          simp only [hat.lt, hat.nn, hat.rd, decide_true, if_true]
          rw [hop, Option.bind_some]
          dsimp only
          have hO30 := tickO_len hR
          have hm : ∀ e ∈ tickO t, ∃ j c, j < t.2.1.length ∧ e = pl j c := fun e he => by
            obtain ⟨j, c, h1, h2⟩ := opR_mem (R := t.2.1) t.2.1 0 e he
            exact ⟨j, c, by omega, h2⟩
          have hfinal : playW n a (t :: u) S G out = playW n a u (tickO t) ((tickO t).map (ageOf S G)) (out ++ [(tickO t).filter (turnOf n a S G)]) := rfl
          rw [hfinal]
          have hrec' := hrec ((tickO t, (tickO t).map (ageOf S G)), out ++ [(tickO t).filter (turnOf n a S G)]) ⟨hW.tick hR, by rw [List.length_append, List.length_singleton, hlen], hfu.2⟩
          dsimp only at hrec'
          generalize tickO t = O at hO30 hm hrec' ⊢
          generalize hV : playW n a u O (O.map (ageOf S G)) (out ++ [O.filter (turnOf n a S G)]) = V at hrec' ⊢
          clear hV
          refine loopN_over O (by rw [maxLen_eq]; omega) (fun j (s : List Int × List (List Int)) => (((O.length : Int), (j : Int), l, (l.length : Int), (i : Int), true, ()), ((n, ()), (0, 0, ()), ([] : List (List (List Int))), S, G, (a, n, ()), out, (t.1, t.2.1, ()), (t.1, t.2.1, ()), ([] : List (List Int)), O, s.1, s.2, ())))
            (fun _ _ _ => (((a, n, V.1.1, V.1.2, ()), V.2, true, ()), ())) (fun j u s => s = ((O.take j).map (ageOf S G), (O.take j).filter (turnOf n a S G)) ∧ j ≤ O.length)
            ([], []) rfl rfl ⟨by simp, by omega⟩ (by omega) (fun rec2 s h => ?_) (fun rec2 j e u2 s hat2 h hrec2 => ?_)
          · obtain ⟨rfl, _⟩ := h
            dsimp only
            simp only [lenInt_lt_irrefl, decide_false, Bool.false_eq_true, if_false, List.take_length]
            rw [if_pos (decide_eq_true (by rw [hlen, List.length_singleton]; omega)), hat.wrap]
            exact hrec'
          · obtain ⟨rfl, hj⟩ := h
            have hil2 := hat2.ltn
            obtain ⟨k, c, hk5, rfl⟩ := hm e hat2.mem
            have hpl : (pl k c).length ≤ maxLen := by rw [maxLen_eq]; simp [pl]
            have hf := IndexFunc_LLint_eq (l := S) (p := fun (x6 : (List Int × Unit)) => (((S_Equal_Lint_int (pl k c) x6.1).bind fun y7 => (some ((y7.1.1, ()), ())))).bind fun y8 => some y8.1.1) (fun x => same (pl k c) x) hW.wl.1 (fun x hxS => by
              dsimp only
              rw [Equal_Lint_eq _ _ hpl (wl_mem hW.wl hxS).1]; rfl)
            have hcl := clone_eq (l := pl k c) (by simp [pl])
            have hwt := wait_eq hW.grp hW.who (b := (k : Int)) ⟨by omega, by omega⟩
            have hwv := waitV_ok hW.grp hW.who (b := (k : Int)) ⟨by omega, by omega⟩
            have r0 : rd (pl k c) 0 0 = (k : Int) := rfl
            have rl : (pl k c).length = 2 := rfl
            have cap2 : ∀ v : Int, (((O.take j).map (ageOf S G)).length + ([v] : List Int).length) * 8 ≤ 140737488355328 := fun v => by simp; omega
            have cap3 : (((O.take j).filter (turnOf n a S G)).length + ([pl k c] : List (List Int)).length) * 24 ≤ 140737488355328 := by
              have := List.length_filter_le (turnOf n a S G) (O.take j)
              simp at this ⊢; omega
            have hw0 : (waitV n a (k : Int) == 0) = false := by simp; omega
            have fin : ∀ v : Int, ageOf S G (pl k c) = v → ∀ T, T = (O.take j).filter (turnOf n a S G) ++ (if decide (v > 0) && (Int.tmod v (waitV n a (k : Int)) == 0) then [pl k c] else []) →
                rec2 (((O.length : Int), ((j + 1 : Nat) : Int), l, (l.length : Int), (i : Int), true, ()), ((n, ()), (0, 0, ()), ([] : List (List (List Int))), S, G, (a, n, ()), out, (t.1, t.2.1, ()), (t.1, t.2.1, ()), ([] : List (List Int)), O, (O.take j).map (ageOf S G) ++ [v], T, ())) = some (((a, n, V.1.1, V.1.2, ()), V.2, true, ()), ()) := by
              rintro v rfl T rfl
              refine hrec2 (_, _) ⟨?_, by omega⟩
              rw [tick_step O hat2, List.filter_append, List.map_append]
              have : turnOf n a S G (pl k c) = (decide (ageOf S G (pl k c) > 0) && (Int.tmod (ageOf S G (pl k c)) (waitV n a (k : Int)) == 0)) := rfl
              simp only [List.filter_cons, List.filter_nil, List.map_cons, List.map_nil, this]
            dsimp only
            simp only [hat2.lt, hat2.nn, hat2.rd, hat2.wrap, decide_true, if_true, hf, Option.bind_some]
            by_cases hk : idxI (fun x => same (pl k c) x) S 0 ≥ 0
            · obtain ⟨k1, k2, k3⟩ := hW.at hk
              have hk' : 0 ≤ idxI (fun x => same (pl k c) x) S 0 := hk
              have hage : ageOf S G (pl k c) = (if (20 : Int) < rd G (idxI (fun x => same (pl k c) x) S 0) 0 + 1 then 20 else rd G (idxI (fun x => same (pl k c) x) S 0) 0 + 1) := by unfold ageOf; rw [if_pos hk]
              rw [decide_eq_true hk, if_pos rfl, wrap_small (n := rd G (idxI (fun x => same (pl k c) x) S 0) 0 + 1) (by omega) (by omega)]
              simp only [hk', k1, decide_true, if_true, Option.bind_some, ← hage, r0, rl, cap2, cap3, hwt.2, hw0, hcl, Int.le_refl, show (0 : Int) < ((2 : Nat) : Int) from by decide, Bool.false_eq_true, if_false]
              cases hp : decide (ageOf S G (pl k c) > 0) with
              | false =>
                simp only [Bool.false_eq_true, if_false]
                exact fin _ rfl _ (by simp [hp])
              | true =>
                simp only [if_true]
                cases htm : (Int.tmod (ageOf S G (pl k c)) (waitV n a (k : Int)) == 0) with
                | true => simp only [if_true]; exact fin _ rfl _ (by simp [hp, htm])
                | false => simp only [Bool.false_eq_true, if_false]; exact fin _ rfl _ (by simp [hp, htm])
            · have hage : ageOf S G (pl k c) = 0 := by unfold ageOf; rw [if_neg hk]
              rw [decide_eq_false hk]
              simp only [Bool.false_eq_true, if_false, cap2, decide_true, if_true, show ((0 : Int) > 0) = False from by simp, decide_false]
              exact fin 0 hage _ (by simp)
    · rw [if_pos (by simp only [decide_eq_true_eq]; omega), if_neg h60]
      rfl
theorem u_TableS_le : ∀ l : List T8, u_TableS l ≤ 10 * (l.length + sumCnt Cnt.cnt l)
  | [] => by simp [u_TableS, sumCnt]
  | t :: u => by
    have h1 := u_RowSS_le t.2.1
    have h2 := u_TableS_le u
    have e : Cnt.cnt t = t.2.1.length + sumCnt Cnt.cnt t.2.1 := by
      obtain ⟨a, R, ⟨⟩⟩ := t
      simp only [cnt_pair, cnt_int0, cnt_unit0]
      show 0 + (Cnt.cnt R + 0) = _
      show 0 + ((R.length + sumCnt Cnt.cnt R) + 0) = _
      omega
    have e2 : u_TableS (t :: u) = (1 + u_RowSS t.2.1) + u_TableS u := rfl
    have e3 : sumCnt Cnt.cnt (t :: u) = Cnt.cnt t + sumCnt Cnt.cnt u := rfl
    rw [e2, e3, e, List.length_cons]
    omega
def smallO (x : List (List Int)) : Prop := x.length ≤ 30 ∧ ∀ e ∈ x, e.length = 2
theorem smallO.wl {x : List (List Int)} (h : smallO x) : WL.wl x := ⟨by have := h.1; rw [maxLen_eq]; omega, fun e he => ⟨by rw [h.2 e he, maxLen_eq]; omega, fun _ _ => trivial⟩⟩
theorem smallO.sum {x : List (List Int)} (h : smallO x) : sumCnt List.length x ≤ 60 := by have := h.1; rw [sum_two h.2]; omega
theorem tickO_small {t : T8} (hR : GoodR t.2.1) : smallO (tickO t) := ⟨tickO_len hR, opR_pl t.2.1 t.2.1 0⟩
theorem playW_small {n a : Int} : ∀ (u : List T8) (S : List (List Int)) (G : List Int) (out : List (List (List Int))), u.all (fitsT n) = true → smallO S → G.length ≤ 30 → (∀ x ∈ out, smallO x) →
    smallO (playW n a u S G out).1.1 ∧ (playW n a u S G out).1.2.length ≤ 30 ∧ (playW n a u S G out).2.length = out.length + u.length ∧ ∀ x ∈ (playW n a u S G out).2, smallO x
  | [], S, G, out, _, h1, h2, h3 => ⟨h1, h2, rfl, h3⟩
  | t :: u, S, G, out, hf, h1, h2, h3 => by
    rw [List.all_cons, Bool.and_eq_true] at hf
    obtain ⟨_, hR, _⟩ := fitsT_ok hf.1
    have hs := tickO_small hR
    obtain ⟨q1, q2, q3, q4⟩ := playW_small (n := n) (a := a) u (tickO t) ((tickO t).map (ageOf S G)) (out ++ [(tickO t).filter (turnOf n a S G)]) hf.2 hs (by rw [List.length_map]; exact hs.1) (fun x hx => by
      rcases List.mem_append.1 hx with hx | hx
      · exact h3 x hx
      · rw [List.mem_singleton] at hx
        rw [hx]
        have := List.length_filter_le (turnOf n a S G) (tickO t)
        have := hs.1
        exact ⟨by omega, fun e he => hs.2 e (List.mem_filter.1 he).1⟩)
    refine ⟨q1, q2, ?_, q4⟩
    rw [show playW n a (t :: u) S G out = playW n a u (tickO t) ((tickO t).map (ageOf S G)) (out ++ [(tickO t).filter (turnOf n a S G)]) from rfl, q3, List.length_append, List.length_singleton, List.length_cons]
    omega
theorem sum_small : ∀ (h : List (List (List Int))), (∀ x ∈ h, smallO x) → sumCnt (sumCnt List.length) h ≤ 60 * h.length
  | [], _ => by simp [sumCnt]
  | x :: r, h => by
    have h1 := (h x (by simp)).sum
    have h2 := sum_small r fun y hy => h y (by simp [hy])
    rw [show sumCnt (sumCnt List.length) (x :: r) = sumCnt List.length x + sumCnt (sumCnt List.length) r from rfl, List.length_cons]
    omega
theorem law_PlayWatch (n a : Int) (l : List T8) (hl : WL.wl l) (N : Nat) : p_laws_FnExactPlayWatch N n a l = some ((true, ()), ()) := by
  unfold p_laws_FnExactPlayWatch
  rw [sz_TableS _ _ (by omega) (by omega) hl]
  refine sz_over (by omega) rfl fun hn r1 hr => ?_
  have hc : Cnt.cnt l ≤ 1048576 := Int.ofNat_le.1 hn
  obtain ⟨w, h, ok, hww, hwh, hsw, hsh, e1, e2⟩ : ∃ (w : WatchT) (h : List (List (List Int))) (ok : Bool), WL.wl w ∧ WL.wl h ∧ sumCnt List.length w.2.2.1 + w.2.2.2.1.length ≤ 200 ∧ sumCnt (sumCnt List.length) h ≤ 3600 ∧ S_impl_PlayWatch n a l = some ((w, h, ok, ()), ()) ∧ S_spec_PlayWatch n a l = some ((w, h, ok, ()), ()) := by
    rw [impl_PlayWatch_eq n a l hl, spec_PlayWatch_eq n a l hl]
    have none : ∃ (w : WatchT) (h : List (List (List Int))) (ok : Bool), WL.wl w ∧ WL.wl h ∧ sumCnt List.length w.2.2.1 + w.2.2.2.1.length ≤ 200 ∧ sumCnt (sumCnt List.length) h ≤ 3600 ∧ some noW = some ((w, h, ok, ()), ()) ∧ some noW = some ((w, h, ok, ()), ()) :=
      ⟨_, [], false, ⟨trivial, trivial, ⟨by simp, by simp⟩, ⟨by simp, by simp⟩, trivial⟩, ⟨by simp, by simp⟩, by simp [sumCnt], by simp [sumCnt], rfl, rfl⟩
    unfold playRes
    split
    · split
      · rename_i h60
        unfold playR
        split
        · rename_i hf
          obtain ⟨q1, q2, q3, q4⟩ := playW_small (n := n) (a := a) l [] [] [] hf ⟨by simp, by simp⟩ (by simp) (by simp)
          generalize playW n a l [] [] [] = V at q1 q2 q3 q4 ⊢
          rw [List.length_nil, Nat.zero_add] at q3
          have := q1.sum
          have hs := sum_small V.2 q4
          exact ⟨(a, n, V.1.1, V.1.2, ()), V.2, true, ⟨trivial, trivial, q1.wl, ⟨by show V.1.2.length ≤ maxLen; rw [maxLen_eq]; omega, fun _ _ => trivial⟩, trivial⟩, ⟨by rw [maxLen_eq]; omega, fun x hx => (q4 x hx).wl⟩, by dsimp only; omega, by omega, rfl, rfl⟩
        · exact none
      · exact none
    · exact none
  have hu := u_TableS_le l
  have hc2 : l.length + sumCnt Cnt.cnt l ≤ 1048576 := hc
  have m6 := mark_TableS (l := l) (k := 1) hl (by omega) (by omega)
  obtain ⟨s2, g2, m2, m3⟩ := marks_Watch2 w 1 hww (by omega) (by omega)
  generalize hkw : (1 : Int) + ((sumCnt List.length w.2.2.1 + w.2.2.2.1.length : Nat) : Int) = kw at m2 m3
  obtain ⟨h', m4, m5⟩ := marks_IntSSS h kw hwh (by omega) (by omega)
  have p1 : decide ((1 : Int) + (u_TableS l : Int) < 0) = false := decide_eq_false (by omega)
  have p2 : decide (kw < 0) = false := decide_eq_false (by omega)
  have p3 : decide (kw + (sumCnt (sumCnt List.length) h : Int) < 0) = false := decide_eq_false (by omega)
  simp only [hr, to_TableS l hc, Option.bind_some, e1, e2, eq_Watch w w hww hww, eq_TableS l l hl hl, eq_IntSSS h h hwh hwh, same_self, m2, m3, m4, m5, m6, p1, p2, p3, bne_self_eq_false, Bool.not_true, Bool.false_eq_true, if_false]
end Go.AM.P
