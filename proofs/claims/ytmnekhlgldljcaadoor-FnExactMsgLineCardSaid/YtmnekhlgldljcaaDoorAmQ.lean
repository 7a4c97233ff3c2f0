/- Lemmas on what functions do to data. No condition. -/
import Derived.Test.YtmnekhlgldljcaaDoorAmP
set_option linter.unusedVariables false
set_option linter.unusedSimpArgs false
set_option maxRecDepth 4000
namespace Go.AM.P
open Go.AM Go.Lib

/-- lists no longer than lists are -/
class WL (α : Type) where
  wl : α → Prop
instance : WL Int := ⟨fun _ => True⟩
instance : WL Bool := ⟨fun _ => True⟩
instance : WL Unit := ⟨fun _ => True⟩
instance : WL ByteArray := ⟨fun s => s.size ≤ maxLen⟩
instance {α β : Type} [WL α] [WL β] : WL (α × β) := ⟨fun x => WL.wl x.1 ∧ WL.wl x.2⟩
instance {α : Type} [WL α] : WL (List α) := ⟨fun l => l.length ≤ maxLen ∧ ∀ x ∈ l, WL.wl x⟩
theorem wl_mem {α : Type} [WL α] {l : List α} (h : WL.wl l) {x : α} (hx : x ∈ l) : WL.wl x := h.2 x hx
class Cnt (α : Type) where
  cnt : α → Nat
instance : Cnt Int := ⟨fun _ => 0⟩
instance : Cnt Bool := ⟨fun _ => 0⟩
instance : Cnt Unit := ⟨fun _ => 0⟩
instance : Cnt ByteArray := ⟨fun s => s.size⟩
instance {α β : Type} [Cnt α] [Cnt β] : Cnt (α × β) := ⟨fun x => Cnt.cnt x.1 + Cnt.cnt x.2⟩
def sumCnt {α : Type} (f : α → Nat) : List α → Nat
  | [] => 0
  | x :: r => f x + sumCnt f r
instance {α : Type} [Cnt α] : Cnt (List α) := ⟨fun l => l.length + sumCnt Cnt.cnt l⟩
theorem le_sumCnt {α : Type} (f : α → Nat) {l : List α} {x : α} (h : x ∈ l) : f x ≤ sumCnt f l := by
  induction l with
  | nil => cases h
  | cons y r ih =>
    simp only [sumCnt]
    rcases List.mem_cons.1 h with rfl | h
    · omega
    · have := ih h; omega
theorem cnt_list {α : Type} [Cnt α] (l : List α) : Cnt.cnt l = l.length + sumCnt Cnt.cnt l := rfl
theorem cnt_pair {α β : Type} [Cnt α] [Cnt β] (x : α × β) : Cnt.cnt x = Cnt.cnt x.1 + Cnt.cnt x.2 := rfl
theorem sumCnt_int (l : List Int) : sumCnt Cnt.cnt l = 0 := by
  induction l with
  | nil => rfl
  | cons x r ih => simp only [sumCnt, ih]; rfl
theorem cnt_ints (l : List Int) : Cnt.cnt l = l.length := by rw [cnt_list, sumCnt_int, Nat.add_zero]
/-- what the laws' counting says -/
def szV (n : Nat) (k : Int) : Int := if (n : Int) ≤ k then k - n else -1
def szRes (n : Nat) (k : Int) : Option ((Int × Unit) × Unit) := some ((szV n k, ()), ())
theorem szV_pos {n : Nat} {k : Int} (h : (n : Int) ≤ k) : szV n k = k - n := if_pos h
theorem szV_neg {n : Nat} {k : Int} (h : ¬ (n : Int) ≤ k) : szV n k = -1 := if_neg h
def SzOk {α : Type} [Cnt α] [WL α] (f : α → Int → Option ((Int × Unit) × Unit)) : Prop :=
  ∀ (x : α) (k : Int), 0 ≤ k → k ≤ 1048576 → WL.wl x → f x k = szRes (Cnt.cnt x) k
theorem sz_head {n : Nat} {k : Int} (hn : n ≤ maxLen) (h0 : 0 ≤ k) (h1 : k ≤ 1048576) : IntKind.i64.wrap (k - (n : Int)) = k - n := by
  rw [maxLen_eq] at hn
  exact wrap_small (by omega) (by omega)
theorem sz_IntS : SzOk S_laws_szIntS := fun x k h0 h1 hl => by
  unfold S_laws_szIntS p_laws_szIntS
  rw [sz_head hl.1 h0 h1, szRes, cnt_ints]
  by_cases hk : k - (x.length : Int) < 0
  · simp only [hk, decide_true, if_true]
    rw [szV_neg (by omega)]
  · simp only [hk, decide_false, Bool.false_eq_true, if_false]
    rw [szV_pos (by omega)]
/-- of no more than was counted -/
def ToOk {α : Type} [Cnt α] (f : α → Option ((α × Unit) × Unit)) : Prop := ∀ x : α, Cnt.cnt x ≤ 1048576 → f x = some ((x, ()), ())
theorem set_rep {β : Type} (xs : List β) (n : Nat) (z c : β) (i : Nat) (h : xs.length = i) : (xs ++ List.replicate (n + 1) z).set i c = (xs ++ [c]) ++ List.replicate n z := by
  subst h
  rw [List.replicate_succ]
  simp
theorem to_list {α : Type} [Cnt α] {f : α → Option ((α × Unit) × Unit)} (hf : ToOk f) (z : α) (w : Nat) (hw : w ≤ 1000) (l : List α) (hl : Cnt.cnt l ≤ 1048576) {N : Nat} (hN : l.length < N) :
    (if (decide ((0 : Int) ≤ (l.length : Int))) then (if ((l.length : Int) == (l.length : Int)) then (if (decide ((l.length : Int) * w ≤ 140737488355328)) then (loopN N (fun rec1 (d2 : (List α × Int × Unit) × (List α × List α × Unit)) => (if (decide (d2.1.2.1 < (d2.1.1.length : Int))) then (if (decide (0 ≤ d2.1.2.1)) then (if (decide (d2.1.2.1 < d2.1.1.length)) then ((f (rd d2.1.1 d2.1.2.1 z)).bind fun y3 => (if (decide (0 ≤ d2.1.2.1)) then (if (decide (d2.1.2.1 < d2.2.2.1.length)) then (rec1 ((d2.1.1, (IntKind.i64.wrap (d2.1.2.1 + (1 : Int))), ()), (d2.2.1, (d2.2.2.1.set d2.1.2.1.toNat y3.1.1), ()))) else none) else none)) else none) else none) else (some ((d2.2.2.1, ()), ())))) ((l, (0 : Int), ()), (([] : List α), (List.replicate (l.length : Int).toNat z), ()))) else none) else none) else none)
    = some ((l, ()), ()) := by
  rw [cnt_list] at hl
  have h1 : (0 : Int) ≤ (l.length : Int) := by omega
  have h2 : (l.length : Int) * w ≤ 140737488355328 := by
    have : (l.length : Int) * w ≤ 1048576 * 1000 := Int.mul_le_mul (by omega) (by omega) (by omega) (by omega)
    omega
  simp only [h1, h2, decide_true, if_true, beq_self_eq_true, Int.toNat_natCast]
  refine loopN_over l (by rw [maxLen_eq]; omega) (fun i (s : List α) => ((l, (i : Int), ()), ([], s ++ List.replicate (l.length - i) z, ()))) (fun i t s => ((s ++ t, ()), ())) (fun i t s => s.length = i)
    [] rfl rfl rfl hN (fun rec s h => ?_) (fun rec i b t s hat h hrec => ?_)
  · dsimp only
    simp [h]
  · have hlt := hat.ltn
    obtain ⟨m, hm⟩ : ∃ m, l.length - i = m + 1 := ⟨l.length - i - 1, by omega⟩
    dsimp only
    rw [hm]
    have hb : Cnt.cnt b ≤ 1048576 := by have := le_sumCnt Cnt.cnt hat.mem; omega
    have h5 : (i : Int) < ((s ++ List.replicate (m + 1) z).length : Int) := by simp [h]; omega
    simp only [hat.lt, hat.nn, hat.wrap, hat.rd, decide_true, if_true, hf b hb, Option.bind_some, h5, Int.toNat_natCast, set_rep s m z b i h]
    have := hrec (s ++ [b]) (by simp [h])
    rw [show l.length - (i + 1) = m by omega] at this
    exact this.trans (by simp)
theorem to_list0 {α : Type} [Cnt α] (z : α) (w : Nat) (hw : w ≤ 1000) (l : List α) (hl : Cnt.cnt l ≤ 1048576) {N : Nat} (hN : l.length < N) :
    (if (decide ((0 : Int) ≤ (l.length : Int))) then (if ((l.length : Int) == (l.length : Int)) then (if (decide ((l.length : Int) * w ≤ 140737488355328)) then (loopN N (fun rec1 (d2 : (List α × Int × Unit) × (List α × List α × Unit)) => (if (decide (d2.1.2.1 < (d2.1.1.length : Int))) then (if (decide (0 ≤ d2.1.2.1)) then (if (decide (d2.1.2.1 < d2.1.1.length)) then (if (decide (0 ≤ d2.1.2.1)) then (if (decide (d2.1.2.1 < d2.2.2.1.length)) then (rec1 ((d2.1.1, (IntKind.i64.wrap (d2.1.2.1 + (1 : Int))), ()), (d2.2.1, (d2.2.2.1.set d2.1.2.1.toNat (rd d2.1.1 d2.1.2.1 z)), ()))) else none) else none) else none) else none) else (some ((d2.2.2.1, ()), ())))) ((l, (0 : Int), ()), (([] : List α), (List.replicate (l.length : Int).toNat z), ()))) else none) else none) else none)
    = some ((l, ()), ()) := to_list (f := fun x => some ((x, ()), ())) (fun x _ => rfl) z w hw l hl hN
theorem to_IntS : ToOk S_laws_toIntS := fun x h => lim_eq (x.length + 1) fun N hN => to_list0 0 8 (by omega) x h hN
open Classical in
/-- are they the same? -/
noncomputable def same {α : Type} (a b : α) : Bool := decide (a = b)
theorem same_iff {α : Type} {a b : α} : same a b = true ↔ a = b := by simp [same]
theorem same_self {α : Type} (a : α) : same a a = true := same_iff.2 rfl
theorem same_cons {α : Type} (a b : α) (s t : List α) : same (a :: s) (b :: t) = (same a b && same s t) := by
  rw [Bool.eq_iff_iff]; simp [same_iff]
theorem same_pair {α β : Type} (a b : α × β) : same a b = (same a.1 b.1 && same a.2 b.2) := by
  rw [Bool.eq_iff_iff]; simp [same_iff, Prod.ext_iff]
theorem same_unit (a b : Unit) : same a b = true := same_iff.2 rfl
theorem same_bne (a b : Int) : (a != b) = !same a b := by
  by_cases h : a = b
  · subst h; simp [same_self]
  · have : same a b = false := by rw [Bool.eq_false_iff]; intro h2; exact h (same_iff.1 h2)
    simp [this, h]
def EqOk {α : Type} [WL α] (f : α → α → Option ((Bool × Unit) × Unit)) : Prop := ∀ a b : α, WL.wl a → WL.wl b → f a b = some ((same a b, ()), ())
theorem eq_list {α : Type} [WL α] {f : α → α → Option ((Bool × Unit) × Unit)} (hf : EqOk f) (z : α) (l m : List α) (hl : WL.wl l) (hm : WL.wl m) {N : Nat} (hN : l.length < N) :
    (if ((l.length : Int) != (m.length : Int)) then (some ((false, ()), ())) else (loopN N (fun rec1 (d2 : (List α × List α × Int × Unit) × (Unit)) => (if (decide (d2.1.2.2.1 < (d2.1.1.length : Int))) then (if (decide (0 ≤ d2.1.2.2.1)) then (if (decide (d2.1.2.2.1 < d2.1.1.length)) then (if (decide (0 ≤ d2.1.2.2.1)) then (if (decide (d2.1.2.2.1 < d2.1.2.1.length)) then ((f (rd d2.1.1 d2.1.2.2.1 z) (rd d2.1.2.1 d2.1.2.2.1 z)).bind fun y3 => (if (!y3.1.1) then (some ((false, ()), ())) else (rec1 ((d2.1.1, d2.1.2.1, (IntKind.i64.wrap (d2.1.2.2.1 + (1 : Int))), ()), (()))))) else none) else none) else none) else none) else (some ((true, ()), ())))) ((l, m, (0 : Int), ()), (()))))
      = some ((same l m, ()), ()) := by
  by_cases hlen : l.length = m.length
  · have h1 : ((l.length : Int) != (m.length : Int)) = false := by simp [hlen]
    rw [h1]
    simp only [Bool.false_eq_true, if_false]
    refine loopN_over l hl.1 (fun i (s : Unit) => ((l, m, (i : Int), ()), ())) (fun i t s => ((same t (m.drop i), ()), ())) (fun i t s => True)
      () rfl (by simp) trivial hN (fun rec s h => ?_) (fun rec i b t s hat h hrec => ?_)
    · dsimp only
      simp [hlen, same_self]
    · have hlt := hat.ltn
      have hd : m.drop i = m[i]'(by omega) :: m.drop (i + 1) := List.drop_eq_getElem_cons (by omega)
      have hb := At.of hm.1 hd
      have hr := hf b (m[i]'(by omega)) (wl_mem hl hat.mem) (wl_mem hm hb.mem)
      dsimp only
      simp only [hat.lt, hb.lt, hat.nn, hat.wrap, hat.rd, hb.rd, decide_true, if_true, hr, Option.bind_some, hd, same_cons]
      cases same b (m[i]'(by omega)) with
      | false => simp
      | true =>
        simp only [Bool.not_true, Bool.false_eq_true, if_false, Bool.true_and]
        exact hrec () trivial
  · have h1 : ((l.length : Int) != (m.length : Int)) = true := by simp; omega
    rw [h1]
    have : same l m = false := by rw [Bool.eq_false_iff]; intro h; rw [same_iff] at h; subst h; exact hlen rfl
    simp [this]
theorem eq_IntS : EqOk S_laws_eqIntS := fun a b ha hb => lim_eq (a.length + 1) fun N hN => by
  have h := eq_list (f := fun a b : Int => some ((same a b, ()), ())) (fun a b _ _ => rfl) 0 a b ha hb (N := N) hN
  unfold p_laws_eqIntS
  simp only [same_bne (rd _ _ _)]
  exact h
theorem cnt_int0 (n : Int) : Cnt.cnt n = 0 := rfl
theorem cnt_bool0 (n : Bool) : Cnt.cnt n = 0 := rfl
theorem cnt_unit0 (n : Unit) : Cnt.cnt n = 0 := rfl
theorem sz_then {n m : Nat} {k : Int} (h0 : 0 ≤ k) (h1 : k ≤ 1048576) {G : (Int × Unit) × Unit → Option ((Int × Unit) × Unit)} (hneg : G ((-1, ()), ()) = some ((-1, ()), ())) (hK : ∀ k' : Int, decide (k' < 0) = false → 0 ≤ k' → k' ≤ 1048576 → G ((k', ()), ()) = szRes m k') :
    (szRes n k).bind G = szRes (n + m) k := by
  simp only [szRes, Option.bind_some]
  by_cases hn : (n : Int) ≤ k
  · rw [szV_pos hn, hK _ (decide_eq_false (by omega)) (by omega) (by omega), szRes]
    simp only [Option.some.injEq, Prod.mk.injEq, and_true]
    unfold szV
    split <;> split <;> omega
  · rw [szV_neg hn, szV_neg (by omega), hneg]
theorem sz_last {n : Nat} {k : Int} (h0 : 0 ≤ k) (h1 : k ≤ 1048576) {G : (Int × Unit) × Unit → Option ((Int × Unit) × Unit)} (hneg : G ((-1, ()), ()) = some ((-1, ()), ())) (hK : ∀ k' : Int, decide (k' < 0) = false → G ((k', ()), ()) = some ((k', ()), ())) :
    (szRes n k).bind G = szRes n k := by
  have := sz_then (n := n) (m := 0) h0 h1 hneg fun k' h h2 h3 => (hK k' h).trans (by simp [szRes, szV, h2])
  simpa using this
theorem sz_over {n : Nat} {k : Int} (h0 : 0 ≤ k) {G : (Int × Unit) × Unit → Option ((Bool × Unit) × Unit)} (hneg : G ((-1, ()), ()) = some ((true, ()), ())) (hK : (n : Int) ≤ k → ∀ r : Int, decide (r < 0) = false → G ((r, ()), ()) = some ((true, ()), ())) :
    (szRes n k).bind G = some ((true, ()), ()) := by
  simp only [szRes, Option.bind_some]
  by_cases hn : (n : Int) ≤ k
  · rw [szV_pos hn]
    exact hK hn _ (decide_eq_false (by omega))
  · rw [szV_neg hn]; exact hneg
theorem eq_then {a r : Bool} {K : Option ((Bool × Unit) × Unit)} (hK : K = some ((r, ()), ())) : (if (!a) = true then (some ((false, ()), ())) else K) = some ((a && r, ()), ()) := by
  subst hK
  cases a <;> simp
theorem eq_thenI {a b : Int} {r : Bool} {K : Option ((Bool × Unit) × Unit)} (hK : K = some ((r, ()), ())) : (if (a != b) then (some ((false, ()), ())) else K) = some ((same a b && r, ()), ()) := by
  subst hK
  rw [same_bne]
  cases same a b <;> simp
/-- a number within bounds -/
def inn (n lo hi : Int) : Bool := decide (lo ≤ n) && decide (n ≤ hi)
theorem inn_iff {n lo hi : Int} : inn n lo hi = true ↔ lo ≤ n ∧ n ≤ hi := by simp [inn]
def grp (n : Int) : Bool := n == 3 || n == 5
theorem grp_iff {n : Int} : grp n = true ↔ n = 3 ∨ n = 5 := by simp [grp]
/-- the first place of one that meets a test, -1 where none does -/
def idxI {β : Type} (q : β → Bool) : List β → Int → Int
  | [], _ => -1
  | b :: t, i => if q b then i else idxI q t (i + 1)
theorem to_Cmd : ToOk S_laws_toCmd := fun x h => by
  unfold S_laws_toCmd p_laws_toCmd
  rfl
theorem eq_Cmd : EqOk S_laws_eqCmd := fun a b ha hb => by
  unfold S_laws_eqCmd p_laws_eqCmd
  refine (eq_thenI (eq_thenI (eq_thenI (eq_thenI (eq_thenI rfl))))).trans ?_
  simp only [same_pair a, same_pair a.2, same_pair a.2.2, same_pair a.2.2.2, same_pair a.2.2.2.2, same_unit]
theorem sz_Attr : SzOk S_laws_szAttr := fun x k h0 h1 hl => by
  unfold S_laws_szAttr p_laws_szAttr
  have e : Cnt.cnt x = Cnt.cnt x.2.1 := by simp only [cnt_pair, cnt_int0, cnt_bool0, cnt_unit0]; omega
  rw [e]
  rw [sz_IntS _ _ h0 h1 hl.2.1]
  exact sz_last h0 h1 rfl fun k' hk => by simp only [hk, Bool.false_eq_true, if_false]
theorem to_Attr : ToOk S_laws_toAttr := fun x h => by
  unfold S_laws_toAttr p_laws_toAttr
  simp only [cnt_pair, cnt_int0, cnt_bool0, cnt_unit0] at h
  have e : Cnt.cnt x.2.1 ≤ 1048576 := by (first | omega | (simp only [cnt_pair, cnt_int0, cnt_bool0, cnt_unit0]; omega))
  simp only [to_IntS x.2.1 e, Option.bind_some]
theorem eq_Attr : EqOk S_laws_eqAttr := fun a b ha hb => by
  unfold S_laws_eqAttr p_laws_eqAttr
  simp only [eq_IntS _ _ ha.2.1 hb.2.1, Option.bind_some]
  refine (eq_thenI (eq_then rfl)).trans ?_
  simp only [same_pair a, same_pair a.2, same_unit]
inductive Rch (E : Nat → Nat → Prop) : Nat → Nat → Prop where
  | one {a b : Nat} (h : E a b) : Rch E a b
  | more {a b c : Nat} (h : Rch E a b) (k : E b c) : Rch E a c
theorem Rch.trans {E : Nat → Nat → Prop} {a b c : Nat} (h : Rch E a b) (k : Rch E b c) : Rch E a c := by
  induction k with
  | one k => exact .more h k
  | more _ k ih => exact .more ih k
/-- a way whose inner points are below k -/
def Pth (E : Nat → Nat → Prop) : Nat → Nat → Nat → Prop
  | 0, i, j => E i j
  | k + 1, i, j => Pth E k i j ∨ (Pth E k i k ∧ Pth E k k j)
theorem Pth.of {E : Nat → Nat → Prop} {i j : Nat} (h : E i j) : ∀ k, Pth E k i j
  | 0 => h
  | k + 1 => .inl (Pth.of h k)
theorem Pth.trans {E : Nat → Nat → Prop} : ∀ {k m i j : Nat}, m < k → Pth E k i m → Pth E k m j → Pth E k i j
  | 0, m, _, _, h, _, _ => by omega
  | k + 1, m, i, j, h, h1, h2 => by
    rcases Nat.lt_or_ge m k with hm | hm
    · rcases h1 with h1 | ⟨h1, h1'⟩ <;> rcases h2 with h2 | ⟨h2, h2'⟩
      · exact .inl (Pth.trans hm h1 h2)
      · exact .inr ⟨Pth.trans hm h1 h2, h2'⟩
      · exact .inr ⟨h1, Pth.trans hm h1' h2⟩
      · exact .inr ⟨h1, h2'⟩
    · obtain rfl : m = k := by omega
      have a1 : Pth E m i m := by rcases h1 with h1 | h1; exact h1; exact h1.1
      have a2 : Pth E m m j := by rcases h2 with h2 | h2; exact h2; exact h2.2
      exact .inr ⟨a1, a2⟩
def PE (l : List (List Int)) (a b : Nat) : Prop := [(a : Int), (b : Int)] ∈ l
noncomputable def cyc (l : List (List Int)) : Bool := open Classical in decide (∃ i, Rch (PE l) i i)
def okP (n : Int) (p : List Int) : Bool := (p.length == 2) && (p.all fun x => inn x 0 (n - 1))
theorem okP_some {n : Nat} {p : List Int} (h : okP n p = true) : ∃ a b : Nat, p = [(a : Int), (b : Int)] ∧ a < n ∧ b < n := by
  unfold okP at h
  rw [Bool.and_eq_true] at h
  match p, h with
  | [x, y], h =>
    simp only [List.all_cons, List.all_nil, Bool.and_true, Bool.and_eq_true, inn_iff] at h
    exact ⟨x.toNat, y.toNat, by rw [Int.toNat_of_nonneg h.2.1.1, Int.toNat_of_nonneg h.2.2.1], by omega, by omega⟩
theorem PE.lt {l : List (List Int)} {n : Nat} (h : ∀ p ∈ l, okP n p = true) (a b : Nat) (hab : PE l a b) : a < n ∧ b < n := by
  obtain ⟨x, y, he, h1, h2⟩ := okP_some (h _ hab)
  simp only [List.cons.injEq, and_true] at he
  omega
noncomputable def hr (l : List (List Int)) (n : Int) : Bool × Bool × Unit := if (decide (l.length ≤ 2000) && inn n 0 60) && l.all (okP n) then (cyc l, true, ()) else (false, false, ())
abbrev rlist (r : T7) : List Int := r.2.2.2.2.1.2.1
structure GoodR (R : List (List T7)) : Prop where
  n : R.length = 3 ∨ R.length = 5
  six : ∀ x ∈ R, x.length ≤ 6
  len : ∀ x ∈ R, ∀ r ∈ x, (rlist r).length = R.length
  val : ∀ x ∈ R, ∀ r ∈ x, ∀ b ∈ rlist r, 0 ≤ b ∧ b ≤ 6
theorem GoodR.grp {R : List (List T7)} (h : GoodR R) : grp (R.length : Int) = true := by rw [grp_iff]; have := h.n; omega
theorem idxI_lt {β : Type} (q : β → Bool) : ∀ (l : List β) (i : Int), 0 ≤ i → idxI q l i ≥ 0 → idxI q l i < i + (l.length : Int)
  | [], i, h, h' => by simp [idxI] at h'
  | b :: t, i, h, h' => by
    unfold idxI at h' ⊢
    cases hb : q b with
    | true => simp; omega
    | false =>
      rw [hb] at h'
      simp only [Bool.false_eq_true, if_false] at h' ⊢
      have := idxI_lt q t (i + 1) (by omega) h'
      simp only [List.length_cons]
      omega
structure GoodW (n a : Int) (S : List (List Int)) (G : List Int) : Prop where
  grp : grp n = true
  who : 0 ≤ a ∧ a < n
  wl : WL.wl S
  len : G.length = S.length
  val : ∀ b ∈ G, 0 ≤ b ∧ b ≤ 20
theorem GoodW.at {n a : Int} {S : List (List Int)} {G : List Int} (h : GoodW n a S G) {q : List Int → Bool} (hk : idxI q S 0 ≥ 0) : idxI q S 0 < (G.length : Int) ∧ 0 ≤ rd G (idxI q S 0) 0 ∧ rd G (idxI q S 0) 0 ≤ 20 := by
  have h1 := idxI_lt q S 0 (by omega) hk
  have h2 : idxI q S 0 < (G.length : Int) := by rw [h.len]; omega
  have h3 := h.val _ (List.mem_of_getElem? (rd_get (d := 0) hk h2))
  exact ⟨h2, h3⟩
/-- few places, few hosts -/
def goodP (P : List (List Int)) : Prop := P.length ≤ 5 ∧ ∀ p ∈ P, p.length ≤ 6 ∧ ∀ a ∈ p, 0 ≤ a ∧ a ≤ 3
theorem goodP.wl {P : List (List Int)} (h : goodP P) : WL.wl P := ⟨by rw [maxLen_eq]; have := h.1; omega, fun p hp => ⟨by rw [maxLen_eq]; have := (h.2 p hp).1; omega, fun _ _ => trivial⟩⟩
/-- a text of these bytes -/
def bs (l : List UInt8) : ByteArray := ⟨l.toArray⟩
theorem bs_data (l : List UInt8) : (bs l).data.toList = l := by simp [bs]
theorem bs_size (l : List UInt8) : (bs l).size = l.length := by simp [bs, ByteArray.size]
theorem bs_append (a b : List UInt8) : bs a ++ bs b = bs (a ++ b) := by
  apply ByteArray.ext
  rw [ByteArray.data_append]
  simp [bs]
theorem one_bs (c : UInt8) : (⟨#[c]⟩ : ByteArray) = bs [c] := rfl
theorem nDigits_le : ∀ (k u : Nat), u < 10 ^ (k + 1) → nDigits u ≤ k + 1
  | 0, u, h => by rw [nDigits_small (by simpa using h)]; omega
  | k + 1, u, h => by
    by_cases h1 : u < 10
    · rw [nDigits_small h1]; omega
    · rw [nDigits_big h1]
      rw [Nat.pow_succ] at h
      have := nDigits_le k (u / 10) (by omega)
      omega
theorem digits_len {u : Nat} (h : u ≤ 9223372036854775807) : (decDigits u).length ≤ 19 := by
  rw [decDigits_length]
  exact nDigits_le 18 u (by omega)
/-- the digits of a number that is not negative -/
def num (n : Int) : List UInt8 := decDigits n.toNat
/-- is it a number of the machine's? -/
def I64 (n : Int) : Prop := -9223372036854775808 ≤ n ∧ n ≤ 9223372036854775807
theorem num_len {n : Int} (h : I64 n) : (num n).length ≤ 19 := digits_len (by have := h.2; omega)
theorem digit_str {u : Nat} (h : u < 10) : strOf [IntKind.u8.wrap (IntKind.i64.wrap ((48 : Int) + (u : Int)))] = bs [UInt8.ofNat (48 + u)] := by
  rw [wrap_small (n := (48 : Int) + u) (by omega) (by omega)]
  have : IntKind.u8.wrap ((48 : Int) + u) = ((48 + u : Nat) : Int) := by
    rw [IntKind.wrap_u8]; omega
  rw [this]
  rfl
theorem spec_num_at : ∀ (N u : Nat), u ≤ 9223372036854775807 → u < N → p_spec_l1Num N (u : Int) = some ((bs (decDigits u), ()), ())
  | 0, u, _, h => by omega
  | N + 1, u, hu, h => by
    unfold p_spec_l1Num
    by_cases h1 : u < 10
    · rw [decide_eq_true (by omega), if_pos rfl, digit_str h1, decDigits_one h1]
    · rw [decide_eq_false (by omega), if_neg (by simp)]
      have hd : ((u : Int)).tdiv 10 = ((u / 10 : Nat) : Int) := by
        rw [Int.tdiv_eq_ediv_of_nonneg (by omega)]; rfl
      have hm : Int.tmod (u : Int) 10 = ((u % 10 : Nat) : Int) := by
        rw [Int.tmod_eq_emod_of_nonneg (by omega)]; rfl
      rw [hd, hm, wrap_small (n := ((u / 10 : Nat) : Int)) (by omega) (by omega), spec_num_at N (u / 10) (by omega) (by omega), digit_str (by omega)]
      have hl := digits_len (u := u / 10) (by omega)
      simp only [show ((10 : Int) == 0) = false from rfl, Bool.false_eq_true, if_false, Option.bind_some, bs_size, bs_append, List.length_singleton]
      rw [decide_eq_true (by omega), if_pos rfl]
      conv => rhs; rw [decDigits, dif_neg h1]
theorem spec_num_eq {n : Int} (h0 : 0 ≤ n) (h : I64 n) : S_spec_l1Num n = some ((bs (num n), ()), ()) := by
  obtain ⟨u, rfl⟩ := Int.eq_ofNat_of_zero_le h0
  have := h.2
  exact lim_eq (u + 1) fun N hN => spec_num_at N u (by omega) (by omega)
theorem itoa_eq {n : Int} (h0 : 0 ≤ n) (h : I64 n) : S_strconv_Itoa n = some ((bs (num n), ()), ()) := by
  unfold S_strconv_Itoa
  rw [if_pos (show _ ∧ _ from h)]
  obtain ⟨u, rfl⟩ := Int.eq_ofNat_of_zero_le h0
  unfold itoa num
  rw [if_neg (by omega)]; rfl
theorem join_eq (ws : List (List UInt8)) (sep : List UInt8) (h1 : ws.length ≤ 140737488355328) (h2 : (join ws sep).length ≤ 140737488355328) : S_strings_Join (ws.map bs) (bs sep) = some ((bs (join ws sep), ()), ()) := by
  unfold S_strings_Join
  have e : (ws.map bs).map (fun x => x.data.toList) = ws := by
    rw [List.map_map]
    exact (List.map_congr_left fun x _ => bs_data x).trans (List.map_id _)
  rw [e, bs_data, if_pos ⟨by simpa using h1, h2⟩]
  rfl
/-- a place in a line -/
def word (n : Int) : List UInt8 := if n < 0 then [45] else num n
theorem word_len {n : Int} (h : I64 n) : (word n).length ≤ 19 := by
  unfold word
  split
  · simp
  · exact num_len h
theorem spec_l17Int_eq {n : Int} (h : I64 n) : S_spec_l17Int n = some ((bs (word n), ()), ()) := by
  unfold S_spec_l17Int p_spec_l17Int word
  by_cases h0 : n < 0
  · simp only [h0, decide_true, if_true, one_bs]
  · simp only [h0, decide_false, Bool.false_eq_true, if_false, spec_num_eq (by omega) h, Option.bind_some]
def lineOf (a : T11) : List UInt8 := join ([a.1, a.2.1, a.2.2.1, a.2.2.2.1, a.2.2.2.2.1, a.2.2.2.2.2.1, a.2.2.2.2.2.2.1, a.2.2.2.2.2.2.2.1].map word) [32]
/-- the numbers of a message are numbers of the machine's -/
def I11 (a : T11) : Prop := I64 a.1 ∧ I64 a.2.1 ∧ I64 a.2.2.1 ∧ I64 a.2.2.2.1 ∧ I64 a.2.2.2.2.1 ∧ I64 a.2.2.2.2.2.1 ∧ I64 a.2.2.2.2.2.2.1 ∧ I64 a.2.2.2.2.2.2.2.1
theorem joinTail_nil (sep : List UInt8) : joinTail sep [] = [] := rfl
theorem joinTail_cons (sep x : List UInt8) (r : List (List UInt8)) : joinTail sep (x :: r) = sep ++ x ++ joinTail sep r := by simp [joinTail]
theorem spec_MsgLine_eq (a : T11) (h : I11 a) : S_spec_MsgLine a = some ((bs (lineOf a), ()), ()) := by
  obtain ⟨a0, a1, a2, a3, a4, a5, a6, a7, c, t, ⟨⟩⟩ := a
  obtain ⟨h0, h1, h2, h3, h4, h5, h6, h7⟩ := h
  dsimp only at h0 h1 h2 h3 h4 h5 h6 h7
  unfold S_spec_MsgLine
  refine lim_eq 9 fun N hN => ?_
  unfold p_spec_MsgLine
  have hall : ∀ x ∈ [a1, a2, a3, a4, a5, a6, a7], I64 x := by
    intro x hx
    simp only [List.mem_cons, List.not_mem_nil, or_false] at hx
    rcases hx with rfl | rfl | rfl | rfl | rfl | rfl | rfl <;> assumption
  simp only [spec_l17Int_eq h0, Option.bind_some]
  refine loopN_over [a1, a2, a3, a4, a5, a6, a7] (by simp [maxLen_eq]) (fun i (s : List UInt8) => ((bs s, (([a1, a2, a3, a4, a5, a6, a7] : List Int).length : Int), (i : Int), ()), (a0, a1, a2, a3, a4, a5, a6, a7, c.1, c.2.1, c.2.2.1, c.2.2.2.1, c.2.2.2.2.1, t.1, t.2.1, ()), [a1, a2, a3, a4, a5, a6, a7], ()))
    (fun i t s => ((bs (s ++ joinTail [32] (t.map word)), ()), ())) (fun i t s => s.length ≤ 20 * (i + 1) ∧ i ≤ 7)
    (word a0) rfl ?_ ⟨by have := word_len h0; omega, by omega⟩ (by simp; omega) (fun rec s hs => ?_) (fun rec i b r s hat hs hrec => ?_)
  · simp only [lineOf, List.map_cons, join_cons]
  · dsimp only
    simp only [lenInt_lt_irrefl, decide_false, Bool.false_eq_true, if_false, List.map_nil, joinTail_nil, List.append_nil]
  · obtain ⟨hs1, hs2⟩ := hs
    have hb := word_len (hall b hat.mem)
    have hi := hat.ltn
    simp only [List.length_cons, List.length_nil] at hi
    dsimp only
    simp only [hat.lt, hat.nn, hat.wrap, hat.rd, decide_true, if_true, spec_l17Int_eq (hall b hat.mem), Option.bind_some, one_bs, bs_append, bs_size, List.length_append, List.length_singleton]
    rw [decide_eq_true (by omega), if_pos rfl, decide_eq_true (by omega), if_pos rfl]
    refine (hrec _ ⟨by simp; omega, by omega⟩).trans ?_
    simp only [List.map_cons, joinTail_cons, List.append_assoc]
theorem lens_le {k : Nat} : ∀ (ws : List (List UInt8)), (∀ w ∈ ws, w.length ≤ k) → lens ws ≤ k * ws.length
  | [], _ => by simp [lens]
  | x :: r, h => by
    have h1 := h x (by simp)
    have h2 := lens_le r fun w hw => h w (by simp [hw])
    simp only [lens, List.map_cons, List.sum_cons, List.length_cons, Nat.mul_succ] at h2 ⊢
    omega
theorem join_len {k : Nat} (ws : List (List UInt8)) (sep : List UInt8) (h : ∀ w ∈ ws, w.length ≤ k) : (join ws sep).length ≤ (sep.length + k) * ws.length := by
  cases ws with
  | nil => simp [join_nil]
  | cons x r =>
    rw [join_length]
    have h1 := lens_le (x :: r) h
    have h2 : sep.length * r.length ≤ sep.length * (x :: r).length := Nat.mul_le_mul_left _ (by simp)
    rw [Nat.add_mul]
    omega
theorem impl_MsgLine_eq (a : T11) (h : I11 a) : S_impl_MsgLine a = some ((bs (lineOf a), ()), ()) := by
  obtain ⟨a0, a1, a2, a3, a4, a5, a6, a7, c, t, ⟨⟩⟩ := a
  obtain ⟨h0, h1, h2, h3, h4, h5, h6, h7⟩ := h
  dsimp only at h0 h1 h2 h3 h4 h5 h6 h7
  unfold S_impl_MsgLine
  refine lim_eq 9 fun N hN => ?_
  unfold p_impl_MsgLine
  have hall : ∀ x ∈ [a0, a1, a2, a3, a4, a5, a6, a7], I64 x := by
    intro x hx
    simp only [List.mem_cons, List.not_mem_nil, or_false] at hx
    rcases hx with rfl | rfl | rfl | rfl | rfl | rfl | rfl | rfl <;> assumption
  refine loopN_over [a0, a1, a2, a3, a4, a5, a6, a7] (by simp [maxLen_eq]) (fun i (s : List (List UInt8)) => (((([a0, a1, a2, a3, a4, a5, a6, a7] : List Int).length : Int), (i : Int), ()), (a0, a1, a2, a3, a4, a5, a6, a7, c.1, c.2.1, c.2.2.1, c.2.2.2.1, c.2.2.2.2.1, t.1, t.2.1, ()), s.map bs, [a0, a1, a2, a3, a4, a5, a6, a7], ()))
    (fun i t s => ((bs (join (s ++ t.map word) [32]), ()), ())) (fun i t s => s.length = i ∧ i ≤ 8 ∧ ∀ w ∈ s, w.length ≤ 19)
    [] rfl rfl ⟨rfl, by omega, by simp⟩ (by simp; omega) (fun rec s hs => ?_) (fun rec i b r s hat hs hrec => ?_)
  · obtain ⟨hs1, hs2, hs3⟩ := hs
    have hj := join_len s [32] hs3
    dsimp only
    simp only [lenInt_lt_irrefl, decide_false, Bool.false_eq_true, if_false, List.map_nil, List.append_nil, one_bs]
    rw [join_eq s [32] (by omega) (by simp at hj hs1; omega)]
    rfl
  · obtain ⟨hs1, hs2, hs3⟩ := hs
    have hb := word_len (hall b hat.mem)
    have hi := hat.ltn
    simp only [List.length_cons, List.length_nil] at hi
    have hw : ∀ w ∈ s ++ [word b], w.length ≤ 19 := by
      intro w hw
      rcases List.mem_append.1 hw with hw | hw
      · exact hs3 w hw
      · simp at hw; subst hw; exact hb
    have hr := hrec (s ++ [word b]) ⟨by simp; omega, by omega, hw⟩
    simp only [List.map_append, List.map_cons, List.map_nil] at hr
    dsimp only
    simp only [hat.lt, hat.nn, hat.wrap, hat.rd, decide_true, if_true, List.length_map, List.length_singleton]
    have hk : ∀ n : Int, (s.map bs).length = s.length := fun _ => by simp
    by_cases hn : b < 0
    · rw [decide_eq_true hn, if_pos rfl, decide_eq_true (by omega), if_pos rfl]
      have e : word b = [45] := if_pos hn
      rw [e] at hr
      rw [one_bs]
      refine hr.trans ?_
      simp [e]
    · rw [decide_eq_false hn, if_neg (by simp), itoa_eq (by omega) (hall b hat.mem)]
      have e : word b = num b := if_neg hn
      rw [e] at hr
      simp only [Option.bind_some, List.length_singleton]
      rw [decide_eq_true (by omega), if_pos rfl]
      refine hr.trans ?_
      simp [e]
theorem sz_Msg : SzOk S_laws_szMsg := fun x k h0 h1 hl => by
  unfold S_laws_szMsg p_laws_szMsg
  have e : Cnt.cnt x = Cnt.cnt x.2.2.2.2.2.2.2.2.2.1 := by simp only [cnt_pair, cnt_int0, cnt_bool0, cnt_unit0]; omega
  rw [e]
  rw [sz_Attr _ _ h0 h1 hl.2.2.2.2.2.2.2.2.2.1]
  exact sz_last h0 h1 rfl fun k' hk => by simp only [hk, Bool.false_eq_true, if_false]
theorem to_Msg : ToOk S_laws_toMsg := fun x h => by
  unfold S_laws_toMsg p_laws_toMsg
  simp only [cnt_pair, cnt_int0, cnt_bool0, cnt_unit0] at h
  have e : Cnt.cnt x.2.2.2.2.2.2.2.2.1 ≤ 1048576 ∧ Cnt.cnt x.2.2.2.2.2.2.2.2.2.1 ≤ 1048576 := by refine ⟨?_, ?_⟩ <;> (first | omega | (simp only [cnt_pair, cnt_int0, cnt_bool0, cnt_unit0]; omega))
  simp only [to_Cmd x.2.2.2.2.2.2.2.2.1 e.1, to_Attr x.2.2.2.2.2.2.2.2.2.1 e.2, Option.bind_some]
theorem eq_Msg : EqOk S_laws_eqMsg := fun a b ha hb => by
  unfold S_laws_eqMsg p_laws_eqMsg
  simp only [eq_Cmd _ _ ha.2.2.2.2.2.2.2.2.1 hb.2.2.2.2.2.2.2.2.1, eq_Attr _ _ ha.2.2.2.2.2.2.2.2.2.1 hb.2.2.2.2.2.2.2.2.2.1, Option.bind_some]
  refine (eq_thenI (eq_thenI (eq_thenI (eq_thenI (eq_thenI (eq_thenI (eq_thenI (eq_thenI (eq_then (eq_then rfl)))))))))).trans ?_
  simp only [same_pair a, same_pair a.2, same_pair a.2.2, same_pair a.2.2.2, same_pair a.2.2.2.2, same_pair a.2.2.2.2.2, same_pair a.2.2.2.2.2.2, same_pair a.2.2.2.2.2.2.2, same_pair a.2.2.2.2.2.2.2.2, same_pair a.2.2.2.2.2.2.2.2.2, same_unit]
abbrev YI : Ty := .int .i64
abbrev Y2 : Ty := .pair YI (.pair YI (.pair YI (.pair YI (.pair YI .unit))))
abbrev Y6 (s : Nat) : Ty := .pair YI (.pair (.slice s YI) .unit)
abbrev Y11 (s : Nat) : Ty := .pair YI (.pair YI (.pair YI (.pair YI (.pair YI (.pair YI (.pair YI (.pair YI (.pair Y2 (.pair (Y6 s) .unit)))))))))
theorem i64_of {n : Int} (h : Wf YI n) : I64 n := by
  have h : (Lit.int .i64 n).wf = true := h
  simp only [Lit.wf, Bool.and_eq_true, decide_eq_true_eq] at h
  exact h
theorem wl_ints' {s : Nat} {l : List Int} (h : Wf (.slice s YI) l) : WL.wl l := ⟨h.1, fun _ _ => trivial⟩
theorem wl6 {s : Nat} {a : T6} (h : Wf (Y6 s) a) : WL.wl a := ⟨trivial, wl_ints' h.2.1, trivial⟩
theorem wl11 {s : Nat} {a : T11} (h : Wf (Y11 s) a) : WL.wl a := ⟨trivial, trivial, trivial, trivial, trivial, trivial, trivial, trivial, ⟨trivial, trivial, trivial, trivial, trivial, trivial⟩, wl6 h.2.2.2.2.2.2.2.2.2.1, trivial⟩
theorem i11 {s : Nat} {a : T11} (h : Wf (Y11 s) a) : I11 a := ⟨i64_of h.1, i64_of h.2.1, i64_of h.2.2.1, i64_of h.2.2.2.1, i64_of h.2.2.2.2.1, i64_of h.2.2.2.2.2.1, i64_of h.2.2.2.2.2.2.1, i64_of h.2.2.2.2.2.2.2.1⟩
theorem law_MsgLine (a : T11) (hl : WL.wl a) (h : I11 a) (N : Nat) : p_laws_FnExactMsgLine N a = some ((true, ()), ()) := by
  unfold p_laws_FnExactMsgLine
  rw [sz_Msg _ _ (by omega) (by omega) hl]
  refine sz_over (by omega) rfl fun hn r hr => ?_
  have hc : Cnt.cnt a ≤ 1048576 := Int.ofNat_le.1 hn
  have ht := to_Msg a hc
  simp only [hr, Bool.false_eq_true, if_false, ht, Option.bind_some, spec_MsgLine_eq a h, impl_MsgLine_eq a h, eq_Msg a a hl hl, same_self]
  simp
end Go.AM.P
