/- Lemmas on what functions do to data. No condition. -/
import Derived.Test.YtmnekhlgldljcaaDoorAmP
set_option linter.unusedVariables false
set_option linter.unusedSimpArgs false
set_option maxRecDepth 4000
namespace Go.AM.P
open Go.AM Go.Lib

/-- lists no longer than lists are -/
class WL (α : Type) where
  wl : α → Prop
instance : WL Int := ⟨fun _ => True⟩
instance : WL Bool := ⟨fun _ => True⟩
instance : WL Unit := ⟨fun _ => True⟩
instance : WL ByteArray := ⟨fun s => s.size ≤ maxLen⟩
instance {α β : Type} [WL α] [WL β] : WL (α × β) := ⟨fun x => WL.wl x.1 ∧ WL.wl x.2⟩
instance {α : Type} [WL α] : WL (List α) := ⟨fun l => l.length ≤ maxLen ∧ ∀ x ∈ l, WL.wl x⟩
theorem wl_mem {α : Type} [WL α] {l : List α} (h : WL.wl l) {x : α} (hx : x ∈ l) : WL.wl x := h.2 x hx
/-- marking: what it writes is what is found -/
def Marks {α : Type} [WL α] (f : α → Int → Option ((Int × Unit) × (α × Unit))) (g : α → Int → Option ((Int × Unit) × Unit)) (u : α → Nat) : Prop :=
  ∀ (x : α) (k : Int), WL.wl x → 0 < k → k + (u x : Int) ≤ 4611686018427387904 → ∃ x' : α, f x k = some ((k + (u x : Int), ()), (x', ())) ∧ g x' k = some ((k + (u x : Int), ()), ())
def marks (k : Int) : Nat → List Int
  | 0 => []
  | n + 1 => k :: marks (k + 1) n
theorem marks_len (k : Int) (n : Nat) : (marks k n).length = n := by
  induction n generalizing k with
  | zero => rfl
  | succ n ih => simp [marks, ih]
theorem markIntS_eq {l : List Int} {k : Int} (h0 : 0 < k) (hk : k + l.length ≤ 4611686018427387904) : S_laws_markIntS l k = some ((k + l.length, ()), (marks k l.length, ())) := by
  unfold S_laws_markIntS
  refine lim_eq (l.length + 1) fun N hN => ?_
  unfold p_laws_markIntS
  refine loopN_over l (by rw [maxLen_eq]; omega) (fun i (s : Int × List Int) => ((s.1, (i : Int), ()), (s.2, ()))) (fun i t s => ((s.1 + t.length, ()), (s.2.take i ++ marks s.1 t.length, ())))
    (fun i t s => 0 < s.1 ∧ s.1 + t.length ≤ 4611686018427387904 ∧ s.2.length = l.length ∧ i + t.length = l.length)
    (k, l) rfl (by simp) ⟨h0, hk, rfl, by simp⟩ hN (fun rec s h => ?_) (fun rec i b t s hat h hrec => ?_)
  · obtain ⟨h1, h2, h3, h4⟩ := h
    dsimp only
    simp only [h3, lenInt_lt_irrefl, decide_false, Bool.false_eq_true, if_false, marks]
    rw [← h3, List.take_length]
    simp [marks]
  · obtain ⟨k, xs⟩ := s
    obtain ⟨h1, h2, h3, h4⟩ := h
    simp only [List.length_cons] at h1 h2 h3 h4
    have hlt := hat.ltn
    dsimp only
    simp only [h3, hat.lt, hat.nn, hat.wrap, decide_true, if_true, Int.toNat_natCast]
    rw [wrap_small (n := k + 1) (by omega) (by omega)]
    have hi : i < xs.length := by omega
    refine (hrec (k + 1, xs.set i k) ⟨by simp; omega, by simp; omega, by simp [h3], by omega⟩).trans ?_
    simp only [List.length_cons, marks, Option.some.injEq, Prod.mk.injEq, and_true]
    refine ⟨by omega, ?_⟩
    rw [List.take_add_one, List.getElem?_set_self hi, List.take_set, List.set_eq_of_length_le (by simp; omega)]
    simp
theorem heldIntS_eq {n : Nat} {k : Int} (h0 : 0 < k) (hk : k + n ≤ 4611686018427387904) : S_laws_heldIntS (marks k n) k = some ((k + n, ()), ()) := by
  unfold S_laws_heldIntS
  refine lim_eq (n + 1) fun N hN => ?_
  unfold p_laws_heldIntS
  refine loopN_over (marks k n) (by rw [maxLen_eq, marks_len]; omega) (fun i (s : Int) => ((marks k n, s, (i : Int), ()), ())) (fun i t s => ((s + t.length, ()), ()))
    (fun i t s => 0 < s ∧ s + t.length ≤ 4611686018427387904 ∧ t = marks s t.length)
    k rfl (by simp [marks_len]) ⟨h0, by simpa [marks_len] using hk, by rw [marks_len]⟩ (by rw [marks_len]; omega) (fun rec s h => ?_) (fun rec i b t s hat h hrec => ?_)
  · dsimp only
    simp only [lenInt_lt_irrefl, decide_false, Bool.false_eq_true, if_false]
    simp
  · obtain ⟨h1, h2, h3⟩ := h
    simp only [List.length_cons, marks, List.cons.injEq] at h2 h3
    obtain ⟨rfl, h3⟩ := h3
    dsimp only
    simp only [hat.lt, hat.nn, hat.wrap, hat.rd, decide_true, if_true, bne_self_eq_false, Bool.false_eq_true, if_false]
    rw [wrap_small (n := b + 1) (by omega) (by omega)]
    refine (hrec (b + 1) ⟨by omega, by omega, h3⟩).trans ?_
    simp only [List.length_cons, Option.some.injEq, Prod.mk.injEq, and_true]
    omega
theorem marks_IntS : Marks S_laws_markIntS S_laws_heldIntS List.length := fun l k _ h0 hk => ⟨_, markIntS_eq h0 hk, heldIntS_eq h0 hk⟩
class Cnt (α : Type) where
  cnt : α → Nat
instance : Cnt Int := ⟨fun _ => 0⟩
instance : Cnt Bool := ⟨fun _ => 0⟩
instance : Cnt Unit := ⟨fun _ => 0⟩
instance : Cnt ByteArray := ⟨fun s => s.size⟩
instance {α β : Type} [Cnt α] [Cnt β] : Cnt (α × β) := ⟨fun x => Cnt.cnt x.1 + Cnt.cnt x.2⟩
def sumCnt {α : Type} (f : α → Nat) : List α → Nat
  | [] => 0
  | x :: r => f x + sumCnt f r
instance {α : Type} [Cnt α] : Cnt (List α) := ⟨fun l => l.length + sumCnt Cnt.cnt l⟩
open Classical in
/-- are they the same? -/
noncomputable def same {α : Type} (a b : α) : Bool := decide (a = b)
theorem same_iff {α : Type} {a b : α} : same a b = true ↔ a = b := by simp [same]
theorem same_self {α : Type} (a : α) : same a a = true := same_iff.2 rfl
theorem same_of {α : Type} {a b : α} {r : Bool} (h : r = true ↔ a = b) : r = same a b := by
  rw [Bool.eq_iff_iff, h, same_iff]
theorem same_cons {α : Type} (a b : α) (s t : List α) : same (a :: s) (b :: t) = (same a b && same s t) := by
  rw [Bool.eq_iff_iff]; simp [same_iff]
theorem same_pair {α β : Type} (a b : α × β) : same a b = (same a.1 b.1 && same a.2 b.2) := by
  rw [Bool.eq_iff_iff]; simp [same_iff, Prod.ext_iff]
theorem same_unit (a b : Unit) : same a b = true := same_iff.2 rfl
theorem same_bne (a b : Int) : (a != b) = !same a b := by
  by_cases h : a = b
  · subst h; simp [same_self]
  · have : same a b = false := by rw [Bool.eq_false_iff]; intro h2; exact h (same_iff.1 h2)
    simp [this, h]
def EqOk {α : Type} [WL α] (f : α → α → Option ((Bool × Unit) × Unit)) : Prop := ∀ a b : α, WL.wl a → WL.wl b → f a b = some ((same a b, ()), ())
theorem eq_list {α : Type} [WL α] {f : α → α → Option ((Bool × Unit) × Unit)} (hf : EqOk f) (z : α) (l m : List α) (hl : WL.wl l) (hm : WL.wl m) {N : Nat} (hN : l.length < N) :
    (if ((l.length : Int) != (m.length : Int)) then (some ((false, ()), ())) else (loopN N (fun rec1 (d2 : (List α × List α × Int × Unit) × (Unit)) => (if (decide (d2.1.2.2.1 < (d2.1.1.length : Int))) then (if (decide (0 ≤ d2.1.2.2.1)) then (if (decide (d2.1.2.2.1 < d2.1.1.length)) then (if (decide (0 ≤ d2.1.2.2.1)) then (if (decide (d2.1.2.2.1 < d2.1.2.1.length)) then ((f (rd d2.1.1 d2.1.2.2.1 z) (rd d2.1.2.1 d2.1.2.2.1 z)).bind fun y3 => (if (!y3.1.1) then (some ((false, ()), ())) else (rec1 ((d2.1.1, d2.1.2.1, (IntKind.i64.wrap (d2.1.2.2.1 + (1 : Int))), ()), (()))))) else none) else none) else none) else none) else (some ((true, ()), ())))) ((l, m, (0 : Int), ()), (()))))
      = some ((same l m, ()), ()) := by
  by_cases hlen : l.length = m.length
  · have h1 : ((l.length : Int) != (m.length : Int)) = false := by simp [hlen]
    rw [h1]
    simp only [Bool.false_eq_true, if_false]
    refine loopN_over l hl.1 (fun i (s : Unit) => ((l, m, (i : Int), ()), ())) (fun i t s => ((same t (m.drop i), ()), ())) (fun i t s => True)
      () rfl (by simp) trivial hN (fun rec s h => ?_) (fun rec i b t s hat h hrec => ?_)
    · dsimp only
      simp [hlen, same_self]
    · have hlt := hat.ltn
      have hd : m.drop i = m[i]'(by omega) :: m.drop (i + 1) := List.drop_eq_getElem_cons (by omega)
      have hb := At.of hm.1 hd
      have hr := hf b (m[i]'(by omega)) (wl_mem hl hat.mem) (wl_mem hm hb.mem)
      dsimp only
      simp only [hat.lt, hb.lt, hat.nn, hat.wrap, hat.rd, hb.rd, decide_true, if_true, hr, Option.bind_some, hd, same_cons]
      cases same b (m[i]'(by omega)) with
      | false => simp
      | true =>
        simp only [Bool.not_true, Bool.false_eq_true, if_false, Bool.true_and]
        exact hrec () trivial
  · have h1 : ((l.length : Int) != (m.length : Int)) = true := by simp; omega
    rw [h1]
    have : same l m = false := by rw [Bool.eq_false_iff]; intro h; rw [same_iff] at h; subst h; exact hlen rfl
    simp [this]
theorem eq_IntS : EqOk S_laws_eqIntS := fun a b ha hb => lim_eq (a.length + 1) fun N hN => by
  have h := eq_list (f := fun a b : Int => some ((same a b, ()), ())) (fun a b _ _ => rfl) 0 a b ha hb (N := N) hN
  unfold p_laws_eqIntS
  simp only [same_bne (rd _ _ _)]
  exact h
theorem eq_IntSS : EqOk S_laws_eqIntSS := fun a b ha hb => lim_eq (a.length + 1) fun N hN => eq_list eq_IntS [] a b ha hb hN
/-- a list marked element by element -/
def mlist {α : Type} (f : α → Int → Option ((Int × Unit) × (α × Unit))) : Int → List α → List α
  | _, [] => []
  | k, b :: t => match f b k with
    | some ((k', _), (b', _)) => b' :: mlist f k' t
    | none => []
theorem mlist_cons {α : Type} {f : α → Int → Option ((Int × Unit) × (α × Unit))} {k k' : Int} {b b' : α} {t : List α} (h : f b k = some ((k', ()), (b', ()))) : mlist f k (b :: t) = b' :: mlist f k' t := by
  simp only [mlist, h]
theorem mlist_len {α : Type} [WL α] {f : α → Int → Option ((Int × Unit) × (α × Unit))} {g : α → Int → Option ((Int × Unit) × Unit)} {u : α → Nat} (h : Marks f g u) : ∀ (l : List α) (k : Int), (∀ x ∈ l, WL.wl x) → 0 < k → k + (sumCnt u l : Int) ≤ 4611686018427387904 → (mlist f k l).length = l.length
  | [], _, _, _, _ => rfl
  | b :: t, k, hl, h0, hk => by
    simp only [sumCnt] at hk
    obtain ⟨b', h1, _⟩ := h b k (hl b (by simp)) h0 (by omega)
    rw [mlist_cons h1, List.length_cons, mlist_len h t _ (fun x hx => hl x (by simp [hx])) (by omega) (by omega), List.length_cons]
theorem loopN_mut {β σ α ρ : Type} {body : (α → Option ρ) → α → Option ρ} {N : Nat} {x : α} {v : ρ} (l : List β) (hl : l.length ≤ maxLen) (mk : Nat → List β → σ → α) (G : List β → List β → σ → ρ) (I : List β → List β → σ → Prop)
    (s : σ) (hx : mk 0 l s = x) (hv : G [] l s = v) (hI : I [] l s) (hN : l.length < N)
    (nil : ∀ rec dn s, dn.length = l.length → I dn [] s → body rec (mk dn.length dn s) = some (G dn [] s))
    (cons : ∀ rec dn b t s, At (dn ++ b :: t) dn.length b t → I dn (b :: t) s → (∀ b' s', I (dn ++ [b']) t s' → rec (mk (dn.length + 1) (dn ++ b' :: t) s') = some (G (dn ++ [b']) t s')) → body rec (mk dn.length (dn ++ b :: t) s) = some (G dn (b :: t) s)) :
    loopN N body x = some v := by
  subst hx; subst hv
  have key : ∀ (todo dn : List β) (s : σ) (N : Nat), dn.length + todo.length = l.length → I dn todo s → todo.length < N → loopN N body (mk dn.length (dn ++ todo) s) = some (G dn todo s) := by
    intro todo
    induction todo with
    | nil =>
      intro dn s N h1 h2 h3
      obtain ⟨n, rfl⟩ : ∃ n, N = n + 1 := ⟨N - 1, by simp at h3; omega⟩
      have := nil (loopN n body) dn s (by simpa using h1) h2
      simpa [loopN] using this
    | cons b t ih =>
      intro dn s N h1 h2 h3
      obtain ⟨n, rfl⟩ : ∃ n, N = n + 1 := ⟨N - 1, by omega⟩
      simp only [List.length_cons] at h1 h3
      refine cons (loopN n body) dn b t s (At.of (by simp; omega) (by simp)) h2 fun b' s' hs' => ?_
      have := ih (dn ++ [b']) s' n (by simp; omega) hs' (by omega)
      simpa using this
  simpa using key l [] s N (by simp) hI hN
theorem set_mid {β : Type} (xs ys : List β) (b c : β) : (xs ++ b :: ys).set xs.length c = xs ++ c :: ys := by simp
def MarkOk {α : Type} [WL α] (f : α → Int → Option ((Int × Unit) × (α × Unit))) (u : α → Nat) : Prop :=
  ∀ (x : α) (k : Int), WL.wl x → 0 < k → k + (u x : Int) ≤ 4611686018427387904 → ∃ x' : α, f x k = some ((k + (u x : Int), ()), (x', ()))
theorem Marks.ok {α : Type} [WL α] {f : α → Int → Option ((Int × Unit) × (α × Unit))} {g : α → Int → Option ((Int × Unit) × Unit)} {u : α → Nat} (h : Marks f g u) : MarkOk f u := fun x k a b c => (h x k a b c).imp fun _ h => h.1
theorem mark_list {α : Type} [WL α] {f : α → Int → Option ((Int × Unit) × (α × Unit))} {u : α → Nat} (h : MarkOk f u) (z : α) (l : List α) (k : Int) (h0 : 0 < k) (hlen : WL.wl l) (hk : k + (sumCnt u l : Int) ≤ 4611686018427387904) {N : Nat} (hN : l.length < N) :
    (loopN N (fun rec1 (d2 : (Int × Int × Unit) × (List α × Unit)) => (if (decide (d2.1.2.1 < (d2.2.1.length : Int))) then (if (decide (0 ≤ d2.1.2.1)) then (if (decide (d2.1.2.1 < d2.2.1.length)) then ((f (rd d2.2.1 d2.1.2.1 z) d2.1.1).bind fun y3 => (rec1 ((y3.1.1, (IntKind.i64.wrap (d2.1.2.1 + (1 : Int))), ()), ((d2.2.1.set d2.1.2.1.toNat y3.2.1), ())))) else none) else none) else (some ((d2.1.1, ()), (d2.2.1, ()))))) ((k, (0 : Int), ()), (l, ()))) = some ((k + (sumCnt u l : Int), ()), (mlist f k l, ())) := by
  refine loopN_mut l hlen.1 (fun i xs (s : Int) => ((s, (i : Int), ()), (xs, ()))) (fun dn t s => ((s + (sumCnt u t : Int), ()), (dn ++ mlist f s t, ()))) (fun dn t s => 0 < s ∧ s + (sumCnt u t : Int) ≤ 4611686018427387904 ∧ ∀ x ∈ t, WL.wl x)
    k rfl rfl ⟨h0, hk, hlen.2⟩ hN (fun rec dn s hd hs => ?_) (fun rec dn b t s hat hs hrec => ?_)
  · dsimp only
    simp [mlist, sumCnt]
  · simp only [sumCnt] at hs
    obtain ⟨b', h1⟩ := h b s (hs.2.2 b (by simp)) hs.1 (by omega)
    dsimp only
    simp only [hat.lt, hat.nn, hat.wrap, hat.rd, decide_true, if_true, h1, Option.bind_some, Int.toNat_natCast, set_mid]
    refine (hrec b' (s + (u b : Int)) ⟨by omega, by omega, fun x hx => hs.2.2 x (by simp [hx])⟩).trans ?_
    simp only [mlist_cons h1, sumCnt, List.append_assoc, List.singleton_append, Option.some.injEq, Prod.mk.injEq, and_true]
    omega
theorem held_list {α : Type} [WL α] {f : α → Int → Option ((Int × Unit) × (α × Unit))} {g : α → Int → Option ((Int × Unit) × Unit)} {u : α → Nat} (h : Marks f g u) (z : α) (l : List α) (k : Int) (h0 : 0 < k) (hlen : WL.wl l) (hk : k + (sumCnt u l : Int) ≤ 4611686018427387904) {N : Nat} (hN : l.length < N) :
    (loopN N (fun rec1 (d2 : (List α × Int × Int × Unit) × (Unit)) => (if (decide (d2.1.2.2.1 < (d2.1.1.length : Int))) then (if (decide (0 ≤ d2.1.2.2.1)) then (if (decide (d2.1.2.2.1 < d2.1.1.length)) then ((g (rd d2.1.1 d2.1.2.2.1 z) d2.1.2.1).bind fun y3 => (if (decide (y3.1.1 < (0 : Int))) then (some (((-1 : Int), ()), ())) else (rec1 ((d2.1.1, y3.1.1, (IntKind.i64.wrap (d2.1.2.2.1 + (1 : Int))), ()), (()))))) else none) else none) else (some ((d2.1.2.1, ()), ())))) ((mlist f k l, k, (0 : Int), ()), (()))) = some ((k + (sumCnt u l : Int), ()), ()) := by
  have hml := mlist_len h l k hlen.2 h0 hk
  refine loopN_over (mlist f k l) (by have := hlen.1; omega) (fun i (s : Int) => ((mlist f k l, s, (i : Int), ()), ())) (fun i t s => ((k + (sumCnt u l : Int), ()), ())) (fun i t s => 0 < s ∧ ∃ m, t = mlist f s m ∧ s + (sumCnt u m : Int) = k + (sumCnt u l : Int) ∧ ∀ x ∈ m, WL.wl x)
    k rfl rfl ⟨h0, l, rfl, rfl, hlen.2⟩ (by omega) (fun rec s hs => ?_) (fun rec i b t s hat hs hrec => ?_)
  · obtain ⟨h1, m, h2, h3, hwl⟩ := hs
    have : m = [] := by
      have := mlist_len h m s hwl h1 (by omega)
      rw [← h2] at this
      exact List.eq_nil_of_length_eq_zero this.symm
    subst this
    simp only [sumCnt] at h3
    dsimp only
    simp only [lenInt_lt_irrefl, decide_false, Bool.false_eq_true, if_false, Option.some.injEq, Prod.mk.injEq, and_true]
    omega
  · obtain ⟨h1, m, h2, h3, hwl⟩ := hs
    cases m with
    | nil => cases h2
    | cons c m =>
      simp only [sumCnt] at h3
      obtain ⟨c', h4, h5⟩ := h c s (hwl c (by simp)) h1 (by omega)
      rw [mlist_cons h4] at h2
      simp only [List.cons.injEq] at h2
      obtain ⟨rfl, h2⟩ := h2
      dsimp only
      simp only [hat.lt, hat.nn, hat.wrap, hat.rd, decide_true, if_true, h5, Option.bind_some]
      rw [decide_eq_false (by omega)]
      simp only [Bool.false_eq_true, if_false]
      exact hrec _ ⟨by omega, m, h2, by omega, fun x hx => hwl x (by simp [hx])⟩
theorem marks_IntSS : Marks S_laws_markIntSS S_laws_heldIntSS (sumCnt List.length) :=
  fun x k hl h0 hk => ⟨mlist S_laws_markIntS k x, lim_eq (x.length + 1) fun N hN => mark_list marks_IntS.ok [] x k h0 hl hk hN, lim_eq (x.length + 1) fun N hN => held_list marks_IntS [] x k h0 hl hk hN⟩
theorem eq_then {a r : Bool} {K : Option ((Bool × Unit) × Unit)} (hK : K = some ((r, ()), ())) : (if (!a) = true then (some ((false, ()), ())) else K) = some ((a && r, ()), ()) := by
  subst hK
  cases a <;> simp
/-- a number within bounds -/
def inn (n lo hi : Int) : Bool := decide (lo ≤ n) && decide (n ≤ hi)
theorem inn_iff {n lo hi : Int} : inn n lo hi = true ↔ lo ≤ n ∧ n ≤ hi := by simp [inn]
theorem spec_l1In_eq (a b c : Int) : S_spec_l1In a b c = some ((inn a b c, ()), ()) := by
  unfold S_spec_l1In p_spec_l1In inn
  by_cases h : b ≤ a <;> simp [h]
theorem impl_within_eq (a b c : Int) : S_impl_within a b c = some ((inn a b c, ()), ()) := by
  unfold S_impl_within p_impl_within inn
  by_cases h : b ≤ a <;> simp [h]
def grp (n : Int) : Bool := n == 3 || n == 5
theorem grp_iff {n : Int} : grp n = true ↔ n = 3 ∨ n = 5 := by simp [grp]
theorem spec_IsGroup_eq (n : Int) : S_spec_IsGroup n = some ((grp n, ()), ()) := by
  unfold S_spec_IsGroup p_spec_IsGroup grp
  by_cases h : n = 3 <;> simp [h]
theorem impl_IsGroup_eq (n : Int) : S_impl_IsGroup n = some ((grp n, ()), ()) := by
  unfold S_impl_IsGroup p_impl_IsGroup grp
  by_cases h : n = 3 <;> simp [h]
theorem grp_wrap {n : Int} (h : grp n = true) : IntKind.i64.wrap (n - 1) = n - 1 := by
  rw [grp_iff] at h; apply wrap_small <;> omega
/-- the first place of one that meets a test, -1 where none does -/
def idxI {β : Type} (q : β → Bool) : List β → Int → Int
  | [], _ => -1
  | b :: t, i => if q b then i else idxI q t (i + 1)
theorem idxI_any {β : Type} (q : β → Bool) : ∀ (l : List β) (i : Int), 0 ≤ i → decide (idxI q l i ≥ 0) = l.any q
  | [], i, h => by simp [idxI]
  | b :: t, i, h => by
    cases hb : q b with
    | true => simp [idxI, hb, h]
    | false => simp only [idxI, hb, Bool.false_eq_true, if_false, List.any_cons, Bool.false_or]; exact idxI_any q t (i + 1) (by omega)
theorem index_gen {β : Type} (z : β) (l : List β) (hl : l.length ≤ maxLen) (p : (β × Unit) → Option Bool) (q : β → Bool) (hp : ∀ x ∈ l, p (x, ()) = some (q x)) {N : Nat} (hN : l.length < N) :
    (loopN N (fun rec1 (d2 : (List β × ((β × Unit) → Option Bool) × Int × Int × Unit) × (Unit)) => (if (decide (d2.1.2.2.2.1 < d2.1.2.2.1)) then (if (decide (0 ≤ d2.1.2.2.2.1)) then (if (decide (d2.1.2.2.2.1 < d2.1.1.length)) then ((d2.1.2.1 ((rd d2.1.1 d2.1.2.2.2.1 z), ())).bind fun y3 => (if y3 then (some ((d2.1.2.2.2.1, ()), ())) else (rec1 ((d2.1.1, d2.1.2.1, d2.1.2.2.1, (IntKind.i64.wrap (d2.1.2.2.2.1 + (1 : Int))), ()), (()))))) else none) else none) else (some (((-1 : Int), ()), ())))) ((l, p, (l.length : Int), (0 : Int), ()), (())))
      = some ((idxI q l 0, ()), ()) := by
  refine loopN_over l hl (fun i (s : Unit) => ((l, p, (l.length : Int), (i : Int), ()), ())) (fun i t s => ((idxI q t (i : Int), ()), ())) (fun i t s => True)
    () rfl rfl trivial hN (fun rec s h => ?_) (fun rec i b t s hat h hrec => ?_)
  · dsimp only
    simp [idxI]
  · dsimp only
    simp only [hat.lt, hat.nn, hat.wrap, hat.rd, decide_true, if_true, hp b hat.mem, Option.bind_some, idxI]
    cases q b with
    | true => simp
    | false => simp only [Bool.false_eq_true, if_false]; exact hrec () trivial
theorem IndexFunc_Lint_eq {l : List Int} {p : (Int × Unit) → Option Bool} (q : Int → Bool) (hl : l.length ≤ maxLen) (hp : ∀ x ∈ l, p (x, ()) = some (q x)) : S_IndexFunc_Lint_int l p = some ((idxI q l 0, ()), ()) :=
  lim_eq (l.length + 1) fun N hN => index_gen 0 l hl p q hp hN
theorem ContainsFunc_Lint_eq {l : List Int} {p : (Int × Unit) → Option Bool} (q : Int → Bool) (hl : l.length ≤ maxLen) (hp : ∀ x ∈ l, p (x, ()) = some (q x)) : S_ContainsFunc_Lint_int l p = some ((l.any q, ()), ()) := by
  unfold S_ContainsFunc_Lint_int p_ContainsFunc_Lint_int
  rw [IndexFunc_Lint_eq q hl hp]
  simp only [Option.bind_some, idxI_any q l 0 (Int.le_refl 0)]
/-- the one ahead of place i -/
def prv {β : Type} (l : List β) (i : Nat) : Option β := if i = 0 then none else l[i - 1]?
theorem prv_zero {β : Type} (l : List β) : prv l 0 = none := rfl
theorem prv_succ {β : Type} {l : List β} {i : Nat} {b : β} (h : l[i]? = some b) : prv l (i + 1) = some b := by simp [prv, h]
theorem prv_pos {β : Type} {l : List β} (hl : l.length ≤ maxLen) {i : Nat} (h : 0 < i) (hi : i < l.length) :
    ∃ c, prv l i = some c ∧ (∀ d, rd l (IntKind.i64.wrap ((i : Int) - 1)) d = c) ∧ (0 : Int) ≤ IntKind.i64.wrap ((i : Int) - 1) ∧ IntKind.i64.wrap ((i : Int) - 1) < (l.length : Int) ∧ c ∈ l := by
  rw [maxLen_eq] at hl
  have hw : IntKind.i64.wrap ((i : Int) - 1) = ((i - 1 : Nat) : Int) := by rw [wrap_small (by omega) (by omega)]; omega
  have hg : l[i - 1]? = some (l[i - 1]'(by omega)) := List.getElem?_eq_getElem (by omega)
  refine ⟨l[i - 1]'(by omega), by rw [prv, if_neg (by omega), hg], fun d => ?_, by rw [hw]; omega, by rw [hw]; omega, List.getElem_mem _⟩
  rw [hw, rd_nat, List.getD_eq_getElem?_getD, hg]; rfl
theorem not_any_not {β : Type} (l : List β) (q : β → Bool) : (!l.any fun x => !q x) = l.all q := by
  induction l with
  | nil => rfl
  | cons b t ih => rw [List.any_cons, List.all_cons, Bool.not_or, Bool.not_not, ih]
def inst (n r k : Int) : Bool := inn r 0 (n - 1) && inn k 1 6
theorem spec_l3Inst_eq {n : Int} (hn : grp n = true) (r k : Int) : S_spec_l3Inst n r k = some ((inst n r k, ()), ()) := by
  unfold S_spec_l3Inst p_spec_l3Inst inst
  rw [grp_wrap hn, spec_l1In_eq]
  simp only [Option.bind_some, spec_l1In_eq]
  cases inn r 0 (n - 1) <;> simp
theorem impl_isInstance_eq {n : Int} (hn : grp n = true) (r k : Int) : S_impl_isInstance n r k = some ((inst n r k, ()), ()) := by
  unfold S_impl_isInstance p_impl_isInstance inst
  rw [grp_wrap hn, impl_IsGroup_eq, hn, impl_within_eq]
  simp only [Option.bind_some, if_true, impl_within_eq]
  cases inn r 0 (n - 1) <;> simp
def cmpI (a b : Int) : Int := if a < b then -1 else if a > b then 1 else 0
theorem cmp_Compare_eq (a b : Int) : S_cmp_Compare_int a b = some ((cmpI a b, ()), ()) := by
  unfold S_cmp_Compare_int p_cmp_Compare_int S_cmp_isNaN_int p_cmp_isNaN_int cmpI
  by_cases h : a < b
  · simp [h]
  · by_cases h2 : b < a <;> simp [h, h2]
def cmpL : List Int → List Int → Int
  | [], [] => 0
  | [], _ :: _ => -1
  | _ :: _, [] => 1
  | a :: s, b :: t => if cmpI a b != 0 then cmpI a b else cmpL s t
theorem Compare_Lint_eq (l m : List Int) (hl : l.length ≤ maxLen) (hm : m.length ≤ maxLen) : S_Compare_Lint_int l m = some ((cmpL l m, ()), ()) := by
  unfold S_Compare_Lint_int
  refine lim_eq (l.length + 1) fun N hN => ?_
  unfold p_Compare_Lint_int
  refine loopN_over l hl (fun i (s : Unit) => ((l, m, l, (l.length : Int), (i : Int), ()), ())) (fun i t s => ((cmpL t (m.drop i), ()), ())) (fun i t s => i ≤ m.length)
    () rfl rfl (by omega) hN (fun rec s h => ?_) (fun rec i b t s hat h hrec => ?_)
  · dsimp only
    simp only [lenInt_lt_irrefl, decide_false, Bool.false_eq_true, if_false]
    rcases Nat.lt_or_ge l.length m.length with h1 | h1
    · rw [List.drop_eq_getElem_cons h1, decide_eq_true (by omega)]; rfl
    · rw [List.drop_eq_nil_of_le h1, decide_eq_false (by omega)]; rfl
  · dsimp only
    simp only [hat.lt, hat.nn, hat.wrap, hat.rd, decide_true, if_true]
    rcases Nat.lt_or_ge i m.length with h1 | h1
    · have hb := At.of hm (List.drop_eq_getElem_cons h1)
      rw [decide_eq_false (by omega)]
      simp only [hb.lt, hb.rd, hb.drop, Bool.false_eq_true, if_false, decide_true, if_true, cmp_Compare_eq, Option.bind_some, cmpL]
      by_cases hc : (cmpI b (m[i]'h1) != 0) = true
      · simp [hc]
      · simp only [hc]; exact hrec () (by omega)
    · rw [List.drop_eq_nil_of_le h1, decide_eq_true (by omega)]; rfl
def pairLt : List Int → List Int → Bool
  | [c, d], [a, b] => decide (c < a) || (decide (c = a) && decide (d < b))
  | _, _ => true
def instOf (n : Int) : List Int → Bool
  | [a, b] => inst n a b
  | _ => false
def ltO : Option (List Int) → List Int → Bool
  | some y, x => pairLt y x
  | none, _ => true
def doneB (n : Int) : Option (List Int) → List (List Int) → Bool
  | _, [] => true
  | p, x :: t => instOf n x && ltO p x && doneB n (some x) t
theorem two_of {x : List Int} : ((x.length : Int) != 2) = false → ∃ a b, x = [a, b] := by
  intro h
  simp only [bne_eq_false_iff_eq] at h
  match x, h with
  | [a, b], _ => exact ⟨a, b, rfl⟩
  | [], h => simp at h
  | [_], h => simp at h
  | _ :: _ :: _ :: _, h => simp at h; omega
theorem not_two {n : Int} {x : List Int} (h : ((x.length : Int) != 2) = true) : instOf n x = false := by
  match x, h with
  | [a, b], h => simp at h
  | [], h => rfl
  | [_], h => rfl
  | _ :: _ :: _ :: _, h => rfl
theorem spec_l18Done_eq {n : Int} (hn : grp n = true) (l : List (List Int)) (hl : l.length ≤ maxLen) : S_spec_l18Done n l = some ((doneB n none l, ()), ()) := by
  unfold S_spec_l18Done
  refine lim_eq (l.length + 1) fun N hN => ?_
  unfold p_spec_l18Done
  refine loopN_over l hl (fun i (s : Unit) => ((n, l, l, (l.length : Int), (i : Int), ()), ())) (fun i t s => ((doneB n (prv l i) t, ()), ())) (fun i t s => ∀ y, prv l i = some y → ∃ c d, y = [c, d])
    () rfl rfl (fun y h => by cases h) hN (fun rec s h => ?_) (fun rec i b t s hat h hrec => ?_)
  · dsimp only
    simp [doneB]
  · have hlt := hat.ltn
    have hrec := hrec ()
    rw [prv_succ hat.get] at hrec
    dsimp only
    simp only [hat.lt, hat.nn, hat.wrap, hat.rd, decide_true, if_true]
    cases h2 : ((b.length : Int) != 2) with
    | true =>
      simp only [if_true, doneB, not_two h2, Bool.false_and]
    | false =>
      obtain ⟨x, y, rfl⟩ := two_of h2
      have hrec := hrec fun z hz => ⟨x, y, by simpa using hz.symm⟩
      have h3 : (0 : Int) < (([x, y] : List Int).length : Int) := by simp
      have h4 : (1 : Int) < (([x, y] : List Int).length : Int) := by simp
      have r0 : ∀ d, rd [x, y] (0 : Int) d = x := fun d => rfl
      have r1 : ∀ d, rd [x, y] (1 : Int) d = y := fun d => rfl
      simp only [Bool.false_eq_true, if_false, Int.le_refl, decide_true, if_true, h3, h4, r0, r1, spec_l3Inst_eq hn, Option.bind_some, doneB, instOf, show (0 : Int) ≤ 1 by omega]
      cases hi : inst n x y with
      | false => simp
      | true =>
        simp only [Bool.not_true, Bool.false_eq_true, if_false, Bool.true_and]
        rcases Nat.eq_zero_or_pos i with rfl | hi0
        · rw [decide_eq_false (by omega)]
          simp only [Bool.false_eq_true, if_false, prv_zero, ltO, Bool.true_and]
          exact hrec
        · obtain ⟨c, q1, q2, q3, q4, _⟩ := prv_pos hl hi0 hlt
          obtain ⟨u, v, rfl⟩ := h c q1
          have h5 : (0 : Int) < (([u, v] : List Int).length : Int) := by simp
          have h6 : (1 : Int) < (([u, v] : List Int).length : Int) := by simp
          have r2 : ∀ d, rd [u, v] (0 : Int) d = u := fun d => rfl
          have r3 : ∀ d, rd [u, v] (1 : Int) d = v := fun d => rfl
          rw [decide_eq_true (by omega)]
          simp only [if_true, q1, q2, q3, q4, decide_true, Int.le_refl, h5, h6, r2, r3, show (0 : Int) ≤ 1 by omega, ltO, pairLt]
          rcases Int.lt_trichotomy u x with hux | hux | hux
          · rw [decide_eq_false (by omega), decide_eq_true hux]
            have : (u == x) = false := by simp; omega
            simp only [this, Bool.false_eq_true, if_false, Bool.true_or, Bool.true_and]
            exact hrec
          · subst hux
            simp only [Int.lt_irrefl, gt_iff_lt, decide_false, Bool.false_eq_true, if_false, beq_self_eq_true, if_true, decide_true, Bool.false_or, Bool.true_and]
            by_cases hv : v < y
            · rw [decide_eq_false (by omega), decide_eq_true hv]
              simp only [Bool.false_eq_true, if_false, Bool.true_and]
              exact hrec
            · rw [decide_eq_true (by omega), decide_eq_false hv]
              simp
          · have n1 : ¬ u < x := by omega
            have n2 : ¬ u = x := by omega
            simp [n1, n2, hux]
theorem cmpL_two (a b c d : Int) : decide (cmpL [c, d] [a, b] ≥ 0) = !pairLt [c, d] [a, b] := by
  simp only [cmpL, cmpI, pairLt]
  rcases Int.lt_trichotomy c a with h | h | h
  · simp [h]
  · subst h
    rcases Int.lt_trichotomy d b with h | h | h
    · simp [h]
    · subst h; simp
    · have h1 : ¬ d < b := by omega
      simp [h, h1]
  · have h1 : ¬ c < a := by omega
    have h2 : ¬ c = a := by omega
    simp [h, h1, h2]
theorem impl_riseInstances_eq {n : Int} (hn : grp n = true) (l : List (List Int)) (hl : l.length ≤ maxLen) : S_impl_riseInstances n l = some ((doneB n none l, ()), ()) := by
  unfold S_impl_riseInstances
  refine lim_eq (l.length + 1) fun N hN => ?_
  unfold p_impl_riseInstances
  refine loopN_over l hl (fun i (s : Unit) => ((n, l, l, (l.length : Int), (i : Int), ()), ())) (fun i t s => ((doneB n (prv l i) t, ()), ())) (fun i t s => ∀ y, prv l i = some y → ∃ c d, y = [c, d])
    () rfl rfl (fun y h => by cases h) hN (fun rec s h => ?_) (fun rec i b t s hat h hrec => ?_)
  · dsimp only
    simp [doneB]
  · have hlt := hat.ltn
    have hrec := hrec ()
    rw [prv_succ hat.get] at hrec
    dsimp only
    simp only [hat.lt, hat.nn, hat.wrap, hat.rd, decide_true, if_true]
    cases h2 : ((b.length : Int) != 2) with
    | true =>
      simp only [if_true, doneB, not_two h2, Bool.false_and]
    | false =>
      obtain ⟨x, y, rfl⟩ := two_of h2
      have hrec := hrec fun z hz => ⟨x, y, by simpa using hz.symm⟩
      have h3 : (0 : Int) < (([x, y] : List Int).length : Int) := by simp
      have h4 : (1 : Int) < (([x, y] : List Int).length : Int) := by simp
      have r0 : ∀ d, rd [x, y] (0 : Int) d = x := fun d => rfl
      have r1 : ∀ d, rd [x, y] (1 : Int) d = y := fun d => rfl
      simp only [Bool.false_eq_true, if_false, Int.le_refl, decide_true, if_true, h3, h4, r0, r1, impl_isInstance_eq hn, Option.bind_some, doneB, instOf, show (0 : Int) ≤ 1 by omega]
      cases hi : inst n x y with
      | false => simp
      | true =>
        simp only [Bool.not_true, Bool.false_eq_true, if_false, Bool.true_and]
        rcases Nat.eq_zero_or_pos i with rfl | hi0
        · rw [decide_eq_false (by omega)]
          simp only [Bool.false_eq_true, if_false, prv_zero, ltO, Bool.true_and]
          exact hrec
        · obtain ⟨c, q1, q2, q3, q4, _⟩ := prv_pos hl hi0 hlt
          obtain ⟨u, v, rfl⟩ := h c q1
          rw [decide_eq_true (by omega)]
          simp only [if_true, q1, q2, q3, q4, decide_true, ltO, Compare_Lint_eq [u, v] [x, y] (by simp [maxLen_eq]) (by simp [maxLen_eq]), Option.bind_some, cmpL_two]
          cases pairLt [u, v] [x, y] with
          | false => simp
          | true => simp only [Bool.not_true, Bool.false_eq_true, if_false, Bool.true_and]; exact hrec
def addAll : List Int → Int
  | [] => 0
  | b :: t => b + addAll t
def goodSums (l : List Int) : Bool := (l.length == 4) && (l.all fun b => inn b 0 400) && (addAll l == 400)
theorem impl_total_eq (l : List Int) (hl : l.length ≤ 1048576) (h : ∀ b ∈ l, 0 ≤ b ∧ b ≤ 400) : S_impl_total l = some ((addAll l, ()), ()) := by
  unfold S_impl_total
  refine lim_eq (l.length + 1) fun N hN => ?_
  unfold p_impl_total
  refine loopN_over l (by rw [maxLen_eq]; omega) (fun i (s : Int) => ((s, l, (l.length : Int), (i : Int), ()), ())) (fun i t s => ((s + addAll t, ()), ())) (fun i t s => 0 ≤ s ∧ s ≤ 400 * i)
    0 rfl (by simp) ⟨by omega, by omega⟩ hN (fun rec s h => ?_) (fun rec i b t s hat hI hrec => ?_)
  · dsimp only
    simp [addAll]
  · obtain ⟨h1, h2⟩ := h b hat.mem
    have := hat.ltn
    dsimp only
    simp only [hat.lt, hat.nn, hat.wrap, hat.rd, decide_true, if_true]
    rw [wrap_small (n := s + b) (by omega) (by omega)]
    refine (hrec (s + b) ⟨by omega, by omega⟩).trans ?_
    simp only [addAll, Option.some.injEq, Prod.mk.injEq, and_true]
    omega
theorem impl_GoodSums_eq (l : List Int) (hl : l.length ≤ maxLen) : S_impl_GoodSums l = some ((goodSums l, ()), ()) := by
  unfold S_impl_GoodSums p_impl_GoodSums goodSums
  by_cases h4 : l.length = 4
  · simp only [h4, show (((4 : Nat) : Int) == 4) = true from rfl, if_true, impl_within_eq, Option.bind_some]
    rw [ContainsFunc_Lint_eq (fun b => !inn b 0 400) hl (fun x _ => rfl)]
    simp only [Option.bind_some, not_any_not]
    cases ha : l.all (fun b => inn b 0 400) with
    | false => simp
    | true =>
      rw [List.all_eq_true] at ha
      rw [if_pos rfl, impl_total_eq l (by omega) fun b hb => by have := ha b hb; simpa [inn] using this]
      simp
  · have h5 : ((l.length : Int) == 4) = false := by simp; omega
    have h6 : (l.length == 4) = false := by simpa using h4
    simp [h5, h6]
theorem spec_GoodSums_eq (l : List Int) (hl : l.length ≤ maxLen) : S_spec_GoodSums l = some ((goodSums l, ()), ()) := by
  unfold S_spec_GoodSums
  refine lim_eq (l.length + 1) fun N hN => ?_
  unfold p_spec_GoodSums
  refine loopN_over l hl (fun i (s : Int) => ((l, s, l, (l.length : Int), (i : Int), ()), ())) (fun i t s => (((l.length == 4) && (t.all fun b => inn b 0 400) && (s + addAll t == 400), ()), ())) (fun i t s => l.length = 4 → 0 ≤ s ∧ s ≤ 400 * i)
    0 rfl (by simp [goodSums]) (fun _ => ⟨by omega, by omega⟩) hN (fun rec s h => ?_) (fun rec i b t s hat hI hrec => ?_)
  · dsimp only
    simp only [lenInt_lt_irrefl, decide_false, Bool.false_eq_true, if_false, addAll, List.all_nil, Bool.and_true, Int.add_zero]
    by_cases h4 : l.length = 4
    · simp [h4]
    · have h5 : ((l.length : Int) == 4) = false := by simp; omega
      have h6 : (l.length == 4) = false := by simpa using h4
      simp [h5, h6]
  · have hlt := hat.ltn
    dsimp only
    simp only [hat.lt, hat.nn, hat.wrap, hat.rd, decide_true, if_true, spec_l1In_eq, Option.bind_some, List.all_cons]
    cases hb : inn b 0 400 with
    | false => simp
    | true =>
      have hb' := inn_iff.1 hb
      simp only [Bool.not_true, Bool.false_eq_true, if_false, Bool.true_and]
      by_cases h4 : l.length = 4
      · obtain ⟨h1, h2⟩ := hI h4
        rw [wrap_small (n := s + b) (by omega) (by omega)]
        refine (hrec (s + b) fun _ => ⟨by omega, by omega⟩).trans ?_
        simp only [addAll, Int.add_assoc]
      · refine (hrec _ fun h => absurd h h4).trans ?_
        have h6 : (l.length == 4) = false := by simpa using h4
        simp [h6]
abbrev CheckT := List (List Int) × (List Int × Unit)
theorem eq_Check : EqOk S_laws_eqCheck := fun a b ha hb => by
  unfold S_laws_eqCheck p_laws_eqCheck
  simp only [eq_IntSS _ _ ha.1 hb.1, eq_IntS _ _ ha.2.1 hb.2.1, Option.bind_some]
  refine (eq_then (eq_then rfl)).trans ?_
  simp only [same_pair a, same_pair a.2, same_unit]
theorem spec_GoodCheck_eq (n : Int) (x : CheckT) (hl : WL.wl x) : S_spec_GoodCheck n x = some ((grp n && (doneB n none x.1 && goodSums x.2.1), ()), ()) := by
  unfold S_spec_GoodCheck p_spec_GoodCheck
  simp only [spec_IsGroup_eq, Option.bind_some]
  cases hg : grp n with
  | false => simp
  | true =>
    simp only [if_true, spec_l18Done_eq hg _ hl.1.1, spec_GoodSums_eq _ hl.2.1.1, Option.bind_some]
    cases doneB n none x.1 <;> simp
theorem impl_GoodCheck_eq (n : Int) (x : CheckT) (hl : WL.wl x) : S_impl_GoodCheck n x = some ((grp n && (doneB n none x.1 && goodSums x.2.1), ()), ()) := by
  unfold S_impl_GoodCheck p_impl_GoodCheck
  simp only [impl_IsGroup_eq, Option.bind_some]
  cases hg : grp n with
  | false => simp
  | true =>
    simp only [if_true, impl_riseInstances_eq hg _ hl.1.1, impl_GoodSums_eq _ hl.2.1.1, Option.bind_some]
    cases doneB n none x.1 <;> simp
inductive Rch (E : Nat → Nat → Prop) : Nat → Nat → Prop where
  | one {a b : Nat} (h : E a b) : Rch E a b
  | more {a b c : Nat} (h : Rch E a b) (k : E b c) : Rch E a c
theorem Rch.trans {E : Nat → Nat → Prop} {a b c : Nat} (h : Rch E a b) (k : Rch E b c) : Rch E a c := by
  induction k with
  | one k => exact .more h k
  | more _ k ih => exact .more ih k
/-- a way whose inner points are below k -/
def Pth (E : Nat → Nat → Prop) : Nat → Nat → Nat → Prop
  | 0, i, j => E i j
  | k + 1, i, j => Pth E k i j ∨ (Pth E k i k ∧ Pth E k k j)
theorem Pth.of {E : Nat → Nat → Prop} {i j : Nat} (h : E i j) : ∀ k, Pth E k i j
  | 0 => h
  | k + 1 => .inl (Pth.of h k)
theorem Pth.trans {E : Nat → Nat → Prop} : ∀ {k m i j : Nat}, m < k → Pth E k i m → Pth E k m j → Pth E k i j
  | 0, m, _, _, h, _, _ => by omega
  | k + 1, m, i, j, h, h1, h2 => by
    rcases Nat.lt_or_ge m k with hm | hm
    · rcases h1 with h1 | ⟨h1, h1'⟩ <;> rcases h2 with h2 | ⟨h2, h2'⟩
      · exact .inl (Pth.trans hm h1 h2)
      · exact .inr ⟨Pth.trans hm h1 h2, h2'⟩
      · exact .inr ⟨h1, Pth.trans hm h1' h2⟩
      · exact .inr ⟨h1, h2'⟩
    · obtain rfl : m = k := by omega
      have a1 : Pth E m i m := by rcases h1 with h1 | h1; exact h1; exact h1.1
      have a2 : Pth E m m j := by rcases h2 with h2 | h2; exact h2; exact h2.2
      exact .inr ⟨a1, a2⟩
def PE (l : List (List Int)) (a b : Nat) : Prop := [(a : Int), (b : Int)] ∈ l
noncomputable def cyc (l : List (List Int)) : Bool := open Classical in decide (∃ i, Rch (PE l) i i)
def okP (n : Int) (p : List Int) : Bool := (p.length == 2) && (p.all fun x => inn x 0 (n - 1))
theorem okP_some {n : Nat} {p : List Int} (h : okP n p = true) : ∃ a b : Nat, p = [(a : Int), (b : Int)] ∧ a < n ∧ b < n := by
  unfold okP at h
  rw [Bool.and_eq_true] at h
  match p, h with
  | [x, y], h =>
    simp only [List.all_cons, List.all_nil, Bool.and_true, Bool.and_eq_true, inn_iff] at h
    exact ⟨x.toNat, y.toNat, by rw [Int.toNat_of_nonneg h.2.1.1, Int.toNat_of_nonneg h.2.2.1], by omega, by omega⟩
theorem PE.lt {l : List (List Int)} {n : Nat} (h : ∀ p ∈ l, okP n p = true) (a b : Nat) (hab : PE l a b) : a < n ∧ b < n := by
  obtain ⟨x, y, he, h1, h2⟩ := okP_some (h _ hab)
  simp only [List.cons.injEq, and_true] at he
  omega
noncomputable def hr (l : List (List Int)) (n : Int) : Bool × Bool × Unit := if (decide (l.length ≤ 2000) && inn n 0 60) && l.all (okP n) then (cyc l, true, ()) else (false, false, ())
abbrev rlist (r : T7) : List Int := r.2.2.2.2.1.2.1
structure GoodR (R : List (List T7)) : Prop where
  n : R.length = 3 ∨ R.length = 5
  six : ∀ x ∈ R, x.length ≤ 6
  len : ∀ x ∈ R, ∀ r ∈ x, (rlist r).length = R.length
  val : ∀ x ∈ R, ∀ r ∈ x, ∀ b ∈ rlist r, 0 ≤ b ∧ b ≤ 6
theorem GoodR.grp {R : List (List T7)} (h : GoodR R) : grp (R.length : Int) = true := by rw [grp_iff]; have := h.n; omega
theorem idxI_lt {β : Type} (q : β → Bool) : ∀ (l : List β) (i : Int), 0 ≤ i → idxI q l i ≥ 0 → idxI q l i < i + (l.length : Int)
  | [], i, h, h' => by simp [idxI] at h'
  | b :: t, i, h, h' => by
    unfold idxI at h' ⊢
    cases hb : q b with
    | true => simp; omega
    | false =>
      rw [hb] at h'
      simp only [Bool.false_eq_true, if_false] at h' ⊢
      have := idxI_lt q t (i + 1) (by omega) h'
      simp only [List.length_cons]
      omega
structure GoodW (n a : Int) (S : List (List Int)) (G : List Int) : Prop where
  grp : grp n = true
  who : 0 ≤ a ∧ a < n
  wl : WL.wl S
  len : G.length = S.length
  val : ∀ b ∈ G, 0 ≤ b ∧ b ≤ 20
theorem GoodW.at {n a : Int} {S : List (List Int)} {G : List Int} (h : GoodW n a S G) {q : List Int → Bool} (hk : idxI q S 0 ≥ 0) : idxI q S 0 < (G.length : Int) ∧ 0 ≤ rd G (idxI q S 0) 0 ∧ rd G (idxI q S 0) 0 ≤ 20 := by
  have h1 := idxI_lt q S 0 (by omega) hk
  have h2 : idxI q S 0 < (G.length : Int) := by rw [h.len]; omega
  have h3 := h.val _ (List.mem_of_getElem? (rd_get (d := 0) hk h2))
  exact ⟨h2, h3⟩
/-- few places, few hosts -/
def goodP (P : List (List Int)) : Prop := P.length ≤ 5 ∧ ∀ p ∈ P, p.length ≤ 6 ∧ ∀ a ∈ p, 0 ≤ a ∧ a ≤ 3
theorem goodP.wl {P : List (List Int)} (h : goodP P) : WL.wl P := ⟨by rw [maxLen_eq]; have := h.1; omega, fun p hp => ⟨by rw [maxLen_eq]; have := (h.2 p hp).1; omega, fun _ _ => trivial⟩⟩
/-- a text of these bytes -/
def bs (l : List UInt8) : ByteArray := ⟨l.toArray⟩
theorem bs_data (l : List UInt8) : (bs l).data.toList = l := by simp [bs]
theorem bs_of (s : ByteArray) : bs s.data.toList = s := by cases s; simp [bs]
theorem bs_size (l : List UInt8) : (bs l).size = l.length := by simp [bs, ByteArray.size]
theorem bs_append (a b : List UInt8) : bs a ++ bs b = bs (a ++ b) := by
  apply ByteArray.ext
  rw [ByteArray.data_append]
  simp [bs]
theorem nil_bs : (⟨#[]⟩ : ByteArray) = bs [] := rfl
theorem one_bs (c : UInt8) : (⟨#[c]⟩ : ByteArray) = bs [c] := rfl
theorem nDigits_le : ∀ (k u : Nat), u < 10 ^ (k + 1) → nDigits u ≤ k + 1
  | 0, u, h => by rw [nDigits_small (by simpa using h)]; omega
  | k + 1, u, h => by
    by_cases h1 : u < 10
    · rw [nDigits_small h1]; omega
    · rw [nDigits_big h1]
      rw [Nat.pow_succ] at h
      have := nDigits_le k (u / 10) (by omega)
      omega
theorem digits_len {u : Nat} (h : u ≤ 9223372036854775807) : (decDigits u).length ≤ 19 := by
  rw [decDigits_length]
  exact nDigits_le 18 u (by omega)
/-- the digits of a number that is not negative -/
def num (n : Int) : List UInt8 := decDigits n.toNat
/-- is it a number of the machine's? -/
def I64 (n : Int) : Prop := -9223372036854775808 ≤ n ∧ n ≤ 9223372036854775807
theorem num_len {n : Int} (h : I64 n) : (num n).length ≤ 19 := digits_len (by have := h.2; omega)
theorem itoa_eq {n : Int} (h0 : 0 ≤ n) (h : I64 n) : S_strconv_Itoa n = some ((bs (num n), ()), ()) := by
  unfold S_strconv_Itoa
  rw [if_pos (show _ ∧ _ from h)]
  obtain ⟨u, rfl⟩ := Int.eq_ofNat_of_zero_le h0
  unfold itoa num
  rw [if_neg (by omega)]; rfl
theorem join_eq (ws : List (List UInt8)) (sep : List UInt8) (h1 : ws.length ≤ 140737488355328) (h2 : (join ws sep).length ≤ 140737488355328) : S_strings_Join (ws.map bs) (bs sep) = some ((bs (join ws sep), ()), ()) := by
  unfold S_strings_Join
  have e : (ws.map bs).map (fun x => x.data.toList) = ws := by
    rw [List.map_map]
    exact (List.map_congr_left fun x _ => bs_data x).trans (List.map_id _)
  rw [e, bs_data, if_pos ⟨by simpa using h1, h2⟩]
  rfl
theorem joinTail_cons (sep x : List UInt8) (r : List (List UInt8)) : joinTail sep (x :: r) = sep ++ x ++ joinTail sep r := by simp [joinTail]
theorem lens_le {k : Nat} : ∀ (ws : List (List UInt8)), (∀ w ∈ ws, w.length ≤ k) → lens ws ≤ k * ws.length
  | [], _ => by simp [lens]
  | x :: r, h => by
    have h1 := h x (by simp)
    have h2 := lens_le r fun w hw => h w (by simp [hw])
    simp only [lens, List.map_cons, List.sum_cons, List.length_cons, Nat.mul_succ] at h2 ⊢
    omega
theorem join_len {k : Nat} (ws : List (List UInt8)) (sep : List UInt8) (h : ∀ w ∈ ws, w.length ≤ k) : (join ws sep).length ≤ (sep.length + k) * ws.length := by
  cases ws with
  | nil => simp [join_nil]
  | cons x r =>
    rw [join_length]
    have h1 := lens_le (x :: r) h
    have h2 : sep.length * r.length ≤ sep.length * (x :: r).length := Nat.mul_le_mul_left _ (by simp)
    rw [Nat.add_mul]
    omega
/-- a number that is not negative -/
def Nn (n : Int) : Prop := 0 ≤ n ∧ I64 n
theorem nn_num {n : Int} (h : Nn n) : (num n).length ≤ 19 := num_len h.2
theorem nn_of {n : Int} (h : 0 ≤ n) (h' : n ≤ 9223372036854775807) : Nn n := ⟨h, by unfold I64; omega⟩
theorem mem_snoc {β : Type} {s : List β} {x : β} {P : β → Prop} (h : ∀ w ∈ s, P w) (hx : P x) : ∀ w ∈ s ++ [x], P w := by
  intro w hw
  rcases List.mem_append.1 hw with hw | hw
  · exact h w hw
  · simp at hw; subst hw; exact hx
theorem impl_joined_eq (c : UInt8) (l : List Int) (hl : l.length ≤ 1048576) (h : ∀ x ∈ l, Nn x) : S_impl_joined (bs [c]) l = some ((bs (join (l.map num) [c]), ()), ()) := by
  unfold S_impl_joined
  refine lim_eq (l.length + 1) fun N hN => ?_
  unfold p_impl_joined
  refine loopN_over l (by rw [maxLen_eq]; omega) (fun i (s : List (List UInt8)) => ((bs [c], l, (l.length : Int), (i : Int), ()), s.map bs, ())) (fun i t s => ((bs (join (s ++ t.map num) [c]), ()), ())) (fun i t s => s.length = i ∧ i ≤ l.length ∧ ∀ w ∈ s, w.length ≤ 19)
    [] rfl rfl ⟨rfl, by omega, by simp⟩ hN (fun rec s hs => ?_) (fun rec i b t s hat hs hrec => ?_)
  · obtain ⟨hs1, hs2, hs3⟩ := hs
    have hj := join_len s [c] hs3
    simp only [List.length_singleton] at hj
    dsimp only
    simp only [lenInt_lt_irrefl, decide_false, Bool.false_eq_true, if_false, List.map_nil, List.append_nil]
    rw [join_eq s [c] (by omega) (by omega)]
    rfl
  · obtain ⟨hs1, hs2, hs3⟩ := hs
    have hb := h b hat.mem
    have hi := hat.ltn
    have hr := hrec (s ++ [num b]) ⟨by simp; omega, by omega, mem_snoc hs3 (nn_num hb)⟩
    simp only [List.map_append, List.map_cons, List.map_nil] at hr
    dsimp only
    simp only [hat.lt, hat.nn, hat.wrap, hat.rd, decide_true, if_true, itoa_eq hb.1 hb.2, Option.bind_some, List.length_map, List.length_singleton]
    rw [decide_eq_true (by omega), if_pos rfl]
    refine hr.trans ?_
    simp
/-- an instance's text -/
def instText : List Int → List UInt8
  | [a, b] => num a ++ [46] ++ num b
  | _ => []
/-- two numbers that are not negative -/
def Two (x : List Int) : Prop := ∃ a b, x = [a, b] ∧ Nn a ∧ Nn b
theorem two_len {x : List Int} (h : Two x) : (instText x).length ≤ 39 := by
  obtain ⟨a, b, rfl, ha, hb⟩ := h
  have h1 := nn_num ha
  have h2 := nn_num hb
  simp [instText]; omega
/-- a checkpoint's text -/
def checkText (x : T1) : List UInt8 := join (x.1.map instText) [32] ++ [124] ++ join (x.2.1.map num) [44]
theorem impl_checkText_eq (x : T1) (h1 : x.1.length ≤ 1048576) (h2 : x.2.1.length ≤ 1048576) (hx : ∀ y ∈ x.1, Two y) (hs : ∀ y ∈ x.2.1, Nn y) : S_impl_checkText x = some ((bs (checkText x), ()), ()) := by
  obtain ⟨l, m, ⟨⟩⟩ := x
  dsimp only at h1 h2 hx hs
  unfold S_impl_checkText
  refine lim_eq (l.length + 1) fun N hN => ?_
  unfold p_impl_checkText
  refine loopN_over l (by rw [maxLen_eq]; omega) (fun i (s : List (List UInt8)) => ((l, (l.length : Int), (i : Int), ()), (l, m, ()), s.map bs, ())) (fun i t s => ((bs (join (s ++ t.map instText) [32] ++ [124] ++ join (m.map num) [44]), ()), ())) (fun i t s => s.length = i ∧ i ≤ l.length ∧ ∀ w ∈ s, w.length ≤ 39)
    [] rfl rfl ⟨rfl, by omega, by simp⟩ hN (fun rec s hs' => ?_) (fun rec i b t s hat hs' hrec => ?_)
  · obtain ⟨hs1, hs2, hs3⟩ := hs'
    have hj := join_len (m.map num) [44] (k := 19) (by intro w hw; obtain ⟨y, hy, rfl⟩ := List.mem_map.1 hw; exact nn_num (hs y hy))
    have hk := join_len s [32] hs3
    simp only [List.length_singleton, List.length_map] at hj hk
    dsimp only
    simp only [lenInt_lt_irrefl, decide_false, Bool.false_eq_true, if_false, List.map_nil, List.append_nil, one_bs]
    rw [join_eq s [32] (by omega) (by omega)]
    simp only [Option.bind_some, bs_append, bs_size, impl_joined_eq 44 m h2 hs, List.length_append, List.length_singleton]
    rw [decide_eq_true (by omega), if_pos rfl, decide_eq_true (by omega), if_pos rfl]
  · obtain ⟨hs1, hs2, hs3⟩ := hs'
    have htw := hx b hat.mem
    have hi := hat.ltn
    have hr := hrec (s ++ [instText b]) ⟨by simp; omega, by omega, mem_snoc hs3 (two_len htw)⟩
    obtain ⟨a, c, rfl, ha, hc⟩ := htw
    have hal := nn_num ha
    have hcl := nn_num hc
    have e0 : ∀ d, rd [a, c] (0 : Int) d = a := fun d => rfl
    have e1 : ∀ d, rd [a, c] (1 : Int) d = c := fun d => rfl
    simp only [List.map_append, List.map_cons, List.map_nil, instText] at hr
    dsimp only
    simp only [hat.lt, hat.nn, hat.wrap, hat.rd, e0, e1, decide_true, if_true, Int.le_refl, show (0 : Int) ≤ 1 by omega, show (0 : Int) < (([a, c] : List Int).length : Int) by simp, show (1 : Int) < (([a, c] : List Int).length : Int) by simp, itoa_eq ha.1 ha.2, itoa_eq hc.1 hc.2, Option.bind_some, one_bs, bs_append, bs_size, List.length_append, List.length_singleton, List.length_map]
    rw [decide_eq_true (by omega), if_pos rfl, decide_eq_true (by omega), if_pos rfl, decide_eq_true (by omega), if_pos rfl]
    refine hr.trans ?_
    simp [instText]
theorem doneB_two {n : Int} (hg : grp n = true) : ∀ (l : List (List Int)) (p : Option (List Int)), doneB n p l = true → ∀ y ∈ l, Two y
  | [], _, _, y, hy => by cases hy
  | x :: r, p, h, y, hy => by
    simp only [doneB, Bool.and_eq_true] at h
    rcases List.mem_cons.1 hy with rfl | hy
    · have h1 := h.1.1
      unfold instOf at h1
      split at h1
      · rename_i a b
        simp only [inst, Bool.and_eq_true, inn_iff] at h1
        have hn := grp_iff.1 hg
        exact ⟨a, b, rfl, nn_of h1.1.1 (by omega), nn_of (by omega) (by omega)⟩
      · cases h1
    · exact doneB_two hg r _ h.2 y hy
theorem goodSums_nn {l : List Int} (h : goodSums l = true) : ∀ y ∈ l, Nn y := by
  simp only [goodSums, Bool.and_eq_true, List.all_eq_true] at h
  intro y hy
  have := inn_iff.1 (h.1.2 y hy)
  exact nn_of this.1 (by omega)
theorem bt_bs {l : List UInt8} {i : Nat} {b : UInt8} (h : l[i]? = some b) : bt (bs l) (i : Int) = (b.toNat : Int) := by
  obtain ⟨hi, hb⟩ := List.getElem?_eq_some_iff.1 h
  unfold bt
  rw [dif_pos (by rw [bs_size]; simpa using hi)]
  subst hb
  rfl
/-- a piece ahead of the first -/
def pre (x : List UInt8) : List (List UInt8) → List (List UInt8)
  | [] => [x]
  | y :: r => (x ++ y) :: r
/-- the pieces of a text, cut at each b -/
def splitL (b : UInt8) : List UInt8 → List (List UInt8)
  | [] => [[]]
  | c :: t => if c == b then [] :: splitL b t else pre [c] (splitL b t)
theorem splitL_ne (b : UInt8) : ∀ l, splitL b l ≠ []
  | [] => by simp [splitL]
  | c :: t => by
    unfold splitL
    split
    · simp
    · cases splitL b t <;> simp [pre]
theorem pre_pre (x y : List UInt8) (r : List (List UInt8)) (h : r ≠ []) : pre x (pre y r) = pre (x ++ y) r := by
  cases r with
  | nil => exact absurd rfl h
  | cons a r => simp [pre]
theorem pre_nil (r : List (List UInt8)) (h : r ≠ []) : pre [] r = r := by
  cases r with
  | nil => exact absurd rfl h
  | cons a r => simp [pre]
theorem splitL_app (b : UInt8) : ∀ (x y : List UInt8), b ∉ x → splitL b (x ++ y) = pre x (splitL b y)
  | [], y, _ => by rw [List.nil_append, pre_nil _ (splitL_ne b y)]
  | c :: x, y, h => by
    simp only [List.mem_cons, not_or] at h
    have hc : (c == b) = false := by simpa using fun e => h.1 e.symm
    simp only [List.cons_append, splitL, hc, Bool.false_eq_true, if_false]
    rw [splitL_app b x y h.2, pre_pre _ _ _ (splitL_ne b y)]
    rfl
theorem splitL_none (b : UInt8) (x : List UInt8) (h : b ∉ x) : splitL b x = [x] := by
  have := splitL_app b x [] h
  simpa [splitL, pre] using this
theorem splitL_hit (b : UInt8) (x y : List UInt8) (h : b ∉ x) : splitL b (x ++ b :: y) = x :: splitL b y := by
  rw [splitL_app b x _ h]
  simp [splitL, pre]
theorem mem_split {b : UInt8} : ∀ {l : List UInt8}, b ∈ l → ∃ x y, l = x ++ b :: y ∧ b ∉ x
  | [], h => by cases h
  | c :: t, h => by
    by_cases hc : c = b
    · subst hc; exact ⟨[], t, rfl, by simp⟩
    · rcases List.mem_cons.1 h with h | h
      · exact absurd h.symm hc
      · obtain ⟨x, y, rfl, hx⟩ := mem_split h
        exact ⟨c :: x, y, rfl, by simp only [List.mem_cons, not_or]; exact ⟨fun e => hc e.symm, hx⟩⟩
theorem join_split (b : UInt8) : ∀ l : List UInt8, join (splitL b l) [b] = l
  | [] => by simp [splitL, join_one]
  | c :: t => by
    have ih := join_split b t
    have hne := splitL_ne b t
    unfold splitL
    split
    · rename_i h
      simp only [beq_iff_eq] at h
      subst h
      cases h2 : splitL c t with
      | nil => exact absurd h2 hne
      | cons x r =>
        rw [h2] at ih
        rw [join_cons, joinTail_cons, List.nil_append, List.append_assoc, ← join_cons, ih]; rfl
    · cases h2 : splitL b t with
      | nil => exact absurd h2 hne
      | cons x r =>
        rw [h2, join_cons] at ih
        simp only [pre, join_cons, List.cons_append, List.nil_append, ih]
theorem index_none {b : UInt8} : ∀ {l : List UInt8}, b ∉ l → index l [b] = -1
  | [], _ => rfl
  | c :: t, h => by
    simp only [List.mem_cons, not_or] at h
    have hc : (b == c) = false := by simpa using h.1
    simp only [index, List.isPrefixOf, hc, Bool.false_and, Bool.false_eq_true, if_false, index_none h.2, beq_self_eq_true, if_true]
theorem index_hit {b : UInt8} : ∀ {x : List UInt8} (y : List UInt8), b ∉ x → index (x ++ b :: y) [b] = (x.length : Int)
  | [], y, _ => by simp [index, List.isPrefixOf]
  | c :: x, y, h => by
    simp only [List.mem_cons, not_or] at h
    have hc : (b == c) = false := by simpa using h.1
    have ih := index_hit y h.2
    simp only [List.cons_append, index, List.isPrefixOf, hc, Bool.false_and, Bool.false_eq_true, if_false, ih]
    have : ((x.length : Int) == -1) = false := by simp
    rw [this]
    simp
theorem splitK_eq (b : UInt8) : ∀ (n : Nat) (l : List UInt8), l.length ≤ n → splitK [b] 0 (count l [b]) l = splitL b l := by
  intro n
  induction n with
  | zero =>
    intro l hl
    obtain rfl := List.eq_nil_of_length_eq_zero (Nat.le_zero.1 hl)
    rfl
  | succ n ih =>
    intro l hl
    by_cases h : b ∈ l
    · obtain ⟨x, y, rfl, hx⟩ := mem_split h
      have hi := index_hit y hx
      have hd : (x ++ b :: y).drop (x.length + [b].length) = y := by
        rw [show x ++ b :: y = (x ++ [b]) ++ y by simp, List.drop_left' (by simp)]
      rw [count_hit (by simp) hi, Nat.add_comm 1, splitK, hi]
      have : ((x.length : Int) == -1) = false := by simp
      rw [this]
      simp only [Bool.false_eq_true, if_false, Int.toNat_natCast, Nat.add_zero, hd]
      rw [ih y (by simp at hl; omega), splitL_hit b x y hx, List.take_left]
    · rw [count_miss (index_none h), splitL_none b l h]
      rfl
theorem map_data {L : List ByteArray} {M : List (List UInt8)} (h : L.map (fun s => s.data.toList) = M) : L = M.map bs := by
  subst h
  rw [List.map_map]
  exact ((List.map_congr_left fun x _ => bs_of x).trans (List.map_id _)).symm
theorem Split_eq (b : UInt8) (l : List UInt8) (h : l.length ≤ 1048576) : S_strings_Split (bs l) (bs [b]) = some (((splitL b l).map bs, ()), ()) := by
  unfold S_strings_Split
  rw [if_pos ⟨by rw [bs_size]; omega, by rw [bs_size]; simp⟩]
  have e := splitB_data (bs [b]) 0 (countB (bs l) (bs [b])) (bs l)
  rw [bs_data, bs_data] at e
  have e2 : countB (bs l) (bs [b]) = count l [b] := by
    unfold countB
    rw [bs_data, bs_data]
  rw [e2, splitK_eq b l.length l (Nat.le_refl _)] at e
  rw [e2, map_data e]
/-- a text cut at the first b -/
def cutL (b : UInt8) : List UInt8 → List UInt8 × List UInt8 × Bool
  | [] => ([], [], false)
  | c :: t => if c == b then ([], t, true) else (c :: (cutL b t).1, (cutL b t).2)
theorem cutL_none {b : UInt8} : ∀ {x : List UInt8}, b ∉ x → cutL b x = (x, [], false)
  | [], _ => rfl
  | c :: x, h => by
    simp only [List.mem_cons, not_or] at h
    have hc : (c == b) = false := by simpa using fun e => h.1 e.symm
    simp only [cutL, hc, Bool.false_eq_true, if_false, cutL_none h.2]
theorem cutL_hit {b : UInt8} : ∀ {x : List UInt8} (y : List UInt8), b ∉ x → cutL b (x ++ b :: y) = (x, y, true)
  | [], y, _ => by simp [cutL]
  | c :: x, y, h => by
    simp only [List.mem_cons, not_or] at h
    have hc : (c == b) = false := by simpa using fun e => h.1 e.symm
    simp only [List.cons_append, cutL, hc, Bool.false_eq_true, if_false, cutL_hit y h.2]
theorem Cut_eq (b : UInt8) (l : List UInt8) (h : l.length ≤ 1048576) : S_strings_Cut (bs l) (bs [b]) = some ((bs (cutL b l).1, bs (cutL b l).2.1, (cutL b l).2.2, ()), ()) := by
  unfold S_strings_Cut
  rw [if_pos (by rw [bs_size]; omega), bs_data, bs_data]
  have e : cut l [b] = cutL b l := by
    unfold cut
    by_cases hb : b ∈ l
    · obtain ⟨x, y, rfl, hx⟩ := mem_split hb
      have hd : (x ++ b :: y).drop (x.length + [b].length) = y := by
        rw [show x ++ b :: y = (x ++ [b]) ++ y by simp, List.drop_left' (by simp)]
      rw [index_hit y hx, if_pos (by omega), Int.toNat_natCast, hd, List.take_left, cutL_hit y hx]
    · rw [index_none hb, if_neg (by omega), cutL_none hb]
  rw [e]
  rfl
theorem bs_extract (l : List UInt8) (i j : Nat) : (bs l).extract i j = bs ((l.take j).drop i) := by
  apply ByteArray.ext
  apply Array.toList_inj.1
  rw [extract_data, bs_data, bs_data, List.drop_take]
theorem spec_l1Split_eq (b : UInt8) (l : List UInt8) (hl : l.length ≤ 1048576) : S_spec_l1Split (bs l) (b.toNat : Int) = some (((splitL b l).map bs, ()), ()) := by
  unfold S_spec_l1Split
  refine lim_eq (l.length + 1) fun N hN => ?_
  unfold p_spec_l1Split
  refine loopN_over l (by rw [maxLen_eq]; omega) (fun i (s : Nat × List (List UInt8)) => ((bs l, (b.toNat : Int), (s.1 : Int), (i : Int), ()), ([], s.2.map bs, ()))) (fun i t s => (((s.2 ++ pre ((l.take i).drop s.1) (splitL b t)).map bs, ()), ())) (fun i t s => s.1 ≤ i ∧ i ≤ l.length ∧ s.2.length ≤ i)
    (0, []) rfl ?_ ⟨by simp, by simp, by simp⟩ hN (fun rec s hs => ?_) (fun rec i c t s hat hs hrec => ?_)
  · simp [pre_nil _ (splitL_ne b l)]
  · obtain ⟨f, out⟩ := s
    obtain ⟨h1, h2, h3⟩ := hs
    dsimp only at h1 h2 h3 ⊢
    simp only [bs_size, lenInt_lt_irrefl, decide_false, Bool.false_eq_true, if_false, Int.toNat_natCast, bs_extract, List.length_map, List.length_singleton]
    rw [decide_eq_true (by omega), if_pos rfl, decide_eq_true (by omega), if_pos rfl, decide_eq_true (by omega), if_pos rfl, decide_eq_true (by omega), if_pos rfl, decide_eq_true (by omega), if_pos rfl]
    simp [splitL, pre]
  · obtain ⟨f, out⟩ := s
    obtain ⟨h1, h2, h3⟩ := hs
    have hi := hat.ltn
    dsimp only at h1 h2 h3 ⊢
    simp only [bs_size, hat.lt, hat.nn, hat.wrap, bt_bs hat.get, decide_true, if_true, Int.toNat_natCast, bs_extract, List.length_map, List.length_singleton]
    have htk : l.take (i + 1) = l.take i ++ [c] := by rw [List.take_add_one, hat.get]; rfl
    by_cases hc : c = b
    · subst hc
      rw [if_pos (by simp), decide_eq_true (by omega), if_pos rfl, decide_eq_true (by omega), if_pos rfl, decide_eq_true (by omega), if_pos rfl, decide_eq_true (by omega), if_pos rfl]
      have hr := hrec (i + 1, out ++ [(l.take i).drop f]) ⟨by simp, by omega, by simp; omega⟩
      simp only [List.map_append, List.map_cons, List.map_nil] at hr
      refine hr.trans ?_
      have e : (l.take (i + 1)).drop (i + 1) = [] := by simp
      have e2 : splitL c (c :: t) = [] :: splitL c t := by simp [splitL]
      rw [e, e2, pre_nil _ (splitL_ne c t)]
      simp [pre]
    · have hn : ((c.toNat : Int) == (b.toNat : Int)) = false := by
        simp only [beq_eq_false_iff_ne, ne_eq]
        intro e
        exact hc (UInt8.toNat_inj.1 (by omega))
      rw [hn, if_neg (by simp)]
      refine (hrec (f, out) ⟨by simp; omega, by omega, by simp; omega⟩).trans ?_
      have hcb : (c == b) = false := by simpa using hc
      have e2 : splitL b (c :: t) = pre [c] (splitL b t) := by simp [splitL, hcb]
      rw [e2, pre_pre _ _ _ (splitL_ne b t), htk, List.drop_append_of_le_length (by simp; omega)]
def isD (c : UInt8) : Bool := decide (48 ≤ c.toNat) && decide (c.toNat ≤ 57)
def valL : List UInt8 → Int → Int
  | [], n => n
  | c :: t, n => valL t (10 * n + ((c.toNat : Int) - 48))
def numeral (l : List UInt8) : Bool := (!l.isEmpty) && (l.all isD && (!(l.headD 0 == 48) || l.length == 1))
/-- the number that a text of at most so many digits is, else -1 -/
def readN (most : Nat) (l : List UInt8) : Int := if decide (l.length ≤ most) && numeral l then valL l 0 else -1
def ten : Nat → Int
  | 0 => 1
  | i + 1 => 10 * ten i
theorem ten_le : ∀ i, i ≤ 6 → ten i ≤ 1000000 := by
  intro i hi
  have hall : ∀ j : Fin 7, ten j.val ≤ 1000000 := by decide
  exact hall ⟨i, by omega⟩
theorem dig_step {c : UInt8} (h : 48 ≤ c.toNat) : IntKind.i64.wrap (IntKind.u8.wrap ((c.toNat : Int) - 48)) = (c.toNat : Int) - 48 := by
  have := c.toNat_lt
  rw [IntKind.wrap_u8, Int.emod_eq_of_lt (by omega) (by omega), wrap_small (by omega) (by omega)]
theorem spec_read_loop (l : List UInt8) (h6 : l.length ≤ 6) {N : Nat} (hN : l.length < N) :
    (loopN N (fun rec2 (d3 : (ByteArray × Int × Int × Unit) × (Unit)) => (if (decide (d3.1.2.2.1 < (d3.1.1.size : Int))) then (if (decide (0 ≤ d3.1.2.2.1)) then (if (decide (d3.1.2.2.1 < d3.1.1.size)) then (if (decide ((bt d3.1.1 d3.1.2.2.1) < (48 : Int))) then (some (((-1 : Int), ()), ())) else (if (decide (0 ≤ d3.1.2.2.1)) then (if (decide (d3.1.2.2.1 < d3.1.1.size)) then (if (decide ((bt d3.1.1 d3.1.2.2.1) > (57 : Int))) then (some (((-1 : Int), ()), ())) else (if (decide (0 ≤ d3.1.2.2.1)) then (if (decide (d3.1.2.2.1 < d3.1.1.size)) then (rec2 ((d3.1.1, (IntKind.i64.wrap ((IntKind.i64.wrap ((10 : Int) * d3.1.2.1)) + (IntKind.i64.wrap (IntKind.u8.wrap ((bt d3.1.1 d3.1.2.2.1) - (48 : Int)))))), (IntKind.i64.wrap (d3.1.2.2.1 + (1 : Int))), ()), (()))) else none) else none)) else none) else none)) else none) else none) else (some ((d3.1.2.1, ()), ())))) ((bs l, (0 : Int), (0 : Int), ()), (())))
    = some (((if l.all isD then valL l 0 else -1), ()), ()) := by
  refine loopN_over l (by rw [maxLen_eq]; omega) (fun i (s : Int) => ((bs l, s, (i : Int), ()), ())) (fun i t s => (((if t.all isD then valL t s else -1), ()), ())) (fun i t s => 0 ≤ s ∧ s < ten i)
    0 rfl rfl ⟨by omega, by decide⟩ hN (fun rec s h => ?_) (fun rec i c t s hat h hrec => ?_)
  · dsimp only
    simp only [bs_size, lenInt_lt_irrefl, decide_false, Bool.false_eq_true, if_false, List.all_nil, if_true, valL]
  · obtain ⟨h1, h2⟩ := h
    have hi := hat.ltn
    have ht := ten_le i (by omega)
    have hc := c.toNat_lt
    dsimp only
    simp only [bs_size, hat.lt, hat.nn, hat.wrap, bt_bs hat.get, decide_true, if_true, List.all_cons]
    by_cases c1 : c.toNat < 48
    · rw [decide_eq_true (by omega), if_pos rfl]
      have : isD c = false := by simp only [isD, Bool.and_eq_false_iff, decide_eq_false_iff_not]; omega
      simp [this]
    · rw [decide_eq_false (by omega), if_neg (by simp)]
      by_cases c2 : 57 < c.toNat
      · rw [decide_eq_true (by omega), if_pos rfl]
        have : isD c = false := by simp only [isD, Bool.and_eq_false_iff, decide_eq_false_iff_not]; omega
        simp [this]
      · have hd : isD c = true := by simp only [isD, Bool.and_eq_true, decide_eq_true_eq]; omega
        rw [decide_eq_false (by omega), if_neg (by simp), dig_step (by omega), wrap_small (n := 10 * s) (by omega) (by omega), wrap_small (n := 10 * s + ((c.toNat : Int) - 48)) (by omega) (by omega)]
        refine (hrec _ ⟨by omega, by simp only [ten]; omega⟩).trans ?_
        simp only [hd, Bool.true_and, valL]
theorem head_bt {l : List UInt8} (h : l ≠ []) : ((bt (bs l) 0) == 48) = (l.headD 0 == 48) := by
  cases l with
  | nil => exact absurd rfl h
  | cons c t =>
    have := bt_bs (l := c :: t) (i := 0) (b := c) rfl
    rw [show ((0 : Nat) : Int) = 0 from rfl] at this
    rw [this, List.headD_cons]
    have hc := c.toNat_lt
    by_cases h : c = 48
    · subst h; rfl
    · have h2 : (c == 48) = false := by simpa using h
      rw [h2, beq_eq_false_iff_ne]
      intro e
      exact h (UInt8.toNat_inj.1 (by show c.toNat = 48; omega))
theorem spec_l1Read_eq (l : List UInt8) : S_spec_l1Read (bs l) = some ((readN 6 l, ()), ()) := by
  unfold S_spec_l1Read
  refine lim_eq 7 fun N hN => ?_
  unfold p_spec_l1Read
  simp only [spec_l1In_eq, Option.bind_some, bs_size]
  unfold readN numeral
  cases l with
  | nil => rfl
  | cons c t =>
    by_cases h6 : (c :: t).length ≤ 6
    · have hin : inn ((c :: t).length : Int) 1 6 = true := inn_iff.2 ⟨by simp; omega, by omega⟩
      have h0 : (0 : Int) < ((c :: t).length : Int) := by simp
      rw [hin, spec_read_loop (c :: t) h6 (by omega), head_bt (by simp)]
      simp only [Bool.not_true, Bool.false_eq_true, if_false, Int.le_refl, h0, decide_true, if_true, List.isEmpty_cons, Bool.not_false, Bool.true_and, h6]
      by_cases hz : (List.headD (c :: t) 0 == 48) = true
      · rw [if_pos hz, hz]
        by_cases h1 : (c :: t).length = 1
        · rw [decide_eq_false (by omega), if_neg (by simp)]
          have : ((c :: t).length == 1) = true := by simpa using h1
          simp only [this, Bool.not_true, Bool.false_or, Bool.and_true, if_true]
        · rw [decide_eq_true (by omega), if_pos rfl]
          have : ((c :: t).length == 1) = false := by simpa using h1
          simp only [this, Bool.not_true, Bool.false_or, Bool.and_false, Bool.false_eq_true, if_false]
      · rw [if_neg hz, Bool.eq_false_iff.2 hz]
        simp
    · have hin : inn ((c :: t).length : Int) 1 6 = false := by rw [Bool.eq_false_iff]; intro h; have := inn_iff.1 h; omega
      rw [hin, decide_eq_false h6]
      simp
theorem impl_digits_eq (most : Nat) (hm : most ≤ 6) (l : List UInt8) (hl : l.length ≤ maxLen) : S_impl_digits (bs l) (most : Int) = some ((readN most l, ()), ()) := by
  unfold S_impl_digits
  refine lim_eq (l.length + 1) fun N hN => ?_
  unfold p_impl_digits
  refine loopN_over l hl (fun i (s : Int) => ((bs l, (most : Int), s, (l.length : Int), (i : Int), ()), ())) (fun i t s => (((if decide (l.length ≤ most) && (t.all isD && ((!l.isEmpty) && (!(l.headD 0 == 48) || l.length == 1))) then valL t s else -1), ()), ())) (fun i t s => 0 ≤ s ∧ i ≤ most ∧ s < ten i ∧ i + t.length = l.length)
    0 (by rw [bs_size]; rfl) ?_ ⟨by omega, by omega, by decide, by omega⟩ hN (fun rec s h => ?_) (fun rec i c t s hat h hrec => ?_)
  · unfold readN numeral
    cases (decide (l.length ≤ most)) <;> cases l.isEmpty <;> cases l.all isD <;> cases (l.headD 0 == 48) <;> cases (l.length == 1) <;> rfl
  · obtain ⟨h1, h2, h3, h4⟩ := h
    have hlen : decide (l.length ≤ most) = true := decide_eq_true (by simp at h4; omega)
    dsimp only
    simp only [lenInt_lt_irrefl, decide_false, Bool.false_eq_true, if_false, List.all_nil, Bool.true_and, valL, hlen]
    cases l with
    | nil =>
      rw [if_pos (by simp [ByteArray.toList_eq, bs])]
      simp
    | cons c t =>
      have hne : ((bs (c :: t)).toList == (⟨#[]⟩ : ByteArray).toList) = false := by
        rw [ByteArray.toList_eq, ByteArray.toList_eq, bs_data]
        simp
      have h0 : (0 : Int) < ((c :: t).length : Int) := by simp
      rw [hne, head_bt (by simp)]
      simp only [Bool.false_eq_true, if_false, bs_size, Int.le_refl, h0, decide_true, if_true, List.isEmpty_cons, Bool.not_false, Bool.true_and]
      by_cases hz : (List.headD (c :: t) 0 == 48) = true
      · rw [if_pos hz, hz]
        by_cases h1 : (c :: t).length = 1
        · rw [decide_eq_false (by omega), if_neg (by simp)]
          have : ((c :: t).length == 1) = true := by simpa using h1
          simp only [this, Bool.not_true, Bool.false_or, Bool.and_true, if_true]
        · rw [decide_eq_true (by omega), if_pos rfl]
          have : ((c :: t).length == 1) = false := by simpa using h1
          simp only [this, Bool.not_true, Bool.false_or, Bool.and_false, Bool.false_eq_true, if_false]
      · rw [if_neg hz, Bool.eq_false_iff.2 hz]
        simp
  · obtain ⟨h1, h2, h3, h4⟩ := h
    have hi := hat.ltn
    have ht := ten_le i (by omega)
    have hc := c.toNat_lt
    simp only [List.length_cons] at h4
    dsimp only
    simp only [bs_size, hat.lt, hat.nn, hat.wrap, bt_bs hat.get, decide_true, if_true, List.all_cons]
    by_cases c1 : c.toNat < 48
    · rw [decide_eq_true (by omega), if_pos rfl]
      have : isD c = false := by simp only [isD, Bool.and_eq_false_iff, decide_eq_false_iff_not]; omega
      simp [this]
    · rw [decide_eq_false (by omega), if_neg (by simp)]
      by_cases c2 : 57 < c.toNat
      · rw [decide_eq_true (by omega), if_pos rfl]
        have : isD c = false := by simp only [isD, Bool.and_eq_false_iff, decide_eq_false_iff_not]; omega
        simp [this]
      · have hd : isD c = true := by simp only [isD, Bool.and_eq_true, decide_eq_true_eq]; omega
        rw [decide_eq_false (by omega), if_neg (by simp)]
        by_cases him : most ≤ i
        · rw [decide_eq_true (by omega), if_pos rfl]
          have : decide (l.length ≤ most) = false := decide_eq_false (by omega)
          simp [this]
        · rw [decide_eq_false (by omega), if_neg (by simp), dig_step (by omega), wrap_small (n := 10 * s) (by omega) (by omega), wrap_small (n := 10 * s + ((c.toNat : Int) - 48)) (by omega) (by omega)]
          refine (hrec _ ⟨by omega, by omega, by simp only [ten]; omega, by omega⟩).trans ?_
          simp only [hd, Bool.true_and, valL]
theorem valL_snoc : ∀ (w : List UInt8) (c : UInt8) (n : Int), valL (w ++ [c]) n = 10 * valL w n + ((c.toNat : Int) - 48)
  | [], _, _ => rfl
  | d :: w, c, n => by simp only [List.cons_append, valL]; exact valL_snoc w c _
theorem isD_iff {c : UInt8} : isD c = true ↔ 48 ≤ c.toNat ∧ c.toNat ≤ 57 := by simp [isD]
/-- digits, no zero ahead -/
theorem digits_val : ∀ (k : Nat) (w : List UInt8), w.length = k + 1 → w.all isD = true → w.headD 0 ≠ 48 → 1 ≤ valL w 0 ∧ decDigits (valL w 0).toNat = w := by
  intro k
  induction k with
  | zero =>
    intro w hl hd h0
    match w, hl with
    | [c], _ =>
      simp only [List.all_cons, List.all_nil, Bool.and_true, isD_iff] at hd
      have hc : c.toNat ≠ 48 := fun e => h0 (UInt8.toNat_inj.1 (by simpa using e))
      simp only [valL]
      refine ⟨by omega, ?_⟩
      rw [decDigits_one (by omega)]
      have : 48 + (10 * 0 + ((c.toNat : Int) - 48)).toNat = c.toNat := by omega
      rw [this, UInt8.ofNat_toNat]
  | succ k ih =>
    intro w hl hd h0
    obtain ⟨v, c, rfl⟩ : ∃ v c, w = v ++ [c] := ⟨w.dropLast, w.getLast (by intro e; simp [e] at hl), (List.dropLast_concat_getLast _).symm⟩
    simp only [List.length_append, List.length_singleton] at hl
    simp only [List.all_append, Bool.and_eq_true, List.all_cons, List.all_nil, Bool.and_true] at hd
    have hne : v ≠ [] := by intro e; simp [e] at hl
    have hh : v.headD 0 ≠ 48 := by
      cases v with
      | nil => exact absurd rfl hne
      | cons a r => simpa using h0
    obtain ⟨h1, h2⟩ := ih v (by omega) hd.1 hh
    have hc := isD_iff.1 hd.2
    rw [valL_snoc]
    refine ⟨by omega, ?_⟩
    rw [decDigits, dif_neg (by omega)]
    have e1 : (10 * valL v 0 + ((c.toNat : Int) - 48)).toNat / 10 = (valL v 0).toNat := by omega
    have e2 : 48 + (10 * valL v 0 + ((c.toNat : Int) - 48)).toNat % 10 = c.toNat := by omega
    rw [e1, e2, h2, UInt8.ofNat_toNat]
theorem numeral_val {w : List UInt8} (h : numeral w = true) : 0 ≤ valL w 0 ∧ num (valL w 0) = w := by
  simp only [numeral, Bool.and_eq_true, Bool.or_eq_true, Bool.not_eq_true', beq_eq_false_iff_ne, beq_iff_eq] at h
  obtain ⟨h1, h2, h3⟩ := h
  by_cases h0 : w.headD 0 = 48
  · have hl : w.length = 1 := by rcases h3 with h3 | h3; exact absurd h0 h3; exact h3
    match w, hl with
    | [c], _ =>
      simp only [List.headD_cons] at h0
      subst h0
      refine ⟨by decide, ?_⟩
      show decDigits 0 = _
      rw [decDigits_one (by omega)]
      rfl
  · cases w with
    | nil => simp at h1
    | cons c t =>
      obtain ⟨h4, h5⟩ := digits_val t.length (c :: t) (by simp) h2 h0
      exact ⟨by omega, h5⟩
theorem readN_cases (k : Nat) (w : List UInt8) : (readN k w = -1 ∧ (decide (w.length ≤ k) && numeral w) = false) ∨ (w.length ≤ k ∧ numeral w = true ∧ readN k w = valL w 0 ∧ 0 ≤ readN k w ∧ num (readN k w) = w) := by
  unfold readN
  cases h : (decide (w.length ≤ k) && numeral w) with
  | false => exact Or.inl ⟨by simp, by simp⟩
  | true =>
    simp only [Bool.and_eq_true, decide_eq_true_eq] at h
    obtain ⟨h1, h2⟩ := numeral_val h.2
    exact Or.inr ⟨h.1, h.2, by simp, by simpa using h1, by simpa using h2⟩
theorem readN_nn {k : Nat} {w : List UInt8} (h : 0 ≤ readN k w) : w.length ≤ k ∧ numeral w = true ∧ readN k w = valL w 0 ∧ num (readN k w) = w := by
  rcases readN_cases k w with ⟨h1, _⟩ | ⟨h1, h2, h3, _, h4⟩
  · omega
  · exact ⟨h1, h2, h3, h4⟩
theorem readN_up {k m : Nat} {w : List UInt8} (h : 0 ≤ readN k w) (hkm : k ≤ m) : readN m w = readN k w := by
  obtain ⟨h1, h2, h3, _⟩ := readN_nn h
  unfold readN
  rw [decide_eq_true (by omega), decide_eq_true h1, h2]
theorem readN_down {k m : Nat} {w : List UInt8} (h : 0 ≤ readN m w) (hk : (readN m w).toNat < 10 ^ (k + 1)) : readN (k + 1) w = readN m w := by
  obtain ⟨h1, h2, h3, h4⟩ := readN_nn h
  have hl : w.length ≤ k + 1 := by
    rw [← h4]
    unfold num
    rw [decDigits_length]
    exact nDigits_le k _ hk
  unfold readN
  rw [decide_eq_true hl, decide_eq_true h1, h2]
theorem readN_bad {k : Nat} {w : List UInt8} {c : UInt8} (hc : c ∈ w) (h : isD c = false) : readN k w = -1 := by
  rcases readN_cases k w with ⟨h1, _⟩ | ⟨_, h1, _⟩
  · exact h1
  · simp only [numeral, Bool.and_eq_true, List.all_eq_true] at h1
    rw [h1.2.1 c hc] at h; cases h
theorem splitL_mem_of (b c : UInt8) (hbc : c ≠ b) : ∀ (l : List UInt8), c ∈ l → ∃ w ∈ splitL b l, c ∈ w
  | [], h => by cases h
  | d :: t, h => by
    unfold splitL
    by_cases hd : (d == b) = true
    · rw [if_pos hd]
      rcases List.mem_cons.1 h with h | h
      · exact absurd (h.trans (beq_iff_eq.1 hd)) hbc
      · obtain ⟨w, hw, hc⟩ := splitL_mem_of b c hbc t h
        exact ⟨w, by simp [hw], hc⟩
    · rw [if_neg hd]
      cases h2 : splitL b t with
      | nil => exact absurd h2 (splitL_ne b t)
      | cons x r =>
        rcases List.mem_cons.1 h with h | h
        · exact ⟨d :: x, by simp [pre], by simp [h]⟩
        · obtain ⟨w, hw, hc⟩ := splitL_mem_of b c hbc t h
          rw [h2] at hw
          rcases List.mem_cons.1 hw with rfl | hw
          · exact ⟨d :: w, by simp [pre], by simp [hc]⟩
          · exact ⟨w, by simp [pre, hw], hc⟩
theorem splitL_len (b : UInt8) (l : List UInt8) : (splitL b l).length ≤ l.length + 1 ∧ ∀ w ∈ splitL b l, w.length ≤ l.length := by
  induction l with
  | nil => simp [splitL]
  | cons c t ih =>
    unfold splitL
    split
    · refine ⟨by simp only [List.length_cons]; omega, fun w hw => ?_⟩
      rcases List.mem_cons.1 hw with rfl | hw
      · simp
      · have := ih.2 w hw; simp only [List.length_cons]; omega
    · cases h2 : splitL b t with
      | nil => exact absurd h2 (splitL_ne b t)
      | cons x r =>
        rw [h2] at ih
        refine ⟨by simp only [pre, List.length_cons] at ih ⊢; omega, fun w hw => ?_⟩
        simp only [pre, List.mem_cons] at hw
        rcases hw with rfl | hw
        · have := ih.2 x (by simp); simp only [List.cons_append, List.nil_append, List.length_cons]; omega
        · have := ih.2 w (by simp [hw]); simp only [List.length_cons]; omega
def doneOf (x : List UInt8) : List (List Int) := if x = [] then [] else (splitL 32 x).map fun w => (splitL 46 w).map (readN 6)
def sumsOf (y : List UInt8) : List Int := (splitL 44 y).map (readN 6)
def goodCk (n : Int) (x : T1) : Bool := grp n && (doneB n none x.1 && goodSums x.2.1)
/-- what the reference reads -/
def readCk (n : Int) (s : List UInt8) : T1 × Bool :=
  match decide (s.length ≤ 400), splitL 124 s with
  | true, [x, y] => if goodCk n (doneOf x, sumsOf y, ()) then ((doneOf x, sumsOf y, ()), true) else (([], [], ()), false)
  | _, _ => (([], [], ()), false)
def pairOf (w : List UInt8) : List Int := [readN 1 (cutL 46 w).1, readN 1 (cutL 46 w).2.1]
def doneOf1 (x : List UInt8) : List (List Int) := if x = [] then [] else (splitL 32 x).map pairOf
def isOf (x : List UInt8) : Bool := if x = [] then true else (splitL 32 x).all fun w => (cutL 46 w).2.2
def numsOf (k : Nat) (ws : List (List UInt8)) : List Int × Bool := if ws.all fun w => decide (0 ≤ readN k w) then (ws.map (readN k), true) else ([], false)
/-- what the program reads -/
noncomputable def readCk1 (n : Int) (s : List UInt8) : T1 × Bool :=
  let c := cutL 124 s
  let y := numsOf 3 (splitL 44 c.2.1)
  if (y.2 && isOf c.1) && (decide (s.length ≤ 400) && (goodCk n (doneOf1 c.1, y.1, ()) && same (checkText (doneOf1 c.1, y.1, ())) s)) then ((doneOf1 c.1, y.1, ()), true) else (([], [], ()), false)
theorem doneB_all {n : Int} : ∀ {l : List (List Int)} {p : Option (List Int)}, doneB n p l = true → ∀ y ∈ l, instOf n y = true
  | [], _, _, y, hy => by cases hy
  | x :: r, p, h, y, hy => by
    simp only [doneB, Bool.and_eq_true] at h
    rcases List.mem_cons.1 hy with rfl | hy
    · exact h.1.1
    · exact doneB_all h.2 y hy
theorem inst_small {n a b : Int} (hg : grp n = true) (h : inst n a b = true) : 0 ≤ a ∧ a ≤ 9 ∧ 0 ≤ b ∧ b ≤ 9 := by
  simp only [inst, Bool.and_eq_true, inn_iff] at h
  have := grp_iff.1 hg
  omega
/-- a word that is an instance, either way read -/
theorem word_down {n : Int} (hg : grp n = true) (w : List UInt8) (h : instOf n ((splitL 46 w).map (readN 6)) = true) : (cutL 46 w).2.2 = true ∧ pairOf w = (splitL 46 w).map (readN 6) ∧ instText (pairOf w) = w := by
  by_cases hw : (46 : UInt8) ∈ w
  · obtain ⟨x, y, rfl, hx⟩ := mem_split hw
    rw [splitL_hit 46 x y hx] at h ⊢
    have hc := cutL_hit y hx
    by_cases hy : (46 : UInt8) ∈ y
    · obtain ⟨u, v, rfl, hu⟩ := mem_split hy
      rw [splitL_hit 46 u v hu] at h
      cases h2 : splitL 46 v with
      | nil => exact absurd h2 (splitL_ne 46 v)
      | cons p r => rw [h2] at h; simp [instOf] at h
    · rw [splitL_none 46 y hy] at h ⊢
      simp only [List.map_cons, List.map_nil, instOf] at h
      obtain ⟨h1, h2, h3, h4⟩ := inst_small hg h
      have e1 := readN_down (k := 0) h1 (by omega)
      have e2 := readN_down (k := 0) h3 (by omega)
      simp only [Nat.zero_add] at e1 e2
      unfold pairOf
      rw [hc]
      simp only [e1, e2, List.map_cons, List.map_nil, instText]
      refine ⟨trivial, trivial, ?_⟩
      rw [(readN_nn h1).2.2.2, (readN_nn h3).2.2.2]
      simp
  · rw [splitL_none 46 w hw] at h
    simp [instOf] at h
theorem word_up {n : Int} (hg : grp n = true) (w : List UInt8) (h : instOf n (pairOf w) = true) (hi : (cutL 46 w).2.2 = true) : pairOf w = (splitL 46 w).map (readN 6) := by
  by_cases hw : (46 : UInt8) ∈ w
  · obtain ⟨x, y, rfl, hx⟩ := mem_split hw
    rw [splitL_hit 46 x y hx]
    unfold pairOf at h ⊢
    rw [cutL_hit y hx] at h ⊢
    simp only [instOf] at h
    obtain ⟨h1, h2, h3, h4⟩ := inst_small hg h
    have hy : (46 : UInt8) ∉ y := fun hy => by rw [readN_bad hy (by decide)] at h3; omega
    rw [splitL_none 46 y hy]
    simp only [List.map_cons, List.map_nil, readN_up h1 (show 1 ≤ 6 by omega), readN_up h3 (show 1 ≤ 6 by omega)]
  · rw [cutL_none hw] at hi; cases hi
theorem done_down {n : Int} (hg : grp n = true) (x : List UInt8) (h : doneB n none (doneOf x) = true) : isOf x = true ∧ doneOf1 x = doneOf x ∧ join ((doneOf x).map instText) [32] = x := by
  have hall := doneB_all h
  unfold isOf doneOf1 doneOf at *
  by_cases hx : x = []
  · subst hx; simp [join_nil]
  · simp only [if_neg hx] at hall ⊢
    have key : ∀ w ∈ splitL 32 x, (cutL 46 w).2.2 = true ∧ pairOf w = (splitL 46 w).map (readN 6) ∧ instText (pairOf w) = w := fun w hw => word_down hg w (hall _ (List.mem_map.2 ⟨w, hw, rfl⟩))
    refine ⟨List.all_eq_true.2 fun w hw => (key w hw).1, List.map_congr_left fun w hw => (key w hw).2.1, ?_⟩
    rw [List.map_map]
    have : (splitL 32 x).map (instText ∘ fun w => (splitL 46 w).map (readN 6)) = splitL 32 x := by
      refine (List.map_congr_left fun w hw => ?_).trans (List.map_id _)
      obtain ⟨_, e1, e2⟩ := key w hw
      simp only [Function.comp, ← e1, e2, id]
    rw [this, join_split]
theorem done_up {n : Int} (hg : grp n = true) (x : List UInt8) (h : doneB n none (doneOf1 x) = true) (hi : isOf x = true) : doneOf1 x = doneOf x := by
  have hall := doneB_all h
  unfold isOf doneOf1 doneOf at *
  by_cases hx : x = []
  · simp [hx]
  · simp only [if_neg hx] at hall hi ⊢
    exact List.map_congr_left fun w hw => word_up hg w (hall _ (List.mem_map.2 ⟨w, hw, rfl⟩)) (List.all_eq_true.1 hi w hw)
theorem sums_down (y : List UInt8) (h : goodSums (sumsOf y) = true) : numsOf 3 (splitL 44 y) = (sumsOf y, true) ∧ join ((sumsOf y).map num) [44] = y := by
  have h1 : ∀ w ∈ splitL 44 y, 0 ≤ readN 6 w ∧ readN 6 w ≤ 400 := fun w hw => by
    simp only [goodSums, Bool.and_eq_true, List.all_eq_true] at h
    exact inn_iff.1 (h.1.2 _ (List.mem_map.2 ⟨w, hw, rfl⟩))
  have h2 : ∀ w ∈ splitL 44 y, readN 3 w = readN 6 w := fun w hw => readN_down (k := 2) (h1 w hw).1 (by have := (h1 w hw).2; omega)
  refine ⟨?_, ?_⟩
  · unfold numsOf sumsOf
    rw [if_pos (List.all_eq_true.2 fun w hw => by rw [h2 w hw]; simpa using (h1 w hw).1), List.map_congr_left h2]
  · unfold sumsOf
    rw [List.map_map]
    have : (splitL 44 y).map (num ∘ readN 6) = splitL 44 y := (List.map_congr_left fun w hw => (readN_nn (h1 w hw).1).2.2.2).trans (List.map_id _)
    rw [this, join_split]
theorem sums_up (y : List UInt8) (h : (numsOf 3 (splitL 44 y)).2 = true) : (numsOf 3 (splitL 44 y)).1 = sumsOf y := by
  unfold numsOf at h ⊢
  split
  · rename_i hall
    unfold sumsOf
    exact List.map_congr_left fun w hw => (readN_up (by simpa using List.all_eq_true.1 hall w hw) (by omega)).symm
  · rename_i hall; rw [if_neg hall] at h; cases h
theorem readCk_eq (n : Int) (s : List UInt8) : readCk1 n s = readCk n s := by
  have bad : ∀ b : Bool, (b = false) → (if b then (((doneOf1 (cutL 124 s).1, (numsOf 3 (splitL 44 (cutL 124 s).2.1)).1, ()) : T1), true) else (([], [], ()), false)) = (([], [], ()), false) := fun b h => by rw [h]; rfl
  unfold readCk1 readCk
  dsimp only
  by_cases hl : s.length ≤ 400
  · rw [decide_eq_true hl]
    by_cases hs : (124 : UInt8) ∈ s
    · obtain ⟨x, y, rfl, hx⟩ := mem_split hs
      rw [cutL_hit y hx, splitL_hit 124 x y hx]
      by_cases hy : (124 : UInt8) ∈ y
      · have hn : (numsOf 3 (splitL 44 y)).2 = false := by
          obtain ⟨w, hw, hc⟩ := splitL_mem_of 44 124 (by decide) y hy
          unfold numsOf
          rw [if_neg]
          intro hall
          have := List.all_eq_true.1 hall w hw
          rw [readN_bad hc (by decide)] at this
          simp at this
        obtain ⟨u, v, rfl, hu⟩ := mem_split hy
        rw [splitL_hit 124 u v hu]
        cases h2 : splitL 124 v with
        | nil => exact absurd h2 (splitL_ne 124 v)
        | cons p r => simp [hn]
      · rw [splitL_none 124 y hy]
        dsimp only
        by_cases hg : goodCk n (doneOf x, sumsOf y, ()) = true
        · rw [if_pos hg]
          simp only [goodCk, Bool.and_eq_true] at hg
          obtain ⟨d1, d2, d3⟩ := done_down hg.1 x hg.2.1
          obtain ⟨s1, s2⟩ := sums_down y hg.2.2
          rw [s1, d1, d2]
          have hc : checkText (doneOf x, sumsOf y, ()) = x ++ 124 :: y := by
            unfold checkText
            rw [d3, s2]; simp
          rw [hc, same_self]
          simp [goodCk, hg.1, hg.2.1, hg.2.2]
        · rw [if_neg hg, if_neg]
          intro h
          simp only [goodCk, Bool.and_eq_true] at h hg
          obtain ⟨⟨h1, h2⟩, _, ⟨h3, h4, h5⟩, _⟩ := h
          have e1 := sums_up y h1
          have e2 := done_up h3 x h4 h2
          rw [e2] at h4
          rw [e1] at h5
          exact hg ⟨h3, h4, h5⟩
    · rw [cutL_none hs, splitL_none 124 s hs]
      rfl
  · rw [decide_eq_false hl]
    simp
theorem rd_bs {ws : List (List UInt8)} {i : Nat} {w : List UInt8} (h : ws[i]? = some w) (d : ByteArray) : rd (ws.map bs) (i : Int) d = bs w := by
  rw [rd_nat, List.getD_eq_getElem?_getD, List.getElem?_map, h]; rfl
theorem empty_beq (x : List UInt8) : ((bs x).toList == (⟨#[]⟩ : ByteArray).toList) = (x == []) := by
  rw [ByteArray.toList_eq, ByteArray.toList_eq, bs_data]
theorem text_beq (x y : List UInt8) : ((bs x).toList == (bs y).toList) = (x == y) := by
  rw [ByteArray.toList_eq, ByteArray.toList_eq, bs_data, bs_data]
def nres (b : Bool) (x : List Int) : (List Int × Bool × Unit) × Unit := if b then ((x, true, ()), ()) else (([], false, ()), ())
theorem impl_numbers_eq (k : Nat) (hk : k ≤ 6) (ws : List (List UInt8)) (hl : ws.length ≤ 1048577) (hw : ∀ w ∈ ws, w.length ≤ maxLen) : S_impl_numbers (ws.map bs) (k : Int) = some (((numsOf k ws).1, (numsOf k ws).2, ()), ()) := by
  unfold S_impl_numbers
  refine lim_eq (ws.length + 1) fun N hN => ?_
  unfold p_impl_numbers
  refine loopN_over ws (by rw [maxLen_eq]; omega) (fun i (s : List Int) => (((k : Int), ws.map bs, (ws.length : Int), (i : Int), ()), ([], s, ()))) (fun i t s => nres (t.all fun w => decide (0 ≤ readN k w)) (s ++ t.map (readN k))) (fun i t s => s.length = i ∧ i ≤ ws.length)
    [] (by rw [List.length_map]; rfl) (by unfold numsOf nres; split <;> simp) ⟨rfl, by omega⟩ hN (fun rec s hs => ?_) (fun rec i b t s hat hs hrec => ?_)
  · dsimp only
    simp [lenInt_lt_irrefl, nres]
  · obtain ⟨h1, h2⟩ := hs
    have hi := hat.ltn
    dsimp only
    simp only [hat.lt, hat.nn, hat.wrap, rd_bs hat.get, List.length_map, decide_true, if_true, impl_digits_eq k hk b (hw b hat.mem), Option.bind_some, List.all_cons, List.length_singleton]
    by_cases hb : readN k b < 0
    · rw [decide_eq_true hb, if_pos rfl, decide_eq_false (by omega)]
      rfl
    · rw [decide_eq_false hb, if_neg (by simp), decide_eq_true (by omega), if_pos rfl, decide_eq_true (by omega)]
      refine (hrec (s ++ [readN k b]) ⟨by simp; omega, by omega⟩).trans ?_
      simp
/-- how a checkpoint that was read comes back -/
def ckRes (n : Int) (c : T1) : (T1 × Bool × Unit) × Unit := if goodCk n c then ((c, true, ()), ()) else (((([] : List (List Int)), ([] : List Int), ()), false, ()), ())
theorem wl_int_list (l : List Int) (h : l.length ≤ maxLen) : WL.wl l := ⟨h, fun _ _ => trivial⟩
theorem wl_done (x : List UInt8) (hx : x.length ≤ 1048576) (D : List (List Int)) (h1 : D.length ≤ x.length + 1) (h2 : ∀ d ∈ D, d.length ≤ x.length + 1) : WL.wl D :=
  ⟨by rw [maxLen_eq]; omega, fun d hd => wl_int_list d (by have := h2 d hd; rw [maxLen_eq]; omega)⟩
theorem spec_sums_loop {N : Nat} (n : Int) (P : List (List UInt8)) (W : List ByteArray) (D : List (List Int)) (y : List UInt8) (hy : y.length ≤ 1048576) (hN : y.length + 2 ≤ N) (hD : WL.wl D) :
    (loopN N (fun rec10 (d11 : (Int × Int × Int × Unit) × ((Unit) × List ByteArray × (Unit) × List ByteArray × List (List Int) × List ByteArray × List Int × Unit)) => (if (decide (d11.1.2.2.1 < d11.1.2.1)) then (if (decide (0 ≤ d11.1.2.2.1)) then (if (decide (d11.1.2.2.1 < d11.2.2.2.2.2.2.1.length)) then ((S_spec_l1Read (rd d11.2.2.2.2.2.2.1 d11.1.2.2.1 (⟨#[]⟩ : ByteArray))).bind fun y12 => (if (decide ((d11.2.2.2.2.2.2.2.1.length + ([y12.1.1] : List Int).length) * 8 ≤ 140737488355328)) then (rec10 ((d11.1.1, d11.1.2.1, (IntKind.i64.wrap (d11.1.2.2.1 + (1 : Int))), ()), ((()), d11.2.2.1, (()), d11.2.2.2.2.1, d11.2.2.2.2.2.1, d11.2.2.2.2.2.2.1, (d11.2.2.2.2.2.2.2.1 ++ ([y12.1.1] : List Int)), ()))) else none)) else none) else none) else ((S_spec_GoodCheck d11.1.1 (d11.2.2.2.2.2.1, d11.2.2.2.2.2.2.2.1, ())).bind fun y13 => (if (!y13.1.1) then (some (((([] : List (List Int)), ([] : List Int), ()), false, ()), ())) else (some (((d11.2.2.2.2.2.1, d11.2.2.2.2.2.2.2.1, ()), true, ()), ())))))) ((n, (((splitL 44 y).map bs).length : Int), (0 : Int), ()), ((()), P.map bs, (()), W, D, (splitL 44 y).map bs, ([] : List Int), ())))
    = some (ckRes n (D, sumsOf y, ())) := by
  have hsl := (splitL_len 44 y).1
  refine loopN_over (splitL 44 y) (by rw [maxLen_eq]; omega) (fun i (s : List Int) => ((n, ((splitL 44 y).length : Int), (i : Int), ()), ((()), P.map bs, (()), W, D, (splitL 44 y).map bs, s, ()))) (fun i t s => ckRes n (D, s ++ t.map (readN 6), ())) (fun i t s => s.length = i ∧ i ≤ (splitL 44 y).length)
    [] (by rw [List.length_map]; rfl) rfl ⟨rfl, by omega⟩ (by omega) (fun rec s hs => ?_) (fun rec i b t s hat hs hrec => ?_)
  · obtain ⟨h1, h2⟩ := hs
    dsimp only
    simp only [lenInt_lt_irrefl, decide_false, Bool.false_eq_true, if_false, List.map_nil, List.append_nil]
    rw [spec_GoodCheck_eq n (D, s, ()) ⟨hD, wl_int_list s (by rw [maxLen_eq]; omega), trivial⟩]
    unfold ckRes goodCk
    dsimp only
    cases (grp n && (doneB n none D && goodSums s)) <;> rfl
  · obtain ⟨h1, h2⟩ := hs
    have hi := hat.ltn
    dsimp only
    simp only [hat.lt, hat.nn, hat.wrap, rd_bs hat.get, List.length_map, decide_true, if_true, spec_l1Read_eq, Option.bind_some, List.length_singleton]
    rw [decide_eq_true (by omega), if_pos rfl]
    refine (hrec (s ++ [readN 6 b]) ⟨by simp; omega, by omega⟩).trans ?_
    simp
theorem spec_ReadCheck_eq (n : Int) (s : List UInt8) (hs : s.length ≤ 1048576) : S_spec_ReadCheck n (bs s) = some (((readCk n s).1, (readCk n s).2, ()), ()) := by
  unfold S_spec_ReadCheck
  refine lim_eq (s.length + 4) fun N hN => ?_
  unfold p_spec_ReadCheck
  have e124 : S_spec_l1Split (bs s) 124 = _ := spec_l1Split_eq 124 s hs
  rw [e124]
  simp only [Option.bind_some, bs_size, List.length_map]
  unfold readCk
  by_cases hl : s.length ≤ 400
  · rw [decide_eq_false (by omega), if_neg (by simp), decide_eq_true hl]
    have hp := splitL_len 124 s
    match hsp : splitL 124 s, hp with
    | [], _ => exact absurd hsp (splitL_ne 124 s)
    | [x], _ => rfl
    | x :: y :: z :: r, _ =>
      have : (((x :: y :: z :: r).length : Int) != 2) = true := by simp; omega
      rw [if_pos this]
    | [x, y], hp =>
      have hxl := hp.2 x (by simp)
      have hyl := hp.2 y (by simp)
      have e32 : S_spec_l1Split (bs x) 32 = _ := spec_l1Split_eq 32 x (by omega)
      have e44 : S_spec_l1Split (bs y) 44 = _ := spec_l1Split_eq 44 y (by omega)
      have r0 : rd ([x, y].map bs) 0 ⟨#[]⟩ = bs x := rfl
      have r1 : rd ([x, y].map bs) 1 ⟨#[]⟩ = bs y := rfl
      have hW := splitL_len 32 x
      rw [if_neg (by simp)]
      simp only [Int.le_refl, decide_true, if_true, List.length_cons, List.length_nil]
      rw [decide_eq_true (by omega), if_pos rfl, r0, e32, Option.bind_some]
      refine loopN_over (splitL 32 x) (by rw [maxLen_eq]; omega) (fun i (D : List (List Int)) => ((n, ((splitL 32 x).length : Int), (i : Int), ()), ((()), [x, y].map bs, (()), (splitL 32 x).map bs, D, ()))) (fun i t D => ckRes n (if x = [] then D else D ++ t.map (fun w => (splitL 46 w).map (readN 6)), sumsOf y, ()))
        (fun i t D => D.length ≤ i ∧ i ≤ (splitL 32 x).length ∧ ∀ d ∈ D, d.length ≤ x.length + 1) [] (by rw [List.length_map]; rfl) ?_ ⟨by simp, by omega, by simp⟩ (by omega) (fun rec D hD => ?_) (fun rec i b t D hat hD hrec => ?_)
      · unfold ckRes doneOf
        simp only [List.nil_append]
        generalize (if x = [] then ([] : List (List Int)) else (splitL 32 x).map fun w => (splitL 46 w).map (readN 6)) = D
        split <;> rfl
      · obtain ⟨h1, h2, h3⟩ := hD
        dsimp only
        simp only [lenInt_lt_irrefl, decide_false, Bool.false_eq_true, if_false, List.map_nil, List.append_nil, ite_self, r1, e44, Option.bind_some, List.length_map, List.length_cons, List.length_nil, show (0 : Int) ≤ 1 by omega, decide_true, if_true]
        rw [decide_eq_true (by omega), if_pos rfl]
        have := spec_sums_loop (N := N) n [x, y] ((splitL 32 x).map bs) D y (by omega) (by omega) (wl_done x (by omega) D (by omega) h3)
        rw [List.length_map] at this
        exact this
      · obtain ⟨h1, h2, h3⟩ := hD
        have hi := hat.ltn
        dsimp only
        simp only [hat.lt, hat.nn, hat.wrap, List.length_map, Int.le_refl, decide_true, if_true, List.length_cons, List.length_nil, r0, empty_beq]
        rw [decide_eq_true (by omega), if_pos rfl]
        by_cases hx : x = []
        · rw [if_pos (by simp [hx])]
          refine (hrec D ⟨by omega, by omega, h3⟩).trans ?_
          rw [if_pos hx, if_pos hx]
        · have hbl := hW.2 b hat.mem
          have e46 : S_spec_l1Split (bs b) 46 = _ := spec_l1Split_eq 46 b (by omega)
          have hV := splitL_len 46 b
          rw [if_neg (by simp [hx]), rd_bs hat.get, e46, Option.bind_some, List.length_map, if_neg hx]
          refine loopN_over (splitL 46 b) (by rw [maxLen_eq]; omega) (fun j (q : List Int) => ((n, ((splitL 32 x).length : Int), (i : Int), ((splitL 46 b).length : Int), (j : Int), ()), ((()), [x, y].map bs, (()), (splitL 32 x).map bs, D, q, (splitL 46 b).map bs, ()))) (fun j u q => ckRes n (D ++ (q ++ u.map (readN 6)) :: t.map (fun w => (splitL 46 w).map (readN 6)), sumsOf y, ()))
            (fun j u q => q.length = j ∧ j ≤ (splitL 46 b).length) [] rfl (by simp) ⟨rfl, by omega⟩ (by omega) (fun rec6 q hq => ?_) (fun rec6 j c u q hatj hq hrec6 => ?_)
          · obtain ⟨q1, q2⟩ := hq
            dsimp only
            simp only [lenInt_lt_irrefl, decide_false, Bool.false_eq_true, if_false, List.map_nil, List.append_nil, List.length_singleton, hat.wrap]
            rw [decide_eq_true (by omega), if_pos rfl]
            refine (hrec (D ++ [q]) ⟨by simp; omega, by omega, mem_snoc h3 (by omega)⟩).trans ?_
            rw [if_neg hx]; simp
          · obtain ⟨q1, q2⟩ := hq
            have hj := hatj.ltn
            dsimp only
            simp only [hatj.lt, hatj.nn, hatj.wrap, rd_bs hatj.get, List.length_map, decide_true, if_true, spec_l1Read_eq, Option.bind_some, List.length_singleton]
            rw [decide_eq_true (by omega), if_pos rfl]
            refine (hrec6 (q ++ [readN 6 c]) ⟨by simp; omega, by omega⟩).trans ?_
            simp
  · rw [decide_eq_true (by omega), if_pos rfl, decide_eq_false hl]
theorem same_beq (a b : List UInt8) : (a == b) = same a b := same_of (by simp)
theorem cutL_len (b : UInt8) (l : List UInt8) : (cutL b l).1.length ≤ l.length ∧ (cutL b l).2.1.length ≤ l.length := by
  by_cases h : b ∈ l
  · obtain ⟨x, y, rfl, hx⟩ := mem_split h
    rw [cutL_hit y hx]
    simp; omega
  · rw [cutL_none h]; simp
theorem numsOf_len (k : Nat) (ws : List (List UInt8)) : (numsOf k ws).1.length ≤ ws.length := by
  unfold numsOf
  split <;> simp
noncomputable def finR (n : Int) (s : List UInt8) (S : List Int) (ok : Bool) (D : List (List Int)) : (T1 × Bool × Unit) × Unit :=
  if ok && (decide (s.length ≤ 400) && (goodCk n (D, S, ()) && same (checkText (D, S, ())) s)) then (((D, S, ()), true, ()), ()) else (((([] : List (List Int)), ([] : List Int), ()), false, ()), ())
theorem impl_fin (n : Int) (s : List UInt8) (S : List Int) (ok : Bool) (D : List (List Int)) (hD : WL.wl D) (hS : WL.wl S) (h1 : s.length ≤ 400 → D.length ≤ 1048576) (h2 : s.length ≤ 400 → S.length ≤ 1048576) :
    (if (!ok) then (some (((([] : List (List Int)), ([] : List Int), ()), false, ()), ())) else (if (decide ((s.length : Int) > (400 : Int))) then (some (((([] : List (List Int)), ([] : List Int), ()), false, ()), ())) else ((S_impl_GoodCheck n (D, S, ())).bind fun y8 => (if (!y8.1.1) then (some (((([] : List (List Int)), ([] : List Int), ()), false, ()), ())) else ((S_impl_checkText (D, S, ())).bind fun y9 => (if (!(y9.1.1.toList == (bs s).toList)) then (some (((([] : List (List Int)), ([] : List Int), ()), false, ()), ())) else (some (((D, S, ()), true, ()), ()))))))))
    = some (finR n s S ok D) := by
  unfold finR
  cases ok with
  | false => rfl
  | true =>
  by_cases hl : s.length ≤ 400
  · rw [decide_eq_false (by omega), decide_eq_true hl, impl_GoodCheck_eq n (D, S, ()) ⟨hD, hS, trivial⟩, Option.bind_some]
    simp only [Bool.not_true, Bool.false_eq_true, if_false, Bool.true_and]
    cases hg : goodCk n (D, S, ()) with
    | false =>
      have hg' : (grp n && (doneB n none D && goodSums S)) = false := hg
      rw [hg']
      rfl
    | true =>
      have hg' : (grp n && (doneB n none D && goodSums S)) = true := hg
      rw [hg']
      simp only [Bool.and_eq_true] at hg'
      rw [impl_checkText_eq (D, S, ()) (h1 hl) (h2 hl) (doneB_two hg'.1 D none hg'.2.1) (goodSums_nn hg'.2.2), Option.bind_some]
      simp only [Bool.not_true, Bool.false_eq_true, if_false, Bool.true_and, text_beq]
      simp only [same_beq]
      cases same (checkText (D, S, ())) s <;> rfl
  · rw [decide_eq_true (by omega), decide_eq_false hl]
    rfl
theorem impl_ReadCheck_eq (n : Int) (s : List UInt8) (hs : s.length ≤ 1048576) : S_impl_ReadCheck n (bs s) = some (((readCk1 n s).1, (readCk1 n s).2, ()), ()) := by
  unfold S_impl_ReadCheck
  refine lim_eq (s.length + 4) fun N hN => ?_
  unfold p_impl_ReadCheck
  obtain ⟨c1, c2⟩ := cutL_len 124 s
  generalize hx : (cutL 124 s).1 = x at c1
  generalize hy : (cutL 124 s).2.1 = y at c2
  have hW := splitL_len 32 x
  have hY := splitL_len 44 y
  have en : S_impl_numbers ((splitL 44 y).map bs) 3 = _ := impl_numbers_eq 3 (by omega) (splitL 44 y) (by omega) (fun w hw => by have := hY.2 w hw; rw [maxLen_eq]; omega)
  have hnl := numsOf_len 3 (splitL 44 y)
  simp only [one_bs, nil_bs, Cut_eq 124 s (by omega), Option.bind_some, hx, hy, Split_eq 44 y (by omega), en, Split_eq 32 x (by omega)]
  generalize hS : numsOf 3 (splitL 44 y) = S at hnl
  refine loopN_over (splitL 32 x) (by rw [maxLen_eq]; omega) (fun i (q : Bool × List (List Int)) => ((n, bs s, bs x, q.1, ((splitL 32 x).length : Int), (i : Int), ()), ((), (splitL 44 y).map bs, S.1, (), (splitL 32 x).map bs, q.2, ())))
    (fun i t q => if x = [] then finR n s S.1 q.1 q.2 else finR n s S.1 (q.1 && t.all (fun w => (cutL 46 w).2.2)) (q.2 ++ t.map pairOf)) (fun i t q => q.2.length ≤ i ∧ i ≤ (splitL 32 x).length ∧ ∀ d ∈ q.2, d.length = 2)
    (S.2, []) (by rw [List.length_map]; rfl) ?_ ⟨by simp, by omega, by simp⟩ (by omega) (fun rec q hq => ?_) (fun rec i b t q hat hq hrec => ?_)
  · unfold readCk1
    dsimp only
    rw [hx, hy, hS]
    unfold finR isOf doneOf1
    by_cases h0 : x = []
    · simp only [if_pos h0, Bool.and_true]
      split <;> rfl
    · simp only [if_neg h0, List.nil_append]
      split <;> rfl
  · obtain ⟨ok, D⟩ := q
    obtain ⟨q1, q2, q3⟩ := hq
    dsimp only at q1 q2 q3 ⊢
    simp only [lenInt_lt_irrefl, decide_false, Bool.false_eq_true, if_false, List.all_nil, Bool.and_true, List.map_nil, List.append_nil, ite_self, bs_size]
    exact impl_fin n s S.1 ok D ⟨by rw [maxLen_eq]; omega, fun d hd => wl_int_list d (by rw [q3 d hd, maxLen_eq]; omega)⟩ (wl_int_list _ (by rw [maxLen_eq]; omega)) (fun _ => by omega) (fun _ => by omega)
  · obtain ⟨ok, D⟩ := q
    obtain ⟨q1, q2, q3⟩ := hq
    have hi := hat.ltn
    have hbl := hW.2 b hat.mem
    dsimp only at q1 q2 q3 ⊢
    obtain ⟨b1, b2⟩ := cutL_len 46 b
    have ea : S_impl_digits (bs (cutL 46 b).1) 1 = _ := impl_digits_eq 1 (by omega) (cutL 46 b).1 (by rw [maxLen_eq]; omega)
    have eb : S_impl_digits (bs (cutL 46 b).2.1) 1 = _ := impl_digits_eq 1 (by omega) (cutL 46 b).2.1 (by rw [maxLen_eq]; omega)
    simp only [hat.lt, hat.nn, hat.wrap, rd_bs hat.get, List.length_map, decide_true, if_true, Cut_eq 46 b (by omega), Option.bind_some, text_beq, ea, eb, List.length_singleton, bs_size]
    by_cases h0 : x = []
    · rw [if_pos (by simp [h0]), if_pos h0]
      exact impl_fin n s S.1 ok D ⟨by rw [maxLen_eq]; omega, fun d hd => wl_int_list d (by rw [q3 d hd, maxLen_eq]; omega)⟩ (wl_int_list _ (by rw [maxLen_eq]; omega)) (fun _ => by omega) (fun _ => by omega)
    · rw [if_neg (by simp [h0]), if_neg h0]
      rw [decide_eq_true (by omega), if_pos rfl]
      have hr := fun ok' : Bool => hrec (ok', D ++ [pairOf b]) ⟨by simp; omega, by omega, mem_snoc q3 rfl⟩
      cases ok with
      | true =>
        rw [if_pos rfl]
        refine (hr (cutL 46 b).2.2).trans ?_
        rw [if_neg h0]
        simp
      | false =>
        rw [if_neg (by simp)]
        refine (hr false).trans ?_
        rw [if_neg h0]
        simp
theorem readCk_small (n : Int) (s : List UInt8) : (readCk n s).1.1.length ≤ 401 ∧ (∀ d ∈ (readCk n s).1.1, d.length ≤ 401) ∧ (readCk n s).1.2.1.length ≤ 401 := by
  unfold readCk
  split
  · rename_i x y h1 h2
    have hl : s.length ≤ 400 := by simpa using h1
    have hp := splitL_len 124 s
    rw [h2] at hp
    have hx := hp.2 x (by simp)
    have hy := hp.2 y (by simp)
    have hW := splitL_len 32 x
    have hY := splitL_len 44 y
    split
    · dsimp only
      refine ⟨?_, fun d hd => ?_, by unfold sumsOf; rw [List.length_map]; omega⟩
      · unfold doneOf; split
        · simp
        · rw [List.length_map]; omega
      · unfold doneOf at hd; split at hd
        · cases hd
        · obtain ⟨w, hw, rfl⟩ := List.mem_map.1 hd
          have := hW.2 w hw
          have := (splitL_len 46 w).1
          rw [List.length_map]; omega
    · simp
  · simp
theorem law_ReadCheck (n : Int) (s : ByteArray) (N : Nat) : p_laws_FnExactReadCheck N n s = some ((true, ()), ()) := by
  rw [← bs_of s]
  generalize s.data.toList = l
  unfold p_laws_FnExactReadCheck
  rw [bs_size]
  by_cases hl : l.length ≤ 1048576
  · rw [decide_eq_false (by omega), if_neg (by simp), spec_ReadCheck_eq n l (by omega), impl_ReadCheck_eq n l hl, readCk_eq]
    obtain ⟨z1, z2, z3⟩ := readCk_small n l
    generalize readCk n l = r at z1 z2 z3
    obtain ⟨⟨D, S, ⟨⟩⟩, b⟩ := r
    dsimp only at z1 z2 z3 ⊢
    have hD : WL.wl D := ⟨by rw [maxLen_eq]; omega, fun d hd => wl_int_list d (by have := z2 d hd; rw [maxLen_eq]; omega)⟩
    have hS : WL.wl S := wl_int_list S (by rw [maxLen_eq]; omega)
    have hw : WL.wl ((D, S, ()) : T1) := ⟨hD, hS, trivial⟩
    have hsum : sumCnt List.length D ≤ 401 * D.length := by
      clear hD hw z1
      induction D with
      | nil => simp [sumCnt]
      | cons d D ih =>
        have := z2 d (by simp)
        have := ih (fun d hd => z2 d (by simp [hd]))
        simp only [sumCnt, List.length_cons]; omega
    obtain ⟨D', m1, m2⟩ := marks_IntSS D 1 hD (by omega) (by omega)
    obtain ⟨S', m3, m4⟩ := marks_IntS S (1 + (sumCnt List.length D : Int)) hS (by omega) (by omega)
    have p1 : decide ((1 : Int) + (sumCnt List.length D : Int) < 0) = false := decide_eq_false (by omega)
    have p2 : decide ((1 : Int) + (sumCnt List.length D : Int) + (S.length : Int) < 0) = false := decide_eq_false (by omega)
    have e1 : S_laws_markCheck (D, S, ()) 1 = some ((1 + (sumCnt List.length D : Int) + (S.length : Int), ()), ((D', S', ()), ())) := by
      unfold S_laws_markCheck p_laws_markCheck
      simp only [m1, m3, Option.bind_some]
    have e2 : S_laws_heldCheck (D', S', ()) 1 = some ((1 + (sumCnt List.length D : Int) + (S.length : Int), ()), ()) := by
      unfold S_laws_heldCheck p_laws_heldCheck
      simp only [m2, m4, Option.bind_some, p1, p2, Bool.false_eq_true, if_false]
    simp only [Option.bind_some, eq_Check _ _ hw hw, same_self, Bool.not_true, Bool.false_eq_true, if_false, bne_self_eq_false, e1, e2, p2]
  · rw [decide_eq_true (by omega), if_pos rfl]
end Go.AM.P
