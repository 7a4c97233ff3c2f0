/- Rows and tables: when they are good; how many rows are above marks. No condition. -/
import Derived.Test.YthijgmbdlkeebaaAmQf
set_option linter.unusedVariables false
set_option linter.unusedSimpArgs false
namespace Go.AM.P
open Go.AM

/-! ### attributes -/
theorem spec_l1Same_eq (a b : List Int) (ha : a.length ≤ maxLen) (hb : b.length ≤ maxLen) : S_spec_l1Same a b = some ((same a b, ()), ()) := by
  unfold S_spec_l1Same
  refine lim_eq (a.length + 1) fun N hN => ?_
  unfold p_spec_l1Same
  by_cases hlen : a.length = b.length
  · have h1 : ((a.length : Int) != (b.length : Int)) = false := by simp [hlen]
    rw [h1]
    simp only [Bool.false_eq_true, if_false]
    refine loopN_over a ha (fun i (s : Unit) => ((a, b, (a.length : Int), (i : Int), ()), ())) (fun i t s => ((same t (b.drop i), ()), ())) (fun i t s => True)
      () rfl (by simp) trivial hN (fun rec s h => ?_) (fun rec i c t s hat h hrec => ?_)
    · dsimp only
      simp [hlen, same_self]
    · have hlt := hat.ltn
      have hd : b.drop i = b[i]'(by omega) :: b.drop (i + 1) := List.drop_eq_getElem_cons (by omega)
      have hb' := At.of hb hd
      dsimp only
      simp only [hat.lt, hb'.lt, hat.nn, hat.wrap, hat.rd, hb'.rd, decide_true, if_true, hd, same_cons, same_bne]
      cases same c (b[i]'(by omega)) with
      | false => simp
      | true =>
        simp only [Bool.not_true, Bool.false_eq_true, if_false, Bool.true_and]
        exact hrec () trivial
  · have h1 : ((a.length : Int) != (b.length : Int)) = true := by simp; omega
    rw [h1]
    have : same a b = false := by rw [Bool.eq_false_iff]; intro h; rw [same_iff] at h; subst h; exact hlen rfl
    simp [this]
theorem Equal_Lint_eq (a b : List Int) (ha : a.length ≤ maxLen) (hb : b.length ≤ maxLen) : S_Equal_Lint_int a b = some ((same a b, ()), ()) := spec_l1Same_eq a b ha hb

noncomputable def sameAttr (a b : T6) : Bool := (a.1 == b.1) && same a.2.1 b.2.1
theorem spec_SameAttr_eq (a b : T6) (ha : a.2.1.length ≤ maxLen) (hb : b.2.1.length ≤ maxLen) : S_spec_SameAttr a b = some ((sameAttr a b, ()), ()) := by
  unfold S_spec_SameAttr p_spec_SameAttr sameAttr
  rw [spec_l1Same_eq _ _ ha hb]
  cases (a.1 == b.1) <;> simp
theorem impl_SameAttr_eq (a b : T6) (ha : a.2.1.length ≤ maxLen) (hb : b.2.1.length ≤ maxLen) : S_impl_SameAttr a b = some ((sameAttr a b, ()), ()) := by
  unfold S_impl_SameAttr p_impl_SameAttr sameAttr
  rw [Equal_Lint_eq _ _ ha hb]
  cases (a.1 == b.1) <;> simp
def none6 (n : Int) : T6 := (0, List.replicate n.toNat 0, ())
theorem none6_len {n : Int} (h : grp n = true) : (none6 n).2.1.length ≤ maxLen := by
  rw [grp_iff] at h; rw [maxLen_eq]; simp [none6]; omega
theorem spec_l3None_eq {n : Int} (h : grp n = true) : S_spec_l3None n = some ((none6 n, ()), ()) := by
  rw [grp_iff] at h
  rcases h with rfl | rfl <;> rfl
theorem impl_noneAttr_eq {n : Int} (h : grp n = true) : S_impl_noneAttr n = some ((none6 n, ()), ()) := by
  rw [grp_iff] at h
  rcases h with rfl | rfl <;> rfl
def attrOk (n : Int) (a : T6) : Bool := inn a.1 0 999 && (((a.2.1.length : Int) == n) && a.2.1.all fun b => inn b 0 6)
theorem spec_l3Attr_eq (n : Int) (a : T6) (ha : a.2.1.length ≤ maxLen) : S_spec_l3Attr n a = some ((attrOk n a, ()), ()) := by
  unfold S_spec_l3Attr p_spec_l3Attr attrOk
  simp only [spec_l1In_eq, spec_l1All_eq _ _ _ ha, Option.bind_some]
  cases inn a.1 0 999 <;> cases ((a.2.1.length : Int) == n) <;> simp
theorem impl_GoodAttr_eq {n : Int} (h : grp n = true) (a : T6) (ha : a.2.1.length ≤ maxLen) : S_impl_GoodAttr n a = some ((attrOk n a, ()), ()) := by
  unfold S_impl_GoodAttr p_impl_GoodAttr attrOk
  simp only [impl_IsGroup_eq, h, if_true, impl_within_eq, Option.bind_some]
  rw [ContainsFunc_Lint_eq (fun b => !inn b 0 6) ha (fun x _ => rfl)]
  simp only [Option.bind_some, not_any_not]
  cases inn a.1 0 999 <;> cases ((a.2.1.length : Int) == n) <;> simp
theorem attr_none {n : Int} (h : grp n = true) (a : T6) (hs : sameAttr a (none6 n) = true) : attrOk n a = true := by
  simp only [sameAttr, Bool.and_eq_true, beq_iff_eq, same_iff] at hs
  obtain ⟨h1, h2⟩ := hs
  rw [grp_iff] at h
  simp only [attrOk, h1, h2, none6]
  rcases h with rfl | rfl <;> rfl

/-! ### rows -/
noncomputable def rowOk (n : Int) (r : T7) : Bool :=
  inn r.1 0 9999 && (inn r.2.1 0 r.1 && (inn r.2.2.1 0 3 && (if r.2.2.1 == 0 then (r.2.1 == 0) && (zcmd r.2.2.2.1 && sameAttr r.2.2.2.2.1 (none6 n)) else gcmd r.2.2.2.1 && attrOk n r.2.2.2.2.1)))
theorem spec_l4Row_eq {n : Int} (h : grp n = true) (r : T7) (ha : r.2.2.2.2.1.2.1.length ≤ maxLen) : S_spec_l4Row n r = some ((rowOk n r, ()), ()) := by
  unfold S_spec_l4Row p_spec_l4Row rowOk
  simp only [spec_l1In_eq, Option.bind_some]
  rw [spec_l3None_eq h, Option.bind_some, spec_SameAttr_eq _ _ ha (none6_len h), spec_GoodCmd_eq, Option.bind_some, spec_l3Attr_eq n _ ha, Option.bind_some]
  have hz : zcmd r.2.2.2.1 = (r.2.2.2.1.1 == (0 : Int) && (r.2.2.2.1.2.1 == (0 : Int) && (r.2.2.2.1.2.2.1 == (0 : Int) && (r.2.2.2.1.2.2.2.1 == (0 : Int) && (r.2.2.2.1.2.2.2.2.1 == (0 : Int) && true))))) := rfl
  rw [← hz]
  generalize inn r.1 0 9999 = a
  generalize inn r.2.1 0 r.1 = b
  generalize inn r.2.2.1 0 3 = c
  generalize (r.2.2.1 == (0 : Int)) = d
  generalize (r.2.1 == (0 : Int)) = e
  generalize zcmd r.2.2.2.1 = f
  generalize sameAttr r.2.2.2.2.1 (none6 n) = g
  generalize gcmd r.2.2.2.1 = i
  generalize attrOk n r.2.2.2.2.1 = j
  cases a <;> cases b <;> cases c <;> cases d <;> cases e <;> cases f <;> cases i <;> rfl
theorem zcmd_gcmd {c : T2} (h : zcmd c = true) : gcmd c = true := by
  have h0 : (c.1 == 0) = true := by simp only [zcmd, Bool.and_eq_true] at h; exact h.1
  unfold gcmd
  rw [if_pos h0]; exact h
theorem impl_goodRow_eq {n : Int} (h : grp n = true) (r : T7) (ha : r.2.2.2.2.1.2.1.length ≤ maxLen) : S_impl_goodRow n r = some ((rowOk n r, ()), ()) := by
  unfold S_impl_goodRow p_impl_goodRow rowOk
  rw [impl_within_eq, impl_within_eq, impl_within_eq, impl_GoodCmd_eq, impl_GoodAttr_eq h _ ha, impl_noneAttr_eq h, Option.bind_some, Option.bind_some, Option.bind_some, Option.bind_some, Option.bind_some, Option.bind_some, impl_SameAttr_eq _ _ ha (none6_len h), Option.bind_some]
  have hz : zcmd r.2.2.2.1 = (r.2.2.2.1.1 == (0 : Int) && (r.2.2.2.1.2.1 == (0 : Int) && (r.2.2.2.1.2.2.1 == (0 : Int) && (r.2.2.2.1.2.2.2.1 == (0 : Int) && (r.2.2.2.1.2.2.2.2.1 == (0 : Int) && true))))) := rfl
  rw [← hz]
  have k1 : zcmd r.2.2.2.1 = true → gcmd r.2.2.2.1 = true := zcmd_gcmd
  have k2 : sameAttr r.2.2.2.2.1 (none6 n) = true → attrOk n r.2.2.2.2.1 = true := attr_none h _
  have hd : (r.2.2.1 != (0 : Int)) = !(r.2.2.1 == (0 : Int)) := rfl
  rw [hd]
  revert k1 k2
  generalize inn r.1 0 9999 = a
  generalize inn r.2.1 0 r.1 = b
  generalize inn r.2.2.1 0 3 = c
  generalize (r.2.2.1 == (0 : Int)) = d
  generalize (r.2.1 == (0 : Int)) = e
  generalize zcmd r.2.2.2.1 = f
  generalize sameAttr r.2.2.2.2.1 (none6 n) = g
  generalize gcmd r.2.2.2.1 = i
  generalize attrOk n r.2.2.2.2.1 = j
  intro k1 k2
  cases a <;> cases b <;> cases c <;> cases d <;> cases i <;> cases j <;> cases e <;> cases f <;> cases g <;> first | rfl | (exact absurd (k1 rfl) (by decide)) | (exact absurd (k2 rfl) (by decide))

/-! ### tables -/
noncomputable def listOk (n : Int) (l : List T7) : Bool := decide ((l.length : Int) ≤ 6) && l.all (rowOk n)
noncomputable def tableOk (t : T8) : Bool := grp t.1 && (((t.2.1.length : Int) == t.1) && t.2.1.all (listOk t.1))

theorem ContainsFunc_Row_eq {l : List T7} {p : (T7 × Unit) → Option Bool} (q : T7 → Bool) (hl : l.length ≤ maxLen) (hp : ∀ x ∈ l, p (x, ()) = some (q x)) : S_ContainsFunc_Limpl_Row_impl_Row l p = some ((l.any q, ()), ()) := by
  unfold S_ContainsFunc_Limpl_Row_impl_Row p_ContainsFunc_Limpl_Row_impl_Row
  rw [show S_IndexFunc_Limpl_Row_impl_Row l p = some ((idxI q l 0, ()), ()) from lim_eq (l.length + 1) fun N hN => index_gen _ l hl p q hp hN]
  simp only [Option.bind_some, idxI_any q l 0 (Int.le_refl 0)]
theorem ContainsFunc_Rows_eq {l : List (List T7)} {p : (List T7 × Unit) → Option Bool} (q : List T7 → Bool) (hl : l.length ≤ maxLen) (hp : ∀ x ∈ l, p (x, ()) = some (q x)) : S_ContainsFunc_LLimpl_Row_Limpl_Row l p = some ((l.any q, ()), ()) := by
  unfold S_ContainsFunc_LLimpl_Row_Limpl_Row p_ContainsFunc_LLimpl_Row_Limpl_Row
  rw [show S_IndexFunc_LLimpl_Row_Limpl_Row l p = some ((idxI q l 0, ()), ()) from lim_eq (l.length + 1) fun N hN => index_gen _ l hl p q hp hN]
  simp only [Option.bind_some, idxI_any q l 0 (Int.le_refl 0)]

theorem wl_row {l : List (List T7)} (h : WL.wl l) {x : List T7} (hx : x ∈ l) {r : T7} (hr : r ∈ x) : r.2.2.2.2.1.2.1.length ≤ maxLen := (wl_mem (wl_mem h hx) hr).2.2.2.2.1.2.1.1

theorem impl_GoodTable_eq (t : T8) (hl : WL.wl t) : S_impl_GoodTable t = some ((tableOk t, ()), ()) := by
  unfold S_impl_GoodTable p_impl_GoodTable tableOk
  simp only [impl_IsGroup_eq, Option.bind_some]
  cases hg : grp t.1 with
  | false => simp
  | true =>
    simp only [if_true, Bool.true_and]
    rw [ContainsFunc_Rows_eq (fun x => !listOk t.1 x) hl.2.1.1 (fun x hx => by
      dsimp only
      by_cases h6 : (x.length : Int) > 6
      · have : ¬ (x.length : Int) ≤ 6 := by omega
        simp [h6, listOk, this]
      · have h6' : (x.length : Int) ≤ 6 := by omega
        rw [decide_eq_false h6, ContainsFunc_Row_eq (fun r => !rowOk t.1 r) (wl_mem hl.2.1 hx).1 (fun r hr => by
          dsimp only
          rw [impl_goodRow_eq hg r (wl_row hl.2.1 hx hr)]; rfl)]
        simp only [Bool.false_eq_true, if_false, Option.bind_some, listOk, h6', decide_true, Bool.true_and, Option.some.injEq]
        rw [← not_any_not, Bool.not_not])]
    simp only [Option.bind_some, not_any_not]
    cases ((t.2.1.length : Int) == t.1) <;> simp

theorem spec_GoodTable_eq (t : T8) (hl : WL.wl t) : S_spec_GoodTable t = some ((tableOk t, ()), ()) := by
  unfold S_spec_GoodTable
  -- fuel for the longest list
  refine lim_eq (t.2.1.length + sumCnt List.length t.2.1 + 1) fun N hN => ?_
  unfold p_spec_GoodTable tableOk
  simp only [spec_IsGroup_eq, Option.bind_some]
  cases hg : grp t.1 with
  | false => simp
  | true =>
    simp only [Bool.not_true, Bool.false_eq_true, if_false, Bool.true_and]
    by_cases hlen : (t.2.1.length : Int) = t.1
    · have h1 : ((t.2.1.length : Int) != t.1) = false := by simp [hlen]
      have h2 : ((t.2.1.length : Int) == t.1) = true := by simp [hlen]
      simp only [h1, h2, Bool.false_eq_true, if_false, Bool.true_and]
      refine loopN_over t.2.1 hl.2.1.1 (fun i (s : Unit) => ((t.2.1, (t.2.1.length : Int), (i : Int), ()), ((t.1, t.2.1, ()), ()))) (fun i u s => ((u.all (listOk t.1), ()), ())) (fun i u s => True)
        () rfl rfl trivial (by omega) (fun rec s h => ?_) (fun rec i b u s hat h hrec => ?_)
      · dsimp only
        simp
      · have hbl : b.length ≤ maxLen := (wl_mem hl.2.1 hat.mem).1
        dsimp only
        simp only [hat.lt, hat.nn, hat.rd, decide_true, if_true, List.all_cons]
        refine loopN_over b hbl (fun j (s : Unit) => ((b, t.2.1, (t.2.1.length : Int), (i : Int), b, (b.length : Int), (j : Int), ()), ((t.1, t.2.1, ()), ()))) (fun j v s => ((v.all (rowOk t.1) && decide ((b.length : Int) ≤ 6) && u.all (listOk t.1), ()), ())) (fun j v s => True)
          () rfl ?_ trivial (by have := le_sumCnt List.length hat.mem; omega) (fun rec2 s h => ?_) (fun rec2 j c v s hat2 h hrec2 => ?_)
        · unfold listOk
          rw [Bool.and_comm (decide _)]
        · dsimp only
          simp only [lenInt_lt_irrefl, decide_false, Bool.false_eq_true, if_false, List.all_nil, Bool.true_and, hat.wrap]
          by_cases h6 : (b.length : Int) > 6
          · rw [decide_eq_true h6, decide_eq_false (by omega)]; rfl
          · rw [decide_eq_false h6, decide_eq_true (by omega)]
            simp only [Bool.false_eq_true, if_false, Bool.true_and]
            exact hrec () trivial
        · dsimp only
          simp only [hat2.lt, hat2.nn, hat2.wrap, hat2.rd, decide_true, if_true, spec_l4Row_eq hg c (wl_row hl.2.1 hat.mem hat2.mem), Option.bind_some, List.all_cons]
          cases rowOk t.1 c with
          | false => simp
          | true => simp only [Bool.not_true, Bool.false_eq_true, if_false, Bool.true_and]; exact hrec2 () trivial
    · have h1 : ((t.2.1.length : Int) != t.1) = true := by simp [hlen]
      have h2 : ((t.2.1.length : Int) == t.1) = false := by simp [hlen]
      simp [h1, h2]

/-! ### how many rows are above marks -/
def keptN : List (List T7) → List Int → Int
  | x :: xs, m :: ms => max ((x.length : Int) - m) 0 + keptN xs ms
  | _, _ => 0
noncomputable def keptRes (t : T8) (m : List Int) : Int × Bool × Unit :=
  if tableOk t && (((m.length : Int) == t.1) && m.all fun b => inn b 0 6) then (keptN t.2.1 m, true, ()) else (0, false, ())

theorem inn6 {b : Int} (h : inn b 0 6 = true) : 0 ≤ b ∧ b ≤ 6 := inn_iff.1 h
theorem spec_l1Most_eq (x : Int) : S_spec_l1Most 0 x = some ((max x 0, ()), ()) := by
  unfold S_spec_l1Most p_spec_l1Most
  by_cases h : (0 : Int) > x
  · rw [decide_eq_true h, if_pos rfl]; simp only [Option.some.injEq, Prod.mk.injEq, and_true]; omega
  · rw [decide_eq_false h, if_neg (by simp)]; simp only [Option.some.injEq, Prod.mk.injEq, and_true]; omega

theorem spec_KeptIn_eq (t : T8) (m : List Int) (hl : WL.wl t) (hm : m.length ≤ maxLen) : S_spec_KeptIn t m = some (keptRes t m, ()) := by
  unfold S_spec_KeptIn
  refine lim_eq (t.2.1.length + 1) fun N hN => ?_
  unfold p_spec_KeptIn keptRes
  simp only [spec_GoodTable_eq t hl, Option.bind_some]
  cases ht : tableOk t with
  | false => simp
  | true =>
    simp only [Bool.not_true, Bool.false_eq_true, if_false, Bool.true_and]
    by_cases hlen : (m.length : Int) = t.1
    · have h1 : ((m.length : Int) != t.1) = false := by simp [hlen]
      have h2 : ((m.length : Int) == t.1) = true := by simp [hlen]
      simp only [h1, h2, Bool.false_eq_true, if_false, Bool.true_and, spec_l1All_eq m 0 6 hm, Option.bind_some]
      cases ha : m.all (fun b => inn b 0 6) with
      | false => simp
      | true =>
        simp only [tableOk, Bool.and_eq_true, beq_iff_eq] at ht
        obtain ⟨hg, hn, hall⟩ := ht
        rw [List.all_eq_true] at ha hall
        simp only [Bool.not_true, Bool.false_eq_true, if_false, if_true]
        have hn5 : t.2.1.length ≤ 5 := by rw [grp_iff] at hg; omega
        refine loopN_over t.2.1 hl.2.1.1 (fun i (s : Int) => ((m, s, t.2.1, (t.2.1.length : Int), (i : Int), ()), ((t.1, t.2.1, ()), ()))) (fun i u s => ((s + keptN u (m.drop i), true, ()), ())) (fun i u s => 0 ≤ s ∧ s ≤ 6 * i)
          0 rfl (by simp) ⟨by omega, by omega⟩ (by omega) (fun rec s h => ?_) (fun rec i b u s hat h hrec => ?_)
        · dsimp only
          simp [keptN]
        · have hlt := hat.ltn
          have hd : m.drop i = m[i]'(by omega) :: m.drop (i + 1) := List.drop_eq_getElem_cons (by omega)
          have hm' := At.of hm hd
          have hmi := inn6 (ha _ hm'.mem)
          have hb6 := hall b hat.mem
          simp only [listOk, Bool.and_eq_true, decide_eq_true_eq] at hb6
          have hlt2 := hm'.lt
          dsimp only
          simp only [hat.lt, hlt2, hat.nn, hat.wrap, hat.rd, hm'.rd, decide_true, if_true]
          rw [wrap_small (n := (b.length : Int) - m[i]'(by omega)) (by omega) (by omega), spec_l1Most_eq]
          simp only [Option.bind_some]
          rw [wrap_small (by omega) (by omega)]
          refine (hrec _ ⟨by omega, by omega⟩).trans ?_
          rw [hd]
          simp only [keptN, Option.some.injEq, Prod.mk.injEq, and_true]
          omega
    · have h1 : ((m.length : Int) != t.1) = true := by simp [hlen]
      have h2 : ((m.length : Int) == t.1) = false := by simp [hlen]
      simp [h1, h2]

theorem impl_KeptIn_eq (t : T8) (m : List Int) (hl : WL.wl t) (hm : m.length ≤ maxLen) : S_impl_KeptIn t m = some (keptRes t m, ()) := by
  unfold S_impl_KeptIn
  refine lim_eq (m.length + 1) fun N hN => ?_
  unfold p_impl_KeptIn keptRes
  simp only [impl_GoodTable_eq t hl, Option.bind_some]
  cases ht : tableOk t with
  | false => simp
  | true =>
    simp only [Bool.not_true, Bool.false_eq_true, if_false, Bool.true_and]
    by_cases hlen : (m.length : Int) = t.1
    · have h1 : ((m.length : Int) != t.1) = false := by simp [hlen]
      have h2 : ((m.length : Int) == t.1) = true := by simp [hlen]
      simp only [h1, h2, Bool.false_eq_true, if_false, Bool.true_and]
      rw [ContainsFunc_Lint_eq (fun b => !inn b 0 6) hm (fun x _ => by simp only [impl_within_eq, Option.bind_some])]
      simp only [Option.bind_some]
      have := not_any_not m (fun b => inn b 0 6)
      cases ha : m.all (fun b => inn b 0 6) with
      | false =>
        rw [ha] at this
        simp only [Bool.not_eq_false'] at this
        simp [this]
      | true =>
        rw [ha] at this
        simp only [Bool.not_eq_true'] at this
        simp only [tableOk, Bool.and_eq_true, beq_iff_eq] at ht
        obtain ⟨hg, hn, hall⟩ := ht
        rw [List.all_eq_true] at ha hall
        simp only [this, Bool.false_eq_true, if_false, if_true]
        have hn5 : m.length ≤ 5 := by rw [grp_iff] at hg; omega
        refine loopN_over m hm (fun i (s : Int) => ((s, m, (m.length : Int), (i : Int), ()), ((t.1, t.2.1, ()), ()))) (fun i u s => ((s + keptN (t.2.1.drop i) u, true, ()), ())) (fun i u s => 0 ≤ s ∧ s ≤ 6 * i)
          0 rfl (by simp) ⟨by omega, by omega⟩ (by omega) (fun rec s h => ?_) (fun rec i b u s hat h hrec => ?_)
        · dsimp only
          rw [List.drop_eq_nil_of_le (by omega)]
          simp [keptN]
        · have hlt := hat.ltn
          have hd : t.2.1.drop i = t.2.1[i]'(by omega) :: t.2.1.drop (i + 1) := List.drop_eq_getElem_cons (by omega)
          have hm' := At.of hl.2.1.1 hd
          have hmi := inn6 (ha _ hat.mem)
          have hb6 := hall _ hm'.mem
          simp only [listOk, Bool.and_eq_true, decide_eq_true_eq] at hb6
          have hlt2 := hm'.lt
          dsimp only
          simp only [hat.lt, hlt2, hat.nn, hat.wrap, hat.rd, hm'.rd, decide_true, if_true]
          rw [wrap_small (n := ((t.2.1[i]'(by omega)).length : Int) - b) (by omega) (by omega)]
          have hmax : (if (((t.2.1[i]'(by omega)).length : Int) - b) < 0 then (0 : Int) else (((t.2.1[i]'(by omega)).length : Int) - b)) = max (((t.2.1[i]'(by omega)).length : Int) - b) 0 := by split <;> omega
          rw [hmax, wrap_small (by omega) (by omega)]
          refine (hrec _ ⟨by omega, by omega⟩).trans ?_
          rw [hd]
          simp only [keptN, Option.some.injEq, Prod.mk.injEq, and_true]
          omega
    · have h1 : ((m.length : Int) != t.1) = true := by simp [hlen]
      have h2 : ((m.length : Int) == t.1) = false := by simp [hlen]
      simp [h1, h2]

theorem law_KeptIn (t : T8) (m : List Int) (hl : WL.wl t) (hk : WL.wl m) (N : Nat) : p_laws_FnExactKeptIn N t m = some ((true, ()), ()) := by
  unfold p_laws_FnExactKeptIn
  by_cases hk1 : (m.length : Int) > 1048576
  · rw [decide_eq_true hk1]; rfl
  rw [decide_eq_false hk1]
  simp only [Bool.false_eq_true, if_false]
  rw [sz_Table _ _ (by omega) (by omega) hl]
  refine sz_over (by omega) rfl fun hn r hr => ?_
  have hc : Cnt.cnt t ≤ 1048576 := Int.ofNat_le.1 hn
  have hkc : Cnt.cnt m ≤ 1048576 := by rw [cnt_ints]; omega
  have e1 := impl_KeptIn_eq t m hl hk.1
  have e2 := spec_KeptIn_eq t m hl hk.1
  simp only [hr, to_Table t hc, to_IntS m hkc, Option.bind_some, e1, e2, eq_Table t t hl hl, eq_IntS m m hk hk, same_self, bne_self_eq_false, Bool.not_true, Bool.false_eq_true, if_false]
end Go.AM.P
