/- Commands, entries, rows and tables: when they are good. No condition. -/
import Derived.Test.YthijgmbdlkeebaaAmQe
import Derived.Test.YthijgmbdlkeebaaAmQd
set_option linter.unusedVariables false
set_option linter.unusedSimpArgs false
namespace Go.AM.P
open Go.AM

/-! ### commands -/
theorem spec_l2Account_eq (n : Int) : S_spec_l2Account n = some ((inn n 0 3, ()), ()) := by
  unfold S_spec_l2Account p_spec_l2Account; rw [spec_l1In_eq]; rfl
theorem impl_isAccount_eq (n : Int) : S_impl_isAccount n = some ((inn n 0 3, ()), ()) := by
  unfold S_impl_isAccount p_impl_isAccount; rw [impl_within_eq]; rfl
def zcmd (c : T2) : Bool := (c.1 == 0 && (c.2.1 == 0 && (c.2.2.1 == 0 && (c.2.2.2.1 == 0 && (c.2.2.2.2.1 == 0 && true)))))
def gcmd (c : T2) : Bool :=
  if c.1 == 0 then zcmd c
  else if c.1 == 1 then inn c.2.1 1 999 && (inn c.2.2.1 0 3 && (inn c.2.2.2.1 0 3 && ((c.2.2.1 != c.2.2.2.1) && inn c.2.2.2.2.1 1 1000)))
  else if c.1 == 2 then inn c.2.1 1 999 && (inn c.2.2.1 0 3 && ((c.2.2.2.1 == 0) && (c.2.2.2.2.1 == 0))) else false

theorem impl_GoodCmd_eq (c : T2) : S_impl_GoodCmd c = some ((gcmd c, ()), ()) := by
  unfold S_impl_GoodCmd p_impl_GoodCmd gcmd
  simp only [impl_within_eq, impl_isAccount_eq, Option.bind_some]
  split
  · rfl
  · split
    · cases inn c.2.1 1 999 <;> cases inn c.2.2.1 0 3 <;> cases inn c.2.2.2.1 0 3 <;> cases (c.2.2.1 != c.2.2.2.1) <;> simp
    · split
      · cases inn c.2.1 1 999 <;> cases inn c.2.2.1 0 3 <;> cases (c.2.2.2.1 == 0) <;> simp
      · rfl
theorem l2Code_move (c : T2) (h : (c.1 == (1 : Int)) = true) : ∃ k : Int, S_spec_l2Code c = some ((k, ()), ()) ∧ (k == 0) = (inn c.2.1 1 999 && (inn c.2.2.1 0 3 && (inn c.2.2.2.1 0 3 && ((c.2.2.1 != c.2.2.2.1) && inn c.2.2.2.2.1 1 1000)))) := by
  unfold S_spec_l2Code p_spec_l2Code
  simp only [h, if_true]
  simp only [spec_l1In_eq, spec_l2Account_eq, Option.bind_some]
  have hb : (c.2.2.1 != c.2.2.2.1) = !(c.2.2.1 == c.2.2.2.1) := rfl
  rw [hb]
  generalize inn c.2.1 1 999 = a
  generalize inn c.2.2.1 0 3 = b
  generalize inn c.2.2.2.1 0 3 = d
  generalize inn c.2.2.2.2.1 1 1000 = e
  generalize (c.2.2.1 == c.2.2.2.1) = f
  cases a <;> cases b <;> cases d <;> cases e <;> cases f <;> exact ⟨_, rfl, rfl⟩
theorem l2Code_read (c : T2) (h : (c.1 == (1 : Int)) = false) : ∃ k : Int, S_spec_l2Code c = some ((k, ()), ()) ∧ (k == 0) = (inn c.2.1 1 999 && inn c.2.2.1 0 3) := by
  unfold S_spec_l2Code p_spec_l2Code
  simp only [h, Bool.false_eq_true, if_false]
  simp only [spec_l1In_eq, spec_l2Account_eq, Option.bind_some]
  generalize inn c.2.1 1 999 = a
  generalize inn c.2.2.1 0 3 = b
  cases a <;> cases b <;> exact ⟨_, rfl, rfl⟩
theorem spec_GoodCmd_eq (c : T2) : S_spec_GoodCmd c = some ((gcmd c, ()), ()) := by
  unfold S_spec_GoodCmd p_spec_GoodCmd gcmd
  split
  · rfl
  · split
    · rename_i h1
      obtain ⟨k, e1, e2⟩ := l2Code_move c h1
      rw [e1, Option.bind_some, e2]
    · split
      · rename_i h0 h1 h2
        obtain ⟨k, e1, e2⟩ := l2Code_read c (by simpa using h1)
        rw [e1, Option.bind_some, e2]
        generalize inn c.2.1 1 999 = a
        generalize inn c.2.2.1 0 3 = b
        generalize (c.2.2.2.1 == (0 : Int)) = d
        cases a <;> cases b <;> cases d <;> rfl
      · rfl

/-! ### entries -/
def sameInst (e f : T4) : Bool := (f.1 == e.1) && (f.2.1 == e.2.1)
def nodupE : List T4 → List T4 → Bool
  | _, [] => true
  | dn, e :: t => (!dn.any fun f => sameInst e f) && nodupE (dn ++ [e]) t
def entriesOk (l : List T4) : Bool := nodupE [] l && ((l.all fun e => gcmd e.2.2.1) && decide ((l.length : Int) ≤ 60))

theorem take_next {β : Type} {l : List β} {i : Nat} {b : β} (h : l[i]? = some b) : l.take (i + 1) = l.take i ++ [b] := by
  rw [List.take_add_one, h]; rfl

theorem IndexFunc_Entry_eq {l : List T4} {p : (T4 × Unit) → Option Bool} (q : T4 → Bool) (hl : l.length ≤ maxLen) (hp : ∀ x ∈ l, p (x, ()) = some (q x)) : S_IndexFunc_Limpl_Entry_impl_Entry l p = some ((idxI q l 0, ()), ()) :=
  lim_eq (l.length + 1) fun N hN => index_gen _ l hl p q hp hN
theorem ContainsFunc_Entry_eq {l : List T4} {p : (T4 × Unit) → Option Bool} (q : T4 → Bool) (hl : l.length ≤ maxLen) (hp : ∀ x ∈ l, p (x, ()) = some (q x)) : S_ContainsFunc_Limpl_Entry_impl_Entry l p = some ((l.any q, ()), ()) := by
  unfold S_ContainsFunc_Limpl_Entry_impl_Entry p_ContainsFunc_Limpl_Entry_impl_Entry
  rw [IndexFunc_Entry_eq q hl hp]
  simp only [Option.bind_some, idxI_any q l 0 (Int.le_refl 0)]

def keyIs (r n : Int) (f : T4) : Bool := (f.1 == r) && (f.2.1 == n)
theorem impl_entryOf_eq (l : List T4) (r n : Int) (hl : l.length ≤ maxLen) : S_impl_entryOf l r n = some ((idxI (keyIs r n) l 0, ()), ()) := by
  unfold S_impl_entryOf p_impl_entryOf
  rw [IndexFunc_Entry_eq (keyIs r n) hl (fun x _ => by
    unfold keyIs
    by_cases h : x.1 = r <;> simp [h])]
  rfl

theorem impl_goodEntries_eq (l : List T4) (hl : l.length ≤ maxLen) : S_impl_goodEntries l = some (((l.all fun e => gcmd e.2.2.1) && decide ((l.length : Int) ≤ 60), ()), ()) := by
  unfold S_impl_goodEntries p_impl_goodEntries
  rw [ContainsFunc_Entry_eq (fun e => !gcmd e.2.2.1) hl (fun x _ => by simp only [impl_GoodCmd_eq, Option.bind_some])]
  simp only [Option.bind_some, not_any_not]
  by_cases h : (l.length : Int) ≤ 60 <;> simp [h]

theorem impl_goodParts_eq (l : List T4) (k : List Int) (hl : l.length ≤ maxLen) (hk : k.length ≤ maxLen) : S_impl_goodParts l k = some ((entriesOk l && keepsOk k, ()), ()) := by
  unfold S_impl_goodParts
  refine lim_eq (l.length + 1) fun N hN => ?_
  unfold p_impl_goodParts entriesOk
  refine loopN_over l hl (fun i (s : Unit) => ((l, k, l, (l.length : Int), (i : Int), ()), ())) (fun i t s => ((nodupE (l.take i) t && ((l.all fun e => gcmd e.2.2.1) && decide ((l.length : Int) ≤ 60)) && keepsOk k, ()), ())) (fun i t s => True)
    () rfl rfl trivial hN (fun rec s h => ?_) (fun rec i b t s hat h hrec => ?_)
  · dsimp only
    simp only [lenInt_lt_irrefl, decide_false, Bool.false_eq_true, if_false, impl_goodEntries_eq l hl, Option.bind_some, nodupE, Bool.true_and]
    cases ((l.all fun e => gcmd e.2.2.1) && decide ((l.length : Int) ≤ 60)) with
    | false => simp
    | true =>
      rw [if_pos rfl, impl_areMembers_eq 4 k hk (by decide)]
      simp [keepsOk]
  · have hlt := hat.ltn
    have h1 : (i : Int) ≤ (l.length : Int) := by omega
    have h2 : (l.take i).length ≤ maxLen := by simp; omega
    dsimp only
    simp only [hat.lt, hat.nn, hat.wrap, hat.rd, h1, Int.le_refl, decide_true, if_true, Int.toNat_natCast, Int.toNat_zero, List.drop_zero, impl_entryOf_eq _ _ _ h2, Option.bind_some, idxI_any _ _ 0 (Int.le_refl 0), nodupE]
    have : (List.take i l).any (keyIs b.1 b.2.1) = (List.take i l).any (fun f => sameInst b f) := rfl
    rw [this]
    cases (List.take i l).any (fun f => sameInst b f) with
    | true => simp
    | false =>
      simp only [Bool.false_eq_true, if_false, Bool.not_false, Bool.true_and]
      rw [← take_next hat.get]
      exact hrec () trivial

theorem spec_l16Entries_eq (l : List T4) (hl : l.length ≤ maxLen) : S_spec_l16Entries l = some ((entriesOk l, ()), ()) := by
  unfold S_spec_l16Entries
  refine lim_eq (l.length + 1) fun N hN => ?_
  unfold p_spec_l16Entries entriesOk
  refine loopN_over l hl (fun i (s : Unit) => ((l, l, (l.length : Int), (i : Int), ()), ())) (fun i t s => ((nodupE (l.take i) t && ((t.all fun e => gcmd e.2.2.1) && decide ((l.length : Int) ≤ 60)), ()), ())) (fun i t s => True)
    () rfl rfl trivial hN (fun rec s h => ?_) (fun rec i b t s hat h hrec => ?_)
  · dsimp only
    simp [nodupE]
  · have hlt := hat.ltn
    have h1 : (i : Int) ≤ (l.length : Int) := by omega
    have h2 : (l.take i).length ≤ maxLen := by simp; omega
    dsimp only
    simp only [hat.lt, hat.nn, hat.wrap, hat.rd, h1, Int.le_refl, decide_true, if_true, Int.toNat_natCast, Int.toNat_zero, List.drop_zero, spec_GoodCmd_eq, Option.bind_some, nodupE, List.all_cons]
    cases gcmd b.2.2.1 with
    | false => simp
    | true =>
      simp only [Bool.not_true, Bool.false_eq_true, if_false, Bool.true_and]
      refine loopN_over (l.take i) h2 (fun j (s : Unit) => ((l, l, (l.length : Int), (i : Int), l.take i, ((l.take i).length : Int), (j : Int), ()), ((b.1, b.2.1, b.2.2.1.1, b.2.2.1.2.1, b.2.2.1.2.2.1, b.2.2.1.2.2.2.1, b.2.2.1.2.2.2.2.1, b.2.2.2.1.1, b.2.2.2.1.2.1, ()), ())))
        (fun j u s => (((!u.any fun f => sameInst b f) && nodupE (l.take i ++ [b]) t && ((t.all fun e => gcmd e.2.2.1) && decide ((l.length : Int) ≤ 60)), ()), ())) (fun j u s => True)
        () rfl rfl trivial (by simp; omega) (fun rec2 s h => ?_) (fun rec2 j c u s hat2 h hrec2 => ?_)
      · dsimp only
        simp only [lenInt_lt_irrefl, decide_false, Bool.false_eq_true, if_false, List.any_nil, Bool.not_false, Bool.true_and, hat.wrap]
        rw [← take_next hat.get]
        exact hrec () trivial
      · dsimp only
        simp only [hat2.lt, hat2.nn, hat2.wrap, hat2.rd, decide_true, if_true, List.any_cons, sameInst]
        have hsym : ∀ x y : Int, (x == y) = (y == x) := fun x y => by rw [Bool.eq_iff_iff, beq_iff_eq, beq_iff_eq]; exact eq_comm
        rw [hsym b.1 c.1, hsym b.2.1 c.2.1]
        have hr := hrec2 () trivial
        simp only [sameInst] at hr
        cases (c.1 == b.1) with
        | false => simpa using hr
        | true =>
          cases (c.2.1 == b.2.1) with
          | false => simpa using hr
          | true => simp

/-! ### what is needed of others -/
def needs (k : List Int) : List T4 → List (List Int)
  | [] => []
  | e :: t => if e.2.2.1.1 == 1 && (k.contains e.2.2.1.2.2.2.1 && !k.contains e.2.2.1.2.2.1) then [e.1, e.2.1] :: needs k t else needs k t
def verds (k : List Int) : List T4 → List T5
  | [] => []
  | e :: t => if e.2.2.1.1 == 1 && k.contains e.2.2.1.2.2.1 then (e.1, e.2.1, e.2.2.2) :: verds k t else verds k t
theorem needs_len (k : List Int) : ∀ l, (needs k l).length ≤ l.length
  | [] => Nat.le_refl _
  | e :: t => by
    have := needs_len k t
    simp only [needs]
    split <;> simp only [List.length_cons] <;> omega
theorem verds_len (k : List Int) : ∀ l, (verds k l).length ≤ l.length
  | [] => Nat.le_refl _
  | e :: t => by
    have := verds_len k t
    simp only [verds]
    split <;> simp only [List.length_cons] <;> omega
theorem needs_two (k : List Int) : ∀ l, ∀ x ∈ needs k l, x.length = 2
  | [], x, h => by cases h
  | e :: t, x, h => by
    simp only [needs] at h
    split at h
    · rcases List.mem_cons.1 h with rfl | h
      · rfl
      · exact needs_two k t x h
    · exact needs_two k t x h

theorem spec_NeedsOf_eq (l : List T4) (k : List Int) (hl : l.length ≤ 1048576) (hk : k.length ≤ 1048576) : S_spec_NeedsOf l k = some ((if entriesOk l && keepsOk k then (needs k l, true, ()) else ([], false, ())), ()) := by
  have hl' : l.length ≤ maxLen := by rw [maxLen_eq]; omega
  have hk' : k.length ≤ maxLen := by rw [maxLen_eq]; omega
  unfold S_spec_NeedsOf
  refine lim_eq (l.length + 1) fun N hN => ?_
  unfold p_spec_NeedsOf
  simp only [spec_l16Entries_eq l hl', spec_l16Keeps_eq k hk', Option.bind_some]
  cases entriesOk l with
  | false => simp
  | true =>
    cases keepsOk k with
    | false => simp
    | true =>
      simp only [Bool.not_true, Bool.false_eq_true, if_false, Bool.and_true, if_true]
      refine loopN_over l hl' (fun i (s : List (List Int)) => ((k, l, (l.length : Int), (i : Int), ()), ([], s, ()))) (fun i t s => ((s ++ needs k t, true, ()), ())) (fun i t s => s.length ≤ i)
        [] rfl rfl (by simp) hN (fun rec s h => ?_) (fun rec i b t s hat h hrec => ?_)
      · dsimp only
        simp [needs]
      · have hlt := hat.ltn
        have hap : ((s.length + ([[b.1, b.2.1]] : List (List Int)).length) * 24 ≤ 140737488355328) = True := by simp; omega
        dsimp only
        simp only [hat.lt, hat.nn, hat.wrap, hat.rd, decide_true, if_true, spec_l1Has_eq k _ hk', Option.bind_some, needs, hap]
        cases (b.2.2.1.1 == 1) with
        | false => simp only [Bool.false_eq_true, if_false, Bool.false_and]; exact hrec s (by omega)
        | true =>
          cases k.contains b.2.2.1.2.2.2.1 with
          | false => simp only [Bool.false_eq_true, if_false, Bool.false_and, Bool.and_false, if_true]; exact hrec s (by omega)
          | true =>
            cases k.contains b.2.2.1.2.2.1 with
            | true => simp only [Bool.not_true, Bool.false_eq_true, if_false, Bool.and_false, if_true]; exact hrec s (by omega)
            | false =>
              simp only [Bool.not_false, Bool.and_true, if_true]
              refine (hrec (s ++ [[b.1, b.2.1]]) (by simp; omega)).trans ?_
              simp

theorem impl_NeedsOf_eq (l : List T4) (k : List Int) (hl : l.length ≤ 1048576) (hk : k.length ≤ 1048576) : S_impl_NeedsOf l k = some ((if entriesOk l && keepsOk k then (needs k l, true, ()) else ([], false, ())), ()) := by
  have hl' : l.length ≤ maxLen := by rw [maxLen_eq]; omega
  have hk' : k.length ≤ maxLen := by rw [maxLen_eq]; omega
  unfold S_impl_NeedsOf
  refine lim_eq (l.length + 1) fun N hN => ?_
  unfold p_impl_NeedsOf
  simp only [impl_goodParts_eq l k hl' hk', Option.bind_some]
  cases entriesOk l && keepsOk k with
  | false => simp
  | true =>
      simp only [Bool.not_true, Bool.false_eq_true, if_false, if_true]
      refine loopN_over l hl' (fun i (s : List (List Int)) => ((k, l, (l.length : Int), (i : Int), ()), ([], s, ()))) (fun i t s => ((s ++ needs k t, true, ()), ())) (fun i t s => s.length ≤ i)
        [] rfl rfl (by simp) hN (fun rec s h => ?_) (fun rec i b t s hat h hrec => ?_)
      · dsimp only
        simp [needs]
      · have hlt := hat.ltn
        have hap : ((s.length + ([[b.1, b.2.1]] : List (List Int)).length) * 24 ≤ 140737488355328) = True := by simp; omega
        dsimp only
        simp only [hat.lt, hat.nn, hat.wrap, hat.rd, decide_true, if_true, Contains_Lint_eq hk', Option.bind_some, needs, hap]
        cases (b.2.2.1.1 == 1) with
        | false => simp only [Bool.false_eq_true, if_false, Bool.false_and]; exact hrec s (by omega)
        | true =>
          cases k.contains b.2.2.1.2.2.2.1 with
          | false => simp only [Bool.false_eq_true, if_false, Bool.false_and, Bool.and_false, if_true]; exact hrec s (by omega)
          | true =>
            cases k.contains b.2.2.1.2.2.1 with
            | true => simp only [Bool.not_true, Bool.false_eq_true, if_false, Bool.and_false, if_true]; exact hrec s (by omega)
            | false =>
              simp only [Bool.not_false, Bool.and_true, if_true]
              refine (hrec (s ++ [[b.1, b.2.1]]) (by simp; omega)).trans ?_
              simp

/-! ### verdicts -/
theorem spec_l16Verdicts_eq (l : List T4) (k : List Int) (hl : l.length ≤ 1048576) (hk : k.length ≤ 1048576) : S_spec_l16Verdicts l k = some ((verds k l, ()), ()) := by
  have hl' : l.length ≤ maxLen := by rw [maxLen_eq]; omega
  have hk' : k.length ≤ maxLen := by rw [maxLen_eq]; omega
  unfold S_spec_l16Verdicts
  refine lim_eq (l.length + 1) fun N hN => ?_
  unfold p_spec_l16Verdicts
  refine loopN_over l hl' (fun i (s : List T5) => ((k, l, (l.length : Int), (i : Int), ()), ([], s, ()))) (fun i t s => ((s ++ verds k t, ()), ())) (fun i t s => s.length ≤ i)
    [] rfl rfl (by simp) hN (fun rec s h => ?_) (fun rec i b t s hat h hrec => ?_)
  · dsimp only
    simp [verds]
  · have hlt := hat.ltn
    have hap : ((s.length + ([(b.1, b.2.1, b.2.2.2)] : List T5).length) * 32 ≤ 140737488355328) = True := by simp; omega
    dsimp only
    simp only [hat.lt, hat.nn, hat.wrap, hat.rd, decide_true, if_true, spec_l1Has_eq k _ hk', Option.bind_some, verds, hap]
    cases (b.2.2.1.1 == 1) with
    | false => simp only [Bool.false_eq_true, if_false, Bool.false_and]; exact hrec s (by omega)
    | true =>
      cases k.contains b.2.2.1.2.2.1 with
      | false => simp only [Bool.false_eq_true, if_false, Bool.and_false, if_true]; exact hrec s (by omega)
      | true =>
        simp only [Bool.and_true, if_true]
        refine (hrec (s ++ [(b.1, b.2.1, b.2.2.2)]) (by simp; omega)).trans ?_
        simp
theorem impl_verdicts_eq (l : List T4) (k : List Int) (hl : l.length ≤ 1048576) (hk : k.length ≤ 1048576) : S_impl_verdicts l k = some ((verds k l, ()), ()) := by
  have hl' : l.length ≤ maxLen := by rw [maxLen_eq]; omega
  have hk' : k.length ≤ maxLen := by rw [maxLen_eq]; omega
  unfold S_impl_verdicts
  refine lim_eq (l.length + 1) fun N hN => ?_
  unfold p_impl_verdicts
  refine loopN_over l hl' (fun i (s : List T5) => ((k, l, (l.length : Int), (i : Int), ()), ([], s, ()))) (fun i t s => ((s ++ verds k t, ()), ())) (fun i t s => s.length ≤ i)
    [] rfl rfl (by simp) hN (fun rec s h => ?_) (fun rec i b t s hat h hrec => ?_)
  · dsimp only
    simp [verds]
  · have hlt := hat.ltn
    have hap : ((s.length + ([(b.1, b.2.1, b.2.2.2)] : List T5).length) * 32 ≤ 140737488355328) = True := by simp; omega
    dsimp only
    simp only [hat.lt, hat.nn, hat.wrap, hat.rd, decide_true, if_true, Contains_Lint_eq hk', Option.bind_some, verds, hap]
    cases (b.2.2.1.1 == 1) with
    | false => simp only [Bool.false_eq_true, if_false, Bool.false_and]; exact hrec s (by omega)
    | true =>
      cases k.contains b.2.2.1.2.2.1 with
      | false => simp only [Bool.false_eq_true, if_false, Bool.and_false, if_true]; exact hrec s (by omega)
      | true =>
        simp only [Bool.and_true, if_true]
        refine (hrec (s ++ [(b.1, b.2.1, b.2.2.2)]) (by simp; omega)).trans ?_
        simp
theorem spec_VerdictsOf_eq (l : List T4) (k : List Int) (hl : l.length ≤ 1048576) (hk : k.length ≤ 1048576) : S_spec_VerdictsOf l k = some ((if entriesOk l && keepsOk k then (verds k l, true, ()) else ([], false, ())), ()) := by
  unfold S_spec_VerdictsOf p_spec_VerdictsOf
  simp only [spec_l16Entries_eq l (by rw [maxLen_eq]; omega), spec_l16Keeps_eq k (by rw [maxLen_eq]; omega), spec_l16Verdicts_eq l k hl hk, Option.bind_some]
  cases entriesOk l <;> cases keepsOk k <;> simp
theorem impl_VerdictsOf_eq (l : List T4) (k : List Int) (hl : l.length ≤ 1048576) (hk : k.length ≤ 1048576) : S_impl_VerdictsOf l k = some ((if entriesOk l && keepsOk k then (verds k l, true, ()) else ([], false, ())), ()) := by
  unfold S_impl_VerdictsOf p_impl_VerdictsOf
  simp only [impl_goodParts_eq l k (by rw [maxLen_eq]; omega) (by rw [maxLen_eq]; omega), impl_verdicts_eq l k hl hk, Option.bind_some]
  cases entriesOk l <;> cases keepsOk k <;> simp

/-! ### the laws -/
theorem u_EntryS_le (l : List T4) : u_EntryS l = 9 * l.length := by
  induction l with
  | nil => rfl
  | cons b t ih => simp only [u_EntryS, sumCnt, ue_EntryS, List.length_cons] at ih ⊢; omega
theorem u_VerdictS_le (l : List T5) : u_VerdictS l = 4 * l.length := by
  induction l with
  | nil => rfl
  | cons b t ih => simp only [u_VerdictS, sumCnt, ue_VerdictS, List.length_cons] at ih ⊢; omega
theorem wl_entries {l : List T4} (h : l.length ≤ maxLen) : WL.wl l := ⟨h, fun x _ => ⟨trivial, trivial, ⟨trivial, trivial, trivial, trivial, trivial, trivial⟩, ⟨trivial, trivial, trivial⟩, trivial⟩⟩
theorem wl_ints {l : List Int} (h : l.length ≤ maxLen) : WL.wl l := ⟨h, fun _ _ => trivial⟩
theorem sum_two {l : List (List Int)} (h : ∀ x ∈ l, x.length = 2) : sumCnt List.length l = 2 * l.length := by
  induction l with
  | nil => rfl
  | cons b t ih =>
    have := ih fun x hx => h x (by simp [hx])
    have := h b (by simp)
    simp only [sumCnt, List.length_cons]; omega

theorem law_NeedsOf (l : List T4) (k : List Int) (hl : WL.wl l) (hk : WL.wl k) (N : Nat) : p_laws_FnExactNeedsOf N l k = some ((true, ()), ()) := by
  unfold p_laws_FnExactNeedsOf
  by_cases hk1 : (k.length : Int) > 1048576
  · rw [decide_eq_true hk1]; rfl
  rw [decide_eq_false hk1]
  simp only [Bool.false_eq_true, if_false]
  rw [sz_EntryS _ _ (by omega) (by omega) hl]
  refine sz_over (by omega) rfl fun hn r hr => ?_
  have hc : Cnt.cnt l ≤ 1048576 := Int.ofNat_le.1 hn
  have hc' : l.length + sumCnt Cnt.cnt l ≤ 1048576 := hc
  have hkc : Cnt.cnt k ≤ 1048576 := by rw [cnt_ints]; omega
  obtain ⟨h, ok, hw, hh, hs, e1, e2⟩ : ∃ (h : List (List Int)) (ok : Bool), WL.wl h ∧ h.length ≤ 1048576 ∧ sumCnt List.length h ≤ 2097152 ∧ S_impl_NeedsOf l k = some ((h, ok, ()), ()) ∧ S_spec_NeedsOf l k = some ((h, ok, ()), ()) := by
    rw [impl_NeedsOf_eq l k (by omega) (by omega), spec_NeedsOf_eq l k (by omega) (by omega)]
    cases entriesOk l && keepsOk k with
    | false => exact ⟨[], false, ⟨by simp, by simp⟩, by simp, by simp [sumCnt], by simp, by simp⟩
    | true =>
      have hlen := needs_len k l
      have h2 := sum_two (needs_two k l)
      exact ⟨needs k l, true, ⟨by rw [maxLen_eq]; omega, fun x hx => wl_ints (by rw [needs_two k l x hx, maxLen_eq]; omega)⟩, by omega, by omega, by simp, by simp⟩
  obtain ⟨h', m3, m4⟩ := marks_IntSS h 1 hw (by omega) (by omega)
  have hue := u_EntryS_le l
  have m1 := mark_EntryS (k := 1) hl (by omega) (by omega)
  have m2 := markIntS_eq (l := k) (k := 1 + (u_EntryS l : Int)) (by omega) (by omega)
  have p1 : decide ((1 : Int) + (u_EntryS l : Int) + (k.length : Int) < 0) = false := decide_eq_false (by omega)
  have p2 : decide ((1 : Int) + (sumCnt List.length h : Int) < 0) = false := decide_eq_false (by omega)
  simp only [hr, to_EntryS l hc, to_IntS k hkc, Option.bind_some, e1, e2, eq_IntSS h h hw hw, eq_EntryS l l hl hl, eq_IntS k k hk hk, same_self, m1, m2, m3, m4, p1, p2, bne_self_eq_false, Bool.not_true, Bool.false_eq_true, if_false]

theorem law_VerdictsOf (l : List T4) (k : List Int) (hl : WL.wl l) (hk : WL.wl k) (N : Nat) : p_laws_FnExactVerdictsOf N l k = some ((true, ()), ()) := by
  unfold p_laws_FnExactVerdictsOf
  by_cases hk1 : (k.length : Int) > 1048576
  · rw [decide_eq_true hk1]; rfl
  rw [decide_eq_false hk1]
  simp only [Bool.false_eq_true, if_false]
  rw [sz_EntryS _ _ (by omega) (by omega) hl]
  refine sz_over (by omega) rfl fun hn r hr => ?_
  have hc : Cnt.cnt l ≤ 1048576 := Int.ofNat_le.1 hn
  have hc' : l.length + sumCnt Cnt.cnt l ≤ 1048576 := hc
  have hkc : Cnt.cnt k ≤ 1048576 := by rw [cnt_ints]; omega
  obtain ⟨h, ok, hw, hh, e1, e2⟩ : ∃ (h : List T5) (ok : Bool), WL.wl h ∧ h.length ≤ 1048576 ∧ S_impl_VerdictsOf l k = some ((h, ok, ()), ()) ∧ S_spec_VerdictsOf l k = some ((h, ok, ()), ()) := by
    rw [impl_VerdictsOf_eq l k (by omega) (by omega), spec_VerdictsOf_eq l k (by omega) (by omega)]
    cases entriesOk l && keepsOk k with
    | false => exact ⟨[], false, ⟨by simp, by simp⟩, by simp, by simp, by simp⟩
    | true =>
      have hlen := verds_len k l
      exact ⟨verds k l, true, ⟨by rw [maxLen_eq]; omega, fun x _ => ⟨trivial, trivial, ⟨trivial, trivial, trivial⟩, trivial⟩⟩, by omega, by simp, by simp⟩
  have hue := u_EntryS_le l
  have huv := u_VerdictS_le h
  have m3 := mark_VerdictS (k := 1) hw (by omega) (by omega)
  have m4 := held_VerdictS (k := 1) hw (by omega) (by omega)
  have m1 := mark_EntryS (k := 1) hl (by omega) (by omega)
  have m2 := markIntS_eq (l := k) (k := 1 + (u_EntryS l : Int)) (by omega) (by omega)
  have p1 : decide ((1 : Int) + (u_EntryS l : Int) + (k.length : Int) < 0) = false := decide_eq_false (by omega)
  have p2 : decide ((1 : Int) + (u_VerdictS h : Int) < 0) = false := decide_eq_false (by omega)
  simp only [hr, to_EntryS l hc, to_IntS k hkc, Option.bind_some, e1, e2, eq_VerdictS h h hw hw, eq_EntryS l l hl hl, eq_IntS k k hk hk, same_self, m1, m2, m3, m4, p1, p2, bne_self_eq_false, Bool.not_true, Bool.false_eq_true, if_false]
end Go.AM.P
