/- What a replica that keeps some accounts does with entries. No condition. -/
import Derived.Test.YthijgmbdlkeebaaAmQf
set_option linter.unusedVariables false
set_option linter.unusedSimpArgs false
namespace Go.AM.P
open Go.AM

/-! ### finding -/
theorem idxI_find {β : Type} (q : β → Bool) : ∀ (l : List β) (i : Int), 0 ≤ i → (l.find? q = none → idxI q l i = -1) ∧ ∀ v, l.find? q = some v → ∃ n : Nat, idxI q l i = i + n ∧ l[n]? = some v
  | [], i, h => by simp [idxI]
  | b :: t, i, h => by
    have ih := idxI_find q t (i + 1) (by omega)
    simp only [idxI, List.find?_cons]
    cases hq : q b with
    | true => simp only [if_true]; exact ⟨by simp, fun v hv => ⟨0, by simp, by simpa using hv⟩⟩
    | false =>
      simp only [Bool.false_eq_true, if_false]
      refine ⟨ih.1, fun v hv => ?_⟩
      obtain ⟨n, h1, h2⟩ := ih.2 v hv
      exact ⟨n + 1, by rw [h1]; push_cast; omega, by simpa using h2⟩

theorem IndexFunc_Verdict_eq {l : List T5} {p : (T5 × Unit) → Option Bool} (q : T5 → Bool) (hl : l.length ≤ maxLen) (hp : ∀ x ∈ l, p (x, ()) = some (q x)) : S_IndexFunc_Limpl_Verdict_impl_Verdict l p = some ((idxI q l 0, ()), ()) :=
  lim_eq (l.length + 1) fun N hN => index_gen _ l hl p q hp hN

/-! ### the sums at the start -/
theorem impl_NewSums_eq : S_impl_NewSums = some (([100, 100, 100, 100], ()), ()) := by
  unfold S_impl_NewSums p_impl_NewSums
  rfl

/-! ### what is known, what is kept -/
def kn (e : T4) (v : T5) : Bool := v.1 == e.1 && v.2.1 == e.2.1
def knT : Option T5 → T3 × Bool × Unit
  | some v => (v.2.2.1, true, ())
  | none => ((0, 0, ()), false, ())
theorem spec_l16Known_eq (e : T4) (V : List T5) (hV : V.length ≤ maxLen) : S_spec_l16Known e V = some (knT (V.find? (kn e)), ()) := by
  unfold S_spec_l16Known
  refine lim_eq (V.length + 1) fun N hN => ?_
  unfold p_spec_l16Known
  refine loopN_over V hV (fun i (s : Unit) => ((V, (V.length : Int), (i : Int), ()), ((e.1, e.2.1, e.2.2.1.1, e.2.2.1.2.1, e.2.2.1.2.2.1, e.2.2.1.2.2.2.1, e.2.2.1.2.2.2.2.1, e.2.2.2.1.1, e.2.2.2.1.2.1, ()), (0, 0, ()), ())))
    (fun i t s => (knT (t.find? (kn e)), ())) (fun i t s => True) () rfl rfl trivial hN (fun rec s h => ?_) (fun rec i b t s hat h hrec => ?_)
  · dsimp only
    simp [knT]
  · dsimp only
    simp only [hat.lt, hat.nn, hat.wrap, hat.rd, decide_true, if_true, List.find?_cons, kn]
    have hr := hrec () trivial
    cases (b.1 == e.1) with
    | false => simpa using hr
    | true =>
      cases (b.2.1 == e.2.1) with
      | false => simpa using hr
      | true => rfl

theorem rd_in {s : List Int} {f : Int} (h0 : 0 ≤ f) (h1 : f < s.length) : decide (0 ≤ f) = true ∧ decide (f < (s.length : Int)) = true := ⟨decide_eq_true h0, decide_eq_true h1⟩

theorem keepsOk_in {K : List Int} (h : keepsOk K = true) : ∀ k ∈ K, 0 ≤ k ∧ k ≤ 3 := by
  intro k hk
  unfold keepsOk at h
  rw [Bool.and_eq_true, List.all_eq_true] at h
  have := h.1 k hk
  unfold inn at this
  simpa using this

theorem spec_l16Kept_eq (s K : List Int) (hs : s.length = 4) (hK : keepsOk K = true) (hl : K.length ≤ 1048576) : S_spec_l16Kept s K = some ((K.map fun k => rd s k 0, ()), ()) := by
  have hl' : K.length ≤ maxLen := by rw [maxLen_eq]; omega
  have hin := keepsOk_in hK
  unfold S_spec_l16Kept
  refine lim_eq (K.length + 1) fun N hN => ?_
  unfold p_spec_l16Kept
  refine loopN_over K hl' (fun i (o : List Int) => ((s, K, (K.length : Int), (i : Int), ()), ([], o, ()))) (fun i t o => ((o ++ t.map fun k => rd s k 0, ()), ())) (fun i t o => o.length ≤ i)
    [] rfl rfl (by simp) hN (fun rec o h => ?_) (fun rec i b t o hat h hrec => ?_)
  · dsimp only
    simp
  · have hlt := hat.ltn
    have hb := hin b hat.mem
    have hap : ((o.length + ([rd s b 0] : List Int).length) * 8 ≤ 140737488355328) = True := by simp; omega
    have h1 : (b < (s.length : Int)) = True := by rw [hs]; simp; omega
    dsimp only
    simp only [hat.lt, hat.nn, hat.wrap, hat.rd, hb.1, h1, hap, decide_true, if_true]
    refine (hrec (o ++ [rd s b 0]) (by simp; omega)).trans ?_
    simp

/-! ### one entry after the other -/
def upd (is fr to : Bool) (c : T2) (s : List Int) : List Int :=
  let s1 := if is && fr then s.set c.2.2.1.toNat (IntKind.i64.wrap (rd s c.2.2.1 0 - c.2.2.2.2.1)) else s
  if is && to then s1.set c.2.2.2.1.toNat (IntKind.i64.wrap (rd s1 c.2.2.2.1 0 + c.2.2.2.2.1)) else s1
theorem upd_len (is fr to : Bool) (c : T2) (s : List Int) : (upd is fr to c s).length = s.length := by
  unfold upd
  cases is <;> cases fr <;> cases to <;> simp
def partS (K : List Int) (V : List T5) : List T4 → List Int → Int → List Int × Int
  | [], s, i => (s, i)
  | e :: t, s, i =>
    if e.2.2.1.1 == 1 && (K.contains e.2.2.1.2.2.1 || K.contains e.2.2.1.2.2.2.1) then
      if K.contains e.2.2.1.2.2.1 then partS K V t (upd (decide (rd s e.2.2.1.2.2.1 0 ≥ e.2.2.1.2.2.2.2.1)) true (K.contains e.2.2.1.2.2.2.1) e.2.2.1 s) (i + 1)
      else match V.find? (kn e) with
        | none => (s, i)
        | some v => partS K V t (upd (v.2.2.1.1 == 1) false (K.contains e.2.2.1.2.2.2.1) e.2.2.1 s) (i + 1)
    else partS K V t s (i + 1)

theorem gcmd_move {c : T2} (h : gcmd c = true) (h1 : c.1 = 1) : (0 ≤ c.2.2.1 ∧ c.2.2.1 ≤ 3) ∧ (0 ≤ c.2.2.2.1 ∧ c.2.2.2.1 ≤ 3) := by
  unfold gcmd inn at h
  rw [h1] at h
  simp at h
  exact ⟨h.2.1, h.2.2.1⟩

theorem spec_l16Part_eq (l : List T4) (K : List Int) (V : List T5) (hl : l.length ≤ 1048576) (hg : ∀ e ∈ l, gcmd e.2.2.1 = true) (hK : keepsOk K = true) (hk : K.length ≤ 1048576) (hV : V.length ≤ maxLen) :
    S_spec_l16Part l K V = some ((K.map (fun k => rd (partS K V l [100, 100, 100, 100] 0).1 k 0), (partS K V l [100, 100, 100, 100] 0).2, ()), ()) := by
  have hl' : l.length ≤ maxLen := by rw [maxLen_eq]; omega
  have hk' : K.length ≤ maxLen := by rw [maxLen_eq]; omega
  unfold S_spec_l16Part
  refine lim_eq (l.length + 5) fun N hN => ?_
  unfold p_spec_l16Part
  have hmid : ∀ (v : (List Int × Int × Unit) × Unit) (X : List Int → Option ((List Int × Int × Unit) × Unit)), X [100, 100, 100, 100] = some v → True := fun _ _ _ => trivial
  refine loopN_upto 4 (fun i (s : List Int) => ((l, K, V, (4 : Int), (i : Int), ()), ([], s, ()))) (fun i s => ((K.map (fun k => rd (partS K V l [100, 100, 100, 100] 0).1 k 0), (partS K V l [100, 100, 100, 100] 0).2, ()), ())) (fun i s => s = List.replicate i 100 ++ List.replicate (4 - i) 0)
    [0, 0, 0, 0] rfl rfl rfl (by omega) (fun rec i s hi hs hrec => ?_)
  dsimp only
  rcases Nat.lt_or_ge i 4 with h4 | h4
  · have h1 : ((i : Int) < 4) = True := by simp; omega
    have h2 : (0 ≤ (i : Int)) = True := by simp
    have h3 : ((i : Int) < (s.length : Int)) = True := by rw [hs]; simp; omega
    have hw : IntKind.i64.wrap ((i : Int) + 1) = ((i + 1 : Nat) : Int) := by rw [wrap_small (by omega) (by omega)]; rfl
    simp only [h1, h2, h3, hw, decide_true, if_true, Int.toNat_natCast]
    refine hrec h4 _ ?_
    rw [hs]
    have : i = 0 ∨ i = 1 ∨ i = 2 ∨ i = 3 := by omega
    rcases this with rfl | rfl | rfl | rfl <;> rfl
  · obtain rfl : i = 4 := by omega
    have hs : s = [100, 100, 100, 100] := hs
    subst hs
    have h1 : (((4 : Nat) : Int) < 4) = False := by simp
    simp only [h1, decide_false, Bool.false_eq_true, if_false]
    refine loopN_over l hl' (fun i (s : List Int) => ((l, K, V, l, (l.length : Int), (i : Int), ()), ([], s, ()))) (fun i t s => ((K.map (fun k => rd (partS K V t s i).1 k 0), (partS K V t s i).2, ()), ())) (fun i t s => s.length = 4)
      [100, 100, 100, 100] rfl rfl rfl (by omega) (fun rec s h => ?_) (fun rec i b t s hat h hrec => ?_)
    · dsimp only
      simp only [lenInt_lt_irrefl, decide_false, Bool.false_eq_true, if_false, spec_l16Kept_eq s K h hK hk, Option.bind_some, partS]
    · have hgb := hg b hat.mem
      dsimp only
      simp only [hat.lt, hat.nn, hat.wrap, hat.rd, decide_true, if_true, spec_l1Has_eq K _ hk', spec_l16Known_eq _ V hV, Option.bind_some, spec_l16Kept_eq s K h hK hk]
      have hrec2 : ∀ s', s'.length = 4 → rec ((l, K, V, l, (l.length : Int), ((i + 1 : Nat) : Int), ()), ([], s', ())) = some ((K.map (fun k => rd (partS K V t s' ((i : Int) + 1)).1 k 0), (partS K V t s' ((i : Int) + 1)).2, ()), ()) := fun s' h' => hrec s' h'
      clear hat hrec hmid
      generalize hfind : V.find? (kn b) = o
      generalize hi : ((i : Int) + 1) = i1 at hrec2 ⊢
      by_cases hkd : b.2.2.1.1 = 1
      · obtain ⟨hf, ht⟩ := gcmd_move hgb hkd
        have f1 : (0 ≤ b.2.2.1.2.2.1) = True := by simp; exact hf.1
        have f2 : (b.2.2.1.2.2.1 < (s.length : Int)) = True := by rw [h]; simp; omega
        have t1 : (0 ≤ b.2.2.1.2.2.2.1) = True := by simp; exact ht.1
        have t2 : (b.2.2.1.2.2.2.1 < (s.length : Int)) = True := by rw [h]; simp; omega
        simp only [hkd, f1, f2, t1, t2, List.length_set, decide_true, if_true, bne_self_eq_false, Bool.false_eq_true, if_false, partS, beq_self_eq_true, Bool.true_and, hfind, hi]
        clear hf ht hgb hkd hfind hi f1 f2 t1 t2
        generalize K.contains b.2.2.1.2.2.1 = F
        generalize K.contains b.2.2.1.2.2.2.1 = T
        have fin : ∀ is fr, rec ((l, K, V, l, (l.length : Int), ((i + 1 : Nat) : Int), ()), ([], upd is fr T b.2.2.1 s, ())) = some ((K.map (fun k => rd (partS K V t (upd is fr T b.2.2.1 s) i1).1 k 0), (partS K V t (upd is fr T b.2.2.1 s) i1).2, ()), ()) := fun is fr => hrec2 _ (by rw [upd_len]; exact h)
        cases F with
        | true =>
          generalize decide (rd s b.2.2.1.2.2.1 0 ≥ b.2.2.1.2.2.2.2.1) = D
          have fin := fin D true
          simp only [upd] at fin ⊢
          cases D <;> cases T <;> simpa using fin
        | false =>
          cases T with
          | false => simpa using hrec2 s h
          | true =>
            cases o with
            | none => simp [knT]
            | some v =>
              have fin := fin (v.2.2.1.1 == 1) false
              simp only [upd, knT] at fin ⊢
              generalize (v.2.2.1.1 == (1 : Int)) = D at fin ⊢
              cases D <;> simpa using fin
      · have hne : (b.2.2.1.1 != (1 : Int)) = true := by simpa using hkd
        have hne2 : (b.2.2.1.1 == (1 : Int)) = false := by simpa using hkd
        simp only [hne, hne2, if_true, partS, Bool.false_and, Bool.false_eq_true, if_false, hi]
        exact hrec2 s h

theorem outLoop {ρ : Type} (s K : List Int) (hs : s.length = 4) (hK : keepsOk K = true) : True := trivial

theorem impl_part_eq (l : List T4) (K : List Int) (V : List T5) (hl : l.length ≤ 1048576) (hg : ∀ e ∈ l, gcmd e.2.2.1 = true) (hK : keepsOk K = true) (hk : K.length ≤ 1048576) (hV : V.length ≤ maxLen) :
    S_impl_part l K V = some ((K.map (fun k => rd (partS K V l [100, 100, 100, 100] 0).1 k 0), (partS K V l [100, 100, 100, 100] 0).2, ()), ()) := by
  have hl' : l.length ≤ maxLen := by rw [maxLen_eq]; omega
  have hk' : K.length ≤ maxLen := by rw [maxLen_eq]; omega
  have hin := keepsOk_in hK
  unfold S_impl_part
  refine lim_eq (l.length + K.length + 5) fun N hN => ?_
  unfold p_impl_part
  rw [impl_NewSums_eq]
  simp only [Option.bind_some]
  refine loopN_over l hl' (fun i (s : List Int) => ((K, V, (l.length : Int), l, (l.length : Int), (i : Int), ()), ([], s, ()))) (fun i t s => ((K.map (fun k => rd (partS K V t s i).1 k 0), (partS K V t s i).2, ()), ())) (fun i t s => s.length = 4)
    [100, 100, 100, 100] rfl rfl rfl (by omega) (fun rec s h => ?_) (fun rec i b t s hat h hrec => ?_)
  · dsimp only
    simp only [lenInt_lt_irrefl, decide_false, Bool.false_eq_true, if_false, partS]
    refine loopN_over K hk' (fun i (o : List Int) => (((l.length : Int), K, (K.length : Int), (i : Int), ()), ([], s, o, ()))) (fun i t o => ((o ++ t.map fun k => rd s k 0, (l.length : Int), ()), ())) (fun i t o => o.length ≤ i)
      [] rfl (by simp) (by simp) (by omega) (fun rec o h => ?_) (fun rec i b t o hat h2 hrec => ?_)
    · dsimp only
      simp
    · have hlt := hat.ltn
      have hb := hin b hat.mem
      have hap : ((o.length + ([rd s b 0] : List Int).length) * 8 ≤ 140737488355328) = True := by simp; omega
      have h1 : (b < (s.length : Int)) = True := by rw [h]; simp; omega
      dsimp only
      simp only [hat.lt, hat.nn, hat.wrap, hat.rd, hb.1, h1, hap, decide_true, if_true]
      refine (hrec (o ++ [rd s b 0]) (by simp; omega)).trans ?_
      simp
  · have hgb := hg b hat.mem
    have hidx := idxI_find (kn b) V 0 (Int.le_refl 0)
    have hix : ∀ p : (T5 × Unit) → Option Bool, (∀ x, p (x, ()) = some (kn b x)) → S_IndexFunc_Limpl_Verdict_impl_Verdict V p = some ((idxI (kn b) V 0, ()), ()) := fun p hp => IndexFunc_Verdict_eq (kn b) hV fun x _ => hp x
    dsimp only
    simp only [hat.lt, hat.nn, hat.wrap, hat.rd, decide_true, if_true, Contains_Lint_eq hk', Option.bind_some]
    have hrec2 : ∀ s', s'.length = 4 → rec ((K, V, (l.length : Int), l, (l.length : Int), ((i + 1 : Nat) : Int), ()), ([], s', ())) = some ((K.map (fun k => rd (partS K V t s' ((i : Int) + 1)).1 k 0), (partS K V t s' ((i : Int) + 1)).2, ()), ()) := fun s' h' => hrec s' h'
    clear hrec
    by_cases hkd : b.2.2.1.1 = 1
    · obtain ⟨hf, ht⟩ := gcmd_move hgb hkd
      have f1 : (0 ≤ b.2.2.1.2.2.1) = True := by simp; exact hf.1
      have f2 : (b.2.2.1.2.2.1 < (s.length : Int)) = True := by rw [h]; simp; omega
      have t1 : (0 ≤ b.2.2.1.2.2.2.1) = True := by simp; exact ht.1
      have t2 : (b.2.2.1.2.2.2.1 < (s.length : Int)) = True := by rw [h]; simp; omega
      simp only [hkd, f1, f2, t1, t2, List.length_set, decide_true, if_true, bne_self_eq_false, Bool.false_eq_true, if_false, partS, beq_self_eq_true, Bool.true_and]
      generalize K.contains b.2.2.1.2.2.1 = F
      generalize K.contains b.2.2.1.2.2.2.1 = T
      have fin : ∀ is fr, rec ((K, V, (l.length : Int), l, (l.length : Int), ((i + 1 : Nat) : Int), ()), ([], upd is fr T b.2.2.1 s, ())) = some ((K.map (fun k => rd (partS K V t (upd is fr T b.2.2.1 s) ((i : Int) + 1)).1 k 0), (partS K V t (upd is fr T b.2.2.1 s) ((i : Int) + 1)).2, ()), ()) := fun is fr => hrec2 _ (by rw [upd_len]; exact h)
      cases F with
      | true =>
        generalize decide (rd s b.2.2.1.2.2.1 0 ≥ b.2.2.1.2.2.2.2.1) = D
        have fin := fin D true
        simp only [upd] at fin ⊢
        cases D <;> cases T <;> simpa using fin
      | false =>
        cases T with
        | false => simpa using hrec2 s h
        | true =>
          simp only [Bool.not_false, Bool.false_eq_true, if_false, if_true, Bool.false_or]
          rw [hix _ (fun x => by unfold kn; cases (x.1 == b.1) <;> rfl), Option.bind_some]
          dsimp only
          cases hfind : V.find? (kn b) with
          | none =>
            rw [hidx.1 hfind]
            simp only [show (((-1 : Int) < 0) = True) by simp, decide_true, if_true]
            refine loopN_over K hk' (fun j (o : List Int) => (((i : Int), K, (K.length : Int), (j : Int), ()), ([], s, (b.1, b.2.1, b.2.2.1.1, b.2.2.1.2.1, b.2.2.1.2.2.1, b.2.2.1.2.2.2.1, b.2.2.1.2.2.2.2.1, b.2.2.2.1.1, b.2.2.2.1.2.1, ()), o, ()))) (fun j t o => ((o ++ t.map fun k => rd s k 0, (i : Int), ()), ())) (fun j t o => o.length ≤ j)
              [] (by rw [hkd]; rfl) (by simp) (by simp) (by omega) (fun rec o h => ?_) (fun rec j c t o hat2 h2 hrec3 => ?_)
            · dsimp only
              simp
            · have hlt := hat2.ltn
              have hb := hin c hat2.mem
              have hap : ((o.length + ([rd s c 0] : List Int).length) * 8 ≤ 140737488355328) = True := by simp; omega
              have h1 : (c < (s.length : Int)) = True := by rw [h]; simp; omega
              dsimp only
              simp only [hat2.lt, hat2.nn, hat2.wrap, hat2.rd, hb.1, h1, hap, decide_true, if_true]
              refine (hrec3 (o ++ [rd s c 0]) (by simp; omega)).trans ?_
              simp
          | some v =>
            obtain ⟨n, hn, hv⟩ := hidx.2 v hfind
            have hnl := (List.getElem?_eq_some_iff.1 hv).1
            have hrv : ∀ d, rd V (n : Int) d = v := fun d => by rw [rd_nat, List.getD_eq_getElem?_getD, hv]; rfl
            rw [hn, Int.zero_add]
            have fin := fin (v.2.2.1.1 == 1) false
            simp only [show (((n : Int) < 0) = False) by simp, show ((0 ≤ (n : Int)) = True) by simp, show (((n : Int) < (V.length : Int)) = True) by simp; omega, decide_true, decide_false, if_true, if_false, hrv, Bool.false_eq_true]
            simp only [upd] at fin ⊢
            generalize (v.2.2.1.1 == (1 : Int)) = D at fin ⊢
            cases D <;> simpa using fin
    · have hne : (b.2.2.1.1 != (1 : Int)) = true := by simpa using hkd
      have hne2 : (b.2.2.1.1 == (1 : Int)) = false := by simpa using hkd
      simp only [hne, hne2, if_true, partS, Bool.false_and, Bool.false_eq_true, if_false]
      exact hrec2 s h
end Go.AM.P
