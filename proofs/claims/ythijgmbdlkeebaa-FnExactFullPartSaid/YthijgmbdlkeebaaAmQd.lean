/- Laws on places, watches and checkpoints, in plain words. No condition. -/
import Derived.Test.YthijgmbdlkeebaaAmQc
set_option linter.unusedVariables false
set_option linter.unusedSimpArgs false
namespace Go.AM.P
open Go.AM

/-! ### watches -/
abbrev WatchT := Int × (Int × (List (List Int) × (List Int × Unit)))
theorem sz_Watch : SzOk S_laws_szWatch := fun x k h0 h1 hl => by
  unfold S_laws_szWatch p_laws_szWatch
  have e : Cnt.cnt x = Cnt.cnt x.2.2.1 + Cnt.cnt x.2.2.2.1 := by show 0 + (0 + (_ + (_ + 0))) = _; omega
  rw [e, sz_IntSS _ _ h0 h1 hl.2.2.1]
  refine sz_then h0 h1 rfl fun k' hk h0 h1 => ?_
  simp only [hk, Bool.false_eq_true, if_false]
  rw [sz_IntS _ _ h0 h1 hl.2.2.2.1]
  exact sz_last h0 h1 rfl fun k' hk => by simp only [hk, Bool.false_eq_true, if_false]
theorem to_Watch : ToOk S_laws_toWatch := fun x h => by
  have e : Cnt.cnt x = Cnt.cnt x.2.2.1 + Cnt.cnt x.2.2.2.1 := by show 0 + (0 + (_ + (_ + 0))) = _; omega
  unfold S_laws_toWatch p_laws_toWatch
  rw [to_IntSS _ (by omega), to_IntS _ (by omega)]
  rfl
theorem eq_Watch : EqOk S_laws_eqWatch := fun a b ha hb => by
  unfold S_laws_eqWatch p_laws_eqWatch
  simp only [eq_IntSS _ _ ha.2.2.1 hb.2.2.1, eq_IntS _ _ ha.2.2.2.1 hb.2.2.2.1, Option.bind_some]
  refine (eq_thenI (eq_thenI (eq_then (eq_then rfl)))).trans ?_
  simp only [same_pair a, same_pair a.2, same_pair a.2.2, same_pair a.2.2.2, same_unit]
theorem marks_Watch (x : WatchT) (k : Int) (hl : WL.wl x) (h0 : 0 < k) (hk : k + ((sumCnt List.length x.2.2.1 + x.2.2.2.1.length : Nat) : Int) ≤ 4611686018427387904) :
    ∃ (k' : Int) (s : List (List Int)) (g : List Int), 0 < k' ∧ S_laws_markWatch x k = some ((k', ()), ((x.1, x.2.1, s, g, ()), ())) ∧ S_laws_heldWatch (x.1, x.2.1, s, g, ()) k = some ((k', ()), ()) := by
  unfold S_laws_markWatch S_laws_heldWatch p_laws_markWatch p_laws_heldWatch
  obtain ⟨x1, a1, b1⟩ := marks_IntSS x.2.2.1 k hl.2.2.1 h0 (by omega)
  obtain ⟨x2, a2, b2⟩ := marks_IntS x.2.2.2.1 (k + (sumCnt List.length x.2.2.1 : Int)) hl.2.2.2.1 (by omega) (by omega)
  refine ⟨k + (sumCnt List.length x.2.2.1 : Int) + (x.2.2.2.1.length : Int), x1, x2, ?_, by simp only [a1, Option.bind_some, a2], ?_⟩
  · omega
  · simp only [b1, Option.bind_some]
    rw [held_then (by omega)]
    simp only [b2, Option.bind_some]
    rw [held_then (by omega)]

theorem spec_GoodWatch_eq (x : WatchT) (hl : WL.wl x) : S_spec_GoodWatch x = some ((grp x.2.1 && (inn x.1 0 (x.2.1 - 1) && (doneB x.2.1 none x.2.2.1 && (((x.2.2.2.1.length : Int) == (x.2.2.1.length : Int)) && x.2.2.2.1.all fun b => inn b 0 20))), ()), ()) := by
  unfold S_spec_GoodWatch p_spec_GoodWatch S_spec_l20Good p_spec_l20Good
  simp only [spec_IsGroup_eq, Option.bind_some]
  cases hg : grp x.2.1 with
  | false => simp
  | true =>
    simp only [if_true, grp_wrap hg, spec_l1In_eq, Option.bind_some]
    cases inn x.1 0 (x.2.1 - 1) with
    | false => simp
    | true =>
      simp only [if_true, spec_l18Done_eq hg _ hl.2.2.1.1, Option.bind_some]
      cases doneB x.2.1 none x.2.2.1 with
      | false => simp
      | true =>
        simp only [if_true, spec_l1All_eq _ _ _ hl.2.2.2.1.1, Option.bind_some, Bool.true_and]
        cases ((x.2.2.2.1.length : Int) == (x.2.2.1.length : Int)) <;> simp

theorem impl_GoodWatch_eq (x : WatchT) (hl : WL.wl x) : S_impl_GoodWatch x = some ((grp x.2.1 && (inn x.1 0 (x.2.1 - 1) && (doneB x.2.1 none x.2.2.1 && (((x.2.2.2.1.length : Int) == (x.2.2.1.length : Int)) && x.2.2.2.1.all fun b => inn b 0 20))), ()), ()) := by
  unfold S_impl_GoodWatch p_impl_GoodWatch
  simp only [impl_IsGroup_eq, Option.bind_some]
  cases hg : grp x.2.1 with
  | false => simp
  | true =>
    simp only [if_true, grp_wrap hg, impl_within_eq, Option.bind_some]
    cases inn x.1 0 (x.2.1 - 1) with
    | false => simp
    | true =>
      simp only [if_true, impl_riseInstances_eq hg _ hl.2.2.1.1, Option.bind_some]
      cases doneB x.2.1 none x.2.2.1 with
      | false => simp
      | true =>
        rw [ContainsFunc_Lint_eq (fun b => !inn b 0 20) hl.2.2.2.1.1 (fun x _ => rfl)]
        simp only [if_true, Option.bind_some, not_any_not, Bool.true_and]
        cases ((x.2.2.2.1.length : Int) == (x.2.2.1.length : Int)) <;> simp

theorem law_GoodWatch (x : WatchT) (hl : WL.wl x) (N : Nat) : p_laws_FnExactGoodWatch N x = some ((true, ()), ()) := by
  unfold p_laws_FnExactGoodWatch
  rw [sz_Watch _ _ (by omega) (by omega) hl]
  refine sz_over (by omega) rfl fun hn r hr => ?_
  have hc : Cnt.cnt x ≤ 1048576 := Int.ofNat_le.1 hn
  have ht := to_Watch x hc
  simp only [hr, Bool.false_eq_true, if_false, ht, Option.bind_some, spec_GoodWatch_eq x hl, impl_GoodWatch_eq x hl, eq_Watch x x hl hl, same_self]
  simp

theorem new_Watch (n m : Int) : S_spec_NewWatch n m = S_impl_NewWatch n m := by
  unfold S_spec_NewWatch p_spec_NewWatch S_impl_NewWatch p_impl_NewWatch
  simp only [spec_IsGroup_eq, impl_IsGroup_eq, spec_l1In_eq, impl_within_eq]
theorem impl_NewWatch_eq (n m : Int) : ∃ w r, WL.wl w ∧ Cnt.cnt w = 0 ∧ w.2.2.1 = [] ∧ w.2.2.2.1 = [] ∧ S_impl_NewWatch n m = some ((w, r, ()), ()) := by
  unfold S_impl_NewWatch p_impl_NewWatch
  simp only [impl_IsGroup_eq, impl_within_eq, Option.bind_some]
  have z : ∀ a b : Int, WL.wl ((a, b, [], [], ()) : WatchT) := fun a b => ⟨trivial, trivial, ⟨by simp, by simp⟩, ⟨by simp, by simp⟩, trivial⟩
  cases grp n with
  | false => exact ⟨(0, 0, [], [], ()), false, z _ _, rfl, rfl, rfl, by simp⟩
  | true =>
    simp only [Bool.not_true, Bool.false_eq_true, if_false]
    cases inn m 0 (IntKind.i64.wrap (n - 1)) with
    | false => exact ⟨(0, 0, [], [], ()), false, z _ _, rfl, rfl, rfl, by simp⟩
    | true => exact ⟨(m, n, [], [], ()), true, z _ _, rfl, rfl, rfl, by simp⟩

theorem law_NewWatch (n m : Int) (N : Nat) : p_laws_FnExactNewWatch N n m = some ((true, ()), ()) := by
  unfold p_laws_FnExactNewWatch
  obtain ⟨w, r, hl, hc, h1, h2, hw⟩ := impl_NewWatch_eq n m
  rw [new_Watch, hw]
  obtain ⟨k', s, g, hk, a, b⟩ := marks_Watch w 1 hl (by omega) (by simp [h1, h2, sumCnt])
  have hk' : decide (k' < 0) = false := decide_eq_false (by omega)
  obtain ⟨w1, w2, w3, w4, ⟨⟩⟩ := w
  simp only [Option.bind_some, eq_Watch _ _ hl hl, same_self, a, b, hk', bne_self_eq_false, Bool.not_true, Bool.false_eq_true, if_false]

/-! ### places -/
theorem law_GoodPlaces (n : Int) (l : List (List Int)) (hl : WL.wl l) (N : Nat) : p_laws_FnExactGoodPlaces N n l = some ((true, ()), ()) := by
  unfold p_laws_FnExactGoodPlaces
  rw [sz_IntSS _ _ (by omega) (by omega) hl]
  refine sz_over (by omega) rfl fun hn r hr => ?_
  have hc : Cnt.cnt l ≤ 1048576 := Int.ofNat_le.1 hn
  have ht := to_IntSS l hc
  simp only [hr, Bool.false_eq_true, if_false, ht, Option.bind_some, spec_GoodPlaces_eq n l hl, impl_GoodPlaces_eq n l hl, eq_IntSS l l hl hl, same_self]
  simp

theorem spec_HostsOf_eq (n : Int) (l : List (List Int)) (a : Int) (hl : WL.wl l) (hc : l.length ≤ 1048576) : S_spec_HostsOf n l a = some ((if placesOk n l && inn a 0 3 then (hostsOf a l 0, true, ()) else ([], false, ())), ()) := by
  unfold S_spec_HostsOf
  refine lim_eq (l.length + 1) fun N hN => ?_
  unfold p_spec_HostsOf
  simp only [spec_GoodPlaces_eq n l hl, Option.bind_some, S_spec_l2Account, p_spec_l2Account, spec_l1In_eq]
  cases placesOk n l with
  | false => simp
  | true =>
    cases inn a 0 3 with
    | false => simp
    | true =>
      simp only [Bool.not_true, Bool.false_eq_true, if_false, Bool.and_true, if_true]
      refine loopN_over l hl.1 (fun i (s : List Int) => ((a, l, (l.length : Int), (i : Int), ()), ([], s, ()))) (fun i t s => ((s ++ hostsOf a t (i : Int), true, ()), ())) (fun i t s => s.length ≤ i)
        [] rfl rfl (by simp) hN (fun rec s h => ?_) (fun rec i b t s hat h hrec => ?_)
      · dsimp only
        simp [hostsOf]
      · have hlt := hat.ltn
        dsimp only
        simp only [hat.lt, hat.nn, hat.wrap, hat.rd, decide_true, if_true, spec_l1Has_eq _ _ (wl_mem hl hat.mem).1, Option.bind_some, hostsOf]
        cases hc : b.contains a with
        | false => simp only [Bool.false_eq_true, if_false]; exact hrec s (by omega)
        | true =>
          rw [if_pos rfl, if_pos (by simp; omega)]
          refine (hrec (s ++ [(i : Int)]) (by simp; omega)).trans ?_
          simp

theorem impl_HostsOf_eq (n : Int) (l : List (List Int)) (a : Int) (hl : WL.wl l) (hc : l.length ≤ 1048576) : S_impl_HostsOf n l a = some ((if placesOk n l && inn a 0 3 then (hostsOf a l 0, true, ()) else ([], false, ())), ()) := by
  unfold S_impl_HostsOf p_impl_HostsOf
  simp only [impl_GoodPlaces_eq n l hl, Option.bind_some, S_impl_isAccount, p_impl_isAccount, impl_within_eq]
  cases placesOk n l with
  | false => simp
  | true =>
    cases inn a 0 3 with
    | false => simp
    | true => simp [impl_hosts_eq l a hl hc]

theorem law_HostsOf (n : Int) (l : List (List Int)) (a : Int) (hl : WL.wl l) (N : Nat) : p_laws_FnExactHostsOf N n l a = some ((true, ()), ()) := by
  unfold p_laws_FnExactHostsOf
  rw [sz_IntSS _ _ (by omega) (by omega) hl]
  refine sz_over (by omega) rfl fun hn r hr => ?_
  have hc : Cnt.cnt l ≤ 1048576 := Int.ofNat_le.1 hn
  have hc' : l.length + sumCnt Cnt.cnt l ≤ 1048576 := hc
  have ht := to_IntSS l hc
  have hs : sumCnt List.length l ≤ 1048576 := by
    have : sumCnt List.length l = sumCnt Cnt.cnt l := by
      clear hn hr ht hc hc' hl
      induction l with
      | nil => rfl
      | cons b t ih => simp only [sumCnt, ih, cnt_ints]
    omega
  obtain ⟨l', m1, m2⟩ := marks_IntSS l 1 hl (by omega) (by omega)
  obtain ⟨h, ok, hw, hh, e1, e2⟩ : ∃ (h : List Int) (ok : Bool), WL.wl h ∧ h.length ≤ 1048576 ∧ S_impl_HostsOf n l a = some ((h, ok, ()), ()) ∧ S_spec_HostsOf n l a = some ((h, ok, ()), ()) := by
    cases hb : placesOk n l && inn a 0 3 with
    | false => exact ⟨[], false, ⟨by simp, by simp⟩, by simp, by rw [impl_HostsOf_eq n l a hl (by omega), hb]; simp, by rw [spec_HostsOf_eq n l a hl (by omega), hb]; simp⟩
    | true =>
      have hlen := hostsOf_len a l 0
      exact ⟨hostsOf a l 0, true, ⟨by rw [maxLen_eq]; omega, fun _ _ => trivial⟩, by omega, by rw [impl_HostsOf_eq n l a hl (by omega), hb]; simp, by rw [spec_HostsOf_eq n l a hl (by omega), hb]; simp⟩
  obtain ⟨h', m3, m4⟩ := marks_IntS h 1 hw (by omega) (by omega)
  have p1 : decide ((1 : Int) + (sumCnt List.length l : Int) < 0) = false := decide_eq_false (by omega)
  have p2 : decide ((1 : Int) + (h.length : Int) < 0) = false := decide_eq_false (by omega)
  simp only [hr, ht, Option.bind_some, e1, e2, eq_IntS h h hw hw, eq_IntSS l l hl hl, same_self, m1, m3, m4, p1, p2, bne_self_eq_false, Bool.not_true, Bool.false_eq_true, if_false]

/-! ### checkpoints -/
abbrev CheckT := List (List Int) × (List Int × Unit)
theorem sz_Check : SzOk S_laws_szCheck := fun x k h0 h1 hl => by
  unfold S_laws_szCheck p_laws_szCheck
  have e : Cnt.cnt x = Cnt.cnt x.1 + Cnt.cnt x.2.1 := by show _ + (_ + 0) = _; omega
  rw [e, sz_IntSS _ _ h0 h1 hl.1]
  refine sz_then h0 h1 rfl fun k' hk h0 h1 => ?_
  simp only [hk, Bool.false_eq_true, if_false]
  rw [sz_IntS _ _ h0 h1 hl.2.1]
  exact sz_last h0 h1 rfl fun k' hk => by simp only [hk, Bool.false_eq_true, if_false]
theorem to_Check : ToOk S_laws_toCheck := fun x h => by
  have e : Cnt.cnt x = Cnt.cnt x.1 + Cnt.cnt x.2.1 := by show _ + (_ + 0) = _; omega
  unfold S_laws_toCheck p_laws_toCheck
  rw [to_IntSS _ (by omega), to_IntS _ (by omega)]
  rfl
theorem eq_Check : EqOk S_laws_eqCheck := fun a b ha hb => by
  unfold S_laws_eqCheck p_laws_eqCheck
  simp only [eq_IntSS _ _ ha.1 hb.1, eq_IntS _ _ ha.2.1 hb.2.1, Option.bind_some]
  refine (eq_then (eq_then rfl)).trans ?_
  simp only [same_pair a, same_pair a.2, same_unit]
theorem spec_GoodCheck_eq (n : Int) (x : CheckT) (hl : WL.wl x) : S_spec_GoodCheck n x = some ((grp n && (doneB n none x.1 && goodSums x.2.1), ()), ()) := by
  unfold S_spec_GoodCheck p_spec_GoodCheck
  simp only [spec_IsGroup_eq, Option.bind_some]
  cases hg : grp n with
  | false => simp
  | true =>
    simp only [if_true, spec_l18Done_eq hg _ hl.1.1, spec_GoodSums_eq _ hl.2.1.1, Option.bind_some]
    cases doneB n none x.1 <;> simp
theorem impl_GoodCheck_eq (n : Int) (x : CheckT) (hl : WL.wl x) : S_impl_GoodCheck n x = some ((grp n && (doneB n none x.1 && goodSums x.2.1), ()), ()) := by
  unfold S_impl_GoodCheck p_impl_GoodCheck
  simp only [impl_IsGroup_eq, Option.bind_some]
  cases hg : grp n with
  | false => simp
  | true =>
    simp only [if_true, impl_riseInstances_eq hg _ hl.1.1, impl_GoodSums_eq _ hl.2.1.1, Option.bind_some]
    cases doneB n none x.1 <;> simp
theorem law_GoodCheck (n : Int) (x : CheckT) (hl : WL.wl x) (N : Nat) : p_laws_FnExactGoodCheck N n x = some ((true, ()), ()) := by
  unfold p_laws_FnExactGoodCheck
  rw [sz_Check _ _ (by omega) (by omega) hl]
  refine sz_over (by omega) rfl fun hn r hr => ?_
  have hc : Cnt.cnt x ≤ 1048576 := Int.ofNat_le.1 hn
  have ht := to_Check x hc
  simp only [hr, Bool.false_eq_true, if_false, ht, Option.bind_some, spec_GoodCheck_eq n x hl, impl_GoodCheck_eq n x hl, eq_Check x x hl hl, same_self]
  simp
end Go.AM.P
