/- What the laws' own functions do to data. Printed by genkit.py. No condition. -/
import Derived.Test.YthijgmbdlkeebaaAmQa
set_option linter.unusedVariables false
set_option linter.unusedSimpArgs false
namespace Go.AM.P
open Go.AM
theorem sz_EntryS : SzOk S_laws_szEntryS := fun x k h0 h1 hl => by
  unfold S_laws_szEntryS p_laws_szEntryS
  have e : Cnt.cnt x = x.length := cnt_flat (fun y => by rfl) x
  rw [sz_head hl.1 h0 h1, szRes, e]
  by_cases hk : k - (x.length : Int) < 0
  · simp only [hk, decide_true, if_true]
    rw [szV_neg (by omega)]
  · simp only [hk, decide_false, Bool.false_eq_true, if_false]
    rw [szV_pos (by omega)]

theorem to_Cmd : ToOk S_laws_toCmd := fun x h => by
  unfold S_laws_toCmd p_laws_toCmd
  rfl

theorem to_Told : ToOk S_laws_toTold := fun x h => by
  unfold S_laws_toTold p_laws_toTold
  rfl

theorem to_Entry : ToOk S_laws_toEntry := fun x h => by
  unfold S_laws_toEntry p_laws_toEntry
  simp only [cnt_pair, cnt_int0, cnt_bool0, cnt_unit0] at h
  have e : Cnt.cnt x.2.2.1 ≤ 1048576 ∧ Cnt.cnt x.2.2.2.1 ≤ 1048576 := by refine ⟨?_, ?_⟩ <;> (first | omega | (simp only [cnt_pair, cnt_int0, cnt_bool0, cnt_unit0]; omega))
  simp only [to_Cmd x.2.2.1 e.1, to_Told x.2.2.2.1 e.2, Option.bind_some]

theorem to_EntryS : ToOk S_laws_toEntryS := fun x h => lim_eq (x.length + 1) fun N hN => to_list to_Entry _ 72 (by omega) x h hN

theorem eq_Cmd : EqOk S_laws_eqCmd := fun a b ha hb => by
  unfold S_laws_eqCmd p_laws_eqCmd
  refine (eq_thenI (eq_thenI (eq_thenI (eq_thenI (eq_thenI rfl))))).trans ?_
  simp only [same_pair a, same_pair a.2, same_pair a.2.2, same_pair a.2.2.2, same_pair a.2.2.2.2, same_unit]

theorem eq_Told : EqOk S_laws_eqTold := fun a b ha hb => by
  unfold S_laws_eqTold p_laws_eqTold
  refine (eq_thenI (eq_thenI rfl)).trans ?_
  simp only [same_pair a, same_pair a.2, same_unit]

theorem eq_Entry : EqOk S_laws_eqEntry := fun a b ha hb => by
  unfold S_laws_eqEntry p_laws_eqEntry
  simp only [eq_Cmd _ _ ha.2.2.1 hb.2.2.1, eq_Told _ _ ha.2.2.2.1 hb.2.2.2.1, Option.bind_some]
  refine (eq_thenI (eq_thenI (eq_then (eq_then rfl)))).trans ?_
  simp only [same_pair a, same_pair a.2, same_pair a.2.2, same_pair a.2.2.2, same_unit]

theorem eq_EntryS : EqOk S_laws_eqEntryS := fun a b ha hb => lim_eq (a.length + 1) fun N hN => eq_list eq_Entry _ a b ha hb hN

def ue_EntryS (b : T4) : Nat := 9
def u_EntryS (l : List (T4)) : Nat := sumCnt ue_EntryS l
noncomputable def e_EntryS (k : Int) (b : T4) : T4 := (k, k + 1, (k + 1 + 1, k + 1 + 1 + 1, k + 1 + 1 + 1 + 1, k + 1 + 1 + 1 + 1 + 1, k + 1 + 1 + 1 + 1 + 1 + 1, ()), (k + 1 + 1 + 1 + 1 + 1 + 1 + 1, k + 1 + 1 + 1 + 1 + 1 + 1 + 1 + 1, ()), ())
noncomputable def M_EntryS : Int → List (T4) → List (T4)
  | _, [] => []
  | k, b :: t => e_EntryS k b :: M_EntryS (k + (ue_EntryS b : Int)) t
theorem M_EntryS_len : ∀ (l : List (T4)) (k : Int), (M_EntryS k l).length = l.length
  | [], _ => rfl
  | b :: t, k => by rw [M_EntryS, List.length_cons, M_EntryS_len t, List.length_cons]
theorem mark_EntryS {l : List (T4)} {k : Int} (hl : WL.wl l) (h0 : 0 < k) (hk : k + (u_EntryS l : Int) ≤ 4611686018427387904) : S_laws_markEntryS l k = some ((k + (u_EntryS l : Int), ()), (M_EntryS k l, ())) := by
  unfold S_laws_markEntryS
  refine lim_eq (l.length + 1) fun N hN => ?_
  unfold p_laws_markEntryS
  refine loopN_mut l hl.1 (fun i xs (s : Int) => ((s, (i : Int), ()), (xs, ()))) (fun dn t s => ((s + (u_EntryS t : Int), ()), (dn ++ M_EntryS s t, ()))) (fun dn t s => 0 < s ∧ s + (u_EntryS t : Int) ≤ 4611686018427387904 ∧ ∀ x ∈ t, WL.wl x)
    k rfl rfl ⟨h0, hk, hl.2⟩ hN (fun rec dn s hd hs => ?_) (fun rec dn b t s hat hs hrec => ?_)
  · dsimp only
    simp [M_EntryS, u_EntryS, sumCnt]
  · obtain ⟨h1, h2, h3⟩ := hs
    have hu : (u_EntryS (b :: t) : Int) = (ue_EntryS b : Int) + (u_EntryS t : Int) := by simp only [u_EntryS, sumCnt]; omega
    have hb : (ue_EntryS b : Int) = 9 := by simp only [ue_EntryS]; omega
    rw [hu, hb] at h2
    have w0 : IntKind.i64.wrap (s + 1) = s + 1 := wrap_small (by omega) (by omega)
    have w1 : IntKind.i64.wrap (s + 1 + 1) = s + 1 + 1 := wrap_small (by omega) (by omega)
    have w2 : IntKind.i64.wrap (s + 1 + 1 + 1) = s + 1 + 1 + 1 := wrap_small (by omega) (by omega)
    have w3 : IntKind.i64.wrap (s + 1 + 1 + 1 + 1) = s + 1 + 1 + 1 + 1 := wrap_small (by omega) (by omega)
    have w4 : IntKind.i64.wrap (s + 1 + 1 + 1 + 1 + 1) = s + 1 + 1 + 1 + 1 + 1 := wrap_small (by omega) (by omega)
    have w5 : IntKind.i64.wrap (s + 1 + 1 + 1 + 1 + 1 + 1) = s + 1 + 1 + 1 + 1 + 1 + 1 := wrap_small (by omega) (by omega)
    have w6 : IntKind.i64.wrap (s + 1 + 1 + 1 + 1 + 1 + 1 + 1) = s + 1 + 1 + 1 + 1 + 1 + 1 + 1 := wrap_small (by omega) (by omega)
    have w7 : IntKind.i64.wrap (s + 1 + 1 + 1 + 1 + 1 + 1 + 1 + 1) = s + 1 + 1 + 1 + 1 + 1 + 1 + 1 + 1 := wrap_small (by omega) (by omega)
    have w8 : IntKind.i64.wrap (s + 1 + 1 + 1 + 1 + 1 + 1 + 1 + 1 + 1) = s + 1 + 1 + 1 + 1 + 1 + 1 + 1 + 1 + 1 := wrap_small (by omega) (by omega)
    dsimp only
    simp only [lt_mid, nn_mid, decide_true, if_true, Int.toNat_natCast, set_mid, rd_mid, hat.wrap, w0, w1, w2, w3, w4, w5, w6, w7, w8]
    rw [Option.bind_some]
    simp only [lt_mid, nn_mid, decide_true, if_true, Int.toNat_natCast, set_mid, rd_mid, w0, w1, w2, w3, w4, w5, w6, w7, w8]
    rw [Option.bind_some]
    simp only [lt_mid, nn_mid, decide_true, if_true, Int.toNat_natCast, set_mid, rd_mid, w0, w1, w2, w3, w4, w5, w6, w7, w8]
    rw [Option.bind_some]
    simp only [lt_mid, nn_mid, decide_true, if_true, Int.toNat_natCast, set_mid, rd_mid, w0, w1, w2, w3, w4, w5, w6, w7, w8]
    rw [Option.bind_some]
    simp only [lt_mid, nn_mid, decide_true, if_true, Int.toNat_natCast, set_mid, rd_mid, w0, w1, w2, w3, w4, w5, w6, w7, w8]
    rw [Option.bind_some]
    simp only [lt_mid, nn_mid, decide_true, if_true, Int.toNat_natCast, set_mid, rd_mid, w0, w1, w2, w3, w4, w5, w6, w7, w8]
    rw [Option.bind_some]
    simp only [lt_mid, nn_mid, decide_true, if_true, Int.toNat_natCast, set_mid, rd_mid, w0, w1, w2, w3, w4, w5, w6, w7, w8]
    rw [Option.bind_some]
    simp only [lt_mid, nn_mid, decide_true, if_true, Int.toNat_natCast, set_mid, rd_mid, w0, w1, w2, w3, w4, w5, w6, w7, w8]
    rw [Option.bind_some]
    simp only [lt_mid, nn_mid, decide_true, if_true, Int.toNat_natCast, set_mid, rd_mid, w0, w1, w2, w3, w4, w5, w6, w7, w8]
    refine (hrec (e_EntryS s b) (s + 1 + 1 + 1 + 1 + 1 + 1 + 1 + 1 + 1) ⟨by omega, by omega, fun x hx => h3 x (by simp [hx])⟩).trans ?_
    have hk' : s + 1 + 1 + 1 + 1 + 1 + 1 + 1 + 1 + 1 = s + (ue_EntryS b : Int) := by omega
    simp only [M_EntryS, List.append_assoc, List.singleton_append, Option.some.injEq, Prod.mk.injEq, and_true, hk']
    omega
theorem markOk_EntryS : MarkOk S_laws_markEntryS u_EntryS := fun l k hl h0 hk => ⟨_, mark_EntryS hl h0 hk⟩

theorem eq_Verdict : EqOk S_laws_eqVerdict := fun a b ha hb => by
  unfold S_laws_eqVerdict p_laws_eqVerdict
  simp only [eq_Told _ _ ha.2.2.1 hb.2.2.1, Option.bind_some]
  refine (eq_thenI (eq_thenI (eq_then rfl))).trans ?_
  simp only [same_pair a, same_pair a.2, same_pair a.2.2, same_unit]

theorem eq_VerdictS : EqOk S_laws_eqVerdictS := fun a b ha hb => lim_eq (a.length + 1) fun N hN => eq_list eq_Verdict _ a b ha hb hN

def ue_VerdictS (b : T5) : Nat := 4
def u_VerdictS (l : List (T5)) : Nat := sumCnt ue_VerdictS l
noncomputable def e_VerdictS (k : Int) (b : T5) : T5 := (k, k + 1, (k + 1 + 1, k + 1 + 1 + 1, ()), ())
noncomputable def M_VerdictS : Int → List (T5) → List (T5)
  | _, [] => []
  | k, b :: t => e_VerdictS k b :: M_VerdictS (k + (ue_VerdictS b : Int)) t
theorem M_VerdictS_len : ∀ (l : List (T5)) (k : Int), (M_VerdictS k l).length = l.length
  | [], _ => rfl
  | b :: t, k => by rw [M_VerdictS, List.length_cons, M_VerdictS_len t, List.length_cons]
theorem mark_VerdictS {l : List (T5)} {k : Int} (hl : WL.wl l) (h0 : 0 < k) (hk : k + (u_VerdictS l : Int) ≤ 4611686018427387904) : S_laws_markVerdictS l k = some ((k + (u_VerdictS l : Int), ()), (M_VerdictS k l, ())) := by
  unfold S_laws_markVerdictS
  refine lim_eq (l.length + 1) fun N hN => ?_
  unfold p_laws_markVerdictS
  refine loopN_mut l hl.1 (fun i xs (s : Int) => ((s, (i : Int), ()), (xs, ()))) (fun dn t s => ((s + (u_VerdictS t : Int), ()), (dn ++ M_VerdictS s t, ()))) (fun dn t s => 0 < s ∧ s + (u_VerdictS t : Int) ≤ 4611686018427387904 ∧ ∀ x ∈ t, WL.wl x)
    k rfl rfl ⟨h0, hk, hl.2⟩ hN (fun rec dn s hd hs => ?_) (fun rec dn b t s hat hs hrec => ?_)
  · dsimp only
    simp [M_VerdictS, u_VerdictS, sumCnt]
  · obtain ⟨h1, h2, h3⟩ := hs
    have hu : (u_VerdictS (b :: t) : Int) = (ue_VerdictS b : Int) + (u_VerdictS t : Int) := by simp only [u_VerdictS, sumCnt]; omega
    have hb : (ue_VerdictS b : Int) = 4 := by simp only [ue_VerdictS]; omega
    rw [hu, hb] at h2
    have w0 : IntKind.i64.wrap (s + 1) = s + 1 := wrap_small (by omega) (by omega)
    have w1 : IntKind.i64.wrap (s + 1 + 1) = s + 1 + 1 := wrap_small (by omega) (by omega)
    have w2 : IntKind.i64.wrap (s + 1 + 1 + 1) = s + 1 + 1 + 1 := wrap_small (by omega) (by omega)
    have w3 : IntKind.i64.wrap (s + 1 + 1 + 1 + 1) = s + 1 + 1 + 1 + 1 := wrap_small (by omega) (by omega)
    dsimp only
    simp only [lt_mid, nn_mid, decide_true, if_true, Int.toNat_natCast, set_mid, rd_mid, hat.wrap, w0, w1, w2, w3]
    rw [Option.bind_some]
    simp only [lt_mid, nn_mid, decide_true, if_true, Int.toNat_natCast, set_mid, rd_mid, w0, w1, w2, w3]
    rw [Option.bind_some]
    simp only [lt_mid, nn_mid, decide_true, if_true, Int.toNat_natCast, set_mid, rd_mid, w0, w1, w2, w3]
    rw [Option.bind_some]
    simp only [lt_mid, nn_mid, decide_true, if_true, Int.toNat_natCast, set_mid, rd_mid, w0, w1, w2, w3]
    refine (hrec (e_VerdictS s b) (s + 1 + 1 + 1 + 1) ⟨by omega, by omega, fun x hx => h3 x (by simp [hx])⟩).trans ?_
    have hk' : s + 1 + 1 + 1 + 1 = s + (ue_VerdictS b : Int) := by omega
    simp only [M_VerdictS, List.append_assoc, List.singleton_append, Option.some.injEq, Prod.mk.injEq, and_true, hk']
    omega
theorem markOk_VerdictS : MarkOk S_laws_markVerdictS u_VerdictS := fun l k hl h0 hk => ⟨_, mark_VerdictS hl h0 hk⟩
theorem held_VerdictS {l : List (T5)} {k : Int} (hl : WL.wl l) (h0 : 0 < k) (hk : k + (u_VerdictS l : Int) ≤ 4611686018427387904) : S_laws_heldVerdictS (M_VerdictS k l) k = some ((k + (u_VerdictS l : Int), ()), ()) := by
  unfold S_laws_heldVerdictS
  refine lim_eq (l.length + 1) fun N hN => ?_
  unfold p_laws_heldVerdictS
  have hml := M_VerdictS_len l k
  refine loopN_over (M_VerdictS k l) (by have := hl.1; omega) (fun i (s : Int) => ((M_VerdictS k l, s, (i : Int), ()), ())) (fun i t s => ((k + (u_VerdictS l : Int), ()), ())) (fun i t s => 0 < s ∧ ∃ m, t = M_VerdictS s m ∧ s + (u_VerdictS m : Int) = k + (u_VerdictS l : Int) ∧ ∀ x ∈ m, WL.wl x)
    k rfl rfl ⟨h0, l, rfl, rfl, hl.2⟩ (by omega) (fun rec s hs => ?_) (fun rec i b' t s hat hs hrec => ?_)
  · obtain ⟨h1, m, h2, h3, hwl⟩ := hs
    have : m = [] := by
      have := M_VerdictS_len m s
      rw [← h2] at this
      exact List.eq_nil_of_length_eq_zero this.symm
    subst this
    simp only [u_VerdictS, sumCnt] at h3
    dsimp only
    simp only [lenInt_lt_irrefl, decide_false, Bool.false_eq_true, if_false, Option.some.injEq, Prod.mk.injEq, and_true, u_VerdictS]
    omega
  · obtain ⟨h1, m, h2, h3, hwl⟩ := hs
    cases m with
    | nil => cases h2
    | cons b m =>
    rw [M_VerdictS] at h2
    simp only [List.cons.injEq] at h2
    obtain ⟨rfl, h2⟩ := h2
    have hu : (u_VerdictS (b :: m) : Int) = (ue_VerdictS b : Int) + (u_VerdictS m : Int) := by simp only [u_VerdictS, sumCnt]; omega
    have hb : (ue_VerdictS b : Int) = 4 := by simp only [ue_VerdictS]; omega
    rw [hu] at h3
    have w0 : IntKind.i64.wrap (s + 1) = s + 1 := wrap_small (by omega) (by omega)
    have w1 : IntKind.i64.wrap (s + 1 + 1) = s + 1 + 1 := wrap_small (by omega) (by omega)
    have w2 : IntKind.i64.wrap (s + 1 + 1 + 1) = s + 1 + 1 + 1 := wrap_small (by omega) (by omega)
    have w3 : IntKind.i64.wrap (s + 1 + 1 + 1 + 1) = s + 1 + 1 + 1 + 1 := wrap_small (by omega) (by omega)
    dsimp only
    simp only [hat.lt, hat.nn, hat.wrap, hat.rd, e_VerdictS, decide_true, if_true, w0, w1, w2, w3, bne_self_eq_false, Bool.false_eq_true, if_false, Option.bind_some]
    have hk' : s + 1 + 1 + 1 + 1 = s + (ue_VerdictS b : Int) := by omega
    rw [hk']
    exact hrec _ ⟨by omega, m, h2, by omega, fun x hx => hwl x (by simp [hx])⟩
theorem marks_VerdictS : Marks S_laws_markVerdictS S_laws_heldVerdictS u_VerdictS := fun l k hl h0 hk => ⟨_, mark_VerdictS hl h0 hk, held_VerdictS hl h0 hk⟩

theorem sz_Attr : SzOk S_laws_szAttr := fun x k h0 h1 hl => by
  unfold S_laws_szAttr p_laws_szAttr
  have e : Cnt.cnt x = Cnt.cnt x.2.1 := by simp only [cnt_pair, cnt_int0, cnt_bool0, cnt_unit0]; omega
  rw [e]
  rw [sz_IntS _ _ h0 h1 hl.2.1]
  exact sz_last h0 h1 rfl fun k' hk => by simp only [hk, Bool.false_eq_true, if_false]

theorem sz_Row : SzOk S_laws_szRow := fun x k h0 h1 hl => by
  unfold S_laws_szRow p_laws_szRow
  have e : Cnt.cnt x = Cnt.cnt x.2.2.2.2.1 := by simp only [cnt_pair, cnt_int0, cnt_bool0, cnt_unit0]; omega
  rw [e]
  rw [sz_Attr _ _ h0 h1 hl.2.2.2.2.1]
  exact sz_last h0 h1 rfl fun k' hk => by simp only [hk, Bool.false_eq_true, if_false]

theorem sz_RowS : SzOk S_laws_szRowS := fun x k h0 h1 hl => lim_eq (x.length + 1) fun N hN => sz_list sz_Row _ x k h0 h1 hl hN

theorem sz_RowSS : SzOk S_laws_szRowSS := fun x k h0 h1 hl => lim_eq (x.length + 1) fun N hN => sz_list sz_RowS _ x k h0 h1 hl hN

theorem sz_Table : SzOk S_laws_szTable := fun x k h0 h1 hl => by
  unfold S_laws_szTable p_laws_szTable
  have e : Cnt.cnt x = Cnt.cnt x.2.1 := by simp only [cnt_pair, cnt_int0, cnt_bool0, cnt_unit0]; omega
  rw [e]
  rw [sz_RowSS _ _ h0 h1 hl.2.1]
  exact sz_last h0 h1 rfl fun k' hk => by simp only [hk, Bool.false_eq_true, if_false]

theorem to_Attr : ToOk S_laws_toAttr := fun x h => by
  unfold S_laws_toAttr p_laws_toAttr
  simp only [cnt_pair, cnt_int0, cnt_bool0, cnt_unit0] at h
  have e : Cnt.cnt x.2.1 ≤ 1048576 := by (first | omega | (simp only [cnt_pair, cnt_int0, cnt_bool0, cnt_unit0]; omega))
  simp only [to_IntS x.2.1 e, Option.bind_some]

theorem to_Row : ToOk S_laws_toRow := fun x h => by
  unfold S_laws_toRow p_laws_toRow
  simp only [cnt_pair, cnt_int0, cnt_bool0, cnt_unit0] at h
  have e : Cnt.cnt x.2.2.2.1 ≤ 1048576 ∧ Cnt.cnt x.2.2.2.2.1 ≤ 1048576 := by refine ⟨?_, ?_⟩ <;> (first | omega | (simp only [cnt_pair, cnt_int0, cnt_bool0, cnt_unit0]; omega))
  simp only [to_Cmd x.2.2.2.1 e.1, to_Attr x.2.2.2.2.1 e.2, Option.bind_some]

theorem to_RowS : ToOk S_laws_toRowS := fun x h => lim_eq (x.length + 1) fun N hN => to_list to_Row _ 96 (by omega) x h hN

theorem to_RowSS : ToOk S_laws_toRowSS := fun x h => lim_eq (x.length + 1) fun N hN => to_list to_RowS _ 24 (by omega) x h hN

theorem to_Table : ToOk S_laws_toTable := fun x h => by
  unfold S_laws_toTable p_laws_toTable
  simp only [cnt_pair, cnt_int0, cnt_bool0, cnt_unit0] at h
  have e : Cnt.cnt x.2.1 ≤ 1048576 := by (first | omega | (simp only [cnt_pair, cnt_int0, cnt_bool0, cnt_unit0]; omega))
  simp only [to_RowSS x.2.1 e, Option.bind_some]

theorem eq_Attr : EqOk S_laws_eqAttr := fun a b ha hb => by
  unfold S_laws_eqAttr p_laws_eqAttr
  simp only [eq_IntS _ _ ha.2.1 hb.2.1, Option.bind_some]
  refine (eq_thenI (eq_then rfl)).trans ?_
  simp only [same_pair a, same_pair a.2, same_unit]

theorem eq_Row : EqOk S_laws_eqRow := fun a b ha hb => by
  unfold S_laws_eqRow p_laws_eqRow
  simp only [eq_Cmd _ _ ha.2.2.2.1 hb.2.2.2.1, eq_Attr _ _ ha.2.2.2.2.1 hb.2.2.2.2.1, Option.bind_some]
  refine (eq_thenI (eq_thenI (eq_thenI (eq_then (eq_then rfl))))).trans ?_
  simp only [same_pair a, same_pair a.2, same_pair a.2.2, same_pair a.2.2.2, same_pair a.2.2.2.2, same_unit]

theorem eq_RowS : EqOk S_laws_eqRowS := fun a b ha hb => lim_eq (a.length + 1) fun N hN => eq_list eq_Row _ a b ha hb hN

theorem eq_RowSS : EqOk S_laws_eqRowSS := fun a b ha hb => lim_eq (a.length + 1) fun N hN => eq_list eq_RowS _ a b ha hb hN

theorem eq_Table : EqOk S_laws_eqTable := fun a b ha hb => by
  unfold S_laws_eqTable p_laws_eqTable
  simp only [eq_RowSS _ _ ha.2.1 hb.2.1, Option.bind_some]
  refine (eq_thenI (eq_then rfl)).trans ?_
  simp only [same_pair a, same_pair a.2, same_unit]

theorem sz_VerdictS : SzOk S_laws_szVerdictS := fun x k h0 h1 hl => by
  unfold S_laws_szVerdictS p_laws_szVerdictS
  have e : Cnt.cnt x = x.length := cnt_flat (fun y => by rfl) x
  rw [sz_head hl.1 h0 h1, szRes, e]
  by_cases hk : k - (x.length : Int) < 0
  · simp only [hk, decide_true, if_true]
    rw [szV_neg (by omega)]
  · simp only [hk, decide_false, Bool.false_eq_true, if_false]
    rw [szV_pos (by omega)]

theorem to_Verdict : ToOk S_laws_toVerdict := fun x h => by
  unfold S_laws_toVerdict p_laws_toVerdict
  simp only [cnt_pair, cnt_int0, cnt_bool0, cnt_unit0] at h
  have e : Cnt.cnt x.2.2.1 ≤ 1048576 := by (first | omega | (simp only [cnt_pair, cnt_int0, cnt_bool0, cnt_unit0]; omega))
  simp only [to_Told x.2.2.1 e, Option.bind_some]

theorem to_VerdictS : ToOk S_laws_toVerdictS := fun x h => lim_eq (x.length + 1) fun N hN => to_list to_Verdict _ 32 (by omega) x h hN

def ue_RowS (b : T7) : Nat := 9 + List.length b.2.2.2.2.1.2.1
def u_RowS (l : List (T7)) : Nat := sumCnt ue_RowS l
noncomputable def e_RowS (k : Int) (b : T7) : T7 := (k, k + 1, k + 1 + 1, (k + 1 + 1 + 1, k + 1 + 1 + 1 + 1, k + 1 + 1 + 1 + 1 + 1, k + 1 + 1 + 1 + 1 + 1 + 1, k + 1 + 1 + 1 + 1 + 1 + 1 + 1, ()), (k + 1 + 1 + 1 + 1 + 1 + 1 + 1 + 1, marks (k + 1 + 1 + 1 + 1 + 1 + 1 + 1 + 1 + 1) (b.2.2.2.2.1.2.1).length, ()), ())
noncomputable def M_RowS : Int → List (T7) → List (T7)
  | _, [] => []
  | k, b :: t => e_RowS k b :: M_RowS (k + (ue_RowS b : Int)) t
theorem M_RowS_len : ∀ (l : List (T7)) (k : Int), (M_RowS k l).length = l.length
  | [], _ => rfl
  | b :: t, k => by rw [M_RowS, List.length_cons, M_RowS_len t, List.length_cons]
theorem mark_RowS {l : List (T7)} {k : Int} (hl : WL.wl l) (h0 : 0 < k) (hk : k + (u_RowS l : Int) ≤ 4611686018427387904) : S_laws_markRowS l k = some ((k + (u_RowS l : Int), ()), (M_RowS k l, ())) := by
  unfold S_laws_markRowS
  refine lim_eq (l.length + 1) fun N hN => ?_
  unfold p_laws_markRowS
  refine loopN_mut l hl.1 (fun i xs (s : Int) => ((s, (i : Int), ()), (xs, ()))) (fun dn t s => ((s + (u_RowS t : Int), ()), (dn ++ M_RowS s t, ()))) (fun dn t s => 0 < s ∧ s + (u_RowS t : Int) ≤ 4611686018427387904 ∧ ∀ x ∈ t, WL.wl x)
    k rfl rfl ⟨h0, hk, hl.2⟩ hN (fun rec dn s hd hs => ?_) (fun rec dn b t s hat hs hrec => ?_)
  · dsimp only
    simp [M_RowS, u_RowS, sumCnt]
  · obtain ⟨h1, h2, h3⟩ := hs
    have hu : (u_RowS (b :: t) : Int) = (ue_RowS b : Int) + (u_RowS t : Int) := by simp only [u_RowS, sumCnt]; omega
    have hb : (ue_RowS b : Int) = 9 + (List.length b.2.2.2.2.1.2.1 : Int) := by simp only [ue_RowS]; omega
    rw [hu, hb] at h2
    have c0 := markIntS_eq (l := b.2.2.2.2.1.2.1) (k := s + 1 + 1 + 1 + 1 + 1 + 1 + 1 + 1 + 1) (by omega) (by omega)
    have w0 : IntKind.i64.wrap (s + 1) = s + 1 := wrap_small (by omega) (by omega)
    have w1 : IntKind.i64.wrap (s + 1 + 1) = s + 1 + 1 := wrap_small (by omega) (by omega)
    have w2 : IntKind.i64.wrap (s + 1 + 1 + 1) = s + 1 + 1 + 1 := wrap_small (by omega) (by omega)
    have w3 : IntKind.i64.wrap (s + 1 + 1 + 1 + 1) = s + 1 + 1 + 1 + 1 := wrap_small (by omega) (by omega)
    have w4 : IntKind.i64.wrap (s + 1 + 1 + 1 + 1 + 1) = s + 1 + 1 + 1 + 1 + 1 := wrap_small (by omega) (by omega)
    have w5 : IntKind.i64.wrap (s + 1 + 1 + 1 + 1 + 1 + 1) = s + 1 + 1 + 1 + 1 + 1 + 1 := wrap_small (by omega) (by omega)
    have w6 : IntKind.i64.wrap (s + 1 + 1 + 1 + 1 + 1 + 1 + 1) = s + 1 + 1 + 1 + 1 + 1 + 1 + 1 := wrap_small (by omega) (by omega)
    have w7 : IntKind.i64.wrap (s + 1 + 1 + 1 + 1 + 1 + 1 + 1 + 1) = s + 1 + 1 + 1 + 1 + 1 + 1 + 1 + 1 := wrap_small (by omega) (by omega)
    have w8 : IntKind.i64.wrap (s + 1 + 1 + 1 + 1 + 1 + 1 + 1 + 1 + 1) = s + 1 + 1 + 1 + 1 + 1 + 1 + 1 + 1 + 1 := wrap_small (by omega) (by omega)
    dsimp only
    simp only [lt_mid, nn_mid, decide_true, if_true, Int.toNat_natCast, set_mid, rd_mid, hat.wrap, w0, w1, w2, w3, w4, w5, w6, w7, w8, c0]
    rw [Option.bind_some]
    simp only [lt_mid, nn_mid, decide_true, if_true, Int.toNat_natCast, set_mid, rd_mid, w0, w1, w2, w3, w4, w5, w6, w7, w8, c0]
    rw [Option.bind_some]
    simp only [lt_mid, nn_mid, decide_true, if_true, Int.toNat_natCast, set_mid, rd_mid, w0, w1, w2, w3, w4, w5, w6, w7, w8, c0]
    rw [Option.bind_some]
    simp only [lt_mid, nn_mid, decide_true, if_true, Int.toNat_natCast, set_mid, rd_mid, w0, w1, w2, w3, w4, w5, w6, w7, w8, c0]
    rw [Option.bind_some]
    simp only [lt_mid, nn_mid, decide_true, if_true, Int.toNat_natCast, set_mid, rd_mid, w0, w1, w2, w3, w4, w5, w6, w7, w8, c0]
    rw [Option.bind_some]
    simp only [lt_mid, nn_mid, decide_true, if_true, Int.toNat_natCast, set_mid, rd_mid, w0, w1, w2, w3, w4, w5, w6, w7, w8, c0]
    rw [Option.bind_some]
    simp only [lt_mid, nn_mid, decide_true, if_true, Int.toNat_natCast, set_mid, rd_mid, w0, w1, w2, w3, w4, w5, w6, w7, w8, c0]
    rw [Option.bind_some]
    simp only [lt_mid, nn_mid, decide_true, if_true, Int.toNat_natCast, set_mid, rd_mid, w0, w1, w2, w3, w4, w5, w6, w7, w8, c0]
    rw [Option.bind_some]
    simp only [lt_mid, nn_mid, decide_true, if_true, Int.toNat_natCast, set_mid, rd_mid, w0, w1, w2, w3, w4, w5, w6, w7, w8, c0]
    rw [Option.bind_some]
    simp only [lt_mid, nn_mid, decide_true, if_true, Int.toNat_natCast, set_mid, rd_mid, w0, w1, w2, w3, w4, w5, w6, w7, w8, c0]
    rw [Option.bind_some]
    simp only [lt_mid, nn_mid, decide_true, if_true, Int.toNat_natCast, set_mid, rd_mid, w0, w1, w2, w3, w4, w5, w6, w7, w8, c0]
    refine (hrec (e_RowS s b) (s + 1 + 1 + 1 + 1 + 1 + 1 + 1 + 1 + 1 + (List.length b.2.2.2.2.1.2.1 : Int)) ⟨by omega, by omega, fun x hx => h3 x (by simp [hx])⟩).trans ?_
    have hk' : s + 1 + 1 + 1 + 1 + 1 + 1 + 1 + 1 + 1 + (List.length b.2.2.2.2.1.2.1 : Int) = s + (ue_RowS b : Int) := by omega
    simp only [M_RowS, List.append_assoc, List.singleton_append, Option.some.injEq, Prod.mk.injEq, and_true, hk']
    omega
theorem markOk_RowS : MarkOk S_laws_markRowS u_RowS := fun l k hl h0 hk => ⟨_, mark_RowS hl h0 hk⟩

def u_RowSS (l : List (List (T7))) : Nat := sumCnt u_RowS l
noncomputable def M_RowSS (k : Int) (l : List (List (T7))) : List (List (T7)) := mlist S_laws_markRowS k l
theorem mark_RowSS {l : List (List (T7))} {k : Int} (hl : WL.wl l) (h0 : 0 < k) (hk : k + (u_RowSS l : Int) ≤ 4611686018427387904) : S_laws_markRowSS l k = some ((k + (u_RowSS l : Int), ()), (M_RowSS k l, ())) :=
  lim_eq (l.length + 1) fun N hN => mark_list markOk_RowS _ l k h0 hl hk hN
theorem markOk_RowSS : MarkOk S_laws_markRowSS u_RowSS := fun l k hl h0 hk => ⟨_, mark_RowSS hl h0 hk⟩

end Go.AM.P
