/- Stores: the operation. No condition. -/
import Derived.Test.YthijgmbdlkeebaaAmStore
set_option linter.unusedVariables false
set_option linter.unusedSimpArgs false
namespace Go.AM

theorem blt_false {a b : Nat} (h : ¬ Nat.blt a b = true) : b ≤ a := Nat.not_lt.1 fun hl => h (by simpa using hl)

theorem All2.nil_right {α β : Type} {R : α → β → Prop} {ys : List β} (h : All2 R [] ys) : ys = [] := by
  cases ys with
  | nil => rfl
  | cons _ _ => exact h.elim

section
variable {C : Ctx} {st : St} {gh : Gh} {a : Act} {w : World}

theorem footM (h : Rel C st gh a w) {M : List Nat} (hn : M.Nodup) : (M.flatMap gh.ft).Nodup := by
  induction M with
  | nil => simp
  | cons m M ih =>
    obtain ⟨h1, h2⟩ := List.nodup_cons.1 hn
    rw [List.flatMap_cons, List.nodup_append]
    refine ⟨h.nd m, ih h2, fun b hb b' hb' e => ?_⟩
    subst e
    obtain ⟨k, hk, hb'⟩ := List.mem_flatMap.1 hb'
    exact h1 (h.dj _ _ _ hb hb' ▸ hk)

theorem kill_leaves {st' : St} {m : Bool} {l : Nat} (hk : st.kill m l = some st') {ls : List Leaf} {us : List Value} (hus : All2 (LeafOk C w gh st.objs) ls us) : All2 (LeafOk C w gh st'.objs) (ls.map (Leaf.kill m l)) us := by
  obtain ⟨_, rfl⟩ := kill_eq hk
  have K := kind_kill (os := st.objs) (m := m) (l := l)
  exact hus.map fun c y _ hc => leaf_kill (leaf_kind K.1 K.2 hc)

theorem cells_known {ls : List Leaf} {us : List Value} {os : Objs} (hus : All2 (LeafOk C w gh os) ls us) (hk : ls.all Leaf.known = true) : ∀ u ∈ us, u.oneCell' = true := by
  intro u hu
  obtain ⟨c, hc, hr⟩ := hus.mem hu
  exact hr.2 (List.all_eq_true.1 hk c hc)

theorem ok_store {E : Env} (hE : EnvOk C.P E) {o : Oper} (h : Rel C st gh a w) {t : TypeId} {p x : Operand} (ho : o.op = .store t p x) {ti : TI} (ht : tyOf E t = some ti) {st' : St} (hs : storeOp st ti (st.ev p).leaf (st.ev x) = some st') :
    ∃ gh' w', (execOp a.eval o).run C.P w = .ok .skip w' ∧ Rel C st' gh' a w' := by
  have hT := hE.tab _ _ ht
  have hp := h.leaf p
  unfold storeOp at hs
  split at hs
  · cases hs
  rename_i b ls hls
  obtain ⟨us, hpk, hus⟩ := h.leaves x hls
  split at hs
  case isFalse => cases hs
  rename_i hlen
  simp only [Bool.and_eq_true, beq_iff_eq] at hlen
  have hpos : 0 < ti.ty.size := by have := hlen.2; simpa using this
  have hul : us.length = ti.ty.size := by rw [← hus.len]; exact hlen.1
  split at hs
  · -- a box
    rename_i l off hc
    rw [hc] at hp
    obtain ⟨⟨hpv, cs0, hob0⟩, _⟩ := hp
    split at hs
    · cases hs
    rename_i hro
    have hro := blt_false hro
    split at hs
    · cases hs
    rename_i st1 hk
    obtain ⟨hr1, hcl⟩ := h.kill hk
    obtain ⟨k1, k2, k3, k4, k5⟩ := kill_same hk
    split at hs
    case h_2 => cases hs
    rename_i cs hob
    split at hs
    case h_2 => cases hs
    rename_i cs' hput
    split at hs
    case isFalse => cases hs
    rename_i hkn
    simp only [Option.some.injEq] at hs
    subst hs
    have hus1 := kill_leaves hk hus
    have h1 := cells_known hus1 hkn
    have hcells := cells_pack hpk fun hb => by subst hb; obtain rfl : us = [a.eval x] := hpk; exact h1 _ (by simp)
    have hbx := hr1.objs l
    rw [hob] at hbx
    obtain ⟨hft, arr, T, hheap, hcs⟩ := hbx
    unfold putLeaves at hput
    split at hput
    case isFalse => cases hput
    rename_i hle
    simp only [Option.some.injEq] at hput
    subst hput
    have hcl1 : cs.length = arr.size := by have := hcs.len; rwa [Array.length_toList] at this
    rw [List.length_map, hus.len] at hle
    have hrun := run_store_cells hT ho hpv hcells h1 hul hheap (by rw [← hcl1]; exact hle)
    have hgl : gh.bk l ∈ gh.ft l := by rw [hft]; simp
    have hM : MoveOk C st1 gh w false l [] (.box (splice off (ls.map (Leaf.kill false l)) cs)) (gh.hd l) (gh.ft l) (w.setRow (gh.bk l) (splice off us arr.toList).toArray) := by
      refine ⟨hcl, by simp, by omega, by simp, by simp, by simp, obj_lt (by rw [hob]; simp), ?_, fun _ => ⟨rfl, fun e t xs d L he => by (rw [hob] at he; cases he), fun _ _ => ⟨_, rfl⟩⟩, fun _ => ⟨rfl, rfl⟩, fun b hb => .inl hb, h.nd l⟩
      have := Fr.setRow w (gh.bk l) (splice off us arr.toList).toArray
      exact ⟨this.os, this.tape, this.output, this.size, fun k hk hn => this.block k hk fun e => hn (e ▸ hgl)⟩
    refine ⟨gh.mv l (gh.hd l) (gh.ft l) [], _, hrun, ?_⟩
    have hrel := hr1.move hM ?_
    · simpa [deadAll, splice] using hrel
    · refine ⟨by rw [Gh.mv_ft, Gh.mv_bk, hft], (splice off us arr.toList).toArray, T, ?_, ?_⟩
      · rw [Gh.mv_bk]
        exact setRow_heap w (gh.bk l) arr _ T _ hheap
      · rw [List.toList_toArray]
        have hall : All2 (LeafOk C w gh st1.objs) (splice off (ls.map (Leaf.kill false l)) cs) (splice off us arr.toList) := by
          refine ((hcs.take _).app hus1).app ?_
          rw [hus1.len]
          exact hcs.drop _
        refine hall.mono fun c v hc hv => leaf_tr hM.tr h.dj hr1.objs (stays_two ?_ (by simp) (by simp)) hv
        unfold splice at hc
        rcases List.mem_append.1 hc with hc | hc
        · rcases List.mem_append.1 hc with hc | hc
          · exact hcl.boxes l cs hob c (List.mem_of_mem_take hc)
          · obtain ⟨d, _, rfl⟩ := List.mem_map.1 hc
            exact kill_dies d
        · exact hcl.boxes l cs hob c (List.mem_of_mem_drop hc)
  · -- an element of an owned row
    rename_i l i off hc
    rw [hc] at hp
    obtain ⟨⟨e, t', xs, deep, L, g, n, c, hob, hi0, hi1, hhd, hpv⟩, _⟩ := hp
    split at hs
    · cases hs
    rename_i hro
    have hro := blt_false hro
    rw [hob] at hs
    simp only at hs
    have hrow := h.objs l
    rw [hob] at hrow
    obtain ⟨cur, hheap, hcsz, hgF⟩ := RowR.block hrow hhd
    have hil : i.toNat < xs.length := by omega
    have hmul : i.toNat * t'.size + t'.size ≤ xs.length * t'.size := by have := Nat.mul_le_mul_right t'.size hil; rw [Nat.succ_mul] at this; exact this
    split at hs
    · -- scalars
      rename_i hflat
      split at hs
      case h_2 => cases hs
      rename_i z hput
      split at hs
      case h_2 => cases hs
      rename_i st1 hk
      simp only [Option.some.injEq] at hs
      subst hs
      obtain ⟨hr1, hcl⟩ := h.kill hk
      obtain ⟨k1, k2, k3, k4, k5⟩ := kill_same hk
      have hob1 := (k4 l e t' xs deep L).2 hob
      have hne : ls ≠ [] := by intro e; rw [e] at hlen; simp at hlen; omega
      -- what is stored fits
      have hfit : off + us.length ≤ t'.size ∧ ∀ u ∈ us, u.oneCell' = true := by
        have hdum := putScalars_ok (C := C) (w := w) (gh := gh) (os := st.objs) (t := t') (fun _ cs => cs.length = t'.size) (fun _ _ h => h) (fun x z cs off s y v h _ _ _ => by simpa using h) hus (cs := List.replicate t'.size undef) (by simp) hput
        rcases hdum with h1 | h1
        · refine ⟨h1.1, fun u hu => ?_⟩
          obtain ⟨c, hc, hr⟩ := hus.mem hu
          refine hr.2 ?_
          have : ∀ (ls : List Leaf) {x z : t'.den} {off : Nat}, putScalars t' x off ls = some z → ∀ c ∈ ls, c.known = true := by
            intro ls
            induction ls with
            | nil => simp
            | cons c ls ih =>
              intro x z off hp
              cases c <;> simp only [putScalars] at hp <;> try (cases hp; done)
              split at hp
              · split at hp
                · intro c hc
                  rcases List.mem_cons.1 hc with rfl | hc
                  · rfl
                  · exact ih hp c hc
                · cases hp
              · cases hp
          exact this ls hput c hc
        · exact absurd h1.1 hne
      have hcells := cells_pack hpk fun hb => by subst hb; obtain rfl : us = [a.eval x] := hpk; exact hfit.2 _ (by simp)
      have hrun := run_store_cells hT ho hpv hcells hfit.2 hul hheap (by omega)
      have hM : MoveOk C st1 gh w false l [] (.row e t' (xs.set i.toNat z) deep L) (gh.hd l) (gh.ft l) (w.setRow g (splice (i.toNat * t'.size + off) us cur.toList).toArray) := by
        refine ⟨hcl, by simp, by omega, by simp, by simp, by simp, obj_lt (by rw [hob1]; simp), ?_, fun _ => ⟨rfl, fun e t xs d L he => ?_, fun cs he => by (rw [hob1] at he; cases he)⟩, fun _ => ⟨rfl, rfl⟩, fun b hb => .inl hb, h.nd l⟩
        · have := Fr.setRow w g (splice (i.toNat * t'.size + off) us cur.toList).toArray
          exact ⟨this.os, this.tape, this.output, this.size, fun k hk hn => this.block k hk fun e => hn (e ▸ hgF)⟩
        · rw [hob1] at he
          have he := he.symm
          cases he
          exact ⟨_, _, _, rfl, by simp⟩
      refine ⟨gh.mv l (gh.hd l) (gh.ft l) [], _, hrun, ?_⟩
      have hrel := hr1.move hM ?_
      · simpa [deadAll] using hrel
      · show RowR _ _ e t'.size ((gh.mv l _ _ []).hd l) ((gh.mv l _ _ []).ft l) _
        rw [Gh.mv_hd, Gh.mv_ft]
        have hnoL : ∀ j, (j = l ∨ j ∈ ([] : List Nat)) → has L j = false := hM.noL hob1
        have hother : ∀ b, b ≠ g → (w.setRow g (splice (i.toNat * t'.size + off) us cur.toList).toArray).heap[b]? = w.heap[b]? := fun b hb => setRow_other w g b _ hb
        refine RowR.store (S := fun _ => ElemR C (w.setRow g (splice (i.toNat * t'.size + off) us cur.toList).toArray) (gh.mv l (gh.hd l) (gh.ft l) []) t' deep L) hrow (fun x F c hR => (flatElem hR).1) (h.nd l) (rd_get hi0 hi1 (d := t'.zero)) hfit.1 hhd hheap (fun _ G es hG _ hR => ?_) (fun _ y G es hG _ hR => ?_)
        · unfold ElemR at hR ⊢
          cases deep with
          | true =>
            simp only [if_true] at hR ⊢
            have hR' := Deep.congr t' hR fun b hb => hother b (hG b hb).2
            rcases putScalars_ok (C := C) (w := w) (gh := gh) (os := st.objs) (t := t') (fun x cs => Deep t' _ x G cs) (fun _ _ h => Deep.len t' h) (fun x z cs off s y v h1 h2 h3 h4 => setAt_deep t' h1 h2 h3 (h4 _)) hus hR' hput with h1 | h1
            · exact h1.2
            · exact absurd h1.1 hne
          | false =>
            simp only [Bool.false_eq_true, if_false] at hR ⊢
            refine ⟨hR.1, ?_⟩
            have hR' := imm_tr hM.tr hnoL hR.2
            rcases putScalars_ok (C := C) (w := w) (gh := gh) (os := st.objs) (t := t') (fun x cs => ImmS t' x cs _ _) (fun _ _ h => Rep.len t' h.rep) (fun x z cs off s y v h1 h2 h3 h4 => fun W hW => setAt_rep t' (h1 W hW) h2 h3 (h4 _)) hus hR' hput with h1 | h1
            · exact h1.2
            · exact absurd h1.1 hne
        · unfold ElemR at hR ⊢
          cases deep with
          | true => exact Deep.congr t' hR fun b hb => hother b (hG b hb).2
          | false => exact ⟨hR.1, imm_tr hM.tr hnoL hR.2⟩
    · -- a whole element
      split at hs
      case isFalse => cases hs
      rename_i hcond
      simp only [Bool.and_eq_true, beq_iff_eq, decide_eq_true_eq, Bool.not_eq_true'] at hcond
      obtain ⟨⟨⟨hdeep, hoff⟩, hty⟩, hfxl⟩ := hcond
      subst hdeep; subst hoff
      have hfxl : st.fx ≤ l := blt_false (by rw [hfxl]; simp)
      split at hs
      case h_2 => cases hs
      rename_i z M hget
      split at hs
      case h_2 => cases hs
      rename_i st1 hmv
      simp only [Option.some.injEq] at hs
      subst hs
      obtain ⟨hr1, hcl, hcM, hroM, hlM, hMn, k1, k2, k3, k4⟩ := h.moveSt hmv
      have hob1 := (k4 l e t' xs true L).2 hob
      obtain ⟨v1, v2, rfl, hd, h2⟩ := getDeep_ok h.objs t' hus hget
      obtain rfl := h2.nil_right
      rw [List.append_nil] at *
      have h1 := Deep.one t' hd
      have hlt' := Deep.len t' hd
      have hcells := cells_pack hpk fun hb => by subst hb; obtain rfl : v1 = [a.eval x] := hpk; exact h1 _ (by simp)
      have hrun := run_store_cells hT ho hpv hcells h1 hul hheap (by rw [hlt', Nat.add_zero]; omega)
      rw [Nat.add_zero] at hrun
      have hdis : ∀ b ∈ M.flatMap gh.ft, b ∉ gh.ft l := by
        intro b hb hb'
        obtain ⟨k, hk, hbk⟩ := List.mem_flatMap.1 hb
        exact hlM (h.dj _ _ _ hb' hbk ▸ hk)
      have hother : ∀ b, b ≠ g → (w.setRow g (splice (i.toNat * t'.size) v1 cur.toList).toArray).heap[b]? = w.heap[b]? := fun b hb => setRow_other w g b _ hb
      obtain ⟨F', hF'n, hF'm, hrow'⟩ := RowR.replace (S := fun _ => ElemR C (w.setRow g (splice (i.toNat * t'.size) v1 cur.toList).toArray) gh t' true L) hrow (fun x F c hR => (flatElem hR).1) (h.nd l) hil hlt' hhd hheap (footM h hMn) hdis
        (fun _ _ => Deep.congr t' hd fun b hb => hother b fun e => hdis b hb (e ▸ hgF)) (fun _ y G es hG _ hR => Deep.congr t' hR fun b hb => hother b (hG b hb).2)
      have hM : MoveOk C st1 gh w false l M (.row e t' (xs.set i.toNat z) true L) (gh.hd l) F' (w.setRow g (splice (i.toNat * t'.size) v1 cur.toList).toArray) := by
        refine ⟨hcl, hcM, by omega, fun k hk => by have := hroM k hk; omega, fun k hk => by have := hroM k hk; omega, hlM, obj_lt (by rw [hob1]; simp), ?_, fun _ => ⟨rfl, fun e t xs d L he => ?_, fun cs he => by (rw [hob1] at he; cases he)⟩, fun hl => by omega, fun b hb => ?_, hF'n⟩
        · have := Fr.setRow w g (splice (i.toNat * t'.size) v1 cur.toList).toArray
          exact ⟨this.os, this.tape, this.output, this.size, fun k hk hn => this.block k hk fun e => hn (e ▸ hgF)⟩
        · rw [hob1] at he
          have he := he.symm
          cases he
          exact ⟨_, _, _, rfl, by simp⟩
        · rcases hF'm b hb with h3 | h3
          · exact .inl h3
          · obtain ⟨k, hk, hbk⟩ := List.mem_flatMap.1 h3
            exact .inr (.inl ⟨k, hk, hbk⟩)
      refine ⟨_, _, hrun, hr1.move hM ?_⟩
      show RowR _ _ e t'.size ((gh.mv l _ _ M).hd l) ((gh.mv l _ _ M).ft l) _
      rw [Gh.mv_hd, Gh.mv_ft]
      exact hrow'
  · cases hs
end
end Go.AM
