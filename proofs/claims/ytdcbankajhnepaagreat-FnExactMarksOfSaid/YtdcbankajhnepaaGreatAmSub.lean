/- A part of an element, written in place. No condition. -/
import Derived.Test.YtdcbankajhnepaaGreatAmShal
set_option linter.unusedVariables false
set_option linter.unusedSimpArgs false
namespace Go.AM
theorem leafAt_put {w : World} : ∀ (t : Ty) {x : t.den} {F : List Nat} {cs : List Value} {off : Nat} {s : Ty} {y : s.den}, Deep t w x F cs → F.Nodup → leafAt t x off = some ⟨s, y⟩ → ∃ G v, (∀ b ∈ G, b ∈ F) ∧ G.Nodup ∧ cs[off]? = some v ∧ Deep s w y G [v] ∧
    ∀ (w' : World) (y' : s.den) (z : t.den), setAt t x off s y' = some z → (∀ b ∈ F, b ∉ G → w'.heap[b]? = w.heap[b]?) → Deep s w' y' G [v] → Deep t w' z F cs
  | .int k, x, F, cs, off, s, y, h, hn, hl => by
    simp only [leafAt] at hl
    split at hl
    · rename_i ho
      simp only [Option.some.injEq, Sigma.mk.injEq] at hl; obtain ⟨rfl, e⟩ := hl; obtain rfl := eq_of_heq e
      obtain ⟨rfl, rfl⟩ := h
      simp only [beq_iff_eq] at ho
      subst ho
      refine ⟨[], _, by simp, by simp, rfl, ⟨rfl, rfl⟩, fun w' y' z hz _ hd => ?_⟩
      simp only [setAt, beq_self_eq_true, if_true, Ty.cast_self'] at hz
      simp only [Option.some.injEq] at hz
      subst hz
      exact hd
    · cases hl
  | .bool, x, F, cs, off, s, y, h, hn, hl => by
    simp only [leafAt] at hl
    split at hl
    · rename_i ho
      simp only [Option.some.injEq, Sigma.mk.injEq] at hl; obtain ⟨rfl, e⟩ := hl; obtain rfl := eq_of_heq e
      obtain ⟨rfl, rfl⟩ := h
      simp only [beq_iff_eq] at ho
      subst ho
      refine ⟨[], _, by simp, by simp, rfl, ⟨rfl, rfl⟩, fun w' y' z hz _ hd => ?_⟩
      simp only [setAt, beq_self_eq_true, if_true, Ty.cast_self'] at hz
      simp only [Option.some.injEq] at hz
      subst hz
      exact hd
    · cases hl
  | .str, x, F, cs, off, s, y, h, hn, hl => by
    simp only [leafAt] at hl
    split at hl
    · rename_i ho
      simp only [Option.some.injEq, Sigma.mk.injEq] at hl; obtain ⟨rfl, e⟩ := hl; obtain rfl := eq_of_heq e
      obtain ⟨rfl, rfl⟩ := h
      simp only [beq_iff_eq] at ho
      subst ho
      refine ⟨[], _, by simp, by simp, rfl, ⟨rfl, rfl⟩, fun w' y' z hz _ hd => ?_⟩
      simp only [setAt, beq_self_eq_true, if_true, Ty.cast_self'] at hz
      simp only [Option.some.injEq] at hz
      subst hz
      exact hd
    · cases hl
  | .slice e t, x, F, cs, off, s, y, h, hn, hl => by
    simp only [leafAt] at hl
    split at hl
    · rename_i ho
      simp only [Option.some.injEq, Sigma.mk.injEq] at hl; obtain ⟨rfl, e⟩ := hl; obtain rfl := eq_of_heq e
      simp only [beq_iff_eq] at ho
      subst ho
      have h' := h
      obtain ⟨v, rfl, hr⟩ := h
      refine ⟨F, v, fun _ h => h, hn, rfl, h', fun w' y' z hz _ hd => ?_⟩
      simp only [setAt, beq_self_eq_true, if_true, Ty.cast_self'] at hz
      simp only [Option.some.injEq] at hz
      subst hz
      exact hd
    · cases hl
  | .pair a b, x, F, cs, off, s, y, h, hn, hl => by
    obtain ⟨F1, F2, c1, c2, rfl, rfl, h1, h2⟩ := h
    have hlen := Deep.len a h1
    obtain ⟨n1, n2, n3⟩ := List.nodup_append.1 hn
    simp only [leafAt] at hl
    split at hl
    · rename_i hoff
      obtain ⟨G, v, hG, hGn, hv, hd, hput⟩ := leafAt_put a h1 n1 hl
      refine ⟨G, v, fun b hb => by simp [hG b hb], hGn, by rw [List.getElem?_append_left (by omega)]; exact hv, hd, fun w' y' z hz hsame hd' => ?_⟩
      simp only [setAt, if_pos hoff] at hz
      split at hz
      · rename_i q hq
        simp only [Option.some.injEq] at hz
        subst hz
        exact ⟨F1, F2, c1, c2, rfl, rfl, hput w' y' q hq (fun b hb hg => hsame b (by simp [hb]) hg) hd', Deep.congr b h2 fun b hb => hsame b (by simp [hb]) fun hg => n3 b (hG b hg) b hb rfl⟩
      · cases hz
    · rename_i hoff
      obtain ⟨G, v, hG, hGn, hv, hd, hput⟩ := leafAt_put b h2 n2 hl
      refine ⟨G, v, fun b hb => by simp [hG b hb], hGn, by rw [List.getElem?_append_right (by omega), hlen]; exact hv, hd, fun w' y' z hz hsame hd' => ?_⟩
      simp only [setAt, if_neg hoff] at hz
      split at hz
      · rename_i q hq
        simp only [Option.some.injEq] at hz
        subst hz
        exact ⟨F1, F2, c1, c2, rfl, rfl, Deep.congr a h1 fun b hb => hsame b (by simp [hb]) fun hg => n3 b hb b (hG b hg) rfl, hput w' y' q hq (fun b hb hg => hsame b (by simp [hb]) hg) hd'⟩
      · cases hz
  | .unit, x, F, cs, off, s, y, h, hn, hl => by simp [leafAt] at hl
where
  Ty.cast_self' {t : Ty} {x : t.den} : Ty.cast t t x = some x := by simp [Ty.cast]
theorem AllR.mk {α : Type} {R : α → List Nat → List Value → Prop} : ∀ {xs : List α} {Fs : List (List Nat)} {cs : List (List Value)}, Fs.length = xs.length → cs.length = xs.length → (∀ (i : Nat) x F c, xs[i]? = some x → Fs[i]? = some F → cs[i]? = some c → R x F c) → AllR R xs Fs cs
  | [], [], [], _, _, _ => trivial
  | [], _ :: _, _, h, _, _ => by simp at h
  | [], [], _ :: _, _, h, _ => by simp at h
  | _ :: _, [], _, h, _, _ => by simp at h
  | _ :: _, _ :: _, [], _, h, _ => by simp at h
  | x :: xs, F :: Fs, c :: cs, h1, h2, h => ⟨h 0 x F c rfl rfl rfl, AllR.mk (by simpa using h1) (by simpa using h2) fun i y G d hy hG hd => h (i + 1) y G d (by simpa using hy) (by simpa using hG) (by simpa using hd)⟩
theorem sub_put {w : World} {e : TypeId} {t : Ty} {hd : Value} {F : List Nat} {xs : List t.den} (h : RowR (Deep t w) w e t.size hd F xs) (hn : F.Nodup) {i : Nat} {x : t.den} (hi : xs[i]? = some x) {off : Nat} {s : Ty} {y : s.den} (hl : leafAt t x off = some ⟨s, y⟩) :
    ∃ G v g og n c, hd = .slice (some ⟨g, og, none⟩) n c ∧ w.cell? ⟨g, og + i * t.size + off, none⟩ = some v ∧ (∀ b ∈ G, b ∈ F) ∧ G.Nodup ∧ Deep s w y G [v] ∧
      ∀ (w' : World) (y' : s.den) (z : t.den), setAt t x off s y' = some z → (∀ b ∈ F, b ∉ G → w'.heap[b]? = w.heap[b]?) → Deep s w' y' G [v] → RowR (Deep t w') w' e t.size hd F (xs.set i z) := by
  have hcells := h.cells (fun x F c hR => Deep.len t hR) hi
  obtain ⟨Fs, ess, ha, rfl, ho⟩ := h
  obtain ⟨n1, n2, n3⟩ := List.nodup_append.1 hn
  obtain ⟨Fi, es, hFi, hes, hR⟩ := ha.get hi
  have hFin : Fi.Nodup := by
    have : ∀ (Ls : List (List Nat)), Ls.flatten.Nodup → ∀ L ∈ Ls, L.Nodup := by
      intro Ls
      induction Ls with
      | nil => simp
      | cons L Ls ih =>
        intro hn M hM
        rw [List.flatten_cons, List.nodup_append] at hn
        rcases List.mem_cons.1 hM with rfl | hM
        · exact hn.1
        · exact ih hn.2.1 M hM
    exact this _ n2 _ (List.mem_of_getElem? hFi)
  obtain ⟨G, v, hG, hGn, hv, hdeep, hput⟩ := leafAt_put t hR hFin hl
  obtain ⟨g, og, n, c, hhd, G', es', hR', hG', hc⟩ := hcells
  have hsub : ∀ b ∈ Fi, b ∈ Fs.flatten := fun b hb => List.mem_flatten.2 ⟨Fi, List.mem_of_getElem? hFi, hb⟩
  have hsz := ha.size (fun x F c hR => Deep.len t hR)
  have hlen := hsz es (List.mem_of_getElem? hes)
  have hofflt : off < t.size := by have := (List.getElem?_eq_some_iff.1 hv).1; omega
  have hcell : w.cell? ⟨g, og + i * t.size + off, none⟩ = some v := by
    rw [hhd] at ho
    have h1 := ho.cells (i * t.size + off) v (by rw [flatten_get hsz hes hofflt]; exact hv)
    rwa [← Nat.add_assoc] at h1
  refine ⟨G, v, g, og, n, c, hhd, hcell, fun b hb => List.mem_append.2 (.inr (hsub b (hG b hb))), hGn, hdeep, fun w' y' z hz hsame hd' => ?_⟩
  have hgF : g ∈ hd.ownBlock.toList := by rw [hhd]; simp [Value.ownBlock]
  have hgG : g ∉ G := fun hg => n3 g hgF g (hsub g (hG g hg)) rfl
  have hapart : ∀ (Ls : List (List Nat)), Ls.flatten.Nodup → ∀ (i j : Nat) L M, Ls[i]? = some L → Ls[j]? = some M → i ≠ j → ∀ b ∈ L, b ∉ M := by
    intro Ls
    induction Ls with
    | nil => intro _ i j L M h; simp at h
    | cons K Ls ih =>
      intro hn i j L M hL hM hij b hb hb'
      rw [List.flatten_cons, List.nodup_append] at hn
      cases i with
      | zero =>
        cases j with
        | zero => exact hij rfl
        | succ j =>
          simp at hL hM; subst hL
          exact hn.2.2 b hb b (List.mem_flatten.2 ⟨M, List.mem_of_getElem? hM, hb'⟩) rfl
      | succ i =>
        cases j with
        | zero =>
          simp at hL hM; subst hM
          exact hn.2.2 b hb' b (List.mem_flatten.2 ⟨L, List.mem_of_getElem? hL, hb⟩) rfl
        | succ j => exact ih hn.2.1 i j L M (by simpa using hL) (by simpa using hM) (by omega) b hb hb'
  have hlens := ha.len
  have hown : OwnR w' e t.size hd xs.length ess.flatten := ownsRow_congr ho fun b hb => hsame b (List.mem_append.2 (.inl (by simp [hb]))) fun hbG => by
    rw [hhd] at hb
    simp only [Value.ownBlock, Option.some.injEq] at hb
    subst hb
    exact hgG hbG
  refine ⟨Fs, ess, AllR.mk (by rw [hlens.1]; simp) (by rw [hlens.2]; simp) fun k x' K d hx' hK hd => ?_, rfl, by rw [List.length_set]; exact hown⟩
  · by_cases hki : k = i
    · subst hki
      rw [List.getElem?_set_self (List.getElem?_eq_some_iff.1 hi).1] at hx'
      simp only [Option.some.injEq] at hx'
      rw [hFi] at hK
      rw [hes] at hd
      simp only [Option.some.injEq] at hK hd
      subst hx'; subst hK; subst hd
      exact hput w' y' z hz (fun b hb hg => hsame b (List.mem_append.2 (.inr (hsub b hb))) hg) hd'
    · rw [List.getElem?_set_ne (fun e => hki e.symm)] at hx'
      obtain ⟨K', d', hK', hd'', hR2⟩ := ha.get hx'
      rw [hK] at hK'
      rw [hd] at hd''
      simp only [Option.some.injEq] at hK' hd''
      subst hK'; subst hd''
      exact Deep.congr t hR2 fun b hb => hsame b (List.mem_append.2 (.inr (List.mem_flatten.2 ⟨K, List.mem_of_getElem? hK, hb⟩))) fun hbG => hapart Fs n2 k i K Fi hK hFi hki b hb (hG b hbG)
end Go.AM
