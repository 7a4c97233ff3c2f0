/- What is lent to be written: reading it, and what it is afterwards. No condition. -/
import Derived.Test.YthijgmbdlkeebaaAmBuild
set_option linter.unusedVariables false
set_option linter.unusedSimpArgs false
namespace Go.AM

/-- a part is written in place: the whole is the whole with that part -/
theorem leafAt_put {w : World} : ∀ (t : Ty) {x : t.den} {F : List Nat} {cs : List Value} {off : Nat} {s : Ty} {y : s.den}, Deep t w x F cs → F.Nodup → leafAt t x off = some ⟨s, y⟩ → ∃ G v, (∀ b ∈ G, b ∈ F) ∧ G.Nodup ∧ cs[off]? = some v ∧ Deep s w y G [v] ∧
    ∀ (w' : World) (y' : s.den) (z : t.den), setAt t x off s y' = some z → (∀ b ∈ F, b ∉ G → w'.heap[b]? = w.heap[b]?) → Deep s w' y' G [v] → Deep t w' z F cs
  | .int k, x, F, cs, off, s, y, h, hn, hl => by
    simp only [leafAt] at hl
    split at hl
    · rename_i ho
      simp only [Option.some.injEq, Sigma.mk.injEq] at hl; obtain ⟨rfl, e⟩ := hl; obtain rfl := eq_of_heq e
      obtain ⟨rfl, rfl⟩ := h
      simp only [beq_iff_eq] at ho
      subst ho
      refine ⟨[], _, by simp, by simp, rfl, ⟨rfl, rfl⟩, fun w' y' z hz _ hd => ?_⟩
      simp only [setAt, beq_self_eq_true, if_true, Ty.cast_self'] at hz
      simp only [Option.some.injEq] at hz
      subst hz
      exact hd
    · cases hl
  | .bool, x, F, cs, off, s, y, h, hn, hl => by
    simp only [leafAt] at hl
    split at hl
    · rename_i ho
      simp only [Option.some.injEq, Sigma.mk.injEq] at hl; obtain ⟨rfl, e⟩ := hl; obtain rfl := eq_of_heq e
      obtain ⟨rfl, rfl⟩ := h
      simp only [beq_iff_eq] at ho
      subst ho
      refine ⟨[], _, by simp, by simp, rfl, ⟨rfl, rfl⟩, fun w' y' z hz _ hd => ?_⟩
      simp only [setAt, beq_self_eq_true, if_true, Ty.cast_self'] at hz
      simp only [Option.some.injEq] at hz
      subst hz
      exact hd
    · cases hl
  | .str, x, F, cs, off, s, y, h, hn, hl => by
    simp only [leafAt] at hl
    split at hl
    · rename_i ho
      simp only [Option.some.injEq, Sigma.mk.injEq] at hl; obtain ⟨rfl, e⟩ := hl; obtain rfl := eq_of_heq e
      obtain ⟨rfl, rfl⟩ := h
      simp only [beq_iff_eq] at ho
      subst ho
      refine ⟨[], _, by simp, by simp, rfl, ⟨rfl, rfl⟩, fun w' y' z hz _ hd => ?_⟩
      simp only [setAt, beq_self_eq_true, if_true, Ty.cast_self'] at hz
      simp only [Option.some.injEq] at hz
      subst hz
      exact hd
    · cases hl
  | .slice e t, x, F, cs, off, s, y, h, hn, hl => by
    simp only [leafAt] at hl
    split at hl
    · rename_i ho
      simp only [Option.some.injEq, Sigma.mk.injEq] at hl; obtain ⟨rfl, e⟩ := hl; obtain rfl := eq_of_heq e
      simp only [beq_iff_eq] at ho
      subst ho
      have h' := h
      obtain ⟨v, rfl, hr⟩ := h
      refine ⟨F, v, fun _ h => h, hn, rfl, h', fun w' y' z hz _ hd => ?_⟩
      simp only [setAt, beq_self_eq_true, if_true, Ty.cast_self'] at hz
      simp only [Option.some.injEq] at hz
      subst hz
      exact hd
    · cases hl
  | .pair a b, x, F, cs, off, s, y, h, hn, hl => by
    obtain ⟨F1, F2, c1, c2, rfl, rfl, h1, h2⟩ := h
    have hlen := Deep.len a h1
    obtain ⟨n1, n2, n3⟩ := List.nodup_append.1 hn
    simp only [leafAt] at hl
    split at hl
    · rename_i hoff
      obtain ⟨G, v, hG, hGn, hv, hd, hput⟩ := leafAt_put a h1 n1 hl
      refine ⟨G, v, fun b hb => by simp [hG b hb], hGn, by rw [List.getElem?_append_left (by omega)]; exact hv, hd, fun w' y' z hz hsame hd' => ?_⟩
      simp only [setAt, if_pos hoff] at hz
      split at hz
      · rename_i q hq
        simp only [Option.some.injEq] at hz
        subst hz
        exact ⟨F1, F2, c1, c2, rfl, rfl, hput w' y' q hq (fun b hb hg => hsame b (by simp [hb]) hg) hd', Deep.congr b h2 fun b hb => hsame b (by simp [hb]) fun hg => n3 b (hG b hg) b hb rfl⟩
      · cases hz
    · rename_i hoff
      obtain ⟨G, v, hG, hGn, hv, hd, hput⟩ := leafAt_put b h2 n2 hl
      refine ⟨G, v, fun b hb => by simp [hG b hb], hGn, by rw [List.getElem?_append_right (by omega), hlen]; exact hv, hd, fun w' y' z hz hsame hd' => ?_⟩
      simp only [setAt, if_neg hoff] at hz
      split at hz
      · rename_i q hq
        simp only [Option.some.injEq] at hz
        subst hz
        exact ⟨F1, F2, c1, c2, rfl, rfl, Deep.congr a h1 fun b hb => hsame b (by simp [hb]) fun hg => n3 b hb b (hG b hg) rfl, hput w' y' q hq (fun b hb hg => hsame b (by simp [hb]) hg) hd'⟩
      · cases hz
  | .unit, x, F, cs, off, s, y, h, hn, hl => by simp [leafAt] at hl
where
  Ty.cast_self' {t : Ty} {x : t.den} : Ty.cast t t x = some x := by simp [Ty.cast]

theorem AllR.mk {α : Type} {R : α → List Nat → List Value → Prop} : ∀ {xs : List α} {Fs : List (List Nat)} {cs : List (List Value)}, Fs.length = xs.length → cs.length = xs.length → (∀ (i : Nat) x F c, xs[i]? = some x → Fs[i]? = some F → cs[i]? = some c → R x F c) → AllR R xs Fs cs
  | [], [], [], _, _, _ => trivial
  | [], _ :: _, _, h, _, _ => by simp at h
  | [], [], _ :: _, _, h, _ => by simp at h
  | _ :: _, [], _, h, _, _ => by simp at h
  | _ :: _, _ :: _, [], _, h, _ => by simp at h
  | x :: xs, F :: Fs, c :: cs, h1, h2, h => ⟨h 0 x F c rfl rfl rfl, AllR.mk (by simpa using h1) (by simpa using h2) fun i y G d hy hG hd => h (i + 1) y G d (by simpa using hy) (by simpa using hG) (by simpa using hd)⟩

/-- a nested slice is written in place -/
theorem sub_put {w : World} {e : TypeId} {t : Ty} {hd : Value} {F : List Nat} {xs : List t.den} (h : RowR (Deep t w) w e t.size hd F xs) (hn : F.Nodup) {i : Nat} {x : t.den} (hi : xs[i]? = some x) {off : Nat} {s : Ty} {y : s.den} (hl : leafAt t x off = some ⟨s, y⟩) :
    ∃ G v g n c, hd = .slice (some ⟨g, 0, none⟩) n c ∧ w.cell? ⟨g, i * t.size + off, none⟩ = some v ∧ (∀ b ∈ G, b ∈ F) ∧ G.Nodup ∧ Deep s w y G [v] ∧
      ∀ (w' : World) (y' : s.den) (z : t.den), setAt t x off s y' = some z → (∀ b ∈ F, b ∉ G → w'.heap[b]? = w.heap[b]?) → Deep s w' y' G [v] → RowR (Deep t w') w' e t.size hd F (xs.set i z) := by
  have hcells := h.cells (fun x F c hR => Deep.len t hR) hi
  obtain ⟨Fs, ess, ha, rfl, ho⟩ := h
  obtain ⟨n1, n2, n3⟩ := List.nodup_append.1 hn
  obtain ⟨Fi, es, hFi, hes, hR⟩ := ha.get hi
  have hFin : Fi.Nodup := by
    have : ∀ (Ls : List (List Nat)), Ls.flatten.Nodup → ∀ L ∈ Ls, L.Nodup := by
      intro Ls
      induction Ls with
      | nil => simp
      | cons L Ls ih =>
        intro hn M hM
        rw [List.flatten_cons, List.nodup_append] at hn
        rcases List.mem_cons.1 hM with rfl | hM
        · exact hn.1
        · exact ih hn.2.1 M hM
    exact this _ n2 _ (List.mem_of_getElem? hFi)
  obtain ⟨G, v, hG, hGn, hv, hdeep, hput⟩ := leafAt_put t hR hFin hl
  obtain ⟨g, n, c, hhd, G', es', hR', hG', hc⟩ := hcells
  have hsub : ∀ b ∈ Fi, b ∈ Fs.flatten := fun b hb => List.mem_flatten.2 ⟨Fi, List.mem_of_getElem? hFi, hb⟩
  have hsz := ha.size (fun x F c hR => Deep.len t hR)
  have hlen := hsz es (List.mem_of_getElem? hes)
  have hofflt : off < t.size := by have := (List.getElem?_eq_some_iff.1 hv).1; omega
  have hcell : w.cell? ⟨g, i * t.size + off, none⟩ = some v := by
    have h1 := ho.cells (g := g) (by rw [hhd]; rfl) (i * t.size + off) v (by rw [flatten_get hsz hes hofflt]; exact hv)
    rw [Addr.add_lit] at h1
    simpa using h1
  refine ⟨G, v, g, n, c, hhd, hcell, fun b hb => List.mem_append.2 (.inr (hsub b (hG b hb))), hGn, hdeep, fun w' y' z hz hsame hd' => ?_⟩
  have hgF : g ∈ hd.ownBlock.toList := by rw [hhd]; simp [Value.ownBlock]
  have hgG : g ∉ G := fun hg => n3 g hgF g (hsub g (hG g hg)) rfl
  -- the parts of the elements are apart from each other
  have hapart : ∀ (Ls : List (List Nat)), Ls.flatten.Nodup → ∀ (i j : Nat) L M, Ls[i]? = some L → Ls[j]? = some M → i ≠ j → ∀ b ∈ L, b ∉ M := by
    intro Ls
    induction Ls with
    | nil => intro _ i j L M h; simp at h
    | cons K Ls ih =>
      intro hn i j L M hL hM hij b hb hb'
      rw [List.flatten_cons, List.nodup_append] at hn
      cases i with
      | zero =>
        cases j with
        | zero => exact hij rfl
        | succ j =>
          simp at hL hM; subst hL
          exact hn.2.2 b hb b (List.mem_flatten.2 ⟨M, List.mem_of_getElem? hM, hb'⟩) rfl
      | succ i =>
        cases j with
        | zero =>
          simp at hL hM; subst hM
          exact hn.2.2 b hb' b (List.mem_flatten.2 ⟨L, List.mem_of_getElem? hL, hb⟩) rfl
        | succ j => exact ih hn.2.1 i j L M (by simpa using hL) (by simpa using hM) (by omega) b hb hb'
  have hlens := ha.len
  have hown : w'.ownsRow 0 e t.size hd xs.length ess.flatten := ownsRow_congr ho fun b hb => hsame b (List.mem_append.2 (.inl (by simp [hb]))) fun hbG => by
    rw [hhd] at hb
    simp only [Value.ownBlock, Option.some.injEq] at hb
    subst hb
    exact hgG hbG
  refine ⟨Fs, ess, AllR.mk (by rw [hlens.1]; simp) (by rw [hlens.2]; simp) fun k x' K d hx' hK hd => ?_, rfl, by rw [List.length_set]; exact hown⟩
  · by_cases hki : k = i
    · subst hki
      rw [List.getElem?_set_self (List.getElem?_eq_some_iff.1 hi).1] at hx'
      simp only [Option.some.injEq] at hx'
      rw [hFi] at hK
      rw [hes] at hd
      simp only [Option.some.injEq] at hK hd
      subst hx'; subst hK; subst hd
      exact hput w' y' z hz (fun b hb hg => hsame b (List.mem_append.2 (.inr (hsub b hb))) hg) hd'
    · rw [List.getElem?_set_ne (fun e => hki e.symm)] at hx'
      obtain ⟨K', d', hK', hd'', hR2⟩ := ha.get hx'
      rw [hK] at hK'
      rw [hd] at hd''
      simp only [Option.some.injEq] at hK' hd''
      subst hK'; subst hd''
      exact Deep.congr t hR2 fun b hb => hsame b (List.mem_append.2 (.inr (List.mem_flatten.2 ⟨K, List.mem_of_getElem? hK, hb⟩))) fun hbG => hapart Fs n2 k i K Fi hK hFi hki b hb (hG b hbG)

section
variable {C : Ctx} {w : World} {gh : Gh} {os : Objs}

theorem lend_ok (hdj : ∀ l l' b, b ∈ gh.ft l → b ∈ gh.ft l' → l = l') (hnd : ∀ l, (gh.ft l).Nodup) (hob : ∀ l, ObjOk C w gh os l (obj os l)) : ∀ (t : Ty) {ls : List Leaf} {vs : List Value} {x : t.den} {W : List Nat} {r : List Leaf}, All2 (LeafOk C w gh os) ls vs → getMut os t ls = some (x, W, r) → W.Nodup →
    ∃ v1 v2 F, vs = v1 ++ v2 ∧ Deep t w x F v1 ∧ All2 (LeafOk C w gh os) r v2 ∧ F.Nodup ∧ (∀ b ∈ F, ∃ l ∈ W, b ∈ gh.ft l) ∧
      ∀ (w' : World) (y : t.den) (os1 os' : Objs) (r' : List Leaf), MutT t w w' x y v1 → (∀ l ∈ W, ∀ e t xs d L, obj os l = .row e t xs d L → obj os1 l = .row e t xs d L) → (∀ l ∈ W, ∀ b ∈ gh.ft l, b ∉ F → w'.heap[b]? = w.heap[b]?) → putMut os1 t y ls = some (os', r') →
        r' = r ∧ os'.length = os1.length ∧ (∀ k, k ∉ W → obj os' k = obj os1 k) ∧ ∀ l ∈ W, ∃ e s ys zs L, obj os l = .row e s ys true L ∧ obj os' l = .row e s zs true L ∧ zs.length = ys.length ∧ RowR (Deep s w') w' e s.size (gh.hd l) (gh.ft l) zs
  | .pair a b, ls, vs, x, W, r, ha, hg, hW => by
    simp only [getMut] at hg
    split at hg
    · rename_i x1 L r1 h1
      split at hg
      · rename_i x2 M r2 h2
        simp only [Option.some.injEq, Prod.mk.injEq] at hg
        obtain ⟨rfl, rfl, rfl⟩ := hg
        obtain ⟨n1, n2, n3⟩ := List.nodup_append.1 hW
        obtain ⟨v1, v2, F1, rfl, d1, a1, f1, g1, p1⟩ := lend_ok hdj hnd hob a ha h1 n1
        obtain ⟨v3, v4, F2, rfl, d2, a2, f2, g2, p2⟩ := lend_ok hdj hnd hob b a1 h2 n2
        have apart : ∀ b ∈ F1, b ∉ F2 := by
          intro b hb hb'
          obtain ⟨l, hl, hbl⟩ := g1 b hb
          obtain ⟨l', hl', hbl'⟩ := g2 b hb'
          exact n3 l hl l' hl' (hdj _ _ _ hbl hbl')
        refine ⟨v1 ++ v3, v4, F1 ++ F2, by simp, ⟨F1, F2, v1, v3, rfl, rfl, d1, d2⟩, a2, List.nodup_append.2 ⟨f1, f2, fun b hb b' hb' e => apart b hb (e ▸ hb')⟩, fun b hb => ?_, fun w' y os1 os' r' hmt hos hsame hput => ?_⟩
        · rcases List.mem_append.1 hb with hb | hb
          · obtain ⟨l, hl, h⟩ := g1 b hb; exact ⟨l, by simp [hl], h⟩
          · obtain ⟨l, hl, h⟩ := g2 b hb; exact ⟨l, by simp [hl], h⟩
        · obtain ⟨m1, m2⟩ := hmt v1 v3 rfl (Deep.len a d1)
          simp only [putMut] at hput
          split at hput
          · rename_i os2 r3 hp1
            obtain ⟨rfl, l1, k1, t1⟩ := p1 w' y.1 os1 os2 r3 m1 (fun l hl => hos l (by simp [hl])) (fun l hl b hb hF => hsame l (by simp [hl]) b hb fun hm => by
              rcases List.mem_append.1 hm with hm | hm
              · exact hF hm
              · obtain ⟨l', hl', hbl'⟩ := g2 b hm
                exact n3 l hl l' hl' (hdj _ _ _ hb hbl')) hp1
            obtain ⟨rfl, l2, k2, t2⟩ := p2 w' y.2 os2 os' r' m2 (fun l hl e t xs d L ho => by rw [k1 l fun h => n3 l h l hl rfl]; exact hos l (by simp [hl]) e t xs d L ho) (fun l hl b hb hF => hsame l (by simp [hl]) b hb fun hm => by
              rcases List.mem_append.1 hm with hm | hm
              · obtain ⟨l', hl', hbl'⟩ := g1 b hm
                exact n3 l' hl' l hl (hdj _ _ _ hbl' hb)
              · exact hF hm) hput
            refine ⟨rfl, l2.trans l1, fun k hk => ?_, fun l hl => ?_⟩
            · simp only [List.mem_append, not_or] at hk
              rw [k2 k hk.2, k1 k hk.1]
            · rcases List.mem_append.1 hl with hl | hl
              · obtain ⟨e, s, ys, zs, L', o1, o2, o3, o4⟩ := t1 l hl
                exact ⟨e, s, ys, zs, L', o1, by rw [k2 l fun h => n3 l hl l h rfl]; exact o2, o3, o4⟩
              · exact t2 l hl
          · cases hput
      · cases hg
    · cases hg
  | .unit, ls, vs, x, W, r, ha, hg, hW => by
    simp only [getMut, Option.some.injEq, Prod.mk.injEq] at hg
    obtain ⟨_, rfl, rfl⟩ := hg
    refine ⟨[], vs, [], rfl, ⟨rfl, rfl⟩, ha, List.nodup_nil, by simp, fun w' y os1 os' r' _ _ _ hput => ?_⟩
    simp only [putMut, Option.some.injEq, Prod.mk.injEq] at hput
    obtain ⟨rfl, rfl⟩ := hput
    exact ⟨rfl, rfl, fun _ _ => rfl, by simp⟩
  | .int k, ls, vs, x, W, r, ha, hg, hW => by
    cases ls with
    | nil => simp [getMut] at hg
    | cons c ls =>
      cases vs with
      | nil => exact ha.elim
      | cons v vs =>
        cases c <;> simp only [getMut] at hg <;> try (cases hg; done)
        split at hg
        · rename_i y hy
          simp only [Option.some.injEq, Prod.mk.injEq] at hg
          obtain ⟨rfl, rfl, rfl⟩ := hg
          obtain ⟨rfl, rfl⟩ := cast_some hy
          refine ⟨[v], vs, [], rfl, ⟨rfl, ImmS.rep ha.1.1⟩, ha.2, List.nodup_nil, by simp, fun w' y os1 os' r' _ _ _ hput => ?_⟩
          simp only [putMut, Option.some.injEq, Prod.mk.injEq] at hput
          obtain ⟨rfl, rfl⟩ := hput
          exact ⟨rfl, rfl, fun _ _ => rfl, by simp⟩
        · cases hg
  | .bool, ls, vs, x, W, r, ha, hg, hW => by
    cases ls with
    | nil => simp [getMut] at hg
    | cons c ls =>
      cases vs with
      | nil => exact ha.elim
      | cons v vs =>
        cases c <;> simp only [getMut] at hg <;> try (cases hg; done)
        split at hg
        · rename_i y hy
          simp only [Option.some.injEq, Prod.mk.injEq] at hg
          obtain ⟨rfl, rfl, rfl⟩ := hg
          obtain ⟨rfl, rfl⟩ := cast_some hy
          refine ⟨[v], vs, [], rfl, ⟨rfl, ImmS.rep ha.1.1⟩, ha.2, List.nodup_nil, by simp, fun w' y os1 os' r' _ _ _ hput => ?_⟩
          simp only [putMut, Option.some.injEq, Prod.mk.injEq] at hput
          obtain ⟨rfl, rfl⟩ := hput
          exact ⟨rfl, rfl, fun _ _ => rfl, by simp⟩
        · cases hg
  | .str, ls, vs, x, W, r, ha, hg, hW => by
    cases ls with
    | nil => simp [getMut] at hg
    | cons c ls =>
      cases vs with
      | nil => exact ha.elim
      | cons v vs =>
        cases c <;> simp only [getMut] at hg <;> try (cases hg; done)
        split at hg
        · rename_i y hy
          simp only [Option.some.injEq, Prod.mk.injEq] at hg
          obtain ⟨rfl, rfl, rfl⟩ := hg
          obtain ⟨rfl, rfl⟩ := cast_some hy
          refine ⟨[v], vs, [], rfl, ⟨rfl, ImmS.rep ha.1.1⟩, ha.2, List.nodup_nil, by simp, fun w' y os1 os' r' _ _ _ hput => ?_⟩
          simp only [putMut, Option.some.injEq, Prod.mk.injEq] at hput
          obtain ⟨rfl, rfl⟩ := hput
          exact ⟨rfl, rfl, fun _ _ => rfl, by simp⟩
        · cases hg
  | .slice e t, ls, vs, x, W, r, ha, hg, hW => by
    cases ls with
    | nil => simp [getMut] at hg
    | cons c ls =>
      cases vs with
      | nil => exact ha.elim
      | cons v vs =>
        obtain ⟨hv, ha⟩ := ha
        cases c <;> simp only [getMut] at hg <;> try (cases hg; done)
        · -- nil
          simp only [Option.some.injEq, Prod.mk.injEq] at hg
          obtain ⟨rfl, rfl, rfl⟩ := hg
          obtain rfl : v = .slice none 0 0 := hv.1
          refine ⟨_, vs, [], rfl, Deep.zero (.slice e t) w, ha, List.nodup_nil, by simp, fun w' y os1 os' r' _ _ _ hput => ?_⟩
          simp only [putMut, Option.some.injEq, Prod.mk.injEq] at hput
          obtain ⟨rfl, rfl⟩ := hput
          exact ⟨rfl, rfl, fun _ _ => rfl, by simp⟩
        · -- a row of ours
          rename_i l
          cases ho : obj os l with
          | dead => rw [ho] at hg; cases hg
          | box _ => rw [ho] at hg; cases hg
          | row e' s xs d L =>
          rw [ho] at hg
          cases d with
          | false => cases hg
          | true =>
          simp only at hg
          split at hg
          · rename_i he
            simp only [beq_iff_eq] at he
            subst he
            split at hg
            · rename_i y hy
              simp only [Option.some.injEq, Prod.mk.injEq] at hg
              obtain ⟨rfl, rfl, rfl⟩ := hg
              obtain ⟨rfl, rfl⟩ := castL_some hy
              have hrow := hob l
              rw [ho] at hrow
              have hve : v = gh.hd l := hv.1.1
              subst hve
              have hD : Deep (.slice e' s) w xs (gh.ft l) [gh.hd l] := ⟨_, rfl, hrow⟩
              refine ⟨[gh.hd l], vs, gh.ft l, rfl, hD, ha, hnd l, fun b hb => ⟨l, by simp, hb⟩, fun w' y os1 os' r' hmt hos hsame hput => ?_⟩
              obtain ⟨v', he', hrow'⟩ := hmt _ hD
              simp only [List.cons.injEq, and_true] at he'
              subst he'
              have ho1 := hos l (by simp) _ _ _ _ _ ho
              simp only [putMut, ho1, castL_self', Option.some.injEq, Prod.mk.injEq] at hput
              obtain ⟨rfl, rfl⟩ := hput
              have hlen1 := obj_lt (os := os1) (l := l) (by rw [ho1]; simp)
              refine ⟨rfl, by simp, fun k hk => obj_set_ne (by simpa using hk), fun k hk => ?_⟩
              obtain rfl : k = l := by simpa using hk
              refine ⟨_, _, _, y, _, ho, obj_set_eq hlen1, ?_, hrow'⟩
              obtain ⟨_, _, _, _, o1⟩ := hrow'
              obtain ⟨_, _, _, _, o2⟩ := hrow
              obtain ⟨A1, c1, q1, _⟩ := ownsRow_val o1
              obtain ⟨A2, c2, q2, _⟩ := ownsRow_val o2
              rw [q1] at q2
              simp only [Value.slice.injEq] at q2
              exact q2.2.1
            · cases hg
          · cases hg
        · -- a nested one
          rename_i l i off
          cases ho : obj os l with
          | dead => rw [ho] at hg; cases hg
          | box _ => rw [ho] at hg; cases hg
          | row e' s xs d L =>
          rw [ho] at hg
          cases d with
          | false => cases hg
          | true =>
          simp only at hg
          split at hg
          case h_2 => cases hg
          rename_i e2 u x' hl
          split at hg
          · rename_i he
            simp only [beq_iff_eq] at he
            subst he
            split at hg
            · rename_i y hy
              simp only [Option.some.injEq, Prod.mk.injEq] at hg
              obtain ⟨rfl, rfl, rfl⟩ := hg
              obtain ⟨rfl, rfl⟩ := castL_some hy
              have hrow := hob l
              rw [ho] at hrow
              obtain ⟨e1, t1, xs1, L1, g, n, c, s1, z1, ho1, h0, h1, hz, hh, hcell⟩ := hv.1
              rw [ho] at ho1
              cases ho1
              obtain ⟨G, v', g', n', c', hhd, hcell', hGs, hGn, hD, hput⟩ := sub_put hrow (hnd l) (rd_get (d := s.zero) h0 h1) hl
              rw [hh] at hhd
              cases hhd
              obtain rfl : v' = v := by rw [hcell] at hcell'; simpa using hcell'.symm
              refine ⟨[v'], vs, G, rfl, hD, ha, hGn, fun b hb => ⟨l, by simp, hGs b hb⟩, fun w' y os1 os' r' hmt hos hsame hpm => ?_⟩
              have hD' := hmt _ hD
              have ho1 := hos l (by simp) _ _ _ _ _ ho
              simp only [putMut, ho1] at hpm
              split at hpm
              · rename_i z hz'
                simp only [Option.some.injEq, Prod.mk.injEq] at hpm
                obtain ⟨rfl, rfl⟩ := hpm
                have hlen1 := obj_lt (os := os1) (l := l) (by rw [ho1]; simp)
                refine ⟨rfl, by simp, fun k hk => obj_set_ne (by simpa using hk), fun k hk => ?_⟩
                obtain rfl : k = l := by simpa using hk
                exact ⟨_, _, _, _, _, ho, obj_set_eq hlen1, by simp, hput w' y z hz' (fun b hb hg => hsame k (by simp) b hb hg) hD'⟩
              · cases hpm
            · cases hg
          · cases hg
where
  castL_self' {t : Ty} {x : List t.den} : castL t t x = some x := by simp [castL]
end
end Go.AM
