/- Code. No condition. -/
import Derived.Test.YthijgmbdlkeebaaAmDraw
set_option linter.unusedVariables false
set_option linter.unusedSimpArgs false
namespace Go.AM

def ofEx : Ex → Exit
  | .normal => .normal
  | .exit id => .exit id
  | .ret => .ret

section
variable {C : Ctx} {st : St} {gh : Gh} {a : Act} {w : World}

/-- a loop whose rounds are counted -/
theorem wp_loop_n {P : Program} {c : Code} {Q : Exit → Act → World → Prop} (R : Nat → Act → World → Prop) (zero : ∀ a w, ¬ R 0 a w) (round : ∀ n a w, R (n + 1) a w → c.wp P (Exit.then (R n) Q) a w) :
    ∀ n a w, R n a w → (Code.loop c).wp P Q a w := by
  intro n a w hR b k cs
  have key : ∀ n a w, R n a w → ∃ e a' w', Q e a' w' ∧ Arrives P (lone (b.at a (.code c :: .inLoop c :: k)) cs w) b k cs e a' w' := by
    intro n
    induction n with
    | zero => intro a w h; exact absurd h (zero a w)
    | succ n ih =>
      intro a w h
      obtain ⟨e, a₁, w₁, hq, harr⟩ := round n a w h b (.inLoop c :: k) cs
      cases e with
      | normal =>
        obtain ⟨e₂, a₂, w₂, hq₂, harr₂⟩ := ih a₁ w₁ hq
        exact ⟨e₂, a₂, w₂, hq₂, .of_steps (Steps.trans harr (.one step_inLoop)) harr₂⟩
      | exit id => exact ⟨_, a₁, w₁, hq, .pass (x := .inLoop c) rfl (fun _ _ => .inl (by simp)) harr⟩
      | goto l => exact ⟨_, a₁, w₁, hq, .pass (x := .inLoop c) rfl (fun _ _ => .inl (by simp)) harr⟩
      | ret => exact ⟨_, a₁, w₁, hq, .pass (x := .inLoop c) rfl (fun _ _ => .inl (by simp)) harr⟩
      | panic ch => exact ⟨_, a₁, w₁, hq, .pass (x := .inLoop c) rfl (fun _ _ => .inl (by simp)) harr⟩
      | outgrown => exact ⟨_, a₁, w₁, hq, .pass (x := .inLoop c) rfl (fun _ _ => .inl (by simp)) harr⟩
  obtain ⟨e, a', w', hq, harr⟩ := key n a w hR
  exact ⟨e, a', w', hq, .of_steps (.one step_loop) harr⟩

def blkK {ρ : Type} (id : Nat) (K : Ex → St → Option ρ) : Ex → St → Option ρ := fun e st' => match e with
  | .exit j => if j == id then K .normal st' else K (.exit j) st'
  | e => K e st'

theorem exec_ok {ρ : Type} {N : Nat} {E : Env} (hE : EnvOk C.P E) {cb : CB} (hcb : CBOk C.P cb) {r f : Nat} {y : ρ} : ∀ (c : Code) {st : St} {gh : Gh} {a : Act} {w : World} {K : Ex → St → Option ρ} {Q : Exit → Act → World → Prop},
    Inv r f st → Rel C st gh a w → exec N E cb c st K = some y → (∀ e st' gh' a' w', Inv r f st' → Rel C st' gh' a' w' → K e st' = some y → Q (ofEx e) a' w') → c.wp C.P Q a w
  | .skip, st, gh, a, w, K, Q, hI, h, hs, hK => wp_skip (hK .normal st gh a w hI h hs)
  | .seq x z, st, gh, a, w, K, Q, hI, h, hs, hK => by
    simp only [exec] at hs
    refine wp_seq (exec_ok hE hcb x hI h hs fun e st' gh' a' w' hI' h' hk => ?_)
    cases e with
    | normal => exact exec_ok hE hcb z hI' h' hk hK
    | exit id => exact hK (.exit id) st' gh' a' w' hI' h' hk
    | ret => exact hK .ret st' gh' a' w' hI' h' hk
  | .region id ops draw, st, gh, a, w, K, Q, hI, h, hs, hK => by
    simp only [exec] at hs
    cases draw with
    | false =>
      simp only [Bool.false_eq_true, if_false] at hs
      refine wp_region ?_
      have := runOps_ok hE hcb (K := fun cls st' => K .normal st') (Q := Q) (fun cls st' gh' a' w' hI' h' hk => hK .normal st' gh' a' w' hI' h' hk) ops.toList 0 [] st gh a w (by simp) hI h hs
      rwa [Array.length_toList, ← List.range_eq_range'] at this
    | true =>
      simp only [if_true] at hs
      exact draw_ok hE hcb (K := fun st' => K .normal st') hI h hs fun st' gh' a' w' hI' h' hk => hK .normal st' gh' a' w' hI' h' hk
  | .cond c x z, st, gh, a, w, K, Q, hI, h, hs, hK => by
    simp only [exec] at hs
    split at hs
    · rename_i b L hc
      have hv := h.leaf c
      rw [hc] at hv
      refine wp_cond (leaf_bool hv) ?_
      cases b with
      | true => exact exec_ok hE hcb x hI h hs hK
      | false => exact exec_ok hE hcb z hI h hs hK
    · cases hs
  | .block id (.loop body), st, gh, a, w, K, Q, hI, h, hs, hK => by
    simp only [exec] at hs
    split at hs
    · cases hs
    rename_i live hlive
    refine wp_block ?_
    let R : Nat → Act → World → Prop := fun n a w => ∃ d gh, Rel C (headSt live st d) gh a w ∧ loopN n (fun rec (d : lsDen (keepFrom live 0 st.regs) × objsDen st.objs) =>
          exec N E cb body (headSt live st d) fun e st' => match e with
            | .normal => match lsExt (keepFrom live 0 st.regs) (keepFrom live 0 st'.regs) with
              | some x => match objsExt st.objs st'.objs with
                | some y => rec (x, y)
                | none => none
              | none => none
            | .exit j => if j == id then K .normal st' else K (.exit j) st'
            | .ret => K .ret st') d = some y
    have hfl : st.fx ≤ st.objs.length := by rw [hI.fx]; exact hI.fl
    refine wp_loop_n R (fun a w hR => ?_) (fun n a w hR => ?_) N a w ⟨(lsGet _, objsGet _), _, head_ok h h hfl rfl rfl (lsExt_self _) (objsExt_self _), hs⟩
    · obtain ⟨d, gh, _, hn⟩ := hR
      simp [loopN] at hn
    · obtain ⟨d, gh1, hrel, hn⟩ := hR
      simp only [loopN] at hn
      have hI1 : Inv r f (headSt live st d) := ⟨hI.ro, hI.fx, by simp only [headSt, objsPut_len]; exact hI.rl, by simp only [headSt, objsPut_len]; exact hI.fl⟩
      refine exec_ok hE hcb body hI1 hrel hn fun e st' gh' a' w' hI' h' hk => ?_
      cases e with
      | normal =>
        simp only at hk
        split at hk
        · rename_i x hx
          split at hk
          · rename_i z hz
            exact ⟨(x, z), _, head_ok h h' hfl (hI'.ro.trans hI.ro.symm) (hI'.fx.trans hI.fx.symm) hx hz, hk⟩
          · cases hk
        · cases hk
      | exit j =>
        simp only [beq_iff_eq] at hk
        show Exit.then _ _ (.exit j) a' w'
        simp only [Exit.then, Exit.inBlock]
        split at hk
        · rename_i hj
          rw [if_pos hj]
          exact hK .normal st' gh' a' w' hI' h' hk
        · rename_i hj
          rw [if_neg hj]
          exact hK (.exit j) st' gh' a' w' hI' h' hk
      | ret => exact hK .ret st' gh' a' w' hI' h' hk
  | .exit id, st, gh, a, w, K, Q, hI, h, hs, hK => wp_exit (hK (.exit id) st gh a w hI h hs)
  | .ret, st, gh, a, w, K, Q, hI, h, hs, hK => wp_ret (hK .ret st gh a w hI h hs)
  | .block id .skip, st, gh, a, w, K, Q, hI, h, hs, hK => by
    simp only [exec] at hs
    exact wp_block (wp_skip (hK .normal st gh a w hI h hs))
  | .block id (.region i ops draw), st, gh, a, w, K, Q, hI, h, hs, hK => wp_block (exec_ok (N := N) hE hcb (.region i ops draw) hI h (K := blkK id K) hs (blockK hK))
  | .block id (.seq x z), st, gh, a, w, K, Q, hI, h, hs, hK => wp_block (exec_ok (N := N) hE hcb (.seq x z) hI h (K := blkK id K) hs (blockK hK))
  | .block id (.cond c x z), st, gh, a, w, K, Q, hI, h, hs, hK => wp_block (exec_ok (N := N) hE hcb (.cond c x z) hI h (K := blkK id K) hs (blockK hK))
  | .block id (.block i x), st, gh, a, w, K, Q, hI, h, hs, hK => wp_block (exec_ok (N := N) hE hcb (.block i x) hI h (K := blkK id K) hs (blockK hK))
  | .block id (.exit i), st, gh, a, w, K, Q, hI, h, hs, hK => wp_block (exec_ok (N := N) hE hcb (.exit i) hI h (K := blkK id K) hs (blockK hK))
  | .block id .ret, st, gh, a, w, K, Q, hI, h, hs, hK => wp_block (exec_ok (N := N) hE hcb .ret hI h (K := blkK id K) hs (blockK hK))
  | .block id (.rangeFunc _ _ _ _), st, gh, a, w, K, Q, hI, h, hs, hK => by simp [exec] at hs
  | .block id (.scope _), st, gh, a, w, K, Q, hI, h, hs, hK => by simp [exec] at hs
  | .block id (.label _), st, gh, a, w, K, Q, hI, h, hs, hK => by simp [exec] at hs
  | .block id (.goto _), st, gh, a, w, K, Q, hI, h, hs, hK => by simp [exec] at hs
  | .block id (.refuse _), st, gh, a, w, K, Q, hI, h, hs, hK => by simp [exec] at hs
  | .loop _, st, gh, a, w, K, Q, hI, h, hs, hK => by simp [exec] at hs
  | .rangeFunc _ _ _ _, st, gh, a, w, K, Q, hI, h, hs, hK => by simp [exec] at hs
  | .scope _, st, gh, a, w, K, Q, hI, h, hs, hK => by simp [exec] at hs
  | .label _, st, gh, a, w, K, Q, hI, h, hs, hK => by simp [exec] at hs
  | .goto _, st, gh, a, w, K, Q, hI, h, hs, hK => by simp [exec] at hs
  | .refuse _, st, gh, a, w, K, Q, hI, h, hs, hK => by simp [exec] at hs
where
  blockK {C : Ctx} {r f : Nat} {ρ : Type} {y : ρ} {id : Nat} {K : Ex → St → Option ρ} {Q : Exit → Act → World → Prop} (hK : ∀ e st' gh' a' w', Inv r f st' → Rel C st' gh' a' w' → K e st' = some y → Q (ofEx e) a' w') :
      ∀ e st' gh' a' w', Inv r f st' → Rel C st' gh' a' w' → blkK id K e st' = some y → Exit.inBlock id Q (ofEx e) a' w' := by
    intro e st' gh' a' w' hI' h' hk
    cases e with
    | normal => exact hK .normal st' gh' a' w' hI' h' hk
    | ret => exact hK .ret st' gh' a' w' hI' h' hk
    | exit j =>
      simp only [blkK, beq_iff_eq] at hk
      show Exit.inBlock id Q (.exit j) a' w'
      simp only [Exit.inBlock]
      split at hk
      · rename_i hj
        rw [if_pos hj]
        exact hK .normal st' gh' a' w' hI' h' hk
      · rename_i hj
        rw [if_neg hj]
        exact hK (.exit j) st' gh' a' w' hI' h' hk
end
end Go.AM
