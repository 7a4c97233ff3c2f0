/- Regions whose order is drawn: whichever order, the same comes of it. No condition. -/
import Derived.Test.YthijgmbdlkeebaaAmSwap
import Derived.Orders
set_option linter.unusedVariables false
set_option linter.unusedSimpArgs false
namespace Go.AM

section
variable {E : Env} {cb : CB}

/-- of a value that hangs on nothing, or on the objects that are there -/
theorem stepV_ext {ρ : Operand → SV} {os : Objs} {o : Oper} {v : SV} {new : Objs} (hs : (stepV E cb ρ os o).run some = some (v, new)) (hc : clsV E ρ o new ≤ 1) :
    new = [] ∧ (∀ ext, (stepV E cb ρ (os ++ ext) o).run some = some (v, [])) ∧ (clsV E ρ o new = 0 → ∀ os', (stepV E cb ρ os' o).run some = some (v, [])) := by
  have hn : new = [] := by
    cases new with
    | nil => rfl
    | cons _ _ => simp [clsV] at hc
  subst hn
  refine ⟨rfl, ?_⟩
  have same : (∀ os', stepV E cb ρ os' o = stepV E cb ρ os o) → (∀ ext, (stepV E cb ρ (os ++ ext) o).run some = some (v, [])) ∧ (clsV E ρ o [] = 0 → ∀ os', (stepV E cb ρ os' o).run some = some (v, [])) :=
    fun h => ⟨fun ext => by rw [h]; exact hs, fun _ os' => by rw [h]; exact hs⟩
  cases ho : o.op with
  | move x => exact same fun os' => by simp only [stepV, ho]
  | assign x =>
    simp only [stepV, ho] at hs ⊢
    split at hs
    · split at hs
      · split at hs
        · simp [mkRow, Tree.run] at hs
        · cases hs
      · cases hs
    · rename_i hne
      exact ⟨fun _ => hs, fun _ _ => hs⟩
  | pick c a b => exact same fun os' => by simp only [stepV, ho]
  | binOp op t x y u => exact same fun os' => by simp only [stepV, ho]
  | unOp op t x => exact same fun os' => by simp only [stepV, ho]
  | load t x =>
    simp only [stepV, ho] at hs ⊢
    split at hs
    · rename_i ti ht
      split at hs
      · rename_i v' hv
        refine ⟨fun ext => by simp only [loadOp_ext hv]; exact hs, fun h0 os' => ?_⟩
        have hf : (ρ x).leaf.free = true := by
          simp only [clsV, ho] at h0
          split at h0
          · assumption
          · cases h0
        rw [loadOp_free hf os' os, hv]
        exact hs
      · cases hs
    · cases hs
  | fieldAddr t x f => exact same fun os' => by simp only [stepV, ho]
  | indexAddr T x i =>
    have hf : clsV E ρ o [] = 0 → (ρ x).leaf.free = true := by
      intro h0
      simp only [clsV, ho] at h0
      split at h0
      · assumption
      · cases h0
    simp only [stepV, ho] at hs ⊢
    split at hs
    · split at hs
      · exact ⟨fun _ => hs, fun _ _ => hs⟩
      · rename_i l hx
        split at hs
        · rename_i e t xs d L hob
          refine ⟨fun ext => by simp only [obj_ext hob (by simp)]; exact hs, fun h0 => ?_⟩
          have := hf h0; rw [hx] at this; cases this
        · cases hs
      · rename_i l j off hx
        split at hs
        · rename_i t ht
          split at hs
          · rename_i xs L hd
            refine ⟨fun ext => by simp only [sliceTy_ext ht, sliceData_ext hd]; exact hs, fun h0 => ?_⟩
            have := hf h0; rw [hx] at this; cases this
          · cases hs
        · cases hs
      · cases hs
    · cases hs
  | index T x i => exact same fun os' => by simp only [stepV, ho]
  | field t x f => exact same fun os' => by simp only [stepV, ho]
  | extract x i => exact same fun os' => by simp only [stepV, ho]
  | build t parts => exact same fun os' => by simp only [stepV, ho]
  | buildSlice t n parts =>
    exfalso
    simp only [stepV, ho] at hs
    split at hs
    · split at hs
      · split at hs
        · split at hs
          · simp [mkRow, Tree.run] at hs
          · split at hs
            · simp [mkRow, Tree.run] at hs
            · cases hs
        · cases hs
      · cases hs
    · cases hs
  | makeSlice t n c =>
    exfalso
    simp only [stepV, ho] at hs
    split at hs
    · split at hs
      · split at hs
        · obtain ⟨_, hs⟩ := Tree.run_need hs
          obtain ⟨_, hs⟩ := Tree.run_need hs
          obtain ⟨_, hs⟩ := Tree.run_need hs
          simp [mkRow, Tree.run] at hs
        · cases hs
      · cases hs
    · cases hs
  | alloc t =>
    exfalso
    simp only [stepV, ho] at hs
    split at hs
    · simp [Tree.run] at hs
    · cases hs
  | box t x =>
    exfalso
    simp only [stepV, ho] at hs
    split at hs
    · split at hs
      · simp [Tree.run] at hs
      · cases hs
    · cases hs
  | makeFunc f first caps => exact same fun os' => by cases f <;> simp only [stepV, ho]
  | nilCheck x => exact same fun os' => by simp only [stepV, ho]
  | slice T x lo hi mx =>
    cases mx with
    | some _ => simp only [stepV, ho] at hs; cases hs
    | none =>
      simp only [stepV, ho] at hs ⊢
      obtain ⟨v', h1, h2⟩ := Tree.run_pure1 hs
      have pack : ∀ os', (sliceOpV E.views (isStrTy E T) (szIs (elemSz E T)) ρ os' (ρ x) lo hi).run some = some v' → (pure1 (sliceOpV E.views (isStrTy E T) (szIs (elemSz E T)) ρ os' (ρ x) lo hi)).run some = some (v, []) := by
        intro os' h
        unfold pure1
        rw [Tree.run_map]
        simp only [Prod.mk.injEq, and_true] at h2
        subst h2
        have : ∀ (t : Tree SV), t.run some = some v → t.run (fun x => some (x, ([] : Objs))) = some (v, []) := by
          intro t
          induction t with
          | ret a => intro h; simpa [Tree.run] using h
          | fail => intro h; cases h
          | ite b t e iht ihe => intro h; simp only [Tree.run] at h ⊢; cases b; exact ihe h; exact iht h
          | bind m k ih => intro h; simp only [Tree.run] at h ⊢; cases m with
            | none => cases h
            | some x => exact ih x h
        exact this _ h
      refine ⟨fun ext => pack _ (sliceOpV_ext h1), fun h0 os' => pack _ ?_⟩
      have hf : (ρ x).leaf.free = true := by
        simp only [clsV, ho] at h0
        split at h0
        · assumption
        · cases h0
      have hv0 : viewOf E.views (ρ x) = none := by
        unfold viewOf
        split
        · rename_i l hx; rw [hx] at hf; cases hf
        · rfl
      unfold sliceOpV at h1 ⊢
      simp only [hv0] at h1 ⊢
      unfold sliceOp at h1 ⊢
      split at h1
      · exact h1
      · rename_i c hne hx
        have hf' : c.free = true := by rw [hx] at hf; exact hf
        simp only [sliceTy_free hf' os' os]
        split at h1
        · cases h1
        · rename_i t ht
          simp only [sliceData_free hf' os' os]
          exact h1
      · cases h1
  | convert src dst x =>
    have hf : clsV E ρ o [] = 0 → (ρ x).leaf.free = true := by
      intro h0
      simp only [clsV, ho] at h0
      split at h0
      · assumption
      · cases h0
    simp only [stepV, ho] at hs ⊢
    split at hs
    · exact ⟨fun _ => hs, fun _ _ => hs⟩
    · split at hs
      · rename_i hte
        split at hs
        · rename_i hty
          split at hs
          · rename_i xs L hd
            refine ⟨fun ext => ?_, fun h0 os' => ?_⟩
            · simp only [sliceTy_ext hty, sliceData_ext hd]; exact hs
            · simp only [sliceTy_free (hf h0) os' os, hty, sliceData_free (hf h0) os' os, hd]; exact hs
          · cases hs
        · cases hs
      · cases hs
    · cases hs
  | call c =>
    simp only [stepV, ho] at hs ⊢
    cases hcal : c.callee with
    | builtin b =>
      rw [hcal] at hs
      cases b <;> simp only at hs ⊢ <;> try (cases hs; done)
      case len =>
        match hargs : c.args.toList, hT : c.argTypes.toList with
        | [], _ => rw [hargs] at hs; cases hs
        | [x], [] => rw [hargs, hT] at hs; cases hs
        | [x], _ :: _ :: _ => rw [hargs, hT] at hs; cases hs
        | _ :: _ :: _, _ => rw [hargs] at hs; cases hs
        | [x], [T] =>
          rw [hargs, hT] at hs
          simp only at hs ⊢
          split at hs
          · rename_i n hl
            refine ⟨fun ext => by simp only [lenOp_ext hl]; exact hs, fun h0 os' => ?_⟩
            have hf : (ρ x).leaf.free = true := by
              simp only [clsV, ho, hcal, hargs, List.all_cons, List.all_nil, Bool.and_true] at h0
              split at h0
              · assumption
              · cases h0
            have : lenOp (isStrTy E T) (isSliceTy E T) os' (ρ x) = some n := by
              rw [← hl]
              unfold lenOp
              cases hx : ρ x with
              | one c =>
                rw [hx] at hf
                have hf : c.free = true := hf
                cases c <;> first | rfl | (cases hf; done) | (rename_i t' x' L' hff; cases t' <;> rfl)
              | agg _ => rfl
              | tup _ => rfl
            simp only [this]
            exact hs
          · cases hs
      case max => exact ⟨fun _ => hs, fun _ _ => hs⟩
      case min => exact ⟨fun _ => hs, fun _ _ => hs⟩
    | invoke r m => rw [hcal] at hs; cases hs
    | value f =>
      rw [hcal] at hs
      simp only at hs ⊢
      split at hs
      · rename_i g hfl
        split at hs
        · rename_i s hsg
          split at hs
          · cases hs
          · rename_i hm
            have hclo : s.ins.any PIn.isClo = false := by
              cases hh : s.ins.any PIn.isClo with
              | false => rfl
              | true => simp only [clsV, ho, hcal, hfl, hsg, hh, if_true] at hc; omega
            have hnot : clsV E ρ o [] ≠ 0 := by simp [clsV, ho, hcal, hfl, hsg, hclo]
            refine ⟨fun ext => ?_, fun h0 => absurd h0 hnot⟩
            rw [if_neg hm]
            unfold callV at hs ⊢
            split at hs
            · cases hs
            · rename_i x L W hg
              rw [gatherIns_ext s.ins (by simpa using hm) hclo hg]
              simp only [Tree.run] at hs ⊢
              cases hy : s.fn x with
              | none => rw [hy] at hs; cases hs
              | some y =>
                rw [hy] at hs
                simp only [Option.bind_some] at hs ⊢
                cases hw : wantsImm E.imm o.dst with
                | true => rw [hw] at hs; exact hs
                | false =>
                rw [hw] at hs
                simp only [Tree.run, Option.some.injEq, Prod.mk.injEq] at hs ⊢
                rw [outLeaves_none s.outs hs.2 ((os ++ ext).length)]
                rw [hs.1, hs.2]
                exact ⟨rfl, rfl⟩
        · cases hs
      · rename_i gs r p hfl
        have hnot : clsV E ρ o [] ≠ 0 := by simp [clsV, ho, hcal, hfl]
        refine ⟨fun ext => ?_, fun h0 => absurd h0 hnot⟩
        unfold callClo at hs ⊢
        split at hs
        · rename_i x hx
          rw [getArgs_ext gs hx]
          exact hs
        · cases hs
      · cases hs
  | _ => simp only [stepV, ho] at hs; cases hs

/-- what an operation does to a state -/
def eff (st : St) (o : Oper) (v : SV) (new : Objs) : St := { st with regs := setReg st.regs o.dst v, objs := st.objs ++ new }

def one1 (E : Env) (cb : CB) (ops : List Oper) (st : St) (o : Oper) : Option (St × Nat) :=
  match guardOk ops st o with
  | some true => (step E cb st o).run some
  | some false => some (st.put o.dst (.one .skip), 0)
  | none => none

/-- the registers that an operation looks at -/
def AgreeOn (ops : List Oper) (o : Oper) (st st' : St) : Prop := ∀ t ∈ looksAt ops o, st'.reg t = st.reg t

theorem agree_ev {ops : List Oper} {o : Oper} {st st' : St} (h : AgreeOn ops o st st') : ∀ x ∈ o.op.operands.toList, st.ev x = st'.ev x := by
  intro x hx
  cases x with
  | tmp t =>
    refine (h t ?_).symm
    unfold looksAt
    exact List.mem_append_left _ (List.mem_filterMap.2 ⟨.tmp t, hx, rfl⟩)
  | const v => rfl
  | global g => rfl
  | func f => rfl
theorem agree_guard {ops : List Oper} {o : Oper} {st st' : St} (h : AgreeOn ops o st st') : guardOk ops st' o = guardOk ops st o := by
  unfold guardOk
  split
  · rfl
  · rename_i j want hg
    split
    · rename_i p hp
      split
      · rename_i d hd
        rw [h d]
        unfold looksAt
        exact List.mem_append_right _ (by simp [hg, hp, hd])
      · rfl
    · rfl

theorem stepW_none {st st' : St} {o : Oper} (hev : ∀ x ∈ o.op.operands.toList, st.ev x = st'.ev x) (hob : (∀ t n parts, o.op = .buildSlice t n parts → st'.objs = st.objs)) (hro : st'.ro = st.ro) (hfx : st'.fx = st.fx) (h : stepW E cb st o = none) : stepW E cb st' o = none := by
  unfold stepW at h ⊢
  cases ho : o.op <;> rw [ho] at h <;> simp only at h ⊢
  case store t a x => cases h
  case buildSlice t n parts =>
    rw [hob t n parts ho]
    have : (parts.toList.map fun p => (p.1, st'.ev p.2)) = parts.toList.map fun p => (p.1, st.ev p.2) := by
      refine List.map_congr_left fun p hp => ?_
      rw [hev p.2 (by rw [ho]; simp only [Op.operands, List.toList_toArray, List.mem_map]; exact ⟨p, hp, rfl⟩)]
    split at h
    · split at h
      · rename_i ti he
        rw [this]
        split at h
        · split at h
          · rename_i hc
            rw [hro, hfx]
            simp only [hc, if_true]
          · cases h
        · rename_i hne
          rfl
      · rfl
    · rfl
  case call c =>
    cases hc : c.callee with
    | builtin b => rw [hc] at h; cases b <;> first | (cases h; done) | rfl
    | value f =>
      rw [hc] at h
      simp only at h ⊢
      rw [← hev f (by rw [ho]; exact (call_ops (c := c)).2 f hc)]
      split at h
      · rename_i g hf
        split at h
        · cases h
        · split at h
          · rename_i s hsg
            split at h
            · cases h
            · rename_i hm
              rw [if_neg hm]
          · rfl
      · rfl
    | invoke r m => rfl

theorem clsV_le {ρ : Operand → SV} {o : Oper} {os : Objs} : clsV E ρ o os ≤ 2 := by
  unfold clsV
  repeat' split
  all_goals decide

/-- the same operation at another state -/
theorem one_move {ops : List Oper} {st st' st1 : St} {o : Oper} {c : Nat} (h : one1 E cb ops st o = some (st1, c)) (hc : c % 8 ≤ 2) (hag : AgreeOn ops o st st') (hfx : st'.fx = st.fx) (hro : st'.ro = st.ro)
    (hob : st'.objs = st.objs ∨ (c % 8 ≤ 1 ∧ ∃ ext, st'.objs = st.objs ++ ext) ∨ c % 8 = 0) : ∃ v new, st1 = eff st o v new ∧ one1 E cb ops st' o = some (eff st' o v new, c) ∧ (c % 8 ≤ 1 → new = []) := by
  unfold one1 at h ⊢
  rw [agree_guard hag]
  split at h
  · have hev := agree_ev hag
    unfold step at h ⊢
    split at h
    · rename_i t ht
      rw [Tree.run_map] at h
      obtain ⟨s, _, h2⟩ := Tree.run_some t h
      simp only [Option.some.injEq, Prod.mk.injEq] at h2
      have := wcls_ge E cb st.ev st.objs o
      omega
    · rename_i hW
      split at h
      · cases h
      · rename_i hh
        rw [Tree.run_map] at h
        obtain ⟨⟨v, new⟩, h1, h2⟩ := Tree.run_some _ h
        simp only [Option.some.injEq, Prod.mk.injEq] at h2
        obtain ⟨rfl, rfl⟩ := h2
        have hle2 := clsV_le (E := E) (ρ := st.ev) (o := o) (os := new)
        have hmod : (clsV E st.ev o new + 8 * mkV st.ev o v (clsV E st.ev o new)) % 8 = clsV E st.ev o new := by omega
        rw [hmod] at hc hob
        rw [hmod]
        have hcv := stepV_congr (E := E) (cb := cb) (os := st'.objs) hev
        have hcl := clsV_congr (E := E) (os := new) hev
        have hmk := mkV_congr (v := v) (n := clsV E st.ev o new) hev
        have hhc := handsClo_congr (E := E) hev
        have hrun : (stepV E cb st'.ev st'.objs o).run some = some (v, new) := by
          rw [← hcv]
          rcases hob with e | ⟨hle, ext, e⟩ | h0
          · rw [e]; exact h1
          · obtain ⟨rfl, h3, _⟩ := stepV_ext h1 hle
            rw [e]; exact h3 ext
          · obtain ⟨rfl, _, h4⟩ := stepV_ext h1 (by omega)
            exact h4 h0 _
        have hW' : stepW E cb st' o = none := by
          refine stepW_none hev (fun t n parts ho => ?_) hro hfx hW
          rcases hob with e | ⟨hle, _⟩ | h0
          · exact e
          · exfalso
            obtain ⟨rfl, _⟩ := stepV_ext h1 hle
            simp only [stepV, ho] at h1
            split at h1
            · split at h1
              · split at h1
                · split at h1
                  · simp [mkRow, Tree.run] at h1
                  · split at h1
                    · simp [mkRow, Tree.run] at h1
                    · cases h1
                · cases h1
              · cases h1
            · cases h1
          · exfalso
            obtain ⟨rfl, _⟩ := stepV_ext h1 (by omega)
            simp only [stepV, ho] at h1
            split at h1
            · split at h1
              · split at h1
                · split at h1
                  · simp [mkRow, Tree.run] at h1
                  · split at h1
                    · simp [mkRow, Tree.run] at h1
                    · cases h1
                · cases h1
              · cases h1
            · cases h1
        refine ⟨v, new, rfl, ?_, fun hle => (stepV_ext h1 hle).1⟩
        simp only [hW', ← hhc, hfx]
        rw [if_neg hh, Tree.run_map]
        have : ∀ {α β : Type} (t : Tree α) (f : α → β) {x : α}, t.run some = some x → t.run (fun x => some (f x)) = some (f x) := by
          intro α β t f x
          induction t with
          | ret a => intro h; simp only [Tree.run, Option.some.injEq] at h ⊢; rw [h]
          | fail => intro h; cases h
          | ite b t e iht ihe => intro h; simp only [Tree.run] at h ⊢; cases b; exact ihe h; exact iht h
          | bind m k ih => intro h; simp only [Tree.run] at h ⊢; cases m with
            | none => cases h
            | some x => exact ih x h
        rw [this _ _ hrun, ← hcl, ← hmk]
        simp only [eff, hfx]
  · simp only [Option.some.injEq, Prod.mk.injEq] at h
    obtain ⟨rfl, rfl⟩ := h
    exact ⟨.one .skip, [], by simp [eff, St.put], by simp [eff, St.put], fun _ => rfl⟩
  · cases h

theorem dstIn_not {l : List Nat} {d : Option Tmp} (h : dstIn l d = false) : ∀ t ∈ l, d ≠ some t := by
  intro t ht e
  subst e
  simp only [dstIn] at h
  rw [has_mem.2 ht] at h
  cases h

theorem eff_agree {ops : List Oper} {x y : Oper} {st : St} {v : SV} {new : Objs} (h : dstIn (looksAt ops y) x.dst = false) : AgreeOn ops y (eff st x v new) st := by
  intro t ht
  have := dstIn_not h t ht
  cases hd : x.dst with
  | none => simp [eff, setReg, hd, St.reg]
  | some d =>
    have hne : d ≠ t := fun e => this (by rw [hd, e])
    simp [eff, setReg, hd, St.reg, List.getD, List.getElem?_set_ne hne]

theorem AgreeOn.symm {ops : List Oper} {o : Oper} {st st' : St} (h : AgreeOn ops o st st') : AgreeOn ops o st' st := fun t ht => (h t ht).symm

/-! ### solid leaves -/
theorem leaf_solid {c : Leaf} {l : Nat} (h : c.solid = true) : c.kill false l = c := by
  unfold Leaf.kill
  rw [if_neg]
  cases c <;> simp_all [Leaf.solid, Leaf.dies, has]
theorem leaf_solid_kill {c : Leaf} {l : Nat} : (c.kill false l).solid = c.solid := by
  cases h : c.solid with
  | true => rw [leaf_solid h, h]
  | false =>
    unfold Leaf.kill
    split
    · rfl
    · exact h
theorem leaves_solid {cs : List Leaf} {l : Nat} (h : cs.all Leaf.solid = true) : cs.map (Leaf.kill false l) = cs := by
  conv => rhs; rw [← List.map_id cs]
  refine List.map_congr_left fun c hc => ?_
  rw [List.all_eq_true] at h
  exact leaf_solid (h c hc)
theorem leaves_solid_kill {cs : List Leaf} {l : Nat} : (cs.map (Leaf.kill false l)).all Leaf.solid = cs.all Leaf.solid := by
  rw [List.all_map]
  congr 1
  funext c
  exact leaf_solid_kill
theorem sv_solid {v : SV} {l : Nat} (h : v.solid = true) : v.kill false l = v := by
  cases v with
  | one c => simp only [SV.solid] at h; simp only [SV.kill, leaf_solid h]
  | agg cs => simp only [SV.solid] at h; simp only [SV.kill, leaves_solid h]
  | tup vs =>
    simp only [SV.solid, List.all_eq_true] at h
    simp only [SV.kill, SV.tup.injEq]
    conv => rhs; rw [← List.map_id vs]
    refine List.map_congr_left fun p hp => ?_
    rw [leaves_solid (by rw [List.all_eq_true]; exact fun c hc => h p hp c hc)]
    rfl
theorem sv_solid_kill {v : SV} {l : Nat} : (v.kill false l).solid = v.solid := by
  cases v with
  | one c => exact leaf_solid_kill
  | agg cs => exact leaves_solid_kill
  | tup vs =>
    simp only [SV.kill, SV.solid, List.all_map]
    congr 1
    funext p
    exact leaves_solid_kill

/-! ### a move, and a copy behind it -/
theorem isPick_one {ops : List Oper} {x : Oper} (h : isPick x = true) : ∃ t, x.guard = none ∧ t ∈ looksAt ops x ∧ ∀ {st s1 : St} {cx : Nat}, one1 E cb ops st x = some (s1, cx) →
    ∃ v, s1 = eff st x v [] ∧ ∀ (l : Nat) (st' : St), st'.reg t = (st.reg t).kill false l → one1 E cb ops st' x = some (eff st' x (v.kill false l) [], cx) := by
  have mk0 : ∀ {t : Tmp} {st st' : St} {v : SV} {l : Nat}, x.op.operands.toList = [.tmp t] → st'.reg t = (st.reg t).kill false l → mkV st'.ev x (v.kill false l) 0 = mkV st.ev x v 0 := by
    intro t st st' v l ho hr
    unfold mkV
    simp only [ho, List.all_cons, List.all_nil, Bool.and_true, sv_solid_kill, St.ev, hr]
  unfold isPick at h
  split at h
  · rename_i t ho hg
    refine ⟨t, hg, by unfold looksAt; exact List.mem_append_left _ (List.mem_filterMap.2 ⟨.tmp t, by rw [ho]; simp [Op.operands], rfl⟩), fun {st s1 cx} h1 => ?_⟩
    have key : ∀ st : St, one1 E cb ops st x = some (eff st x (st.reg t) [], 0 + 8 * mkV st.ev x (st.reg t) 0) := by
      intro st
      unfold one1 guardOk
      simp only [hg]
      unfold step stepW handsClo
      simp only [ho, stepV, ret1, Tree.map, Tree.run, clsV, Bool.false_and, Bool.false_eq_true, if_false, St.ev]
      rfl
    rw [key] at h1
    simp only [Option.some.injEq, Prod.mk.injEq] at h1
    obtain ⟨rfl, rfl⟩ := h1
    exact ⟨_, rfl, fun l st' hr => by rw [key, hr, ← mk0 (v := st.reg t) (by rw [ho]; simp [Op.operands]) hr]⟩
  · rename_i t i ho hg
    refine ⟨t, hg, by unfold looksAt; exact List.mem_append_left _ (List.mem_filterMap.2 ⟨.tmp t, by rw [ho]; simp [Op.operands], rfl⟩), fun {st s1 cx} h1 => ?_⟩
    have key : ∀ st : St, one1 E cb ops st x = match st.reg t with
        | .tup vs => match vs[i]? with
          | some (b, cs) => some (eff st x (packSV b cs) [], 0 + 8 * mkV st.ev x (packSV b cs) 0)
          | none => none
        | _ => none := by
      intro st
      unfold one1 guardOk
      simp only [hg]
      unfold step stepW handsClo
      simp only [ho, stepV, ret1, St.ev, Bool.false_and, Bool.false_eq_true, if_false]
      cases st.reg t with
      | one c => rfl
      | agg cs => rfl
      | tup vs =>
        simp only
        cases vs[i]? with
        | none => rfl
        | some p => simp only [Tree.map, Tree.run, clsV, ho]; rfl
    rw [key] at h1
    cases hr0 : st.reg t with
    | one c => rw [hr0] at h1; cases h1
    | agg cs => rw [hr0] at h1; cases h1
    | tup vs =>
      rw [hr0] at h1
      simp only at h1
      cases hv : vs[i]? with
      | none => rw [hv] at h1; cases h1
      | some p =>
        rw [hv] at h1
        simp only [Option.some.injEq, Prod.mk.injEq] at h1
        obtain ⟨rfl, rfl⟩ := h1
        refine ⟨_, rfl, fun l st' hr => ?_⟩
        have hmk := mk0 (v := packSV p.1 p.2) (by rw [ho]; simp [Op.operands]) (hr.trans (by rw [hr0]) : st'.reg t = (st.reg t).kill false l)
        have hpk : packSV p.1 (p.2.map (Leaf.kill false l)) = (packSV p.1 p.2).kill false l := by
          obtain ⟨b, cs⟩ := p
          cases b with
          | true => rfl
          | false =>
            match cs with
            | [] => rfl
            | [c] => rfl
            | _ :: _ :: _ => rfl
        rw [key, hr, ← hmk]
        simp only [SV.kill, List.getElem?_map, hv, Option.map_some]
        rw [hpk]; rfl
  · cases h

theorem wcls_copy {ρ : Operand → SV} {os : Objs} {o : Oper} (h : wcls E cb ρ os o = 4) : ∃ c, o.op = .call c ∧ c.callee = .builtin .copy := by
  unfold wcls at h
  split at h
  · rename_i c ho
    split at h
    · rename_i hc; exact ⟨c, ho, hc⟩
    · repeat' split at h
      all_goals omega
    · cases h
  · split at h <;> cases h
  · cases h
theorem wcls_box {ρ : Operand → SV} {os : Objs} {o : Oper} (h : wcls E cb ρ os o = 5) : ∃ t a x l off, o.op = .store t a x ∧ (ρ a).leaf = .ptr l off := by
  unfold wcls at h
  split at h
  · repeat' split at h
    all_goals omega
  · rename_i t a x ho
    split at h
    · rename_i l off ha; exact ⟨t, a, x, l, off, ho, ha⟩
    · cases h
  · cases h
theorem wcls_lend {ρ : Operand → SV} {os : Objs} {o : Oper} (h : wcls E cb ρ os o % 8 = 6) : ∃ c f g s x L W, o.op = .call c ∧ c.callee = .value f ∧ (ρ f).leaf = .fn g [] ∧ assoc E.rfn g = none ∧ assoc E.sig g = some s ∧
    gatherIns cb os s.ins (c.args.toList.map ρ) = some (x, L, W) ∧ wcls E cb ρ os o = 6 + 8 * maskOf W := by
  unfold wcls at h ⊢
  split at h
  · rename_i c ho
    split at h
    · omega
    · rename_i f hc
      split at h
      · rename_i g hf
        split at h
        · omega
        · rename_i hr
          split at h
          · rename_i s hs
            split at h
            · rename_i x L W hg
              refine ⟨c, f, g, s, x, L, W, ho, hc, hf, hr, hs, hg, ?_⟩
              simp only [ho, hc, hf, hr, hs, hg]
            · omega
          · omega
      · omega
    · omega
  · split at h <;> omega
  · omega

theorem copy_one {ops : List Oper} {st s1 s2 : St} {y : Oper} (h : one1 E cb ops s1 y = some (s2, 4)) (ha : AgreeOn ops y s1 st) (ho : s1.objs = st.objs) (hr : s1.ro = st.ro) (hf : s1.frm = st.frm) :
    ∃ l n os fm, s2 = { s1 with regs := setReg (s1.regs.map (SV.kill false l)) y.dst n, objs := os, frm := fm } ∧ one1 E cb ops st y = some ({ st with regs := setReg (st.regs.map (SV.kill false l)) y.dst n, objs := os, frm := fm }, 4) := by
  have hev := agree_ev ha
  unfold one1 at h ⊢
  rw [agree_guard ha]
  cases hg : guardOk ops s1 y with
  | none => rw [hg] at h; cases h
  | some bb =>
  cases bb with
  | false => rw [hg] at h; simp at h
  | true =>
  rw [hg] at h
  simp only at h ⊢
  unfold step at h ⊢
  split at h
  case h_2 =>
    exfalso
    split at h
    · cases h
    · rw [Tree.run_map] at h
      obtain ⟨p, _, h2⟩ := Tree.run_some _ h
      simp only [Option.some.injEq, Prod.mk.injEq] at h2
      have := clsV_le (E := E) (ρ := s1.ev) (o := y) (os := p.2)
      omega
  rename_i t ht
  rw [Tree.run_map] at h
  obtain ⟨s3, h1, h2⟩ := Tree.run_some t h
  simp only [Option.some.injEq, Prod.mk.injEq] at h2
  obtain ⟨rfl, h4⟩ := h2
  obtain ⟨c, hop, hc⟩ := wcls_copy h4
  have hw4 : ∀ os, wcls E cb st.ev os y = 4 := fun os => by unfold wcls; simp only [hop, hc]
  have he : ∀ z ∈ c.args.toList, s1.ev z = st.ev z := fun z hz => hev z (by rw [hop]; exact (call_ops (c := c)).1 z hz)
  unfold stepW at ht ⊢
  simp only [hop, hc, Option.some.injEq] at ht ⊢
  subst ht
  rw [Tree.run_map]
  split at h1
  · rename_i p q tt uu hargs hT
    try simp only [hargs, hT]
    rw [hargs] at he
    split at h1
    · rename_i e _ _ _ htt
      try simp only [htt]
      split at h1
      · rename_i ti hte
        try simp only [hte]
        split at h1
        · rename_i hz
          try simp only [if_pos hz]
          split at h1
          · rename_i l lo hi hd
            rw [← he p (by simp), ← he q (by simp), ← ho, hd]
            simp only
            unfold copyTo at h1 ⊢
            rw [← hr, ← ho]
            split at h1
            · cases h1
            rename_i hro
            rw [if_neg hro]
            split at h1
            case h_2 => cases h1
            rename_i e' t' xs deep L hob
            try simp only [hob]
            split at h1
            case isFalse => cases h1
            rename_i hcc
            rw [if_pos hcc]
            split at h1
            case h_1 => cases h1
            rename_i ys M hsd
            try simp only [hsd]
            split at h1
            case h_2 => cases h1
            rename_i st1 hk
            obtain ⟨k0, k1⟩ := kill_eq hk
            simp only [Tree.run, Option.some.injEq] at h1
            have hk' : st.kill false l = some { st with regs := st.regs.map (SV.kill false l), objs := s1.objs.map (AObj.kill false l), frm := s1.frm.map (Leaf.kill false l) } := by
              unfold St.kill
              rw [← ho, k0, hf]
              simp
            rw [hk']
            simp only [Tree.run, hw4]
            subst k1
            exact ⟨l, vint .i64 (copyN ys lo hi : Nat), _, _, h1.symm, by simp only [St.put, hr]⟩
          · cases h1
        · cases h1
      · cases h1
    · cases h1
  · cases h1

theorem isMove_pick {x : Oper} (h : isMove x = true) : isPick x = true := by
  unfold isMove at h
  unfold isPick
  split at h
  · rename_i ho hg; simp only [ho, hg]
  · cases h
theorem swap_copy {ops : List Oper} {st s1 s2 : St} {x y : Oper} {cx : Nat} (hx : one1 E cb ops st x = some (s1, cx)) (hy : one1 E cb ops s1 y = some (s2, 4)) (hm : isMove x = true) (h1 : dstIn (looksAt ops y) x.dst = false) (h2 : dstIn (looksAt ops x) y.dst = false) (h3 : dstIn x.dst.toList y.dst = false) :
    ∃ t1, one1 E cb ops st y = some (t1, 4) ∧ one1 E cb ops t1 x = some (s2, cx) := by
  obtain ⟨t, hg, htl, hpk⟩ := isPick_one (E := E) (cb := cb) (ops := ops) (isMove_pick hm)
  obtain ⟨v, rfl, hmv⟩ := hpk hx
  obtain ⟨l, n, os, fm, rfl, hy'⟩ := copy_one (st := st) hy (eff_agree h1) (by simp [eff]) rfl rfl
  refine ⟨_, hy', ?_⟩
  have hd : ∀ (regs : List SV) (p q : SV), setReg (setReg regs y.dst p) x.dst q = setReg (setReg regs x.dst q) y.dst p := by
    intro regs p q
    cases hxd : x.dst with
    | none => rfl
    | some d =>
      cases hyd : y.dst with
      | none => rfl
      | some e =>
        have hne : e ≠ d := fun e' => by
          rw [hxd, hyd, e'] at h3
          simp [dstIn, has] at h3
        simp [setReg, List.set_comm _ _ hne]
  have hreg : St.reg { st with regs := setReg (st.regs.map (SV.kill false l)) y.dst n, objs := os, frm := fm } t = (st.reg t).kill false l := by
    have hne : y.dst ≠ some t := dstIn_not h2 t htl
    have e1 : St.reg { st with regs := setReg (st.regs.map (SV.kill false l)) y.dst n, objs := os, frm := fm } t = St.reg { st with regs := st.regs.map (SV.kill false l), objs := os, frm := fm } t := by
      cases hyd : y.dst with
      | none => rfl
      | some e =>
        have hne : e ≠ t := fun e' => hne (by rw [hyd, e'])
        simp [setReg, St.reg, List.getD, List.getElem?_set_ne hne]
    rw [e1, reg_map]
  rw [hmv l _ hreg]
  congr 2
  have hmap : (setReg st.regs x.dst v).map (SV.kill false l) = setReg (st.regs.map (SV.kill false l)) x.dst (v.kill false l) := by
    cases x.dst with
    | none => rfl
    | some d => simp [setReg, List.map_set]
  have : ∀ (a b : St), a.regs = b.regs → a.objs = b.objs → a.ro = b.ro → a.fx = b.fx → a.frm = b.frm → a = b := by
    intro a b h1 h2 h3 h4 h5
    cases a; cases b; simp_all
  exact this _ _ (by show setReg (setReg _ y.dst n) x.dst _ = setReg ((setReg st.regs x.dst v).map _) y.dst n; rw [hd, hmap]) (by simp [eff]) rfl rfl rfl

/-! ### a part picked, and a store to a box behind it -/
theorem box_one {ops : List Oper} {st s1 s2 : St} {y : Oper} (h : one1 E cb ops s1 y = some (s2, 5)) (ha : AgreeOn ops y s1 st) (ho : s1.objs = st.objs) (hr : s1.ro = st.ro) (hf : s1.frm = st.frm) :
    y.dst = none ∧ ∃ l os fm, s2 = { s1 with regs := s1.regs.map (SV.kill false l), objs := os, frm := fm } ∧ one1 E cb ops st y = some ({ st with regs := st.regs.map (SV.kill false l), objs := os, frm := fm }, 5) := by
  have hev := agree_ev ha
  unfold one1 at h ⊢
  rw [agree_guard ha]
  cases hg : guardOk ops s1 y with
  | none => rw [hg] at h; cases h
  | some bb =>
  cases bb with
  | false => rw [hg] at h; simp at h
  | true =>
  rw [hg] at h
  simp only at h ⊢
  unfold step at h ⊢
  split at h
  case h_2 =>
    exfalso
    split at h
    · cases h
    · rw [Tree.run_map] at h
      obtain ⟨p, _, h2⟩ := Tree.run_some _ h
      simp only [Option.some.injEq, Prod.mk.injEq] at h2
      have := clsV_le (E := E) (ρ := s1.ev) (o := y) (os := p.2)
      omega
  rename_i t ht
  rw [Tree.run_map] at h
  obtain ⟨s3, h1, h2⟩ := Tree.run_some t h
  simp only [Option.some.injEq, Prod.mk.injEq] at h2
  obtain ⟨rfl, h4⟩ := h2
  obtain ⟨tt, a, x, l, off, hop, hl⟩ := wcls_box h4
  have e1 : s1.ev a = st.ev a := hev a (by rw [hop]; simp [Op.operands])
  have e2 : s1.ev x = st.ev x := hev x (by rw [hop]; simp [Op.operands])
  have hw5 : ∀ os, wcls E cb st.ev os y = 5 := fun os => by
    unfold wcls
    simp only [hop, ← e1, hl]
  unfold stepW at ht ⊢
  simp only [hop, Option.some.injEq] at ht ⊢
  subst ht
  rw [Tree.run_map]
  cases hd : y.dst with
  | some _ => simp only [hd] at h1; cases h1
  | none =>
  refine ⟨rfl, ?_⟩
  simp only [hd] at h1 ⊢
  cases htt : tyOf E tt with
  | none => rw [htt] at h1; cases h1
  | some ti =>
  rw [htt] at h1
  simp only at h1 ⊢
  rw [← e1, ← e2, hl] at *
  cases hst : storeOp s1 ti (.ptr l off) (s1.ev x) with
  | none => rw [hst] at h1; cases h1
  | some s4 =>
  rw [hst] at h1
  simp only [Tree.ofOpt, Tree.run, Option.some.injEq] at h1
  subst h1
  unfold storeOp at hst ⊢
  rw [← hr]
  split at hst
  · cases hst
  rename_i b ls hls
  try simp only [hls]
  split at hst
  case isFalse => cases hst
  rename_i hcc
  rw [if_pos hcc]
  simp only at hst ⊢
  split at hst
  · cases hst
  rename_i hro
  rw [if_neg hro]
  split at hst
  · cases hst
  rename_i st1 hk
  obtain ⟨k0, k1⟩ := kill_eq hk
  have hk' : st.kill false l = some { st with regs := st.regs.map (SV.kill false l), objs := s1.objs.map (AObj.kill false l), frm := s1.frm.map (Leaf.kill false l) } := by
    unfold St.kill
    rw [← ho, k0, hf]
    simp
  rw [hk']
  subst k1
  simp only at hst ⊢
  split at hst
  case h_2 => cases hst
  rename_i cs hob
  try simp only [hob]
  split at hst
  case h_2 => cases hst
  rename_i cs' hput
  try simp only [hput]
  split at hst
  case isFalse => cases hst
  rename_i hkn
  try simp only [if_pos hkn]
  simp only [Option.some.injEq] at hst
  subst hst
  refine ⟨l, _, _, rfl, ?_⟩
  simp only [Tree.ofOpt, Tree.run, hw5, hr]

theorem swap_box {ops : List Oper} {st s1 s2 : St} {x y : Oper} {cx : Nat} (hx : one1 E cb ops st x = some (s1, cx)) (hy : one1 E cb ops s1 y = some (s2, 5)) (hm : isPick x = true) (h1 : dstIn (looksAt ops y) x.dst = false) :
    ∃ t1, one1 E cb ops st y = some (t1, 5) ∧ one1 E cb ops t1 x = some (s2, cx) := by
  obtain ⟨t, hg, htl, hpk⟩ := isPick_one (E := E) (cb := cb) (ops := ops) hm
  obtain ⟨v, rfl, hmv⟩ := hpk hx
  obtain ⟨hd, l, os, fm, rfl, hy'⟩ := box_one (st := st) hy (eff_agree h1) (by simp [eff]) rfl rfl
  refine ⟨_, hy', ?_⟩
  rw [hmv l _ reg_map]
  congr 2
  have hmap : (setReg st.regs x.dst v).map (SV.kill false l) = setReg (st.regs.map (SV.kill false l)) x.dst (v.kill false l) := by
    cases x.dst with
    | none => rfl
    | some d => simp [setReg, List.map_set]
  have : ∀ (a b : St), a.regs = b.regs → a.objs = b.objs → a.ro = b.ro → a.fx = b.fx → a.frm = b.frm → a = b := by
    intro a b h1 h2 h3 h4 h5
    cases a; cases b; simp_all
  exact this _ _ hmap.symm (by simp [eff]) rfl rfl rfl

/-! ### an operation on solid leaves, and a call behind it that lends -/
def killsSV (W : List Nat) (v : SV) : SV := W.foldl (fun v l => v.kill false l) v
def killsObj (W : List Nat) (o : AObj) : AObj := W.foldl (fun o l => o.kill false l) o
theorem kills_solid {v : SV} (h : v.solid = true) : ∀ W, killsSV W v = v
  | [] => rfl
  | l :: W => by
    show killsSV W (v.kill false l) = v
    rw [sv_solid h, kills_solid h W]
theorem kills_box {cs : List Leaf} : ∀ (W : List Nat), ∃ ds, killsObj W (.box cs) = .box ds ∧ ∀ i n, ((cs.drop i).take n).all Leaf.solid = true → (ds.drop i).take n = (cs.drop i).take n
  | [] => ⟨cs, rfl, fun _ _ _ => rfl⟩
  | l :: W => by
    obtain ⟨ds, h1, h2⟩ := kills_box (cs := cs.map (Leaf.kill false l)) W
    refine ⟨ds, h1, fun i n hs => ?_⟩
    have e : ((cs.map (Leaf.kill false l)).drop i).take n = (cs.drop i).take n := by
      rw [← List.map_drop, ← List.map_take, leaves_solid hs]
    rw [h2 i n (by rw [e]; exact hs), e]
theorem killAll_regs : ∀ (W : List Nat) {st st' : St}, st.killAll false W = some st' →
    st'.objs = st.objs.map (killsObj W) ∧ st'.regs = st.regs.map (killsSV W) ∧ st'.ro = st.ro ∧ st'.fx = st.fx ∧ ∀ s2 : St, s2.objs = st.objs → s2.frm = st.frm → s2.killAll false W = some { s2 with regs := s2.regs.map (killsSV W), objs := st'.objs, frm := st'.frm }
  | [], st, st', h => by
    simp only [St.killAll, Option.some.injEq] at h
    subst h
    have e1 : killsSV [] = id := rfl
    have e2 : killsObj [] = id := rfl
    refine ⟨by rw [e2, List.map_id], by rw [e1, List.map_id], rfl, rfl, fun s2 h1 h2 => ?_⟩
    simp only [St.killAll, e1, List.map_id, ← h1, ← h2]
  | l :: W, st, st', h => by
    simp only [St.killAll] at h
    split at h
    · rename_i st1 hk
      obtain ⟨k0, rfl⟩ := kill_eq hk
      obtain ⟨a1, a2, a3, a4, a5⟩ := killAll_regs W h
      refine ⟨by rw [a1, List.map_map]; rfl, by rw [a2, List.map_map]; rfl, a3, a4, fun s2 h1 h2 => ?_⟩
      have hk2 : s2.kill false l = some { s2 with regs := s2.regs.map (SV.kill false l), objs := st.objs.map (AObj.kill false l), frm := st.frm.map (Leaf.kill false l) } := by
        unfold St.kill
        rw [h1, h2, k0]
        simp
      have h5 := a5 { s2 with regs := s2.regs.map (SV.kill false l), objs := st.objs.map (AObj.kill false l), frm := st.frm.map (Leaf.kill false l) } rfl rfl
      simp only [St.killAll, hk2]
      rw [h5]
      simp only [List.map_map]
      rfl
    · cases h

theorem putMut_box {k : Nat} {cs : List Leaf} : ∀ (t : Ty) {os os' : Objs} {y : t.den} {ls r : List Leaf}, putMut os t y ls = some (os', r) → obj os k = .box cs → obj os' k = .box cs
  | .pair a b, os, os', y, ls, r, h, hk => by
    simp only [putMut] at h
    split at h
    · rename_i os1 r1 h1
      exact putMut_box b h (putMut_box a h1 hk)
    · cases h
  | .unit, os, os', y, ls, r, h, hk => by
    simp only [putMut, Option.some.injEq, Prod.mk.injEq] at h
    obtain ⟨rfl, _⟩ := h; exact hk
  | .slice e t, os, os', y, ls, r, h, hk => by
    cases ls with
    | nil => cases h
    | cons c ls =>
      cases c <;> simp only [putMut] at h <;> try (cases h; done)
      · simp only [Option.some.injEq, Prod.mk.injEq] at h; obtain ⟨rfl, _⟩ := h; exact hk
      · split at h
        · rename_i l _ _ _ _ _ ho
          split at h
          · simp only [Option.some.injEq, Prod.mk.injEq] at h
            obtain ⟨rfl, _⟩ := h
            rw [obj_set_ne (fun e => by rw [e, ho] at hk; cases hk)]; exact hk
          · cases h
        · cases h
      · split at h
        · rename_i l _ _ _ _ _ _ _ ho
          split at h
          · simp only [Option.some.injEq, Prod.mk.injEq] at h
            obtain ⟨rfl, _⟩ := h
            rw [obj_set_ne (fun e => by rw [e, ho] at hk; cases hk)]; exact hk
          · cases h
        · cases h
  | .int n, os, os', y, ls, r, h, hk => by
    cases ls with
    | nil => cases h
    | cons c ls => simp only [putMut, Option.some.injEq, Prod.mk.injEq] at h; obtain ⟨rfl, _⟩ := h; exact hk
  | .bool, os, os', y, ls, r, h, hk => by
    cases ls with
    | nil => cases h
    | cons c ls => simp only [putMut, Option.some.injEq, Prod.mk.injEq] at h; obtain ⟨rfl, _⟩ := h; exact hk
  | .str, os, os', y, ls, r, h, hk => by
    cases ls with
    | nil => cases h
    | cons c ls => simp only [putMut, Option.some.injEq, Prod.mk.injEq] at h; obtain ⟨rfl, _⟩ := h; exact hk
theorem putMuts_box {k : Nat} {cs : List Leaf} {os0 : Objs} {Lc : List Nat} : ∀ (ps : List PIn) {os os' : Objs} {y : mutsDen ps} {vs : List SV} {x : insDen ps} {L W : List Nat}, gatherIns cb os0 ps vs = some (x, L, W) → k ∉ W → putMuts Lc os ps y vs = some os' → obj os k = .box cs → obj os' k = .box cs
  | [], os, os', y, vs, x, L, W, _, _, h, hk => by
    cases vs with
    | nil => simp only [putMuts, Option.some.injEq] at h; subst h; exact hk
    | cons _ _ => simp only [putMuts, Option.some.injEq] at h; subst h; exact hk
  | .imm b t :: ps, os, os', y, vs, x, L, W, hg, hW, h, hk => by
    cases vs with
    | nil => cases h
    | cons v vs =>
      simp only [gatherIns] at hg
      split at hg
      · split at hg
        · split at hg
          · split at hg
            · rename_i hr
              simp only [Option.some.injEq, Prod.mk.injEq] at hg
              obtain ⟨_, _, rfl⟩ := hg
              exact putMuts_box ps hr hW h hk
            · cases hg
          · cases hg
        · cases hg
      · cases hg
  | .clo gs r :: ps, os, os', y, vs, x, L, W, hg, hW, h, hk => by
    cases vs with
    | nil => cases h
    | cons v vs =>
      cases v with
      | one c =>
        cases c <;> simp only [gatherIns] at hg <;> try (cases hg; done)
        · split at hg
          · rename_i hr
            simp only [Option.some.injEq, Prod.mk.injEq] at hg
            obtain ⟨_, _, rfl⟩ := hg
            exact putMuts_box ps hr hW h hk
          · cases hg
        · split at hg
          · split at hg
            · rename_i hr
              simp only [Option.some.injEq, Prod.mk.injEq] at hg
              obtain ⟨_, _, rfl⟩ := hg
              exact putMuts_box ps hr hW h hk
            · cases hg
          · cases hg
      | agg _ => simp [gatherIns] at hg
      | tup _ => simp [gatherIns] at hg
  | .mut b t :: ps, os, os', y, vs, x, L, W, hg, hW, h, hk => by
    cases vs with
    | nil => cases h
    | cons v vs =>
      simp only [gatherIns] at hg
      split at hg
      · split at hg
        · split at hg
          · split at hg
            · rename_i hr
              simp only [Option.some.injEq, Prod.mk.injEq] at hg
              obtain ⟨_, _, rfl⟩ := hg
              simp only [putMuts] at h
              split at h
              · split at h
                · rename_i h1
                  exact putMuts_box ps hr (fun hm => hW (List.mem_append.2 (.inr hm))) h (putMut_box t h1 hk)
                · cases h
              · cases h
            · cases hg
          · cases hg
        · cases hg
      · cases hg
  | .ptr t :: ps, os, os', y, vs, x, L, W, hg, hW, h, hk => by
    cases vs with
    | nil => cases h
    | cons v vs =>
      cases v with
      | one c =>
        cases c <;> simp only [gatherIns] at hg <;> try (cases hg; done)
        split at hg
        · split at hg
          · split at hg
            · split at hg
              · rename_i hr
                simp only [Option.some.injEq, Prod.mk.injEq] at hg
                obtain ⟨_, _, rfl⟩ := hg
                simp only [putMuts] at h
                simp only [List.mem_cons, not_or] at hW
                exact putMuts_box ps hr hW.2 h (by rw [obj_set_ne hW.1]; exact hk)
              · cases hg
            · cases hg
          · cases hg
        · cases hg
      | agg _ => simp [gatherIns] at hg
      | tup _ => simp [gatherIns] at hg

theorem mask_bit {l : Nat} : ∀ {W : List Nat} {a : Nat}, (a.testBit (l + 1) = true ∨ l ∈ W) → (W.foldl (fun a l => a ||| 2 ^ (l + 1)) a).testBit (l + 1) = true
  | [], a, h => by rcases h with h | h; exact h; cases h
  | m :: W, a, h => by
    refine mask_bit (W := W) ?_
    rw [Nat.testBit_or, Bool.or_eq_true, Nat.testBit_two_pow]
    rcases h with h | h
    · exact .inl (.inl h)
    · rcases List.mem_cons.1 h with rfl | h
      · exact .inl (.inr (by simp))
      · exact .inr h

theorem call_one {ops : List Oper} {st s1 s2 : St} {y : Oper} {cy : Nat} (h : one1 E cb ops s1 y = some (s2, cy)) (h6 : cy % 8 = 6) (ha : AgreeOn ops y s1 st) (ho : s1.objs = st.objs) (hr : s1.ro = st.ro) (hf : s1.frm = st.frm) :
    ∃ W out os fm, cy = 6 + 8 * maskOf W ∧ s2 = { s1 with regs := setReg (s1.regs.map (killsSV W)) y.dst out, objs := os, frm := fm } ∧ one1 E cb ops st y = some ({ st with regs := setReg (st.regs.map (killsSV W)) y.dst out, objs := os, frm := fm }, cy) ∧
      ∀ k cs, k ∉ W → obj st.objs k = .box cs → obj os k = killsObj W (.box cs) := by
  have hev := agree_ev ha
  unfold one1 at h ⊢
  rw [agree_guard ha]
  cases hg : guardOk ops s1 y with
  | none => rw [hg] at h; cases h
  | some bb =>
  cases bb with
  | false => rw [hg] at h; simp only [Option.some.injEq, Prod.mk.injEq] at h; omega
  | true =>
  rw [hg] at h
  simp only at h ⊢
  unfold step at h ⊢
  split at h
  case h_2 =>
    exfalso
    split at h
    · cases h
    · rw [Tree.run_map] at h
      obtain ⟨p, _, h2⟩ := Tree.run_some _ h
      simp only [Option.some.injEq, Prod.mk.injEq] at h2
      have := clsV_le (E := E) (ρ := s1.ev) (o := y) (os := p.2)
      omega
  rename_i t ht
  rw [Tree.run_map] at h
  obtain ⟨s3, h1, h2⟩ := Tree.run_some t h
  simp only [Option.some.injEq, Prod.mk.injEq] at h2
  obtain ⟨rfl, rfl⟩ := h2
  obtain ⟨c, f, g, s, x, L, W, hop, hc, hfl, hrf, hsg, hgi, hw⟩ := wcls_lend h6
  have hops := call_ops (c := c)
  have ef : s1.ev f = st.ev f := hev f (by rw [hop]; exact hops.2 f hc)
  have eargs : c.args.toList.map s1.ev = c.args.toList.map st.ev := List.map_congr_left fun z hz => hev z (by rw [hop]; exact hops.1 z hz)
  have hw2 : wcls E cb st.ev st.objs y = wcls E cb s1.ev s1.objs y := by
    rw [hw]
    unfold wcls
    simp only [hop, hc, ← ef, hfl, hrf, hsg, ← eargs, ← ho, hgi]
  unfold stepW at ht ⊢
  simp only [hop, hc, hfl, hrf, hsg, ← ef] at ht ⊢
  split at ht
  case isFalse => cases ht
  rename_i hm
  rw [if_pos hm]
  simp only [Option.some.injEq] at ht
  subst ht
  simp only
  rw [Tree.run_map, hw2, hw]
  unfold callM at h1 ⊢
  rw [← eargs, ← ho, ← hr]
  rw [hgi] at h1 ⊢
  simp only at h1 ⊢
  split at h1
  case isFalse => cases h1
  rename_i hcond
  rw [if_pos hcond]
  simp only [Tree.run] at h1 ⊢
  cases hy : s.fn x with
  | none => rw [hy] at h1; cases h1
  | some z =>
  rw [hy] at h1
  simp only [Option.bind_some] at h1 ⊢
  split at h1
  · cases h1
  rename_i st1 hk
  obtain ⟨a1, a2, a3, a4, a5⟩ := killAll_regs W hk
  rw [a5 st ho.symm hf.symm]
  try simp only
  split at h1
  · cases h1
  rename_i os hput
  try simp only [hput]
  simp only [Tree.run, Option.some.injEq] at h1 ⊢
  subst h1
  refine ⟨W, packOuts (outLeaves L s.outs z.1 os.length).1, os ++ (outLeaves L s.outs z.1 os.length).2, st1.frm, rfl, ?_, by simp only [St.put, hr], fun k cs hkW hkb => ?_⟩
  · rw [← a2]
    have : ∀ (a b : St), a.regs = b.regs → a.objs = b.objs → a.ro = b.ro → a.fx = b.fx → a.frm = b.frm → a = b := by
      intro a b h1 h2 h3 h4 h5
      cases a; cases b; simp_all
    exact this _ _ rfl rfl a3 a4 rfl
  · have hkl : k < s1.objs.length := obj_lt (by rw [hkb]; simp)
    have e1 : obj st1.objs k = killsObj W (.box cs) := by
      rw [a1, ← hkb]
      simp only [obj, List.getD, List.getElem?_map, List.getElem?_eq_getElem hkl, Option.map_some, Option.getD_some]
    obtain ⟨ds, e2, _⟩ := kills_box (cs := cs) W
    rw [e2] at e1 ⊢
    have := putMuts_box s.ins hgi hkW hput e1
    rw [obj_app (obj_lt (by rw [this]; simp)), this]

/-- what is known of an operation of the kind -/
theorem mk_info {ops : List Oper} {st s1 : St} {x : Oper} {cx : Nat} (h : one1 E cb ops st x = some (s1, cx)) (hc : cx % 8 ≤ 1) (hk : cx / 8 ≠ 0) :
    x.guard = none ∧ (∀ z ∈ x.op.operands.toList, (st.ev z).solid = true) ∧ ∃ v, s1 = eff st x v [] ∧ v.solid = true ∧ (cx % 8 = 1 → ∃ t a l off ti, x.op = .load t a ∧ (st.ev a).leaf = .ptr l off ∧ tyOf E t = some ti ∧ loadOp st.objs ti (.ptr l off) = some v ∧ cx = 1 + 8 * 2 ^ (l + 1)) := by
  unfold one1 at h
  split at h
  · rename_i hg
    unfold step at h
    split at h
    · rename_i t ht
      rw [Tree.run_map] at h
      obtain ⟨s, _, h2⟩ := Tree.run_some t h
      simp only [Option.some.injEq, Prod.mk.injEq] at h2
      have := wcls_ge E cb st.ev st.objs x
      omega
    · split at h
      · cases h
      rw [Tree.run_map] at h
      obtain ⟨⟨v, new⟩, h1, h2⟩ := Tree.run_some _ h
      simp only [Option.some.injEq, Prod.mk.injEq] at h2
      obtain ⟨rfl, rfl⟩ := h2
      have hle2 := clsV_le (E := E) (ρ := st.ev) (o := x) (os := new)
      have hmod : (clsV E st.ev x new + 8 * mkV st.ev x v (clsV E st.ev x new)) % 8 = clsV E st.ev x new := by omega
      have hdiv : (clsV E st.ev x new + 8 * mkV st.ev x v (clsV E st.ev x new)) / 8 = mkV st.ev x v (clsV E st.ev x new) := by omega
      rw [hmod] at hc ⊢
      rw [hdiv] at hk
      have hnew := (stepV_ext h1 hc).1
      subst hnew
      unfold mkV at hk ⊢
      split at hk
      case isFalse => exact absurd rfl hk
      rename_i hcond
      rw [if_pos hcond]
      simp only [Bool.and_eq_true, List.all_eq_true, Option.isNone_iff_eq_none] at hcond
      obtain ⟨⟨q1, q2⟩, q3⟩ := hcond
      refine ⟨q1, q2, v, rfl, q3, fun h1c => ?_⟩
      rw [h1c] at hk ⊢
      simp only at hk ⊢
      split at hk
      · rename_i t a hop
        split at hk
        · rename_i l off hl
          simp only [stepV, hop, hl] at h1
          split at h1
          · rename_i ti hti
            split at h1
            · rename_i v' hv
              simp only [ret1, Tree.run, Option.some.injEq, Prod.mk.injEq] at h1
              obtain ⟨rfl, _⟩ := h1
              exact ⟨t, a, l, off, ti, hop, hl, hti, hv, by simp only [hop, hl]⟩
            · cases h1
          · cases h1
        · exact absurd rfl hk
      · exact absurd rfl hk
  · simp only [Option.some.injEq, Prod.mk.injEq] at h
    omega
  · cases h

theorem swap_call {ops : List Oper} {st s1 s2 : St} {x y : Oper} {cx cy : Nat} (hx : one1 E cb ops st x = some (s1, cx)) (hy : one1 E cb ops s1 y = some (s2, cy)) (h6 : cy % 8 = 6) (hc : cx % 8 ≤ 1) (hk : cx / 8 ≠ 0) (hdis : cx % 8 = 1 → (cx / 8) &&& (cy / 8) = 0)
    (h1 : dstIn (looksAt ops y) x.dst = false) (h2 : dstIn (looksAt ops x) y.dst = false) (h3 : dstIn x.dst.toList y.dst = false) :
    ∃ t1, one1 E cb ops st y = some (t1, cy) ∧ one1 E cb ops t1 x = some (s2, cx) := by
  obtain ⟨hgd, hsol, v, rfl, hv, hld⟩ := mk_info hx hc hk
  obtain ⟨W, out, os, fm, hcy, rfl, hy', hbox⟩ := call_one (st := st) hy h6 (eff_agree h1) (by simp [eff]) rfl rfl
  refine ⟨_, hy', ?_⟩
  have hd : ∀ (regs : List SV) (p q : SV), setReg (setReg regs y.dst p) x.dst q = setReg (setReg regs x.dst q) y.dst p := by
    intro regs p q
    cases hxd : x.dst with
    | none => rfl
    | some d =>
      cases hyd : y.dst with
      | none => rfl
      | some e =>
        have hne : e ≠ d := fun e' => by
          rw [hxd, hyd, e'] at h3
          simp [dstIn, has] at h3
        simp [setReg, List.set_comm _ _ hne]
  have hmap : (setReg st.regs x.dst v).map (killsSV W) = setReg (st.regs.map (killsSV W)) x.dst v := by
    cases x.dst with
    | none => rfl
    | some d => simp [setReg, List.map_set, kills_solid hv]
  have hag : AgreeOn ops x st { st with regs := setReg (st.regs.map (killsSV W)) y.dst out, objs := os, frm := fm } := by
    intro t ht
    have hne : y.dst ≠ some t := dstIn_not h2 t ht
    have hst : (st.reg t).solid = true := by
      unfold looksAt at ht
      rw [hgd] at ht
      simp only [List.append_nil] at ht
      obtain ⟨z, hz, hzt⟩ := List.mem_filterMap.1 ht
      cases z <;> simp only [Option.some.injEq] at hzt <;> try (cases hzt; done)
      subst hzt
      exact hsol _ hz
    have e1 : St.reg { st with regs := setReg (st.regs.map (killsSV W)) y.dst out, objs := os, frm := fm } t = St.reg { st with regs := st.regs.map (killsSV W), objs := os, frm := fm } t := by
      cases hyd : y.dst with
      | none => rfl
      | some e =>
        have hne : e ≠ t := fun e' => hne (by rw [hyd, e'])
        simp [setReg, St.reg, List.getD, List.getElem?_set_ne hne]
    rw [e1]
    simp only [St.reg, List.getD, List.getElem?_map] at hst ⊢
    cases hr : st.regs[t]? with
    | none => rfl
    | some u =>
      rw [hr] at hst
      simp only [Option.getD_some] at hst
      simp only [Option.map_some, Option.getD_some, kills_solid hst]
  have eqst : ∀ (a b : St), a.regs = b.regs → a.objs = b.objs → a.ro = b.ro → a.fx = b.fx → a.frm = b.frm → a = b := by
    intro a b h1 h2 h3 h4 h5
    cases a; cases b; simp_all
  have hfin : eff { st with regs := setReg (st.regs.map (killsSV W)) y.dst out, objs := os, frm := fm } x v [] = { eff st x v [] with regs := setReg ((eff st x v []).regs.map (killsSV W)) y.dst out, objs := os, frm := fm } :=
    eqst _ _ (by show setReg (setReg _ y.dst out) x.dst v = setReg ((setReg st.regs x.dst v).map _) y.dst out; rw [hd, hmap]) (by simp [eff]) rfl rfl rfl
  rw [← hfin]
  by_cases hc0 : cx % 8 = 0
  · obtain ⟨v', new, he, hrun, hnew⟩ := one_move hx (by omega) hag rfl rfl (.inr (.inr hc0))
    have hn := hnew (by omega)
    subst hn
    rw [hrun]
    have hvv : setReg st.regs x.dst v = setReg st.regs x.dst v' := congrArg St.regs he
    congr 2
    refine eqst _ _ ?_ rfl rfl rfl rfl
    show setReg (setReg (st.regs.map _) y.dst out) x.dst v' = setReg (setReg (st.regs.map _) y.dst out) x.dst v
    cases hxd : x.dst with
    | none => rfl
    | some d =>
      rw [hxd] at hvv
      simp only [setReg] at hvv ⊢
      by_cases hlt : d < st.regs.length
      · have := congrArg (fun l => l[d]?) hvv
        simp only [List.getElem?_set_self hlt, Option.some.injEq] at this
        rw [this]
      · have hlen : (setReg (st.regs.map (killsSV W)) y.dst out).length = st.regs.length := by cases y.dst <;> simp [setReg]
        simp only [setReg] at hlen
        rw [List.set_eq_of_length_le (hlen ▸ Nat.le_of_not_lt hlt), List.set_eq_of_length_le (hlen ▸ Nat.le_of_not_lt hlt)]
  · have hc1 : cx % 8 = 1 := by omega
    obtain ⟨t, a, l, off, ti, hop, hl, hti, hlo, hcx⟩ := hld hc1
    have hlW : l ∉ W := by
      intro hm
      have h0 := hdis hc1
      rw [hcx, hcy] at h0
      have e1 : (1 + 8 * 2 ^ (l + 1)) / 8 = 2 ^ (l + 1) := by omega
      have e2 : (6 + 8 * maskOf W) / 8 = maskOf W := by omega
      rw [e1, e2] at h0
      have := congrArg (fun n => n.testBit (l + 1)) h0
      simp only [Nat.testBit_and, Nat.testBit_two_pow, mask_bit (W := W) (a := 0) (.inr hm), Nat.zero_testBit, maskOf] at this
      simp at this
    have hev := agree_ev hag
    have hea : st.ev a = St.ev { st with regs := setReg (st.regs.map (killsSV W)) y.dst out, objs := os, frm := fm } a := hev a (by rw [hop]; simp [Op.operands])
    have hlo' : loadOp os ti (.ptr l off) = some v := by
      simp only [loadOp] at hlo ⊢
      split at hlo
      case h_2 => cases hlo
      rename_i cs hob
      rw [hbox l cs hlW hob]
      obtain ⟨ds, e1, e2⟩ := kills_box (cs := cs) W
      rw [e1]
      simp only
      have hs : ((cs.drop off).take ti.ty.size).all Leaf.solid = true := by
        split at hlo
        case isFalse => cases hlo
        split at hlo
        · simp only [Option.some.injEq] at hlo; subst hlo; exact hv
        · split at hlo
          · rename_i c hcc
            simp only [Option.some.injEq] at hlo
            subst hlo
            rw [hcc]
            simp only [List.all_cons, List.all_nil, Bool.and_true]
            exact hv
          · cases hlo
      rw [e2 off _ hs]
      exact hlo
    have hrunL : ∀ (s : St) (u : SV), (s.ev a).leaf = .ptr l off → loadOp s.objs ti (.ptr l off) = some u → one1 E cb ops s x = some (eff s x u [], 1 + 8 * mkV s.ev x u 1) := by
      intro s u h1 h2
      unfold one1 guardOk
      simp only [hgd]
      unfold step stepW handsClo
      simp only [hop, stepV, hti, h1, h2, ret1, Tree.map, Tree.run, clsV, Bool.false_and, Bool.false_eq_true, if_false, Leaf.free]
      rfl
    have hx2 := hrunL st v hl hlo
    rw [hx] at hx2
    simp only [Option.some.injEq, Prod.mk.injEq, true_and] at hx2
    rw [hrunL _ v (by rw [← hea]; exact hl) hlo', hx2, mkV_congr hev]

theorem swap_ok {ops : List Oper} {st s1 s2 : St} {x y : Oper} {cx cy : Nat} (hx : one1 E cb ops st x = some (s1, cx)) (hy : one1 E cb ops s1 y = some (s2, cy)) (hm : mayPass ops x y cx cy = true) :
    ∃ t1, one1 E cb ops st y = some (t1, cy) ∧ one1 E cb ops t1 x = some (s2, cx) := by
  unfold mayPass at hm
  simp only [Bool.and_eq_true, Bool.not_eq_true'] at hm
  obtain ⟨⟨⟨h1, h2⟩, h3⟩, h4⟩ := hm
  by_cases hc4 : cy % 8 = 4
  · have h0 : isMove x = true ∧ cy = 4 := by
      rw [hc4] at h4
      split at h4 <;> simp_all
    obtain ⟨h0, rfl⟩ := h0
    exact swap_copy hx hy h0 h1 h2 h3
  by_cases hc5 : cy % 8 = 5
  · have h0 : isPick x = true ∧ cy = 5 := by
      rw [hc5] at h4
      split at h4 <;> simp_all
    obtain ⟨h0, rfl⟩ := h0
    exact swap_box hx hy h0 h1
  by_cases hc6 : cy % 8 = 6
  · have h0 : cx % 8 ≤ 1 ∧ cx / 8 ≠ 0 ∧ (cx % 8 = 1 → (cx / 8) &&& (cy / 8) = 0) := by
      rw [hc6] at h4
      split at h4
      all_goals first | omega | skip
      all_goals simp_all
    exact swap_call hx hy hc6 h0.1 h0.2.1 h0.2.2 h1 h2 h3
  have hcase : cx % 8 ≤ 2 ∧ cy % 8 ≤ 2 ∧ (cx % 8 ≤ 1 ∨ cy % 8 = 0) ∧ (cy % 8 = 2 → cx % 8 ≤ 1) := by
    split at h4
    all_goals first | omega | simp_all
  obtain ⟨hcx, hcy, hA, hB⟩ := hcase
  obtain ⟨v, nx, hs1, _, hnx⟩ := one_move hx hcx (st' := st) (fun _ _ => rfl) rfl rfl (.inl rfl)
  subst hs1
  obtain ⟨u, ny, hs2, hyt, hny⟩ := one_move hy hcy (st' := st) (eff_agree h1) rfl rfl (by
    rcases hA with h | h
    · left; rw [hnx h]; simp [eff]
    · exact .inr (.inr h))
  subst hs2
  obtain ⟨v', nx', he, hxt, hnx'⟩ := one_move hx hcx (st' := eff st y u ny) (eff_agree h2).symm rfl rfl (by
    by_cases hc : cy % 8 ≤ 1
    · left; rw [hny hc]; simp [eff]
    · exact .inr (.inl ⟨hB (by omega), ny, rfl⟩))
  refine ⟨_, hyt, ?_⟩
  rw [hxt]
  congr 1
  congr 1
  -- the two effects change places
  have hd : ∀ (regs : List SV) (p q : SV), setReg (setReg regs y.dst p) x.dst q = setReg (setReg regs x.dst q) y.dst p := by
    intro regs p q
    cases hxd : x.dst with
    | none => rfl
    | some d =>
      cases hyd : y.dst with
      | none => rfl
      | some e =>
        have hne : e ≠ d := fun e' => by
          rw [hxd, hyd, e'] at h3
          simp [dstIn, has] at h3
        simp [setReg, List.set_comm _ _ hne]
  have hregs : setReg st.regs x.dst v = setReg st.regs x.dst v' := by have := congrArg St.regs he; exact this
  have hobjs : nx = nx' := by have := congrArg St.objs he; simpa [eff] using this
  subst hobjs
  have e1 : (eff (eff st y u ny) x v' nx).regs = (eff (eff st x v nx) y u ny).regs := by
    show setReg (setReg st.regs y.dst u) x.dst v' = setReg (setReg st.regs x.dst v) y.dst u
    rw [hd, ← hregs]
  have e2 : (eff (eff st y u ny) x v' nx).objs = (eff (eff st x v nx) y u ny).objs := by
    show st.objs ++ ny ++ nx = st.objs ++ nx ++ ny
    by_cases hc : cx % 8 ≤ 1
    · rw [hnx hc]; simp
    · rw [hny (by rcases hA with h | h; exact absurd h hc; omega)]; simp
  have e3 : ∀ (a b : St), a.regs = b.regs → a.objs = b.objs → a.ro = b.ro → a.fx = b.fx → a.frm = b.frm → a = b := by
    intro a b h1 h2 h3 h4 h5
    cases a; cases b; simp_all
  exact e3 _ _ e1 e2 rfl rfl rfl

/-! ### sequences -/
def Seq (E : Env) (cb : CB) (ops : List Oper) (cl : Nat → Nat) : List Nat → St → St → Prop
  | [], s, s' => s = s'
  | i :: r, s, s' => ∃ o s1, ops[i]? = some o ∧ one1 E cb ops s o = some (s1, cl i) ∧ Seq E cb ops cl r s1 s'

theorem Seq.pull {ops : List Oper} {cl : Nat → Nat} : ∀ (A : List Nat) {j : Nat} {B : List Nat} {s s' : St}, Seq E cb ops cl (A ++ j :: B) s s' → (∀ i ∈ A, ∀ oi oj, ops[i]? = some oi → ops[j]? = some oj → mayPass ops oi oj (cl i) (cl j) = true) → Seq E cb ops cl (j :: (A ++ B)) s s'
  | [], j, B, s, s', h, _ => h
  | i :: A, j, B, s, s', h, hm => by
    obtain ⟨oi, s1, ho, h1, h2⟩ := h
    obtain ⟨oj, t1, hj, h3, h4⟩ := Seq.pull A h2 fun k hk => hm k (by simp [hk])
    obtain ⟨t2, h5, h6⟩ := swap_ok h1 h3 (hm i (by simp) oi oj ho hj)
    exact ⟨oj, t2, hj, h5, oi, t1, ho, h6, h4⟩

/-- what stands ahead -/
def aheadOf (acc : List Nat) (o : Oper) : Nat := o.after.toList.foldl (fun s e => if Region.binds .any e then s ||| 2 ^ e.on ||| acc.getD e.on 0 else s) 0
theorem aheadOf_bit {acc : List Nat} {o : Oper} {i : Nat} (h : (aheadOf acc o).testBit i = true) : ∃ e ∈ o.after.toList, Region.binds .any e = true ∧ (i = e.on ∨ (acc.getD e.on 0).testBit i = true) := by
  have key : ∀ (l : List Edge) (s : Nat), (l.foldl (fun s e => if Region.binds .any e then s ||| 2 ^ e.on ||| acc.getD e.on 0 else s) s).testBit i = true → s.testBit i = true ∨ ∃ e ∈ l, Region.binds .any e = true ∧ (i = e.on ∨ (acc.getD e.on 0).testBit i = true) := by
    intro l
    induction l with
    | nil => intro s h; exact .inl h
    | cons e l ih =>
      intro s h
      rw [List.foldl_cons] at h
      rcases ih _ h with h1 | ⟨e', he', h1⟩
      · split at h1
        · rename_i hb
          rw [Nat.testBit_or, Nat.testBit_or, Bool.or_eq_true, Bool.or_eq_true] at h1
          rcases h1 with (h1 | h1) | h1
          · exact .inl h1
          · refine .inr ⟨e, by simp, hb, .inl ?_⟩
            rw [Nat.testBit_two_pow] at h1
            have h1 : e.on = i := by simpa using h1
            exact h1.symm
          · exact .inr ⟨e, by simp, hb, .inr h1⟩
        · exact .inl h1
      · exact .inr ⟨e', by simp [he'], h1⟩
  rcases key _ _ h with h1 | h1
  · simp at h1
  · exact h1

def beforeGo : List Nat → List Oper → List Nat
  | acc, [] => acc
  | acc, o :: r => beforeGo (acc ++ [aheadOf acc o]) r
theorem before_eq (ops : List Oper) : beforeBits ops = beforeGo [] ops := by
  have : ∀ (l : List Oper) (acc : List Nat), l.foldl (fun acc o => acc ++ [o.after.toList.foldl (fun s e => if Region.binds .any e then s ||| 2 ^ e.on ||| acc.getD e.on 0 else s) 0]) acc = beforeGo acc l := by
    intro l
    induction l with
    | nil => intro acc; rfl
    | cons o l ih => intro acc; rw [List.foldl_cons]; exact ih _
  exact this ops []
theorem beforeGo_get : ∀ (l : List Oper) (acc : List Nat) (j : Nat), (j < acc.length → (beforeGo acc l)[j]? = acc[j]?) ∧
    ∀ k o, l[k]? = some o → (beforeGo acc l)[acc.length + k]? = some (aheadOf ((beforeGo acc l).take (acc.length + k)) o)
  | [], acc, j => ⟨fun _ => rfl, fun k o h => by simp at h⟩
  | o :: l, acc, j => by
    refine ⟨fun hj => ?_, fun k o' hk => ?_⟩
    · simp only [beforeGo]
      rw [(beforeGo_get l (acc ++ [aheadOf acc o]) j).1 (by simp; omega), List.getElem?_append_left hj]
    · simp only [beforeGo]
      cases k with
      | zero =>
        simp only [List.getElem?_cons_zero, Option.some.injEq] at hk
        subst hk
        rw [Nat.add_zero, (beforeGo_get l (acc ++ [aheadOf acc o]) acc.length).1 (by simp)]
        have : (beforeGo (acc ++ [aheadOf acc o]) l).take acc.length = acc := by
          apply List.ext_getElem?
          intro m
          rw [List.getElem?_take]
          split
          · rename_i hm
            rw [(beforeGo_get l (acc ++ [aheadOf acc o]) m).1 (by simp; omega), List.getElem?_append_left hm]
          · rename_i hm
            rw [List.getElem?_eq_none (by omega)]
        rw [this]
        simp
      | succ k =>
        have := (beforeGo_get l (acc ++ [aheadOf acc o]) 0).2 k o' (by simpa using hk)
        simp only [List.length_append, List.length_cons, List.length_nil] at this
        rw [show acc.length + (k + 1) = acc.length + (0 + 1) + k by omega]
        exact this
theorem before_bit {ops : List Oper} {i j : Nat} (h : ((beforeBits ops).getD j 0).testBit i = true) : ∃ o, ops[j]? = some o ∧ ∃ e ∈ o.after.toList, Region.binds .any e = true ∧ (i = e.on ∨ ((beforeBits ops).getD e.on 0).testBit i = true) := by
  have hlen : ∀ (l : List Oper) (acc : List Nat), (beforeGo acc l).length = acc.length + l.length := by
    intro l
    induction l with
    | nil => intro acc; rfl
    | cons o l ih => intro acc; simp only [beforeGo]; rw [ih]; simp; omega
  rw [before_eq] at h ⊢
  cases ho : ops[j]? with
  | none =>
    have : (beforeGo [] ops)[j]? = none := by
      rw [List.getElem?_eq_none]
      rw [hlen]
      simpa using ho
    simp [List.getD, this] at h
  | some o =>
    refine ⟨o, rfl, ?_⟩
    have hg := (beforeGo_get ops [] 0).2 j o ho
    simp only [List.length_nil, Nat.zero_add] at hg
    simp only [List.getD, hg, Option.getD_some] at h
    obtain ⟨e, he, hb, h1⟩ := aheadOf_bit h
    refine ⟨e, he, hb, ?_⟩
    rcases h1 with h1 | h1
    · exact .inl h1
    · right
      simp only [List.getD] at h1 ⊢
      rw [List.getElem?_take] at h1
      split at h1
      · exact h1
      · simp at h1
end

/-! ### the region -/
section
variable {C : Ctx} {E : Env} {cb : CB}

theorem runOps_seq {ρ : Type} {ops : List Oper} {y : ρ} {K : List Nat → St → Option ρ} : ∀ (rest : List Oper) (i : Nat) (cls : List Nat) (st : St), ops.drop i = rest → cls.length = i → runOps E cb ops i rest cls st K = some y →
    ∃ cls' st', K cls' st' = some y ∧ (∃ tl, cls' = cls ++ tl ∧ tl.length = rest.length) ∧ Seq E cb ops (fun k => cls'.getD k 3) (List.range' i rest.length) st st'
  | [], i, cls, st, hd, hl, h => ⟨cls, st, h, ⟨[], by simp, rfl⟩, rfl⟩
  | o :: rest, i, cls, st, hd, hl, h => by
    have hoi : ops[i]? = some o := by
      have : (ops.drop i)[0]? = some o := by rw [hd]; rfl
      rw [List.getElem?_drop] at this
      simpa using this
    have hd' : ops.drop (i + 1) = rest := by rw [← List.tail_drop, hd]; rfl
    simp only [runOps] at h
    split at h
    · rename_i hg
      obtain ⟨⟨st1, c⟩, h1, h2⟩ := Tree.run_some _ h
      rw [split_eq] at h2
      obtain ⟨cls', st', hk, ⟨tl, rfl, htl⟩, hseq⟩ := runOps_seq rest (i + 1) (cls ++ [c]) st1 hd' (by simp [hl]) h2
      refine ⟨_, st', hk, ⟨c :: tl, by simp, by simp [htl]⟩, ?_⟩
      simp only [List.length_cons, List.range'_succ]
      refine ⟨o, st1, hoi, ?_, hseq⟩
      unfold one1
      rw [hg]
      simp only [h1]
      congr 2
      simp [List.getD, ← hl]
    · rename_i hg
      obtain ⟨cls', st', hk, ⟨tl, rfl, htl⟩, hseq⟩ := runOps_seq rest (i + 1) (cls ++ [0]) _ hd' (by simp [hl]) h
      refine ⟨_, st', hk, ⟨0 :: tl, by simp, by simp [htl]⟩, ?_⟩
      simp only [List.length_cons, List.range'_succ]
      refine ⟨o, _, hoi, ?_, hseq⟩
      unfold one1
      rw [hg]
      simp only
      congr 2
      simp [List.getD, ← hl]
    · cases h

theorem one1_ok (hE : EnvOk C.P E) (hcb : CBOk C.P cb) {r f : Nat} {ops : Array Oper} {st st1 : St} {gh : Gh} {a : Act} {w : World} {i c : Nat} {o : Oper} (hi : ops[i]? = some o) (hI : Inv r f st) (h : Rel C st gh a w) (h1 : one1 E cb ops.toList st o = some (st1, c))
    {K : Act → World → Prop} {Q : Exit → Act → World → Prop} (hK : ∀ gh' a' w', Inv r f st1 → Rel C st1 gh' a' w' → K a' w') : wpOp C.P ops Q i K a w := by
  unfold wpOp
  rw [hi]
  simp only
  unfold one1 at h1
  split at h1
  · rename_i hg
    rw [if_pos (guard_ok h hg)]
    exact .inl (step_ok hE hcb h (by rw [hI.fx]; exact hI.fl) (by rw [hI.ro]; exact hI.rl) h1 fun gh' a' w' hr => hK gh' a' w' (hI.step h1) hr)
  · rename_i hg
    rw [if_neg (by rw [guard_ok h hg]; simp)]
    simp only [Option.some.injEq, Prod.mk.injEq] at h1
    obtain ⟨rfl, _⟩ := h1
    exact hK gh _ w ⟨hI.ro, hI.fx, hI.rl, hI.fl⟩ (skip_ok h o.dst)
  · cases h1

theorem any_ok (hE : EnvOk C.P E) (hcb : CBOk C.P cb) {r f : Nat} {ops : Array Oper} {cl : Nat → Nat} {stf : St} {Q : Exit → Act → World → Prop}
    (hback : ∀ j o, ops[j]? = some o → ∀ e ∈ o.after.toList, Region.binds .any e = true → e.on < j)
    (hpass : ∀ i j oi oj, i < j → ops[i]? = some oi → ops[j]? = some oj → ((beforeBits ops.toList).getD j 0).testBit i = true ∨ mayPass ops.toList oi oj (cl i) (cl j) = true)
    (hQ : ∀ gh a w, Inv r f stf → Rel C stf gh a w → Q .normal a w) : ∀ (n : Nat) (R : List Nat) (listed : Array Bool) (st : St) (gh : Gh) (a : Act) (w : World), R.length = n → R.Pairwise (· < ·) → (∀ i, i ∈ R ↔ i < ops.size ∧ listed.getD i true = false) → listed.size = ops.size →
      (∀ k, listed.getD k false = true → ∀ i, ((beforeBits ops.toList).getD k 0).testBit i = true → listed.getD i false = true) → Inv r f st → Rel C st gh a w → Seq E cb ops.toList cl R st stf → wpAny C.P .any ops Q n listed a w := by
  intro n
  induction n with
  | zero =>
    intro R listed st gh a w hn hp hR hls hcl hI h hs
    have : R = [] := List.eq_nil_of_length_eq_zero hn
    subst this
    obtain rfl : st = stf := hs
    refine ⟨?_, hQ gh a w hI h⟩
    cases hr : Region.ready .any ops listed with
    | nil => rfl
    | cons j _ =>
      have hj : j ∈ Region.ready .any ops listed := by rw [hr]; simp
      obtain ⟨h0, o, ho, _⟩ := mem_ready.1 hj
      have := (hR j).2 ⟨(Array.getElem?_eq_some_iff.1 ho).1, h0⟩
      cases this
  | succ n ih =>
    intro R listed st gh a w hn hp hR hls hcl hI h hs
    have hfalse : ∀ k, k < ops.size → (listed.getD k true = false ↔ ¬ listed.getD k false = true) := by
      intro k hk
      have : k < listed.size := by omega
      simp [this]
    -- the first that is left is ready
    have hfirst : ∀ j R', R = j :: R' → j ∈ Region.ready .any ops listed := by
      intro j R' e
      obtain ⟨hj1, hj2⟩ := (hR j).1 (by rw [e]; simp)
      refine mem_ready.2 ⟨hj2, ops[j], by simp [hj1], fun e' he hb => ?_⟩
      have hlt := hback j ops[j] (by simp [hj1]) e' (by simpa using he) hb
      cases hl : listed.getD e'.on false with
      | true => rfl
      | false =>
        have hmem : e'.on ∈ R := (hR e'.on).2 ⟨by omega, (hfalse _ (by omega)).2 (by simp [hl])⟩
        rw [e] at hmem hp
        rcases List.mem_cons.1 hmem with h1 | h1
        · omega
        · have := (List.pairwise_cons.1 hp).1 _ h1; omega
    refine ⟨fun hnil => ?_, fun j hj => ?_⟩
    · cases R with
      | nil => simp at hn
      | cons j R' => have := hfirst j R' rfl; rw [hnil] at this; cases this
    · obtain ⟨h0, oj, hoj, hall⟩ := mem_ready.1 hj
      have hjs : j < ops.size := (Array.getElem?_eq_some_iff.1 hoj).1
      have hjR : j ∈ R := (hR j).2 ⟨hjs, h0⟩
      obtain ⟨A, B, rfl⟩ := List.append_of_mem hjR
      have hbits : ∀ i, ((beforeBits ops.toList).getD j 0).testBit i = true → listed.getD i false = true := by
        intro i hi
        obtain ⟨o, ho, e, he, hb, h1⟩ := before_bit hi
        have ho' : oj = o := by
          have : ops[j]? = some o := by simpa using ho
          rw [hoj] at this; simpa using this
        subst ho'
        have hel := hall e (by simpa using he) hb
        rcases h1 with rfl | h1
        · exact hel
        · exact hcl _ hel i h1
      have hpA := List.pairwise_append.1 hp
      have hpull := Seq.pull A hs (fun i hi oi oj' hoi hoj' => by
        have hij : i < j := hpA.2.2 i hi j (by simp)
        rcases hpass i j oi oj' hij (by simpa using hoi) (by simpa using hoj') with h1 | h1
        · exfalso
          have h2 := hbits i h1
          have h3 := ((hR i).1 (by simp [hi])).2
          rw [hfalse i ((hR i).1 (by simp [hi])).1] at h3
          exact h3 h2
        · exact h1)
      obtain ⟨o, s1, ho, h1, h2⟩ := hpull
      have ho' : ops[j]? = some o := by simpa using ho
      refine one1_ok hE hcb ho' hI h h1 fun gh' a' w' hI' h' => ?_
      have hnodup : ¬ j ∈ A ++ B := by
        intro hm
        rcases List.mem_append.1 hm with hm | hm
        · have := hpA.2.2 j hm j (by simp); omega
        · have := (List.pairwise_cons.1 hpA.2.1).1 j hm; omega
      refine ih (A ++ B) (listed.setIfInBounds j true) s1 gh' a' w' (by simp at hn ⊢; omega) ?_ (fun i => ?_) (by simp [hls]) (fun k hk i hi => ?_) hI' h' h2
      · exact List.pairwise_append.2 ⟨hpA.1, (List.pairwise_cons.1 hpA.2.1).2, fun x hx y hy => hpA.2.2 x hx y (by simp [hy])⟩
      · by_cases hij : i = j
        · subst hij
          constructor
          · intro hm; exact absurd hm hnodup
          · rintro ⟨_, h3⟩
            simp [show i < listed.size by omega] at h3
        · rw [getD_set_ne true (fun e => hij e.symm), ← hR i]
          simp only [List.mem_append, List.mem_cons]
          constructor
          · rintro (h3 | h3)
            · exact .inl h3
            · exact .inr (.inr h3)
          · rintro (h3 | h3 | h3)
            · exact .inl h3
            · exact absurd h3 hij
            · exact .inr h3
      · by_cases hkj : k = j
        · subst hkj; exact getD_set_true (hbits i hi)
        · rw [getD_set_ne false (fun e => hkj e.symm)] at hk
          exact getD_set_true (hcl k hk i hi)

theorem Rel.drawn {st : St} {gh : Gh} {a : Act} {w : World} (h : Rel C st gh a w) : Rel C st gh a { w with drawn := w.drawn + 1 } := by
  have hT : Tr C w gh st.objs { w with drawn := w.drawn + 1 } gh st.objs (fun _ => False) (fun _ => False) :=
    ⟨Nat.le_refl _, fun b _ => .inl rfl, fun l b _ hb => ⟨l, hb, .inl rfl⟩, fun l _ _ => ⟨rfl, rfl, rfl, rfl⟩, fun l hl => hl.elim⟩
  refine ⟨⟨h.fr.os, h.fr.tape, h.fr.output, h.fr.size, h.fr.block, Nat.le_trans h.fr.drawn (Nat.le_succ _)⟩, h.u0, h.lt, h.own, h.dj, h.nd, h.sep, fun l => ?_, h.fix, h.fm, h.len, fun i => ?_, h.df, h.frm.mono fun c y hc hk => leaf_tr hT h.dj h.objs stays_none hk⟩
  · by_cases hd : obj st.objs l = .dead
    · have := h.objs l
      rw [hd] at this ⊢
      exact this
    · refine obj_tr hT h.dj h.objs h.lt (fun h => h) hd ?_
      cases ho : obj st.objs l with
      | dead => exact absurd ho hd
      | box cs => exact fun c hc => stays_none
      | row e t xs d L => exact fun _ hl => hl.elim
  · exact sv_tr hT h.dj h.objs (stays_of_all fun c hc => stays_none) (h.regs i)

theorem draw_ok {ρ : Type} (hE : EnvOk C.P E) (hcb : CBOk C.P cb) {r f id : Nat} {ops : Array Oper} {y : ρ} {st : St} {gh : Gh} {a : Act} {w : World} {K : St → Option ρ} {Q : Exit → Act → World → Prop} (hI : Inv r f st) (h : Rel C st gh a w)
    (hs : runOps E cb ops.toList 0 ops.toList [] st (fun cls st' => if drawOk ops.toList cls then K st' else none) = some y) (hK : ∀ st' gh' a' w', Inv r f st' → Rel C st' gh' a' w' → K st' = some y → Q .normal a' w') : (Code.region id ops true).wp C.P Q a w := by
  obtain ⟨cls, stf, hk, ⟨tl, htl, htl2⟩, hseq⟩ := runOps_seq ops.toList 0 [] st (by simp) rfl hs
  split at hk
  case isFalse => cases hk
  rename_i hd
  unfold drawOk at hd
  simp only [Bool.and_eq_true, List.all_eq_true, List.mem_range, Array.length_toList, Bool.or_eq_true, Bool.not_eq_true'] at hd
  obtain ⟨hback, hpass⟩ := hd
  refine wp_region_any hE.mixed (any_ok hE hcb (cl := fun k => cls.getD k 3) (stf := stf) (fun j o ho e he hb => ?_) (fun i j oi oj hij hoi hoj => ?_) (fun gh a w hI h => hK stf gh a w hI h hk) ops.size (List.range ops.size) _ st gh a _ (by simp) ?_ (fun i => ?_) (by simp) (fun k hk i hi => ?_) hI h.drawn ?_)
  · have hj : j < ops.size := (Array.getElem?_eq_some_iff.1 ho).1
    have := hback j hj
    rw [show ops.toList[j]? = some o by simpa using ho] at this
    simp only [List.all_eq_true, Bool.or_eq_true, Bool.not_eq_true'] at this
    rcases this e he with h1 | h1
    · rw [hb] at h1; cases h1
    · simpa using h1
  · have hj : j < ops.size := (Array.getElem?_eq_some_iff.1 hoj).1
    have := hpass j hj i hij
    rw [show ops.toList[i]? = some oi by simpa using hoi, show ops.toList[j]? = some oj by simpa using hoj] at this
    exact this
  · exact List.pairwise_lt_range
  · simp only [List.mem_range]
    constructor
    · intro hi; exact ⟨hi, by simp [hi]⟩
    · exact fun h => h.1
  · exfalso
    by_cases hks : k < ops.size <;> simp [hks] at hk
  · rw [Array.length_toList, ← List.range_eq_range'] at hseq
    exact hseq
end
end Go.AM
