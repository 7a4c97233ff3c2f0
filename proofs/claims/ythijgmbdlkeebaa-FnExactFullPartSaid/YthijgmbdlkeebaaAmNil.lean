/- Slices held against nil; nil slices that become rows of ours. No condition. -/
import Derived.Test.YthijgmbdlkeebaaAmRebox
import Derived.WalkSpells
import Derived.Laws.Cover3
set_option linter.unusedVariables false
set_option linter.unusedSimpArgs false
namespace Go.AM

theorem bothO_some {ρ : Type} {a b : Option ρ} {y : ρ} (h : bothO a b = some y) : a = some y ∧ b = some y := by
  unfold bothO at h
  split at h
  · rename_i hab
    exact ⟨h, hab ▸ h⟩
  · cases h
theorem bothO_same {ρ : Type} (a : Option ρ) : bothO a a = a := by
  unfold bothO
  rw [if_pos rfl]

section
variable {C : Ctx} {st : St} {gh : Gh} {a : Act} {w : World}

/-- a slice's data lie where its leaf says -/
theorem slice_rep (h : Rel C st gh a w) {c : Leaf} {v : Value} (hc : LeafOk C w gh st.objs c v) {s : Ty} {xs : List s.den} {L : List Nat} (hd : sliceData st.objs s c = some (xs, L)) : ∃ A n, v = .slice A (List.length xs) n ∧ (xs = [] ∨ A.isSome = true) := by
  have hg : getImm st.objs (.slice 0 s) [c] = some (xs, L, []) := by simp only [getImm, hd]
  obtain ⟨v1, v2, he, hi, h2⟩ := getImm_ok h.dj h.sep h.lt h.objs (.slice 0 s) (ls := [c]) (vs := [v]) ⟨hc, trivial⟩ hg
  obtain ⟨A, n, h3, _, h4⟩ := hi.rep
  subst h3
  refine ⟨A, n, (List.cons.inj he).1, ?_⟩
  rcases h4 with h4 | ⟨b, o, hA, _⟩
  · exact .inl h4
  · exact .inr (by rw [hA]; rfl)

def nilSays (neg b : Bool) : Option Bool → Prop
  | none => b = !neg
  | some true => True
  | some false => b = neg

/-- what a slice held against nil yields -/
theorem ok_nilCmp {E : Env} (hE : EnvOk C.P E) {o : Oper} (h : Rel C st gh a w) {neg : Bool} {e : Option Bool} (hs : nilCmp E st o = some (neg, e)) :
    ∃ b : Bool, (execOp a.eval o).run C.P w = .ok (.value (.bool b)) w ∧ nilSays neg b e := by
  unfold nilCmp at hs
  split at hs
  case h_2 => cases hs
  rename_i op t x y u ho
  split at hs
  case isFalse => cases hs
  rename_i hsl
  have htd : ∃ el, C.P.underlying t = some (.slice el) := by
    unfold isSliceTy at hsl
    split at hsl
    · rename_i el _ _ _ htt
      have := (hE.tab _ _ htt).td
      exact ⟨el, this.2.1⟩
    · cases hsl
  obtain ⟨el, hu⟩ := htd
  have main : ∀ (A : Option Addr) (n c : Nat), a.eval x = .slice A n c → a.eval y = .slice none 0 0 → ∀ ng : Bool, op = (if ng then BinOp.neq else BinOp.eql) → (execOp a.eval o).run C.P w = .ok (.value (.bool (ng ^^ A.isNone))) w := by
    intro A n c hx hy ng hop
    cases ng with
    | false =>
      simp only [Bool.false_eq_true, if_false] at hop
      subst hop
      have := run_equal_slice_nil (P := C.P) w t el A n c hu
      simp [execOp, ho, hx, hy, binOp, eqGuard, this]
    | true =>
      simp only [if_true] at hop
      subst hop
      have := run_equal_slice_nil (P := C.P) w t el A n c hu
      simp [execOp, ho, hx, hy, binOp, eqGuard, this]
  have fin : ∀ ng : Bool, op = (if ng then BinOp.neq else BinOp.eql) → a.eval y = .slice none 0 0 → (match (st.ev x).leaf with
      | .nilS => some (ng, none)
      | c => match sliceTy st.objs c with
        | some s => match sliceData st.objs s c with
          | some (xs, _) => some (ng, some xs.isEmpty)
          | none => none
        | none => none) = some (neg, e) → ∃ b : Bool, (execOp a.eval o).run C.P w = .ok (.value (.bool b)) w ∧ nilSays neg b e := by
    intro ng hop hy hm
    have hlx := h.leaf x
    split at hm
    · rename_i hl
      simp only [Option.some.injEq, Prod.mk.injEq] at hm
      obtain ⟨rfl, rfl⟩ := hm
      rw [hl] at hlx
      refine ⟨_, main none 0 0 hlx.1 hy ng hop, ?_⟩
      cases ng <;> rfl
    · split at hm
      case h_2 => cases hm
      rename_i s _
      split at hm
      case h_2 => cases hm
      rename_i xs L hd
      simp only [Option.some.injEq, Prod.mk.injEq] at hm
      obtain ⟨rfl, rfl⟩ := hm
      obtain ⟨A, n, hv, hA⟩ := slice_rep h hlx hd
      refine ⟨_, main A _ n hv hy ng hop, ?_⟩
      show nilSays ng (ng ^^ A.isNone) (some xs.isEmpty)
      rcases hA with hA | hA
      · subst hA; trivial
      · have hn : (ng ^^ A.isNone) = ng := by
          cases A with
          | none => cases hA
          | some _ => simp
        rw [hn]
        generalize xs.isEmpty = q
        cases q
        · rfl
        · trivial
  have hly := h.ev y
  split at hs
  · rename_i hy
    rw [hy] at hly
    exact fin false rfl hly.1 hs
  · rename_i hy
    rw [hy] at hly
    exact fin true rfl hly.1 hs
  · cases hs

/-- a nil slice in a variable becomes a row of ours -/
theorem promo_ok : ∀ (ps : List Pro) {st st' : St} {gh : Gh}, Rel C st gh a w → st.fx ≤ st.objs.length → promo ps st = some st' → ∃ gh', Rel C st' gh' a w ∧ st'.ro = st.ro ∧ st'.fx = st.fx ∧ st.objs.length ≤ st'.objs.length
  | [], st, st', gh, h, hfx, hs => by
    simp only [promo, Option.some.injEq] at hs
    subst hs
    exact ⟨gh, h, rfl, rfl, Nat.le_refl _⟩
  | p :: ps, st, st', gh, h, hfx, hs => by
    simp only [promo] at hs
    split at hs
    case h_2 => cases hs
    rename_i cs hob
    split at hs
    case h_2 => cases hs
    rename_i hk
    have hl : p.l < st.objs.length := obj_lt (by rw [hob]; simp)
    have h1 : Rel C { st with objs := st.objs ++ [AObj.row p.e p.t [] p.d p.L] } (gh.add st.objs.length (.slice none 0 0) 0 []) a w :=
      h.new1 (Fr.refl _ _) hfx (by simp) (by simp) ⟨[], [], trivial, by simp [Gh.add, Value.ownBlock], by
        simp only [Gh.add, if_true]
        exact ⟨by simp, .inl ⟨rfl, rfl⟩⟩⟩
    have hrow : obj (st.objs ++ [AObj.row p.e p.t [] p.d p.L]) st.objs.length = .row p.e p.t [] p.d p.L := by simp [obj, List.getD]
    have hbox : obj (st.objs ++ [AObj.row p.e p.t [] p.d p.L]) p.l = .box cs := by rw [obj_app hl, hob]
    have hlt' : p.l < (st.objs ++ [AObj.row p.e p.t [] p.d p.L]).length := by simp; omega
    have hne : st.objs.length ≠ p.l := by omega
    generalize hos : st.objs ++ [AObj.row p.e p.t [] p.d p.L] = os at h1 hs hrow hbox hlt'
    generalize hgg : gh.add st.objs.length (.slice none 0 0) 0 [] = g1 at h1
    have hhd : g1.hd st.objs.length = .slice none 0 0 := by rw [← hgg]; simp [Gh.add]
    have K1 : ∀ k e t xs d L, obj os k = .row e t xs d L → obj (os.set p.l (.box (cs.set p.k (.own st.objs.length)))) k = .row e t xs d L := by
      intro k e t xs d L hr
      rw [obj_set_ne (fun e' => by subst e'; rw [hbox] at hr; cases hr)]; exact hr
    have K2 : ∀ k ds, obj os k = .box ds → ∃ es, obj (os.set p.l (.box (cs.set p.k (.own st.objs.length)))) k = .box es := by
      intro k ds hr
      by_cases e : k = p.l
      · subst e; exact ⟨_, obj_set_eq hlt'⟩
      · exact ⟨ds, by rw [obj_set_ne e]; exact hr⟩
    have key : ∀ c y, LeafOk C w g1 os c y → LeafOk C w g1 (os.set p.l (.box (cs.set p.k (.own st.objs.length)))) c y := fun c y hc => leaf_kind K1 K2 hc
    have h2 : Rel C { st with objs := os.set p.l (.box (cs.set p.k (.own st.objs.length))) } g1 a w := by
      refine ⟨h1.fr, h1.u0, h1.lt, h1.own, h1.dj, h1.nd, h1.sep, fun k => ?_, h1.fix, h1.fm, h1.len, fun i => (h1.regs i).mono fun c y _ hc => key c y hc, h1.df, h1.frm.mono fun c y _ hc => key c y hc⟩
      have hb := h1.objs k
      show ObjOk C w g1 _ k (obj (os.set p.l (.box (cs.set p.k (.own st.objs.length)))) k)
      replace hb : ObjOk C w g1 os k (obj os k) := hb
      by_cases e : k = p.l
      · subst e
        rw [obj_set_eq hlt']
        rw [hbox] at hb
        obtain ⟨q1, arr, T, q2, q3⟩ := hb
        refine ⟨q1, arr, T, q2, All2.of_get (by rw [List.length_set]; exact q3.len) fun i c v hc hv => ?_⟩
        obtain ⟨c0, hc0⟩ : ∃ c0, cs[i]? = some c0 := by
          have : i < (cs.set p.k (.own st.objs.length)).length := (List.getElem?_eq_some_iff.1 hc).1
          rw [List.length_set] at this
          exact ⟨_, List.getElem?_eq_getElem this⟩
        obtain ⟨v', hv', hr⟩ := q3.get hc0
        rw [hv] at hv'
        simp only [Option.some.injEq] at hv'
        subst hv'
        by_cases ei : p.k = i
        · subst ei
          rw [List.getElem?_set_self (List.getElem?_eq_some_iff.1 hc0).1] at hc
          simp only [Option.some.injEq] at hc
          subst hc
          rw [hk] at hc0
          simp only [Option.some.injEq] at hc0
          subst hc0
          exact ⟨⟨by rw [hhd]; exact hr.1, _, _, _, _, _, by rw [obj_set_ne hne]; exact hrow⟩, fun _ => hr.2 rfl⟩
        · rw [List.getElem?_set_ne ei, hc0] at hc
          simp only [Option.some.injEq] at hc
          subst hc
          exact key _ _ hr
      · rw [obj_set_ne e]
        cases ho : obj os k with
        | dead => rw [ho] at hb; exact hb
        | box ds =>
          rw [ho] at hb
          obtain ⟨q1, arr, T, q2, q3⟩ := hb
          exact ⟨q1, arr, T, q2, q3.mono fun c y _ hc => key c y hc⟩
        | row e t xs d L => rw [ho] at hb; exact hb
    have hlen : (os.set p.l (.box (cs.set p.k (.own st.objs.length)))).length = st.objs.length + 1 := by rw [List.length_set, ← hos]; simp
    obtain ⟨gh', h3, e1, e2, e3⟩ := promo_ok ps h2 (by show st.fx ≤ (os.set _ _).length; omega) hs
    exact ⟨gh', h3, e1, e2, by have : (os.set p.l (.box (cs.set p.k (.own st.objs.length)))).length ≤ st'.objs.length := e3; omega⟩
end
end Go.AM
