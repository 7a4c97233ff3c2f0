/- Regions whose order is drawn: whichever order, the same comes of it. No condition. -/
import Derived.Test.YtdcbankajhnepaaGreatAmSwap
import Derived.Test.YtdcbankajhnepaaGreatAmApp
import Derived.Orders
set_option linter.unusedVariables false
set_option linter.unusedSimpArgs false
namespace Go.AM
section
variable {E:Env} {cb:CB}
theorem stepV_ext {ρ:Operand → SV} {os:Objs} {o:Oper} {v:SV} {new:Objs} (hs:(stepV E cb ρ os o).run some = some (v,new)) (hc:clsV E ρ o new ≤ 1):
  new = [] ∧ (∀ ext,(stepV E cb ρ (os ++ ext) o).run some = some (v,[])) ∧ (clsV E ρ o new = 0 → ∀ os',(stepV E cb ρ os' o).run some = some (v,[])):=by
 have hn:new = []:=by
  cases new with
  | nil=>rfl
  | cons _ _=>simp [clsV] at hc
 subst hn
 refine ⟨rfl,?_⟩
 have same:(∀ os',stepV E cb ρ os' o = stepV E cb ρ os o) → (∀ ext,(stepV E cb ρ (os ++ ext) o).run some = some (v,[])) ∧ (clsV E ρ o [] = 0 → ∀ os',(stepV E cb ρ os' o).run some = some (v,[])):=
  fun h=>⟨fun ext=>by rw [h]; exact hs,fun _ os'=>by rw [h]; exact hs⟩
 cases ho:o.op with
 | move x=>exact same fun os'=>by simp only [stepV,ho]
 | assign x=>
  simp only [stepV,ho] at hs ⊢
  split at hs
  ·split at hs
   ·split at hs
    ·simp [mkRow,Tree.run] at hs
    ·cases hs
   ·cases hs
  ·rename_i hne
   exact ⟨fun _=>hs,fun _ _=>hs⟩
 | pick c a b=>exact same fun os'=>by simp only [stepV,ho]
 | binOp op t x y u=>exact same fun os'=>by simp only [stepV,ho]
 | unOp op t x=>exact same fun os'=>by simp only [stepV,ho]
 | load t x=>
  simp only [stepV,ho] at hs ⊢
  split at hs
  ·rename_i ti ht
   split at hs
   ·rename_i v' hv
    refine ⟨fun ext=>by simp only [loadOp_ext hv]; exact hs,fun h0 os'=>?_⟩
    have hf:(ρ x).leaf.free = true:=by
     simp only [clsV,ho] at h0
     split at h0
     ·assumption
     ·cases h0
    rw [loadOp_free hf os' os,hv]
    exact hs
   ·cases hs
  ·cases hs
 | fieldAddr t x f=>exact same fun os'=>by simp only [stepV,ho]
 | indexAddr T x i=>
  have hf:clsV E ρ o [] = 0 → (ρ x).leaf.free = true:=by
   intro h0
   simp only [clsV,ho] at h0
   split at h0
   ·assumption
   ·cases h0
  simp only [stepV,ho] at hs ⊢
  split at hs
  ·split at hs
   ·exact ⟨fun _=>hs,fun _ _=>hs⟩
   ·rename_i l hx
    split at hs
    ·rename_i e t xs d L hob
     refine ⟨fun ext=>by simp only [obj_ext hob (by simp)]; exact hs,fun h0=>?_⟩
     have:=hf h0; rw [hx] at this; cases this
    ·cases hs
   ·rename_i l j off hx
    split at hs
    ·rename_i t ht
     split at hs
     ·rename_i xs L hd
      refine ⟨fun ext=>by simp only [sliceTy_ext ht,sliceData_ext hd]; exact hs,fun h0=>?_⟩
      have:=hf h0; rw [hx] at this; cases this
     ·cases hs
    ·cases hs
   ·cases hs
  ·cases hs
 | index T x i=>exact same fun os'=>by simp only [stepV,ho]
 | field t x f=>exact same fun os'=>by simp only [stepV,ho]
 | extract x i=>exact same fun os'=>by simp only [stepV,ho]
 | build t parts=>exact same fun os'=>by simp only [stepV,ho]
 | buildSlice t n parts=>
  simp only [stepV,ho] at hs
  split at hs
  ·rename_i e _ _ _ ht
   split at hs
   ·rename_i ti he
    split at hs
    ·rename_i hc
     split at hs
     ·rename_i hw
      split at hs
      ·rename_i xs L hp
       simp only [ret1,Tree.run,Option.some.injEq,Prod.mk.injEq] at hs
       obtain ⟨rfl,_⟩:=hs
       have hf:∀ p ∈ parts.toList.map fun p=>(p.1,ρ p.2),p.2.free = true:=by
        intro p hp2
        obtain ⟨q,hq,rfl⟩:=List.mem_map.1 hp2
        simp only [Bool.and_eq_true,List.all_eq_true] at hw
        exact hw.2 q hq
       have key:∀ os',(stepV E cb ρ os' o).run some = some (SV.one (.val (.slice e ti.ty) xs L),[]):=by
        intro os'
        simp only [stepV,ho,ht,he]
        rw [if_pos hc,hw]
        simp only
        rw [partsOf_free (os:=os') (os':=os) _ 0 hf,hp]
        rfl
       exact ⟨fun ext=>key _,fun _=>key⟩
      ·cases hs
     exfalso
     split at hs
     ·simp [mkRow,Tree.run] at hs
     ·split at hs
      ·simp [mkRow,Tree.run] at hs
      ·cases hs
    ·cases hs
   ·cases hs
  ·cases hs
 | makeSlice t n c=>
  exfalso
  simp only [stepV,ho] at hs
  split at hs
  ·split at hs
   ·split at hs
    ·obtain ⟨_,hs⟩:=Tree.run_need hs
     obtain ⟨_,hs⟩:=Tree.run_need hs
     obtain ⟨_,hs⟩:=Tree.run_need hs
     simp [mkRow,Tree.run] at hs
    ·cases hs
   ·cases hs
  ·cases hs
 | alloc t=>
  exfalso
  simp only [stepV,ho] at hs
  split at hs
  ·simp [Tree.run] at hs
  ·cases hs
 | box t x=>
  exfalso
  simp only [stepV,ho] at hs
  split at hs
  ·split at hs
   ·simp [Tree.run] at hs
   ·cases hs
  ·cases hs
 | makeFunc f first caps=>exact same fun os'=>by cases f <;> simp only [stepV,ho]
 | nilCheck x=>exact same fun os'=>by simp only [stepV,ho]
 | slice T x lo hi mx=>
  cases mx with
  | some _=>simp only [stepV,ho] at hs; cases hs
  | none=>
   simp only [stepV,ho] at hs ⊢
   obtain ⟨v',h1,h2⟩:=Tree.run_pure1 hs
   have pack:∀ os',(sliceOpV E.views (isStrTy E T) (szIs (elemSz E T)) ρ os' (ρ x) lo hi).run some = some v' → (pure1 (sliceOpV E.views (isStrTy E T) (szIs (elemSz E T)) ρ os' (ρ x) lo hi)).run some = some (v,[]):=by
    intro os' h
    unfold pure1
    rw [Tree.run_map]
    simp only [Prod.mk.injEq,and_true] at h2
    subst h2
    have:∀ (t:Tree SV),t.run some = some v → t.run (fun x=>some (x,([]:Objs))) = some (v,[]):=by
     intro t
     induction t with
     | ret a=>intro h; simpa [Tree.run] using h
     | fail=>intro h; cases h
     | ite b t e iht ihe=>intro h; simp only [Tree.run] at h ⊢; cases b; exact ihe h; exact iht h
     | bind m k ih=>intro h; simp only [Tree.run] at h ⊢; cases m with
      | none=>cases h
      | some x=>exact ih x h
    exact this _ h
   refine ⟨fun ext=>pack _ (sliceOpV_ext h1),fun h0 os'=>pack _ ?_⟩
   have hf:(ρ x).leaf.free = true:=by
    simp only [clsV,ho] at h0
    split at h0
    ·assumption
    ·cases h0
   have hv0:viewOf E.views (ρ x) = none:=by
    unfold viewOf
    split
    ·rename_i l hx; rw [hx] at hf; cases hf
    ·rfl
   unfold sliceOpV at h1 ⊢
   simp only [hv0] at h1 ⊢
   unfold sliceOp at h1 ⊢
   split at h1
   ·exact h1
   ·rename_i c hne hx
    have hf':c.free = true:=by rw [hx] at hf; exact hf
    simp only [sliceTy_free hf' os' os]
    split at h1
    ·cases h1
    ·rename_i t ht
     simp only [sliceData_free hf' os' os]
     exact h1
   ·cases h1
 | convert src dst x=>
  have hf:clsV E ρ o [] = 0 → (ρ x).leaf.free = true:=by
   intro h0
   simp only [clsV,ho] at h0
   split at h0
   ·assumption
   ·cases h0
  simp only [stepV,ho] at hs ⊢
  split at hs
  ·exact ⟨fun _=>hs,fun _ _=>hs⟩
  ·split at hs
   ·rename_i hte
    split at hs
    ·rename_i hty
     split at hs
     ·rename_i xs L hd
      refine ⟨fun ext=>?_,fun h0 os'=>?_⟩
      ·simp only [sliceTy_ext hty,sliceData_ext hd]; exact hs
      ·simp only [sliceTy_free (hf h0) os' os,hty,sliceData_free (hf h0) os' os,hd]; exact hs
     ·cases hs
    ·cases hs
   ·cases hs
  ·cases hs
 | call c=>
  simp only [stepV,ho] at hs ⊢
  cases hcal:c.callee with
  | builtin b=>
   rw [hcal] at hs
   cases b <;> simp only at hs ⊢ <;> try (cases hs; done)
   case len=>
    match hargs:c.args.toList,hT:c.argTypes.toList with
    | [],_=>rw [hargs] at hs; cases hs
    | [x],[]=>rw [hargs,hT] at hs; cases hs
    | [x],_ :: _ :: _=>rw [hargs,hT] at hs; cases hs
    | _ :: _ :: _,_=>rw [hargs] at hs; cases hs
    | [x],[T]=>
     rw [hargs,hT] at hs
     simp only at hs ⊢
     split at hs
     ·rename_i n hl
      refine ⟨fun ext=>by simp only [lenOp_ext hl]; exact hs,fun h0 os'=>?_⟩
      have hf:(ρ x).leaf.free = true:=by
       simp only [clsV,ho,hcal,hargs,List.all_cons,List.all_nil,Bool.and_true] at h0
       split at h0
       ·assumption
       ·cases h0
      have:lenOp (isStrTy E T) (isSliceTy E T) os' (ρ x) = some n:=by
       rw [← hl]
       unfold lenOp
       cases hx:ρ x with
       | one c=>
        rw [hx] at hf
        have hf:c.free = true:=hf
        cases c <;> first | rfl | (cases hf; done) | (rename_i t' x' L' hff; cases t' <;> rfl)
       | agg _=>rfl
       | tup _=>rfl
      simp only [this]
      exact hs
     ·cases hs
   case max=>exact ⟨fun _=>hs,fun _ _=>hs⟩
   case min=>exact ⟨fun _=>hs,fun _ _=>hs⟩
  | invoke r m=>rw [hcal] at hs; cases hs
  | value f=>
   rw [hcal] at hs
   simp only at hs ⊢
   split at hs
   ·rename_i g hfl
    split at hs
    ·rename_i s hsg
     split at hs
     ·cases hs
     ·rename_i hm
      have hclo:s.ins.any PIn.isClo = false:=by
       cases hh:s.ins.any PIn.isClo with
       | false=>rfl
       | true=>simp only [clsV,ho,hcal,hfl,hsg,hh,if_true] at hc; omega
      refine ⟨fun ext=>?_,fun h0 os'=>?_⟩
      rotate_left
      ·have hf:(c.args.toList.map ρ).all SV.free = true:=by
        simp only [clsV,ho,hcal,hfl,hsg,hclo,Bool.false_eq_true,if_false] at h0
        split at h0
        ·rename_i hh; rw [List.all_map]; exact hh
        ·cases h0
       rw [if_neg hm]
       unfold callV at hs ⊢
       rw [gatherIns_free (os':=os) s.ins (by simpa using hm) hclo hf]
       split at hs
       ·cases hs
       ·rename_i x L W hg
        simp only [Tree.run] at hs ⊢
        cases hy:s.fn x with
        | none=>rw [hy] at hs; cases hs
        | some y=>
         rw [hy] at hs
         simp only [Option.bind_some] at hs ⊢
         cases hw:wantsImm E.imm o.dst with
         | true=>rw [hw] at hs; exact hs
         | false=>
         rw [hw] at hs
         simp only [Tree.run,Option.some.injEq,Prod.mk.injEq] at hs ⊢
         rw [outLeaves_none s.outs hs.2 os'.length]
         rw [hs.1,hs.2]
         exact ⟨rfl,rfl⟩
      rw [if_neg hm]
      unfold callV at hs ⊢
      split at hs
      ·cases hs
      ·rename_i x L W hg
       rw [gatherIns_ext s.ins (by simpa using hm) hclo hg]
       simp only [Tree.run] at hs ⊢
       cases hy:s.fn x with
       | none=>rw [hy] at hs; cases hs
       | some y=>
        rw [hy] at hs
        simp only [Option.bind_some] at hs ⊢
        cases hw:wantsImm E.imm o.dst with
        | true=>rw [hw] at hs; exact hs
        | false=>
        rw [hw] at hs
        simp only [Tree.run,Option.some.injEq,Prod.mk.injEq] at hs ⊢
        rw [outLeaves_none s.outs hs.2 ((os ++ ext).length)]
        rw [hs.1,hs.2]
        exact ⟨rfl,rfl⟩
    ·cases hs
   ·rename_i gs r p hfl
    have hnot:clsV E ρ o [] ≠ 0:=by simp [clsV,ho,hcal,hfl]
    refine ⟨fun ext=>?_,fun h0=>absurd h0 hnot⟩
    unfold callClo at hs ⊢
    split at hs
    ·rename_i x hx
     rw [getArgs_ext gs hx]
     exact hs
    ·cases hs
   ·cases hs
 | _=>simp only [stepV,ho] at hs; cases hs
def eff (st:St) (o:Oper) (v:SV) (new:Objs):St:={ st with regs:=setReg st.regs o.dst v,objs:=st.objs ++ new }
def one1 (E:Env) (cb:CB) (ops:List Oper) (st:St) (o:Oper):Option (St × Nat):=
 match guardOk ops st o with
 | some true=>(step E cb st o).run some
 | some false=>some (st.put o.dst (.one .skip),0)
 | none=>none
def AgreeOn (ops:List Oper) (o:Oper) (st st':St):Prop:=∀ t ∈ looksAt ops o,st'.reg t = st.reg t
theorem agree_ev {ops:List Oper} {o:Oper} {st st':St} (h:AgreeOn ops o st st'):∀ x ∈ o.op.operands.toList,st.ev x = st'.ev x:=by
 intro x hx
 cases x with
 | tmp t=>
  refine (h t ?_).symm
  unfold looksAt
  exact List.mem_append_left _ (List.mem_filterMap.2 ⟨.tmp t,hx,rfl⟩)
 | const v=>rfl
 | global g=>rfl
 | func f=>rfl
theorem agree_guard {ops:List Oper} {o:Oper} {st st':St} (h:AgreeOn ops o st st'):guardOk ops st' o = guardOk ops st o:=by
 unfold guardOk
 split
 ·rfl
 ·rename_i j want hg
  split
  ·rename_i p hp
   split
   ·rename_i d hd
    rw [h d]
    unfold looksAt
    exact List.mem_append_right _ (by simp [hg,hp,hd])
   ·rfl
  ·rfl
theorem stepW_none {st st':St} {o:Oper} (hev:∀ x ∈ o.op.operands.toList,st.ev x = st'.ev x) (hob:(∀ t n parts,o.op = .buildSlice t n parts → st'.objs = st.objs ∨ ∀ p ∈ parts.toList,(st.ev p.2).free = true)) (hro:st'.ro = st.ro) (hfx:st'.fx = st.fx) (h:stepW E cb st o = none):stepW E cb st' o = none:=by
 unfold stepW at h ⊢
 cases ho:o.op <;> rw [ho] at h <;> simp only at h ⊢
 case store t a x=>cases h
 case buildSlice t n parts=>
  have:(parts.toList.map fun p=>(p.1,st'.ev p.2)) = parts.toList.map fun p=>(p.1,st.ev p.2):=by
   refine List.map_congr_left fun p hp=>?_
   rw [hev p.2 (by rw [ho]; simp only [Op.operands,List.toList_toArray,List.mem_map]; exact ⟨p,hp,rfl⟩)]
  rcases hob t n parts ho with hob | hfree
  case inr=>
   split
   ·split
    ·split
     ·rename_i hp
      rw [this] at hp
      have:=partsOf_freeD _ 0 (fun p hp=>by obtain ⟨q,hq,rfl⟩:=List.mem_map.1 hp; exact hfree q hq) hp
      cases this
     ·rfl
    ·rfl
   ·rfl
  rw [hob]
  split at h
  ·split at h
   ·rename_i ti he
    rw [this]
    split at h
    ·split at h
     ·rename_i hc
      rw [hro,hfx]
      simp only [hc,if_true]
     ·cases h
    ·rename_i hne
     rfl
   ·rfl
  ·rfl
 case call c=>
  cases hc:c.callee with
  | builtin b=>rw [hc] at h; cases b <;> first | (cases h; done) | rfl
  | value f=>
   rw [hc] at h
   simp only at h ⊢
   rw [← hev f (by rw [ho]; exact (call_ops (c:=c)).2 f hc)]
   split at h
   ·rename_i g hf
    split at h
    ·cases h
    ·split at h
     ·rename_i s hsg
      split at h
      ·cases h
      ·rename_i hm
       rw [if_neg hm]
     ·rfl
   ·rfl
  | invoke r m=>rfl
 case slice T x lo hi mx=>
  cases mx with
  | some _=>rfl
  | none=>
   have hx:=hev x (by rw [ho]; simp [Op.operands])
   simp only at h ⊢
   rw [← hx]
   split at h
   ·cases h
   ·rfl
 case alloc t=>
  cases hd:o.dst with
  | none=>rfl
  | some d=>
   rw [hd] at h
   cases hl:assoc E.slots d with
   | none=>simp only [hl]
   | some l=>simp only [hl] at h; cases h
theorem clsV_le {ρ:Operand → SV} {o:Oper} {os:Objs}:clsV E ρ o os ≤ 2:=by
 unfold clsV
 repeat' split
 all_goals decide
theorem mask_bit {l:Nat}:∀ {W:List Nat} {a:Nat},(a.testBit (l + 1) = true ∨ l ∈ W) → (W.foldl (fun a l=>a ||| 2 ^ (l + 1)) a).testBit (l + 1) = true
 | [],a,h=>by rcases h with h | h; exact h; cases h
 | m :: W,a,h=>by
  refine mask_bit (W:=W) ?_
  rw [Nat.testBit_or,Bool.or_eq_true,Nat.testBit_two_pow]
  rcases h with h | h
  ·exact .inl (.inl h)
  ·rcases List.mem_cons.1 h with rfl | h
   ·exact .inl (.inr (by simp))
   ·exact .inr h
theorem mask_even (W:List Nat):maskOf W % 2 = 0:=by
 have key:∀ (W:List Nat) (a:Nat),a % 2 = 0 → (W.foldl (fun a l=>a ||| 2 ^ (l + 1)) a) % 2 = 0:=by
  intro W
  induction W with
  | nil=>intro a h; exact h
  | cons l W ih=>
   intro a h
   refine ih _ ?_
   have h1:(a ||| 2 ^ (l + 1)).testBit 0 = false:=by
    rw [Nat.testBit_or,Nat.testBit_two_pow]
    simp [Nat.testBit_zero,h]
   rw [Nat.testBit_zero] at h1
   simp only [decide_eq_false_iff_not] at h1
   show (a ||| 2 ^ (l + 1)) % 2 = 0
   omega
 exact key W 0 rfl
theorem mask_not {W:List Nat} {l:Nat} (h:(maskOf W).testBit (l + 1) = false):l ∉ W:=fun hm=>by
 rw [show (maskOf W).testBit (l + 1) = true from mask_bit (.inr hm)] at h; cases h
theorem stepV_look {ρ:Operand → SV} {os os':Objs} {o:Oper} {p:Nat × Bool × Bool} (hp:lookOf ρ o = some p) (hob:obj os' p.1 = obj os p.1):stepV E cb ρ os' o = stepV E cb ρ os o:=by
 unfold lookOf at hp
 split at hp
 ·rename_i t a ho
  split at hp
  ·rename_i l off hl
   simp only [Option.some.injEq] at hp; subst hp
   simp only [stepV,ho,hl,loadOp,hob]
  ·rename_i l i off hl
   simp only [Option.some.injEq] at hp; subst hp
   simp only [stepV,ho,hl,loadOp,hob]
  ·rename_i l i off j o2 hl
   simp only [Option.some.injEq] at hp; subst hp
   simp only [stepV,ho,hl,loadOp,sliceTy,sliceData,hob]
  ·cases hp
 ·rename_i t x i ho
  split at hp
  ·rename_i l hl
   simp only [Option.some.injEq] at hp; subst hp
   simp only [stepV,ho,hl,hob]
  ·rename_i l j off hl
   simp only [Option.some.injEq] at hp; subst hp
   simp only [stepV,ho,hl,sliceTy,sliceData,hob]
  ·cases hp
 ·cases hp
theorem stepV_row {ρ:Operand → SV} {os:Objs} {o:Oper} {p:Nat × Bool × Bool} {q:SV × Objs} (hp:lookOf ρ o = some p) (hs:(stepV E cb ρ os o).run some = some q):
  (∃ t a l off ti v,o.op = .load t a ∧ (ρ a).leaf = .ptr l off ∧ tyOf E t = some ti ∧ loadOp os ti (.ptr l off) = some v ∧ p = (l,false,true) ∧ q = (v,[])) ∨ ((∃ e t xs d L,obj os p.1 = .row e t xs d L) ∧ (p.2.1 = true → isIx o = true) ∧ (p.2.2 = true → isIx o = true) ∧ clsV E ρ o [] = 1 ∧ q.2 = []):=by
 unfold lookOf at hp
 split at hp
 ·rename_i t a ho
  split at hp
  ·rename_i l off hl
   simp only [Option.some.injEq] at hp; subst hp
   left
   simp only [stepV,ho,hl] at hs
   split at hs
   case h_2=>cases hs
   rename_i ti hti
   split at hs
   case h_2=>cases hs
   rename_i v hv
   exact ⟨t,a,l,off,ti,v,ho,hl,hti,hv,rfl,by simpa [ret1,Tree.run] using hs.symm⟩
  ·rename_i l i off hl
   simp only [Option.some.injEq] at hp; subst hp
   right
   simp only [stepV,ho,hl,loadOp] at hs
   split at hs
   case h_2=>cases hs
   split at hs
   case h_2=>cases hs
   rename_i v hv
   have hq:q = (v,[]):=by simpa [ret1,Tree.run] using hs.symm
   refine ⟨?_,by simp,by simp,by simp [clsV,ho,hl,Leaf.free],by rw [hq]⟩
   cases hob:obj os l with
   | row e t xs d L=>exact ⟨e,t,xs,d,L,rfl⟩
   | box _=>rw [hob] at hv; cases hv
   | dead=>rw [hob] at hv; cases hv
  ·rename_i l i off j o2 hl
   simp only [Option.some.injEq] at hp; subst hp
   right
   simp only [stepV,ho,hl,loadOp,sliceTy] at hs
   split at hs
   case h_2=>cases hs
   split at hs
   case h_2=>cases hs
   rename_i v hv
   have hq:q = (v,[]):=by simpa [ret1,Tree.run] using hs.symm
   refine ⟨?_,by simp,by simp,by simp [clsV,ho,hl,Leaf.free],by rw [hq]⟩
   cases hob:obj os l with
   | row e t xs d L=>exact ⟨e,t,xs,d,L,rfl⟩
   | box _=>rw [hob] at hv; cases hv
   | dead=>rw [hob] at hv; cases hv
  ·cases hp
 ·rename_i t x i ho
  split at hp
  ·rename_i l hl
   simp only [Option.some.injEq] at hp; subst hp
   right
   simp only [stepV,ho,hl] at hs
   split at hs
   case h_2=>cases hs
   split at hs
   case h_2=>cases hs
   rename_i e' t' xs d L hob
   split at hs
   ·cases hs
   obtain ⟨_,hs⟩:=Tree.run_need hs
   obtain ⟨_,hs⟩:=Tree.run_need hs
   have hq:q.2 = []:=by
    have:=hs
    simp only [ret1,Tree.run,Option.some.injEq] at this
    rw [← this]
   exact ⟨⟨_,_,_,_,_,hob⟩,by simp [isIx,ho],by simp [isIx,ho],by simp [clsV,ho,hl,Leaf.free],hq⟩
  ·rename_i l j off hl
   simp only [Option.some.injEq] at hp; subst hp
   right
   simp only [stepV,ho,hl,sliceTy,sliceData] at hs
   split at hs
   case h_2=>cases hs
   split at hs
   case h_2=>cases hs
   split at hs
   case h_2=>cases hs
   rename_i xs L hd
   split at hs
   ·cases hs
   obtain ⟨_,hs⟩:=Tree.run_need hs
   obtain ⟨_,hs⟩:=Tree.run_need hs
   have hq:q.2 = []:=by
    have:=hs
    simp only [ret1,Tree.run,Option.some.injEq] at this
    rw [← this]
   refine ⟨?_,by simp,by simp,by simp [clsV,ho,hl,Leaf.free],hq⟩
   cases hob:obj os l with
   | row e t xs d L=>exact ⟨e,t,xs,d,L,rfl⟩
   | box _=>rw [hob] at hd; cases hd
   | dead=>rw [hob] at hd; cases hd
  ·cases hp
 ·cases hp
theorem look_bit {p:Nat × Bool × Bool} {W:List Nat}:((if p.2.2 then 1 else 0) ||| maskOf (lookBit p :: W)).testBit (lookBit p + 1) = true:=by
 rw [Nat.testBit_or,show (maskOf (lookBit p :: W)).testBit (lookBit p + 1) = true from mask_bit (.inr (by simp)),Bool.or_true]
theorem mk_back {ρ':Operand → SV} {st st':St} {o:Oper} {v:SV} (hs:(stepV E cb ρ' st.objs o).run some = some (v,[])) (h1:clsV E st.ev o [] = 1) (h2:mkS st o v (clsV E st.ev o []) ≠ 0) (h3:mkS st o v (clsV E st.ev o []) < 2 ^ (2 * st'.objs.length + 1)) {ext:Objs} (h4:st.objs = st'.objs ++ ext)
  (hev:∀ x ∈ o.op.operands.toList,st.ev x = ρ' x):(stepV E cb ρ' st'.objs o).run some = some (v,[]):=by
 rw [h1] at h2 h3
 unfold mkS at h2 h3
 rw [if_neg (by simp)] at h2 h3
 unfold mkV at h2 h3
 split at h2
 case isFalse=>exact absurd rfl h2
 rename_i hc
 rw [if_pos hc] at h3
 simp only at h2 h3
 split at h2
 case h_2=>exact absurd rfl h2
 rename_i p hp
 rw [hp] at h3
 simp only at h3
 have hlt:p.1 < st'.objs.length:=by
  apply Decidable.byContradiction
  intro hn
  have hb:=look_bit (p:=p) (W:=onAll st.ev o v)
  have hle:2 * p.1 ≤ lookBit p:=by unfold lookBit; split <;> omega
  have:=Nat.testBit_lt_two_pow (Nat.lt_of_lt_of_le h3 (Nat.pow_le_pow_right (by omega) (show 2 * st'.objs.length + 1 ≤ lookBit p + 1 by omega)))
  rw [this] at hb; cases hb
 have hob:obj st'.objs p.1 = obj st.objs p.1:=by rw [h4]; exact (obj_app hlt).symm
 rw [stepV_look (ρ:=ρ') (by rw [← lookOf_congr hev]; exact hp) hob]
 exact hs
theorem one_move {ops:List Oper} {st st' st1:St} {o:Oper} {c:Nat} (h:one1 E cb ops st o = some (st1,c)) (hc:c % 8 ≤ 2) (hag:AgreeOn ops o st st') (hfx:st'.fx = st.fx) (hro:st'.ro = st.ro)
  (hob:st'.objs = st.objs ∨ (c % 8 ≤ 1 ∧ ∃ ext,st'.objs = st.objs ++ ext) ∨ c % 8 = 0 ∨ (c % 8 = 1 ∧ c / 8 ≠ 0 ∧ c / 8 < 2 ^ (2 * st'.objs.length + 1) ∧ ∃ ext,st.objs = st'.objs ++ ext)):∃ v new,st1 = eff st o v new ∧ one1 E cb ops st' o = some (eff st' o v new,c) ∧ (c % 8 ≤ 1 → new = []):=by
 unfold one1 at h ⊢
 rw [agree_guard hag]
 split at h
 ·have hev:=agree_ev hag
  unfold step at h ⊢
  split at h
  ·rename_i t ht
   rw [Tree.run_map] at h
   obtain ⟨s,_,h2⟩:=Tree.run_some t h
   simp only [Option.some.injEq,Prod.mk.injEq] at h2
   have:=wcls_ge E cb st.ev st.objs o
   omega
  ·rename_i hW
   split at h
   ·cases h
   ·rename_i hh
    rw [Tree.run_map] at h
    obtain ⟨⟨v,new⟩,h1,h2⟩:=Tree.run_some _ h
    simp only [Option.some.injEq,Prod.mk.injEq] at h2
    obtain ⟨rfl,rfl⟩:=h2
    have hle2:=clsV_le (E:=E) (ρ:=st.ev) (o:=o) (os:=new)
    have hmod:(clsV E st.ev o new + 8 * mkS st o v (clsV E st.ev o new)) % 8 = clsV E st.ev o new:=by omega
    have hdiv:(clsV E st.ev o new + 8 * mkS st o v (clsV E st.ev o new)) / 8 = mkS st o v (clsV E st.ev o new):=by omega
    rw [hmod] at hc hob
    rw [hdiv] at hob
    rw [hmod]
    have hcv:=stepV_congr (E:=E) (cb:=cb) (os:=st'.objs) hev
    have hcl:=clsV_congr (E:=E) (os:=new) hev
    have hmk:=mkV_congr (v:=v) (n:=clsV E st.ev o new) hev
    have hhc:=handsClo_congr (E:=E) hev
    have hrun:(stepV E cb st'.ev st'.objs o).run some = some (v,new):=by
     rw [← hcv]
     rcases hob with e | ⟨hle,ext,e⟩ | h0 | ⟨hl1,hl2,hl3,ext,hl4⟩
     ·rw [e]; exact h1
     ·obtain ⟨rfl,h3,_⟩:=stepV_ext h1 hle
      rw [e]; exact h3 ext
     ·obtain ⟨rfl,_,h4⟩:=stepV_ext h1 (by omega)
      exact h4 h0 _
     ·obtain ⟨rfl,_,_⟩:=stepV_ext h1 (by omega)
      exact mk_back h1 hl1 hl2 hl3 hl4 fun _ _=>rfl
    have hW':stepW E cb st' o = none:=by
     refine stepW_none hev (fun t n parts ho=>?_) hro hfx hW
     rcases hob with e | ⟨hle,_⟩ | h0 | ⟨h0,_⟩
     ·exact .inl e
     ·obtain ⟨rfl,_⟩:=stepV_ext h1 hle
      exact .inr (build_free ho h1)
     ·obtain ⟨rfl,_⟩:=stepV_ext h1 (by omega)
      exact .inr (build_free ho h1)
     ·obtain ⟨rfl,_⟩:=stepV_ext h1 (by omega)
      exact .inr (build_free ho h1)
    refine ⟨v,new,rfl,?_,fun hle=>(stepV_ext h1 hle).1⟩
    simp only [hW',← hhc,hfx]
    rw [if_neg hh,Tree.run_map]
    have:∀ {α β:Type} (t:Tree α) (f:α → β) {x:α},t.run some = some x → t.run (fun x=>some (f x)) = some (f x):=by
     intro α β t f x
     induction t with
     | ret a=>intro h; simp only [Tree.run,Option.some.injEq] at h ⊢; rw [h]
     | fail=>intro h; cases h
     | ite b t e iht ihe=>intro h; simp only [Tree.run] at h ⊢; cases b; exact ihe h; exact iht h
     | bind m k ih=>intro h; simp only [Tree.run] at h ⊢; cases m with
      | none=>cases h
      | some x=>exact ih x h
    rw [this _ _ hrun,← hcl]
    have hms:mkS st' o v (clsV E st.ev o new) = mkS st o v (clsV E st.ev o new):=by
     unfold mkS
     rw [← hmk]
     by_cases h2:clsV E st.ev o new = 2
     ·rw [h2]
      rcases hob with e | ⟨hle,_⟩ | h0 | ⟨h0,_⟩
      ·rw [e]
      all_goals omega
     ·rw [if_neg (by simpa using h2),if_neg (by simpa using h2)]
    rw [hms]
    simp only [eff,hfx]
 ·simp only [Option.some.injEq,Prod.mk.injEq] at h
  obtain ⟨rfl,rfl⟩:=h
  exact ⟨.one .skip,[],by simp [eff,St.put],by simp [eff,St.put],fun _=>rfl⟩
 ·cases h
theorem dstIn_not {l:List Nat} {d:Option Tmp} (h:dstIn l d = false):∀ t ∈ l,d ≠ some t:=by
 intro t ht e
 subst e
 simp only [dstIn] at h
 rw [has_mem.2 ht] at h
 cases h
theorem eff_agree {ops:List Oper} {x y:Oper} {st:St} {v:SV} {new:Objs} (h:dstIn (looksAt ops y) x.dst = false):AgreeOn ops y (eff st x v new) st:=by
 intro t ht
 have:=dstIn_not h t ht
 cases hd:x.dst with
 | none=>simp [eff,setReg,hd,St.reg]
 | some d=>
  have hne:d ≠ t:=fun e=>this (by rw [hd,e])
  simp [eff,setReg,hd,St.reg,List.getD,List.getElem?_set_ne hne]
theorem AgreeOn.symm {ops:List Oper} {o:Oper} {st st':St} (h:AgreeOn ops o st st'):AgreeOn ops o st' st:=fun t ht=>(h t ht).symm
theorem leaf_solid {c:Leaf} {hd:Bool} {l:Nat} (h:c.firm = true) (hl:2 * l ∉ c.code) (hm:hd = true → 2 * l + 1 ∉ c.code):c.kill hd l = c:=by
 have h1:l ∉ c.on:=fun hh=>hl (List.mem_append_left _ (List.mem_map.2 ⟨l,hh,rfl⟩))
 have h2:hd = true → l ∉ c.men:=fun he hh=>hm he (List.mem_append_right _ (List.mem_map.2 ⟨l,hh,rfl⟩))
 unfold Leaf.kill
 rw [if_neg]
 intro hd'
 cases c <;> simp only [Leaf.dies,Bool.and_eq_true,beq_iff_eq,List.any_eq_true,Leaf.on,Leaf.men,Leaf.firm] at hd' h1 h2 h
 case val=>exact h1 (has_mem.1 hd')
 case ela=>exact h1 (has_mem.1 hd')
 case own=>exact h2 hd'.1 (by simp [hd'.2])
 case oela=>exact h2 hd'.1 (by simp [hd'.2])
 case view=>exact h2 hd'.1 (by simp [hd'.2])
 case ptr=>exact h2 hd'.1 (by simp [hd'.2])
 case sub=>exact h1 (by simp [hd'])
 case oel2=>exact h1 (by simp [hd'])
 case fn=>
  obtain ⟨h3,p,hp,hpl⟩:=hd'
  exact h2 h3 (List.mem_map.2 ⟨p,hp,by simpa using hpl⟩)
 all_goals first | (cases h; done) | (cases hd'; done) | (exfalso; simp at h)
theorem has_map2 {l:Nat} {L:List Nat}:2 * l ∈ L.map (2 * ·) ↔ l ∈ L:=by
 simp only [List.mem_map]
 refine ⟨fun ⟨a,ha,e⟩=>?_,fun h=>⟨l,h,rfl⟩⟩
 obtain rfl:a = l:=by omega
 exact ha
def SV.mapL (f:Leaf → Leaf):SV → SV
 | .one c=>.one (f c)
 | .agg cs=>.agg (cs.map f)
 | .tup vs=>.tup (vs.map fun v=>(v.1,v.2.map f))
def AObj.mapL (f:Leaf → Leaf):AObj → AObj
 | .box cs=>.box (cs.map f)
 | o=>o
theorem sv_map_kill {hd:Bool} {l:Nat} (v:SV):v.kill hd l = v.mapL (Leaf.kill hd l):=by cases v <;> rfl
theorem obj_map_kill {hd:Bool} {l:Nat} (o:AObj):o.kill hd l = o.mapL (Leaf.kill hd l):=by cases o <;> rfl
theorem sv_map_map (f g:Leaf → Leaf) (v:SV):(v.mapL f).mapL g = v.mapL (g ∘ f):=by
 cases v <;> simp [SV.mapL,Function.comp_def]
theorem obj_map_map (f g:Leaf → Leaf) (o:AObj):(o.mapL f).mapL g = o.mapL (g ∘ f):=by
 cases o <;> simp [AObj.mapL]
structure Kl (mask:Nat) (f:Leaf → Leaf):Prop where
 or:∀ c,f c = c ∨ f c = .undef
 stay:∀ c,c.firm = true → (∀ k ∈ c.code,mask.testBit (k + 1) = false) → f c = c
theorem Kl.comp {m:Nat} {f g:Leaf → Leaf} (h:Kl m f) (k:Kl m g):Kl m (g ∘ f):=by
 refine ⟨fun c=>?_,fun c hc hm=>?_⟩
 ·show g (f c) = c ∨ g (f c) = .undef
  rcases h.or c with e | e <;> rw [e]
  ·exact k.or c
  ·rcases k.or .undef with e | e <;> exact .inr e
 ·show g (f c) = c
  rw [h.stay c hc hm,k.stay c hc hm]
theorem Kl.mono {m m':Nat} {f:Leaf → Leaf} (h:Kl m f) (hm:∀ k,m.testBit k = true → m'.testBit k = true):Kl m' f:=
 ⟨h.or,fun c hc hk=>h.stay c hc fun k hkc=>by
  have:=hk k hkc
  cases hh:m.testBit (k + 1) with
  | false=>rfl
  | true=>rw [hm _ hh] at this; cases this⟩
theorem Kl.id (m:Nat):Kl m id:=⟨fun _=>.inl rfl,fun _ _ _=>rfl⟩
theorem mem_codes {hd:Bool} {W:List Nat} {l:Nat} (h:l ∈ W):2 * l ∈ codes hd W ∧ (hd = true → 2 * l + 1 ∈ codes hd W):=by
 refine ⟨List.mem_flatMap.2 ⟨l,h,?_⟩,fun hh=>List.mem_flatMap.2 ⟨l,h,?_⟩⟩
 ·cases hd <;> simp
 ·subst hh; simp
theorem Kl.kill {hd:Bool} {W:List Nat} {l:Nat} (h:l ∈ W):Kl (maskOf (codes hd W)) (Leaf.kill hd l):=by
 obtain ⟨h1,h2⟩:=mem_codes (hd:=hd) h
 refine ⟨fun c=>?_,fun c hc hm=>leaf_solid hc (fun hh=>?_) fun he hh=>?_⟩
 ·unfold Leaf.kill
  split
  ·exact .inr rfl
  ·exact .inl rfl
 ·have:=hm _ hh
  rw [show (maskOf (codes hd W)).testBit (2 * l + 1) = true from mask_bit (.inr h1)] at this; cases this
 ·have:=hm _ hh
  rw [show (maskOf (codes hd W)).testBit (2 * l + 1 + 1) = true from mask_bit (.inr (h2 he))] at this; cases this
theorem leaves_stay {m:Nat} {f:Leaf → Leaf} (h:Kl m f) {cs:List Leaf} (hf:cs.all Leaf.firm = true) (hc:∀ k ∈ cs.flatMap Leaf.code,m.testBit (k + 1) = false):cs.map f = cs:=by
 conv=>rhs; rw [← List.map_id cs]
 refine List.map_congr_left fun c hcm=>?_
 rw [List.all_eq_true] at hf
 exact h.stay c (hf c hcm) fun k hk=>hc k (List.mem_flatMap.2 ⟨c,hcm,hk⟩)
theorem sv_stay {m:Nat} {f:Leaf → Leaf} (h:Kl m f) {v:SV} (hf:v.firm = true) (hc:∀ k ∈ v.code,m.testBit (k + 1) = false):v.mapL f = v:=by
 cases v with
 | one c=>show SV.one (f c) = _; rw [h.stay c hf hc]
 | agg cs=>show SV.agg (cs.map f) = _; rw [leaves_stay h hf hc]
 | tup vs=>
  simp only [SV.firm,List.all_eq_true] at hf
  simp only [SV.mapL,SV.tup.injEq]
  conv=>rhs; rw [← List.map_id vs]
  refine List.map_congr_left fun p hp=>?_
  rw [leaves_stay h (by rw [List.all_eq_true]; exact fun c hc=>hf p hp c hc) fun k hk=>hc k (List.mem_flatMap.2 ⟨p,hp,hk⟩)]
  rfl
theorem leaf_back {m:Nat} {f:Leaf → Leaf} (h:Kl m f) {c:Leaf} (hf:(f c).firm = true):f c = c:=by
 rcases h.or c with e | e
 ·exact e
 ·rw [e] at hf; cases hf
theorem leaves_back {m:Nat} {f:Leaf → Leaf} (h:Kl m f) {cs:List Leaf} (hf:(cs.map f).all Leaf.firm = true):cs.map f = cs:=by
 conv=>rhs; rw [← List.map_id cs]
 rw [List.all_eq_true] at hf
 exact List.map_congr_left fun c hcm=>leaf_back h (hf _ (List.mem_map_of_mem hcm))
theorem sv_back {m:Nat} {f:Leaf → Leaf} (h:Kl m f) {v:SV} (hf:(v.mapL f).firm = true):v.mapL f = v:=by
 cases v with
 | one c=>show SV.one (f c) = _; rw [leaf_back h hf]
 | agg cs=>show SV.agg (cs.map f) = _; rw [leaves_back h hf]
 | tup vs=>
  simp only [SV.mapL,SV.firm,List.all_map] at hf
  rw [List.all_eq_true] at hf
  simp only [SV.mapL,SV.tup.injEq]
  conv=>rhs; rw [← List.map_id vs]
  refine List.map_congr_left fun p hp=>?_
  rw [leaves_back h (hf p hp)]
  rfl
def St.mapS (st:St) (f:Leaf → Leaf):St:={ st with regs:=st.regs.map (SV.mapL f),objs:=st.objs.map (AObj.mapL f),frm:=st.frm.map f }
def KL (mask:Nat) (K:St → Option St):Prop:=∀ s1 s2,K s1 = some s2 → ∃ f,Kl mask f ∧ s2 = s1.mapS f ∧ ∀ st:St,st.objs = s1.objs → st.ro = s1.ro → st.fx = s1.fx → K st = some (st.mapS f)
theorem St.mapS_mapS (st:St) (f g:Leaf → Leaf):(st.mapS f).mapS g = st.mapS (g ∘ f):=by
 have e1:(SV.mapL g) ∘ (SV.mapL f) = SV.mapL (g ∘ f):=by funext v; exact sv_map_map f g v
 have e2:(AObj.mapL g) ∘ (AObj.mapL f) = AObj.mapL (g ∘ f):=by funext v; exact obj_map_map f g v
 simp only [St.mapS,List.map_map,e1,e2]
theorem KL.kill {hd:Bool} {W:List Nat} {l:Nat} (h:l ∈ W):KL (maskOf (codes hd W)) (St.kill hd l):=by
 intro s1 s2 hk
 have e1:(SV.kill hd l) = SV.mapL (Leaf.kill hd l):=by funext v; exact sv_map_kill v
 have e2:(AObj.kill hd l) = AObj.mapL (Leaf.kill hd l):=by funext v; exact obj_map_kill v
 obtain ⟨h1,h2⟩:=kill_eq hk
 refine ⟨_,Kl.kill h,?_,fun st ho hr hf=>?_⟩
 ·rw [h2]; simp only [St.mapS,e1,e2]
 ·unfold St.kill
  rw [ho,h1]
  simp only [Bool.false_eq_true,if_false,Option.some.injEq,St.mapS,e1,e2,ho]
theorem KL.bind {m:Nat} {K K':St → Option St} (h:KL m K) (k:KL m K'):KL m fun st=>match K st with
  | some st'=>K' st'
  | none=>none:=by
 intro s1 s3 hs
 simp only at hs
 split at hs
 ·rename_i s2 h2
  obtain ⟨f,hf,rfl,hst⟩:=h s1 s2 h2
  obtain ⟨g,hg,rfl,hst'⟩:=k _ s3 hs
  refine ⟨g ∘ f,hf.comp hg,St.mapS_mapS _ _ _,fun st ho hr hx=>?_⟩
  simp only [hst st ho hr hx]
  rw [hst' (st.mapS f) (by simp only [St.mapS,ho]) hr hx,St.mapS_mapS]
 ·cases hs
theorem KL.killAll {hd:Bool} {W:List Nat}:∀ M:List Nat,(∀ l ∈ M,l ∈ W) → KL (maskOf (codes hd W)) (St.killAll hd M)
 | [],_=>by
  intro s1 s2 hk
  simp only [St.killAll,Option.some.injEq] at hk
  subst hk
  have e1:SV.mapL (fun c=>c) = fun v=>v:=by funext v; cases v <;> simp [SV.mapL]
  have e2:AObj.mapL (fun c=>c) = fun v=>v:=by funext v; cases v <;> simp [AObj.mapL]
  have e3:∀ st:St,st = st.mapS (fun c=>c):=fun st=>by simp [St.mapS,e1,e2]
  exact ⟨fun c=>c,Kl.id _,e3 _,fun st _ _ _=>by rw [← e3]; rfl⟩
 | l :: M,h=>KL.bind (KL.kill (h l (by simp))) (KL.killAll M fun k hk=>h k (by simp [hk]))
theorem KL.move {W M:List Nat} {l:Nat} (hM:∀ k ∈ M,k ∈ W) (hl:l ∈ W):KL (maskOf (codes true W)) (fun st=>st.move M true l):=by
 intro s1 s2 hs
 simp only [St.move] at hs
 split at hs
 case isFalse=>cases hs
 rename_i hc
 obtain ⟨f,h1,h2,h3⟩:=KL.bind (KL.killAll M hM) (KL.kill hl) s1 s2 hs
 refine ⟨f,h1,h2,fun st ho hr hf=>?_⟩
 simp only [St.move]
 rw [hr,hf,if_pos hc]
 exact h3 st ho hr hf
theorem firm_kill {v:SV} {l:Nat} (h:(v.kill false l).firm = true):v.firm = true:=by
 have k1:∀ c:Leaf,(c.kill false l).firm = true → c.firm = true:=by
  intro c h
  unfold Leaf.kill at h
  split at h
  ·cases h
  ·exact h
 have k2:∀ cs:List Leaf,(cs.map (Leaf.kill false l)).all Leaf.firm = true → cs.all Leaf.firm = true:=by
  intro cs h
  rw [List.all_eq_true] at h ⊢
  exact fun c hc=>k1 c (h _ (List.mem_map_of_mem hc))
 cases v with
 | one c=>exact k1 c h
 | agg cs=>exact k2 cs h
 | tup vs=>
  simp only [SV.kill,SV.firm,List.all_map] at h ⊢
  rw [List.all_eq_true] at h ⊢
  exact fun p hp=>k2 p.2 (h p hp)
theorem mask_nil {W:List Nat} (h:1 ||| maskOf W ≤ 1):W = []:=by
 cases W with
 | nil=>rfl
 | cons l W=>
  exfalso
  have h1:(1 ||| maskOf (l :: W)).testBit (l + 1) = true:=by
   rw [Nat.testBit_or,show (maskOf (l :: W)).testBit (l + 1) = true from mask_bit (.inr (by simp))]; simp
  have h2:(1 ||| maskOf (l :: W)) < 2 ^ (l + 1):=Nat.lt_of_le_of_lt h (Nat.one_lt_two_pow (by omega))
  rw [Nat.testBit_lt_two_pow h2] at h1; cases h1
theorem isPick_one {ops:List Oper} {x:Oper} (h:isPick x = true):∃ t,x.guard = none ∧ t ∈ looksAt ops x ∧ ∀ {st s1:St} {cx:Nat},one1 E cb ops st x = some (s1,cx) →
  ∃ v,s1 = eff st x v [] ∧ (cx / 8 ≤ 1 → ∀ (l:Nat) (st':St),st'.reg t = (st.reg t).kill false l → one1 E cb ops st' x = some (eff st' x (v.kill false l) [],cx)):=by
 have mk0:∀ {t:Tmp} {st st':St} {v:SV} {l:Nat},x.op.operands.toList = [.tmp t] → st'.reg t = (st.reg t).kill false l → mkV st.ev x v 0 ≤ 1 → mkV st'.ev x (v.kill false l) 0 = mkV st.ev x v 0:=by
  intro t st st' v l ho hr hle
  unfold mkV onAll at hle ⊢
  simp only [ho,List.all_cons,List.all_nil,Bool.and_true,St.ev,hr,List.flatMap_cons,List.flatMap_nil,List.append_nil] at hle ⊢
  split at hle
  ·rename_i hc
   have hn:=mask_nil hle
   simp only [List.append_eq_nil_iff] at hn
   simp only [Bool.and_eq_true] at hc
   rw [sv_map_kill,sv_map_kill,sv_stay (Kl.kill (hd:=false) (W:=[l]) (by simp)) hc.1 (by rw [hn.2]; simp),sv_stay (Kl.kill (hd:=false) (W:=[l]) (by simp)) hc.2 (by rw [hn.1]; simp)]
  ·rename_i hc
   rw [if_neg hc,if_neg]
   intro hh
   simp only [Bool.and_eq_true] at hh hc
   exact hc ⟨firm_kill hh.1,firm_kill hh.2⟩
 unfold isPick at h
 split at h
 ·rename_i t ho hg
  refine ⟨t,hg,by unfold looksAt; exact List.mem_append_left _ (List.mem_filterMap.2 ⟨.tmp t,by rw [ho]; simp [Op.operands],rfl⟩),fun {st s1 cx} h1=>?_⟩
  have key:∀ st:St,one1 E cb ops st x = some (eff st x (st.reg t) [],0 + 8 * mkV st.ev x (st.reg t) 0):=by
   intro st
   unfold one1 guardOk
   simp only [hg]
   unfold step stepW handsClo
   simp only [ho,stepV,ret1,Tree.map,Tree.run,clsV,Bool.false_and,Bool.false_eq_true,if_false,St.ev]
   rfl
  rw [key] at h1
  simp only [Option.some.injEq,Prod.mk.injEq] at h1
  obtain ⟨rfl,rfl⟩:=h1
  exact ⟨_,rfl,fun hle l st' hr=>by rw [key,hr,← mk0 (v:=st.reg t) (by rw [ho]; simp [Op.operands]) hr (by omega)]⟩
 ·rename_i t i ho hg
  refine ⟨t,hg,by unfold looksAt; exact List.mem_append_left _ (List.mem_filterMap.2 ⟨.tmp t,by rw [ho]; simp [Op.operands],rfl⟩),fun {st s1 cx} h1=>?_⟩
  have key:∀ st:St,one1 E cb ops st x = match st.reg t with
    | .tup vs=>match vs[i]? with
     | some (b,cs)=>some (eff st x (packSV b cs) [],0 + 8 * mkV st.ev x (packSV b cs) 0)
     | none=>none
    | _=>none:=by
   intro st
   unfold one1 guardOk
   simp only [hg]
   unfold step stepW handsClo
   simp only [ho,stepV,ret1,St.ev,Bool.false_and,Bool.false_eq_true,if_false]
   cases st.reg t with
   | one c=>rfl
   | agg cs=>rfl
   | tup vs=>
    simp only
    cases vs[i]? with
    | none=>rfl
    | some p=>simp only [Tree.map,Tree.run,clsV,ho]; rfl
  rw [key] at h1
  cases hr0:st.reg t with
  | one c=>rw [hr0] at h1; cases h1
  | agg cs=>rw [hr0] at h1; cases h1
  | tup vs=>
   rw [hr0] at h1
   simp only at h1
   cases hv:vs[i]? with
   | none=>rw [hv] at h1; cases h1
   | some p=>
    rw [hv] at h1
    simp only [Option.some.injEq,Prod.mk.injEq] at h1
    obtain ⟨rfl,rfl⟩:=h1
    refine ⟨_,rfl,fun hle l st' hr=>?_⟩
    have hmk:=mk0 (v:=packSV p.1 p.2) (by rw [ho]; simp [Op.operands]) (hr.trans (by rw [hr0]):st'.reg t = (st.reg t).kill false l) (by omega)
    have hpk:packSV p.1 (p.2.map (Leaf.kill false l)) = (packSV p.1 p.2).kill false l:=by
     obtain ⟨b,cs⟩:=p
     cases b with
     | true=>rfl
     | false=>
      match cs with
      | []=>rfl
      | [c]=>rfl
      | _ :: _ :: _=>rfl
    rw [key,hr,← hmk]
    simp only [SV.kill,List.getElem?_map,hv,Option.map_some]
    rw [hpk]; rfl
 ·cases h
theorem appCls_mod (os:Objs) (l:Nat) (x:Leaf):appCls os l x % 8 = 7 ∨ appCls os l x = 3:=by
 unfold appCls
 repeat' split
 all_goals omega
theorem wcls_copy {ρ:Operand → SV} {os:Objs} {o:Oper} (h:wcls E cb ρ os o = 4):∃ c,o.op = .call c ∧ c.callee = .builtin .copy:=by
 unfold wcls at h
 split at h
 ·repeat' split at h
  all_goals omega
 ·rename_i c ho
  split at h
  ·rename_i hc; exact ⟨c,ho,hc⟩
  ·exfalso
   repeat' split at h
   all_goals first | omega | (have:=appCls_mod os; rename_i l _; have:=appCls_mod os l; simp_all; omega) | skip
   all_goals (rename_i l _ ; rcases appCls_mod os l _ with h1 | h1 <;> rw [h] at h1 <;> omega)
  ·exfalso
   repeat' split at h
   all_goals omega
  ·omega
 ·split at h <;> first | omega | cases h
 ·exfalso
  repeat' split at h
  all_goals omega
 ·omega
theorem wcls_box {ρ:Operand → SV} {os:Objs} {o:Oper} (h:wcls E cb ρ os o % 8 = 5):∃ t a x l off,o.op = .store t a x ∧ (ρ a).leaf = .ptr l off:=by
 unfold wcls at h
 split at h
 ·repeat' split at h
  all_goals omega
 ·rename_i c ho
  exfalso
  split at h
  ·omega
  ·split at h
   ·rename_i s x _
    split at h
    ·rename_i l _
     have:=appCls_mod os l (ρ x).leaf; omega
    ·omega
   ·omega
  ·repeat' split at h
   all_goals omega
  ·omega
 ·rename_i t a x ho
  split at h
  ·rename_i l off ha; exact ⟨t,a,x,l,off,ho,ha⟩
  ·omega
 ·exfalso
  repeat' split at h
  all_goals omega
 ·omega
theorem wcls_lend {ρ:Operand → SV} {os:Objs} {o:Oper} (h:wcls E cb ρ os o % 8 = 6):∃ c f g s x L W,o.op = .call c ∧ c.callee = .value f ∧ (ρ f).leaf = .fn g [] ∧ assoc E.rfn g = none ∧ assoc E.sig g = some s ∧
  gatherIns cb os s.ins (c.args.toList.map ρ) = some (x,L,W) ∧ wcls E cb ρ os o = 6 + 8 * maskOf (codes false W):=by
 unfold wcls at h ⊢
 split at h
 ·exfalso
  repeat' split at h
  all_goals omega
 ·rename_i c ho
  split at h
  ·omega
  ·exfalso
   split at h
   ·rename_i s x _
    split at h
    ·rename_i l _
     have:=appCls_mod os l (ρ x).leaf; omega
    ·omega
   ·omega
  ·rename_i f hc
   split at h
   ·rename_i g hf
    split at h
    ·omega
    ·rename_i hr
     split at h
     ·rename_i s hs
      split at h
      ·rename_i x L W hg
       refine ⟨c,f,g,s,x,L,W,ho,hc,hf,hr,hs,hg,?_⟩
       simp only [ho,hc,hf,hr,hs,hg]
      ·omega
     ·omega
   ·omega
  ·omega
 ·exfalso
  split at h <;> omega
 ·exfalso
  repeat' split at h
  all_goals omega
 ·omega
theorem wcls_seven {ρ:Operand → SV} {os:Objs} {o:Oper} (h:wcls E cb ρ os o % 8 = 7):
  (∃ t n parts e ti tt xs m M,o.op = .buildSlice t n parts ∧ tyOf E t = some tt ∧ tt.td = .slice e ∧ tyOf E e = some ti ∧ partsOf ti.ty os true (parts.toList.map fun p=>(p.1,ρ p.2)) 0 = some (xs,m :: M) ∧ wcls E cb ρ os o = 7 + 8 * maskOf (codes true (m :: M ++ [os.length]))) ∨
  (∃ c s x l,o.op = .call c ∧ c.callee = .builtin .append ∧ c.args.toList = [s,x] ∧ (ρ s).leaf = .own l ∧ wcls E cb ρ os o = appCls os l (ρ x).leaf) ∨
  (∃ t d l,o.op = .alloc t ∧ o.dst = some d ∧ assoc E.slots d = some l ∧ wcls E cb ρ os o = 7 + 8 * maskOf (codes true [l])):=by
 unfold wcls at h ⊢
 split at h
 ·rename_i t n parts ho
  left
  split at h
  ·rename_i e _ _ _ ht
   split at h
   ·rename_i ti he
    split at h
    ·rename_i xs m M hp
     refine ⟨t,n,parts,e,ti,_,xs,m,M,ho,ht,rfl,he,hp,?_⟩
     simp only [ho,ht,he,hp]
    ·omega
   ·omega
  ·omega
 ·rename_i c ho
  split at h
  ·omega
  ·rename_i hc
   split at h
   ·rename_i s x hargs
    split at h
    ·rename_i l hl
     exact .inr (.inl ⟨c,s,x,l,ho,hc,hargs,hl,by simp only [ho,hc,hargs,hl]⟩)
    ·omega
   ·omega
  ·repeat' split at h
   all_goals omega
  ·omega
 ·split at h <;> omega
 ·rename_i t ho
  split at h
  ·rename_i d hd
   split at h
   ·rename_i l hl
    exact .inr (.inr ⟨t,d,l,ho,hd,hl,by simp only [ho,hd,hl]⟩)
   ·omega
  ·omega
 ·omega
theorem copy_one {ops:List Oper} {st s1 s2:St} {y:Oper} (h:one1 E cb ops s1 y = some (s2,4)) (ha:AgreeOn ops y s1 st) (ho:s1.objs = st.objs) (hr:s1.ro = st.ro) (hf:s1.frm = st.frm):
  ∃ l n os fm,s2 = { s1 with regs:=setReg (s1.regs.map (SV.kill false l)) y.dst n,objs:=os,frm:=fm } ∧ one1 E cb ops st y = some ({ st with regs:=setReg (st.regs.map (SV.kill false l)) y.dst n,objs:=os,frm:=fm },4):=by
 have hev:=agree_ev ha
 unfold one1 at h ⊢
 rw [agree_guard ha]
 cases hg:guardOk ops s1 y with
 | none=>rw [hg] at h; cases h
 | some bb=>
 cases bb with
 | false=>rw [hg] at h; simp at h
 | true=>
 rw [hg] at h
 simp only at h ⊢
 unfold step at h ⊢
 split at h
 case h_2=>
  exfalso
  split at h
  ·cases h
  ·rw [Tree.run_map] at h
   obtain ⟨p,_,h2⟩:=Tree.run_some _ h
   simp only [Option.some.injEq,Prod.mk.injEq] at h2
   have:=clsV_le (E:=E) (ρ:=s1.ev) (o:=y) (os:=p.2)
   omega
 rename_i t ht
 rw [Tree.run_map] at h
 obtain ⟨s3,h1,h2⟩:=Tree.run_some t h
 simp only [Option.some.injEq,Prod.mk.injEq] at h2
 obtain ⟨rfl,h4⟩:=h2
 obtain ⟨c,hop,hc⟩:=wcls_copy h4
 have hw4:∀ os,wcls E cb st.ev os y = 4:=fun os=>by unfold wcls; simp only [hop,hc]
 have he:∀ z ∈ c.args.toList,s1.ev z = st.ev z:=fun z hz=>hev z (by rw [hop]; exact (call_ops (c:=c)).1 z hz)
 unfold stepW at ht ⊢
 simp only [hop,hc,Option.some.injEq] at ht ⊢
 subst ht
 rw [Tree.run_map]
 split at h1
 ·rename_i p q tt uu hargs hT
  try simp only [hargs,hT]
  rw [hargs] at he
  split at h1
  ·rename_i e _ _ _ htt
   try simp only [htt]
   split at h1
   ·rename_i ti hte
    try simp only [hte]
    split at h1
    ·rename_i hz
     try simp only [if_pos hz]
     split at h1
     ·rename_i l lo hi hd
      rw [← he p (by simp),← he q (by simp),← ho,hd]
      simp only
      unfold copyTo at h1 ⊢
      rw [← hr,← ho]
      split at h1
      ·cases h1
      rename_i hro
      rw [if_neg hro]
      split at h1
      case h_2=>cases h1
      rename_i e' t' xs deep L hob
      try simp only [hob]
      split at h1
      case isFalse=>cases h1
      rename_i hcc
      rw [if_pos hcc]
      split at h1
      case h_1=>cases h1
      rename_i ys M hsd
      try simp only [hsd]
      split at h1
      case h_2=>cases h1
      rename_i st1 hk
      obtain ⟨k0,k1⟩:=kill_eq hk
      simp only [Tree.run,Option.some.injEq] at h1
      have hk':st.kill false l = some { st with regs:=st.regs.map (SV.kill false l),objs:=s1.objs.map (AObj.kill false l),frm:=s1.frm.map (Leaf.kill false l) }:=by
       unfold St.kill
       rw [← ho,k0,hf]
       simp
      rw [hk']
      simp only [Tree.run,hw4]
      subst k1
      exact ⟨l,vint .i64 (copyN ys lo hi:Nat),_,_,h1.symm,by simp only [St.put,hr]⟩
     ·cases h1
    ·cases h1
   ·cases h1
  ·cases h1
 ·cases h1
theorem isMove_pick {x:Oper} (h:isMove x = true):isPick x = true:=by
 unfold isMove at h
 unfold isPick
 split at h
 ·rename_i ho hg; simp only [ho,hg]
 ·cases h
theorem swap_copy {ops:List Oper} {st s1 s2:St} {x y:Oper} {cx:Nat} (hx:one1 E cb ops st x = some (s1,cx)) (hy:one1 E cb ops s1 y = some (s2,4)) (hm:isMove x = true) (hle:cx / 8 ≤ 1) (h1:dstIn (looksAt ops y) x.dst = false) (h2:dstIn (looksAt ops x) y.dst = false) (h3:dstIn x.dst.toList y.dst = false):
  ∃ t1,one1 E cb ops st y = some (t1,4) ∧ one1 E cb ops t1 x = some (s2,cx):=by
 obtain ⟨t,hg,htl,hpk⟩:=isPick_one (E:=E) (cb:=cb) (ops:=ops) (isMove_pick hm)
 obtain ⟨v,rfl,hmv⟩:=hpk hx
 obtain ⟨l,n,os,fm,rfl,hy'⟩:=copy_one (st:=st) hy (eff_agree h1) (by simp [eff]) rfl rfl
 refine ⟨_,hy',?_⟩
 have hd:∀ (regs:List SV) (p q:SV),setReg (setReg regs y.dst p) x.dst q = setReg (setReg regs x.dst q) y.dst p:=by
  intro regs p q
  cases hxd:x.dst with
  | none=>rfl
  | some d=>
   cases hyd:y.dst with
   | none=>rfl
   | some e=>
    have hne:e ≠ d:=fun e'=>by
     rw [hxd,hyd,e'] at h3
     simp [dstIn,has] at h3
    simp [setReg,List.set_comm _ _ hne]
 have hreg:St.reg { st with regs:=setReg (st.regs.map (SV.kill false l)) y.dst n,objs:=os,frm:=fm } t = (st.reg t).kill false l:=by
  have hne:y.dst ≠ some t:=dstIn_not h2 t htl
  have e1:St.reg { st with regs:=setReg (st.regs.map (SV.kill false l)) y.dst n,objs:=os,frm:=fm } t = St.reg { st with regs:=st.regs.map (SV.kill false l),objs:=os,frm:=fm } t:=by
   cases hyd:y.dst with
   | none=>rfl
   | some e=>
    have hne:e ≠ t:=fun e'=>hne (by rw [hyd,e'])
    simp [setReg,St.reg,List.getD,List.getElem?_set_ne hne]
  rw [e1,reg_map]
 rw [hmv hle l _ hreg]
 congr 2
 have hmap:(setReg st.regs x.dst v).map (SV.kill false l) = setReg (st.regs.map (SV.kill false l)) x.dst (v.kill false l):=by
  cases x.dst with
  | none=>rfl
  | some d=>simp [setReg,List.map_set]
 have:∀ (a b:St),a.regs = b.regs → a.objs = b.objs → a.ro = b.ro → a.fx = b.fx → a.frm = b.frm → a = b:=by
  intro a b h1 h2 h3 h4 h5
  cases a; cases b; simp_all
 exact this _ _ (by show setReg (setReg _ y.dst n) x.dst _ = setReg ((setReg st.regs x.dst v).map _) y.dst n; rw [hd,hmap]) (by simp [eff]) rfl rfl rfl
theorem row_mapL {os:Objs} {f:Leaf → Leaf} {F:AObj → AObj} (hF:∀ o,F o = o.mapL f) {k:Nat} {e:TypeId} {t:Ty} {xs:List t.den} {d:Bool} {L:List Nat}:obj os k = .row e t xs d L ↔ obj (os.map F) k = .row e t xs d L:=by
 by_cases hl:k < os.length
 ·simp only [obj,List.getD,List.getElem?_map,List.getElem?_eq_getElem hl,Option.map_some,Option.getD_some,hF]
  cases os[k] with
  | row _ _ _ _ _=>rfl
  | box _=>simp [AObj.mapL]
  | dead=>simp [AObj.mapL]
 ·simp [obj,List.getD,List.getElem?_eq_none (show os.length ≤ k by omega),List.getElem?_eq_none (show (os.map F).length ≤ k by simp; omega)]
theorem box_one {ops:List Oper} {st s1 s2:St} {y:Oper} {cy:Nat} (h:one1 E cb ops s1 y = some (s2,cy)) (h5:cy % 8 = 5) (ha:AgreeOn ops y s1 st) (ho:s1.objs = st.objs) (hr:s1.ro = st.ro) (hf:s1.frm = st.frm):
  y.dst = none ∧ ∃ l os fm,cy = 5 + 8 * maskOf (codes false [l]) ∧ s2 = { s1 with regs:=s1.regs.map (SV.kill false l),objs:=os,frm:=fm } ∧ one1 E cb ops st y = some ({ st with regs:=st.regs.map (SV.kill false l),objs:=os,frm:=fm },cy) ∧
   (∀ k cs,k ≠ l → obj st.objs k = .box cs → obj os k = .box (cs.map (Leaf.kill false l))) ∧ (∀ k cs,k ≠ l → obj os k = .box cs → ∃ ds,obj st.objs k = .box ds) ∧ ∀ k e t xs d L,obj st.objs k = .row e t xs d L ↔ obj os k = .row e t xs d L:=by
 have hev:=agree_ev ha
 unfold one1 at h ⊢
 rw [agree_guard ha]
 cases hg:guardOk ops s1 y with
 | none=>rw [hg] at h; cases h
 | some bb=>
 cases bb with
 | false=>rw [hg] at h; simp only [Option.some.injEq,Prod.mk.injEq] at h; omega
 | true=>
 rw [hg] at h
 simp only at h ⊢
 unfold step at h ⊢
 split at h
 case h_2=>
  exfalso
  split at h
  ·cases h
  ·rw [Tree.run_map] at h
   obtain ⟨p,_,h2⟩:=Tree.run_some _ h
   simp only [Option.some.injEq,Prod.mk.injEq] at h2
   have:=clsV_le (E:=E) (ρ:=s1.ev) (o:=y) (os:=p.2)
   omega
 rename_i t ht
 rw [Tree.run_map] at h
 obtain ⟨s3,h1,h2⟩:=Tree.run_some t h
 simp only [Option.some.injEq,Prod.mk.injEq] at h2
 obtain ⟨rfl,rfl⟩:=h2
 obtain ⟨tt,a,x,l,off,hop,hl⟩:=wcls_box h5
 have e1:s1.ev a = st.ev a:=hev a (by rw [hop]; simp [Op.operands])
 have e2:s1.ev x = st.ev x:=hev x (by rw [hop]; simp [Op.operands])
 have hw0:wcls E cb s1.ev s1.objs y = 5 + 8 * maskOf (codes false [l]):=by
  unfold wcls
  simp only [hop,hl]
 have hw5:∀ os,wcls E cb st.ev os y = 5 + 8 * maskOf (codes false [l]):=fun os=>by
  unfold wcls
  simp only [hop,← e1,hl]
 unfold stepW at ht ⊢
 simp only [hop,Option.some.injEq] at ht ⊢
 subst ht
 rw [Tree.run_map]
 cases hd:y.dst with
 | some _=>simp only [hd] at h1; cases h1
 | none=>
 refine ⟨rfl,?_⟩
 simp only [hd] at h1 ⊢
 cases htt:tyOf E tt with
 | none=>rw [htt] at h1; cases h1
 | some ti=>
 rw [htt] at h1
 simp only at h1 ⊢
 rw [← e1,← e2,hl] at *
 cases hst:storeOp s1 ti (.ptr l off) (s1.ev x) with
 | none=>rw [hst] at h1; cases h1
 | some s4=>
 rw [hst] at h1
 simp only [Tree.ofOpt,Tree.run,Option.some.injEq] at h1
 subst h1
 unfold storeOp at hst ⊢
 rw [← hr]
 split at hst
 ·cases hst
 rename_i b ls hls
 try simp only [hls]
 split at hst
 case isFalse=>cases hst
 rename_i hcc
 rw [if_pos hcc]
 simp only at hst ⊢
 split at hst
 ·cases hst
 rename_i hro
 rw [if_neg hro]
 split at hst
 ·cases hst
 rename_i st1 hk
 obtain ⟨k0,k1⟩:=kill_eq hk
 have hk':st.kill false l = some { st with regs:=st.regs.map (SV.kill false l),objs:=s1.objs.map (AObj.kill false l),frm:=s1.frm.map (Leaf.kill false l) }:=by
  unfold St.kill
  rw [← ho,k0,hf]
  simp
 rw [hk']
 subst k1
 simp only at hst ⊢
 split at hst
 case h_2=>cases hst
 rename_i cs hob
 try simp only [hob]
 split at hst
 case h_2=>cases hst
 rename_i cs' hput
 try simp only [hput]
 split at hst
 case isFalse=>cases hst
 rename_i hkn
 try simp only [if_pos hkn]
 simp only [Option.some.injEq] at hst
 subst hst
 refine ⟨l,_,_,hw0,rfl,?_,fun k cs2 hk2 hkb=>?_,fun k cs2 hk2 hkb=>?_,fun k e t xs d L=>?_⟩
 ·simp only [Tree.ofOpt,Tree.run,hw5,hw0,hr]
 ·have hkl:k < s1.objs.length:=by rw [ho]; exact obj_lt (by rw [hkb]; simp)
  rw [obj_set_ne hk2]
  rw [← ho] at hkb
  show obj (s1.objs.map (AObj.kill false l)) k = (AObj.box cs2).kill false l
  rw [← hkb]
  simp only [obj,List.getD,List.getElem?_map,List.getElem?_eq_getElem hkl,Option.map_some,Option.getD_some]
 ·rw [obj_set_ne hk2] at hkb
  have hlt:k < s1.objs.length:=by
   have:=obj_lt (os:=s1.objs.map (AObj.kill false l)) (l:=k) (by rw [hkb]; simp)
   simpa using this
  rw [← ho]
  simp only [obj,List.getD,List.getElem?_map,List.getElem?_eq_getElem hlt,Option.map_some,Option.getD_some] at hkb ⊢
  cases hh:s1.objs[k] with
  | box ds=>exact ⟨ds,rfl⟩
  | row _ _ _ _ _=>rw [hh] at hkb; cases hkb
  | dead=>rw [hh] at hkb; cases hkb
 ·rw [← ho]
  have hll:l < s1.objs.length:=by
   have:=obj_lt (os:=s1.objs.map (AObj.kill false l)) (l:=l) (by rw [hob]; simp)
   simpa using this
  by_cases hkl:k = l
  ·subst hkl
   rw [obj_set_eq (by simpa using hll)]
   constructor
   ·intro hk3
    exfalso
    simp only [obj,List.getD,List.getElem?_map,List.getElem?_eq_getElem hll,Option.map_some,Option.getD_some] at hob hk3
    rw [hk3] at hob
    cases hob
   ·intro hk3; cases hk3
  ·rw [obj_set_ne hkl]
   exact row_mapL (f:=Leaf.kill false l) (by intro o; exact obj_map_kill o)
theorem swap_box {ops:List Oper} {st s1 s2:St} {x y:Oper} {cx:Nat} {cy:Nat} (hx:one1 E cb ops st x = some (s1,cx)) (hy:one1 E cb ops s1 y = some (s2,cy)) (h5:cy % 8 = 5) (hm:isPick x = true) (hle:cx / 8 ≤ 1) (h1:dstIn (looksAt ops y) x.dst = false):
  ∃ t1,one1 E cb ops st y = some (t1,cy) ∧ one1 E cb ops t1 x = some (s2,cx):=by
 obtain ⟨t,hg,htl,hpk⟩:=isPick_one (E:=E) (cb:=cb) (ops:=ops) hm
 obtain ⟨v,rfl,hmv⟩:=hpk hx
 obtain ⟨hd,l,os,fm,_,rfl,hy',_⟩:=box_one (st:=st) hy h5 (eff_agree h1) (by simp [eff]) rfl rfl
 refine ⟨_,hy',?_⟩
 rw [hmv hle l _ reg_map]
 congr 2
 have hmap:(setReg st.regs x.dst v).map (SV.kill false l) = setReg (st.regs.map (SV.kill false l)) x.dst (v.kill false l):=by
  cases x.dst with
  | none=>rfl
  | some d=>simp [setReg,List.map_set]
 have:∀ (a b:St),a.regs = b.regs → a.objs = b.objs → a.ro = b.ro → a.fx = b.fx → a.frm = b.frm → a = b:=by
  intro a b h1 h2 h3 h4 h5
  cases a; cases b; simp_all
 exact this _ _ hmap.symm (by simp [eff]) rfl rfl rfl
theorem putMut_box {k:Nat} {cs:List Leaf}:∀ (t:Ty) {os os':Objs} {y:t.den} {ls r:List Leaf},putMut os t y ls = some (os',r) → obj os k = .box cs → obj os' k = .box cs
 | .pair a b,os,os',y,ls,r,h,hk=>by
  simp only [putMut] at h
  split at h
  ·rename_i os1 r1 h1
   exact putMut_box b h (putMut_box a h1 hk)
  ·cases h
 | .unit,os,os',y,ls,r,h,hk=>by
  simp only [putMut,Option.some.injEq,Prod.mk.injEq] at h
  obtain ⟨rfl,_⟩:=h; exact hk
 | .slice e t,os,os',y,ls,r,h,hk=>by
  cases ls with
  | nil=>cases h
  | cons c ls=>
   cases c <;> simp only [putMut] at h <;> try (cases h; done)
   ·simp only [Option.some.injEq,Prod.mk.injEq] at h; obtain ⟨rfl,_⟩:=h; exact hk
   ·split at h
    ·rename_i l _ _ _ _ _ ho
     split at h
     ·simp only [Option.some.injEq,Prod.mk.injEq] at h
      obtain ⟨rfl,_⟩:=h
      rw [obj_set_ne (fun e=>by rw [e,ho] at hk; cases hk)]; exact hk
     ·cases h
    ·cases h
   ·split at h
    ·rename_i l _ _ _ _ _ _ _ ho
     split at h
     ·simp only [Option.some.injEq,Prod.mk.injEq] at h
      obtain ⟨rfl,_⟩:=h
      rw [obj_set_ne (fun e=>by rw [e,ho] at hk; cases hk)]; exact hk
     ·cases h
    ·cases h
 | .int n,os,os',y,ls,r,h,hk=>by
  cases ls with
  | nil=>cases h
  | cons c ls=>simp only [putMut,Option.some.injEq,Prod.mk.injEq] at h; obtain ⟨rfl,_⟩:=h; exact hk
 | .bool,os,os',y,ls,r,h,hk=>by
  cases ls with
  | nil=>cases h
  | cons c ls=>simp only [putMut,Option.some.injEq,Prod.mk.injEq] at h; obtain ⟨rfl,_⟩:=h; exact hk
 | .str,os,os',y,ls,r,h,hk=>by
  cases ls with
  | nil=>cases h
  | cons c ls=>simp only [putMut,Option.some.injEq,Prod.mk.injEq] at h; obtain ⟨rfl,_⟩:=h; exact hk
theorem putMuts_box {k:Nat} {cs:List Leaf} {os0:Objs} {Lc:List Nat}:∀ (ps:List PIn) {os os':Objs} {y:mutsDen ps} {vs:List SV} {x:insDen ps} {L W:List Nat},gatherIns cb os0 ps vs = some (x,L,W) → k ∉ W → putMuts Lc os ps y vs = some os' → obj os k = .box cs → obj os' k = .box cs
 | [],os,os',y,vs,x,L,W,_,_,h,hk=>by
  cases vs with
  | nil=>simp only [putMuts,Option.some.injEq] at h; subst h; exact hk
  | cons _ _=>simp only [putMuts,Option.some.injEq] at h; subst h; exact hk
 | .imm b t :: ps,os,os',y,vs,x,L,W,hg,hW,h,hk=>by
  cases vs with
  | nil=>cases h
  | cons v vs=>
   simp only [gatherIns] at hg
   split at hg
   ·split at hg
    ·split at hg
     ·split at hg
      ·rename_i hr
       simp only [Option.some.injEq,Prod.mk.injEq] at hg
       obtain ⟨_,_,rfl⟩:=hg
       exact putMuts_box ps hr hW h hk
      ·cases hg
     ·cases hg
    ·cases hg
   ·cases hg
 | .clo gs r :: ps,os,os',y,vs,x,L,W,hg,hW,h,hk=>by
  cases vs with
  | nil=>cases h
  | cons v vs=>
   cases v with
   | one c=>
    cases c <;> simp only [gatherIns] at hg <;> try (cases hg; done)
    ·split at hg
     ·rename_i hr
      simp only [Option.some.injEq,Prod.mk.injEq] at hg
      obtain ⟨_,_,rfl⟩:=hg
      exact putMuts_box ps hr hW h hk
     ·cases hg
    ·split at hg
     ·split at hg
      ·rename_i hr
       simp only [Option.some.injEq,Prod.mk.injEq] at hg
       obtain ⟨_,_,rfl⟩:=hg
       exact putMuts_box ps hr hW h hk
      ·cases hg
     ·cases hg
   | agg _=>simp [gatherIns] at hg
   | tup _=>simp [gatherIns] at hg
 | .mut b t :: ps,os,os',y,vs,x,L,W,hg,hW,h,hk=>by
  cases vs with
  | nil=>cases h
  | cons v vs=>
   simp only [gatherIns] at hg
   split at hg
   ·split at hg
    ·split at hg
     ·split at hg
      ·rename_i hr
       simp only [Option.some.injEq,Prod.mk.injEq] at hg
       obtain ⟨_,_,rfl⟩:=hg
       simp only [putMuts] at h
       split at h
       ·split at h
        ·rename_i h1
         exact putMuts_box ps hr (fun hm=>hW (List.mem_append.2 (.inr hm))) h (putMut_box t h1 hk)
        ·cases h
       ·cases h
      ·cases hg
     ·cases hg
    ·cases hg
   ·cases hg
 | .ptr t :: ps,os,os',y,vs,x,L,W,hg,hW,h,hk=>by
  cases vs with
  | nil=>cases h
  | cons v vs=>
   cases v with
   | one c=>
    cases c <;> simp only [gatherIns] at hg <;> try (cases hg; done)
    split at hg
    ·split at hg
     ·split at hg
      ·split at hg
       ·rename_i hr
        simp only [Option.some.injEq,Prod.mk.injEq] at hg
        obtain ⟨_,_,rfl⟩:=hg
        simp only [putMuts] at h
        simp only [List.mem_cons,not_or] at hW
        exact putMuts_box ps hr hW.2 h (by rw [obj_set_ne hW.1]; exact hk)
       ·cases hg
      ·cases hg
     ·cases hg
    ·cases hg
   | agg _=>simp [gatherIns] at hg
   | tup _=>simp [gatherIns] at hg
theorem putMut_keep {k:Nat} {os0:Objs}:∀ (t:Ty) {os os':Objs} {y x:t.den} {L:List Nat} {ls r q:List Leaf},getMut os0 t ls = some (x,L,q) → k ∉ L → putMut os t y ls = some (os',r) → r = q ∧ obj os' k = obj os k
 | .pair a b,os,os',y,x,L,ls,r,q,hg,hL,h=>by
  simp only [getMut] at hg
  split at hg
  case h_2=>cases hg
  rename_i x1 L1 r1 g1
  split at hg
  case h_2=>cases hg
  rename_i x2 L2 r2 g2
  simp only [Option.some.injEq,Prod.mk.injEq] at hg
  obtain ⟨_,rfl,rfl⟩:=hg
  simp only [List.mem_append,not_or] at hL
  simp only [putMut] at h
  split at h
  ·rename_i os1 r3 h1
   obtain ⟨rfl,h3⟩:=putMut_keep a g1 hL.1 h1
   obtain ⟨h4,h5⟩:=putMut_keep b g2 hL.2 h
   exact ⟨h4,h5.trans h3⟩
  ·cases h
 | .unit,os,os',y,x,L,ls,r,q,hg,hL,h=>by
  simp only [putMut,Option.some.injEq,Prod.mk.injEq] at h
  simp only [getMut,Option.some.injEq,Prod.mk.injEq] at hg
  obtain ⟨rfl,rfl⟩:=h; exact ⟨hg.2.2,rfl⟩
 | .slice e t,os,os',y,x,L,ls,r,q,hg,hL,h=>by
  cases ls with
  | nil=>cases h
  | cons c ls=>
   cases c <;> simp only [putMut] at h <;> try (cases h; done)
   ·simp only [Option.some.injEq,Prod.mk.injEq] at h
    simp only [getMut,Option.some.injEq,Prod.mk.injEq] at hg
    obtain ⟨rfl,rfl⟩:=h; exact ⟨hg.2.2,rfl⟩
   ·simp only [getMut] at hg
    split at hg
    case h_2=>cases hg
    split at hg
    case isFalse=>cases hg
    split at hg
    case h_2=>cases hg
    simp only [Option.some.injEq,Prod.mk.injEq] at hg
    obtain ⟨_,rfl,rfl⟩:=hg
    split at h
    ·split at h
     ·simp only [Option.some.injEq,Prod.mk.injEq] at h
      obtain ⟨rfl,rfl⟩:=h
      exact ⟨rfl,obj_set_ne (by simpa using hL)⟩
     ·cases h
    ·cases h
   ·simp only [getMut] at hg
    split at hg
    case h_2=>cases hg
    split at hg
    case h_2=>cases hg
    split at hg
    case isFalse=>cases hg
    split at hg
    case h_2=>cases hg
    simp only [Option.some.injEq,Prod.mk.injEq] at hg
    obtain ⟨_,rfl,rfl⟩:=hg
    split at h
    ·split at h
     ·simp only [Option.some.injEq,Prod.mk.injEq] at h
      obtain ⟨rfl,rfl⟩:=h
      exact ⟨rfl,obj_set_ne (by simpa using hL)⟩
     ·cases h
    ·cases h
 | .int n,os,os',y,x,L,ls,r,q,hg,hL,h=>by
  cases ls with
  | nil=>cases h
  | cons c ls=>
   simp only [putMut,Option.some.injEq,Prod.mk.injEq] at h
   cases c <;> simp only [getMut] at hg <;> try (cases hg; done)
   split at hg
   case h_2=>cases hg
   simp only [Option.some.injEq,Prod.mk.injEq] at hg
   obtain ⟨rfl,rfl⟩:=h; exact ⟨hg.2.2,rfl⟩
 | .bool,os,os',y,x,L,ls,r,q,hg,hL,h=>by
  cases ls with
  | nil=>cases h
  | cons c ls=>
   simp only [putMut,Option.some.injEq,Prod.mk.injEq] at h
   cases c <;> simp only [getMut] at hg <;> try (cases hg; done)
   split at hg
   case h_2=>cases hg
   simp only [Option.some.injEq,Prod.mk.injEq] at hg
   obtain ⟨rfl,rfl⟩:=h; exact ⟨hg.2.2,rfl⟩
 | .str,os,os',y,x,L,ls,r,q,hg,hL,h=>by
  cases ls with
  | nil=>cases h
  | cons c ls=>
   simp only [putMut,Option.some.injEq,Prod.mk.injEq] at h
   cases c <;> simp only [getMut] at hg <;> try (cases hg; done)
   split at hg
   case h_2=>cases hg
   simp only [Option.some.injEq,Prod.mk.injEq] at hg
   obtain ⟨rfl,rfl⟩:=h; exact ⟨hg.2.2,rfl⟩
theorem putMuts_keep {k:Nat} {os0:Objs} {Lc:List Nat}:∀ (ps:List PIn) {os os':Objs} {y:mutsDen ps} {vs:List SV} {x:insDen ps} {L W:List Nat},gatherIns cb os0 ps vs = some (x,L,W) → k ∉ W → putMuts Lc os ps y vs = some os' → obj os' k = obj os k
 | [],os,os',y,vs,x,L,W,_,_,h=>by
  cases vs with
  | nil=>simp only [putMuts,Option.some.injEq] at h; subst h; rfl
  | cons _ _=>simp only [putMuts,Option.some.injEq] at h; subst h; rfl
 | .imm b t :: ps,os,os',y,vs,x,L,W,hg,hW,h=>by
  cases vs with
  | nil=>cases h
  | cons v vs=>
   simp only [gatherIns] at hg
   split at hg
   ·split at hg
    ·split at hg
     ·split at hg
      ·rename_i hr
       simp only [Option.some.injEq,Prod.mk.injEq] at hg
       obtain ⟨_,_,rfl⟩:=hg
       exact putMuts_keep ps hr hW h
      ·cases hg
     ·cases hg
    ·cases hg
   ·cases hg
 | .clo gs r :: ps,os,os',y,vs,x,L,W,hg,hW,h=>by
  cases vs with
  | nil=>cases h
  | cons v vs=>
   cases v with
   | one c=>
    cases c <;> simp only [gatherIns] at hg <;> try (cases hg; done)
    ·split at hg
     ·rename_i hr
      simp only [Option.some.injEq,Prod.mk.injEq] at hg
      obtain ⟨_,_,rfl⟩:=hg
      exact putMuts_keep ps hr hW h
     ·cases hg
    ·split at hg
     ·split at hg
      ·rename_i hr
       simp only [Option.some.injEq,Prod.mk.injEq] at hg
       obtain ⟨_,_,rfl⟩:=hg
       exact putMuts_keep ps hr hW h
      ·cases hg
     ·cases hg
   | agg _=>simp [gatherIns] at hg
   | tup _=>simp [gatherIns] at hg
 | .mut b t :: ps,os,os',y,vs,x,L,W,hg,hW,h=>by
  cases vs with
  | nil=>cases h
  | cons v vs=>
   simp only [gatherIns] at hg
   split at hg
   case h_2=>cases hg
   rename_i b' ls hlv
   split at hg
   case isFalse=>cases hg
   split at hg
   case h_2=>cases hg
   rename_i x1 L1 hgm
   split at hg
   case h_2=>cases hg
   rename_i hr
   simp only [Option.some.injEq,Prod.mk.injEq] at hg
   obtain ⟨_,_,rfl⟩:=hg
   simp only [List.mem_append,not_or] at hW
   simp only [putMuts,hlv] at h
   split at h
   ·rename_i h1
    exact (putMuts_keep ps hr hW.2 h).trans (putMut_keep t hgm hW.1 h1).2
   ·cases h
 | .ptr t :: ps,os,os',y,vs,x,L,W,hg,hW,h=>by
  cases vs with
  | nil=>cases h
  | cons v vs=>
   cases v with
   | one c=>
    cases c <;> simp only [gatherIns] at hg <;> try (cases hg; done)
    split at hg
    ·split at hg
     ·split at hg
      ·split at hg
       ·rename_i hr
        simp only [Option.some.injEq,Prod.mk.injEq] at hg
        obtain ⟨_,_,rfl⟩:=hg
        simp only [putMuts] at h
        simp only [List.mem_cons,not_or] at hW
        exact (putMuts_keep ps hr hW.2 h).trans (obj_set_ne hW.1)
       ·cases hg
      ·cases hg
     ·cases hg
    ·cases hg
   | agg _=>simp [gatherIns] at hg
   | tup _=>simp [gatherIns] at hg
theorem deepLeaves_rows:∀ (t:Ty) (x:t.den) (n:Nat),∀ o ∈ (deepLeaves t x n).2,∃ e u xs d L,o = .row e u xs d L
 | .pair a b,x,n,o,ho=>by
  simp only [deepLeaves,List.mem_append] at ho
  rcases ho with ho | ho
  ·exact deepLeaves_rows a _ _ o ho
  ·exact deepLeaves_rows b _ _ o ho
 | .unit,_,_,o,ho=>by simp [deepLeaves] at ho
 | .int _,_,_,o,ho=>by simp [deepLeaves] at ho
 | .bool,_,_,o,ho=>by simp [deepLeaves] at ho
 | .str,_,_,o,ho=>by simp [deepLeaves] at ho
 | .slice e t,x,n,o,ho=>by
  simp only [deepLeaves,List.mem_singleton] at ho
  exact ⟨e,t,x,true,[],ho⟩
theorem outLeaves_rows {L:List Nat}:∀ (ps:List POut) (y:outsDen ps) (n:Nat),∀ o ∈ (outLeaves L ps y n).2,∃ e u xs d L,o = .row e u xs d L
 | [],_,_,o,ho=>by simp [outLeaves] at ho
 | .imm b t :: ps,y,n,o,ho=>by
  simp only [outLeaves] at ho
  exact outLeaves_rows ps _ _ o ho
 | .deep b t :: ps,y,n,o,ho=>by
  simp only [outLeaves,List.mem_append] at ho
  rcases ho with ho | ho
  ·exact deepLeaves_rows t _ _ o ho
  ·exact outLeaves_rows ps _ _ o ho
def WrOk (E:Env) (cb:CB) (ops:List Oper) (st s1 s2:St) (y:Oper) (cy:Nat):Prop:=
 ∃ f out os fm,Kl (cy / 8) f ∧ s2 = { s1 with regs:=setReg (s1.regs.map (SV.mapL f)) y.dst out,objs:=os,frm:=fm } ∧ one1 E cb ops st y = some ({ st with regs:=setReg (st.regs.map (SV.mapL f)) y.dst out,objs:=os,frm:=fm },cy) ∧
  (∀ k cs,(cy / 8).testBit (2 * k + 1) = false → obj st.objs k = .box cs → obj os k = .box (cs.map f)) ∧
  (∀ k cs,(cy / 8).testBit (2 * k + 1) = false → obj os k = .box cs → ∃ ds,obj st.objs k = .box ds) ∧
  (∀ k e t xs d L,((cy / 8).testBit (2 * k + 1) = false ∨ (cy % 8 ≠ 6 ∧ (cy / 8).testBit (2 * k + 2) = false)) → obj st.objs k = .row e t xs d L → obj os k = .row e t xs d L) ∧
  (cy % 8 ≠ 6 → ∀ k e t xs d L,((cy / 8).testBit (2 * k + 1) = false ∨ (cy / 8).testBit (2 * k + 2) = false) → obj os k = .row e t xs d L → obj st.objs k = .row e t xs d L)
theorem box_map {os:Objs} {f:Leaf → Leaf} {k:Nat} {cs:List Leaf} (h:obj os k = .box cs):obj (os.map (AObj.mapL f)) k = .box (cs.map f):=by
 have hl:k < os.length:=obj_lt (by rw [h]; simp)
 simp only [obj,List.getD,List.getElem?_map,List.getElem?_eq_getElem hl,Option.map_some,Option.getD_some] at h ⊢
 rw [h]; rfl
theorem box_back {os:Objs} {f:Leaf → Leaf} {k:Nat} {cs:List Leaf} (h:obj (os.map (AObj.mapL f)) k = .box cs):∃ ds,obj os k = .box ds:=by
 by_cases hl:k < os.length
 ·simp only [obj,List.getD,List.getElem?_map,List.getElem?_eq_getElem hl,Option.map_some,Option.getD_some] at h ⊢
  cases ho:os[k] with
  | box ds=>exact ⟨ds,rfl⟩
  | row _ _ _ _ _=>rw [ho] at h; cases h
  | dead=>rw [ho] at h; cases h
 ·simp [obj,List.getD,List.getElem?_eq_none (show (os.map (AObj.mapL f)).length ≤ k by simp; omega)] at h
theorem call_one {ops:List Oper} {st s1 s2:St} {y:Oper} {cy:Nat} (h:one1 E cb ops s1 y = some (s2,cy)) (h6:cy % 8 = 6) (ha:AgreeOn ops y s1 st) (ho:s1.objs = st.objs) (hr:s1.ro = st.ro) (hx:s1.fx = st.fx) (hf:s1.frm = st.frm):
  WrOk E cb ops st s1 s2 y cy:=by
 have hev:=agree_ev ha
 unfold WrOk
 unfold one1 at h ⊢
 rw [agree_guard ha]
 cases hg:guardOk ops s1 y with
 | none=>rw [hg] at h; cases h
 | some bb=>
 cases bb with
 | false=>rw [hg] at h; simp only [Option.some.injEq,Prod.mk.injEq] at h; omega
 | true=>
 rw [hg] at h
 simp only at h ⊢
 unfold step at h ⊢
 split at h
 case h_2=>
  exfalso
  split at h
  ·cases h
  ·rw [Tree.run_map] at h
   obtain ⟨p,_,h2⟩:=Tree.run_some _ h
   simp only [Option.some.injEq,Prod.mk.injEq] at h2
   have:=clsV_le (E:=E) (ρ:=s1.ev) (o:=y) (os:=p.2)
   omega
 rename_i t ht
 rw [Tree.run_map] at h
 obtain ⟨s3,h1,h2⟩:=Tree.run_some t h
 simp only [Option.some.injEq,Prod.mk.injEq] at h2
 obtain ⟨rfl,rfl⟩:=h2
 obtain ⟨c,f,g,s,x,L,W,hop,hc,hfl,hrf,hsg,hgi,hw⟩:=wcls_lend h6
 have hops:=call_ops (c:=c)
 have ef:s1.ev f = st.ev f:=hev f (by rw [hop]; exact hops.2 f hc)
 have eargs:c.args.toList.map s1.ev = c.args.toList.map st.ev:=List.map_congr_left fun z hz=>hev z (by rw [hop]; exact hops.1 z hz)
 have hw2:wcls E cb st.ev st.objs y = wcls E cb s1.ev s1.objs y:=by
  rw [hw]
  unfold wcls
  simp only [hop,hc,← ef,hfl,hrf,hsg,← eargs,← ho,hgi]
 unfold stepW at ht ⊢
 simp only [hop,hc,hfl,hrf,hsg,← ef] at ht ⊢
 split at ht
 case isFalse=>cases ht
 rename_i hm
 rw [if_pos hm]
 simp only [Option.some.injEq] at ht
 subst ht
 simp only
 rw [Tree.run_map,hw2,hw]
 unfold callM at h1 ⊢
 rw [← eargs,← ho,← hr]
 rw [hgi] at h1 ⊢
 simp only at h1 ⊢
 split at h1
 case isFalse=>cases h1
 rename_i hcond
 rw [if_pos hcond]
 simp only [Tree.run] at h1 ⊢
 cases hy:s.fn x with
 | none=>rw [hy] at h1; cases h1
 | some z=>
 rw [hy] at h1
 simp only [Option.bind_some] at h1 ⊢
 split at h1
 ·cases h1
 rename_i st1 hk
 obtain ⟨kf,hkl,rfl,hst⟩:=KL.killAll (hd:=false) (W:=W) W (fun _ h=>h) _ _ hk
 rw [hst st ho.symm hr.symm hx.symm]
 try simp only
 split at h1
 ·cases h1
 rename_i os hput
 have hput2:putMuts L (st.mapS kf).objs s.ins z.2 (c.args.toList.map s1.ev) = some os:=by
  rw [show (st.mapS kf).objs = (s1.mapS kf).objs by simp only [St.mapS,ho]]; exact hput
 try simp only [hput2]
 simp only [Tree.run,Option.some.injEq] at h1 ⊢
 subst h1
 refine ⟨kf,packOuts (outLeaves L s.outs z.1 os.length).1,os ++ (outLeaves L s.outs z.1 os.length).2,s1.frm.map kf,by rw [show (6 + 8 * maskOf (codes false W)) / 8 = maskOf (codes false W) by omega]; exact hkl,rfl,by simp only [St.put,St.mapS,hf,hr],fun k cs hkW hkb=>?_,fun k cs hkW hkb=>?_,fun k e t xs d L' hkW hkb=>?_,fun h=>absurd (by omega) h⟩
 rotate_left
 ·have hkW:k ∉ W:=fun hm=>by
   rw [show (6 + 8 * maskOf (codes false W)) / 8 = maskOf (codes false W) by omega] at hkW
   exact mask_not hkW (mem_codes hm).1
  by_cases hlt:k < os.length
  ·rw [obj_app hlt,putMuts_keep s.ins hgi hkW hput] at hkb
   exact box_back hkb
  ·exfalso
   have hl2:=obj_lt (os:=os ++ (outLeaves L s.outs z.1 os.length).2) (l:=k) (by rw [hkb]; simp)
   have he:obj (os ++ (outLeaves L s.outs z.1 os.length).2) k ∈ (outLeaves L s.outs z.1 os.length).2:=by
    rw [List.length_append] at hl2
    simp only [obj,List.getD,List.getElem?_append_right (show os.length ≤ k by omega),List.getElem?_eq_getElem (show k - os.length < (outLeaves L s.outs z.1 os.length).2.length by omega),Option.getD_some]
    exact List.getElem_mem _
   obtain ⟨_,_,_,_,_,he2⟩:=outLeaves_rows _ _ _ _ he
   rw [hkb] at he2; cases he2
 ·have hkW:k ∉ W:=fun hm=>by
   rcases hkW with hkW | ⟨hkW,_⟩
   ·rw [show (6 + 8 * maskOf (codes false W)) / 8 = maskOf (codes false W) by omega] at hkW
    exact mask_not hkW (mem_codes hm).1
   ·omega
  have e1:obj (s1.mapS kf).objs k = .row e t xs d L':=(row_mapL (fun _=>rfl)).1 hkb
  have:=(putMuts_keep s.ins hgi hkW hput).trans e1
  rw [obj_app (obj_lt (by rw [this]; simp)),this]
 have hkW:k ∉ W:=fun hm=>by
  rw [show (6 + 8 * maskOf (codes false W)) / 8 = maskOf (codes false W) by omega] at hkW
  have:=mask_not hkW
  exact this (mem_codes hm).1
 have hkl2:k < s1.objs.length:=obj_lt (by rw [hkb]; simp)
 have e1:obj (s1.mapS kf).objs k = .box (cs.map kf):=by
  simp only [St.mapS,obj,List.getD,List.getElem?_map,List.getElem?_eq_getElem hkl2,Option.map_some,Option.getD_some] at hkb ⊢
  rw [hkb]; rfl
 have:=(putMuts_keep s.ins hgi hkW hput).trans e1
 rw [obj_app (obj_lt (by rw [this]; simp)),this]
theorem seven_one {ops:List Oper} {st s1 s2:St} {y:Oper} {cy:Nat} (h:one1 E cb ops s1 y = some (s2,cy)) (h7:cy % 8 = 7) (ha:AgreeOn ops y s1 st) (ho:s1.objs = st.objs) (hr:s1.ro = st.ro) (hx:s1.fx = st.fx) (hf:s1.frm = st.frm):
  WrOk E cb ops st s1 s2 y cy:=by
 have hev:=agree_ev ha
 have hgd:=agree_guard ha
 clear ha
 obtain ⟨r1,os1,ro1,fx1,fm1⟩:=s1
 obtain ⟨r2,os2,ro2,fx2,fm2⟩:=st
 simp only at ho hr hx hf
 subst ho hr hx hf
 unfold WrOk
 unfold one1 at h ⊢
 rw [hgd]
 cases hg:guardOk ops _ y with
 | none=>rw [hg] at h; cases h
 | some bb=>
 cases bb with
 | false=>rw [hg] at h; simp only [Option.some.injEq,Prod.mk.injEq] at h; omega
 | true=>
 rw [hg] at h
 simp only at h ⊢
 unfold step at h ⊢
 split at h
 case h_2=>
  exfalso
  split at h
  ·cases h
  ·rw [Tree.run_map] at h
   obtain ⟨p,_,h2⟩:=Tree.run_some _ h
   simp only [Option.some.injEq,Prod.mk.injEq] at h2
   have:=clsV_le (E:=E) (ρ:=St.ev ⟨r1,os1,ro1,fx1,fm1⟩) (o:=y) (os:=p.2)
   omega
 rename_i t ht
 rw [Tree.run_map] at h
 obtain ⟨s3,h1,h2⟩:=Tree.run_some t h
 simp only [Option.some.injEq,Prod.mk.injEq] at h2
 obtain ⟨rfl,rfl⟩:=h2
 rcases wcls_seven h7 with ⟨tt,n,parts,e,ti,td,xs,m,M,hop,htt,htd,hte,hps,hw⟩ | ⟨c,so,xo,l,hop,hc,hargs,hl,hw⟩ | ⟨tt,d,l,hop,hdst,hl,hw⟩
 ·
  have hpe:parts.toList.map (fun p=>(p.1,St.ev ⟨r2,os1,ro1,fx1,fm1⟩ p.2)) = parts.toList.map (fun p=>(p.1,St.ev ⟨r1,os1,ro1,fx1,fm1⟩ p.2)):=by
   refine List.map_congr_left fun p hp=>?_
   rw [hev p.2 (by rw [hop]; simp only [Op.operands,Array.toList_map]; exact List.mem_map.2 ⟨p,hp,rfl⟩)]
  have hw2:wcls E cb (St.ev ⟨r2,os1,ro1,fx1,fm1⟩) os1 y = wcls E cb (St.ev ⟨r1,os1,ro1,fx1,fm1⟩) os1 y:=by
   unfold wcls
   simp only [hop,hpe]
  obtain ⟨td',ty',ag',by'⟩:=td
  obtain rfl:td' = .slice e:=htd
  unfold stepW at ht ⊢
  simp only [hop,htt,hte,hps,hpe] at ht ⊢
  split at ht
  case isTrue=>cases ht
  rename_i hcond
  rw [if_neg hcond]
  simp only [Option.some.injEq] at ht
  subst ht
  simp only
  rw [Tree.run_map,hw2,hw]
  split at h1
  case isFalse=>cases h1
  rename_i hcond2
  rw [if_pos hcond2]
  split at h1
  case h_2=>cases h1
  rename_i s4 hmv
  obtain ⟨kf,hkl,rfl,hst⟩:=KL.move (W:=m :: M ++ [os1.length]) (M:=m :: M) (l:=os1.length) (fun k hk=>List.mem_append_left _ hk) (by simp) _ _ hmv
  have hst2:=hst ⟨r2,os1 ++ [AObj.row e ti.ty [] true []],ro1,fx1,fm1⟩ rfl rfl rfl
  simp only at hst2
  rw [hst2]
  simp only [Tree.run,Option.some.injEq] at h1 ⊢
  subst h1
  have e8:(7 + 8 * maskOf (codes true (m :: M ++ [os1.length]))) / 8 = maskOf (codes true (m :: M ++ [os1.length])):=by omega
  have hno:∀ k,((7 + 8 * maskOf (codes true (m :: M ++ [os1.length]))) / 8).testBit (2 * k + 1) = false → k ∉ m :: M ++ [os1.length]:=fun k hkW hm=>by
   rw [e8] at hkW
   exact mask_not hkW (mem_codes hm).1
  have hno2:∀ k,((7 + 8 * maskOf (codes true (m :: M ++ [os1.length]))) / 8).testBit (2 * k + 2) = false → k ∉ m :: M ++ [os1.length]:=fun k hkW hm=>by
   rw [e8] at hkW
   exact mask_not hkW ((mem_codes hm).2 rfl)
  refine ⟨kf,_,_,fm1.map kf,by rw [e8]; exact hkl,rfl,by simp only [St.put,St.mapS],fun k cs hkW hkb=>?_,fun k cs hkW hkb=>?_,fun k e0 t0 x0 d0 L0 hkW hkb=>?_,fun _ k e0 t0 x0 d0 L0 hkW hkb=>?_⟩
  rotate_left 2
  ·replace hkW:k ∉ m :: M ++ [os1.length]:=hkW.elim (hno k) fun h=>hno2 k h.2
   simp only [List.mem_append,not_or,List.mem_singleton] at hkW
   rw [obj_set_ne hkW.2,deadAll_ne _ _ hkW.1]
   simp only [St.mapS]
   refine (row_mapL (fun _=>rfl)).1 ?_
   rw [obj_app (obj_lt (by rw [hkb]; simp))]
   exact hkb
  ·replace hkW:k ∉ m :: M ++ [os1.length]:=hkW.elim (hno k) (hno2 k)
   simp only [List.mem_append,not_or,List.mem_singleton] at hkW
   rw [obj_set_ne hkW.2,deadAll_ne _ _ hkW.1] at hkb
   simp only [St.mapS] at hkb
   have hds:=(row_mapL (f:=kf) (fun _=>rfl)).2 hkb
   by_cases hlt:k < os1.length
   ·rw [obj_app hlt] at hds; exact hds
   ·exfalso
    rw [show obj (os1 ++ [AObj.row e ti.ty [] true []]) k = .dead by simp [obj,List.getD,List.getElem?_append,hlt,show ¬ k - os1.length = 0 by omega]] at hds
    cases hds
  all_goals replace hkW:=hno k hkW
  all_goals simp only [List.mem_append,not_or,List.mem_singleton] at hkW
  ·rw [obj_set_ne hkW.2,deadAll_ne _ _ hkW.1]
   simp only [St.mapS]
   refine box_map ?_
   rw [obj_app (obj_lt (by rw [hkb]; simp))]
   exact hkb
  ·rw [obj_set_ne hkW.2,deadAll_ne _ _ hkW.1] at hkb
   simp only [St.mapS] at hkb
   obtain ⟨ds,hds⟩:=box_back hkb
   by_cases hlt:k < os1.length
   ·exact ⟨ds,by rw [obj_app hlt] at hds; exact hds⟩
   ·exfalso
    rw [show obj (os1 ++ [AObj.row e ti.ty [] true []]) k = .dead by simp [obj,List.getD,List.getElem?_append,hlt,show ¬ k - os1.length = 0 by omega]] at hds
    cases hds
 ·
  have e1:St.ev ⟨r1,os1,ro1,fx1,fm1⟩ so = St.ev ⟨r2,os1,ro1,fx1,fm1⟩ so:=hev so (by rw [hop]; exact (call_ops (c:=c)).1 so (by rw [hargs]; simp))
  have e2:St.ev ⟨r1,os1,ro1,fx1,fm1⟩ xo = St.ev ⟨r2,os1,ro1,fx1,fm1⟩ xo:=hev xo (by rw [hop]; exact (call_ops (c:=c)).1 xo (by rw [hargs]; simp))
  have hw2:wcls E cb (St.ev ⟨r2,os1,ro1,fx1,fm1⟩) os1 y = wcls E cb (St.ev ⟨r1,os1,ro1,fx1,fm1⟩) os1 y:=by
   unfold wcls
   simp only [hop,hc,hargs,← e1,← e2,hl]
  unfold stepW at ht ⊢
  simp only [hop,hc,Option.some.injEq] at ht ⊢
  subst ht
  rw [Tree.run_map,hw2,hw]
  rw [hw] at h7
  simp only [hargs] at h1 ⊢
  split at h1
  case h_2=>cases h1
  rename_i so' xo' t u hso hT
  simp only [List.cons.injEq,and_true] at hso
  obtain ⟨rfl,rfl⟩:=hso
  try simp only [hT]
  split at h1
  case isFalse=>cases h1
  rename_i htu
  rw [if_pos htu]
  split at h1
  case h_2=>cases h1
  rename_i e _ _ _ htt
  try simp only [htt]
  split at h1
  case h_2=>cases h1
  rename_i ti hte
  try simp only [hte]
  simp only [← e1,← e2,hl] at h1 ⊢
  generalize (St.ev ⟨r1,os1,ro1,fx1,fm1⟩ xo).leaf = x at h1 h7 ⊢
  unfold appendTo at h1 ⊢
  split at h1
  ·cases h1
  rename_i hro
  rw [if_neg hro]
  unfold appCls at h7 ⊢
  split at h1
  case h_2=>cases h1
  rename_i e' t' ys deep L hob
  simp only [hob] at h7 ⊢
  split at h1
  case isFalse=>cases h1
  rename_i hcc
  rw [if_pos hcc]
  split at h1
  case h_1=>cases h1
  rename_i zs M hsd
  try simp only [hsd]
  simp only [Tree.need,Tree.run] at h1 ⊢
  split at h1
  case isFalse=>cases h1
  rename_i hlen
  rw [if_pos hlen]
  have fin:∀ {W:List Nat} {kf:Leaf → Leaf} {n7:Nat} {o2:Objs → Objs} {out:SV},n7 = 7 + 8 * maskOf (codes true W) → Kl (maskOf (codes true W)) kf → l ∈ W → (∀ (os:Objs) k,k ∉ W → obj (o2 os) k = obj os k) →
    ∃ f out' os fm,Kl (n7 / 8) f ∧ ({ (St.mk r1 os1 ro1 fx1 fm1).mapS kf with objs:=o2 ((St.mk r1 os1 ro1 fx1 fm1).mapS kf).objs }:St).put y.dst out = St.mk (setReg (r1.map (SV.mapL f)) y.dst out') os ro1 fx1 fm ∧
     (({ (St.mk r2 os1 ro1 fx1 fm1).mapS kf with objs:=o2 ((St.mk r1 os1 ro1 fx1 fm1).mapS kf).objs }:St).put y.dst out,n7) = (St.mk (setReg (r2.map (SV.mapL f)) y.dst out') os ro1 fx1 fm,n7) ∧
     (∀ k cs,(n7 / 8).testBit (2 * k + 1) = false → obj os1 k = .box cs → obj os k = .box (cs.map f)) ∧ (∀ k cs,(n7 / 8).testBit (2 * k + 1) = false → obj os k = .box cs → ∃ ds,obj os1 k = .box ds) ∧
     (∀ k e t xs d L,((n7 / 8).testBit (2 * k + 1) = false ∨ (n7 % 8 ≠ 6 ∧ (n7 / 8).testBit (2 * k + 2) = false)) → obj os1 k = .row e t xs d L → obj os k = .row e t xs d L) ∧
     (n7 % 8 ≠ 6 → ∀ k e t xs d L,((n7 / 8).testBit (2 * k + 1) = false ∨ (n7 / 8).testBit (2 * k + 2) = false) → obj os k = .row e t xs d L → obj os1 k = .row e t xs d L):=by
   rintro W kf n7 o2 out rfl hkl hlW ho2
   have e8:(7 + 8 * maskOf (codes true W)) / 8 = maskOf (codes true W):=by omega
   have hno3:∀ k,((7 + 8 * maskOf (codes true W)) / 8).testBit (2 * k + 1) = false → k ∉ W:=fun k hkW hm=>by
    rw [e8] at hkW
    exact mask_not hkW (mem_codes hm).1
   have hno4:∀ k,((7 + 8 * maskOf (codes true W)) / 8).testBit (2 * k + 2) = false → k ∉ W:=fun k hkW hm=>by
    rw [e8] at hkW
    exact mask_not hkW ((mem_codes hm).2 rfl)
   refine ⟨kf,out,_,fm1.map kf,by rw [e8]; exact hkl,rfl,by simp only [St.put,St.mapS],fun k cs hkW hkb=>?_,fun k cs hkW hkb=>?_,fun k e0 t0 x0 d0 L0 hkW hkb=>?_,fun _ k e0 t0 x0 d0 L0 hkW hkb=>?_⟩
   rotate_left 2
   ·rw [ho2 _ k (hkW.elim (hno3 k) fun h=>hno4 k h.2)]
    exact (row_mapL (fun _=>rfl)).1 hkb
   ·rw [ho2 _ k (hkW.elim (hno3 k) (hno4 k))] at hkb
    exact (row_mapL (f:=kf) (fun _=>rfl)).2 hkb
   ·rw [e8] at hkW
    rw [ho2 _ k fun hm=>mask_not hkW (mem_codes hm).1]
    exact box_map hkb
   ·rw [e8] at hkW
    rw [ho2 _ k fun hm=>mask_not hkW (mem_codes hm).1] at hkb
    exact box_back hkb
  split at h1
  ·rename_i hflat
   simp only [if_pos hflat] at h7 ⊢
   split at h1
   ·cases h1
   rename_i hM
   rw [if_neg hM]
   split at h1
   case h_2=>cases h1
   rename_i s4 hk
   obtain ⟨kf,hkl,rfl,hst⟩:=KL.kill (hd:=true) (W:=[l]) (l:=l) (by simp) _ _ hk
   rw [hst ⟨r2,os1,ro1,fx1,fm1⟩ rfl rfl rfl]
   simp only [Tree.run,Option.some.injEq] at h1 ⊢
   subst h1
   have:=fin (o2:=fun os=>os.set l (.row e t' (ys ++ zs) deep L)) (out:=.one (.own l)) (n7:=7 + 8 * maskOf (codes true [l])) rfl hkl (by simp) (fun os k hk=>obj_set_ne (by simpa using hk))
   exact this
  ·rename_i hflat
   simp only [if_neg hflat] at h7 ⊢
   split at h1
   ·
    split at h1
    case h_2=>cases h1
    rename_i s4 hk
    obtain ⟨kf,hkl,rfl,hst⟩:=KL.kill (hd:=true) (W:=[l]) (l:=l) (by simp) _ _ hk
    try simp only
    rw [hst ⟨r2,os1,ro1,fx1,fm1⟩ rfl rfl rfl]
    simp only [Tree.run,Option.some.injEq] at h1 ⊢
    subst h1
    have:=fin (o2:=fun os=>os.set l (.row e t' (ys ++ zs) true L)) (out:=.one (.own l)) (n7:=7 + 8 * maskOf (codes true [l])) rfl hkl (by simp) (fun os k hk=>obj_set_ne (by simpa using hk))
    exact this
   ·
    rename_i m
    try simp only at h7 ⊢
    split at h1
    ·rename_i e2 t2 _ _ hom
     simp only [hom] at h7 ⊢
     split at h1
     ·rename_i hcond
      simp only [if_pos hcond] at h7 ⊢
      split at h1
      case h_2=>cases h1
      rename_i s4 hmv
      obtain ⟨kf,hkl,rfl,hst⟩:=KL.move (W:=[m,l]) (M:=[m]) (l:=l) (by simp) (by simp) _ _ hmv
      have hst2:=hst ⟨r2,os1,ro1,fx1,fm1⟩ rfl rfl rfl
      simp only at hst2
      rw [hst2]
      simp only [Tree.run,Option.some.injEq] at h1 ⊢
      subst h1
      have:=fin (o2:=fun os=>(deadAll [m] os).set l (.row e t' (ys ++ zs) true L)) (out:=.one (.own l)) (n7:=7 + 8 * maskOf (codes true [m,l])) rfl hkl (by simp) (fun os k hk=>by
       simp only [List.mem_cons,not_or,List.not_mem_nil,or_false] at hk
       rw [obj_set_ne hk.2,deadAll_ne _ _ (by simpa using hk.1)])
      exact this
     ·rename_i hcond
      rw [if_neg hcond] at h7
      omega
    ·exfalso
     first | (simp_all; done) | (simp_all; omega)
   ·exfalso
    first | (simp_all; done) | (simp_all; omega)
 ·
  have hw2:wcls E cb (St.ev ⟨r2,os1,ro1,fx1,fm1⟩) os1 y = wcls E cb (St.ev ⟨r1,os1,ro1,fx1,fm1⟩) os1 y:=by
   unfold wcls
   simp only [hop,hdst,hl]
  unfold stepW at ht ⊢
  simp only [hop,hdst,hl,Option.some.injEq] at ht ⊢
  subst ht
  split at h1
  case h_2=>cases h1
  rename_i ti hti
  split at h1
  case h_2=>cases h1
  rename_i hob
  split at h1
  case isFalse=>cases h1
  rename_i hc
  simp only [Tree.run,Option.some.injEq] at h1
  subst h1
  rw [hw2,hw]
  have hlt:l < os1.length:=by simp only [Bool.and_eq_true] at hc; simpa using hc.1.1
  have e8:(7 + 8 * maskOf (codes true [l])) / 8 = maskOf (codes true [l]):=by omega
  have hno:∀ k,((7 + 8 * maskOf (codes true [l])) / 8).testBit (2 * k + 1) = false → k ≠ l:=fun k hkW hm=>by
   rw [e8] at hkW
   exact mask_not hkW (mem_codes (by simp [hm])).1
  have hmap:∀ (r:List SV),r.map (SV.mapL id) = r:=fun r=>by
   have:SV.mapL id = id:=by funext v; cases v <;> simp [SV.mapL]
   rw [this,List.map_id]
  refine ⟨id,.one (.ptr l 0),os1.set l (.box (zeroLeaves ti.ty)),fm1,by rw [e8]; exact Kl.id _,?_,?_,fun k cs hkW hkb=>?_,fun k cs hkW hkb=>?_,fun k e0 t0 x0 d0 L0 hkW hkb=>?_,fun _ k e0 t0 x0 d0 L0 hkW hkb=>?_⟩
  rotate_right 2
  ·have hkl:k ≠ l:=fun e=>by rw [e,hob] at hkb; cases hkb
   rw [obj_set_ne hkl]; exact hkb
  ·have hkl:k ≠ l:=fun e=>by rw [e,obj_set_eq hlt] at hkb; cases hkb
   rw [obj_set_ne hkl] at hkb; exact hkb
  ·simp only [St.put,hmap]
  ·rw [Tree.run_map]
   simp only [hti,hob,hc,if_true,Tree.run,St.put,hmap]
  ·rw [obj_set_ne (hno k hkW),hkb]; simp
  ·rw [obj_set_ne (hno k hkW)] at hkb
   exact ⟨cs,hkb⟩
theorem box_wr {ops:List Oper} {st s1 s2:St} {y:Oper} {cy:Nat} (h:one1 E cb ops s1 y = some (s2,cy)) (h5:cy % 8 = 5) (ha:AgreeOn ops y s1 st) (ho:s1.objs = st.objs) (hr:s1.ro = st.ro) (hx:s1.fx = st.fx) (hf:s1.frm = st.frm):
  WrOk E cb ops st s1 s2 y cy:=by
 obtain ⟨hd,l,os,fm,hcy,rfl,h2,h3,h4,h5'⟩:=box_one h h5 ha ho hr hf
 have e1:(SV.kill false l) = SV.mapL (Leaf.kill false l):=by funext v; exact sv_map_kill v
 have e8:cy / 8 = maskOf (codes false [l]):=by omega
 refine ⟨Leaf.kill false l,.one .undef,os,fm,by rw [e8]; exact Kl.kill (by simp),by rw [hd,← e1]; rfl,by rw [h2,hd,← e1]; rfl,fun k cs hk hkb=>h3 k cs ?_ hkb,fun k cs hk hkb=>h4 k cs ?_ hkb,fun k e t xs d L _ hk=>(h5' k e t xs d L).1 hk,fun _ k e t xs d L _ hk=>(h5' k e t xs d L).2 hk⟩
 all_goals rintro rfl
 all_goals rw [e8] at hk
 all_goals exact mask_not hk (mem_codes (by simp)).1
theorem wr_one {ops:List Oper} {st s1 s2:St} {y:Oper} {cy:Nat} (h:one1 E cb ops s1 y = some (s2,cy)) (h5:cy % 8 = 5 ∨ cy % 8 = 6 ∨ cy % 8 = 7) (ha:AgreeOn ops y s1 st) (ho:s1.objs = st.objs) (hr:s1.ro = st.ro) (hx:s1.fx = st.fx) (hf:s1.frm = st.frm):
  WrOk E cb ops st s1 s2 y cy:=by
 rcases h5 with h5 | h5 | h5
 ·exact box_wr h h5 ha ho hr hx hf
 ·exact call_one h h5 ha ho hr hx hf
 ·exact seven_one h h5 ha ho hr hx hf
theorem mk_info {ops:List Oper} {st s1:St} {x:Oper} {cx:Nat} (h:one1 E cb ops st x = some (s1,cx)) (hc:cx % 8 ≤ 1) (hk:cx / 8 ≠ 0):
  (∀ z ∈ x.op.operands.toList,(st.ev z).firm = true ∧ ∀ k ∈ (st.ev z).code,(cx / 8).testBit (k + 1) = true) ∧ ∃ v,s1 = eff st x v [] ∧ (v.firm = true ∧ ∀ k ∈ v.code,(cx / 8).testBit (k + 1) = true) ∧ (cx % 8 = 1 → (∃ t a l off ti,x.op = .load t a ∧ (st.ev a).leaf = .ptr l off ∧ tyOf E t = some ti ∧ loadOp st.objs ti (.ptr l off) = some v ∧ (cx / 8).testBit (2 * l + 1) = true) ∨
   (∃ p e t xs d L,lookOf st.ev x = some p ∧ (cx / 8).testBit (lookBit p + 1) = true ∧ (p.2.1 = true → isIx x = true) ∧ obj st.objs p.1 = .row e t xs d L ∧ (stepV E cb st.ev st.objs x).run some = some (v,[]) ∧ clsV E st.ev x [] = 1)) ∧
  stepW E cb st x = none ∧ (handsClo E st.ev x && !Nat.beq st.fx 0) = false ∧ (cx % 8 = 1 → ∃ p,lookOf st.ev x = some p ∧ ((cx / 8) % 2 = 1 → p.2.2 = true)):=by
 unfold one1 at h
 split at h
 ·rename_i hg
  unfold step at h
  split at h
  ·rename_i t ht
   rw [Tree.run_map] at h
   obtain ⟨s,_,h2⟩:=Tree.run_some t h
   simp only [Option.some.injEq,Prod.mk.injEq] at h2
   have:=wcls_ge E cb st.ev st.objs x
   omega
  ·rename_i hWn
   split at h
   ·cases h
   rename_i hhn
   rw [Tree.run_map] at h
   obtain ⟨⟨v,new⟩,h1,h2⟩:=Tree.run_some _ h
   simp only [Option.some.injEq,Prod.mk.injEq] at h2
   obtain ⟨rfl,rfl⟩:=h2
   have hle2:=clsV_le (E:=E) (ρ:=st.ev) (o:=x) (os:=new)
   have hmod:(clsV E st.ev x new + 8 * mkS st x v (clsV E st.ev x new)) % 8 = clsV E st.ev x new:=by omega
   have hdiv:(clsV E st.ev x new + 8 * mkS st x v (clsV E st.ev x new)) / 8 = mkS st x v (clsV E st.ev x new):=by omega
   rw [hmod] at hc ⊢
   rw [hdiv] at hk
   have hnew:=(stepV_ext h1 hc).1
   subst hnew
   rw [hdiv]
   have hc2:clsV E st.ev x [] ≠ 2:=by omega
   have hms:mkS st x v (clsV E st.ev x []) = mkV st.ev x v (clsV E st.ev x []):=by unfold mkS; rw [if_neg (by simpa using hc2)]
   rw [hms] at hk ⊢
   unfold mkV at hk ⊢
   split at hk
   case isFalse=>exact absurd rfl hk
   rename_i hcond
   rw [if_pos hcond]
   simp only [Bool.and_eq_true,List.all_eq_true] at hcond
   obtain ⟨q2,q3⟩:=hcond
   have hon:(∀ z ∈ x.op.operands.toList,∀ k ∈ (st.ev z).code,k ∈ onAll st.ev x v) ∧ ∀ k ∈ v.code,k ∈ onAll st.ev x v:=by
    unfold onAll
    exact ⟨fun z hz k hk=>List.mem_append_right _ (List.mem_flatMap.2 ⟨z,hz,hk⟩),fun k hk=>List.mem_append_left _ hk⟩
   rcases Nat.lt_or_ge 0 (clsV E st.ev x []) with h1c | h0c
   ·have h1c:clsV E st.ev x [] = 1:=by omega
    rw [h1c] at hk ⊢
    simp only at hk ⊢
    split at hk
    case h_2=>exact absurd rfl hk
    rename_i p hp
    simp only [hp]
    have hbit:∀ k ∈ onAll st.ev x v,((if p.2.2 then 1 else 0) ||| maskOf (lookBit p :: onAll st.ev x v)).testBit (k + 1) = true:=fun k hk'=>by
     rw [Nat.testBit_or,show (maskOf (lookBit p :: onAll st.ev x v)).testBit (k + 1) = true from mask_bit (.inr (by simp [hk'])),Bool.or_true]
    refine ⟨fun z hz=>⟨q2 z hz,fun k hk'=>hbit k (hon.1 z hz k hk')⟩,v,rfl,⟨q3,fun k hk'=>hbit k (hon.2 k hk')⟩,fun _=>?_,hWn,by simpa using hhn,fun _=>⟨p,rfl,fun h2=>?_⟩⟩
    rotate_left
    ·cases hp2:p.2.2 with
     | true=>rfl
     | false=>
      exfalso
      rw [hp2] at h2
      simp only [Bool.false_eq_true,if_false,Nat.zero_or] at h2
      have:=mask_even (lookBit p :: onAll st.ev x v)
      omega
    rcases stepV_row hp h1 with ⟨t,a,l,off,ti,v',r1,r2,r3,r4,rfl,r6⟩ | ⟨⟨e,t,xs,d,L,r1⟩,r2,_,r3,_⟩
    ·simp only [Prod.mk.injEq,and_true] at r6
     subst r6
     exact .inl ⟨t,a,l,off,ti,r1,r2,r3,r4,look_bit (p:=(l,false,true))⟩
    ·exact .inr ⟨p,e,t,xs,d,L,rfl,look_bit,r2,r1,h1,trivial⟩
   ·have h0c:clsV E st.ev x [] = 0:=by omega
    rw [h0c] at hk ⊢
    simp only at hk ⊢
    have hbit:∀ k ∈ onAll st.ev x v,(1 ||| maskOf (onAll st.ev x v)).testBit (k + 1) = true:=fun k hk'=>by
     rw [Nat.testBit_or,show (maskOf (onAll st.ev x v)).testBit (k + 1) = true from mask_bit (.inr hk')]; simp
    exact ⟨fun z hz=>⟨q2 z hz,fun k hk'=>hbit k (hon.1 z hz k hk')⟩,v,rfl,⟨q3,fun k hk'=>hbit k (hon.2 k hk')⟩,fun h=>by omega,hWn,by simpa using hhn,fun h=>by omega⟩
 ·simp only [Option.some.injEq,Prod.mk.injEq] at h
  omega
 ·cases h
theorem set_swap {x y:Oper} (h3:dstIn x.dst.toList y.dst = false) (regs:List SV) (p q:SV):setReg (setReg regs y.dst p) x.dst q = setReg (setReg regs x.dst q) y.dst p:=by
 cases hxd:x.dst with
 | none=>rfl
 | some d=>
  cases hyd:y.dst with
  | none=>rfl
  | some e=>
   have hne:e ≠ d:=fun e'=>by
    rw [hxd,hyd,e'] at h3
    simp [dstIn,has] at h3
   simp [setReg,List.set_comm _ _ hne]
theorem st_eq:∀ (a b:St),a.regs = b.regs → a.objs = b.objs → a.ro = b.ro → a.fx = b.fx → a.frm = b.frm → a = b:=by
 intro a b h1 h2 h3 h4 h5
 cases a; cases b; simp_all
theorem disj_bit {a b:Nat} (h:a &&& b = 0) {k:Nat} (ha:a.testBit k = true):b.testBit k = false:=by
 have:=congrArg (fun n=>n.testBit k) h
 simp only [Nat.testBit_and,ha,Bool.true_and,Nat.zero_testBit] at this
 exact this
theorem looks_reg {ops:List Oper} {x:Oper} {st:St} {P:SV → Prop} (hgd:x.guard = none) (h:∀ z ∈ x.op.operands.toList,P (st.ev z)) {t:Tmp} (ht:t ∈ looksAt ops x):P (st.reg t):=by
 unfold looksAt at ht
 rw [hgd] at ht
 simp only [List.append_nil] at ht
 obtain ⟨z,hz,hzt⟩:=List.mem_filterMap.1 ht
 cases z <;> simp only [Option.some.injEq] at hzt <;> try (cases hzt; done)
 subst hzt
 exact h _ hz
theorem reg_set_ne {regs:List SV} {d:Option Tmp} {out:SV} {t:Tmp} (h:d ≠ some t):(setReg regs d out).getD t (.one .undef) = regs.getD t (.one .undef):=by
 cases d with
 | none=>rfl
 | some e=>
  have hne:e ≠ t:=fun e'=>h (by rw [e'])
  simp [setReg,List.getD,List.getElem?_set_ne hne]
theorem reg_mapL {regs:List SV} {f:Leaf → Leaf} {t:Tmp} {m:Nat} (hk:Kl m f):(regs.map (SV.mapL f)).getD t (.one .undef) = ((regs.getD t (.one .undef)).mapL f) ∨ (t ≥ regs.length):=by
 by_cases ht:t < regs.length
 ·left; simp [List.getD,List.getElem?_map,List.getElem?_eq_getElem ht]
 ·exact .inr (Nat.le_of_not_lt ht)
theorem load_map {os os':Objs} {f:Leaf → Leaf} {ti:TI} {l off:Nat} {v:SV} (hb:∀ cs,obj os l = .box cs → obj os' l = .box (cs.map f)) (hs:v.mapL f = v) (h:loadOp os ti (.ptr l off) = some v):loadOp os' ti (.ptr l off) = some v:=by
 simp only [loadOp] at h ⊢
 split at h
 case h_2=>cases h
 rename_i cs hob
 rw [hb cs hob]
 simp only
 have e:((cs.map f).drop off).take ti.ty.size = ((cs.drop off).take ti.ty.size).map f:=by rw [← List.map_drop,← List.map_take]
 rw [e]
 split at h
 case isFalse=>cases h
 rename_i hlen
 rw [if_pos (by simpa using hlen)]
 split at h
 ·rename_i hag
  rw [if_pos hag]
  simp only [Option.some.injEq] at h
  subst h
  rw [show SV.agg (((cs.drop off).take ti.ty.size).map f) = (SV.agg ((cs.drop off).take ti.ty.size)).mapL f from rfl,hs]
 ·rename_i hag
  rw [if_neg hag]
  split at h
  ·rename_i c hc
   simp only [Option.some.injEq] at h
   subst h
   rw [hc]
   show some (SV.one (f c)) = _
   rw [show SV.one (f c) = (SV.one c).mapL f from rfl,hs]
  ·cases h
theorem one1_load {ops:List Oper} {x:Oper} (hgd:x.guard = none) {t:TypeId} {a:Operand} (hop:x.op = .load t a) {ti:TI} (hti:tyOf E t = some ti) {l off:Nat} (s:St) (u:SV) (h1:(s.ev a).leaf = .ptr l off) (h2:loadOp s.objs ti (.ptr l off) = some u):
  one1 E cb ops s x = some (eff s x u [],1 + 8 * mkS s x u 1):=by
 unfold one1 guardOk
 simp only [hgd]
 unfold step stepW handsClo
 simp only [hop,stepV,hti,h1,h2,ret1,Tree.map,Tree.run,clsV,Bool.false_and,Bool.false_eq_true,if_false,Leaf.free]
 rfl
theorem one1_val {ops:List Oper} {x:Oper} (hgd:x.guard = none) (s:St) {u:SV} (hW:stepW E cb s x = none) (hh:(handsClo E s.ev x && !Nat.beq s.fx 0) = false) (h1:(stepV E cb s.ev s.objs x).run some = some (u,[])) (hc:clsV E s.ev x [] = 1):
  one1 E cb ops s x = some (eff s x u [],1 + 8 * mkS s x u 1):=by
 unfold one1 guardOk
 simp only [hgd]
 unfold step
 rw [hW]
 simp only [hh,Bool.false_eq_true,if_false]
 rw [Tree.run_map]
 have:∀ {α β:Type} (t:Tree α) (f:α → β) {x:α},t.run some = some x → t.run (fun x=>some (f x)) = some (f x):=by
  intro α β t f x
  induction t with
  | ret a=>intro h; simp only [Tree.run,Option.some.injEq] at h ⊢; rw [h]
  | fail=>intro h; cases h
  | ite b t e iht ihe=>intro h; simp only [Tree.run] at h ⊢; cases b; exact ihe h; exact iht h
  | bind m k ih=>intro h; simp only [Tree.run] at h ⊢; cases m with
   | none=>cases h
   | some x=>exact ih x h
 rw [this _ _ h1]
 simp only [hc]
 rfl
theorem wr_twice {ops:List Oper} {st s1:St} {x y:Oper} {cx cy:Nat} {v:SV} {f:Leaf → Leaf} {out:SV} {os:Objs} {fm:List Leaf} (hx:one1 E cb ops st x = some (s1,cx)) (h6:cx % 8 = 5 ∨ cx % 8 = 6 ∨ cx % 8 = 7) (hs1:s1 = { st with regs:=setReg (st.regs.map (SV.mapL f)) x.dst out,objs:=os,frm:=fm })
  (h2:dstIn (looksAt ops x) y.dst = false) (h3:dstIn x.dst.toList y.dst = false) (hv:v.firm = true ∧ ∀ k ∈ v.code,(cy / 8).testBit (k + 1) = true) (hdis:(cy / 8) &&& (cx / 8) = 0):
  one1 E cb ops (eff st y v []) x = some (eff s1 y v [],cx):=by
 obtain ⟨f',out',os',fm',hkl',hs',hx',_⟩:=wr_one (st:=eff st y v []) hx h6 (eff_agree h2).symm (by simp [eff]) rfl rfl rfl
 rw [hx']
 have hfv:v.mapL f' = v:=sv_stay hkl' hv.1 fun k hk'=>disj_bit hdis (hv.2 k hk')
 congr 2
 rw [hs']
 refine st_eq _ _ ?_ (by simp [eff]) rfl rfl rfl
 show setReg ((setReg st.regs y.dst v).map _) x.dst out' = setReg (setReg (st.regs.map _) x.dst out') y.dst v
 rw [← set_swap h3]
 congr 1
 cases y.dst with
 | none=>rfl
 | some d=>simp [setReg,List.map_set,hfv]
theorem look_fwd {ops:List Oper} {st s1:St} {x:Oper} {cx my:Nat} {f:Leaf → Leaf} {out:SV} {os:Objs} {fm:List Leaf} {yd:Option Tmp} (hx:one1 E cb ops st x = some (s1,cx)) (hkl:Kl my f) (hbox:∀ k cs,my.testBit (2 * k + 1) = false → obj st.objs k = .box cs → obj os k = .box (cs.map f))
  (hrow:∀ p e t xs d L,lookOf st.ev x = some p → (cx / 8).testBit (lookBit p + 1) = true → (p.2.1 = true → isIx x = true) → cx % 8 = 1 → obj st.objs p.1 = .row e t xs d L → stepV E cb st.ev os x = stepV E cb st.ev st.objs x)
  (hgd:x.guard = none) (hc:cx % 8 ≤ 1) (hk:cx / 8 ≠ 0) (hdis:(cx / 8) &&& my = 0) (h2:dstIn (looksAt ops x) yd = false) (h3:∀ (regs:List SV) (p q:SV),setReg (setReg regs yd p) x.dst q = setReg (setReg regs x.dst q) yd p):
  ∃ v,s1 = eff st x v [] ∧ one1 E cb ops { st with regs:=setReg (st.regs.map (SV.mapL f)) yd out,objs:=os,frm:=fm } x = some ({ eff st x v [] with regs:=setReg ((eff st x v []).regs.map (SV.mapL f)) yd out,objs:=os,frm:=fm },cx) ∧
   (∀ z ∈ x.op.operands.toList,st.ev z = St.ev { st with regs:=setReg (st.regs.map (SV.mapL f)) yd out,objs:=os,frm:=fm } z) ∧ v.mapL f = v:=by
 obtain ⟨hsol,v,rfl,hv,hld,hWx,hhx,_⟩:=mk_info hx hc hk
 have hfv:v.mapL f = v:=sv_stay hkl hv.1 fun k hk'=>disj_bit hdis (hv.2 k hk')
 have hmap:(setReg st.regs x.dst v).map (SV.mapL f) = setReg (st.regs.map (SV.mapL f)) x.dst v:=by
  cases x.dst with
  | none=>rfl
  | some d=>simp [setReg,List.map_set,hfv]
 have hag:AgreeOn ops x st { st with regs:=setReg (st.regs.map (SV.mapL f)) yd out,objs:=os,frm:=fm }:=by
  intro t ht
  have hst:=looks_reg (P:=fun u=>u.firm = true ∧ ∀ k ∈ u.code,(cx / 8).testBit (k + 1) = true) hgd hsol ht
  show (setReg (st.regs.map (SV.mapL f)) yd out).getD t _ = st.regs.getD t _
  rw [reg_set_ne (dstIn_not h2 t ht)]
  rcases reg_mapL (regs:=st.regs) (t:=t) hkl with e | e
  ·rw [e]
   exact sv_stay hkl hst.1 fun k hk'=>disj_bit hdis (hst.2 k hk')
  ·simp [List.getD,List.getElem?_eq_none e]
 have hev:=agree_ev hag
 have hfin:eff { st with regs:=setReg (st.regs.map (SV.mapL f)) yd out,objs:=os,frm:=fm } x v [] = { eff st x v [] with regs:=setReg ((eff st x v []).regs.map (SV.mapL f)) yd out,objs:=os,frm:=fm }:=
  st_eq _ _ (by show setReg (setReg _ yd out) x.dst v = setReg ((setReg st.regs x.dst v).map _) yd out; rw [h3,hmap]) (by simp [eff]) rfl rfl rfl
 refine ⟨v,rfl,?_,hev,hfv⟩
 rw [← hfin]
 by_cases hc0:cx % 8 = 0
 ·obtain ⟨v',new,he,hrun,hnew⟩:=one_move hx (by omega) hag rfl rfl (.inr (.inr (.inl hc0)))
  have hn:=hnew (by omega)
  subst hn
  rw [hrun]
  have hvv:setReg st.regs x.dst v = setReg st.regs x.dst v':=congrArg St.regs he
  congr 2
  refine st_eq _ _ ?_ rfl rfl rfl rfl
  show setReg (setReg (st.regs.map _) yd out) x.dst v' = setReg (setReg (st.regs.map _) yd out) x.dst v
  cases hxd:x.dst with
  | none=>rfl
  | some d=>
   rw [hxd] at hvv
   simp only [setReg] at hvv ⊢
   by_cases hlt:d < st.regs.length
   ·have:=congrArg (fun l=>l[d]?) hvv
    simp only [List.getElem?_set_self hlt,Option.some.injEq] at this
    rw [this]
   ·have hlen:(setReg (st.regs.map (SV.mapL f)) yd out).length = st.regs.length:=by cases yd <;> simp [setReg]
    simp only [setReg] at hlen
    rw [List.set_eq_of_length_le (hlen ▸ Nat.le_of_not_lt hlt),List.set_eq_of_length_le (hlen ▸ Nat.le_of_not_lt hlt)]
 ·have hc1:cx % 8 = 1:=by omega
  rcases hld hc1 with hld | ⟨p,e,tt,xs,dd,LL,hp,hpb,hpi,hob,hrun,hcl⟩
  rotate_left
  ·have hst:=hrow p e tt xs dd LL hp hpb hpi hc1 hob
   have hx2:=one1_val (ops:=ops) hgd st hWx hhx hrun hcl
   rw [hx] at hx2
   simp only [Option.some.injEq,Prod.mk.injEq,true_and] at hx2
   have hWx':=stepW_none (E:=E) (cb:=cb) hev (fun t n parts ho=>by simp [lookOf,ho] at hp) rfl rfl hWx
   have hhx':=hhx
   rw [handsClo_congr (E:=E) hev] at hhx'
   have hrun':=hrun
   rw [← hst,stepV_congr (E:=E) (cb:=cb) (os:=os) hev] at hrun'
   rw [one1_val hgd _ hWx' hhx' hrun' (by rw [← clsV_congr (E:=E) (os:=[]) hev]; exact hcl),hx2]
   unfold mkS
   rw [if_neg (by simp),if_neg (by simp),mkV_congr hev]
  obtain ⟨t,a,l,off,ti,hop,hl,hti,hlo,hcx⟩:=hld
  have hea:st.ev a = St.ev { st with regs:=setReg (st.regs.map (SV.mapL f)) yd out,objs:=os,frm:=fm } a:=hev a (by rw [hop]; simp [Op.operands])
  have hlo':loadOp os ti (.ptr l off) = some v:=load_map (hbox l · (disj_bit hdis hcx)) hfv hlo
  have hx2:=one1_load (E:=E) (cb:=cb) (ops:=ops) hgd hop hti st v hl hlo
  rw [hx] at hx2
  simp only [Option.some.injEq,Prod.mk.injEq,true_and] at hx2
  rw [one1_load hgd hop hti _ v (by rw [← hea]; exact hl) hlo',hx2]
  unfold mkS
  rw [if_neg (by simp),if_neg (by simp),mkV_congr hev]
theorem swap_wr {ops:List Oper} {st s1 s2:St} {x y:Oper} {cx cy:Nat} (hx:one1 E cb ops st x = some (s1,cx)) (hy:one1 E cb ops s1 y = some (s2,cy)) (h6:cy % 8 = 5 ∨ cy % 8 = 6 ∨ cy % 8 = 7) (hgd:x.guard = none) (hc:cx % 8 ≤ 1) (hk:cx / 8 ≠ 0) (h6x:cx % 8 = 1 → isIx x = true → cy % 8 = 6 → (cx / 8 / 2) &&& (cy / 8) = 0) (hdis:(cx / 8) &&& (cy / 8) = 0)
  (h1:dstIn (looksAt ops y) x.dst = false) (h2:dstIn (looksAt ops x) y.dst = false) (h3:dstIn x.dst.toList y.dst = false):
  ∃ t1,one1 E cb ops st y = some (t1,cy) ∧ one1 E cb ops t1 x = some (s2,cx):=by
 obtain ⟨_,v0,rfl,_⟩:=mk_info hx hc hk
 obtain ⟨f,out,os,fm,hkl,rfl,hy',hbox,_,hrw,_⟩:=wr_one (st:=st) hy h6 (eff_agree h1) (by simp [eff]) rfl rfl rfl
 obtain ⟨v,he,hrun,_⟩:=look_fwd (out:=out) (fm:=fm) (yd:=y.dst) hx hkl hbox (fun p e tt xs dd LL hp hpb hpi hc1 hob=>by
  have hrow:obj os p.1 = .row e tt xs dd LL:=by
   refine hrw p.1 e tt xs dd LL ?_ hob
   have hb0:=disj_bit hdis hpb
   unfold lookBit at hb0
   cases hp1:p.2.1 with
   | true=>
    rw [hp1,if_pos rfl] at hb0
    by_cases h6':cy % 8 = 6
    ·refine .inl (disj_bit (h6x hc1 (hpi hp1) h6') ?_)
     unfold lookBit at hpb
     rw [hp1,if_pos rfl] at hpb
     rw [Nat.testBit_div_two]
     exact hpb
    ·exact .inr ⟨h6',hb0⟩
   | false=>rw [hp1,if_neg (by simp)] at hb0; exact .inl hb0
  exact stepV_look hp (hrow.trans hob.symm)) hgd hc hk hdis h2 (fun regs p q=>set_swap h3 regs p q)
 refine ⟨_,hy',?_⟩
 rw [hrun,← he]
theorem look_back {ops:List Oper} {st s2:St} {y:Oper} {cy mx:Nat} {f:Leaf → Leaf} {out:SV} {os:Objs} {fm:List Leaf} {xd:Option Tmp} (hy:one1 E cb ops { st with regs:=setReg (st.regs.map (SV.mapL f)) xd out,objs:=os,frm:=fm } y = some (s2,cy)) (hkl:Kl mx f)
  (hbox:∀ k cs,mx.testBit (2 * k + 1) = false → obj st.objs k = .box cs → obj os k = .box (cs.map f)) (hbk:cy % 8 = 1 → ∀ k cs,mx.testBit (2 * k + 1) = false → obj os k = .box cs → ∃ ds,obj st.objs k = .box ds)
  (hrow:∀ p e t xs d L,lookOf (St.ev { st with regs:=setReg (st.regs.map (SV.mapL f)) xd out,objs:=os,frm:=fm }) y = some p → (cy / 8).testBit (lookBit p + 1) = true → cy % 8 = 1 → obj os p.1 = .row e t xs d L → ∀ ρ:Operand → SV,lookOf ρ y = some p → stepV E cb ρ st.objs y = stepV E cb ρ os y)
  (hgd:y.guard = none) (hc:cy % 8 ≤ 1) (hk:cy / 8 ≠ 0) (hdis:(cy / 8) &&& mx = 0) (h1:dstIn (looksAt ops y) xd = false):
  ∃ v,s2 = eff { st with regs:=setReg (st.regs.map (SV.mapL f)) xd out,objs:=os,frm:=fm } y v [] ∧ one1 E cb ops st y = some (eff st y v [],cy) ∧ (v.firm = true ∧ ∀ k ∈ v.code,(cy / 8).testBit (k + 1) = true) ∧ v.mapL f = v:=by
 obtain ⟨hsol,v,rfl,hv,hld,hWy,hhy,_⟩:=mk_info hy hc hk
 have hfv:v.mapL f = v:=sv_stay hkl hv.1 fun k hk'=>disj_bit hdis (hv.2 k hk')
 have hag:AgreeOn ops y { st with regs:=setReg (st.regs.map (SV.mapL f)) xd out,objs:=os,frm:=fm } st:=by
  intro t ht
  have hst:=looks_reg (P:=fun u=>u.firm = true ∧ ∀ k ∈ u.code,(cy / 8).testBit (k + 1) = true) hgd hsol ht
  show st.regs.getD t _ = (setReg (st.regs.map (SV.mapL f)) xd out).getD t _
  have hst1:((setReg (st.regs.map (SV.mapL f)) xd out).getD t (.one .undef)).firm = true:=hst.1
  rw [reg_set_ne (dstIn_not h1 t ht)] at hst1 ⊢
  rcases reg_mapL (regs:=st.regs) (t:=t) hkl with e | e
  ·rw [e] at hst1 ⊢
   exact (sv_back hkl hst1).symm
  ·simp [List.getD,List.getElem?_eq_none e]
 have hev:=agree_ev hag
 refine ⟨v,rfl,?_,hv,hfv⟩
 by_cases hc0:cy % 8 = 0
 ·obtain ⟨v',new,he,hrun,hnew⟩:=one_move hy (by omega) hag rfl rfl (.inr (.inr (.inl hc0)))
  have hn:=hnew (by omega)
  subst hn
  rw [hrun]
  have hvv:setReg (setReg (st.regs.map (SV.mapL f)) xd out) y.dst v = setReg (setReg (st.regs.map (SV.mapL f)) xd out) y.dst v':=congrArg St.regs he
  congr 2
  refine st_eq _ _ ?_ rfl rfl rfl rfl
  show setReg st.regs y.dst v' = setReg st.regs y.dst v
  cases hyd:y.dst with
  | none=>rfl
  | some d=>
   rw [hyd] at hvv
   have hlen:(setReg (st.regs.map (SV.mapL f)) xd out).length = st.regs.length:=by cases xd <;> simp [setReg]
   simp only [setReg] at hvv ⊢
   by_cases hlt:d < st.regs.length
   ·have:=congrArg (fun l=>l[d]?) hvv
    simp only [setReg] at hlen
    rw [List.getElem?_set_self (by rw [hlen]; exact hlt),List.getElem?_set_self (by rw [hlen]; exact hlt)] at this
    simp only [Option.some.injEq] at this
    rw [this]
   ·rw [List.set_eq_of_length_le (Nat.le_of_not_lt hlt),List.set_eq_of_length_le (Nat.le_of_not_lt hlt)]
 ·have hc1:cy % 8 = 1:=by omega
  rcases hld hc1 with hld | ⟨p,e,tt,xs,dd,LL,hp,hpb,hpi,hob,hrun,hcl⟩
  rotate_left
  ·have hp':=hp
   rw [lookOf_congr hev] at hp'
   have hst:=hrow p e tt xs dd LL hp hpb hc1 hob st.ev hp'
   have hy2:=one1_val (ops:=ops) hgd _ hWy hhy hrun hcl
   rw [hy] at hy2
   simp only [Option.some.injEq,Prod.mk.injEq,true_and] at hy2
   have hWy':=stepW_none (E:=E) (cb:=cb) (st':=st) hev (fun t n parts ho=>by simp [lookOf,ho] at hp) rfl rfl hWy
   have hhy':=hhy
   rw [handsClo_congr (E:=E) hev] at hhy'
   have hrun':=hrun
   rw [stepV_congr (E:=E) (cb:=cb) (os:=os) hev,← hst] at hrun'
   rw [one1_val hgd st hWy' hhy' hrun' (by rw [← clsV_congr (E:=E) (os:=[]) hev]; exact hcl),hy2]
   unfold mkS
   rw [if_neg (by simp),if_neg (by simp),mkV_congr hev]
  obtain ⟨t,a,l,off,ti,hop,hl,hti,hlo,hcx⟩:=hld
  have hea:=hev a (by rw [hop]; simp [Op.operands])
  have hlo':loadOp st.objs ti (.ptr l off) = some v:=by
   cases hob:obj st.objs l with
   | box cs=>
    have hb:=hbox l cs (disj_bit hdis hcx) hob
    simp only [loadOp,hb] at hlo
    simp only [loadOp,hob]
    have e:((cs.map f).drop off).take ti.ty.size = ((cs.drop off).take ti.ty.size).map f:=by rw [← List.map_drop,← List.map_take]
    rw [e] at hlo
    split at hlo
    case isFalse=>cases hlo
    rename_i hlen
    rw [if_pos (by simpa using hlen)]
    split at hlo
    ·rename_i hag'
     rw [if_pos hag']
     simp only [Option.some.injEq] at hlo
     have hfirm:((SV.agg ((cs.drop off).take ti.ty.size)).mapL f).firm = true:=by
      show (SV.agg (((cs.drop off).take ti.ty.size).map f)).firm = true
      rw [hlo]; exact hv.1
     rw [← sv_back hkl hfirm]
     exact congrArg some hlo
    ·rename_i hag'
     rw [if_neg hag']
     split at hlo
     ·rename_i c hcc
      simp only [Option.some.injEq] at hlo
      cases hcs:(cs.drop off).take ti.ty.size with
      | nil=>rw [hcs] at hcc; cases hcc
      | cons c0 r=>
       cases r with
       | nil=>
        rw [hcs] at hcc
        simp only [List.map_cons,List.map_nil,List.cons.injEq,and_true] at hcc
        simp only [Option.some.injEq]
        have hfirm:(f c0).firm = true:=by
         have h0:=hv.1
         rw [← hlo,← hcc] at h0
         exact h0
        rw [← hlo,← hcc,leaf_back hkl hfirm]
       | cons _ _=>rw [hcs] at hcc; cases hcc
     ·cases hlo
   | row _ _ _ _ _=>
    exfalso
    simp only [loadOp] at hlo
    split at hlo
    ·rename_i cs' hb'
     obtain ⟨ds,hds⟩:=hbk hc1 l cs' (disj_bit hdis hcx) hb'
     rw [hob] at hds; cases hds
    ·cases hlo
   | dead=>
    exfalso
    simp only [loadOp] at hlo
    split at hlo
    ·rename_i cs' hb'
     obtain ⟨ds,hds⟩:=hbk hc1 l cs' (disj_bit hdis hcx) hb'
     rw [hob] at hds; cases hds
    ·cases hlo
  have hy2:=one1_load (E:=E) (cb:=cb) (ops:=ops) hgd hop hti _ v hl hlo
  rw [hy] at hy2
  simp only [Option.some.injEq,Prod.mk.injEq,true_and] at hy2
  rw [one1_load hgd hop hti st v (by rw [← hea]; exact hl) hlo',hy2]
  unfold mkS
  rw [if_neg (by simp),if_neg (by simp),mkV_congr hev]
theorem swap_rw {ops:List Oper} {st s1 s2:St} {x y:Oper} {cx cy:Nat} (hx:one1 E cb ops st x = some (s1,cx)) (hy:one1 E cb ops s1 y = some (s2,cy)) (h6:cx % 8 = 5 ∨ cx % 8 = 6 ∨ cx % 8 = 7) (hgd:y.guard = none) (hc:cy % 8 ≤ 1) (hc6:cy % 8 = 1 → cx % 8 = 6 → isIx y = false ∧ (cy / 8) % 2 = 1) (hk:cy / 8 ≠ 0) (hdis:(cx / 8) &&& (cy / 8) = 0)
  (h1:dstIn (looksAt ops y) x.dst = false) (h2:dstIn (looksAt ops x) y.dst = false) (h3:dstIn x.dst.toList y.dst = false):
  ∃ t1,one1 E cb ops st y = some (t1,cy) ∧ one1 E cb ops t1 x = some (s2,cx):=by
 have hdis:(cy / 8) &&& (cx / 8) = 0:=by rw [Nat.and_comm]; exact hdis
 obtain ⟨f,out,os,fm,hkl,rfl,_,hbox,hbk,_,hrb⟩:=wr_one (st:=st) hx h6 (fun _ _=>rfl) rfl rfl rfl rfl
 obtain ⟨v,rfl,hyt,hv,_⟩:=look_back hy hkl hbox (fun _=>hbk) (fun p e tt xs dd LL hp hpb hc1 hob ρ hρ=>by
  have hn6:cx % 8 ≠ 6:=fun h6=>by
   obtain ⟨i1,i2⟩:=hc6 hc1 h6
   obtain ⟨_,v0,_,_,hld0,_,_,hlk0⟩:=mk_info hy hc hk
   obtain ⟨p0,hp0,hq0⟩:=hlk0 hc1
   rw [hp] at hp0
   simp only [Option.some.injEq] at hp0
   subst hp0
   have h22:=hq0 i2
   rcases hld0 hc1 with ⟨t,a,l,off,ti,r1,r2,r3,r4,r5⟩ | ⟨p1,_,_,_,_,_,hp1,_,_,_,hrun1,_⟩
   ·have:lookOf (St.ev { st with regs:=setReg (st.regs.map (SV.mapL f)) x.dst out,objs:=os,frm:=fm }) y = some (l,false,true):=by simp [lookOf,r1,r2]
    rw [hp] at this
    simp only [Option.some.injEq] at this
    subst this
    simp only [loadOp] at r4
    rw [hob] at r4
    cases r4
   ·rw [hp] at hp1
    simp only [Option.some.injEq] at hp1
    subst hp1
    rcases stepV_row hp hrun1 with ⟨_,_,_,_,_,_,r1,_,_,_,r5,_⟩ | ⟨_,_,r3,_⟩
    ·subst r5
     rcases stepV_row hp hrun1 with ⟨_,_,l,_,_,_,_,_,_,r4,_,_⟩ | ⟨_,_,r3,_⟩
     ·simp only [loadOp] at r4
      rename_i r6 _ _
      simp_all
     ·rw [r3 rfl] at i1; cases i1
    ·rw [r3 h22] at i1; cases i1
  have hrow:obj st.objs p.1 = .row e tt xs dd LL:=by
   refine hrb hn6 p.1 e tt xs dd LL ?_ hob
   have hb0:=disj_bit hdis hpb
   unfold lookBit at hb0
   cases hp1:p.2.1 with
   | true=>rw [hp1,if_pos rfl] at hb0; exact .inr hb0
   | false=>rw [hp1,if_neg (by simp)] at hb0; exact .inl hb0
  exact stepV_look hρ (hrow.trans hob.symm)) hgd hc hk hdis h1
 refine ⟨_,hyt,?_⟩
 exact wr_twice hx h6 rfl h2 h3 hv hdis
theorem two_len {ops:List Oper} {st s1:St} {x:Oper} {cx:Nat} (h:one1 E cb ops st x = some (s1,cx)) (hc:cx % 8 = 2):cx / 8 = st.objs.length:=by
 unfold one1 at h
 split at h
 ·unfold step at h
  split at h
  ·rename_i t ht
   rw [Tree.run_map] at h
   obtain ⟨s,_,h2⟩:=Tree.run_some t h
   simp only [Option.some.injEq,Prod.mk.injEq] at h2
   have:=wcls_ge E cb st.ev st.objs x
   omega
  ·split at h
   ·cases h
   rw [Tree.run_map] at h
   obtain ⟨⟨v,new⟩,h1,h2⟩:=Tree.run_some _ h
   simp only [Option.some.injEq,Prod.mk.injEq] at h2
   obtain ⟨rfl,rfl⟩:=h2
   have hle2:=clsV_le (E:=E) (ρ:=st.ev) (o:=x) (os:=new)
   have h2:clsV E st.ev x new = 2:=by omega
   rw [h2]
   unfold mkS
   rw [if_pos (by simp)]
   omega
 ·simp only [Option.some.injEq,Prod.mk.injEq] at h
  omega
 ·cases h
def LeO (os os':Objs):Prop:=∀ l x,obj os l = x → x ≠ .dead → obj os' l = x
theorem sliceData_le {os os':Objs} (hle:LeO os os') {c:Leaf} {t:Ty} {p:List t.den × List Nat} (h:sliceData os t c = some p):sliceData os' t c = some p:=by
 cases c with
 | nilS=>exact h
 | val s x L=>cases s <;> first | exact h | cases h
 | own l=>
  simp only [sliceData] at h ⊢
  cases ho:obj os l with
  | row e s xs d L=>rw [hle l _ ho (by simp)]; rw [ho] at h; exact h
  | dead=>rw [ho] at h; cases h
  | box cs=>rw [ho] at h; cases h
 | sub l i off=>
  simp only [sliceData] at h ⊢
  cases ho:obj os l with
  | row e s xs d L=>rw [hle l _ ho (by simp)]; rw [ho] at h; exact h
  | dead=>rw [ho] at h; cases h
  | box cs=>rw [ho] at h; cases h
 | view l i off=>
  simp only [sliceData] at h ⊢
  cases ho:obj os l with
  | row e s xs d L=>rw [hle l _ ho (by simp)]; rw [ho] at h; exact h
  | dead=>rw [ho] at h; cases h
  | box cs=>rw [ho] at h; cases h
 | _=>cases h
theorem getImm_le {os os':Objs} (hle:LeO os os'):∀ (t:Ty) {ls:List Leaf} {p:t.den × List Nat × List Leaf},getImm os t ls = some p → getImm os' t ls = some p
 | .pair a b,ls,p,h=>by
  simp only [getImm] at h ⊢
  split at h
  ·rename_i x L r ha
   rw [getImm_le hle a ha]
   simp only
   split at h
   ·rename_i y M q hb
    rw [getImm_le hle b hb]
    exact h
   ·cases h
  ·cases h
 | .unit,ls,p,h=>h
 | .slice e t,ls,p,h=>by
  cases ls with
  | nil=>cases h
  | cons c r=>
   simp only [getImm] at h ⊢
   split at h
   ·rename_i x L hs
    rw [sliceData_le hle hs]
    exact h
   ·cases h
 | .int k,ls,p,h=>by
  cases ls with
  | nil=>cases h
  | cons c r=>cases c <;> first | exact h | cases h
 | .bool,ls,p,h=>by
  cases ls with
  | nil=>cases h
  | cons c r=>cases c <;> first | exact h | cases h
 | .str,ls,p,h=>by
  cases ls with
  | nil=>cases h
  | cons c r=>cases c <;> first | exact h | cases h
theorem isAlloc_of {o:Oper} (h:isAlloc o = true):∃ t,o.op = .alloc t ∧ o.guard = none:=by
 unfold isAlloc at h
 split at h
 ·exact ⟨_,by assumption,by assumption⟩
 ·cases h
theorem getMut_le {os os':Objs} (hle:LeO os os'):∀ (t:Ty) {ls:List Leaf} {p:t.den × List Nat × List Leaf},getMut os t ls = some p → getMut os' t ls = some p
 | .pair a b,ls,p,h=>by
  simp only [getMut] at h ⊢
  split at h
  case h_2=>cases h
  rename_i x L r ha
  rw [getMut_le hle a ha]
  simp only
  split at h
  case h_2=>cases h
  rename_i y M q hb
  rw [getMut_le hle b hb]
  exact h
 | .unit,ls,p,h=>h
 | .slice e t,ls,p,h=>by
  cases ls with
  | nil=>cases h
  | cons c r=>
   cases c with
   | nilS=>exact h
   | own l=>
    simp only [getMut] at h ⊢
    cases ho:obj os l with
    | row e s xs d L=>rw [hle l _ ho (by simp)]; rw [ho] at h; exact h
    | dead=>rw [ho] at h; cases h
    | box cs=>rw [ho] at h; cases h
   | sub l i off=>
    simp only [getMut] at h ⊢
    cases ho:obj os l with
    | row e s xs d L=>rw [hle l _ ho (by simp)]; rw [ho] at h; exact h
    | dead=>rw [ho] at h; cases h
    | box cs=>rw [ho] at h; cases h
   | _=>cases h
 | .int k,ls,p,h=>by
  cases ls with
  | nil=>cases h
  | cons c r=>cases c <;> first | exact h | cases h
 | .bool,ls,p,h=>by
  cases ls with
  | nil=>cases h
  | cons c r=>cases c <;> first | exact h | cases h
 | .str,ls,p,h=>by
  cases ls with
  | nil=>cases h
  | cons c r=>cases c <;> first | exact h | cases h
theorem gatherIns_le {os os':Objs} (hle:LeO os os'):∀ (ps:List PIn) {vs:List SV} {p:insDen ps × List Nat × List Nat},(ps.all fun p=>!p.isClo) = true → gatherIns cb os ps vs = some p → gatherIns cb os' ps vs = some p
 | [],vs,p,_,h=>by cases vs <;> first | exact h | cases h
 | .imm b t :: ps,vs,p,hc,h=>by
  cases vs with
  | nil=>cases h
  | cons v vs=>
   simp only [gatherIns] at h ⊢
   split at h
   ·rename_i b' ls hl
    split at h
    ·rename_i hb
     rw [if_pos hb]
     split at h
     ·rename_i x L hg
      split at h
      ·rename_i y M W hr
       rw [getImm_le hle t hg,gatherIns_le hle ps (by simpa [PIn.isClo] using hc) hr]
       exact h
      ·cases h
     ·cases h
    ·cases h
   ·cases h
 | .mut b t :: ps,vs,p,hc,h=>by
  cases vs with
  | nil=>cases h
  | cons v vs=>
   simp only [gatherIns] at h ⊢
   split at h
   ·rename_i b' ls hl
    split at h
    ·rename_i hb
     rw [if_pos hb]
     split at h
     ·rename_i x L hg
      split at h
      ·rename_i y M W hr
       rw [getMut_le hle t hg,gatherIns_le hle ps (by simpa [PIn.isClo] using hc) hr]
       exact h
      ·cases h
     ·cases h
    ·cases h
   ·cases h
 | .ptr t :: ps,vs,p,hc,h=>by
  cases vs with
  | nil=>cases h
  | cons v vs=>
   cases v with
   | one c=>
    cases c <;> simp only [gatherIns] at h ⊢ <;> try (cases h; done)
    rename_i l off
    split at h
    case isFalse=>cases h
    rename_i hof
    rw [if_pos hof]
    cases ho:obj os l with
    | row e s xs d L=>rw [ho] at h; cases h
    | dead=>rw [ho] at h; cases h
    | box cs=>
     rw [hle l _ ho (by simp)]; rw [ho] at h
     simp only at h ⊢
     split at h
     ·rename_i x L hg
      split at h
      ·rename_i y M W hr
       rw [getImm_le hle t hg,gatherIns_le hle ps (by simpa [PIn.isClo] using hc) hr]
       exact h
      ·cases h
     ·cases h
   | agg _=>simp [gatherIns] at h
   | tup _=>simp [gatherIns] at h
 | .clo gs r :: ps,vs,p,hc,h=>by simp [PIn.isClo] at hc
theorem putMut_len:∀ (t:Ty) {os os':Objs} {y:t.den} {ls r:List Leaf},putMut os t y ls = some (os',r) → os'.length = os.length
 | .pair a b,os,os',y,ls,r,h=>by
  simp only [putMut] at h
  split at h
  ·rename_i h1
   exact (putMut_len b h).trans (putMut_len a h1)
  ·cases h
 | .unit,os,os',y,ls,r,h=>by simp only [putMut,Option.some.injEq,Prod.mk.injEq] at h; rw [h.1]
 | .slice e t,os,os',y,ls,r,h=>by
  cases ls with
  | nil=>cases h
  | cons c ls=>
   cases c <;> simp only [putMut] at h <;> try (cases h; done)
   ·simp only [Option.some.injEq,Prod.mk.injEq] at h; rw [h.1]
   ·split at h
    ·split at h
     ·simp only [Option.some.injEq,Prod.mk.injEq] at h; rw [← h.1,List.length_set]
     ·cases h
    ·cases h
   ·split at h
    ·split at h
     ·simp only [Option.some.injEq,Prod.mk.injEq] at h; rw [← h.1,List.length_set]
     ·cases h
    ·cases h
 | .int n,os,os',y,ls,r,h=>by
  cases ls with
  | nil=>cases h
  | cons c ls=>simp only [putMut,Option.some.injEq,Prod.mk.injEq] at h; rw [h.1]
 | .bool,os,os',y,ls,r,h=>by
  cases ls with
  | nil=>cases h
  | cons c ls=>simp only [putMut,Option.some.injEq,Prod.mk.injEq] at h; rw [h.1]
 | .str,os,os',y,ls,r,h=>by
  cases ls with
  | nil=>cases h
  | cons c ls=>simp only [putMut,Option.some.injEq,Prod.mk.injEq] at h; rw [h.1]
theorem putMuts_len {Lc:List Nat}:∀ (ps:List PIn) {os os':Objs} {y:mutsDen ps} {vs:List SV},putMuts Lc os ps y vs = some os' → os'.length = os.length
 | [],os,os',y,vs,h=>by cases vs <;> (simp only [putMuts,Option.some.injEq] at h; rw [h])
 | .imm b t :: ps,os,os',y,vs,h=>by
  cases vs with
  | nil=>cases h
  | cons v vs=>exact putMuts_len ps h
 | .clo gs r :: ps,os,os',y,vs,h=>by
  cases vs with
  | nil=>cases h
  | cons v vs=>exact putMuts_len ps h
 | .mut b t :: ps,os,os',y,vs,h=>by
  cases vs with
  | nil=>cases h
  | cons v vs=>
   simp only [putMuts] at h
   split at h
   case h_2=>cases h
   split at h
   case h_2=>cases h
   rename_i h1
   exact (putMuts_len ps h).trans (putMut_len t h1)
 | .ptr t :: ps,os,os',y,vs,h=>by
  cases vs with
  | nil=>cases h
  | cons v vs=>
   cases v with
   | one c=>
    cases c <;> simp only [putMuts] at h <;> try (cases h; done)
    have:=putMuts_len ps h
    rw [List.length_set] at this
    exact this
   | agg _=>cases h
   | tup _=>cases h
theorem putMut_set {k:Nat} {b:AObj} {os0:Objs}:∀ (t:Ty) {os os':Objs} {y x:t.den} {L:List Nat} {ls r q:List Leaf},getMut os0 t ls = some (x,L,q) → k ∉ L → putMut os t y ls = some (os',r) → putMut (os.set k b) t y ls = some (os'.set k b,r)
 | .pair a c,os,os',y,x,L,ls,r,q,hg,hL,h=>by
  simp only [getMut] at hg
  split at hg
  case h_2=>cases hg
  rename_i x1 L1 r1 g1
  split at hg
  case h_2=>cases hg
  rename_i x2 L2 r2 g2
  simp only [Option.some.injEq,Prod.mk.injEq] at hg
  obtain ⟨_,rfl,rfl⟩:=hg
  simp only [List.mem_append,not_or] at hL
  simp only [putMut] at h ⊢
  split at h
  case h_2=>cases h
  rename_i os1 r3 h1
  obtain ⟨rfl,_⟩:=putMut_keep a g1 hL.1 h1
  rw [putMut_set a g1 hL.1 h1]
  exact putMut_set c g2 hL.2 h
 | .unit,os,os',y,x,L,ls,r,q,hg,hL,h=>by
  simp only [putMut,Option.some.injEq,Prod.mk.injEq] at h ⊢
  obtain ⟨rfl,rfl⟩:=h; exact ⟨rfl,rfl⟩
 | .slice e t,os,os',y,x,L,ls,r,q,hg,hL,h=>by
  cases ls with
  | nil=>cases h
  | cons c ls=>
   cases c <;> simp only [putMut] at h ⊢ <;> try (cases h; done)
   ·simp only [Option.some.injEq,Prod.mk.injEq] at h ⊢
    obtain ⟨rfl,rfl⟩:=h; exact ⟨rfl,rfl⟩
   ·simp only [getMut] at hg
    split at hg
    case h_2=>cases hg
    split at hg
    case isFalse=>cases hg
    split at hg
    case h_2=>cases hg
    simp only [Option.some.injEq,Prod.mk.injEq] at hg
    obtain ⟨_,rfl,rfl⟩:=hg
    have hne:=hL
    simp only [List.mem_singleton] at hne
    split at h
    ·rename_i ho
     rw [obj_set_ne (fun e=>hne e.symm),ho]
     simp only
     split at h
     ·simp only [Option.some.injEq,Prod.mk.injEq] at h
      obtain ⟨rfl,rfl⟩:=h
      rename_i hc _
      try rw [hc]
      rw [List.set_comm _ _ hne]
     ·cases h
    ·cases h
   ·simp only [getMut] at hg
    split at hg
    case h_2=>cases hg
    split at hg
    case h_2=>cases hg
    split at hg
    case isFalse=>cases hg
    split at hg
    case h_2=>cases hg
    simp only [Option.some.injEq,Prod.mk.injEq] at hg
    obtain ⟨_,rfl,rfl⟩:=hg
    have hne:=hL
    simp only [List.mem_singleton] at hne
    split at h
    ·rename_i ho
     rw [obj_set_ne (fun e=>hne e.symm),ho]
     simp only
     split at h
     ·rename_i hc
      simp only [Option.some.injEq,Prod.mk.injEq] at h
      obtain ⟨rfl,rfl⟩:=h
      try rw [hc]
      rw [List.set_comm _ _ hne]
     ·cases h
    ·cases h
 | .int n,os,os',y,x,L,ls,r,q,hg,hL,h=>by
  cases ls with
  | nil=>cases h
  | cons c ls=>
   simp only [putMut,Option.some.injEq,Prod.mk.injEq] at h ⊢
   obtain ⟨rfl,rfl⟩:=h; exact ⟨rfl,rfl⟩
 | .bool,os,os',y,x,L,ls,r,q,hg,hL,h=>by
  cases ls with
  | nil=>cases h
  | cons c ls=>
   simp only [putMut,Option.some.injEq,Prod.mk.injEq] at h ⊢
   obtain ⟨rfl,rfl⟩:=h; exact ⟨rfl,rfl⟩
 | .str,os,os',y,x,L,ls,r,q,hg,hL,h=>by
  cases ls with
  | nil=>cases h
  | cons c ls=>
   simp only [putMut,Option.some.injEq,Prod.mk.injEq] at h ⊢
   obtain ⟨rfl,rfl⟩:=h; exact ⟨rfl,rfl⟩
theorem putMuts_set {k:Nat} {b:AObj} {os0:Objs} {Lc:List Nat}:∀ (ps:List PIn) {os os':Objs} {y:mutsDen ps} {vs:List SV} {x:insDen ps} {L W:List Nat},gatherIns cb os0 ps vs = some (x,L,W) → (ps.all fun p=>!p.isClo) = true → k ∉ W → putMuts Lc os ps y vs = some os' → putMuts Lc (os.set k b) ps y vs = some (os'.set k b)
 | [],os,os',y,vs,x,L,W,_,_,_,h=>by
  cases vs with
  | nil=>simp only [putMuts,Option.some.injEq] at h ⊢; rw [h]
  | cons _ _=>simp only [putMuts,Option.some.injEq] at h ⊢; rw [h]
 | .imm b t :: ps,os,os',y,vs,x,L,W,hg,hc,hW,h=>by
  cases vs with
  | nil=>cases h
  | cons v vs=>
   simp only [gatherIns] at hg
   split at hg
   ·split at hg
    ·split at hg
     ·split at hg
      ·rename_i hr
       simp only [Option.some.injEq,Prod.mk.injEq] at hg
       obtain ⟨_,_,rfl⟩:=hg
       exact putMuts_set ps hr (by simpa [PIn.isClo] using hc) hW h
      ·cases hg
     ·cases hg
    ·cases hg
   ·cases hg
 | .clo gs r :: ps,os,os',y,vs,x,L,W,hg,hc,hW,h=>by simp [PIn.isClo] at hc
 | .mut b t :: ps,os,os',y,vs,x,L,W,hg,hc,hW,h=>by
  cases vs with
  | nil=>cases h
  | cons v vs=>
   simp only [gatherIns] at hg
   split at hg
   case h_2=>cases hg
   rename_i b' ls hlv
   split at hg
   case isFalse=>cases hg
   split at hg
   case h_2=>cases hg
   rename_i x1 L1 hgm
   split at hg
   case h_2=>cases hg
   rename_i hr
   simp only [Option.some.injEq,Prod.mk.injEq] at hg
   obtain ⟨_,_,rfl⟩:=hg
   simp only [List.mem_append,not_or] at hW
   simp only [putMuts,hlv] at h ⊢
   split at h
   ·rename_i h1
    rw [putMut_set t hgm hW.1 h1]
    exact putMuts_set ps hr (by simpa [PIn.isClo] using hc) hW.2 h
   ·cases h
 | .ptr t :: ps,os,os',y,vs,x,L,W,hg,hc,hW,h=>by
  cases vs with
  | nil=>cases h
  | cons v vs=>
   cases v with
   | one c=>
    cases c <;> simp only [gatherIns] at hg <;> try (cases hg; done)
    split at hg
    ·split at hg
     ·split at hg
      ·split at hg
       ·rename_i hr
        simp only [Option.some.injEq,Prod.mk.injEq] at hg
        obtain ⟨_,_,rfl⟩:=hg
        simp only [List.mem_cons,not_or] at hW
        simp only [putMuts] at h ⊢
        rw [List.set_comm _ _ hW.1]
        exact putMuts_set ps hr (by simpa [PIn.isClo] using hc) hW.2 h
       ·cases hg
      ·cases hg
     ·cases hg
    ·cases hg
   | agg _=>simp [gatherIns] at hg
   | tup _=>simp [gatherIns] at hg
theorem zero_kill {hd:Bool} {l:Nat}:∀ t:Ty,(zeroLeaves t).map (Leaf.kill hd l) = zeroLeaves t
 | .pair a b=>by simp only [zeroLeaves,List.map_append,zero_kill a,zero_kill b]
 | .unit=>rfl
 | .int _=>by simp [zeroLeaves,Leaf.kill,Leaf.dies,has]
 | .bool=>by simp [zeroLeaves,Leaf.kill,Leaf.dies,has]
 | .str=>by simp [zeroLeaves,Leaf.kill,Leaf.dies,has]
 | .slice _ _=>by simp [zeroLeaves,Leaf.kill,Leaf.dies]
theorem killAll_set {hd:Bool} {k:Nat} {t:Ty}:∀ (W:List Nat) {st s':St},st.killAll hd W = some s' → ({ st with objs:=st.objs.set k (.box (zeroLeaves t)) }:St).killAll hd W = some { s' with objs:=s'.objs.set k (.box (zeroLeaves t)) }
 | [],st,s',h=>by simp only [St.killAll,Option.some.injEq] at h ⊢; rw [h]
 | l :: W,st,s',h=>by
  simp only [St.killAll] at h ⊢
  unfold St.kill at h ⊢
  split at h
  case h_2=>cases h
  rename_i s1 h1
  split at h1
  ·cases h1
  rename_i hn
  simp only [Option.some.injEq] at h1
  subst h1
  have hn2:¬ ((st.objs.set k (.box (zeroLeaves t))).any (AObj.leans l) = true):=by
   intro ha
   apply hn
   rw [List.any_eq_true] at ha ⊢
   obtain ⟨z,hz,hz2⟩:=ha
   rcases List.mem_or_eq_of_mem_set hz with hz3 | rfl
   ·exact ⟨z,hz3,hz2⟩
   ·cases hz2
  rw [if_neg hn2]
  simp only
  rw [List.map_set]
  have:AObj.kill hd l (.box (zeroLeaves t)) = .box (zeroLeaves t):=by simp only [AObj.kill,zero_kill]
  rw [this]
  exact killAll_set W h
theorem fill_key {ops:List Oper} {st s2:St} {y:Oper} {cy:Nat} {tt:TypeId} (hy:one1 E cb ops st y = some (s2,cy)) (h7:cy % 8 = 7) (hopy:y.op = .alloc tt):
  ∃ d l ti,y.dst = some d ∧ assoc E.slots d = some l ∧ tyOf E tt = some ti ∧ obj st.objs l = .dead ∧ (Nat.blt l st.objs.length && !Nat.blt l st.ro && !Nat.blt l st.fx) = true ∧ cy = 7 + 8 * maskOf (codes true [l]) ∧ guardOk ops st y = some true ∧
   s2 = ({ st with objs:=st.objs.set l (.box (zeroLeaves ti.ty)) }:St).put (some d) (.one (.ptr l 0)):=by
 unfold one1 at hy
 cases hg:guardOk ops st y with
 | none=>rw [hg] at hy; cases hy
 | some bb=>
 cases bb with
 | false=>rw [hg] at hy; simp only [Option.some.injEq,Prod.mk.injEq] at hy; omega
 | true=>
 rw [hg] at hy
 simp only at hy
 unfold step at hy
 split at hy
 case h_2=>
  exfalso
  split at hy
  ·cases hy
  ·rw [Tree.run_map] at hy
   obtain ⟨p,_,h2⟩:=Tree.run_some _ hy
   simp only [Option.some.injEq,Prod.mk.injEq] at h2
   have:=clsV_le (E:=E) (ρ:=st.ev) (o:=y) (os:=p.2)
   omega
 rename_i t ht
 rw [Tree.run_map] at hy
 obtain ⟨s3,q1,q2⟩:=Tree.run_some t hy
 simp only [Option.some.injEq,Prod.mk.injEq] at q2
 obtain ⟨rfl,q2⟩:=q2
 unfold stepW at ht
 rw [hopy] at ht
 simp only at ht
 split at ht
 case h_2=>cases ht
 rename_i d hd
 split at ht
 case h_2=>cases ht
 rename_i l hl
 simp only [Option.some.injEq] at ht
 subst ht
 split at q1
 case h_2=>cases q1
 rename_i ti hti
 split at q1
 case h_2=>cases q1
 rename_i hob
 split at q1
 case isFalse=>cases q1
 rename_i hc
 simp only [Tree.run,Option.some.injEq] at q1
 refine ⟨d,l,ti,hd,hl,hti,hob,hc,?_,rfl,q1.symm⟩
 rw [← q2]
 unfold wcls
 simp only [hopy,hd,hl]
theorem swap_lend {ops:List Oper} {st s1 s2:St} {x y:Oper} {cx cy:Nat} (hx:one1 E cb ops st x = some (s1,cx)) (hy:one1 E cb ops s1 y = some (s2,cy)) (h6:cx % 8 = 6) (h7:cy % 8 = 7) (hal:isAlloc y = true) (hdis:(cx / 8) &&& (cy / 8) = 0)
  (h1:dstIn (looksAt ops y) x.dst = false) (h2:dstIn (looksAt ops x) y.dst = false) (h3:dstIn x.dst.toList y.dst = false):
  ∃ t1,one1 E cb ops st y = some (t1,cy) ∧ one1 E cb ops t1 x = some (s2,cx):=by
 obtain ⟨tt,hopy,hgn⟩:=isAlloc_of hal
 obtain ⟨d,l,ti,hd,hl,hti,hob,hc,hcy,hgy,hs2⟩:=fill_key hy h7 hopy
 unfold one1 at hx
 cases hgx:guardOk ops st x with
 | none=>rw [hgx] at hx; cases hx
 | some bb=>
 cases bb with
 | false=>rw [hgx] at hx; simp only [Option.some.injEq,Prod.mk.injEq] at hx; omega
 | true=>
 rw [hgx] at hx
 simp only at hx
 unfold step at hx
 split at hx
 case h_2=>
  exfalso
  split at hx
  ·cases hx
  ·rw [Tree.run_map] at hx
   obtain ⟨p,_,q2⟩:=Tree.run_some _ hx
   simp only [Option.some.injEq,Prod.mk.injEq] at q2
   have:=clsV_le (E:=E) (ρ:=st.ev) (o:=x) (os:=p.2)
   omega
 rename_i t ht
 rw [Tree.run_map] at hx
 obtain ⟨s3,r1,r2⟩:=Tree.run_some t hx
 simp only [Option.some.injEq,Prod.mk.injEq] at r2
 obtain ⟨rfl,rfl⟩:=r2
 obtain ⟨c,f,g,s,x0,L,W,hop,hcal,hfl,hrf,hsg,hgi,hw⟩:=wcls_lend h6
 unfold stepW at ht
 simp only [hop,hcal,hfl,hrf,hsg] at ht
 split at ht
 case isFalse=>cases ht
 rename_i hm
 simp only [Option.some.injEq] at ht
 subst ht
 unfold callM at r1
 rw [hgi] at r1
 simp only at r1
 split at r1
 case isFalse=>cases r1
 rename_i hcond
 simp only [Tree.run] at r1
 cases hz:s.fn x0 with
 | none=>rw [hz] at r1; cases r1
 | some z=>
 rw [hz] at r1
 simp only [Option.bind_some] at r1
 split at r1
 ·cases r1
 rename_i st1 hk
 split at r1
 ·cases r1
 rename_i os hput
 simp only [Tree.run,Option.some.injEq] at r1
 have hnc:(s.ins.all fun p=>!p.isClo) = true:=by
  simp only [Bool.and_eq_true] at hcond; exact hcond.2
 have e8:wcls E cb st.ev st.objs x / 8 = maskOf (codes false W):=by rw [hw]; omega
 have e8y:cy / 8 = maskOf (codes true [l]):=by rw [hcy]; omega
 have hbit:∀ k ∈ codes true [l],(wcls E cb st.ev st.objs x / 8).testBit (k + 1) = false:=fun k hk2=>by
  refine disj_bit (a:=cy / 8) (by rw [Nat.and_comm]; exact hdis) ?_
  rw [e8y]
  cases hb:(maskOf (codes true [l])).testBit (k + 1) with
  | true=>rfl
  | false=>exact absurd hk2 (mask_not hb)
 have hlW:l ∉ W:=fun hm2=>by
  have:=hbit (2 * l) (mem_codes (by simp)).1
  rw [e8] at this
  exact mask_not this (mem_codes hm2).1
 obtain ⟨kf,hkl,hst1,hst⟩:=KL.killAll (hd:=false) (W:=W) W (fun _ h=>h) _ _ hk
 have hlen1:st1.objs.length = st.objs.length:=by rw [hst1]; simp [St.mapS]
 have hleno:os.length = st.objs.length:=(putMuts_len s.ins hput).trans hlen1
 have o1:s3.objs = os ++ (outLeaves L s.outs z.1 os.length).2:=by rw [← r1]; rfl
 have hlt:l < st.objs.length:=by
  rw [← hleno]
  refine Decidable.byContradiction fun hn=>?_
  have hl2:l < s3.objs.length:=by simp only [Bool.and_eq_true] at hc; simpa using hc.1.1
  rw [o1] at hob hl2
  have he:obj (os ++ (outLeaves L s.outs z.1 os.length).2) l ∈ (outLeaves L s.outs z.1 os.length).2:=by
   rw [List.length_append] at hl2
   simp only [obj,List.getD,List.getElem?_append_right (show os.length ≤ l by omega),List.getElem?_eq_getElem (show l - os.length < (outLeaves L s.outs z.1 os.length).2.length by omega),Option.getD_some]
   exact List.getElem_mem _
  obtain ⟨_,_,_,_,_,he2⟩:=outLeaves_rows _ _ _ _ he
  rw [hob] at he2; cases he2
 have hob1:obj st1.objs l = .dead:=by
  rw [← putMuts_keep s.ins hgi hlW hput,← hob,o1,obj_app (by rw [hleno]; exact hlt)]
 have hob0:obj st.objs l = .dead:=by
  rw [hst1] at hob1
  simp only [St.mapS,obj,List.getD,List.getElem?_map,List.getElem?_eq_getElem hlt,Option.map_some,Option.getD_some] at hob1 ⊢
  cases ho:st.objs[l] with
  | dead=>rfl
  | row _ _ _ _ _=>rw [ho] at hob1; cases hob1
  | box _=>rw [ho] at hob1; cases hob1
 have hro:s3.ro = st.ro:=by rw [← r1]; show st1.ro = _; rw [hst1]; rfl
 have hfx:s3.fx = st.fx:=by rw [← r1]; show st1.fx = _; rw [hst1]; rfl
 have hc0:(Nat.blt l st.objs.length && !Nat.blt l st.ro && !Nat.blt l st.fx) = true:=by
  rw [hro,hfx] at hc
  simp only [Bool.and_eq_true] at hc ⊢
  exact ⟨⟨by simpa using hlt,hc.1.2⟩,hc.2⟩
 have hptr:(SV.one (.ptr l 0)).mapL kf = .one (.ptr l 0):=by
  refine sv_stay hkl rfl fun k hk2=>?_
  have hk3:k = 2 * l + 1:=by simpa [SV.code,Leaf.code,Leaf.on,Leaf.men,codes] using hk2
  subst hk3
  have:=hbit (2 * l + 1) ((mem_codes (by simp)).2 rfl)
  rw [e8] at this
  exact this
 have hgy0:guardOk ops st y = some true:=by
  unfold guardOk
  rw [hgn]
 refine ⟨({ st with objs:=st.objs.set l (.box (zeroLeaves ti.ty)) }:St).put (some d) (.one (.ptr l 0)),?_,?_⟩
 ·unfold one1
  rw [hgy0]
  simp only
  have hW:stepW E cb st y = some (.ret (({ st with objs:=st.objs.set l (.box (zeroLeaves ti.ty)) }:St).put (some d) (.one (.ptr l 0)))):=by
   unfold stepW
   simp only [hopy,hd,hl,hti,hob0,hc0,if_true]
  unfold step
  rw [hW,Tree.run_map]
  simp only [Tree.run]
  rw [hcy]
  unfold wcls
  simp only [hopy,hd,hl]
 ·have hag:AgreeOn ops x st (({ st with objs:=st.objs.set l (.box (zeroLeaves ti.ty)) }:St).put (some d) (.one (.ptr l 0))):=by
   intro t ht
   show (setReg st.regs (some d) (.one (.ptr l 0))).getD t _ = st.regs.getD t _
   rw [hd] at h2
   exact reg_set_ne (dstIn_not h2 t ht)
  have hev:=agree_ev hag
  have hgd:=agree_guard hag
  have hle:LeO st.objs (st.objs.set l (.box (zeroLeaves ti.ty))):=by
   intro k z hk hz
   rw [obj_set_ne (fun e=>by subst e; rw [hob0] at hk; exact hz hk.symm)]
   exact hk
  generalize hT:({ st with objs:=st.objs.set l (.box (zeroLeaves ti.ty)) }:St).put (some d) (.one (.ptr l 0)) = t1 at hag hev hgd
  have p1:t1.objs = st.objs.set l (.box (zeroLeaves ti.ty)):=by rw [← hT]; rfl
  have p2:t1.ro = st.ro:=by rw [← hT]; rfl
  have hops:=call_ops (c:=c)
  have ef:st.ev f = t1.ev f:=hev f (by rw [hop]; exact hops.2 f hcal)
  have eargs:c.args.toList.map st.ev = c.args.toList.map t1.ev:=List.map_congr_left fun z hz=>hev z (by rw [hop]; exact hops.1 z hz)
  have hgi1:gatherIns cb t1.objs s.ins (c.args.toList.map t1.ev) = some (x0,L,W):=by
   rw [p1,← eargs]
   exact gatherIns_le hle s.ins hnc hgi
  have hw1:wcls E cb t1.ev t1.objs x = wcls E cb st.ev st.objs x:=by
   rw [hw]
   unfold wcls
   simp only [hop,hcal,← ef,hfl,hrf,hsg,hgi1]
  have hk1:t1.killAll false W = some { (st.put (some d) (.one (.ptr l 0))).mapS kf with objs:=((st.put (some d) (.one (.ptr l 0))).mapS kf).objs.set l (.box (zeroLeaves ti.ty)) }:=by
   rw [← hT]
   exact killAll_set W (hst (st.put (some d) (.one (.ptr l 0))) rfl rfl rfl)
  have hput1:putMuts L (((st.put (some d) (.one (.ptr l 0))).mapS kf).objs.set l (.box (zeroLeaves ti.ty))) s.ins z.2 (c.args.toList.map t1.ev) = some (os.set l (.box (zeroLeaves ti.ty))):=by
   rw [← eargs]
   refine putMuts_set s.ins hgi hnc hlW ?_
   rw [show ((st.put (some d) (.one (.ptr l 0))).mapS kf).objs = st1.objs by rw [hst1]; rfl]
   exact hput
  unfold one1
  rw [hgd,hgx]
  simp only
  unfold step stepW
  simp only [hop,hcal,← ef,hfl,hrf,hsg]
  rw [if_pos hm]
  simp only
  rw [Tree.run_map]
  unfold callM
  rw [hgi1]
  simp only
  rw [p2,if_pos hcond]
  simp only [Tree.run,hz,Option.bind_some]
  rw [hk1]
  simp only
  rw [hput1]
  simp only [Tree.run,Option.map_some]
  rw [hw1,hs2]
  congr 2
  refine st_eq _ _ ?_ ?_ ?_ ?_ ?_
  ·have key:(setReg st.regs (some d) (.one (.ptr l 0))).map (SV.mapL kf) = setReg (st.regs.map (SV.mapL kf)) (some d) (.one (.ptr l 0)):=by
    simp only [setReg,List.map_set,hptr]
   have e9:List.length (os.set l (AObj.box (zeroLeaves ti.ty))) = List.length os:=List.length_set
   show setReg ((setReg st.regs (some d) (.one (.ptr l 0))).map (SV.mapL kf)) x.dst (packOuts (outLeaves L s.outs z.1 (List.length (os.set l (AObj.box (zeroLeaves ti.ty))))).1) = setReg s3.regs (some d) (.one (.ptr l 0))
   rw [key,e9,← r1,hst1,← hd]
   exact set_swap h3 _ _ _
  ·show os.set l _ ++ _ = s3.objs.set l _
   rw [o1,List.length_set,List.set_append_left _ _ (by rw [hleno]; exact hlt)]
  ·rw [← r1,hst1]; rfl
  ·rw [← r1,hst1]; rfl
  ·rw [← r1,hst1]; rfl
theorem swap_fill {ops:List Oper} {st s1 s2:St} {x y:Oper} {cx cy:Nat} (hx:one1 E cb ops st x = some (s1,cx)) (hy:one1 E cb ops s1 y = some (s2,cy)) (h2c:cx % 8 = 2) (h7:cy % 8 = 7) (hal:isAlloc y = true) (hfl:callFlat E x = true) (hbl:cy / 8 < 2 ^ (2 * (cx / 8) + 1))
  (h1:dstIn (looksAt ops y) x.dst = false) (h2:dstIn (looksAt ops x) y.dst = false) (h3:dstIn x.dst.toList y.dst = false):
  ∃ t1,one1 E cb ops st y = some (t1,cy) ∧ one1 E cb ops t1 x = some (s2,cx):=by
 have hlen:=two_len hx h2c
 have kx:∃ v nx,s1 = eff st x v nx ∧ guardOk ops st x = some true ∧ stepW E cb st x = none ∧ ¬ ((handsClo E st.ev x && !Nat.beq st.fx 0) = true) ∧ (stepV E cb st.ev st.objs x).run some = some (v,nx) ∧ cx = clsV E st.ev x nx + 8 * mkS st x v (clsV E st.ev x nx):=by
  unfold one1 at hx
  cases hg:guardOk ops st x with
  | none=>rw [hg] at hx; cases hx
  | some bb=>
  cases bb with
  | false=>rw [hg] at hx; simp only [Option.some.injEq,Prod.mk.injEq] at hx; omega
  | true=>
  rw [hg] at hx
  simp only at hx
  unfold step at hx
  split at hx
  ·rename_i t ht
   rw [Tree.run_map] at hx
   obtain ⟨s,_,q2⟩:=Tree.run_some t hx
   simp only [Option.some.injEq,Prod.mk.injEq] at q2
   have:=wcls_ge E cb st.ev st.objs x
   omega
  ·rename_i hW
   split at hx
   ·cases hx
   ·rename_i hh
    rw [Tree.run_map] at hx
    obtain ⟨⟨v,new⟩,q1,q2⟩:=Tree.run_some _ hx
    simp only [Option.some.injEq,Prod.mk.injEq] at q2
    exact ⟨v,new,q2.1.symm,rfl,hW,hh,q1,q2.2.symm⟩
 obtain ⟨v,nx,hs1,hgx,hWx,hhx,hrx,hcx⟩:=kx
 subst hs1
 unfold callFlat at hfl
 split at hfl
 case h_2=>cases hfl
 rename_i c hop
 split at hfl
 case h_2=>cases hfl
 rename_i g hcal
 split at hfl
 case h_2=>cases hfl
 rename_i s hsg
 have hgy:=agree_guard (eff_agree (st:=st) (v:=v) (new:=nx) h1).symm
 obtain ⟨tt,hopy,_⟩:=isAlloc_of hal
 have key:∃ d l ti,y.dst = some d ∧ assoc E.slots d = some l ∧ tyOf E tt = some ti ∧ obj (st.objs ++ nx) l = .dead ∧ (Nat.blt l (st.objs ++ nx).length && !Nat.blt l st.ro && !Nat.blt l st.fx) = true ∧ cy = 7 + 8 * maskOf (codes true [l]) ∧ guardOk ops (eff st x v nx) y = some true ∧
   s2 = ({ eff st x v nx with objs:=(st.objs ++ nx).set l (.box (zeroLeaves ti.ty)) }:St).put (some d) (.one (.ptr l 0)):=by
  unfold one1 at hy
  cases hg:guardOk ops (eff st x v nx) y with
  | none=>rw [hg] at hy; cases hy
  | some bb=>
  cases bb with
  | false=>rw [hg] at hy; simp only [Option.some.injEq,Prod.mk.injEq] at hy; omega
  | true=>
  rw [hg] at hy
  simp only at hy
  unfold step at hy
  split at hy
  case h_2=>
   exfalso
   split at hy
   ·cases hy
   ·rw [Tree.run_map] at hy
    obtain ⟨p,_,h2⟩:=Tree.run_some _ hy
    simp only [Option.some.injEq,Prod.mk.injEq] at h2
    have:=clsV_le (E:=E) (ρ:=(eff st x v nx).ev) (o:=y) (os:=p.2)
    omega
  rename_i t ht
  rw [Tree.run_map] at hy
  obtain ⟨s3,q1,q2⟩:=Tree.run_some t hy
  simp only [Option.some.injEq,Prod.mk.injEq] at q2
  obtain ⟨rfl,q2⟩:=q2
  unfold stepW at ht
  rw [hopy] at ht
  simp only at ht
  split at ht
  case h_2=>cases ht
  rename_i d hd
  split at ht
  case h_2=>cases ht
  rename_i l hl
  simp only [Option.some.injEq] at ht
  subst ht
  split at q1
  case h_2=>cases q1
  rename_i ti hti
  split at q1
  case h_2=>cases q1
  rename_i hob
  split at q1
  case isFalse=>cases q1
  rename_i hc
  simp only [Tree.run,Option.some.injEq] at q1
  refine ⟨d,l,ti,hd,hl,hti,hob,hc,?_,rfl,q1.symm⟩
  rw [← q2]
  unfold wcls
  simp only [hopy,hd,hl]
 obtain ⟨d,l,ti,hd,hl,hti,hob,hc,hcy,hg,hs2⟩:=key
 have hlt:l < st.objs.length:=by
  rw [← hlen]
  refine Decidable.byContradiction fun hn=>?_
  have e8:cy / 8 = maskOf (codes true [l]):=by omega
  have hb:(cy / 8).testBit (2 * l + 1) = true:=by
   cases hb:(cy / 8).testBit (2 * l + 1) with
   | true=>rfl
   | false=>
    rw [e8] at hb
    exact absurd (mem_codes (hd:=true) (W:=[l]) (l:=l) (by simp)).1 (mask_not hb)
  have:=Nat.testBit_lt_two_pow (Nat.lt_of_lt_of_le hbl (Nat.pow_le_pow_right (by omega) (by omega:2 * (cx / 8) + 1 ≤ 2 * l + 1)))
  rw [this] at hb
  cases hb
 have hob0:obj st.objs l = .dead:=by rw [← hob,obj_app hlt]
 have hset:(st.objs ++ nx).set l (.box (zeroLeaves ti.ty)) = st.objs.set l (.box (zeroLeaves ti.ty)) ++ nx:=List.set_append_left _ _ hlt
 have hc0:(Nat.blt l st.objs.length && !Nat.blt l st.ro && !Nat.blt l st.fx) = true:=by
  simp only [Bool.and_eq_true] at hc ⊢
  exact ⟨⟨by simpa using hlt,hc.1.2⟩,hc.2⟩
 refine ⟨({ st with objs:=st.objs.set l (.box (zeroLeaves ti.ty)) }:St).put (some d) (.one (.ptr l 0)),?_,?_⟩
 ·unfold one1
  rw [← hgy,hg]
  simp only
  have hW:stepW E cb st y = some (.ret (({ st with objs:=st.objs.set l (.box (zeroLeaves ti.ty)) }:St).put (some d) (.one (.ptr l 0)))):=by
   unfold stepW
   simp only [hopy,hd,hl,hti,hob0,hc0,if_true]
  unfold step
  rw [hW,Tree.run_map]
  simp only [Tree.run]
  rw [hcy]
  unfold wcls
  simp only [hopy,hd,hl]
 ·have hag:AgreeOn ops x st (({ st with objs:=st.objs.set l (.box (zeroLeaves ti.ty)) }:St).put (some d) (.one (.ptr l 0))):=by
   intro t ht
   show (setReg st.regs (some d) (.one (.ptr l 0))).getD t _ = st.regs.getD t _
   rw [hd] at h2
   exact reg_set_ne (dstIn_not h2 t ht)
  have hev:=agree_ev hag
  have hgd:=agree_guard hag
  generalize hT:({ st with objs:=st.objs.set l (.box (zeroLeaves ti.ty)) }:St).put (some d) (.one (.ptr l 0)) = t1 at hag hev hgd
  have o1:t1.objs = st.objs.set l (.box (zeroLeaves ti.ty)):=by rw [← hT]; rfl
  have o2:t1.ro = st.ro:=by rw [← hT]; rfl
  have o3:t1.fx = st.fx:=by rw [← hT]; rfl
  have o4:t1.regs = setReg st.regs (some d) (.one (.ptr l 0)):=by rw [← hT]; rfl
  have o5:t1.frm = st.frm:=by rw [← hT]; rfl
  have hle:LeO st.objs t1.objs:=by
   intro k z hk hz
   rw [o1,obj_set_ne (fun e=>by subst e; rw [hob0] at hk; exact hz hk.symm)]
   exact hk
  have hlen1:t1.objs.length = st.objs.length:=by rw [o1,List.length_set]
  have hW':stepW E cb t1 x = none:=stepW_none hev (fun t n parts ho=>by rw [hop] at ho; cases ho) o2 o3 hWx
  have hrun:(stepV E cb t1.ev t1.objs x).run some = some (v,nx):=by
   rw [← stepV_congr hev]
   have hfn:(st.ev (.func g)).leaf = .fn g []:=rfl
   simp only [stepV,hop,hcal,hfn,hsg] at hrx ⊢
   split at hrx
   ·cases hrx
   ·rename_i hm
    rw [if_neg hm]
    unfold callV at hrx ⊢
    split at hrx
    ·cases hrx
    ·rename_i q L W hq
     rw [gatherIns_le hle s.ins hfl hq,hlen1]
     exact hrx
  unfold one1
  rw [hgd,hgx]
  simp only
  unfold step
  rw [hW']
  simp only
  rw [← handsClo_congr (E:=E) hev,o3,if_neg hhx,Tree.run_map]
  have run_then:∀ {α β:Type} (t:Tree α) (f:α → β) {x:α},t.run some = some x → t.run (fun x=>some (f x)) = some (f x):=by
   intro α β t f x
   induction t with
   | ret a=>intro h; simp only [Tree.run,Option.some.injEq] at h ⊢; rw [h]
   | fail=>intro h; cases h
   | ite b t e iht ihe=>intro h; simp only [Tree.run] at h ⊢; cases b; exact ihe h; exact iht h
   | bind m k ih=>intro h; simp only [Tree.run] at h ⊢; cases m with
    | none=>cases h
    | some x=>exact ih x h
  rw [run_then _ _ hrun]
  have hcl:=clsV_congr (E:=E) (os:=nx) hev
  have hmk:mkS t1 x v (clsV E st.ev x nx) = mkS st x v (clsV E st.ev x nx):=by
   unfold mkS
   rw [← mkV_congr hev,hlen1]
  rw [← hcl,hmk,← hcx,hs2]
  congr 2
  refine st_eq _ _ ?_ ?_ o2 rfl o5
  ·show setReg t1.regs x.dst v = setReg (setReg st.regs x.dst v) (some d) _
   rw [o4,← hd,set_swap h3]
  ·show t1.objs ++ nx = _
   rw [o1]
   exact hset.symm
theorem swap_ok {ops:List Oper} {st s1 s2:St} {x y:Oper} {cx cy:Nat} (hx:one1 E cb ops st x = some (s1,cx)) (hy:one1 E cb ops s1 y = some (s2,cy)) (hm:mayPass E ops x y cx cy = true) (hmid:(cx % 8 ≠ 3 ∧ cy % 8 ≠ 3) ∨ (midK E blindK0 x y = false ∧ midK E blindK1 x y = false)):
  ∃ t1,one1 E cb ops st y = some (t1,cy) ∧ one1 E cb ops t1 x = some (s2,cx):=by
 unfold mayPass statOk clsOk at hm
 simp only [Bool.and_eq_true,Bool.not_eq_true'] at hm
 obtain ⟨⟨⟨h1,h2⟩,h3⟩,h4⟩:=hm
 have h33:cx % 8 ≠ 3 ∧ cy % 8 ≠ 3:=by
  rcases hmid with h | ⟨q1,q2⟩
  ·exact h
  ·rw [q1,q2] at h4
   refine ⟨fun e=>?_,fun e=>?_⟩ <;> rw [e] at h4 <;> split at h4
   all_goals first | omega | simp [midOk] at h4
 by_cases hc4:cy % 8 = 4
 ·have h0:isMove x = true ∧ cy = 4 ∧ cx / 8 ≤ 1:=by
   rw [hc4] at h4
   split at h4 <;> simp_all
  obtain ⟨h0,rfl,hle⟩:=h0
  exact swap_copy hx hy h0 hle h1 h2 h3
 by_cases h67:cx % 8 = 6 ∧ cy % 8 = 7
 ·rw [h67.1,h67.2] at h4
  simp only [Bool.and_eq_true,beq_iff_eq] at h4
  exact swap_lend hx hy h67.1 h67.2 h4.1.1 h4.2 h1 h2 h3
 by_cases hw:cx % 8 = 5 ∨ cx % 8 = 6 ∨ cx % 8 = 7
 ·have h0:y.guard = none ∧ cy % 8 ≤ 1 ∧ cy / 8 ≠ 0 ∧ (cx / 8) &&& (cy / 8) = 0:=by
   rcases hw with hw | hw | hw <;> rw [hw] at h4 <;> split at h4
   all_goals first | omega | skip
   all_goals simp_all
  have h6:cy % 8 = 1 → cx % 8 = 6 → isIx y = false ∧ (cy / 8) % 2 = 1:=by
   intro e1 e2
   rw [e1,e2] at h4
   simp only [Bool.and_eq_true,Bool.not_eq_true',beq_iff_eq] at h4
   exact h4.1.2
  exact swap_rw hx hy hw h0.1 h0.2.1 h6 h0.2.2.1 h0.2.2.2 h1 h2 h3
 by_cases h27:cx % 8 = 2 ∧ cy % 8 = 7
 ·rw [h27.1,h27.2] at h4
  simp only [Bool.and_eq_true] at h4
  exact swap_fill hx hy h27.1 h27.2 h4.1.1 h4.1.2 (by simpa using h4.2) h1 h2 h3
 by_cases hc5:cy % 8 = 5 ∨ cy % 8 = 6 ∨ cy % 8 = 7
 ·have h0:(isPick x = true ∧ cx / 8 = 0 ∧ cy % 8 = 5) ∨ (x.guard = none ∧ cx % 8 ≤ 1 ∧ cx / 8 ≠ 0 ∧ (cx / 8) &&& (cy / 8) = 0):=by
   rcases hc5 with hc5 | hc5 | hc5 <;> rw [hc5] at h4 <;> split at h4
   all_goals first | omega | skip
   all_goals simp_all
  rcases h0 with ⟨h0,hz,h5⟩ | ⟨q0,q1,q2,q3⟩
  ·exact swap_box hx hy h5 h0 (by omega) h1
  ·exact swap_wr hx hy hc5 q0 q1 q2 (fun e1 e2 e3=>by rw [e1,e3] at h4; simp only [e2,Bool.not_true,Bool.false_or,Bool.and_eq_true,beq_iff_eq] at h4; exact h4.1.2) q3 h1 h2 h3
 have hcase:cx % 8 ≤ 2 ∧ cy % 8 ≤ 2 ∧ (cx % 8 ≤ 1 ∨ cy % 8 = 0 ∨ (cx % 8 = 2 ∧ cy % 8 = 1 ∧ cy / 8 ≠ 0 ∧ cy / 8 < 2 ^ (2 * (cx / 8) + 1))) ∧ (cy % 8 = 2 → cx % 8 ≤ 1):=by
  split at h4
  all_goals first | omega | simp_all
 obtain ⟨hcx,hcy,hA,hB⟩:=hcase
 obtain ⟨v,nx,hs1,_,hnx⟩:=one_move hx hcx (st':=st) (fun _ _=>rfl) rfl rfl (.inl rfl)
 subst hs1
 have hn2:cx % 8 = 2 → cx / 8 = st.objs.length:=two_len hx
 obtain ⟨u,ny,hs2,hyt,hny⟩:=one_move hy hcy (st':=st) (eff_agree h1) rfl rfl (by
  rcases hA with h | h | ⟨q0,q1,q2,q3⟩
  ·left; rw [hnx h]; simp [eff]
  ·exact .inr (.inr (.inl h))
  ·exact .inr (.inr (.inr ⟨q1,q2,by rw [← hn2 q0]; exact q3,nx,rfl⟩)))
 subst hs2
 obtain ⟨v',nx',he,hxt,hnx'⟩:=one_move hx hcx (st':=eff st y u ny) (eff_agree h2).symm rfl rfl (by
  by_cases hc:cy % 8 ≤ 1
  ·left; rw [hny hc]; simp [eff]
  ·exact .inr (.inl ⟨hB (by omega),ny,rfl⟩))
 refine ⟨_,hyt,?_⟩
 rw [hxt]
 congr 1
 congr 1
 have hd:∀ (regs:List SV) (p q:SV),setReg (setReg regs y.dst p) x.dst q = setReg (setReg regs x.dst q) y.dst p:=by
  intro regs p q
  cases hxd:x.dst with
  | none=>rfl
  | some d=>
   cases hyd:y.dst with
   | none=>rfl
   | some e=>
    have hne:e ≠ d:=fun e'=>by
     rw [hxd,hyd,e'] at h3
     simp [dstIn,has] at h3
    simp [setReg,List.set_comm _ _ hne]
 have hregs:setReg st.regs x.dst v = setReg st.regs x.dst v':=by have:=congrArg St.regs he; exact this
 have hobjs:nx = nx':=by have:=congrArg St.objs he; simpa [eff] using this
 subst hobjs
 have e1:(eff (eff st y u ny) x v' nx).regs = (eff (eff st x v nx) y u ny).regs:=by
  show setReg (setReg st.regs y.dst u) x.dst v' = setReg (setReg st.regs x.dst v) y.dst u
  rw [hd,← hregs]
 have e2:(eff (eff st y u ny) x v' nx).objs = (eff (eff st x v nx) y u ny).objs:=by
  show st.objs ++ ny ++ nx = st.objs ++ nx ++ ny
  by_cases hc:cx % 8 ≤ 1
  ·rw [hnx hc]; simp
  ·rw [hny (by rcases hA with h | h | h; exact absurd h hc; all_goals omega)]; simp
 have e3:∀ (a b:St),a.regs = b.regs → a.objs = b.objs → a.ro = b.ro → a.fx = b.fx → a.frm = b.frm → a = b:=by
  intro a b h1 h2 h3 h4 h5
  cases a; cases b; simp_all
 exact e3 _ _ e1 e2 rfl rfl rfl
theorem Tree.run_then {α β:Type} (t:Tree α) (f:α → β) {x:α} (h:t.run some = some x):t.run (fun x=>some (f x)) = some (f x):=by
 induction t with
 | ret a=>simp only [Tree.run,Option.some.injEq] at h ⊢; rw [h]
 | fail=>cases h
 | ite b t e iht ihe=>simp only [Tree.run] at h ⊢; cases b; exact ihe h; exact iht h
 | bind m k ih=>simp only [Tree.run] at h ⊢; cases m with
  | none=>cases h
  | some x=>exact ih x h
abbrev PSt:=St × Option Pend
def plainO (E:Env) (s:PSt) (o:Oper):Bool:=match s.2 with
 | none=>!wantsImm E.app o.dst
 | some _=>blindO s.1 o
def oneP (E:Env) (cb:CB) (ops:List Oper) (s:PSt) (o:Oper):Option (PSt × Nat):=
 match plainO E s o with
 | true=>match one1 E cb ops s.1 o with
  | some (s',c)=>some ((s',s.2),c)
  | none=>none
 | false=>match o.guard with
  | some _=>none
  | none=>match s.2 with
   | none=>(appT E s.1 o).run fun q=>some ((q.1,some q.2),appMsk s.1 o)
   | some p=>(commitT E s.1 o p).run fun s'=>some ((s',none),3)
theorem oneP_of {ops:List Oper} {s s1:PSt} {o:Oper} {c:Nat} (h:oneP E cb ops s o = some (s1,c)):
  (plainO E s o = true ∧ one1 E cb ops s.1 o = some (s1.1,c) ∧ s1.2 = s.2) ∨
  (o.guard = none ∧ s.2 = none ∧ wantsImm E.app o.dst = true ∧ ∃ p,(appT E s.1 o).run some = some (s1.1,p) ∧ s1.2 = some p ∧ c = appMsk s.1 o) ∨
  (o.guard = none ∧ ∃ p,s.2 = some p ∧ (commitT E s.1 o p).run some = some s1.1 ∧ s1.2 = none ∧ c = 3):=by
 obtain ⟨st,pd⟩:=s
 obtain ⟨t1,q1⟩:=s1
 unfold oneP at h
 split at h
 ·rename_i hb
  split at h
  ·rename_i s' c' h1
   simp only [Option.some.injEq,Prod.mk.injEq] at h
   obtain ⟨⟨rfl,rfl⟩,rfl⟩:=h
   exact .inl ⟨hb,h1,rfl⟩
  ·cases h
 ·rename_i hb
  split at h
  ·cases h
  rename_i hg
  cases pd with
  | none=>
   simp only at h
   obtain ⟨q,h1,h2⟩:=Tree.run_some _ h
   simp only [Option.some.injEq,Prod.mk.injEq] at h2
   obtain ⟨⟨rfl,rfl⟩,rfl⟩:=h2
   exact .inr (.inl ⟨hg,rfl,by simpa [plainO] using hb,q.2,h1,rfl,rfl⟩)
  | some p=>
   simp only at h
   obtain ⟨q,h1,h2⟩:=Tree.run_some _ h
   simp only [Option.some.injEq,Prod.mk.injEq] at h2
   obtain ⟨⟨rfl,rfl⟩,rfl⟩:=h2
   exact .inr (.inr ⟨hg,p,rfl,h1,rfl,rfl⟩)
theorem oneP_plain {ops:List Oper} {st s1:St} {pd:Option Pend} {o:Oper} {c:Nat} (hb:plainO E (st,pd) o = true) (h:one1 E cb ops st o = some (s1,c)):oneP E cb ops (st,pd) o = some ((s1,pd),c):=by
 unfold oneP
 simp only [hb,h]
theorem oneP_app {ops:List Oper} {st s1:St} {p:Pend} {o:Oper} (hg:o.guard = none) (hw:wantsImm E.app o.dst = true) (h:(appT E st o).run some = some (s1,p)):oneP E cb ops (st,none) o = some ((s1,some p),appMsk st o):=by
 unfold oneP plainO
 simp only [hw,Bool.not_true,hg]
 exact Tree.run_then _ (fun q=>((q.1,some q.2),appMsk st o)) h
theorem KL.mono {m m':Nat} {K:St → Option St} (h:KL m K) (hm:∀ k,m.testBit k = true → m'.testBit k = true):KL m' K:=by
 intro s1 s2 hk
 obtain ⟨f,h1,h2,h3⟩:=h s1 s2 hk
 exact ⟨f,h1.mono hm,h2,h3⟩
theorem maskOf_bit {W V:List Nat} (h:∀ k ∈ W,k ∈ V):∀ k,(maskOf W).testBit k = true → (maskOf V).testBit k = true:=by
 have key:∀ (W:List Nat) (a k:Nat),(W.foldl (fun a l=>a ||| 2 ^ (l + 1)) a).testBit k = true → a.testBit k = true ∨ ∃ l ∈ W,k = l + 1:=by
  intro W
  induction W with
  | nil=>intro a k h; exact .inl h
  | cons l W ih=>
   intro a k h
   rcases ih _ _ h with h1 | ⟨l',h1,h2⟩
   ·rw [Nat.testBit_or,Bool.or_eq_true,Nat.testBit_two_pow] at h1
    rcases h1 with h1 | h1
    ·exact .inl h1
    ·exact .inr ⟨l,by simp,by simpa [eq_comm] using h1⟩
   ·exact .inr ⟨l',by simp [h1],h2⟩
 intro k hk
 rcases key W 0 k hk with h1 | ⟨l,h1,rfl⟩
 ·simp at h1
 ·exact mask_bit (.inr (h l h1))
theorem KL.moveF {m l:Nat}:KL (maskOf (codes false [l] ++ codes true [m])) (fun st=>st.move [m] false l):=by
 intro s1 s2 hs
 simp only [St.move] at hs
 split at hs
 case isFalse=>cases hs
 rename_i hc
 obtain ⟨f,h1,h2,h3⟩:=KL.bind ((KL.killAll (hd:=true) (W:=[m]) [m] (by simp)).mono (maskOf_bit (V:=codes false [l] ++ codes true [m]) fun k hk=>List.mem_append_right _ hk))
  ((KL.kill (hd:=false) (W:=[l]) (l:=l) (by simp)).mono (maskOf_bit (V:=codes false [l] ++ codes true [m]) fun k hk=>List.mem_append_left _ hk)) s1 s2 hs
 refine ⟨f,h1,h2,fun st ho hr hf=>?_⟩
 simp only [St.move]
 rw [hr,hf,if_pos hc]
 exact h3 st ho hr hf
theorem app_one {st s1:St} {p:Pend} {o:Oper} (h:(appT E st o).run some = some (s1,p)):
  ∃ so xo l i off m kf row,so ∈ o.op.operands.toList ∧ xo ∈ o.op.operands.toList ∧ appMsk st o = 3 + 8 * maskOf (codes false [l] ++ codes true [m]) ∧ m ≠ l ∧
   Kl (maskOf (codes false [l] ++ codes true [m])) kf ∧ (∃ e t xs L ys,obj st.objs l = .row e t xs true L ∧ row = .row e t ys true L ∧ ys.length = xs.length) ∧ l < st.objs.length ∧
   s1 = { st with regs:=setReg (st.regs.map (SV.mapL kf)) o.dst (.one (.sub l i off)),objs:=(deadAll [m] (st.objs.map (AObj.mapL kf))).set l row,frm:=st.frm.map kf } ∧
   ∀ st':St,st'.objs = st.objs → st'.ro = st.ro → st'.fx = st.fx → st'.frm = st.frm → (∀ z ∈ o.op.operands.toList,st.ev z = st'.ev z) →
    (appT E st' o).run some = some ({ st' with regs:=setReg (st'.regs.map (SV.mapL kf)) o.dst (.one (.sub l i off)),objs:=(deadAll [m] (st.objs.map (AObj.mapL kf))).set l row,frm:=st.frm.map kf },p) ∧ appMsk st' o = appMsk st o:=by
 unfold appT at h
 split at h
 case h_2=>cases h
 rename_i c ho
 split at h
 case h_2=>cases h
 rename_i so xo tt uu hc hargs hTy
 split at h
 case isFalse=>cases h
 rename_i htu
 split at h
 case h_2=>cases h
 rename_i ei ti l i off m hti hsl hxl
 rw [Tree.run_map] at h
 obtain ⟨st2,hs1,hs2⟩:=Tree.run_some _ h
 simp only [Option.some.injEq,Prod.mk.injEq] at hs2
 obtain ⟨rfl,rfl⟩:=hs2
 have hso:so ∈ o.op.operands.toList:=by rw [ho]; exact (call_ops (c:=c)).1 so (by rw [hargs]; simp)
 have hxo:xo ∈ o.op.operands.toList:=by rw [ho]; exact (call_ops (c:=c)).1 xo (by rw [hargs]; simp)
 have hmsk:appMsk st o = 3 + 8 * maskOf (codes false [l] ++ codes true [m]):=by
  unfold appMsk
  simp only [ho,hargs,hsl,hxl]
 have hs0:=hs1
 unfold appSub at hs1
 split at hs1
 ·cases hs1
 rename_i hge
 have hlm:m ≠ l:=fun e=>hge (by simp [e])
 split at hs1
 case h_2=>cases hs1
 rename_i e1 t xs L e2 u zs L2 hob hobm
 split at hs1
 case h_2=>cases hs1
 rename_i e' u' ys hla
 split at hs1
 case h_2=>cases hs1
 rename_i zs' hcast
 split at hs1
 case isFalse=>cases hs1
 rename_i hcond
 obtain ⟨hbd,hs1⟩:=Tree.run_need hs1
 split at hs1
 case h_2=>cases hs1
 rename_i z hset
 split at hs1
 case h_2=>cases hs1
 rename_i st1 hmv
 simp only [Tree.run,Option.some.injEq] at hs1
 subst hs1
 obtain ⟨kf,hkl,rfl,hst⟩:=KL.moveF (l:=l) (m:=m) _ _ hmv
 refine ⟨so,xo,l,i,off,m,kf,.row e1 t (xs.set i.toNat z) true L,hso,hxo,hmsk,hlm,hkl,⟨e1,t,xs,L,_,hob,rfl,by simp⟩,obj_lt (by rw [hob]; simp),?_,fun st' h1 h2 h3 h4 h5=>⟨?_,?_⟩⟩
 ·cases hd:o.dst <;> simp [St.put,St.mapS,setReg,hd]
 ·have e1':=h5 so hso
  have e2':=h5 xo hxo
  unfold appT
  simp only [ho,hc,hargs,hTy,htu,if_true,hti,← e1',← e2',hsl,hxl]
  rw [Tree.run_map]
  unfold appSub
  rw [h2,h3,if_neg hge,h1]
  simp only [hob,hobm,hla,hcast]
  rw [if_pos hcond]
  have hst':=hst st' h1 h2 h3
  simp only [Tree.need,Tree.run,hbd,if_true,hset,hst']
  cases hd:o.dst <;> simp [St.put,St.mapS,setReg,hd,h1,h2,h3,h4]
 ·rw [hmsk]
  unfold appMsk
  simp only [ho,hargs,← h5 so hso,← h5 xo hxo,hsl,hxl]
theorem blind_cong {st st':St} {o:Oper} (hev:∀ x ∈ o.op.operands.toList,st.ev x = st'.ev x):blindO st' o = blindO st o:=by
 unfold blindO
 cases ho:o.op <;> rw [ho] at hev <;> simp only
 case load t x=>rw [hev x (by simp [Op.operands])]
 case indexAddr t x i=>rw [hev x (by simp [Op.operands])]
theorem blind_cls {ops:List Oper} {st s1:St} {x:Oper} {cx:Nat} (h:one1 E cb ops st x = some (s1,cx)) (hb:blindO st x = true):cx % 8 ≤ 1 ∧ ∃ v,s1 = eff st x v []:=by
 obtain ⟨b1,b2⟩:=blind_stepW (E:=E) (cb:=cb) hb
 unfold one1 at h
 split at h
 ·unfold step at h
  rw [b1] at h
  simp only [b2,Bool.false_and,Bool.false_eq_true,if_false] at h
  rw [Tree.run_map] at h
  obtain ⟨⟨v,new⟩,q1,q2⟩:=Tree.run_some _ h
  simp only [Option.some.injEq,Prod.mk.injEq] at q2
  obtain ⟨rfl,rfl⟩:=q2
  have hcl:clsV E st.ev x new ≤ 1 ∧ new = []:=by
   unfold blindO at hb
   split at hb
   ·rename_i z ho
    simp only [stepV,ho] at q1
    have:=Tree.run_ret1 q1
    simp only [Prod.mk.injEq] at this
    obtain ⟨_,rfl⟩:=this
    simp [clsV,ho]
   ·rename_i t z f ho
    simp only [stepV,ho] at q1
    have hn:new = []:=by
     split at q1
     case h_2=>cases q1
     split at q1
     case h_2=>cases q1
     split at q1
     ·cases q1
     split at q1
     all_goals first | (cases q1; done) | (have:=Tree.run_ret1 q1; simp only [Prod.mk.injEq] at this; exact this.2)
    subst hn
    simp [clsV,ho]
   ·rename_i z ho
    simp only [stepV,ho] at q1
    have hn:new = []:=by
     split at q1
     all_goals first | (cases q1; done) | (have:=Tree.run_ret1 q1; simp only [Prod.mk.injEq] at this; exact this.2)
    subst hn
    simp [clsV,ho]
   ·rename_i t z ho
    simp only [stepV,ho] at q1
    have hn:new = []:=by
     split at q1
     case h_2=>cases q1
     split at q1
     case h_2=>cases q1
     have:=Tree.run_ret1 q1
     simp only [Prod.mk.injEq] at this; exact this.2
    subst hn
    simp only [clsV,ho]
    split <;> simp
   ·rename_i t z i ho
    split at hb
    case h_2=>cases hb
    rename_i l hl
    have hp:lookOf st.ev x = some (l,true,true):=by simp [lookOf,ho,hl]
    rcases stepV_row hp q1 with ⟨_,_,_,_,_,_,r1,_⟩ | ⟨_,_,_,r3,r4⟩
    ·rw [ho] at r1; cases r1
    ·simp only at r4
     subst r4
     exact ⟨by omega,rfl⟩
   ·cases hb
  obtain ⟨hcl,rfl⟩:=hcl
  exact ⟨by omega,v,rfl⟩
 ·simp only [Option.some.injEq,Prod.mk.injEq] at h
  obtain ⟨rfl,rfl⟩:=h
  exact ⟨by omega,.one .skip,by simp [eff,St.put]⟩
 ·cases h
theorem mid_blind {ops:List Oper} {st s1:St} {x:Oper} {cx:Nat} {b0 b1:Bool} (h:one1 E cb ops st x = some (s1,cx)) (hm:midOk b0 b1 cx = true) (h0:b0 = true → blindK0 x = true) (h1:b1 = true → blindK1 x = true):
  cx % 8 ≤ 1 ∧ cx / 8 ≠ 0 ∧ blindO st x = true ∧ (cx % 8 = 1 → ∃ p,lookOf st.ev x = some p ∧ p.2.2 = true) ∧ x.guard = none:=by
 unfold midOk at hm
 simp only [Bool.and_eq_true,bne_iff_ne,ne_eq,Bool.or_eq_true,beq_iff_eq] at hm
 obtain ⟨hk0,hm⟩:=hm
 rcases hm with ⟨hb,hc⟩ | ⟨hb,hc,ho⟩
 ·have:=h0 hb
  unfold blindK0 at this
  simp only [Bool.and_eq_true,Option.isNone_iff_eq_none] at this
  refine ⟨by omega,hk0,?_,fun h=>by omega,this.1⟩
  have:=this.2
  unfold blindB0 at this
  unfold blindO
  split at this
  ·rename_i hop; simp only [hop]
  ·rename_i hop; simp only [hop]
  ·rename_i hop; simp only [hop]
  ·cases this
 ·obtain ⟨_,_,_,_,_,_,_,hlk⟩:=mk_info h (by omega) hk0
  obtain ⟨p,hp,hp2⟩:=hlk hc
  have hp2:=hp2 ho
  have:=h1 hb
  unfold blindK1 at this
  simp only [Bool.and_eq_true,Option.isNone_iff_eq_none] at this
  refine ⟨by omega,hk0,?_,fun _=>⟨p,hp,hp2⟩,this.1⟩
  have:=this.2
  unfold blindB1 at this
  unfold blindO
  unfold lookOf at hp
  split at this
  ·rename_i t a hop
   simp only [hop] at hp ⊢
   split at hp
   ·rename_i hl; simp only [hl]
   ·simp only [Option.some.injEq] at hp; subst hp; cases hp2
   ·simp only [Option.some.injEq] at hp; subst hp; cases hp2
   ·cases hp
  ·rename_i t a i hop
   simp only [hop] at hp ⊢
   split at hp
   ·rename_i hl; simp only [hl]
   ·simp only [Option.some.injEq] at hp; subst hp; cases hp2
   ·cases hp
  ·cases this
theorem stepV_len {ρ:Operand → SV} {os os':Objs} {o:Oper} {p:Nat × Bool × Bool} (hp:lookOf ρ o = some p) (hp2:p.2.2 = true) (hp1:p.2.1 = true) {e:TypeId} {t:Ty} {xs ys:List t.den} {d:Bool} {L:List Nat} (h1:obj os p.1 = .row e t xs d L) (h2:obj os' p.1 = .row e t ys d L) (hl:ys.length = xs.length):stepV E cb ρ os' o = stepV E cb ρ os o:=by
 unfold lookOf at hp
 split at hp
 ·split at hp
  ·simp only [Option.some.injEq] at hp; subst hp; cases hp1
  ·simp only [Option.some.injEq] at hp; subst hp; cases hp1
  ·simp only [Option.some.injEq] at hp; subst hp; cases hp1
  ·cases hp
 ·rename_i T x i ho
  split at hp
  ·rename_i l hx
   simp only [Option.some.injEq] at hp; subst hp
   simp only [stepV,ho,hx,h1,h2,hl]
  ·simp only [Option.some.injEq] at hp; subst hp; cases hp1
  ·cases hp
 ·cases hp
theorem look_kind {ρ:Operand → SV} {o:Oper} {p:Nat × Bool × Bool} (hp:lookOf ρ o = some p):p.2.1 = true → p.2.2 = true:=by
 unfold lookOf at hp
 split at hp
 ·split at hp
  all_goals first | (cases hp; done) | (simp only [Option.some.injEq] at hp; subst hp; simp)
 ·split at hp
  all_goals first | (cases hp; done) | (simp only [Option.some.injEq] at hp; subst hp; simp)
 ·cases hp
theorem app_objs {st:St} {l m:Nat} {kf:Leaf → Leaf} {row:AObj} {k:Nat} (h1:k ≠ l) (h2:k ≠ m):obj ((deadAll [m] (st.objs.map (AObj.mapL kf))).set l row) k = obj (st.objs.map (AObj.mapL kf)) k:=by
 rw [obj_set_ne h1,deadAll_ne _ _ (by simpa using h2)]
theorem app_mask {l m k:Nat}:((maskOf (codes false [l] ++ codes true [m])).testBit (2 * k + 1) = false → k ≠ l ∧ k ≠ m) ∧ ((maskOf (codes false [l] ++ codes true [m])).testBit (2 * k + 2) = false → k ≠ m):=by
 refine ⟨fun h=>⟨fun e=>mask_not h ?_,fun e=>mask_not h ?_⟩,fun h e=>mask_not h ?_⟩
 ·subst e; simp [codes]
 ·subst e; simp [codes]
 ·subst e; simp [codes]
theorem commit_store {st s1:St} {o:Oper} {p:Pend} (h:(commitT E st o p).run some = some s1):∃ t a x,o.op = .store t a x ∧ o.dst = none:=by
 unfold commitT at h
 split at h
 case h_2=>cases h
 rename_i t a x ho
 split at h
 case h_2=>cases h
 rename_i hd _ _ _
 exact ⟨t,a,x,ho,hd⟩
theorem swap_okP {ops:List Oper} {s s1 s2:PSt} {x y:Oper} {cx cy:Nat} (hx:oneP E cb ops s x = some (s1,cx)) (hy:oneP E cb ops s1 y = some (s2,cy)) (hm:mayPass E ops x y cx cy = true):
  ∃ t1,oneP E cb ops s y = some (t1,cy) ∧ oneP E cb ops t1 x = some (s2,cx):=by
 obtain ⟨st,pd⟩:=s
 obtain ⟨st1,pd1⟩:=s1
 obtain ⟨st2,pd2⟩:=s2
 have hm0:=hm
 unfold mayPass statOk at hm
 simp only [Bool.and_eq_true,Bool.not_eq_true'] at hm
 obtain ⟨⟨⟨h1,h2⟩,h3⟩,h4⟩:=hm
 have mid0:∀ {z:Oper},z.dst = none → (∃ t a u,z.op = .store t a u) → (midK E blindK0 x y = true ∨ midK E blindK1 x y = true) → z = x ∨ z = y → False:=by
  rintro z hd ⟨t,a,u,ho⟩ hk hz
  unfold midK at hk
  rcases hz with rfl | rfl
  ·simp [hd,wantsImm,blindK0,blindK1,blindB0,blindB1,ho] at hk
  ·simp [hd,wantsImm,blindK0,blindK1,blindB0,blindB1,ho] at hk
 have midF:∀ {c:Nat},midOk (midK E blindK0 x y) (midK E blindK1 x y) c = true → midK E blindK0 x y = true ∨ midK E blindK1 x y = true:=by
  intro c hc
  unfold midOk at hc
  simp only [Bool.and_eq_true,Bool.or_eq_true] at hc
  rcases hc.2 with h | h
  ·exact .inl h.1
  ·exact .inr h.1
 rcases oneP_of hx with ⟨px,ox,ex⟩ | ⟨gx,nx,wx,p,ax,ex,rfl⟩ | ⟨gx,p,nx,cx',ex,rfl⟩
 ·simp only at ex ox
  subst ex
  rcases oneP_of hy with ⟨py,oy,ey⟩ | ⟨gy,ny,wy,p,ay,ey,rfl⟩ | ⟨gy,p,ny,cy',ey,rfl⟩
  ·simp only at ey oy
   subst ey
   cases pd2 with
   | none=>
    simp only [plainO,Bool.not_eq_true'] at px py
    obtain ⟨t1,q1,q2⟩:=swap_ok ox oy hm0 (.inr ⟨by simp [midK,px,py],by simp [midK,px,py]⟩)
    exact ⟨(t1,none),oneP_plain (by simp [plainO,py]) q1,oneP_plain (by simp [plainO,px]) q2⟩
   | some p=>
    simp only [plainO] at px py
    obtain ⟨cx1,v,rfl⟩:=blind_cls ox px
    obtain ⟨cy1,u,rfl⟩:=blind_cls oy py
    obtain ⟨t1,q1,q2⟩:=swap_ok ox oy hm0 (.inl ⟨by omega,by omega⟩)
    have hby:blindO st y = true:=by
     rw [← blind_cong (agree_ev (eff_agree (v:=v) (new:=[]) (st:=st) h1).symm)]
     exact py
    obtain ⟨_,u',rfl⟩:=blind_cls q1 hby
    refine ⟨(_,some p),oneP_plain hby q1,oneP_plain ?_ q2⟩
    show blindO _ x = true
    rw [blind_cong (agree_ev (eff_agree (v:=u') (new:=[]) (st:=st) h2).symm)]
    exact px
  ·
   simp only at ny ay ey
   subst ny
   simp only [plainO,Bool.not_eq_true'] at px
   obtain ⟨so,xo,l,i,off,m,kf,row,hso,hxo,hmsk,hlm,hkl,⟨e,t,xs,L,ys,hob,rfl,hlen⟩,hll,rfl,hst⟩:=app_one ay
   rw [hmsk] at h4 hm0 ⊢
   have hmod:(3 + 8 * maskOf (codes false [l] ++ codes true [m])) % 8 = 3:=by omega
   have hdiv:(3 + 8 * maskOf (codes false [l] ++ codes true [m])) / 8 = maskOf (codes false [l] ++ codes true [m]):=by omega
   unfold clsOk at h4
   rw [hmod,hdiv] at h4
   have h5:midOk (midK E blindK0 x y) (midK E blindK1 x y) cx = true ∧ (cx / 8) &&& maskOf (codes false [l] ++ codes true [m]) = 0:=by
    split at h4
    all_goals first | (cases h4; done) | omega | skip
    all_goals (simp only [Bool.and_eq_true,beq_iff_eq] at h4; exact h4)
   obtain ⟨h5,hdis⟩:=h5
   have hK0:midK E blindK0 x y = true → blindK0 x = true:=fun h=>by simpa [midK,px,wy] using h
   have hK1:midK E blindK1 x y = true → blindK1 x = true:=fun h=>by simpa [midK,px,wy] using h
   obtain ⟨hc,hk,hbx,hlk,hgd⟩:=mid_blind ox h5 hK0 hK1
   obtain ⟨_,v0,rfl,_⟩:=mk_info ox hc hk
   have hobe:(eff st x v0 []).objs = st.objs:=by simp [eff]
   rw [hobe] at hob
   obtain ⟨q1,q2⟩:=hst st hobe.symm rfl rfl rfl (agree_ev (eff_agree (v:=v0) (new:=[]) (st:=st) h1).symm |> fun h z hz=>(h z hz).symm)
   have h3':∀ (regs:List SV) (p q:SV),setReg (setReg regs y.dst p) x.dst q = setReg (setReg regs x.dst q) y.dst p:=fun regs p q=>set_swap h3 regs p q
   obtain ⟨v,he,hrun,hev,_⟩:=look_fwd (out:=.one (.sub l i off)) (os:=(deadAll [m] ((eff st x v0 []).objs.map (AObj.mapL kf))).set l (.row e t ys true L)) (fm:=(eff st x v0 []).frm.map kf) (yd:=y.dst) ox hkl (fun k cs hk1 hk2=>by
     obtain ⟨n1,n2⟩:=app_mask.1 hk1
     rw [app_objs n1 n2,hobe]
     exact box_map hk2) (fun p0 e0 t0 x0 d0 L0 hp hpb hpi hc1 hob0=>by
     obtain ⟨p1,hp1,hp2⟩:=hlk hc1
     rw [hp] at hp1
     simp only [Option.some.injEq] at hp1
     subst hp1
     have hb0:=disj_bit hdis hpb
     unfold lookBit at hb0
     cases hp3:p0.2.1 with
     | true=>
      rw [hp3,if_pos rfl] at hb0
      have n2:=app_mask.2 hb0
      by_cases n1:p0.1 = l
      ·rw [n1] at hob0
       rw [hob] at hob0
       cases hob0
       exact stepV_len hp hp2 hp3 (by rw [n1]; exact hob) (by rw [n1,obj_set_eq (by rw [deadAll_len,List.length_map]; exact hll)]) hlen
      ·refine stepV_look hp ?_
       rw [app_objs n1 n2,hobe,(row_mapL (fun _=>rfl)).1 hob0,hob0]
     | false=>
      rw [hp3,if_neg (by simp)] at hb0
      obtain ⟨n1,n2⟩:=app_mask.1 hb0
      refine stepV_look hp ?_
      rw [app_objs n1 n2,hobe,(row_mapL (fun _=>rfl)).1 hob0,hob0]) hgd hc hk hdis h2 h3'
   have hms:appMsk st y = 3 + 8 * maskOf (codes false [l] ++ codes true [m]):=q2.trans hmsk
   have hA:=oneP_app (cb:=cb) (ops:=ops) gy wy q1
   rw [hms] at hA
   refine ⟨_,hA,?_⟩
   rw [ey]
   refine oneP_plain ?_ ?_
   ·show blindO _ x = true
    rw [blind_cong hev]
    exact hbx
   ·rw [← he] at hrun
    exact hrun
  ·
   exfalso
   simp only at cy'
   obtain ⟨t,a,u,ho,hd⟩:=commit_store cy'
   unfold clsOk at h4
   have h5:midOk (midK E blindK0 x y) (midK E blindK1 x y) cx = true:=by
    split at h4
    all_goals first | (cases h4; done) | omega | skip
    all_goals (simp only [Bool.and_eq_true,beq_iff_eq] at h4; exact h4.1)
   exact mid0 hd ⟨t,a,u,ho⟩ (midF h5) (.inr rfl)
 ·
  simp only at nx ax ex
  subst nx
  subst ex
  rcases oneP_of hy with ⟨py,oy,ey⟩ | ⟨gy,ny,wy,p',ay,ey,rfl⟩ | ⟨gy,p',ny,cy',ey,rfl⟩
  ·simp only at ey oy
   subst ey
   simp only [plainO] at py
   obtain ⟨so,xo,l,i,off,m,kf,row,hso,hxo,hmsk,hlm,hkl,⟨e,t,xs,L,ys,hob,rfl,hlen⟩,hll,rfl,hst⟩:=app_one ax
   rw [hmsk] at h4 hm0 ⊢
   have hmod:(3 + 8 * maskOf (codes false [l] ++ codes true [m])) % 8 = 3:=by omega
   have hdiv:(3 + 8 * maskOf (codes false [l] ++ codes true [m])) / 8 = maskOf (codes false [l] ++ codes true [m]):=by omega
   unfold clsOk at h4
   rw [hmod,hdiv] at h4
   have h5:midOk (midK E blindK0 x y) (midK E blindK1 x y) cy = true ∧ maskOf (codes false [l] ++ codes true [m]) &&& (cy / 8) = 0:=by
    split at h4
    all_goals first | (cases h4; done) | omega | skip
    all_goals (simp only [Bool.and_eq_true,beq_iff_eq] at h4; exact h4)
   obtain ⟨h5,hdis⟩:=h5
   have hdis:(cy / 8) &&& maskOf (codes false [l] ++ codes true [m]) = 0:=by rw [Nat.and_comm]; exact hdis
   have hwy:wantsImm E.app y.dst = false:=by
    cases hw:wantsImm E.app y.dst with
    | false=>rfl
    | true=>rcases midF h5 with h | h <;> simp [midK,hw,wx] at h
   have hK0:midK E blindK0 x y = true → blindK0 y = true:=fun h=>by simpa [midK,hwy,wx] using h
   have hK1:midK E blindK1 x y = true → blindK1 y = true:=fun h=>by simpa [midK,hwy,wx] using h
   obtain ⟨hc,hk,hby,hlk,hgd⟩:=mid_blind oy h5 hK0 hK1
   obtain ⟨v,rfl,hyt,hv,hfv⟩:=look_back oy hkl (fun k cs hk1 hk2=>by
     obtain ⟨n1,n2⟩:=app_mask.1 hk1
     rw [app_objs n1 n2]
     exact box_map hk2) (fun _ k cs hk1 hk2=>by
     obtain ⟨n1,n2⟩:=app_mask.1 hk1
     rw [app_objs n1 n2] at hk2
     exact box_back hk2) (fun p0 e0 t0 x0 d0 L0 hp hpb hc1 hob0 ρ hρ=>by
     obtain ⟨p1,hp1,hp2⟩:=hlk hc1
     rw [hp] at hp1
     simp only [Option.some.injEq] at hp1
     subst hp1
     have hb0:=disj_bit hdis hpb
     unfold lookBit at hb0
     cases hp3:p0.2.1 with
     | true=>
      rw [hp3,if_pos rfl] at hb0
      have n2:=app_mask.2 hb0
      by_cases n1:p0.1 = l
      ·have hob1:obj ((deadAll [m] (st.objs.map (AObj.mapL kf))).set l (.row e t ys true L)) p0.1 = .row e t ys true L:=by rw [n1,obj_set_eq (by rw [deadAll_len,List.length_map]; exact hll)]
       exact stepV_len hρ hp2 hp3 hob1 (by rw [n1]; exact hob) hlen.symm
      ·refine stepV_look hρ ?_
       rw [app_objs n1 n2] at hob0 ⊢
       rw [hob0,(row_mapL (f:=kf) (fun _=>rfl)).2 hob0]
     | false=>
      rw [hp3,if_neg (by simp)] at hb0
      obtain ⟨n1,n2⟩:=app_mask.1 hb0
      refine stepV_look hρ ?_
      rw [app_objs n1 n2] at hob0 ⊢
      rw [hob0,(row_mapL (f:=kf) (fun _=>rfl)).2 hob0]) hgd hc hk hdis h1
   have hobe:(eff st y v []).objs = st.objs:=by simp [eff]
   obtain ⟨q1,q2⟩:=hst (eff st y v []) hobe rfl rfl rfl (agree_ev (eff_agree (v:=v) (new:=[]) (st:=st) h2).symm)
   refine ⟨(_,none),oneP_plain (by simp [plainO,hwy]) hyt,?_⟩
   have:=oneP_app (cb:=cb) (ops:=ops) gx wx q1
   rw [q2.trans hmsk] at this
   rw [this]
   congr 3
   refine st_eq _ _ ?_ (by simp [eff]) rfl rfl rfl
   show setReg ((setReg st.regs y.dst v).map _) x.dst _ = setReg (setReg (st.regs.map _) x.dst _) y.dst v
   rw [← set_swap h3]
   congr 1
   cases y.dst with
   | none=>rfl
   | some d=>simp [setReg,List.map_set,hfv]
  ·simp only at ny; cases ny
  ·exfalso
   obtain ⟨_,_,l,_,_,m,_,_,_,_,hmsk,_⟩:=app_one ax
   rw [hmsk] at h4
   unfold clsOk at h4
   split at h4
   all_goals first | (cases h4; done) | omega
 ·
  exfalso
  simp only at cx'
  obtain ⟨t,a,u,ho,hd⟩:=commit_store cx'
  simp only at ex
  subst ex
  have h5:midOk (midK E blindK0 x y) (midK E blindK1 x y) cy = true:=by
   unfold clsOk at h4
   split at h4
   all_goals first | (cases h4; done) | omega | skip
   all_goals (simp only [Bool.and_eq_true,beq_iff_eq] at h4; exact h4.1)
  exact mid0 hd ⟨t,a,u,ho⟩ (midF h5) (.inl rfl)
def Seq (E:Env) (cb:CB) (ops:List Oper) (cl:Nat → Nat):List Nat → PSt → PSt → Prop
 | [],s,s'=>s = s'
 | i :: r,s,s'=>∃ o s1,ops[i]? = some o ∧ oneP E cb ops s o = some (s1,cl i) ∧ Seq E cb ops cl r s1 s'
theorem Seq.pull {ops:List Oper} {cl:Nat → Nat}:∀ (A:List Nat) {j:Nat} {B:List Nat} {s s':PSt},Seq E cb ops cl (A ++ j :: B) s s' → (∀ i ∈ A,∀ oi oj,ops[i]? = some oi → ops[j]? = some oj → mayPass E ops oi oj (cl i) (cl j) = true) → Seq E cb ops cl (j :: (A ++ B)) s s'
 | [],j,B,s,s',h,_=>h
 | i :: A,j,B,s,s',h,hm=>by
  obtain ⟨oi,s1,ho,h1,h2⟩:=h
  obtain ⟨oj,t1,hj,h3,h4⟩:=Seq.pull A h2 fun k hk=>hm k (by simp [hk])
  obtain ⟨t2,h5,h6⟩:=swap_okP h1 h3 (hm i (by simp) oi oj ho hj)
  exact ⟨oj,t2,hj,h5,oi,t1,ho,h6,h4⟩
def aheadOf (acc:List Nat) (o:Oper):Nat:=o.after.toList.foldl (fun s e=>if Region.binds .any e then s ||| 2 ^ e.on ||| acc.getD e.on 0 else s) 0
theorem aheadOf_bit {acc:List Nat} {o:Oper} {i:Nat} (h:(aheadOf acc o).testBit i = true):∃ e ∈ o.after.toList,Region.binds .any e = true ∧ (i = e.on ∨ (acc.getD e.on 0).testBit i = true):=by
 have key:∀ (l:List Edge) (s:Nat),(l.foldl (fun s e=>if Region.binds .any e then s ||| 2 ^ e.on ||| acc.getD e.on 0 else s) s).testBit i = true → s.testBit i = true ∨ ∃ e ∈ l,Region.binds .any e = true ∧ (i = e.on ∨ (acc.getD e.on 0).testBit i = true):=by
  intro l
  induction l with
  | nil=>intro s h; exact .inl h
  | cons e l ih=>
   intro s h
   rw [List.foldl_cons] at h
   rcases ih _ h with h1 | ⟨e',he',h1⟩
   ·split at h1
    ·rename_i hb
     rw [Nat.testBit_or,Nat.testBit_or,Bool.or_eq_true,Bool.or_eq_true] at h1
     rcases h1 with (h1 | h1) | h1
     ·exact .inl h1
     ·refine .inr ⟨e,by simp,hb,.inl ?_⟩
      rw [Nat.testBit_two_pow] at h1
      have h1:e.on = i:=by simpa using h1
      exact h1.symm
     ·exact .inr ⟨e,by simp,hb,.inr h1⟩
    ·exact .inl h1
   ·exact .inr ⟨e',by simp [he'],h1⟩
 rcases key _ _ h with h1 | h1
 ·simp at h1
 ·exact h1
def beforeGo:List Nat → List Oper → List Nat
 | acc,[]=>acc
 | acc,o :: r=>beforeGo (acc ++ [aheadOf acc o]) r
theorem before_eq (ops:List Oper):beforeBits ops = beforeGo [] ops:=by
 have:∀ (l:List Oper) (acc:List Nat),l.foldl (fun acc o=>acc ++ [o.after.toList.foldl (fun s e=>if Region.binds .any e then s ||| 2 ^ e.on ||| acc.getD e.on 0 else s) 0]) acc = beforeGo acc l:=by
  intro l
  induction l with
  | nil=>intro acc; rfl
  | cons o l ih=>intro acc; rw [List.foldl_cons]; exact ih _
 exact this ops []
theorem beforeGo_get:∀ (l:List Oper) (acc:List Nat) (j:Nat),(j < acc.length → (beforeGo acc l)[j]? = acc[j]?) ∧
  ∀ k o,l[k]? = some o → (beforeGo acc l)[acc.length + k]? = some (aheadOf ((beforeGo acc l).take (acc.length + k)) o)
 | [],acc,j=>⟨fun _=>rfl,fun k o h=>by simp at h⟩
 | o :: l,acc,j=>by
  refine ⟨fun hj=>?_,fun k o' hk=>?_⟩
  ·simp only [beforeGo]
   rw [(beforeGo_get l (acc ++ [aheadOf acc o]) j).1 (by simp; omega),List.getElem?_append_left hj]
  ·simp only [beforeGo]
   cases k with
   | zero=>
    simp only [List.getElem?_cons_zero,Option.some.injEq] at hk
    subst hk
    rw [Nat.add_zero,(beforeGo_get l (acc ++ [aheadOf acc o]) acc.length).1 (by simp)]
    have:(beforeGo (acc ++ [aheadOf acc o]) l).take acc.length = acc:=by
     apply List.ext_getElem?
     intro m
     rw [List.getElem?_take]
     split
     ·rename_i hm
      rw [(beforeGo_get l (acc ++ [aheadOf acc o]) m).1 (by simp; omega),List.getElem?_append_left hm]
     ·rename_i hm
      rw [List.getElem?_eq_none (by omega)]
    rw [this]
    simp
   | succ k=>
    have:=(beforeGo_get l (acc ++ [aheadOf acc o]) 0).2 k o' (by simpa using hk)
    simp only [List.length_append,List.length_cons,List.length_nil] at this
    rw [show acc.length + (k + 1) = acc.length + (0 + 1) + k by omega]
    exact this
theorem before_bit {ops:List Oper} {i j:Nat} (h:((beforeBits ops).getD j 0).testBit i = true):∃ o,ops[j]? = some o ∧ ∃ e ∈ o.after.toList,Region.binds .any e = true ∧ (i = e.on ∨ ((beforeBits ops).getD e.on 0).testBit i = true):=by
 have hlen:∀ (l:List Oper) (acc:List Nat),(beforeGo acc l).length = acc.length + l.length:=by
  intro l
  induction l with
  | nil=>intro acc; rfl
  | cons o l ih=>intro acc; simp only [beforeGo]; rw [ih]; simp; omega
 rw [before_eq] at h ⊢
 cases ho:ops[j]? with
 | none=>
  have:(beforeGo [] ops)[j]? = none:=by
   rw [List.getElem?_eq_none]
   rw [hlen]
   simpa using ho
  simp [List.getD,this] at h
 | some o=>
  refine ⟨o,rfl,?_⟩
  have hg:=(beforeGo_get ops [] 0).2 j o ho
  simp only [List.length_nil,Nat.zero_add] at hg
  simp only [List.getD,hg,Option.getD_some] at h
  obtain ⟨e,he,hb,h1⟩:=aheadOf_bit h
  refine ⟨e,he,hb,?_⟩
  rcases h1 with h1 | h1
  ·exact .inl h1
  ·right
   simp only [List.getD] at h1 ⊢
   rw [List.getElem?_take] at h1
   split at h1
   ·exact h1
   ·simp at h1
end
section
variable {C:Ctx} {E:Env} {cb:CB}
theorem runOps_seq {ρ:Type} {ops:List Oper} {y:ρ} {K:List Nat → St → Option ρ}:∀ (rest:List Oper) (i:Nat) (cls:List Nat) (st:St) (pd:Option Pend),ops.drop i = rest → cls.length = i → runOps E cb ops i rest cls st pd K = some y →
  ∃ cls' st',K cls' st' = some y ∧ (∃ tl,cls' = cls ++ tl ∧ tl.length = rest.length) ∧ Seq E cb ops (fun k=>cls'.getD k 3) (List.range' i rest.length) (st,pd) (st',none)
 | [],i,cls,st,pd,hd,hl,h=>by
  cases pd with
  | none=>exact ⟨cls,st,h,⟨[],by simp,rfl⟩,rfl⟩
  | some p=>cases h
 | o :: rest,i,cls,st,pd,hd,hl,h=>by
  have hoi:ops[i]? = some o:=by
   have:(ops.drop i)[0]? = some o:=by rw [hd]; rfl
   rw [List.getElem?_drop] at this
   simpa using this
  have hd':ops.drop (i + 1) = rest:=by rw [← List.tail_drop,hd]; rfl
  have hpl:∀ (q:Option Pend) (b:Bool),(match q with | none=>!wantsImm E.app o.dst | some _=>blindO st o) = b → plainO E (st,q) o = b:=fun q b h=>by cases q <;> exact h
  have fin:∀ {s1:St} {pd1:Option Pend} {c:Nat},oneP E cb ops (st,pd) o = some ((s1,pd1),c) → runOps E cb ops (i + 1) rest (cls ++ [c]) s1 pd1 K = some y →
    ∃ cls' st',K cls' st' = some y ∧ (∃ tl,cls' = cls ++ tl ∧ tl.length = rest.length + 1) ∧ Seq E cb ops (fun k=>cls'.getD k 3) (List.range' i (rest.length + 1)) (st,pd) (st',none):=by
   intro s1 pd1 c h1 h2
   obtain ⟨cls',st',hk,⟨tl,rfl,htl⟩,hseq⟩:=runOps_seq rest (i + 1) (cls ++ [c]) s1 pd1 hd' (by simp [hl]) h2
   refine ⟨_,st',hk,⟨c :: tl,by simp,by simp [htl]⟩,?_⟩
   simp only [List.range'_succ]
   refine ⟨o,(s1,pd1),hoi,?_,hseq⟩
   rw [h1]
   congr 2
   simp [List.getD,← hl]
  simp only [runOps,forceN_eq] at h
  simp only [List.length_cons]
  split at h
  ·rename_i hb
   have hb:=hpl pd _ hb
   split at h
   ·rename_i hg
    obtain ⟨⟨st1,c⟩,h1,h2⟩:=Tree.run_some _ h
    rw [split_eq] at h2
    refine fin (oneP_plain hb ?_) h2
    unfold one1
    rw [hg]
    exact h1
   ·rename_i hg
    refine fin (oneP_plain hb ?_) h
    unfold one1
    rw [hg]
   ·cases h
  ·rename_i hb
   have hb:=hpl pd _ hb
   split at h
   ·cases h
   rename_i hg
   cases pd with
   | none=>
    simp only at h
    obtain ⟨⟨st1,p⟩,h1,h2⟩:=Tree.run_some _ h
    exact fin (oneP_app hg (by simpa [plainO] using hb) h1) h2
   | some p=>
    simp only at h
    obtain ⟨st1,h1,h2⟩:=Tree.run_some _ h
    refine fin ?_ h2
    unfold oneP
    rw [hb]
    simp only [hg]
    exact Tree.run_then _ (fun s'=>((s',none),3)) h1
theorem one1_ok (hE:EnvOk C.P C.Γ E) (hcb:CBOk C.P C.Γ cb) {r f:Nat} {ops:Array Oper} {st st1:St} {gh:Gh} {a:Act} {w:World} {i c:Nat} {o:Oper} (hi:ops[i]? = some o) (hI:Inv r f st) (h:Rel C st gh a w) (h1:one1 E cb ops.toList st o = some (st1,c))
  {K:Act → World → Prop} {Q:Exit → Act → World → Prop} (hK:∀ gh' a' w',Inv r f st1 → Rel C st1 gh' a' w' → K a' w'):wpOp C.P ops Q i K a w:=by
 unfold wpOp
 rw [hi]
 simp only
 unfold one1 at h1
 split at h1
 ·rename_i hg
  rw [if_pos (guard_ok h hg)]
  exact .inl (step_ok hE hcb h (by rw [hI.fx]; exact hI.fl) (by rw [hI.ro]; exact hI.rl) h1 fun gh' a' w' hr=>hK gh' a' w' (hI.step h1) hr)
 ·rename_i hg
  rw [if_neg (by rw [guard_ok h hg]; simp)]
  simp only [Option.some.injEq,Prod.mk.injEq] at h1
  obtain ⟨rfl,_⟩:=h1
  exact hK gh _ w ⟨hI.ro,hI.fx,hI.rl,hI.fl⟩ (skip_ok h o.dst)
 ·cases h1
theorem Inv.put {r f:Nat} {st:St} (h:Inv r f st) {d:Option Tmp} {v:SV}:Inv r f (st.put d v):=by cases d <;> exact ⟨h.ro,h.fx,h.rl,h.fl⟩
theorem oneP_ok (hE:EnvOk C.P C.Γ E) (hcb:CBOk C.P C.Γ cb) {r f:Nat} {ops:Array Oper} {s s1:PSt} {gh:Gh} {a:Act} {w:World} {i c:Nat} {o:Oper} (hi:ops[i]? = some o) (hI:Inv r f s.1) (h:RelP C s.1 gh a w s.2) (h1:oneP E cb ops.toList s o = some (s1,c))
  {K:Act → World → Prop} {Q:Exit → Act → World → Prop} (hK:∀ gh' a' w',Inv r f s1.1 → RelP C s1.1 gh' a' w' s1.2 → K a' w'):wpOp C.P ops Q i K a w:=by
 obtain ⟨st,pd⟩:=s
 obtain ⟨st1,pd1⟩:=s1
 rcases oneP_of h1 with ⟨px,ox,ex⟩ | ⟨gx,nx,wx,p,ax,ex,_⟩ | ⟨gx,p,nx,cx',ex,_⟩
 ·simp only at ex ox
  subst ex
  cases pd1 with
  | none=>exact one1_ok hE hcb hi hI h ox hK
  | some p=>
   simp only [plainO] at px
   obtain ⟨w2,hw2⟩:=RelP.some_rel h
   unfold wpOp
   rw [hi]
   simp only
   unfold one1 at ox
   split at ox
   ·rename_i hg
    rw [if_pos (guard_ok hw2 hg)]
    exact .inl (blind_step hE h px ox fun gh' a' w' hr=>hK gh' a' w' (hI.step ox) hr)
   ·rename_i hg
    rw [if_neg (by rw [guard_ok hw2 hg]; simp)]
    simp only [Option.some.injEq,Prod.mk.injEq] at ox
    obtain ⟨rfl,_⟩:=ox
    exact hK gh _ w hI.put (h.put fun w2 _=>⟨rfl,fun hk=>by simp [Leaf.known] at hk⟩)
   ·cases ox
 ·simp only at nx ax ex
  subst nx
  subst ex
  have hgd:guardOk ops.toList st o = some true:=by unfold guardOk; rw [gx]
  unfold wpOp
  rw [hi]
  simp only
  rw [if_pos (guard_ok h hgd)]
  obtain ⟨_,_,_,_,_,_,_,_,_,_,_,_,_,_,hll,hs1,_⟩:=app_one ax
  refine .inl (appT_ok hE h ax fun gh' a' w' hr=>hK gh' a' w' ?_ hr)
  rw [hs1]
  exact ⟨hI.ro,hI.fx,by simp only [List.length_set,deadAll_len,List.length_map]; exact hI.rl,by simp only [List.length_set,deadAll_len,List.length_map]; exact hI.fl⟩
 ·simp only at nx cx' ex
  subst nx
  subst ex
  obtain ⟨w2,hw2⟩:=RelP.some_rel h
  have hgd:guardOk ops.toList st o = some true:=by unfold guardOk; rw [gx]
  unfold wpOp
  rw [hi]
  simp only
  rw [if_pos (guard_ok hw2 hgd)]
  have hce:=(commit_ok (Q:=Q) (next:=fun _ _=>True) hE h cx' fun _ _ _ _=>trivial).1
  subst hce
  exact .inl (commit_ok hE h cx' fun gh' a' w' hr=>hK gh' a' w' hI hr).2
theorem any_ok (hE:EnvOk C.P C.Γ E) (hcb:CBOk C.P C.Γ cb) {r f:Nat} {ops:Array Oper} {cl:Nat → Nat} {stf:St} {Q:Exit → Act → World → Prop}
  (hback:∀ j o,ops[j]? = some o → ∀ e ∈ o.after.toList,Region.binds .any e = true → e.on < j)
  (hpass:∀ i j oi oj,i < j → ops[i]? = some oi → ops[j]? = some oj → ((beforeBits ops.toList).getD j 0).testBit i = true ∨ mayPass E ops.toList oi oj (cl i) (cl j) = true)
  (hQ:∀ gh a w,Inv r f stf → Rel C stf gh a w → Q .normal a w):∀ (n:Nat) (R:List Nat) (listed:Array Bool) (st:PSt) (gh:Gh) (a:Act) (w:World),R.length = n → R.Pairwise (· < ·) → (∀ i,i ∈ R ↔ i < ops.size ∧ listed.getD i true = false) → listed.size = ops.size →
   (∀ k,listed.getD k false = true → ∀ i,((beforeBits ops.toList).getD k 0).testBit i = true → listed.getD i false = true) → Inv r f st.1 → RelP C st.1 gh a w st.2 → Seq E cb ops.toList cl R st (stf,none) → wpAny C.P .any ops Q n listed a w:=by
 intro n
 induction n with
 | zero=>
  intro R listed st gh a w hn hp hR hls hcl hI h hs
  have:R = []:=List.eq_nil_of_length_eq_zero hn
  subst this
  obtain rfl:st = (stf,none):=hs
  refine ⟨?_,hQ gh a w hI h⟩
  cases hr:Region.ready .any ops listed with
  | nil=>rfl
  | cons j _=>
   have hj:j ∈ Region.ready .any ops listed:=by rw [hr]; simp
   obtain ⟨h0,o,ho,_⟩:=mem_ready.1 hj
   have:=(hR j).2 ⟨(Array.getElem?_eq_some_iff.1 ho).1,h0⟩
   cases this
 | succ n ih=>
  intro R listed st gh a w hn hp hR hls hcl hI h hs
  have hfalse:∀ k,k < ops.size → (listed.getD k true = false ↔ ¬ listed.getD k false = true):=by
   intro k hk
   have:k < listed.size:=by omega
   simp [this]
  have hfirst:∀ j R',R = j :: R' → j ∈ Region.ready .any ops listed:=by
   intro j R' e
   obtain ⟨hj1,hj2⟩:=(hR j).1 (by rw [e]; simp)
   refine mem_ready.2 ⟨hj2,ops[j],by simp [hj1],fun e' he hb=>?_⟩
   have hlt:=hback j ops[j] (by simp [hj1]) e' (by simpa using he) hb
   cases hl:listed.getD e'.on false with
   | true=>rfl
   | false=>
    have hmem:e'.on ∈ R:=(hR e'.on).2 ⟨by omega,(hfalse _ (by omega)).2 (by simp [hl])⟩
    rw [e] at hmem hp
    rcases List.mem_cons.1 hmem with h1 | h1
    ·omega
    ·have:=(List.pairwise_cons.1 hp).1 _ h1; omega
  refine ⟨fun hnil=>?_,fun j hj=>?_⟩
  ·cases R with
   | nil=>simp at hn
   | cons j R'=>have:=hfirst j R' rfl; rw [hnil] at this; cases this
  ·obtain ⟨h0,oj,hoj,hall⟩:=mem_ready.1 hj
   have hjs:j < ops.size:=(Array.getElem?_eq_some_iff.1 hoj).1
   have hjR:j ∈ R:=(hR j).2 ⟨hjs,h0⟩
   obtain ⟨A,B,rfl⟩:=List.append_of_mem hjR
   have hbits:∀ i,((beforeBits ops.toList).getD j 0).testBit i = true → listed.getD i false = true:=by
    intro i hi
    obtain ⟨o,ho,e,he,hb,h1⟩:=before_bit hi
    have ho':oj = o:=by
     have:ops[j]? = some o:=by simpa using ho
     rw [hoj] at this; simpa using this
    subst ho'
    have hel:=hall e (by simpa using he) hb
    rcases h1 with rfl | h1
    ·exact hel
    ·exact hcl _ hel i h1
   have hpA:=List.pairwise_append.1 hp
   have hpull:=Seq.pull A hs (fun i hi oi oj' hoi hoj'=>by
    have hij:i < j:=hpA.2.2 i hi j (by simp)
    rcases hpass i j oi oj' hij (by simpa using hoi) (by simpa using hoj') with h1 | h1
    ·exfalso
     have h2:=hbits i h1
     have h3:=((hR i).1 (by simp [hi])).2
     rw [hfalse i ((hR i).1 (by simp [hi])).1] at h3
     exact h3 h2
    ·exact h1)
   obtain ⟨o,s1,ho,h1,h2⟩:=hpull
   have ho':ops[j]? = some o:=by simpa using ho
   refine oneP_ok hE hcb ho' hI h h1 fun gh' a' w' hI' h'=>?_
   have hnodup:¬ j ∈ A ++ B:=by
    intro hm
    rcases List.mem_append.1 hm with hm | hm
    ·have:=hpA.2.2 j hm j (by simp); omega
    ·have:=(List.pairwise_cons.1 hpA.2.1).1 j hm; omega
   refine ih (A ++ B) (listed.setIfInBounds j true) s1 gh' a' w' (by simp at hn ⊢; omega) ?_ (fun i=>?_) (by simp [hls]) (fun k hk i hi=>?_) hI' h' h2
   ·exact List.pairwise_append.2 ⟨hpA.1,(List.pairwise_cons.1 hpA.2.1).2,fun x hx y hy=>hpA.2.2 x hx y (by simp [hy])⟩
   ·by_cases hij:i = j
    ·subst hij
     constructor
     ·intro hm; exact absurd hm hnodup
     ·rintro ⟨_,h3⟩
      simp [show i < listed.size by omega] at h3
    ·rw [getD_set_ne true (fun e=>hij e.symm),← hR i]
     simp only [List.mem_append,List.mem_cons]
     constructor
     ·rintro (h3 | h3)
      ·exact .inl h3
      ·exact .inr (.inr h3)
     ·rintro (h3 | h3 | h3)
      ·exact .inl h3
      ·exact absurd h3 hij
      ·exact .inr h3
   ·by_cases hkj:k = j
    ·subst hkj; exact getD_set_true (hbits i hi)
    ·rw [getD_set_ne false (fun e=>hkj e.symm)] at hk
     exact getD_set_true (hcl k hk i hi)
theorem Rel.drawn {st:St} {gh:Gh} {a:Act} {w:World} (h:Rel C st gh a w):Rel C st gh a { w with drawn:=w.drawn + 1 }:=by
 have hT:Tr C w gh st.objs { w with drawn:=w.drawn + 1 } gh st.objs (fun _=>False) (fun _=>False):=
  ⟨Nat.le_refl _,fun b _=>.inl rfl,fun l b _ hb=>⟨l,hb,.inl rfl⟩,fun l _ _=>⟨rfl,rfl,rfl,rfl⟩,fun l hl=>hl.elim⟩
 refine ⟨⟨h.fr.os,h.fr.tape,h.fr.output,h.fr.size,h.fr.block,fun hq=>Nat.le_trans (h.fr.drawn hq) (Nat.le_succ _)⟩,h.u0,h.gl,h.lt,h.own,h.dj,h.nd,h.sep,fun l=>?_,h.fix,h.fm,h.len,fun i=>?_,h.df,h.frm.mono fun c y hc hk=>leaf_tr hT h.dj h.objs stays_none hk⟩
 ·by_cases hd:obj st.objs l = .dead
  ·have:=h.objs l
   rw [hd] at this ⊢
   exact this
  ·refine obj_tr hT h.dj h.objs h.lt (fun h=>h) hd ?_
   cases ho:obj st.objs l with
   | dead=>exact absurd ho hd
   | box cs=>exact fun c hc=>stays_none
   | row e t xs d L=>exact fun _ hl=>hl.elim
 ·exact sv_tr hT h.dj h.objs (stays_of_all fun c hc=>stays_none) (h.regs i)
theorem draw_ok {ρ:Type} (hE:EnvOk C.P C.Γ E) (hcb:CBOk C.P C.Γ cb) {r f id:Nat} {ops:Array Oper} {y:ρ} {st:St} {gh:Gh} {a:Act} {w:World} {K:St → Option ρ} {Q:Exit → Act → World → Prop} (hI:Inv r f st) (h:Rel C st gh a w)
  (hs:runOps E cb ops.toList 0 ops.toList [] st none (fun cls st'=>if drawOk E ops.toList cls then K st' else none) = some y) (hK:∀ st' gh' a' w',Inv r f st' → Rel C st' gh' a' w' → K st' = some y → Q .normal a' w'):(Code.region id ops true).wp C.P Q a w:=by
 obtain ⟨cls,stf,hk,⟨tl,htl,htl2⟩,hseq⟩:=runOps_seq ops.toList 0 [] st none (by simp) rfl hs
 split at hk
 case isFalse=>cases hk
 rename_i hd
 unfold drawOk backOk statAll at hd
 simp only [Bool.and_eq_true,List.all_eq_true,List.mem_range,Array.length_toList,Bool.or_eq_true,Bool.not_eq_true'] at hd
 obtain ⟨hback,hstat,hfree⟩:=hd
 refine wp_region_any hE.mixed (any_ok hE hcb (cl:=fun k=>cls.getD k 3) (stf:=stf) (fun j o ho e he hb=>?_) (fun i j oi oj hij hoi hoj=>?_) (fun gh a w hI h=>hK stf gh a w hI h hk) ops.size (List.range ops.size) _ (st,none) gh a _ (by simp) ?_ (fun i=>?_) (by simp) (fun k hk i hi=>?_) hI h.drawn ?_)
 ·have hj:j < ops.size:=(Array.getElem?_eq_some_iff.1 ho).1
  have:=hback j hj
  rw [show ops.toList[j]? = some o by simpa using ho] at this
  simp only [List.all_eq_true,Bool.or_eq_true,Bool.not_eq_true'] at this
  rcases this e he with h1 | h1
  ·rw [hb] at h1; cases h1
  ·simpa using h1
 ·have hj:j < ops.size:=(Array.getElem?_eq_some_iff.1 hoj).1
  have ei:ops.toList[i]? = some oi:=by simpa using hoi
  have ej:ops.toList[j]? = some oj:=by simpa using hoj
  have h1:=hstat j hj i hij
  rw [ei,ej] at h1
  cases hb:((beforeBits ops.toList).getD j 0).testBit i with
  | true=>exact .inl rfl
  | false=>
   rw [hb] at h1
   rcases h1 with h1 | h1
   ·cases h1
   ·have hmem:(i,j,isMove oi,isPick oi,isAlloc oj && callFlat E oi,isIx oi,isIx oj,midK E blindK0 oi oj,midK E blindK1 oi oj,oi.guard.isNone,oj.guard.isNone) ∈ freePairs E ops.toList:=by
     unfold freePairs
     refine List.mem_flatMap.2 ⟨j,List.mem_range.2 (by simpa using hj),List.mem_filterMap.2 ⟨i,List.mem_range.2 hij,?_⟩⟩
     rw [hb,if_neg (by simp),ei,ej]
    have h2:=hfree _ hmem
    right
    have h3:statOk ops.toList oi oj = true:=h1
    unfold mayPass
    rw [h3]
    exact h2
 ·exact List.pairwise_lt_range
 ·simp only [List.mem_range]
  constructor
  ·intro hi; exact ⟨hi,by simp [hi]⟩
  ·exact fun h=>h.1
 ·exfalso
  by_cases hks:k < ops.size <;> simp [hks] at hk
 ·rw [Array.length_toList,← List.range_eq_range'] at hseq
  exact hseq
theorem runDraw_ok {ρ:Type} (hE:EnvOk C.P C.Γ E) (hcb:CBOk C.P C.Γ cb) {r f id:Nat} {ops:Array Oper} {y:ρ} {st:St} {gh:Gh} {a:Act} {w:World} {K:St → Option ρ} {Q:Exit → Act → World → Prop} (hI:Inv r f st) (h:Rel C st gh a w)
  (hs:runDraw E cb ops.toList st K = some y) (hK:∀ st' gh' a' w',Inv r f st' → Rel C st' gh' a' w' → K st' = some y → Q .normal a' w'):(Code.region id ops true).wp C.P Q a w:=by
 unfold runDraw at hs
 split at hs
 ·exact draw_ok hE hcb hI h hs hK
 ·rw [forceN_eq] at hs
  split at hs
  ·exact draw_ok hE hcb hI h hs hK
  ·rename_i p q hpq
   exact draw_ok (E:={ E with slots:=p :: q }) ⟨hE.mixed,hE.q,hE.tab,hE.sig,hE.clos,hE.eqs,hE.rfn⟩ hcb (st:={ st with objs:=st.objs ++ (p :: q).map fun _=>AObj.dead }) ⟨hI.ro,hI.fx,by have:=hI.rl; simp; omega,by have:=hI.fl; simp; omega⟩ (h.reserve fun k=>obj_dead _ _ k) hs hK
end
end Go.AM
