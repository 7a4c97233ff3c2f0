/- Regions whose order is drawn: whichever order, the same comes of it. No condition. -/
import Derived.Test.YtdcbankajhnepaaGreatAmSwap
import Derived.Test.YtdcbankajhnepaaGreatAmApp
import Derived.Orders
set_option linter.unusedVariables false
set_option linter.unusedSimpArgs false
namespace Go.AM
section
variable {E:Env} {cb:CB}
theorem z82 {ρ:Operand→SV} {os:Objs} {o:Oper} {v:SV} {new:Objs} (hs:(z0l E cb ρ os o).run some=some (v,new)) (hc:clsV E ρ o new≤1):
  new=[]∧(∀ ext,(z0l E cb ρ (os++ext) o).run some=some (v,[]))∧(clsV E ρ o new=0→∀ os',(z0l E cb ρ os' o).run some=some (v,[])):=by
 have hn:new=[]:=by
  cases new with
  | nil=>rfl
  | cons _ _=>simp[clsV] at hc
 subst hn
 refine⟨rfl,?_⟩
 have same:(∀ os',z0l E cb ρ os' o=z0l E cb ρ os o)→(∀ ext,(z0l E cb ρ (os++ext) o).run some=some (v,[]))∧(clsV E ρ o []=0→∀ os',(z0l E cb ρ os' o).run some=some (v,[])):=
  fun h=>⟨fun ext=>by rw[h]; exact hs,fun _ os'=>by rw[h]; exact hs⟩
 cases ho:o.op with
 | move x=>exact same fun os'=>by simp only[z0l,ho]
 | assign x=>
  simp only[z0l,ho] at hs ⊢
  split at hs
  ·split at hs
   ·split at hs
    ·simp[zfu,Tree.run] at hs
    ·cases hs
   ·cases hs
  ·rename_i hne
   exact⟨fun _=>hs,fun _ _=>hs⟩
 | pick c a b=>exact same fun os'=>by simp only[z0l,ho]
 | binOp op t x y u=>exact same fun os'=>by simp only[z0l,ho]
 | unOp op t x=>exact same fun os'=>by simp only[z0l,ho]
 | load t x=>
  simp only[z0l,ho] at hs ⊢
  split at hs
  ·rename_i ti ht
   split at hs
   ·rename_i v' hv
    refine⟨fun ext=>by simp only[zv3 hv]; exact hs,fun h0 os'=>?_⟩
    have hf:(ρ x).leaf.free=true:=by
     simp only[clsV,ho] at h0
     split at h0
     ·assumption
     ·cases h0
    rw[zsu hf os' os,hv]
    exact hs
   ·cases hs
  ·cases hs
 | fieldAddr t x f=>exact same fun os'=>by simp only[z0l,ho]
 | indexAddr T x i=>
  have hf:clsV E ρ o []=0→(ρ x).leaf.free=true:=by
   intro h0
   simp only[clsV,ho] at h0
   split at h0
   ·assumption
   ·cases h0
  simp only[z0l,ho] at hs ⊢
  split at hs
  ·split at hs
   ·exact⟨fun _=>hs,fun _ _=>hs⟩
   ·rename_i l hx
    split at hs
    ·rename_i e t xs d L hob
     refine⟨fun ext=>by simp only[z8t hob (by simp)]; exact hs,fun h0=>?_⟩
     have:=hf h0; rw[hx] at this; cases this
    ·cases hs
   ·rename_i l j off hx
    split at hs
    ·rename_i t ht
     split at hs
     ·rename_i xs L hd
      refine⟨fun ext=>by simp only[z9k ht,z4n hd]; exact hs,fun h0=>?_⟩
      have:=hf h0; rw[hx] at this; cases this
     ·cases hs
    ·cases hs
   ·rename_i l hx
    split at hs
    ·rename_i e t ys hob
     refine⟨fun ext=>by simp only[z8t hob (by simp)]; exact hs,fun h0=>?_⟩
     have:=hf h0; rw[hx] at this; cases this
    ·cases hs
   ·cases hs
  ·cases hs
 | index T x i=>exact same fun os'=>by simp only[z0l,ho]
 | field t x f=>exact same fun os'=>by simp only[z0l,ho]
 | extract x i=>exact same fun os'=>by simp only[z0l,ho]
 | build t parts=>exact same fun os'=>by simp only[z0l,ho]
 | buildSlice t n parts=>
  simp only[z0l,ho] at hs
  split at hs
  ·rename_i e _ _ _ ht
   split at hs
   ·rename_i ti he
    split at hs
    ·rename_i hc
     split at hs
     ·rename_i hw
      split at hs
      ·rename_i xs L hp
       simp only[ret1,Tree.run,Option.some.injEq,Prod.mk.injEq] at hs
       obtain⟨rfl,_⟩:=hs
       have hf:∀ p∈parts.toList.map fun p=>(p.1,ρ p.2),p.2.free=true:=by
        intro p hp2
        obtain⟨q,hq,rfl⟩:=List.mem_map.1 hp2
        simp only[Bool.and_eq_true,List.all_eq_true] at hw
        exact hw.2 q hq
       have key:∀ os',(z0l E cb ρ os' o).run some=some (SV.one (.val (.slice e ti.ty) xs L),[]):=by
        intro os'
        simp only[z0l,ho,ht,he]
        rw[if_pos hc,hw]
        simp only
        rw[zj6 (os:=os') (os':=os) _ 0 hf,hp]
        rfl
       exact⟨fun ext=>key _,fun _=>key⟩
      ·cases hs
     exfalso
     split at hs
     ·simp[zfu,Tree.run] at hs
     ·split at hs
      ·simp[zfu,Tree.run] at hs
      ·cases hs
    ·cases hs
   ·cases hs
  ·cases hs
 | makeSlice t n c=>
  exfalso
  simp only[z0l,ho] at hs
  split at hs
  ·split at hs
   ·split at hs
    ·obtain⟨_,hs⟩:=Tree.run_need hs
     obtain⟨_,hs⟩:=Tree.run_need hs
     obtain⟨_,hs⟩:=Tree.run_need hs
     simp[zfu,Tree.run] at hs
    ·cases hs
   ·cases hs
  ·cases hs
 | alloc t=>
  exfalso
  simp only[z0l,ho] at hs
  split at hs
  ·simp[Tree.run] at hs
  ·cases hs
 | box t x=>
  exfalso
  simp only[z0l,ho] at hs
  split at hs
  ·split at hs
   ·simp[Tree.run] at hs
   ·cases hs
  ·cases hs
 | makeFunc f first caps=>exact same fun os'=>by cases f<;>simp only[z0l,ho]
 | nilCheck x=>exact same fun os'=>by simp only[z0l,ho]
 | slice T x lo hi mx=>
  cases mx with
  | some _=>simp only[z0l,ho] at hs; cases hs
  | none=>
   simp only[z0l,ho] at hs ⊢
   obtain⟨v',h1,h2⟩:=Tree.run_pure1 hs
   have pack:∀ os',(z5d E.views (z7b E T) (szIs (z3b E T)) ρ os' (ρ x) lo hi).run some=some v'→(zsg (z5d E.views (z7b E T) (szIs (z3b E T)) ρ os' (ρ x) lo hi)).run some=some (v,[]):=by
    intro os' h
    unfold zsg
    rw[Tree.run_map]
    simp only[Prod.mk.injEq,and_true] at h2
    subst h2
    have:∀ (t:Tree SV),t.run some=some v→t.run (fun x=>some (x,([]:Objs)))=some (v,[]):=by
     intro t
     induction t with
     | ret a=>intro h; simpa[Tree.run] using h
     | fail=>intro h; cases h
     | ite b t e iht ihe=>intro h; simp only[Tree.run] at h ⊢; cases b; exact ihe h; exact iht h
     | bind m k ih=>intro h; simp only[Tree.run] at h ⊢; cases m with
      | none=>cases h
      | some x=>exact ih x h
    exact this _ h
   refine⟨fun ext=>pack _ (zq3 h1),fun h0 os'=>pack _ ?_⟩
   have hf:(ρ x).leaf.free=true:=by
    simp only[clsV,ho] at h0
    split at h0
    ·assumption
    ·cases h0
   have hv0:ztl E.views (ρ x)=none:=by
    unfold ztl
    split
    ·rename_i l hx; rw[hx] at hf; cases hf
    ·rfl
   unfold z5d at h1 ⊢
   simp only[hv0] at h1 ⊢
   unfold zb1 at h1 ⊢
   split at h1
   ·exact h1
   ·rename_i c hne hx
    have hf':c.free=true:=by rw[hx] at hf; exact hf
    simp only[zj5 hf' os' os]
    split at h1
    ·cases h1
    ·rename_i t ht
     simp only[zb2 hf' os' os]
     exact h1
   ·cases h1
 | convert src dst x=>
  have hf:clsV E ρ o []=0→(ρ x).leaf.free=true:=by
   intro h0
   simp only[clsV,ho] at h0
   split at h0
   ·assumption
   ·cases h0
  simp only[z0l,ho] at hs ⊢
  split at hs
  ·exact⟨fun _=>hs,fun _ _=>hs⟩
  ·split at hs
   ·rename_i hte
    split at hs
    ·rename_i hty
     split at hs
     ·rename_i xs L hd
      refine⟨fun ext=>?_,fun h0 os'=>?_⟩
      ·simp only[z9k hty,z4n hd]; exact hs
      ·simp only[zj5 (hf h0) os' os,hty,zb2 (hf h0) os' os,hd]; exact hs
     ·cases hs
    ·cases hs
   ·cases hs
  ·cases hs
 | call c=>
  simp only[z0l,ho] at hs ⊢
  cases hcal:c.callee with
  | builtin b=>
   rw[hcal] at hs
   cases b<;>simp only at hs ⊢<;>try (cases hs; done)
   case len=>
    match hargs:c.args.toList,hT:c.argTypes.toList with
    | [],_=>rw[hargs] at hs; cases hs
    | [x],[]=>rw[hargs,hT] at hs; cases hs
    | [x],_::_::_=>rw[hargs,hT] at hs; cases hs
    | _::_::_,_=>rw[hargs] at hs; cases hs
    | [x],[T]=>
     rw[hargs,hT] at hs
     simp only at hs ⊢
     split at hs
     ·rename_i n hl
      refine⟨fun ext=>by simp only[zxd hl]; exact hs,fun h0 os'=>?_⟩
      have hf:(ρ x).leaf.free=true:=by
       simp only[clsV,ho,hcal,hargs,List.all_cons,List.all_nil,Bool.and_true] at h0
       split at h0
       ·assumption
       ·cases h0
      have:zqs (z7b E T) (z88 E T) os' (ρ x)=some n:=by
       rw[←hl]
       unfold zqs
       cases hx:ρ x with
       | one c=>
        rw[hx] at hf
        have hf:c.free=true:=hf
        cases c<;>first | rfl | (cases hf; done) | (rename_i t' x' L' hff; cases t'<;>rfl)
       | agg _=>rfl
       | tup _=>rfl
      simp only[this]
      exact hs
     ·cases hs
   case max=>exact⟨fun _=>hs,fun _ _=>hs⟩
   case min=>exact⟨fun _=>hs,fun _ _=>hs⟩
  | invoke r m=>rw[hcal] at hs; cases hs
  | value f=>
   rw[hcal] at hs
   simp only at hs ⊢
   split at hs
   ·rename_i g hfl
    split at hs
    ·rename_i s hsg
     split at hs
     ·cases hs
     ·rename_i hm
      have hclo:s.ins.any PIn.isClo=false:=by
       cases hh:s.ins.any PIn.isClo with
       | false=>rfl
       | true=>simp only[clsV,ho,hcal,hfl,hsg,hh,if_true] at hc; omega
      refine⟨fun ext=>?_,fun h0 os'=>?_⟩
      rotate_left
      ·have hf:(c.args.toList.map ρ).all SV.free=true:=by
        simp only[clsV,ho,hcal,hfl,hsg,hclo,Bool.false_eq_true,if_false] at h0
        split at h0
        ·rename_i hh; rw[List.all_map]; exact hh
        ·cases h0
       rw[if_neg hm]
       unfold ztf at hs ⊢
       rw[zg6 (os':=os) s.ins (by simpa using hm) hclo hf]
       split at hs
       ·cases hs
       ·rename_i x L W hg
        simp only[Tree.run] at hs ⊢
        cases hy:s.fn x with
        | none=>rw[hy] at hs; cases hs
        | some y=>
         rw[hy] at hs
         simp only[Option.bind_some] at hs ⊢
         cases hw:z1s E.imm o.dst with
         | true=>rw[hw] at hs; exact hs
         | false=>
         rw[hw] at hs
         simp only[Tree.run,Option.some.injEq,Prod.mk.injEq] at hs ⊢
         rw[z7h s.outs hs.2 os'.length]
         rw[hs.1,hs.2]
         exact⟨rfl,rfl⟩
      rw[if_neg hm]
      unfold ztf at hs ⊢
      split at hs
      ·cases hs
      ·rename_i x L W hg
       rw[zhy s.ins (by simpa using hm) hclo hg]
       simp only[Tree.run] at hs ⊢
       cases hy:s.fn x with
       | none=>rw[hy] at hs; cases hs
       | some y=>
        rw[hy] at hs
        simp only[Option.bind_some] at hs ⊢
        cases hw:z1s E.imm o.dst with
        | true=>rw[hw] at hs; exact hs
        | false=>
        rw[hw] at hs
        simp only[Tree.run,Option.some.injEq,Prod.mk.injEq] at hs ⊢
        rw[z7h s.outs hs.2 ((os++ext).length)]
        rw[hs.1,hs.2]
        exact⟨rfl,rfl⟩
    ·cases hs
   ·rename_i gs r p hfl
    have hnot:clsV E ρ o []≠0:=by simp[clsV,ho,hcal,hfl]
    refine⟨fun ext=>?_,fun h0=>absurd h0 hnot⟩
    unfold zpd at hs ⊢
    split at hs
    ·rename_i x hx
     rw[zlu gs hx]
     exact hs
    ·cases hs
   ·cases hs
 | _=>simp only[z0l,ho] at hs; cases hs
def eff (st:St) (o:Oper) (v:SV) (new:Objs):St:={ st with regs:=z04 st.regs o.dst v,objs:=st.objs++new }
def one1 (E:Env) (cb:CB) (ops:List Oper) (st:St) (o:Oper):Option (St×Nat):=
 match z1a ops st o with
 | some true=>(step E cb st o).run some
 | some false=>some (st.put o.dst (.one .skip),0)
 | none=>none
def AgreeOn (ops:List Oper) (o:Oper) (st st':St):Prop:=∀ t∈z16 ops o,st'.reg t=st.reg t
theorem z21 {ops:List Oper} {o:Oper} {st st':St} (h:AgreeOn ops o st st'):∀ x∈o.op.operands.toList,st.ev x=st'.ev x:=by
 intro x hx
 cases x with
 | tmp t=>
  refine (h t ?_).symm
  unfold z16
  exact List.mem_append_left _ (List.mem_filterMap.2 ⟨.tmp t,hx,rfl⟩)
 | const v=>rfl
 | global g=>rfl
 | func f=>rfl
theorem z5s {ops:List Oper} {o:Oper} {st st':St} (h:AgreeOn ops o st st'):z1a ops st' o=z1a ops st o:=by
 unfold z1a
 split
 ·rfl
 ·rename_i j want hg
  split
  ·rename_i p hp
   split
   ·rename_i d hd
    rw[h d]
    unfold z16
    exact List.mem_append_right _ (by simp[hg,hp,hd])
   ·rfl
  ·rfl
theorem zfh {st st':St} {o:Oper} (hev:∀ x∈o.op.operands.toList,st.ev x=st'.ev x) (hob:(∀ t n parts,o.op=.buildSlice t n parts→st'.objs=st.objs∨∀ p∈parts.toList,(st.ev p.2).free=true)) (hro:st'.ro=st.ro) (hfx:st'.fx=st.fx) (h:z57 E cb st o=none):z57 E cb st' o=none:=by
 unfold z57 at h ⊢
 cases ho:o.op<;>rw[ho] at h<;>simp only at h ⊢
 case store t a x=>cases h
 case buildSlice t n parts=>
  have:(parts.toList.map fun p=>(p.1,st'.ev p.2))=parts.toList.map fun p=>(p.1,st.ev p.2):=by
   refine List.map_congr_left fun p hp=>?_
   rw[hev p.2 (by rw[ho]; simp only[Op.operands,List.toList_toArray,List.mem_map]; exact⟨p,hp,rfl⟩)]
  rcases hob t n parts ho with hob | hfree
  case inr=>
   split
   ·split
    ·split
     ·rename_i hp
      rw[this] at hp
      have:=zha _ 0 (fun p hp=>by obtain⟨q,hq,rfl⟩:=List.mem_map.1 hp; exact hfree q hq) hp
      cases this
     ·rfl
    ·rfl
   ·rfl
  rw[hob]
  split at h
  ·split at h
   ·rename_i ti he
    rw[this]
    split at h
    ·split at h
     ·rename_i hc
      rw[hro,hfx]
      simp only[hc,if_true]
     ·cases h
    ·rename_i hne
     rfl
   ·rfl
  ·rfl
 case call c=>
  cases hc:c.callee with
  | builtin b=>rw[hc] at h; cases b<;>first | (cases h; done) | rfl
  | value f=>
   rw[hc] at h
   simp only at h ⊢
   rw[←hev f (by rw[ho]; exact (z6j (c:=c)).2 f hc)]
   split at h
   ·rename_i g hf
    split at h
    ·cases h
    ·split at h
     ·rename_i s hsg
      split at h
      ·cases h
      ·rename_i hm
       rw[if_neg hm]
     ·rfl
   ·rfl
  | invoke r m=>rfl
 case slice T x lo hi mx=>
  cases mx with
  | some m=>
   have hx:=hev x (by rw[ho]; simp[Op.operands])
   cases hi with
   | none=>rfl
   | some hi=>
    simp only at h ⊢
    rw[←hx]
    split at h
    ·cases h
    ·rfl
  | none=>
   have hx:=hev x (by rw[ho]; simp[Op.operands])
   simp only at h ⊢
   rw[←hx]
   split at h
   ·cases h
   ·rfl
theorem zdh {ρ:Operand→SV} {o:Oper} {os:Objs}:clsV E ρ o os≤2:=by
 unfold clsV
 repeat' split
 all_goals decide
theorem z7i {l:Nat}:∀ {W:List Nat} {a:Nat},(a.testBit (l+1)=true∨l∈W)→(W.foldl (fun a l=>a ||| 2 ^ (l+1)) a).testBit (l+1)=true
 | [],a,h=>by rcases h with h | h; exact h; cases h
 | m::W,a,h=>by
  refine z7i (W:=W) ?_
  rw[Nat.testBit_or,Bool.or_eq_true,Nat.testBit_two_pow]
  rcases h with h | h
  ·exact .inl (.inl h)
  ·rcases List.mem_cons.1 h with rfl | h
   ·exact .inl (.inr (by simp))
   ·exact .inr h
theorem zx8 (W:List Nat):z0c W % 2=0:=by
 have key:∀ (W:List Nat) (a:Nat),a % 2=0→(W.foldl (fun a l=>a ||| 2 ^ (l+1)) a) % 2=0:=by
  intro W
  induction W with
  | nil=>intro a h; exact h
  | cons l W ih=>
   intro a h
   refine ih _ ?_
   have h1:(a ||| 2 ^ (l+1)).testBit 0=false:=by
    rw[Nat.testBit_or,Nat.testBit_two_pow]
    simp[Nat.testBit_zero,h]
   rw[Nat.testBit_zero] at h1
   simp only[decide_eq_false_iff_not] at h1
   show (a ||| 2 ^ (l+1)) % 2=0
   omega
 exact key W 0 rfl
theorem z2a {W:List Nat} {l:Nat} (h:(z0c W).testBit (l+1)=false):l∉W:=fun hm=>by
 rw[show (z0c W).testBit (l+1)=true from z7i (.inr hm)] at h; cases h
theorem z6z {ρ:Operand→SV} {os os':Objs} {o:Oper} {p:Nat×Bool×Bool} (hp:z3m ρ o=some p) (hob:obj os' p.1=obj os p.1):z0l E cb ρ os' o=z0l E cb ρ os o:=by
 unfold z3m at hp
 split at hp
 ·rename_i t a ho
  split at hp
  ·rename_i l off hl
   simp only[Option.some.injEq] at hp; subst hp
   simp only[z0l,ho,hl,z1k,hob]
  ·rename_i l i off hl
   simp only[Option.some.injEq] at hp; subst hp
   simp only[z0l,ho,hl,z1k,hob]
  ·rename_i l i off j o2 hl
   simp only[Option.some.injEq] at hp; subst hp
   simp only[z0l,ho,hl,z1k,z3d,z08,hob]
  ·cases hp
 ·rename_i t x i ho
  split at hp
  ·rename_i l hl
   simp only[Option.some.injEq] at hp; subst hp
   simp only[z0l,ho,hl,hob]
  ·rename_i l j off hl
   simp only[Option.some.injEq] at hp; subst hp
   simp only[z0l,ho,hl,z3d,z08,hob]
  ·cases hp
 ·cases hp
theorem zgz {ρ:Operand→SV} {os:Objs} {o:Oper} {p:Nat×Bool×Bool} {q:SV×Objs} (hp:z3m ρ o=some p) (hs:(z0l E cb ρ os o).run some=some q):
  (∃ t a l off ti v,o.op=.load t a∧(ρ a).leaf=.ptr l off∧tyOf E t=some ti∧z1k os ti (.ptr l off)=some v∧p=(l,false,true)∧q=(v,[]))∨((∃ e t xs d L,obj os p.1=.row e t xs d L)∧(p.2.1=true→isIx o=true)∧(p.2.2=true→isIx o=true)∧clsV E ρ o []=1∧q.2=[]):=by
 unfold z3m at hp
 split at hp
 ·rename_i t a ho
  split at hp
  ·rename_i l off hl
   simp only[Option.some.injEq] at hp; subst hp
   left
   simp only[z0l,ho,hl] at hs
   split at hs
   case h_2=>cases hs
   rename_i ti hti
   split at hs
   case h_2=>cases hs
   rename_i v hv
   exact⟨t,a,l,off,ti,v,ho,hl,hti,hv,rfl,by simpa[ret1,Tree.run] using hs.symm⟩
  ·rename_i l i off hl
   simp only[Option.some.injEq] at hp; subst hp
   right
   simp only[z0l,ho,hl,z1k] at hs
   split at hs
   case h_2=>cases hs
   split at hs
   case h_2=>cases hs
   rename_i v hv
   have hq:q=(v,[]):=by simpa[ret1,Tree.run] using hs.symm
   refine⟨?_,by simp,by simp,by simp[clsV,ho,hl,Leaf.free],by rw[hq]⟩
   cases hob:obj os l with
   | row e t xs d L=>exact⟨e,t,xs,d,L,rfl⟩
   | box _=>rw[hob] at hv; cases hv
   | dead=>rw[hob] at hv; cases hv
   | hol _ _ _=>rw[hob] at hv; cases hv
  ·rename_i l i off j o2 hl
   simp only[Option.some.injEq] at hp; subst hp
   right
   simp only[z0l,ho,hl,z1k,z3d] at hs
   split at hs
   case h_2=>cases hs
   split at hs
   case h_2=>cases hs
   rename_i v hv
   have hq:q=(v,[]):=by simpa[ret1,Tree.run] using hs.symm
   refine⟨?_,by simp,by simp,by simp[clsV,ho,hl,Leaf.free],by rw[hq]⟩
   cases hob:obj os l with
   | row e t xs d L=>exact⟨e,t,xs,d,L,rfl⟩
   | box _=>rw[hob] at hv; cases hv
   | dead=>rw[hob] at hv; cases hv
   | hol _ _ _=>rw[hob] at hv; cases hv
  ·cases hp
 ·rename_i t x i ho
  split at hp
  ·rename_i l hl
   simp only[Option.some.injEq] at hp; subst hp
   right
   simp only[z0l,ho,hl] at hs
   split at hs
   case h_2=>cases hs
   split at hs
   case h_2=>cases hs
   rename_i e' t' xs d L hob
   split at hs
   ·cases hs
   obtain⟨_,hs⟩:=Tree.run_need hs
   obtain⟨_,hs⟩:=Tree.run_need hs
   have hq:q.2=[]:=by
    have:=hs
    simp only[ret1,Tree.run,Option.some.injEq] at this
    rw[←this]
   exact⟨⟨_,_,_,_,_,hob⟩,by simp[isIx,ho],by simp[isIx,ho],by simp[clsV,ho,hl,Leaf.free],hq⟩
  ·rename_i l j off hl
   simp only[Option.some.injEq] at hp; subst hp
   right
   simp only[z0l,ho,hl,z3d,z08] at hs
   split at hs
   case h_2=>cases hs
   split at hs
   case h_2=>cases hs
   split at hs
   case h_2=>cases hs
   rename_i xs L hd
   split at hs
   ·cases hs
   obtain⟨_,hs⟩:=Tree.run_need hs
   obtain⟨_,hs⟩:=Tree.run_need hs
   have hq:q.2=[]:=by
    have:=hs
    simp only[ret1,Tree.run,Option.some.injEq] at this
    rw[←this]
   refine⟨?_,by simp,by simp,by simp[clsV,ho,hl,Leaf.free],hq⟩
   cases hob:obj os l with
   | row e t xs d L=>exact⟨e,t,xs,d,L,rfl⟩
   | box _=>rw[hob] at hd; cases hd
   | dead=>rw[hob] at hd; cases hd
   | hol _ _ _=>rw[hob] at hd; cases hd
  ·cases hp
 ·cases hp
theorem zon {p:Nat×Bool×Bool} {W:List Nat}:((if p.2.2 then 1 else 0) ||| z0c (z3g p::W)).testBit (z3g p+1)=true:=by
 rw[Nat.testBit_or,show (z0c (z3g p::W)).testBit (z3g p+1)=true from z7i (.inr (by simp)),Bool.or_true]
theorem y2a {ρ':Operand→SV} {st st':St} {o:Oper} {v:SV} (hs:(z0l E cb ρ' st.objs o).run some=some (v,[])) (h1:clsV E st.ev o []=1) (h2:mkS st o v (clsV E st.ev o [])≠0) (h3:mkS st o v (clsV E st.ev o [])<2 ^ (2*st'.objs.length+1)) {ext:Objs} (h4:st.objs=st'.objs++ext)
  (hev:∀ x∈o.op.operands.toList,st.ev x=ρ' x):(z0l E cb ρ' st'.objs o).run some=some (v,[]):=by
 rw[h1] at h2 h3
 unfold mkS at h2 h3
 rw[if_neg (by simp)] at h2 h3
 unfold mkV at h2 h3
 split at h2
 case isFalse=>exact absurd rfl h2
 rename_i hc
 rw[if_pos hc] at h3
 simp only at h2 h3
 split at h2
 case h_2=>exact absurd rfl h2
 rename_i p hp
 rw[hp] at h3
 simp only at h3
 have hlt:p.1<st'.objs.length:=by
  apply Decidable.byContradiction
  intro hn
  have hb:=zon (p:=p) (W:=zeq st.ev o v)
  have hle:2*p.1≤z3g p:=by unfold z3g; split<;>omega
  have:=Nat.testBit_lt_two_pow (Nat.lt_of_lt_of_le h3 (Nat.pow_le_pow_right (by omega) (show 2*st'.objs.length+1≤z3g p+1 by omega)))
  rw[this] at hb; cases hb
 have hob:obj st'.objs p.1=obj st.objs p.1:=by rw[h4]; exact (z29 hlt).symm
 rw[z6z (ρ:=ρ') (by rw[←zex hev]; exact hp) hob]
 exact hs
theorem zhi {ops:List Oper} {st st' st1:St} {o:Oper} {c:Nat} (h:one1 E cb ops st o=some (st1,c)) (hc:c % 8≤2) (hag:AgreeOn ops o st st') (hfx:st'.fx=st.fx) (hro:st'.ro=st.ro)
  (hob:st'.objs=st.objs∨(c % 8≤1∧∃ ext,st'.objs=st.objs++ext)∨c % 8=0∨(c % 8=1∧c / 8≠0∧c / 8<2 ^ (2*st'.objs.length+1)∧∃ ext,st.objs=st'.objs++ext)):∃ v new,st1=eff st o v new∧one1 E cb ops st' o=some (eff st' o v new,c)∧(c % 8≤1→new=[]):=by
 unfold one1 at h ⊢
 rw[z5s hag]
 split at h
 ·have hev:=z21 hag
  obtain⟨hsl,h⟩:=z94 h (by omega)
  rw[z1w hsl]
  unfold z6u at h ⊢
  split at h
  ·rename_i t ht
   rw[Tree.run_map] at h
   obtain⟨s,_,h2⟩:=Tree.run_some t h
   simp only[Option.some.injEq,Prod.mk.injEq] at h2
   have:=zns E cb st.ev st.objs o
   omega
  ·rename_i hW
   split at h
   ·cases h
   ·rename_i hh
    rw[Tree.run_map] at h
    obtain⟨⟨v,new⟩,h1,h2⟩:=Tree.run_some _ h
    simp only[Option.some.injEq,Prod.mk.injEq] at h2
    obtain⟨rfl,rfl⟩:=h2
    have hle2:=zdh (E:=E) (ρ:=st.ev) (o:=o) (os:=new)
    have hmod:(clsV E st.ev o new+8*mkS st o v (clsV E st.ev o new)) % 8=clsV E st.ev o new:=by omega
    have hdiv:(clsV E st.ev o new+8*mkS st o v (clsV E st.ev o new)) / 8=mkS st o v (clsV E st.ev o new):=by omega
    rw[hmod] at hc hob
    rw[hdiv] at hob
    rw[hmod]
    have hcv:=z71 (E:=E) (cb:=cb) (os:=st'.objs) hev
    have hcl:=zfq (E:=E) (os:=new) hev
    have hmk:=zc3 (v:=v) (n:=clsV E st.ev o new) hev
    have hhc:=z7j (E:=E) hev
    have hrun:(z0l E cb st'.ev st'.objs o).run some=some (v,new):=by
     rw[←hcv]
     rcases hob with e | ⟨hle,ext,e⟩ | h0 | ⟨hl1,hl2,hl3,ext,hl4⟩
     ·rw[e]; exact h1
     ·obtain⟨rfl,h3,_⟩:=z82 h1 hle
      rw[e]; exact h3 ext
     ·obtain⟨rfl,_,h4⟩:=z82 h1 (by omega)
      exact h4 h0 _
     ·obtain⟨rfl,_,_⟩:=z82 h1 (by omega)
      exact y2a h1 hl1 hl2 hl3 hl4 fun _ _=>rfl
    have hW':z57 E cb st' o=none:=by
     refine zfh hev (fun t n parts ho=>?_) hro hfx hW
     rcases hob with e | ⟨hle,_⟩ | h0 | ⟨h0,_⟩
     ·exact .inl e
     ·obtain⟨rfl,_⟩:=z82 h1 hle
      exact .inr (ziz ho h1)
     ·obtain⟨rfl,_⟩:=z82 h1 (by omega)
      exact .inr (ziz ho h1)
     ·obtain⟨rfl,_⟩:=z82 h1 (by omega)
      exact .inr (ziz ho h1)
    refine⟨v,new,rfl,?_,fun hle=>(z82 h1 hle).1⟩
    simp only[hW',←hhc,hfx]
    rw[if_neg hh,Tree.run_map]
    have:∀ {α β:Type} (t:Tree α) (f:α→β) {x:α},t.run some=some x→t.run (fun x=>some (f x))=some (f x):=by
     intro α β t f x
     induction t with
     | ret a=>intro h; simp only[Tree.run,Option.some.injEq] at h ⊢; rw[h]
     | fail=>intro h; cases h
     | ite b t e iht ihe=>intro h; simp only[Tree.run] at h ⊢; cases b; exact ihe h; exact iht h
     | bind m k ih=>intro h; simp only[Tree.run] at h ⊢; cases m with
      | none=>cases h
      | some x=>exact ih x h
    rw[this _ _ hrun,←hcl]
    have hms:mkS st' o v (clsV E st.ev o new)=mkS st o v (clsV E st.ev o new):=by
     unfold mkS
     rw[←hmk]
     by_cases h2:clsV E st.ev o new=2
     ·rw[h2]
      rcases hob with e | ⟨hle,_⟩ | h0 | ⟨h0,_⟩
      ·rw[e]
      all_goals omega
     ·rw[if_neg (by simpa using h2),if_neg (by simpa using h2)]
    rw[hms]
    simp only[eff,hfx]
 ·simp only[Option.some.injEq,Prod.mk.injEq] at h
  obtain⟨rfl,rfl⟩:=h
  exact⟨.one .skip,[],by simp[eff,St.put],by simp[eff,St.put],fun _=>rfl⟩
 ·cases h
theorem z3n {l:List Nat} {d:Option Tmp} (h:z3o l d=false):∀ t∈l,d≠some t:=by
 intro t ht e
 subst e
 simp only[z3o] at h
 rw[z8w.2 ht] at h
 cases h
theorem z4g {ops:List Oper} {x y:Oper} {st:St} {v:SV} {new:Objs} (h:z3o (z16 ops y) x.dst=false):AgreeOn ops y (eff st x v new) st:=by
 intro t ht
 have:=z3n h t ht
 cases hd:x.dst with
 | none=>simp[eff,z04,hd,St.reg]
 | some d=>
  have hne:d≠t:=fun e=>this (by rw[hd,e])
  simp[eff,z04,hd,St.reg,List.getD,List.getElem?_set_ne hne]
theorem AgreeOn.symm {ops:List Oper} {o:Oper} {st st':St} (h:AgreeOn ops o st st'):AgreeOn ops o st' st:=fun t ht=>(h t ht).symm
theorem zv5 {c:Leaf} {hd:Bool} {l:Nat} (h:c.firm=true) (hl:2*l∉c.code) (hm:hd=true→2*l+1∉c.code):c.kill hd l=c:=by
 have h1:l∉c.on:=fun hh=>hl (List.mem_append_left _ (List.mem_map.2 ⟨l,hh,rfl⟩))
 have h2:hd=true→l∉c.men:=fun he hh=>hm he (List.mem_append_right _ (List.mem_map.2 ⟨l,hh,rfl⟩))
 unfold Leaf.kill
 rw[if_neg]
 intro hd'
 cases c<;>simp only[Leaf.dies,Bool.and_eq_true,beq_iff_eq,List.any_eq_true,Leaf.on,Leaf.men,Leaf.firm] at hd' h1 h2 h
 case val=>exact h1 (z8w.1 hd')
 case ela=>exact h1 (z8w.1 hd')
 case own=>exact h2 hd'.1 (by simp[hd'.2])
 case oela=>exact h2 hd'.1 (by simp[hd'.2])
 case view=>exact h2 hd'.1 (by simp[hd'.2])
 case ptr=>exact h2 hd'.1 (by simp[hd'.2])
 case sub=>exact h1 (by simp[hd'])
 case oel2=>exact h1 (by simp[hd'])
 case hol=>exact h1 (by simp[hd'])
 case fn=>
  obtain⟨h3,p,hp,hpl⟩:=hd'
  exact h2 h3 (List.mem_map.2 ⟨p,hp,by simpa using hpl⟩)
 all_goals first | (cases h; done) | (cases hd'; done) | (exfalso; simp at h)
theorem z6y {hd:Bool} {l:Nat} (v:SV):v.kill hd l=v.mapL (Leaf.kill hd l):=by cases v<;>rfl
theorem zj8 {hd:Bool} {l:Nat} (o:AObj):o.kill hd l=o.mapL (Leaf.kill hd l):=by cases o<;>rfl
theorem zul (f g:Leaf→Leaf) (v:SV):(v.mapL f).mapL g=v.mapL (g∘f):=by
 cases v<;>simp[SV.mapL,Function.comp_def]
theorem zsp (f g:Leaf→Leaf) (o:AObj):(o.mapL f).mapL g=o.mapL (g∘f):=by
 cases o<;>simp[AObj.mapL]
structure Kl (mask:Nat) (f:Leaf→Leaf):Prop where
 or:∀ c,f c=c∨f c=.undef
 stay:∀ c,c.firm=true→(∀ k∈c.code,mask.testBit (k+1)=false)→f c=c
theorem Kl.comp {m:Nat} {f g:Leaf→Leaf} (h:Kl m f) (k:Kl m g):Kl m (g∘f):=by
 refine⟨fun c=>?_,fun c hc hm=>?_⟩
 ·show g (f c)=c∨g (f c)=.undef
  rcases h.or c with e | e<;>rw[e]
  ·exact k.or c
  ·rcases k.or .undef with e | e<;>exact .inr e
 ·show g (f c)=c
  rw[h.stay c hc hm,k.stay c hc hm]
theorem Kl.mono {m m':Nat} {f:Leaf→Leaf} (h:Kl m f) (hm:∀ k,m.testBit k=true→m'.testBit k=true):Kl m' f:=
 ⟨h.or,fun c hc hk=>h.stay c hc fun k hkc=>by
  have:=hk k hkc
  cases hh:m.testBit (k+1) with
  | false=>rfl
  | true=>rw[hm _ hh] at this; cases this⟩
theorem Kl.id (m:Nat):Kl m id:=⟨fun _=>.inl rfl,fun _ _ _=>rfl⟩
theorem z1e {hd:Bool} {W:List Nat} {l:Nat} (h:l∈W):2*l∈z0k hd W∧(hd=true→2*l+1∈z0k hd W):=by
 refine⟨List.mem_flatMap.2 ⟨l,h,?_⟩,fun hh=>List.mem_flatMap.2 ⟨l,h,?_⟩⟩
 ·cases hd<;>simp
 ·subst hh; simp
theorem Kl.kill {hd:Bool} {W:List Nat} {l:Nat} (h:l∈W):Kl (z0c (z0k hd W)) (Leaf.kill hd l):=by
 obtain⟨h1,h2⟩:=z1e (hd:=hd) h
 refine⟨fun c=>?_,fun c hc hm=>zv5 hc (fun hh=>?_) fun he hh=>?_⟩
 ·unfold Leaf.kill
  split
  ·exact .inr rfl
  ·exact .inl rfl
 ·have:=hm _ hh
  rw[show (z0c (z0k hd W)).testBit (2*l+1)=true from z7i (.inr h1)] at this; cases this
 ·have:=hm _ hh
  rw[show (z0c (z0k hd W)).testBit (2*l+1+1)=true from z7i (.inr (h2 he))] at this; cases this
theorem zl9 {m:Nat} {f:Leaf→Leaf} (h:Kl m f) {cs:List Leaf} (hf:cs.all Leaf.firm=true) (hc:∀ k∈cs.flatMap Leaf.code,m.testBit (k+1)=false):cs.map f=cs:=by
 conv=>rhs; rw[←List.map_id cs]
 refine List.map_congr_left fun c hcm=>?_
 rw[List.all_eq_true] at hf
 exact h.stay c (hf c hcm) fun k hk=>hc k (List.mem_flatMap.2 ⟨c,hcm,hk⟩)
theorem zax {m:Nat} {f:Leaf→Leaf} (h:Kl m f) {v:SV} (hf:v.firm=true) (hc:∀ k∈v.code,m.testBit (k+1)=false):v.mapL f=v:=by
 cases v with
 | one c=>show SV.one (f c)=_; rw[h.stay c hf hc]
 | agg cs=>show SV.agg (cs.map f)=_; rw[zl9 h hf hc]
 | tup vs=>
  simp only[SV.firm,List.all_eq_true] at hf
  simp only[SV.mapL,SV.tup.injEq]
  conv=>rhs; rw[←List.map_id vs]
  refine List.map_congr_left fun p hp=>?_
  rw[zl9 h (by rw[List.all_eq_true]; exact fun c hc=>hf p hp c hc) fun k hk=>hc k (List.mem_flatMap.2 ⟨p,hp,hk⟩)]
  rfl
theorem zlb {m:Nat} {f:Leaf→Leaf} (h:Kl m f) {c:Leaf} (hf:(f c).firm=true):f c=c:=by
 rcases h.or c with e | e
 ·exact e
 ·rw[e] at hf; cases hf
theorem zla {m:Nat} {f:Leaf→Leaf} (h:Kl m f) {cs:List Leaf} (hf:(cs.map f).all Leaf.firm=true):cs.map f=cs:=by
 conv=>rhs; rw[←List.map_id cs]
 rw[List.all_eq_true] at hf
 exact List.map_congr_left fun c hcm=>zlb h (hf _ (List.mem_map_of_mem hcm))
theorem znx {m:Nat} {f:Leaf→Leaf} (h:Kl m f) {v:SV} (hf:(v.mapL f).firm=true):v.mapL f=v:=by
 cases v with
 | one c=>show SV.one (f c)=_; rw[zlb h hf]
 | agg cs=>show SV.agg (cs.map f)=_; rw[zla h hf]
 | tup vs=>
  simp only[SV.mapL,SV.firm,List.all_map] at hf
  rw[List.all_eq_true] at hf
  simp only[SV.mapL,SV.tup.injEq]
  conv=>rhs; rw[←List.map_id vs]
  refine List.map_congr_left fun p hp=>?_
  rw[zla h (hf p hp)]
  rfl
def KL (mask:Nat) (K:St→Option St):Prop:=∀ s1 s2,K s1=some s2→∃ f,Kl mask f∧s2=s1.mapS f∧∀ st:St,st.objs=s1.objs→st.ro=s1.ro→st.fx=s1.fx→K st=some (st.mapS f)
theorem St.mapS_mapS (st:St) (f g:Leaf→Leaf):(st.mapS f).mapS g=st.mapS (g∘f):=by
 have e1:(SV.mapL g)∘(SV.mapL f)=SV.mapL (g∘f):=by funext v; exact zul f g v
 have e2:(AObj.mapL g)∘(AObj.mapL f)=AObj.mapL (g∘f):=by funext v; exact zsp f g v
 simp only[St.mapS,List.map_map,e1,e2]
theorem KL.kill {hd:Bool} {W:List Nat} {l:Nat} (h:l∈W):KL (z0c (z0k hd W)) (St.kill hd l):=by
 intro s1 s2 hk
 have e1:(SV.kill hd l)=SV.mapL (Leaf.kill hd l):=by funext v; exact z6y v
 have e2:(AObj.kill hd l)=AObj.mapL (Leaf.kill hd l):=by funext v; exact zj8 v
 obtain⟨h1,h2⟩:=z4c hk
 refine⟨_,Kl.kill h,?_,fun st ho hr hf=>?_⟩
 ·rw[h2]; simp only[St.mapS,e1,e2]
 ·unfold St.kill
  rw[ho,h1]
  simp only[Bool.false_eq_true,if_false,Option.some.injEq,St.mapS,e1,e2,ho]
theorem KL.bind {m:Nat} {K K':St→Option St} (h:KL m K) (k:KL m K'):KL m fun st=>match K st with
  | some st'=>K' st'
  | none=>none:=by
 intro s1 s3 hs
 simp only at hs
 split at hs
 ·rename_i s2 h2
  obtain⟨f,hf,rfl,hst⟩:=h s1 s2 h2
  obtain⟨g,hg,rfl,hst'⟩:=k _ s3 hs
  refine⟨g∘f,hf.comp hg,St.mapS_mapS _ _ _,fun st ho hr hx=>?_⟩
  simp only[hst st ho hr hx]
  rw[hst' (st.mapS f) (by simp only[St.mapS,ho]) hr hx,St.mapS_mapS]
 ·cases hs
theorem KL.killAll {hd:Bool} {W:List Nat}:∀ M:List Nat,(∀ l∈M,l∈W)→KL (z0c (z0k hd W)) (St.killAll hd M)
 | [],_=>by
  intro s1 s2 hk
  simp only[St.killAll,Option.some.injEq] at hk
  subst hk
  have e1:SV.mapL (fun c=>c)=fun v=>v:=by funext v; cases v<;>simp[SV.mapL]
  have e2:AObj.mapL (fun c=>c)=fun v=>v:=by funext v; cases v<;>simp[AObj.mapL]
  have e3:∀ st:St,st=st.mapS (fun c=>c):=fun st=>by simp[St.mapS,e1,e2]
  exact⟨fun c=>c,Kl.id _,e3 _,fun st _ _ _=>by rw[←e3]; rfl⟩
 | l::M,h=>KL.bind (KL.kill (h l (by simp))) (KL.killAll M fun k hk=>h k (by simp[hk]))
theorem KL.move {W M:List Nat} {l:Nat} (hM:∀ k∈M,k∈W) (hl:l∈W):KL (z0c (z0k true W)) (fun st=>st.move M true l):=by
 intro s1 s2 hs
 simp only[St.move] at hs
 split at hs
 case isFalse=>cases hs
 rename_i hc
 obtain⟨f,h1,h2,h3⟩:=KL.bind (KL.killAll M hM) (KL.kill hl) s1 s2 hs
 refine⟨f,h1,h2,fun st ho hr hf=>?_⟩
 simp only[St.move]
 rw[hr,hf,if_pos hc]
 exact h3 st ho hr hf
theorem zrd {v:SV} {l:Nat} (h:(v.kill false l).firm=true):v.firm=true:=by
 have k1:∀ c:Leaf,(c.kill false l).firm=true→c.firm=true:=by
  intro c h
  unfold Leaf.kill at h
  split at h
  ·cases h
  ·exact h
 have k2:∀ cs:List Leaf,(cs.map (Leaf.kill false l)).all Leaf.firm=true→cs.all Leaf.firm=true:=by
  intro cs h
  rw[List.all_eq_true] at h ⊢
  exact fun c hc=>k1 c (h _ (List.mem_map_of_mem hc))
 cases v with
 | one c=>exact k1 c h
 | agg cs=>exact k2 cs h
 | tup vs=>
  simp only[SV.kill,SV.firm,List.all_map] at h ⊢
  rw[List.all_eq_true] at h ⊢
  exact fun p hp=>k2 p.2 (h p hp)
theorem y01 {W:List Nat} (h:1 ||| z0c W≤1):W=[]:=by
 cases W with
 | nil=>rfl
 | cons l W=>
  exfalso
  have h1:(1 ||| z0c (l::W)).testBit (l+1)=true:=by
   rw[Nat.testBit_or,show (z0c (l::W)).testBit (l+1)=true from z7i (.inr (by simp))]; simp
  have h2:(1 ||| z0c (l::W))<2 ^ (l+1):=Nat.lt_of_le_of_lt h (Nat.one_lt_two_pow (by omega))
  rw[Nat.testBit_lt_two_pow h2] at h1; cases h1
theorem zgd {o:Oper} (h:z41 E o=false):z1g E o=none:=by
 cases hsl:z1g E o with
 | none=>rfl
 | some l=>obtain⟨_,_,_,hf⟩:=z5u hsl; rw[h] at hf; cases hf
theorem zd4 {ρ:Operand→SV} {o:Oper} {p:Nat×Bool×Bool} (h:z3m ρ o=some p):z1g E o=none:=by
 refine zgd ?_
 unfold z3m at h
 split at h<;>rename_i ho
 ·simp[z41,ho]
 ·simp[z41,ho]
 ·cases h
theorem znf {ops:List Oper} {x:Oper} (h:zht x=true):∃ t,x.guard=none∧t∈z16 ops x∧∀ {st s1:St} {cx:Nat},one1 E cb ops st x=some (s1,cx) →
  ∃ v,s1=eff st x v []∧(cx / 8≤1→∀ (l:Nat) (st':St),st'.reg t=(st.reg t).kill false l→one1 E cb ops st' x=some (eff st' x (v.kill false l) [],cx)):=by
 have mk0:∀ {t:Tmp} {st st':St} {v:SV} {l:Nat},x.op.operands.toList=[.tmp t]→st'.reg t=(st.reg t).kill false l→mkV st.ev x v 0≤1→mkV st'.ev x (v.kill false l) 0=mkV st.ev x v 0:=by
  intro t st st' v l ho hr hle
  unfold mkV zeq at hle ⊢
  simp only[ho,List.all_cons,List.all_nil,Bool.and_true,St.ev,hr,List.flatMap_cons,List.flatMap_nil,List.append_nil] at hle ⊢
  split at hle
  ·rename_i hc
   have hn:=y01 hle
   simp only[List.append_eq_nil_iff] at hn
   simp only[Bool.and_eq_true] at hc
   rw[z6y,z6y,zax (Kl.kill (hd:=false) (W:=[l]) (by simp)) hc.1 (by rw[hn.2]; simp),zax (Kl.kill (hd:=false) (W:=[l]) (by simp)) hc.2 (by rw[hn.1]; simp)]
  ·rename_i hc
   rw[if_neg hc,if_neg]
   intro hh
   simp only[Bool.and_eq_true] at hh hc
   exact hc ⟨zrd hh.1,zrd hh.2⟩
 unfold zht at h
 split at h
 ·rename_i t ho hg
  refine⟨t,hg,by unfold z16; exact List.mem_append_left _ (List.mem_filterMap.2 ⟨.tmp t,by rw[ho]; simp[Op.operands],rfl⟩),fun {st s1 cx} h1=>?_⟩
  have key:∀ st:St,one1 E cb ops st x=some (eff st x (st.reg t) [],0+8*mkV st.ev x (st.reg t) 0):=by
   intro st
   unfold one1 z1a
   simp only[hg]
   rw[z1w (zgd (by simp[z41,ho]))]
   unfold z6u z57 z1t
   simp only[ho,z0l,ret1,Tree.map,Tree.run,clsV,Bool.false_and,Bool.false_eq_true,if_false,St.ev]
   rfl
  rw[key] at h1
  simp only[Option.some.injEq,Prod.mk.injEq] at h1
  obtain⟨rfl,rfl⟩:=h1
  exact⟨_,rfl,fun hle l st' hr=>by rw[key,hr,←mk0 (v:=st.reg t) (by rw[ho]; simp[Op.operands]) hr (by omega)]⟩
 ·rename_i t i ho hg
  refine⟨t,hg,by unfold z16; exact List.mem_append_left _ (List.mem_filterMap.2 ⟨.tmp t,by rw[ho]; simp[Op.operands],rfl⟩),fun {st s1 cx} h1=>?_⟩
  have key:∀ st:St,one1 E cb ops st x=match st.reg t with
    | .tup vs=>match vs[i]? with
     | some (b,cs)=>some (eff st x (z90 b cs) [],0+8*mkV st.ev x (z90 b cs) 0)
     | none=>none
    | _=>none:=by
   intro st
   unfold one1 z1a
   simp only[hg]
   rw[z1w (zgd (by simp[z41,ho]))]
   unfold z6u z57 z1t
   simp only[ho,z0l,ret1,St.ev,Bool.false_and,Bool.false_eq_true,if_false]
   cases st.reg t with
   | one c=>rfl
   | agg cs=>rfl
   | tup vs=>
    simp only
    cases vs[i]? with
    | none=>rfl
    | some p=>simp only[Tree.map,Tree.run,clsV,ho]; rfl
  rw[key] at h1
  cases hr0:st.reg t with
  | one c=>rw[hr0] at h1; cases h1
  | agg cs=>rw[hr0] at h1; cases h1
  | tup vs=>
   rw[hr0] at h1
   simp only at h1
   cases hv:vs[i]? with
   | none=>rw[hv] at h1; cases h1
   | some p=>
    rw[hv] at h1
    simp only[Option.some.injEq,Prod.mk.injEq] at h1
    obtain⟨rfl,rfl⟩:=h1
    refine⟨_,rfl,fun hle l st' hr=>?_⟩
    have hmk:=mk0 (v:=z90 p.1 p.2) (by rw[ho]; simp[Op.operands]) (hr.trans (by rw[hr0]):st'.reg t=(st.reg t).kill false l) (by omega)
    have hpk:z90 p.1 (p.2.map (Leaf.kill false l))=(z90 p.1 p.2).kill false l:=by
     obtain⟨b,cs⟩:=p
     cases b with
     | true=>rfl
     | false=>
      match cs with
      | []=>rfl
      | [c]=>rfl
      | _::_::_=>rfl
    rw[key,hr,←hmk]
    simp only[SV.kill,List.getElem?_map,hv,Option.map_some]
    rw[hpk]; rfl
 ·cases h
theorem zch (os:Objs) (l:Nat) (x:Leaf):zmc os l x % 8=7∨zmc os l x=3:=by
 unfold zmc
 repeat' split
 all_goals omega
theorem zvw {ρ:Operand→SV} {os:Objs} {o:Oper} (h:wcls E cb ρ os o=4):∃ c,o.op=.call c∧c.callee=.builtin .copy:=by
 unfold wcls at h
 split at h
 ·repeat' split at h
  all_goals omega
 ·rename_i c ho
  split at h
  ·rename_i hc; exact⟨c,ho,hc⟩
  ·exfalso
   repeat' split at h
   all_goals first | omega | (have:=zch os; rename_i l _; have:=zch os l; simp_all; omega) | skip
   all_goals (rename_i l _ ; rcases zch os l _ with h1 | h1<;>rw[h] at h1<;>omega)
  ·exfalso
   repeat' split at h
   all_goals omega
  ·omega
 ·split at h<;>first | omega | cases h
 ·omega
theorem ztk {ρ:Operand→SV} {os:Objs} {o:Oper} (h:wcls E cb ρ os o % 8=5):∃ t a x l off,o.op=.store t a x∧(ρ a).leaf=.ptr l off:=by
 unfold wcls at h
 split at h
 ·repeat' split at h
  all_goals omega
 ·rename_i c ho
  exfalso
  split at h
  ·omega
  ·split at h
   ·rename_i s x _
    split at h
    ·rename_i l _
     have:=zch os l (ρ x).leaf; omega
    ·omega
   ·omega
  ·repeat' split at h
   all_goals omega
  ·omega
 ·rename_i t a x ho
  split at h
  ·rename_i l off ha; exact⟨t,a,x,l,off,ho,ha⟩
  ·omega
 ·omega
theorem zpk {ρ:Operand→SV} {os:Objs} {o:Oper} (h:wcls E cb ρ os o % 8=6):∃ c f g s x L W,o.op=.call c∧c.callee=.value f∧(ρ f).leaf=.fn g []∧z4i E.rfn g=none∧z4i E.sig g=some s ∧
  z05 cb os s.ins (c.args.toList.map ρ)=some (x,L,W)∧wcls E cb ρ os o=6+8*z0c (z0k false W):=by
 unfold wcls at h ⊢
 split at h
 ·exfalso
  repeat' split at h
  all_goals omega
 ·rename_i c ho
  split at h
  ·omega
  ·exfalso
   split at h
   ·rename_i s x _
    split at h
    ·rename_i l _
     have:=zch os l (ρ x).leaf; omega
    ·omega
   ·omega
  ·rename_i f hc
   split at h
   ·rename_i g hf
    split at h
    ·omega
    ·rename_i hr
     split at h
     ·rename_i s hs
      split at h
      ·rename_i x L W hg
       refine⟨c,f,g,s,x,L,W,ho,hc,hf,hr,hs,hg,?_⟩
       simp only[ho,hc,hf,hr,hs,hg]
      ·omega
     ·omega
   ·omega
  ·omega
 ·exfalso
  split at h<;>omega
 ·omega
theorem zui {ρ:Operand→SV} {os:Objs} {o:Oper} (h:wcls E cb ρ os o % 8=7):
  (∃ t n parts e ti tt xs m M,o.op=.buildSlice t n parts∧tyOf E t=some tt∧tt.td=.slice e∧tyOf E e=some ti∧z2x ti.ty os true (parts.toList.map fun p=>(p.1,ρ p.2)) 0=some (xs,m::M)∧wcls E cb ρ os o=7+8*z0c (z0k true (m::M++[os.length]))) ∨
  (∃ c s x l,o.op=.call c∧c.callee=.builtin .append∧c.args.toList=[s,x]∧(ρ s).leaf=.own l∧wcls E cb ρ os o=zmc os l (ρ x).leaf):=by
 unfold wcls at h ⊢
 split at h
 ·rename_i t n parts ho
  left
  split at h
  ·rename_i e _ _ _ ht
   split at h
   ·rename_i ti he
    split at h
    ·rename_i xs m M hp
     refine⟨t,n,parts,e,ti,_,xs,m,M,ho,ht,rfl,he,hp,?_⟩
     simp only[ho,ht,he,hp]
    ·omega
   ·omega
  ·omega
 ·rename_i c ho
  split at h
  ·omega
  ·rename_i hc
   split at h
   ·rename_i s x hargs
    split at h
    ·rename_i l hl
     exact .inr ⟨c,s,x,l,ho,hc,hargs,hl,by simp only[ho,hc,hargs,hl]⟩
    ·omega
   ·omega
  ·repeat' split at h
   all_goals omega
  ·omega
 ·split at h<;>omega
 ·omega
theorem y0h {ops:List Oper} {st s1 s2:St} {y:Oper} (h:one1 E cb ops s1 y=some (s2,4)) (ha:AgreeOn ops y s1 st) (ho:s1.objs=st.objs) (hr:s1.ro=st.ro) (hf:s1.frm=st.frm):
  ∃ l n os fm,s2={ s1 with regs:=z04 (s1.regs.map (SV.kill false l)) y.dst n,objs:=os,frm:=fm }∧one1 E cb ops st y=some ({ st with regs:=z04 (st.regs.map (SV.kill false l)) y.dst n,objs:=os,frm:=fm },4):=by
 have hev:=z21 ha
 unfold one1 at h ⊢
 rw[z5s ha]
 cases hg:z1a ops s1 y with
 | none=>rw[hg] at h; cases h
 | some bb=>
 cases bb with
 | false=>rw[hg] at h; simp at h
 | true=>
 rw[hg] at h
 simp only at h ⊢
 obtain⟨hsl,h⟩:=z94 h (by omega)
 rw[z1w hsl]
 unfold z6u at h ⊢
 split at h
 case h_2=>
  exfalso
  split at h
  ·cases h
  ·rw[Tree.run_map] at h
   obtain⟨p,_,h2⟩:=Tree.run_some _ h
   simp only[Option.some.injEq,Prod.mk.injEq] at h2
   have:=zdh (E:=E) (ρ:=s1.ev) (o:=y) (os:=p.2)
   omega
 rename_i t ht
 rw[Tree.run_map] at h
 obtain⟨s3,h1,h2⟩:=Tree.run_some t h
 simp only[Option.some.injEq,Prod.mk.injEq] at h2
 obtain⟨rfl,h4⟩:=h2
 obtain⟨c,hop,hc⟩:=zvw h4
 have hw4:∀ os,wcls E cb st.ev os y=4:=fun os=>by unfold wcls; simp only[hop,hc]
 have he:∀ z∈c.args.toList,s1.ev z=st.ev z:=fun z hz=>hev z (by rw[hop]; exact (z6j (c:=c)).1 z hz)
 unfold z57 at ht ⊢
 simp only[hop,hc,Option.some.injEq] at ht ⊢
 subst ht
 rw[Tree.run_map]
 split at h1
 ·rename_i p q tt uu hargs hT
  try simp only[hargs,hT]
  rw[hargs] at he
  split at h1
  ·rename_i e _ _ _ htt
   try simp only[htt]
   split at h1
   ·rename_i ti hte
    try simp only[hte]
    split at h1
    ·rename_i hz
     try simp only[if_pos hz]
     split at h1
     ·rename_i l lo hi hd
      rw[←he p (by simp),←he q (by simp),←ho,hd]
      simp only
      unfold zrh at h1 ⊢
      rw[←hr,←ho]
      split at h1
      ·cases h1
      rename_i hro
      rw[if_neg hro]
      split at h1
      case h_2=>cases h1
      rename_i e' t' xs deep L hob
      try simp only[hob]
      split at h1
      case isFalse=>cases h1
      rename_i hcc
      rw[if_pos hcc]
      split at h1
      case h_1=>cases h1
      rename_i ys M hsd
      try simp only[hsd]
      split at h1
      case h_2=>cases h1
      rename_i st1 hk
      obtain⟨k0,k1⟩:=z4c hk
      simp only[Tree.run,Option.some.injEq] at h1
      have hk':st.kill false l=some { st with regs:=st.regs.map (SV.kill false l),objs:=s1.objs.map (AObj.kill false l),frm:=s1.frm.map (Leaf.kill false l) }:=by
       unfold St.kill
       rw[←ho,k0,hf]
       simp
      rw[hk']
      simp only[Tree.run,hw4]
      subst k1
      exact⟨l,vint .i64 (zbo ys lo hi:Nat),_,_,h1.symm,by simp only[St.put,hr]⟩
     ·cases h1
    ·cases h1
   ·cases h1
  ·cases h1
 ·cases h1
theorem zt1 {x:Oper} (h:zlf x=true):zht x=true:=by
 unfold zlf at h
 unfold zht
 split at h
 ·rename_i ho hg; simp only[ho,hg]
 ·cases h
theorem zw9 {ops:List Oper} {st s1 s2:St} {x y:Oper} {cx:Nat} (hx:one1 E cb ops st x=some (s1,cx)) (hy:one1 E cb ops s1 y=some (s2,4)) (hm:zlf x=true) (hle:cx / 8≤1) (h1:z3o (z16 ops y) x.dst=false) (h2:z3o (z16 ops x) y.dst=false) (h3:z3o x.dst.toList y.dst=false):
  ∃ t1,one1 E cb ops st y=some (t1,4)∧one1 E cb ops t1 x=some (s2,cx):=by
 obtain⟨t,hg,htl,hpk⟩:=znf (E:=E) (cb:=cb) (ops:=ops) (zt1 hm)
 obtain⟨v,rfl,hmv⟩:=hpk hx
 obtain⟨l,n,os,fm,rfl,hy'⟩:=y0h (st:=st) hy (z4g h1) (by simp[eff]) rfl rfl
 refine⟨_,hy',?_⟩
 have hd:∀ (regs:List SV) (p q:SV),z04 (z04 regs y.dst p) x.dst q=z04 (z04 regs x.dst q) y.dst p:=by
  intro regs p q
  cases hxd:x.dst with
  | none=>rfl
  | some d=>
   cases hyd:y.dst with
   | none=>rfl
   | some e=>
    have hne:e≠d:=fun e'=>by
     rw[hxd,hyd,e'] at h3
     simp[z3o,has] at h3
    simp[z04,List.set_comm _ _ hne]
 have hreg:St.reg { st with regs:=z04 (st.regs.map (SV.kill false l)) y.dst n,objs:=os,frm:=fm } t=(st.reg t).kill false l:=by
  have hne:y.dst≠some t:=z3n h2 t htl
  have e1:St.reg { st with regs:=z04 (st.regs.map (SV.kill false l)) y.dst n,objs:=os,frm:=fm } t=St.reg { st with regs:=st.regs.map (SV.kill false l),objs:=os,frm:=fm } t:=by
   cases hyd:y.dst with
   | none=>rfl
   | some e=>
    have hne:e≠t:=fun e'=>hne (by rw[hyd,e'])
    simp[z04,St.reg,List.getD,List.getElem?_set_ne hne]
  rw[e1,zku]
 rw[hmv hle l _ hreg]
 congr 2
 have hmap:(z04 st.regs x.dst v).map (SV.kill false l)=z04 (st.regs.map (SV.kill false l)) x.dst (v.kill false l):=by
  cases x.dst with
  | none=>rfl
  | some d=>simp[z04,List.map_set]
 have:∀ (a b:St),a.regs=b.regs→a.objs=b.objs→a.ro=b.ro→a.fx=b.fx→a.frm=b.frm→a=b:=by
  intro a b h1 h2 h3 h4 h5
  cases a; cases b; simp_all
 exact this _ _ (by show z04 (z04 _ y.dst n) x.dst _=z04 ((z04 st.regs x.dst v).map _) y.dst n; rw[hd,hmap]) (by simp[eff]) rfl rfl rfl
theorem z7e {os:Objs} {f:Leaf→Leaf} {F:AObj→AObj} (hF:∀ o,F o=o.mapL f) {k:Nat} {e:TypeId} {t:Ty} {xs:List t.den} {d:Bool} {L:List Nat}:obj os k=.row e t xs d L↔obj (os.map F) k=.row e t xs d L:=by
 by_cases hl:k<os.length
 ·simp only[obj,List.getD,List.getElem?_map,List.getElem?_eq_getElem hl,Option.map_some,Option.getD_some,hF]
  cases os[k] with
  | row _ _ _ _ _=>rfl
  | box _=>simp[AObj.mapL]
  | dead=>simp[AObj.mapL]
  | hol _ _ _=>simp[AObj.mapL]
 ·simp[obj,List.getD,List.getElem?_eq_none (show os.length≤k by omega),List.getElem?_eq_none (show (os.map F).length≤k by simp; omega)]
theorem zyp {ops:List Oper} {st s1 s2:St} {y:Oper} {cy:Nat} (h:one1 E cb ops s1 y=some (s2,cy)) (h5:cy % 8=5) (ha:AgreeOn ops y s1 st) (ho:s1.objs=st.objs) (hr:s1.ro=st.ro) (hf:s1.frm=st.frm):
  y.dst=none∧∃ l os fm,cy=5+8*z0c (z0k false [l])∧s2={ s1 with regs:=s1.regs.map (SV.kill false l),objs:=os,frm:=fm }∧one1 E cb ops st y=some ({ st with regs:=st.regs.map (SV.kill false l),objs:=os,frm:=fm },cy) ∧
   (∀ k cs,k≠l→obj st.objs k=.box cs→obj os k=.box (cs.map (Leaf.kill false l)))∧(∀ k cs,k≠l→obj os k=.box cs→∃ ds,obj st.objs k=.box ds)∧∀ k e t xs d L,obj st.objs k=.row e t xs d L↔obj os k=.row e t xs d L:=by
 have hev:=z21 ha
 unfold one1 at h ⊢
 rw[z5s ha]
 cases hg:z1a ops s1 y with
 | none=>rw[hg] at h; cases h
 | some bb=>
 cases bb with
 | false=>rw[hg] at h; simp only[Option.some.injEq,Prod.mk.injEq] at h; omega
 | true=>
 rw[hg] at h
 simp only at h ⊢
 obtain⟨hsl,h⟩:=z94 h (by omega)
 rw[z1w hsl]
 unfold z6u at h ⊢
 split at h
 case h_2=>
  exfalso
  split at h
  ·cases h
  ·rw[Tree.run_map] at h
   obtain⟨p,_,h2⟩:=Tree.run_some _ h
   simp only[Option.some.injEq,Prod.mk.injEq] at h2
   have:=zdh (E:=E) (ρ:=s1.ev) (o:=y) (os:=p.2)
   omega
 rename_i t ht
 rw[Tree.run_map] at h
 obtain⟨s3,h1,h2⟩:=Tree.run_some t h
 simp only[Option.some.injEq,Prod.mk.injEq] at h2
 obtain⟨rfl,rfl⟩:=h2
 obtain⟨tt,a,x,l,off,hop,hl⟩:=ztk h5
 have e1:s1.ev a=st.ev a:=hev a (by rw[hop]; simp[Op.operands])
 have e2:s1.ev x=st.ev x:=hev x (by rw[hop]; simp[Op.operands])
 have hw0:wcls E cb s1.ev s1.objs y=5+8*z0c (z0k false [l]):=by
  unfold wcls
  simp only[hop,hl]
 have hw5:∀ os,wcls E cb st.ev os y=5+8*z0c (z0k false [l]):=fun os=>by
  unfold wcls
  simp only[hop,←e1,hl]
 unfold z57 at ht ⊢
 simp only[hop,Option.some.injEq] at ht ⊢
 subst ht
 rw[Tree.run_map]
 cases hd:y.dst with
 | some _=>simp only[hd] at h1; cases h1
 | none=>
 refine⟨rfl,?_⟩
 simp only[hd] at h1 ⊢
 cases htt:tyOf E tt with
 | none=>rw[htt] at h1; cases h1
 | some ti=>
 rw[htt] at h1
 simp only at h1 ⊢
 rw[←e1,←e2,hl] at *
 cases hst:z8f s1 ti (.ptr l off) (s1.ev x) with
 | none=>rw[hst] at h1; cases h1
 | some s4=>
 rw[hst] at h1
 simp only[Tree.ofOpt,Tree.run,Option.some.injEq] at h1
 subst h1
 unfold z8f at hst ⊢
 rw[←hr]
 split at hst
 ·cases hst
 rename_i b ls hls
 try simp only[hls]
 split at hst
 case isFalse=>cases hst
 rename_i hcc
 rw[if_pos hcc]
 simp only at hst ⊢
 split at hst
 ·cases hst
 rename_i hro
 rw[if_neg hro]
 split at hst
 ·cases hst
 rename_i st1 hk
 obtain⟨k0,k1⟩:=z4c hk
 have hk':st.kill false l=some { st with regs:=st.regs.map (SV.kill false l),objs:=s1.objs.map (AObj.kill false l),frm:=s1.frm.map (Leaf.kill false l) }:=by
  unfold St.kill
  rw[←ho,k0,hf]
  simp
 rw[hk']
 subst k1
 simp only at hst ⊢
 split at hst
 case h_2=>cases hst
 rename_i cs hob
 try simp only[hob]
 split at hst
 case h_2=>cases hst
 rename_i cs' hput
 try simp only[hput]
 split at hst
 case isFalse=>cases hst
 rename_i hkn
 try simp only[if_pos hkn]
 simp only[Option.some.injEq] at hst
 subst hst
 refine⟨l,_,_,hw0,rfl,?_,fun k cs2 hk2 hkb=>?_,fun k cs2 hk2 hkb=>?_,fun k e t xs d L=>?_⟩
 ·simp only[Tree.ofOpt,Tree.run,hw5,hw0,hr]
 ·have hkl:k<s1.objs.length:=by rw[ho]; exact z0o (by rw[hkb]; simp)
  rw[z01 hk2]
  rw[←ho] at hkb
  show obj (s1.objs.map (AObj.kill false l)) k=(AObj.box cs2).kill false l
  rw[←hkb]
  simp only[obj,List.getD,List.getElem?_map,List.getElem?_eq_getElem hkl,Option.map_some,Option.getD_some]
 ·rw[z01 hk2] at hkb
  have hlt:k<s1.objs.length:=by
   have:=z0o (os:=s1.objs.map (AObj.kill false l)) (l:=k) (by rw[hkb]; simp)
   simpa using this
  rw[←ho]
  simp only[obj,List.getD,List.getElem?_map,List.getElem?_eq_getElem hlt,Option.map_some,Option.getD_some] at hkb ⊢
  cases hh:s1.objs[k] with
  | box ds=>exact⟨ds,rfl⟩
  | row _ _ _ _ _=>rw[hh] at hkb; cases hkb
  | dead=>rw[hh] at hkb; cases hkb
  | hol _ _ _=>rw[hh] at hkb; cases hkb
 ·rw[←ho]
  have hll:l<s1.objs.length:=by
   have:=z0o (os:=s1.objs.map (AObj.kill false l)) (l:=l) (by rw[hob]; simp)
   simpa using this
  by_cases hkl:k=l
  ·subst hkl
   rw[z0a (by simpa using hll)]
   constructor
   ·intro hk3
    exfalso
    simp only[obj,List.getD,List.getElem?_map,List.getElem?_eq_getElem hll,Option.map_some,Option.getD_some] at hob hk3
    rw[hk3] at hob
    cases hob
   ·intro hk3; cases hk3
  ·rw[z01 hkl]
   exact z7e (f:=Leaf.kill false l) (by intro o; exact zj8 o)
theorem zz9 {ops:List Oper} {st s1 s2:St} {x y:Oper} {cx:Nat} {cy:Nat} (hx:one1 E cb ops st x=some (s1,cx)) (hy:one1 E cb ops s1 y=some (s2,cy)) (h5:cy % 8=5) (hm:zht x=true) (hle:cx / 8≤1) (h1:z3o (z16 ops y) x.dst=false):
  ∃ t1,one1 E cb ops st y=some (t1,cy)∧one1 E cb ops t1 x=some (s2,cx):=by
 obtain⟨t,hg,htl,hpk⟩:=znf (E:=E) (cb:=cb) (ops:=ops) hm
 obtain⟨v,rfl,hmv⟩:=hpk hx
 obtain⟨hd,l,os,fm,_,rfl,hy',_⟩:=zyp (st:=st) hy h5 (z4g h1) (by simp[eff]) rfl rfl
 refine⟨_,hy',?_⟩
 rw[hmv hle l _ zku]
 congr 2
 have hmap:(z04 st.regs x.dst v).map (SV.kill false l)=z04 (st.regs.map (SV.kill false l)) x.dst (v.kill false l):=by
  cases x.dst with
  | none=>rfl
  | some d=>simp[z04,List.map_set]
 have:∀ (a b:St),a.regs=b.regs→a.objs=b.objs→a.ro=b.ro→a.fx=b.fx→a.frm=b.frm→a=b:=by
  intro a b h1 h2 h3 h4 h5
  cases a; cases b; simp_all
 exact this _ _ hmap.symm (by simp[eff]) rfl rfl rfl
theorem zcn {k:Nat} {os0:Objs}:∀ (t:Ty) {os os':Objs} {y x:t.den} {L:List Nat} {ls r q:List Leaf},z0z os0 t ls=some (x,L,q)→k∉L→z17 os t y ls=some (os',r)→r=q∧obj os' k=obj os k
 | .pair a b,os,os',y,x,L,ls,r,q,hg,hL,h=>by
  simp only[z0z] at hg
  split at hg
  case h_2=>cases hg
  rename_i x1 L1 r1 g1
  split at hg
  case h_2=>cases hg
  rename_i x2 L2 r2 g2
  simp only[Option.some.injEq,Prod.mk.injEq] at hg
  obtain⟨_,rfl,rfl⟩:=hg
  simp only[List.mem_append,not_or] at hL
  simp only[z17] at h
  split at h
  ·rename_i os1 r3 h1
   obtain⟨rfl,h3⟩:=zcn a g1 hL.1 h1
   obtain⟨h4,h5⟩:=zcn b g2 hL.2 h
   exact⟨h4,h5.trans h3⟩
  ·cases h
 | .unit,os,os',y,x,L,ls,r,q,hg,hL,h=>by
  simp only[z17,Option.some.injEq,Prod.mk.injEq] at h
  simp only[z0z,Option.some.injEq,Prod.mk.injEq] at hg
  obtain⟨rfl,rfl⟩:=h; exact⟨hg.2.2,rfl⟩
 | .slice e t,os,os',y,x,L,ls,r,q,hg,hL,h=>by
  cases ls with
  | nil=>cases h
  | cons c ls=>
   cases c<;>simp only[z17] at h<;>try (cases h; done)
   ·simp only[Option.some.injEq,Prod.mk.injEq] at h
    simp only[z0z,Option.some.injEq,Prod.mk.injEq] at hg
    obtain⟨rfl,rfl⟩:=h; exact⟨hg.2.2,rfl⟩
   ·simp only[z0z] at hg
    split at hg
    case h_2=>cases hg
    split at hg
    case isFalse=>cases hg
    split at hg
    case h_2=>cases hg
    simp only[Option.some.injEq,Prod.mk.injEq] at hg
    obtain⟨_,rfl,rfl⟩:=hg
    split at h
    ·split at h
     ·simp only[Option.some.injEq,Prod.mk.injEq] at h
      obtain⟨rfl,rfl⟩:=h
      exact⟨rfl,z01 (by simpa using hL)⟩
     ·cases h
    ·cases h
   ·simp only[z0z] at hg
    split at hg
    case h_2=>cases hg
    split at hg
    case h_2=>cases hg
    split at hg
    case isFalse=>cases hg
    split at hg
    case h_2=>cases hg
    simp only[Option.some.injEq,Prod.mk.injEq] at hg
    obtain⟨_,rfl,rfl⟩:=hg
    split at h
    ·split at h
     ·simp only[Option.some.injEq,Prod.mk.injEq] at h
      obtain⟨rfl,rfl⟩:=h
      exact⟨rfl,z01 (by simpa using hL)⟩
     ·cases h
    ·cases h
 | .int n,os,os',y,x,L,ls,r,q,hg,hL,h=>by
  cases ls with
  | nil=>cases h
  | cons c ls=>
   simp only[z17,Option.some.injEq,Prod.mk.injEq] at h
   cases c<;>simp only[z0z] at hg<;>try (cases hg; done)
   split at hg
   case h_2=>cases hg
   simp only[Option.some.injEq,Prod.mk.injEq] at hg
   obtain⟨rfl,rfl⟩:=h; exact⟨hg.2.2,rfl⟩
 | .bool,os,os',y,x,L,ls,r,q,hg,hL,h=>by
  cases ls with
  | nil=>cases h
  | cons c ls=>
   simp only[z17,Option.some.injEq,Prod.mk.injEq] at h
   cases c<;>simp only[z0z] at hg<;>try (cases hg; done)
   split at hg
   case h_2=>cases hg
   simp only[Option.some.injEq,Prod.mk.injEq] at hg
   obtain⟨rfl,rfl⟩:=h; exact⟨hg.2.2,rfl⟩
 | .str,os,os',y,x,L,ls,r,q,hg,hL,h=>by
  cases ls with
  | nil=>cases h
  | cons c ls=>
   simp only[z17,Option.some.injEq,Prod.mk.injEq] at h
   cases c<;>simp only[z0z] at hg<;>try (cases hg; done)
   split at hg
   case h_2=>cases hg
   simp only[Option.some.injEq,Prod.mk.injEq] at hg
   obtain⟨rfl,rfl⟩:=h; exact⟨hg.2.2,rfl⟩
theorem z2t {k:Nat} {os0:Objs} {Lc:List Nat}:∀ (ps:List PIn) {os os':Objs} {y:z51 ps} {vs:List SV} {x:z6e ps} {L W:List Nat},z05 cb os0 ps vs=some (x,L,W)→k∉W→z19 Lc os ps y vs=some os'→obj os' k=obj os k
 | [],os,os',y,vs,x,L,W,_,_,h=>by
  cases vs with
  | nil=>simp only[z19,Option.some.injEq] at h; subst h; rfl
  | cons _ _=>simp only[z19,Option.some.injEq] at h; subst h; rfl
 | .imm b t::ps,os,os',y,vs,x,L,W,hg,hW,h=>by
  cases vs with
  | nil=>cases h
  | cons v vs=>
   simp only[z05] at hg
   split at hg
   ·split at hg
    ·split at hg
     ·split at hg
      ·rename_i hr
       simp only[Option.some.injEq,Prod.mk.injEq] at hg
       obtain⟨_,_,rfl⟩:=hg
       exact z2t ps hr hW h
      ·cases hg
     ·cases hg
    ·cases hg
   ·cases hg
 | .clo gs r::ps,os,os',y,vs,x,L,W,hg,hW,h=>by
  cases vs with
  | nil=>cases h
  | cons v vs=>
   cases v with
   | one c=>
    cases c<;>simp only[z05] at hg<;>try (cases hg; done)
    ·split at hg
     ·rename_i hr
      simp only[Option.some.injEq,Prod.mk.injEq] at hg
      obtain⟨_,_,rfl⟩:=hg
      exact z2t ps hr hW h
     ·cases hg
    ·split at hg
     ·split at hg
      ·rename_i hr
       simp only[Option.some.injEq,Prod.mk.injEq] at hg
       obtain⟨_,_,rfl⟩:=hg
       exact z2t ps hr hW h
      ·cases hg
     ·cases hg
   | agg _=>simp[z05] at hg
   | tup _=>simp[z05] at hg
 | .mut b t::ps,os,os',y,vs,x,L,W,hg,hW,h=>by
  cases vs with
  | nil=>cases h
  | cons v vs=>
   simp only[z05] at hg
   split at hg
   case h_2=>cases hg
   rename_i b' ls hlv
   split at hg
   case isFalse=>cases hg
   split at hg
   case h_2=>cases hg
   rename_i x1 L1 hgm
   split at hg
   case h_2=>cases hg
   rename_i hr
   simp only[Option.some.injEq,Prod.mk.injEq] at hg
   obtain⟨_,_,rfl⟩:=hg
   simp only[List.mem_append,not_or] at hW
   simp only[z19,hlv] at h
   split at h
   ·rename_i h1
    exact (z2t ps hr hW.2 h).trans (zcn t hgm hW.1 h1).2
   ·cases h
 | .ptr t::ps,os,os',y,vs,x,L,W,hg,hW,h=>by
  cases vs with
  | nil=>cases h
  | cons v vs=>
   cases v with
   | one c=>
    cases c<;>simp only[z05] at hg<;>try (cases hg; done)
    split at hg
    ·split at hg
     ·split at hg
      ·split at hg
       ·rename_i hr
        simp only[Option.some.injEq,Prod.mk.injEq] at hg
        obtain⟨_,_,rfl⟩:=hg
        simp only[z19] at h
        simp only[List.mem_cons,not_or] at hW
        exact (z2t ps hr hW.2 h).trans (z01 hW.1)
       ·cases hg
      ·cases hg
     ·cases hg
    ·cases hg
   | agg _=>simp[z05] at hg
   | tup _=>simp[z05] at hg
theorem za7:∀ (t:Ty) (x:t.den) (n:Nat),∀ o∈(z02 t x n).2,∃ e u xs d L,o=.row e u xs d L
 | .pair a b,x,n,o,ho=>by
  simp only[z02,List.mem_append] at ho
  rcases ho with ho | ho
  ·exact za7 a _ _ o ho
  ·exact za7 b _ _ o ho
 | .unit,_,_,o,ho=>by simp[z02] at ho
 | .int _,_,_,o,ho=>by simp[z02] at ho
 | .bool,_,_,o,ho=>by simp[z02] at ho
 | .str,_,_,o,ho=>by simp[z02] at ho
 | .slice e t,x,n,o,ho=>by
  simp only[z02,List.mem_singleton] at ho
  exact⟨e,t,x,true,[],ho⟩
theorem z7g {L:List Nat}:∀ (ps:List POut) (y:z4z ps) (n:Nat),∀ o∈(z0e L ps y n).2,∃ e u xs d L,o=.row e u xs d L
 | [],_,_,o,ho=>by simp[z0e] at ho
 | .imm b t::ps,y,n,o,ho=>by
  simp only[z0e] at ho
  exact z7g ps _ _ o ho
 | .deep b t::ps,y,n,o,ho=>by
  simp only[z0e,List.mem_append] at ho
  rcases ho with ho | ho
  ·exact za7 t _ _ o ho
  ·exact z7g ps _ _ o ho
def WrOk (E:Env) (cb:CB) (ops:List Oper) (st s1 s2:St) (y:Oper) (cy:Nat):Prop:=
 ∃ f out os fm,Kl (cy / 8) f∧s2={ s1 with regs:=z04 (s1.regs.map (SV.mapL f)) y.dst out,objs:=os,frm:=fm }∧one1 E cb ops st y=some ({ st with regs:=z04 (st.regs.map (SV.mapL f)) y.dst out,objs:=os,frm:=fm },cy) ∧
  (∀ k cs,(cy / 8).testBit (2*k+1)=false→obj st.objs k=.box cs→obj os k=.box (cs.map f)) ∧
  (∀ k cs,(cy / 8).testBit (2*k+1)=false→obj os k=.box cs→∃ ds,obj st.objs k=.box ds) ∧
  (∀ k e t xs d L,((cy / 8).testBit (2*k+1)=false∨(cy % 8≠6∧(cy / 8).testBit (2*k+2)=false))→obj st.objs k=.row e t xs d L→obj os k=.row e t xs d L) ∧
  (cy % 8≠6→∀ k e t xs d L,((cy / 8).testBit (2*k+1)=false∨(cy / 8).testBit (2*k+2)=false)→obj os k=.row e t xs d L→obj st.objs k=.row e t xs d L)
theorem zpe {os:Objs} {f:Leaf→Leaf} {k:Nat} {cs:List Leaf} (h:obj os k=.box cs):obj (os.map (AObj.mapL f)) k=.box (cs.map f):=by
 have hl:k<os.length:=z0o (by rw[h]; simp)
 simp only[obj,List.getD,List.getElem?_map,List.getElem?_eq_getElem hl,Option.map_some,Option.getD_some] at h ⊢
 rw[h]; rfl
theorem zk3 {os:Objs} {f:Leaf→Leaf} {k:Nat} {cs:List Leaf} (h:obj (os.map (AObj.mapL f)) k=.box cs):∃ ds,obj os k=.box ds:=by
 by_cases hl:k<os.length
 ·simp only[obj,List.getD,List.getElem?_map,List.getElem?_eq_getElem hl,Option.map_some,Option.getD_some] at h ⊢
  cases ho:os[k] with
  | box ds=>exact⟨ds,rfl⟩
  | row _ _ _ _ _=>rw[ho] at h; cases h
  | dead=>rw[ho] at h; cases h
  | hol _ _ _=>rw[ho] at h; cases h
 ·simp[obj,List.getD,List.getElem?_eq_none (show (os.map (AObj.mapL f)).length≤k by simp; omega)] at h
theorem Tree.run_then {α β:Type} (t:Tree α) (f:α→β) {x:α} (h:t.run some=some x):t.run (fun x=>some (f x))=some (f x):=by
 induction t with
 | ret a=>simp only[Tree.run,Option.some.injEq] at h ⊢; rw[h]
 | fail=>cases h
 | ite b t e iht ihe=>simp only[Tree.run] at h ⊢; cases b; exact ihe h; exact iht h
 | bind m k ih=>simp only[Tree.run] at h ⊢; cases m with
  | none=>cases h
  | some x=>exact ih x h
abbrev PSt:=St×Option Pend
def z9n (E:Env) (s:PSt) (o:Oper):Bool:=match s.2 with
 | none=>!z1s E.app o.dst
 | some _=>z5y s.1 o
def oneP (E:Env) (cb:CB) (ops:List Oper) (s:PSt) (o:Oper):Option (PSt×Nat):=
 match z9n E s o with
 | true=>match one1 E cb ops s.1 o with
  | some (s',c)=>some ((s',s.2),c)
  | none=>none
 | false=>match o.guard with
  | some _=>none
  | none=>match s.2 with
   | none=>(appT E s.1 o).run fun q=>some ((q.1,some q.2),zdx s.1 o)
   | some p=>(zgv E s.1 o p).run fun s'=>some ((s',none),3)
theorem y0i {ops:List Oper} {st s1 s2:St} {y:Oper} {cy:Nat} (h:one1 E cb ops s1 y=some (s2,cy)) (h6:cy % 8=6) (ha:AgreeOn ops y s1 st) (ho:s1.objs=st.objs) (hr:s1.ro=st.ro) (hx:s1.fx=st.fx) (hf:s1.frm=st.frm):
  WrOk E cb ops st s1 s2 y cy:=by
 have hev:=z21 ha
 unfold WrOk
 unfold one1 at h ⊢
 rw[z5s ha]
 cases hg:z1a ops s1 y with
 | none=>rw[hg] at h; cases h
 | some bb=>
 cases bb with
 | false=>rw[hg] at h; simp only[Option.some.injEq,Prod.mk.injEq] at h; omega
 | true=>
 rw[hg] at h
 simp only at h ⊢
 obtain⟨hsl,h⟩:=z94 h (by omega)
 rw[z1w hsl]
 unfold z6u at h ⊢
 split at h
 case h_2=>
  exfalso
  split at h
  ·cases h
  ·rw[Tree.run_map] at h
   obtain⟨p,_,h2⟩:=Tree.run_some _ h
   simp only[Option.some.injEq,Prod.mk.injEq] at h2
   have:=zdh (E:=E) (ρ:=s1.ev) (o:=y) (os:=p.2)
   omega
 rename_i t ht
 rw[Tree.run_map] at h
 obtain⟨s3,h1,h2⟩:=Tree.run_some t h
 simp only[Option.some.injEq,Prod.mk.injEq] at h2
 obtain⟨rfl,rfl⟩:=h2
 obtain⟨c,f,g,s,x,L,W,hop,hc,hfl,hrf,hsg,hgi,hw⟩:=zpk h6
 have hops:=z6j (c:=c)
 have ef:s1.ev f=st.ev f:=hev f (by rw[hop]; exact hops.2 f hc)
 have eargs:c.args.toList.map s1.ev=c.args.toList.map st.ev:=List.map_congr_left fun z hz=>hev z (by rw[hop]; exact hops.1 z hz)
 have hw2:wcls E cb st.ev st.objs y=wcls E cb s1.ev s1.objs y:=by
  rw[hw]
  unfold wcls
  simp only[hop,hc,←ef,hfl,hrf,hsg,←eargs,←ho,hgi]
 unfold z57 at ht ⊢
 simp only[hop,hc,hfl,hrf,hsg,←ef] at ht ⊢
 split at ht
 case isFalse=>cases ht
 rename_i hm
 rw[if_pos hm]
 simp only[Option.some.injEq] at ht
 subst ht
 simp only
 rw[Tree.run_map,hw2,hw]
 unfold zrp at h1 ⊢
 rw[←eargs,←ho,←hr]
 rw[hgi] at h1 ⊢
 simp only at h1 ⊢
 split at h1
 case isFalse=>cases h1
 rename_i hcond
 rw[if_pos hcond]
 simp only[Tree.run] at h1 ⊢
 cases hy:s.fn x with
 | none=>rw[hy] at h1; cases h1
 | some z=>
 rw[hy] at h1
 simp only[Option.bind_some] at h1 ⊢
 split at h1
 ·cases h1
 rename_i st1 hk
 obtain⟨kf,hkl,rfl,hst⟩:=KL.killAll (hd:=false) (W:=W) W (fun _ h=>h) _ _ hk
 rw[hst st ho.symm hr.symm hx.symm]
 try simp only
 split at h1
 ·cases h1
 rename_i os hput
 have hput2:z19 L (st.mapS kf).objs s.ins z.2 (c.args.toList.map s1.ev)=some os:=by
  rw[show (st.mapS kf).objs=(s1.mapS kf).objs by simp only[St.mapS,ho]]; exact hput
 try simp only[hput2]
 simp only[Tree.run,Option.some.injEq] at h1 ⊢
 subst h1
 refine⟨kf,zcp (z0e L s.outs z.1 os.length).1,os++(z0e L s.outs z.1 os.length).2,s1.frm.map kf,by rw[show (6+8*z0c (z0k false W)) / 8=z0c (z0k false W) by omega]; exact hkl,rfl,by simp only[St.put,St.mapS,hf,hr],fun k cs hkW hkb=>?_,fun k cs hkW hkb=>?_,fun k e t xs d L' hkW hkb=>?_,fun h=>absurd (by omega) h⟩
 rotate_left
 ·have hkW:k∉W:=fun hm=>by
   rw[show (6+8*z0c (z0k false W)) / 8=z0c (z0k false W) by omega] at hkW
   exact z2a hkW (z1e hm).1
  by_cases hlt:k<os.length
  ·rw[z29 hlt,z2t s.ins hgi hkW hput] at hkb
   exact zk3 hkb
  ·exfalso
   have hl2:=z0o (os:=os++(z0e L s.outs z.1 os.length).2) (l:=k) (by rw[hkb]; simp)
   have he:obj (os++(z0e L s.outs z.1 os.length).2) k∈(z0e L s.outs z.1 os.length).2:=by
    rw[List.length_append] at hl2
    simp only[obj,List.getD,List.getElem?_append_right (show os.length≤k by omega),List.getElem?_eq_getElem (show k - os.length<(z0e L s.outs z.1 os.length).2.length by omega),Option.getD_some]
    exact List.getElem_mem _
   obtain⟨_,_,_,_,_,he2⟩:=z7g _ _ _ _ he
   rw[hkb] at he2; cases he2
 ·have hkW:k∉W:=fun hm=>by
   rcases hkW with hkW | ⟨hkW,_⟩
   ·rw[show (6+8*z0c (z0k false W)) / 8=z0c (z0k false W) by omega] at hkW
    exact z2a hkW (z1e hm).1
   ·omega
  have e1:obj (s1.mapS kf).objs k=.row e t xs d L':=(z7e (fun _=>rfl)).1 hkb
  have:=(z2t s.ins hgi hkW hput).trans e1
  rw[z29 (z0o (by rw[this]; simp)),this]
 have hkW:k∉W:=fun hm=>by
  rw[show (6+8*z0c (z0k false W)) / 8=z0c (z0k false W) by omega] at hkW
  have:=z2a hkW
  exact this (z1e hm).1
 have hkl2:k<s1.objs.length:=z0o (by rw[hkb]; simp)
 have e1:obj (s1.mapS kf).objs k=.box (cs.map kf):=by
  simp only[St.mapS,obj,List.getD,List.getElem?_map,List.getElem?_eq_getElem hkl2,Option.map_some,Option.getD_some] at hkb ⊢
  rw[hkb]; rfl
 have:=(z2t s.ins hgi hkW hput).trans e1
 rw[z29 (z0o (by rw[this]; simp)),this]
theorem zwj {ops:List Oper} {st s1 s2:St} {y:Oper} {cy:Nat} (h:one1 E cb ops s1 y=some (s2,cy)) (h7:cy % 8=7) (ha:AgreeOn ops y s1 st) (ho:s1.objs=st.objs) (hr:s1.ro=st.ro) (hx:s1.fx=st.fx) (hf:s1.frm=st.frm):
  WrOk E cb ops st s1 s2 y cy:=by
 have hev:=z21 ha
 have hgd:=z5s ha
 clear ha
 obtain⟨r1,os1,ro1,fx1,fm1⟩:=s1
 obtain⟨r2,os2,ro2,fx2,fm2⟩:=st
 simp only at ho hr hx hf
 subst ho hr hx hf
 unfold WrOk
 unfold one1 at h ⊢
 rw[hgd]
 cases hg:z1a ops _ y with
 | none=>rw[hg] at h; cases h
 | some bb=>
 cases bb with
 | false=>rw[hg] at h; simp only[Option.some.injEq,Prod.mk.injEq] at h; omega
 | true=>
 rw[hg] at h
 simp only at h ⊢
 cases hsl:z1g E y with
 | some l=>
  unfold step at h ⊢
  rw[hsl] at h ⊢
  simp only at h ⊢
  rw[Tree.run_map] at h
  obtain⟨s3,h1,h2⟩:=Tree.run_some _ h
  simp only[Option.some.injEq,Prod.mk.injEq] at h2
  obtain⟨rfl,rfl⟩:=h2
  obtain⟨d,hd,_,hfo⟩:=z5u hsl
  obtain⟨ob,hso,hob,hc,hfrz,rfl,hv⟩:=zjy hfo h1
  have hlt:l<os1.length:=by simp only[Bool.and_eq_true] at hc; simpa using hc.1
  have e8:(7+8*z0c (z0k true [l])) / 8=z0c (z0k true [l]):=by omega
  have hno:∀ k,((7+8*z0c (z0k true [l])) / 8).testBit (2*k+1)=false→k≠l:=fun k hkW hm=>by
   rw[e8] at hkW
   exact z2a hkW (z1e (by simp[hm])).1
  have hno2:∀ k,((7+8*z0c (z0k true [l])) / 8).testBit (2*k+2)=false→k≠l:=fun k hkW hm=>by
   rw[e8] at hkW
   exact z2a hkW ((z1e (by simp[hm])).2 rfl)
  have hmap:∀ (r:List SV),r.map (SV.mapL id)=r:=fun r=>by
   have:SV.mapL id=id:=by funext v; cases v<;>simp[SV.mapL]
   rw[this,List.map_id]
  have hft:∀ (s:St),s.objs=os1→s.ro=ro1→s.fx=fx1→(∀ z∈y.op.operands.toList,s.ev z=St.ev ⟨r1,os1,ro1,fx1,fm1⟩ z)→(zrf E cb s y l).run some=some (({ s with objs:=os1.set l ob }:St).put y.dst (z0m ob l)):=by
   intro s q1 q2 q3 q4
   refine zre hso (by rw[q1]; exact hob) (by rw[q1,q2,q3]; exact hc) (fun z hz=>by rw[q4 z hz]; exact hfrz z hz) ?_ q1
   rw[z71 q4]; exact hv
  refine⟨id,z0m ob l,os1.set l ob,fm1,by rw[e8]; exact Kl.id _,?_,?_,fun k cs hkW hkb=>?_,fun k cs hkW hkb=>?_,fun k e0 t0 x0 d0 L0 hkW hkb=>?_,fun _ k e0 t0 x0 d0 L0 hkW hkb=>?_⟩
  ·cases y.dst<;>simp only[St.put,z04,hmap]
  ·rw[Tree.run_map]
   have:=hft ⟨r2,os1,ro1,fx1,fm1⟩ rfl rfl rfl (fun z hz=>(hev z hz).symm)
   obtain⟨x0,hx0⟩:∃ x0,(zrf E cb ⟨r2,os1,ro1,fx1,fm1⟩ y l).run some=some x0:=⟨_,this⟩
   rw[Tree.run_then _ _ this]
   cases y.dst<;>simp only[St.put,z04,hmap]
  ·rw[z01 (hno k hkW),hkb]; simp
  ·rw[z01 (hno k hkW)] at hkb
   exact⟨cs,hkb⟩
  ·have hkl:k≠l:=fun e=>by rw[e,hob] at hkb; cases hkb
   rw[z01 hkl]; exact hkb
  ·have hkl:k≠l:=hkW.elim (hno k) (hno2 k)
   rw[z01 hkl] at hkb; exact hkb
 | none=>
 rw[z1w hsl] at h ⊢
 unfold z6u at h ⊢
 split at h
 case h_2=>
  exfalso
  split at h
  ·cases h
  ·rw[Tree.run_map] at h
   obtain⟨p,_,h2⟩:=Tree.run_some _ h
   simp only[Option.some.injEq,Prod.mk.injEq] at h2
   have:=zdh (E:=E) (ρ:=St.ev ⟨r1,os1,ro1,fx1,fm1⟩) (o:=y) (os:=p.2)
   omega
 rename_i t ht
 rw[Tree.run_map] at h
 obtain⟨s3,h1,h2⟩:=Tree.run_some t h
 simp only[Option.some.injEq,Prod.mk.injEq] at h2
 obtain⟨rfl,rfl⟩:=h2
 rcases zui h7 with ⟨tt,n,parts,e,ti,td,xs,m,M,hop,htt,htd,hte,hps,hw⟩ | ⟨c,so,xo,l,hop,hc,hargs,hl,hw⟩
 ·
  have hpe:parts.toList.map (fun p=>(p.1,St.ev ⟨r2,os1,ro1,fx1,fm1⟩ p.2))=parts.toList.map (fun p=>(p.1,St.ev ⟨r1,os1,ro1,fx1,fm1⟩ p.2)):=by
   refine List.map_congr_left fun p hp=>?_
   rw[hev p.2 (by rw[hop]; simp only[Op.operands,Array.toList_map]; exact List.mem_map.2 ⟨p,hp,rfl⟩)]
  have hw2:wcls E cb (St.ev ⟨r2,os1,ro1,fx1,fm1⟩) os1 y=wcls E cb (St.ev ⟨r1,os1,ro1,fx1,fm1⟩) os1 y:=by
   unfold wcls
   simp only[hop,hpe]
  obtain⟨td',ty',ag',by'⟩:=td
  obtain rfl:td'=.slice e:=htd
  unfold z57 at ht ⊢
  simp only[hop,htt,hte,hps,hpe] at ht ⊢
  split at ht
  case isTrue=>cases ht
  rename_i hcond
  rw[if_neg hcond]
  simp only[Option.some.injEq] at ht
  subst ht
  simp only
  rw[Tree.run_map,hw2,hw]
  split at h1
  case isFalse=>cases h1
  rename_i hcond2
  rw[if_pos hcond2]
  split at h1
  case h_2=>cases h1
  rename_i s4 hmv
  obtain⟨kf,hkl,rfl,hst⟩:=KL.move (W:=m::M++[os1.length]) (M:=m::M) (l:=os1.length) (fun k hk=>List.mem_append_left _ hk) (by simp) _ _ hmv
  have hst2:=hst ⟨r2,os1++[AObj.row e ti.ty [] true []],ro1,fx1,fm1⟩ rfl rfl rfl
  simp only at hst2
  rw[hst2]
  simp only[Tree.run,Option.some.injEq] at h1 ⊢
  subst h1
  have e8:(7+8*z0c (z0k true (m::M++[os1.length]))) / 8=z0c (z0k true (m::M++[os1.length])):=by omega
  have hno:∀ k,((7+8*z0c (z0k true (m::M++[os1.length]))) / 8).testBit (2*k+1)=false→k∉m::M++[os1.length]:=fun k hkW hm=>by
   rw[e8] at hkW
   exact z2a hkW (z1e hm).1
  have hno2:∀ k,((7+8*z0c (z0k true (m::M++[os1.length]))) / 8).testBit (2*k+2)=false→k∉m::M++[os1.length]:=fun k hkW hm=>by
   rw[e8] at hkW
   exact z2a hkW ((z1e hm).2 rfl)
  refine⟨kf,_,_,fm1.map kf,by rw[e8]; exact hkl,rfl,by simp only[St.put,St.mapS],fun k cs hkW hkb=>?_,fun k cs hkW hkb=>?_,fun k e0 t0 x0 d0 L0 hkW hkb=>?_,fun _ k e0 t0 x0 d0 L0 hkW hkb=>?_⟩
  rotate_left 2
  ·replace hkW:k∉m::M++[os1.length]:=hkW.elim (hno k) fun h=>hno2 k h.2
   simp only[List.mem_append,not_or,List.mem_singleton] at hkW
   rw[z01 hkW.2,z4t _ _ hkW.1]
   simp only[St.mapS]
   refine (z7e (fun _=>rfl)).1 ?_
   rw[z29 (z0o (by rw[hkb]; simp))]
   exact hkb
  ·replace hkW:k∉m::M++[os1.length]:=hkW.elim (hno k) (hno2 k)
   simp only[List.mem_append,not_or,List.mem_singleton] at hkW
   rw[z01 hkW.2,z4t _ _ hkW.1] at hkb
   simp only[St.mapS] at hkb
   have hds:=(z7e (f:=kf) (fun _=>rfl)).2 hkb
   by_cases hlt:k<os1.length
   ·rw[z29 hlt] at hds; exact hds
   ·exfalso
    rw[show obj (os1++[AObj.row e ti.ty [] true []]) k=.dead by simp[obj,List.getD,List.getElem?_append,hlt,show ¬k - os1.length=0 by omega]] at hds
    cases hds
  all_goals replace hkW:=hno k hkW
  all_goals simp only[List.mem_append,not_or,List.mem_singleton] at hkW
  ·rw[z01 hkW.2,z4t _ _ hkW.1]
   simp only[St.mapS]
   refine zpe ?_
   rw[z29 (z0o (by rw[hkb]; simp))]
   exact hkb
  ·rw[z01 hkW.2,z4t _ _ hkW.1] at hkb
   simp only[St.mapS] at hkb
   obtain⟨ds,hds⟩:=zk3 hkb
   by_cases hlt:k<os1.length
   ·exact⟨ds,by rw[z29 hlt] at hds; exact hds⟩
   ·exfalso
    rw[show obj (os1++[AObj.row e ti.ty [] true []]) k=.dead by simp[obj,List.getD,List.getElem?_append,hlt,show ¬k - os1.length=0 by omega]] at hds
    cases hds
 ·
  have e1:St.ev ⟨r1,os1,ro1,fx1,fm1⟩ so=St.ev ⟨r2,os1,ro1,fx1,fm1⟩ so:=hev so (by rw[hop]; exact (z6j (c:=c)).1 so (by rw[hargs]; simp))
  have e2:St.ev ⟨r1,os1,ro1,fx1,fm1⟩ xo=St.ev ⟨r2,os1,ro1,fx1,fm1⟩ xo:=hev xo (by rw[hop]; exact (z6j (c:=c)).1 xo (by rw[hargs]; simp))
  have hw2:wcls E cb (St.ev ⟨r2,os1,ro1,fx1,fm1⟩) os1 y=wcls E cb (St.ev ⟨r1,os1,ro1,fx1,fm1⟩) os1 y:=by
   unfold wcls
   simp only[hop,hc,hargs,←e1,←e2,hl]
  unfold z57 at ht ⊢
  simp only[hop,hc,Option.some.injEq] at ht ⊢
  subst ht
  rw[Tree.run_map,hw2,hw]
  rw[hw] at h7
  simp only[hargs] at h1 ⊢
  split at h1
  case h_2=>cases h1
  rename_i so' xo' t u hso hT
  simp only[List.cons.injEq,and_true] at hso
  obtain⟨rfl,rfl⟩:=hso
  try simp only[hT]
  split at h1
  case isFalse=>cases h1
  rename_i htu
  rw[if_pos htu]
  split at h1
  case h_2=>cases h1
  rename_i e _ _ _ htt
  try simp only[htt]
  split at h1
  case h_2=>cases h1
  rename_i ti hte
  try simp only[hte]
  simp only[←e1,←e2,hl] at h1 ⊢
  generalize (St.ev ⟨r1,os1,ro1,fx1,fm1⟩ xo).leaf=x at h1 h7 ⊢
  unfold zdi at h1 ⊢
  split at h1
  ·cases h1
  rename_i hro
  rw[if_neg hro]
  unfold zmc at h7 ⊢
  split at h1
  case h_2=>cases h1
  rename_i e' t' ys deep L hob
  simp only[hob] at h7 ⊢
  split at h1
  case isFalse=>cases h1
  rename_i hcc
  rw[if_pos hcc]
  split at h1
  case h_1=>cases h1
  rename_i zs M hsd
  try simp only[hsd]
  simp only[Tree.need,Tree.run] at h1 ⊢
  split at h1
  case isFalse=>cases h1
  rename_i hlen
  rw[if_pos hlen]
  have fin:∀ {W:List Nat} {kf:Leaf→Leaf} {n7:Nat} {o2:Objs→Objs} {out:SV},n7=7+8*z0c (z0k true W)→Kl (z0c (z0k true W)) kf→l∈W→(∀ (os:Objs) k,k∉W→obj (o2 os) k=obj os k) →
    ∃ f out' os fm,Kl (n7 / 8) f∧({ (St.mk r1 os1 ro1 fx1 fm1).mapS kf with objs:=o2 ((St.mk r1 os1 ro1 fx1 fm1).mapS kf).objs }:St).put y.dst out=St.mk (z04 (r1.map (SV.mapL f)) y.dst out') os ro1 fx1 fm ∧
     (({ (St.mk r2 os1 ro1 fx1 fm1).mapS kf with objs:=o2 ((St.mk r1 os1 ro1 fx1 fm1).mapS kf).objs }:St).put y.dst out,n7)=(St.mk (z04 (r2.map (SV.mapL f)) y.dst out') os ro1 fx1 fm,n7) ∧
     (∀ k cs,(n7 / 8).testBit (2*k+1)=false→obj os1 k=.box cs→obj os k=.box (cs.map f))∧(∀ k cs,(n7 / 8).testBit (2*k+1)=false→obj os k=.box cs→∃ ds,obj os1 k=.box ds) ∧
     (∀ k e t xs d L,((n7 / 8).testBit (2*k+1)=false∨(n7 % 8≠6∧(n7 / 8).testBit (2*k+2)=false))→obj os1 k=.row e t xs d L→obj os k=.row e t xs d L) ∧
     (n7 % 8≠6→∀ k e t xs d L,((n7 / 8).testBit (2*k+1)=false∨(n7 / 8).testBit (2*k+2)=false)→obj os k=.row e t xs d L→obj os1 k=.row e t xs d L):=by
   rintro W kf n7 o2 out rfl hkl hlW ho2
   have e8:(7+8*z0c (z0k true W)) / 8=z0c (z0k true W):=by omega
   have hno3:∀ k,((7+8*z0c (z0k true W)) / 8).testBit (2*k+1)=false→k∉W:=fun k hkW hm=>by
    rw[e8] at hkW
    exact z2a hkW (z1e hm).1
   have hno4:∀ k,((7+8*z0c (z0k true W)) / 8).testBit (2*k+2)=false→k∉W:=fun k hkW hm=>by
    rw[e8] at hkW
    exact z2a hkW ((z1e hm).2 rfl)
   refine⟨kf,out,_,fm1.map kf,by rw[e8]; exact hkl,rfl,by simp only[St.put,St.mapS],fun k cs hkW hkb=>?_,fun k cs hkW hkb=>?_,fun k e0 t0 x0 d0 L0 hkW hkb=>?_,fun _ k e0 t0 x0 d0 L0 hkW hkb=>?_⟩
   rotate_left 2
   ·rw[ho2 _ k (hkW.elim (hno3 k) fun h=>hno4 k h.2)]
    exact (z7e (fun _=>rfl)).1 hkb
   ·rw[ho2 _ k (hkW.elim (hno3 k) (hno4 k))] at hkb
    exact (z7e (f:=kf) (fun _=>rfl)).2 hkb
   ·rw[e8] at hkW
    rw[ho2 _ k fun hm=>z2a hkW (z1e hm).1]
    exact zpe hkb
   ·rw[e8] at hkW
    rw[ho2 _ k fun hm=>z2a hkW (z1e hm).1] at hkb
    exact zk3 hkb
  split at h1
  ·rename_i hflat
   simp only[if_pos hflat] at h7 ⊢
   split at h1
   ·cases h1
   rename_i hM
   rw[if_neg hM]
   split at h1
   case h_2=>cases h1
   rename_i s4 hk
   obtain⟨kf,hkl,rfl,hst⟩:=KL.kill (hd:=true) (W:=[l]) (l:=l) (by simp) _ _ hk
   rw[hst ⟨r2,os1,ro1,fx1,fm1⟩ rfl rfl rfl]
   simp only[Tree.run,Option.some.injEq] at h1 ⊢
   subst h1
   have:=fin (o2:=fun os=>os.set l (.row e t' (ys++zs) deep L)) (out:=.one (.own l)) (n7:=7+8*z0c (z0k true [l])) rfl hkl (by simp) (fun os k hk=>z01 (by simpa using hk))
   exact this
  ·rename_i hflat
   simp only[if_neg hflat] at h7 ⊢
   split at h1
   ·
    split at h1
    case h_2=>cases h1
    rename_i s4 hk
    obtain⟨kf,hkl,rfl,hst⟩:=KL.kill (hd:=true) (W:=[l]) (l:=l) (by simp) _ _ hk
    try simp only
    rw[hst ⟨r2,os1,ro1,fx1,fm1⟩ rfl rfl rfl]
    simp only[Tree.run,Option.some.injEq] at h1 ⊢
    subst h1
    have:=fin (o2:=fun os=>os.set l (.row e t' (ys++zs) true L)) (out:=.one (.own l)) (n7:=7+8*z0c (z0k true [l])) rfl hkl (by simp) (fun os k hk=>z01 (by simpa using hk))
    exact this
   ·
    rename_i m
    try simp only at h7 ⊢
    split at h1
    ·rename_i e2 t2 _ _ hom
     simp only[hom] at h7 ⊢
     split at h1
     ·rename_i hcond
      simp only[if_pos hcond] at h7 ⊢
      split at h1
      case h_2=>cases h1
      rename_i s4 hmv
      obtain⟨kf,hkl,rfl,hst⟩:=KL.move (W:=[m,l]) (M:=[m]) (l:=l) (by simp) (by simp) _ _ hmv
      have hst2:=hst ⟨r2,os1,ro1,fx1,fm1⟩ rfl rfl rfl
      simp only at hst2
      rw[hst2]
      simp only[Tree.run,Option.some.injEq] at h1 ⊢
      subst h1
      have:=fin (o2:=fun os=>(z0n [m] os).set l (.row e t' (ys++zs) true L)) (out:=.one (.own l)) (n7:=7+8*z0c (z0k true [m,l])) rfl hkl (by simp) (fun os k hk=>by
       simp only[List.mem_cons,not_or,List.not_mem_nil,or_false] at hk
       rw[z01 hk.2,z4t _ _ (by simpa using hk.1)])
      exact this
     ·rename_i hcond
      rw[if_neg hcond] at h7
      omega
    ·exfalso
     first | (simp_all; done) | (simp_all; omega)
   ·exfalso
    first | (simp_all; done) | (simp_all; omega)
theorem y6x {ops:List Oper} {st s1 s2:St} {y:Oper} {cy:Nat} (h:one1 E cb ops s1 y=some (s2,cy)) (h5:cy % 8=5) (ha:AgreeOn ops y s1 st) (ho:s1.objs=st.objs) (hr:s1.ro=st.ro) (hx:s1.fx=st.fx) (hf:s1.frm=st.frm):
  WrOk E cb ops st s1 s2 y cy:=by
 obtain⟨hd,l,os,fm,hcy,rfl,h2,h3,h4,h5'⟩:=zyp h h5 ha ho hr hf
 have e1:(SV.kill false l)=SV.mapL (Leaf.kill false l):=by funext v; exact z6y v
 have e8:cy / 8=z0c (z0k false [l]):=by omega
 refine⟨Leaf.kill false l,.one .undef,os,fm,by rw[e8]; exact Kl.kill (by simp),by rw[hd,←e1]; rfl,by rw[h2,hd,←e1]; rfl,fun k cs hk hkb=>h3 k cs ?_ hkb,fun k cs hk hkb=>h4 k cs ?_ hkb,fun k e t xs d L _ hk=>(h5' k e t xs d L).1 hk,fun _ k e t xs d L _ hk=>(h5' k e t xs d L).2 hk⟩
 all_goals rintro rfl
 all_goals rw[e8] at hk
 all_goals exact z2a hk (z1e (by simp)).1
theorem zvt {ops:List Oper} {st s1 s2:St} {y:Oper} {cy:Nat} (h:one1 E cb ops s1 y=some (s2,cy)) (h5:cy % 8=5∨cy % 8=6∨cy % 8=7) (ha:AgreeOn ops y s1 st) (ho:s1.objs=st.objs) (hr:s1.ro=st.ro) (hx:s1.fx=st.fx) (hf:s1.frm=st.frm):
  WrOk E cb ops st s1 s2 y cy:=by
 rcases h5 with h5 | h5 | h5
 ·exact y6x h h5 ha ho hr hx hf
 ·exact y0i h h5 ha ho hr hx hf
 ·exact zwj h h5 ha ho hr hx hf
theorem zii {ops:List Oper} {st s1:St} {x:Oper} {cx:Nat} (h:one1 E cb ops st x=some (s1,cx)) (hc:cx % 8≤1) (hk:cx / 8≠0):
  (∀ z∈x.op.operands.toList,(st.ev z).firm=true∧∀ k∈(st.ev z).code,(cx / 8).testBit (k+1)=true)∧∃ v,s1=eff st x v []∧(v.firm=true∧∀ k∈v.code,(cx / 8).testBit (k+1)=true)∧(cx % 8=1→(∃ t a l off ti,x.op=.load t a∧(st.ev a).leaf=.ptr l off∧tyOf E t=some ti∧z1k st.objs ti (.ptr l off)=some v∧(cx / 8).testBit (2*l+1)=true) ∨
   (∃ p e t xs d L,z3m st.ev x=some p∧(cx / 8).testBit (z3g p+1)=true∧(p.2.1=true→isIx x=true)∧obj st.objs p.1=.row e t xs d L∧(z0l E cb st.ev st.objs x).run some=some (v,[])∧clsV E st.ev x []=1)) ∧
  z57 E cb st x=none∧(z1t E st.ev x&&!Nat.beq st.fx 0)=false∧(cx % 8=1→∃ p,z3m st.ev x=some p∧((cx / 8) % 2=1→p.2.2=true)):=by
 unfold one1 at h
 split at h
 ·rename_i hg
  obtain⟨_,h⟩:=z94 h (by omega)
  unfold z6u at h
  split at h
  ·rename_i t ht
   rw[Tree.run_map] at h
   obtain⟨s,_,h2⟩:=Tree.run_some t h
   simp only[Option.some.injEq,Prod.mk.injEq] at h2
   have:=zns E cb st.ev st.objs x
   omega
  ·rename_i hWn
   split at h
   ·cases h
   rename_i hhn
   rw[Tree.run_map] at h
   obtain⟨⟨v,new⟩,h1,h2⟩:=Tree.run_some _ h
   simp only[Option.some.injEq,Prod.mk.injEq] at h2
   obtain⟨rfl,rfl⟩:=h2
   have hle2:=zdh (E:=E) (ρ:=st.ev) (o:=x) (os:=new)
   have hmod:(clsV E st.ev x new+8*mkS st x v (clsV E st.ev x new)) % 8=clsV E st.ev x new:=by omega
   have hdiv:(clsV E st.ev x new+8*mkS st x v (clsV E st.ev x new)) / 8=mkS st x v (clsV E st.ev x new):=by omega
   rw[hmod] at hc ⊢
   rw[hdiv] at hk
   have hnew:=(z82 h1 hc).1
   subst hnew
   rw[hdiv]
   have hc2:clsV E st.ev x []≠2:=by omega
   have hms:mkS st x v (clsV E st.ev x [])=mkV st.ev x v (clsV E st.ev x []):=by unfold mkS; rw[if_neg (by simpa using hc2)]
   rw[hms] at hk ⊢
   unfold mkV at hk ⊢
   split at hk
   case isFalse=>exact absurd rfl hk
   rename_i hcond
   rw[if_pos hcond]
   simp only[Bool.and_eq_true,List.all_eq_true] at hcond
   obtain⟨q2,q3⟩:=hcond
   have hon:(∀ z∈x.op.operands.toList,∀ k∈(st.ev z).code,k∈zeq st.ev x v)∧∀ k∈v.code,k∈zeq st.ev x v:=by
    unfold zeq
    exact⟨fun z hz k hk=>List.mem_append_right _ (List.mem_flatMap.2 ⟨z,hz,hk⟩),fun k hk=>List.mem_append_left _ hk⟩
   rcases Nat.lt_or_ge 0 (clsV E st.ev x []) with h1c | h0c
   ·have h1c:clsV E st.ev x []=1:=by omega
    rw[h1c] at hk ⊢
    simp only at hk ⊢
    split at hk
    case h_2=>exact absurd rfl hk
    rename_i p hp
    simp only[hp]
    have hbit:∀ k∈zeq st.ev x v,((if p.2.2 then 1 else 0) ||| z0c (z3g p::zeq st.ev x v)).testBit (k+1)=true:=fun k hk'=>by
     rw[Nat.testBit_or,show (z0c (z3g p::zeq st.ev x v)).testBit (k+1)=true from z7i (.inr (by simp[hk'])),Bool.or_true]
    refine⟨fun z hz=>⟨q2 z hz,fun k hk'=>hbit k (hon.1 z hz k hk')⟩,v,rfl,⟨q3,fun k hk'=>hbit k (hon.2 k hk')⟩,fun _=>?_,hWn,by simpa using hhn,fun _=>⟨p,rfl,fun h2=>?_⟩⟩
    rotate_left
    ·cases hp2:p.2.2 with
     | true=>rfl
     | false=>
      exfalso
      rw[hp2] at h2
      simp only[Bool.false_eq_true,if_false,Nat.zero_or] at h2
      have:=zx8 (z3g p::zeq st.ev x v)
      omega
    rcases zgz hp h1 with ⟨t,a,l,off,ti,v',r1,r2,r3,r4,rfl,r6⟩ | ⟨⟨e,t,xs,d,L,r1⟩,r2,_,r3,_⟩
    ·simp only[Prod.mk.injEq,and_true] at r6
     subst r6
     exact .inl ⟨t,a,l,off,ti,r1,r2,r3,r4,zon (p:=(l,false,true))⟩
    ·exact .inr ⟨p,e,t,xs,d,L,rfl,zon,r2,r1,h1,trivial⟩
   ·have h0c:clsV E st.ev x []=0:=by omega
    rw[h0c] at hk ⊢
    simp only at hk ⊢
    have hbit:∀ k∈zeq st.ev x v,(1 ||| z0c (zeq st.ev x v)).testBit (k+1)=true:=fun k hk'=>by
     rw[Nat.testBit_or,show (z0c (zeq st.ev x v)).testBit (k+1)=true from z7i (.inr hk')]; simp
    exact⟨fun z hz=>⟨q2 z hz,fun k hk'=>hbit k (hon.1 z hz k hk')⟩,v,rfl,⟨q3,fun k hk'=>hbit k (hon.2 k hk')⟩,fun h=>by omega,hWn,by simpa using hhn,fun h=>by omega⟩
 ·simp only[Option.some.injEq,Prod.mk.injEq] at h
  omega
 ·cases h
theorem zad {x y:Oper} (h3:z3o x.dst.toList y.dst=false) (regs:List SV) (p q:SV):z04 (z04 regs y.dst p) x.dst q=z04 (z04 regs x.dst q) y.dst p:=by
 cases hxd:x.dst with
 | none=>rfl
 | some d=>
  cases hyd:y.dst with
  | none=>rfl
  | some e=>
   have hne:e≠d:=fun e'=>by
    rw[hxd,hyd,e'] at h3
    simp[z3o,has] at h3
   simp[z04,List.set_comm _ _ hne]
theorem zmi:∀ (a b:St),a.regs=b.regs→a.objs=b.objs→a.ro=b.ro→a.fx=b.fx→a.frm=b.frm→a=b:=by
 intro a b h1 h2 h3 h4 h5
 cases a; cases b; simp_all
theorem z32 {a b:Nat} (h:a &&& b=0) {k:Nat} (ha:a.testBit k=true):b.testBit k=false:=by
 have:=congrArg (fun n=>n.testBit k) h
 simp only[Nat.testBit_and,ha,Bool.true_and,Nat.zero_testBit] at this
 exact this
theorem zqq {ops:List Oper} {x:Oper} {st:St} {P:SV→Prop} (hgd:x.guard=none) (h:∀ z∈x.op.operands.toList,P (st.ev z)) {t:Tmp} (ht:t∈z16 ops x):P (st.reg t):=by
 unfold z16 at ht
 rw[hgd] at ht
 simp only[List.append_nil] at ht
 obtain⟨z,hz,hzt⟩:=List.mem_filterMap.1 ht
 cases z<;>simp only[Option.some.injEq] at hzt<;>try (cases hzt; done)
 subst hzt
 exact h _ hz
theorem z3s {regs:List SV} {d:Option Tmp} {out:SV} {t:Tmp} (h:d≠some t):(z04 regs d out).getD t (.one .undef)=regs.getD t (.one .undef):=by
 cases d with
 | none=>rfl
 | some e=>
  have hne:e≠t:=fun e'=>h (by rw[e'])
  simp[z04,List.getD,List.getElem?_set_ne hne]
theorem zob {regs:List SV} {f:Leaf→Leaf} {t:Tmp} {m:Nat} (hk:Kl m f):(regs.map (SV.mapL f)).getD t (.one .undef)=((regs.getD t (.one .undef)).mapL f)∨(t≥regs.length):=by
 by_cases ht:t<regs.length
 ·left; simp[List.getD,List.getElem?_map,List.getElem?_eq_getElem ht]
 ·exact .inr (Nat.le_of_not_lt ht)
theorem y02 {os os':Objs} {f:Leaf→Leaf} {ti:TI} {l off:Nat} {v:SV} (hb:∀ cs,obj os l=.box cs→obj os' l=.box (cs.map f)) (hs:v.mapL f=v) (h:z1k os ti (.ptr l off)=some v):z1k os' ti (.ptr l off)=some v:=by
 simp only[z1k] at h ⊢
 split at h
 case h_2=>cases h
 rename_i cs hob
 rw[hb cs hob]
 simp only
 have e:((cs.map f).drop off).take ti.ty.size=((cs.drop off).take ti.ty.size).map f:=by rw[←List.map_drop,←List.map_take]
 rw[e]
 split at h
 case isFalse=>cases h
 rename_i hlen
 rw[if_pos (by simpa using hlen)]
 split at h
 ·rename_i hag
  rw[if_pos hag]
  simp only[Option.some.injEq] at h
  subst h
  rw[show SV.agg (((cs.drop off).take ti.ty.size).map f)=(SV.agg ((cs.drop off).take ti.ty.size)).mapL f from rfl,hs]
 ·rename_i hag
  rw[if_neg hag]
  split at h
  ·rename_i c hc
   simp only[Option.some.injEq] at h
   subst h
   rw[hc]
   show some (SV.one (f c))=_
   rw[show SV.one (f c)=(SV.one c).mapL f from rfl,hs]
  ·cases h
theorem zhj {ops:List Oper} {x:Oper} (hgd:x.guard=none) {t:TypeId} {a:Operand} (hop:x.op=.load t a) {ti:TI} (hti:tyOf E t=some ti) {l off:Nat} (s:St) (u:SV) (h1:(s.ev a).leaf=.ptr l off) (h2:z1k s.objs ti (.ptr l off)=some u):
  one1 E cb ops s x=some (eff s x u [],1+8*mkS s x u 1):=by
 unfold one1 z1a
 simp only[hgd]
 rw[z1w (zgd (by simp[z41,hop]))]
 unfold z6u z57 z1t
 simp only[hop,z0l,hti,h1,h2,ret1,Tree.map,Tree.run,clsV,Bool.false_and,Bool.false_eq_true,if_false,Leaf.free]
 rfl
theorem zju {ops:List Oper} {x:Oper} (hgd:x.guard=none) (s:St) {u:SV} (hsl:z1g E x=none) (hW:z57 E cb s x=none) (hh:(z1t E s.ev x&&!Nat.beq s.fx 0)=false) (h1:(z0l E cb s.ev s.objs x).run some=some (u,[])) (hc:clsV E s.ev x []=1):
  one1 E cb ops s x=some (eff s x u [],1+8*mkS s x u 1):=by
 unfold one1 z1a
 simp only[hgd]
 rw[z1w hsl]
 unfold z6u
 rw[hW]
 simp only[hh,Bool.false_eq_true,if_false]
 rw[Tree.run_map]
 have:∀ {α β:Type} (t:Tree α) (f:α→β) {x:α},t.run some=some x→t.run (fun x=>some (f x))=some (f x):=by
  intro α β t f x
  induction t with
  | ret a=>intro h; simp only[Tree.run,Option.some.injEq] at h ⊢; rw[h]
  | fail=>intro h; cases h
  | ite b t e iht ihe=>intro h; simp only[Tree.run] at h ⊢; cases b; exact ihe h; exact iht h
  | bind m k ih=>intro h; simp only[Tree.run] at h ⊢; cases m with
   | none=>cases h
   | some x=>exact ih x h
 rw[this _ _ h1]
 simp only[hc]
 rfl
theorem zz1 {ops:List Oper} {st s1:St} {x y:Oper} {cx cy:Nat} {v:SV} {f:Leaf→Leaf} {out:SV} {os:Objs} {fm:List Leaf} (hx:one1 E cb ops st x=some (s1,cx)) (h6:cx % 8=5∨cx % 8=6∨cx % 8=7) (hs1:s1={ st with regs:=z04 (st.regs.map (SV.mapL f)) x.dst out,objs:=os,frm:=fm })
  (h2:z3o (z16 ops x) y.dst=false) (h3:z3o x.dst.toList y.dst=false) (hv:v.firm=true∧∀ k∈v.code,(cy / 8).testBit (k+1)=true) (hdis:(cy / 8) &&& (cx / 8)=0):
  one1 E cb ops (eff st y v []) x=some (eff s1 y v [],cx):=by
 obtain⟨f',out',os',fm',hkl',hs',hx',_⟩:=zvt (st:=eff st y v []) hx h6 (z4g h2).symm (by simp[eff]) rfl rfl rfl
 rw[hx']
 have hfv:v.mapL f'=v:=zax hkl' hv.1 fun k hk'=>z32 hdis (hv.2 k hk')
 congr 2
 rw[hs']
 refine zmi _ _ ?_ (by simp[eff]) rfl rfl rfl
 show z04 ((z04 st.regs y.dst v).map _) x.dst out'=z04 (z04 (st.regs.map _) x.dst out') y.dst v
 rw[←zad h3]
 congr 1
 cases y.dst with
 | none=>rfl
 | some d=>simp[z04,List.map_set,hfv]
theorem zu3 {ops:List Oper} {st s1:St} {x:Oper} {cx my:Nat} {f:Leaf→Leaf} {out:SV} {os:Objs} {fm:List Leaf} {yd:Option Tmp} (hx:one1 E cb ops st x=some (s1,cx)) (hkl:Kl my f) (hbox:∀ k cs,my.testBit (2*k+1)=false→obj st.objs k=.box cs→obj os k=.box (cs.map f))
  (hrow:∀ p e t xs d L,z3m st.ev x=some p→(cx / 8).testBit (z3g p+1)=true→(p.2.1=true→isIx x=true)→cx % 8=1→obj st.objs p.1=.row e t xs d L→z0l E cb st.ev os x=z0l E cb st.ev st.objs x)
  (hgd:x.guard=none) (hc:cx % 8≤1) (hk:cx / 8≠0) (hdis:(cx / 8) &&& my=0) (h2:z3o (z16 ops x) yd=false) (h3:∀ (regs:List SV) (p q:SV),z04 (z04 regs yd p) x.dst q=z04 (z04 regs x.dst q) yd p):
  ∃ v,s1=eff st x v []∧one1 E cb ops { st with regs:=z04 (st.regs.map (SV.mapL f)) yd out,objs:=os,frm:=fm } x=some ({ eff st x v [] with regs:=z04 ((eff st x v []).regs.map (SV.mapL f)) yd out,objs:=os,frm:=fm },cx) ∧
   (∀ z∈x.op.operands.toList,st.ev z=St.ev { st with regs:=z04 (st.regs.map (SV.mapL f)) yd out,objs:=os,frm:=fm } z)∧v.mapL f=v:=by
 obtain⟨hsol,v,rfl,hv,hld,hWx,hhx,_⟩:=zii hx hc hk
 have hfv:v.mapL f=v:=zax hkl hv.1 fun k hk'=>z32 hdis (hv.2 k hk')
 have hmap:(z04 st.regs x.dst v).map (SV.mapL f)=z04 (st.regs.map (SV.mapL f)) x.dst v:=by
  cases x.dst with
  | none=>rfl
  | some d=>simp[z04,List.map_set,hfv]
 have hag:AgreeOn ops x st { st with regs:=z04 (st.regs.map (SV.mapL f)) yd out,objs:=os,frm:=fm }:=by
  intro t ht
  have hst:=zqq (P:=fun u=>u.firm=true∧∀ k∈u.code,(cx / 8).testBit (k+1)=true) hgd hsol ht
  show (z04 (st.regs.map (SV.mapL f)) yd out).getD t _=st.regs.getD t _
  rw[z3s (z3n h2 t ht)]
  rcases zob (regs:=st.regs) (t:=t) hkl with e | e
  ·rw[e]
   exact zax hkl hst.1 fun k hk'=>z32 hdis (hst.2 k hk')
  ·simp[List.getD,List.getElem?_eq_none e]
 have hev:=z21 hag
 have hfin:eff { st with regs:=z04 (st.regs.map (SV.mapL f)) yd out,objs:=os,frm:=fm } x v []={ eff st x v [] with regs:=z04 ((eff st x v []).regs.map (SV.mapL f)) yd out,objs:=os,frm:=fm }:=
  zmi _ _ (by show z04 (z04 _ yd out) x.dst v=z04 ((z04 st.regs x.dst v).map _) yd out; rw[h3,hmap]) (by simp[eff]) rfl rfl rfl
 refine⟨v,rfl,?_,hev,hfv⟩
 rw[←hfin]
 by_cases hc0:cx % 8=0
 ·obtain⟨v',new,he,hrun,hnew⟩:=zhi hx (by omega) hag rfl rfl (.inr (.inr (.inl hc0)))
  have hn:=hnew (by omega)
  subst hn
  rw[hrun]
  have hvv:z04 st.regs x.dst v=z04 st.regs x.dst v':=congrArg St.regs he
  congr 2
  refine zmi _ _ ?_ rfl rfl rfl rfl
  show z04 (z04 (st.regs.map _) yd out) x.dst v'=z04 (z04 (st.regs.map _) yd out) x.dst v
  cases hxd:x.dst with
  | none=>rfl
  | some d=>
   rw[hxd] at hvv
   simp only[z04] at hvv ⊢
   by_cases hlt:d<st.regs.length
   ·have:=congrArg (fun l=>l[d]?) hvv
    simp only[List.getElem?_set_self hlt,Option.some.injEq] at this
    rw[this]
   ·have hlen:(z04 (st.regs.map (SV.mapL f)) yd out).length=st.regs.length:=by cases yd<;>simp[z04]
    simp only[z04] at hlen
    rw[List.set_eq_of_length_le (hlen▸Nat.le_of_not_lt hlt),List.set_eq_of_length_le (hlen▸Nat.le_of_not_lt hlt)]
 ·have hc1:cx % 8=1:=by omega
  rcases hld hc1 with hld | ⟨p,e,tt,xs,dd,LL,hp,hpb,hpi,hob,hrun,hcl⟩
  rotate_left
  ·have hst:=hrow p e tt xs dd LL hp hpb hpi hc1 hob
   have hx2:=zju (ops:=ops) hgd st (zd4 hp) hWx hhx hrun hcl
   rw[hx] at hx2
   simp only[Option.some.injEq,Prod.mk.injEq,true_and] at hx2
   have hWx':=zfh (E:=E) (cb:=cb) hev (fun t n parts ho=>by simp[z3m,ho] at hp) rfl rfl hWx
   have hhx':=hhx
   rw[z7j (E:=E) hev] at hhx'
   have hrun':=hrun
   rw[←hst,z71 (E:=E) (cb:=cb) (os:=os) hev] at hrun'
   rw[zju hgd _ (zd4 hp) hWx' hhx' hrun' (by rw[←zfq (E:=E) (os:=[]) hev]; exact hcl),hx2]
   unfold mkS
   rw[if_neg (by simp),if_neg (by simp),zc3 hev]
  obtain⟨t,a,l,off,ti,hop,hl,hti,hlo,hcx⟩:=hld
  have hea:st.ev a=St.ev { st with regs:=z04 (st.regs.map (SV.mapL f)) yd out,objs:=os,frm:=fm } a:=hev a (by rw[hop]; simp[Op.operands])
  have hlo':z1k os ti (.ptr l off)=some v:=y02 (hbox l · (z32 hdis hcx)) hfv hlo
  have hx2:=zhj (E:=E) (cb:=cb) (ops:=ops) hgd hop hti st v hl hlo
  rw[hx] at hx2
  simp only[Option.some.injEq,Prod.mk.injEq,true_and] at hx2
  rw[zhj hgd hop hti _ v (by rw[←hea]; exact hl) hlo',hx2]
  unfold mkS
  rw[if_neg (by simp),if_neg (by simp),zc3 hev]
theorem y1n {ops:List Oper} {st s1 s2:St} {x y:Oper} {cx cy:Nat} (hx:one1 E cb ops st x=some (s1,cx)) (hy:one1 E cb ops s1 y=some (s2,cy)) (h6:cy % 8=5∨cy % 8=6∨cy % 8=7) (hgd:x.guard=none) (hc:cx % 8≤1) (hk:cx / 8≠0) (h6x:cx % 8=1→isIx x=true→cy % 8=6→(cx / 8 / 2) &&& (cy / 8)=0) (hdis:(cx / 8) &&& (cy / 8)=0)
  (h1:z3o (z16 ops y) x.dst=false) (h2:z3o (z16 ops x) y.dst=false) (h3:z3o x.dst.toList y.dst=false):
  ∃ t1,one1 E cb ops st y=some (t1,cy)∧one1 E cb ops t1 x=some (s2,cx):=by
 obtain⟨_,v0,rfl,_⟩:=zii hx hc hk
 obtain⟨f,out,os,fm,hkl,rfl,hy',hbox,_,hrw,_⟩:=zvt (st:=st) hy h6 (z4g h1) (by simp[eff]) rfl rfl rfl
 obtain⟨v,he,hrun,_⟩:=zu3 (out:=out) (fm:=fm) (yd:=y.dst) hx hkl hbox (fun p e tt xs dd LL hp hpb hpi hc1 hob=>by
  have hrow:obj os p.1=.row e tt xs dd LL:=by
   refine hrw p.1 e tt xs dd LL ?_ hob
   have hb0:=z32 hdis hpb
   unfold z3g at hb0
   cases hp1:p.2.1 with
   | true=>
    rw[hp1,if_pos rfl] at hb0
    by_cases h6':cy % 8=6
    ·refine .inl (z32 (h6x hc1 (hpi hp1) h6') ?_)
     unfold z3g at hpb
     rw[hp1,if_pos rfl] at hpb
     rw[Nat.testBit_div_two]
     exact hpb
    ·exact .inr ⟨h6',hb0⟩
   | false=>rw[hp1,if_neg (by simp)] at hb0; exact .inl hb0
  exact z6z hp (hrow.trans hob.symm)) hgd hc hk hdis h2 (fun regs p q=>zad h3 regs p q)
 refine⟨_,hy',?_⟩
 rw[hrun,←he]
theorem zqr {ops:List Oper} {st s2:St} {y:Oper} {cy mx:Nat} {f:Leaf→Leaf} {out:SV} {os:Objs} {fm:List Leaf} {xd:Option Tmp} (hy:one1 E cb ops { st with regs:=z04 (st.regs.map (SV.mapL f)) xd out,objs:=os,frm:=fm } y=some (s2,cy)) (hkl:Kl mx f)
  (hbox:∀ k cs,mx.testBit (2*k+1)=false→obj st.objs k=.box cs→obj os k=.box (cs.map f)) (hbk:cy % 8=1→∀ k cs,mx.testBit (2*k+1)=false→obj os k=.box cs→∃ ds,obj st.objs k=.box ds)
  (hrow:∀ p e t xs d L,z3m (St.ev { st with regs:=z04 (st.regs.map (SV.mapL f)) xd out,objs:=os,frm:=fm }) y=some p→(cy / 8).testBit (z3g p+1)=true→cy % 8=1→obj os p.1=.row e t xs d L→∀ ρ:Operand→SV,z3m ρ y=some p→z0l E cb ρ st.objs y=z0l E cb ρ os y)
  (hgd:y.guard=none) (hc:cy % 8≤1) (hk:cy / 8≠0) (hdis:(cy / 8) &&& mx=0) (h1:z3o (z16 ops y) xd=false):
  ∃ v,s2=eff { st with regs:=z04 (st.regs.map (SV.mapL f)) xd out,objs:=os,frm:=fm } y v []∧one1 E cb ops st y=some (eff st y v [],cy)∧(v.firm=true∧∀ k∈v.code,(cy / 8).testBit (k+1)=true)∧v.mapL f=v:=by
 obtain⟨hsol,v,rfl,hv,hld,hWy,hhy,_⟩:=zii hy hc hk
 have hfv:v.mapL f=v:=zax hkl hv.1 fun k hk'=>z32 hdis (hv.2 k hk')
 have hag:AgreeOn ops y { st with regs:=z04 (st.regs.map (SV.mapL f)) xd out,objs:=os,frm:=fm } st:=by
  intro t ht
  have hst:=zqq (P:=fun u=>u.firm=true∧∀ k∈u.code,(cy / 8).testBit (k+1)=true) hgd hsol ht
  show st.regs.getD t _=(z04 (st.regs.map (SV.mapL f)) xd out).getD t _
  have hst1:((z04 (st.regs.map (SV.mapL f)) xd out).getD t (.one .undef)).firm=true:=hst.1
  rw[z3s (z3n h1 t ht)] at hst1 ⊢
  rcases zob (regs:=st.regs) (t:=t) hkl with e | e
  ·rw[e] at hst1 ⊢
   exact (znx hkl hst1).symm
  ·simp[List.getD,List.getElem?_eq_none e]
 have hev:=z21 hag
 refine⟨v,rfl,?_,hv,hfv⟩
 by_cases hc0:cy % 8=0
 ·obtain⟨v',new,he,hrun,hnew⟩:=zhi hy (by omega) hag rfl rfl (.inr (.inr (.inl hc0)))
  have hn:=hnew (by omega)
  subst hn
  rw[hrun]
  have hvv:z04 (z04 (st.regs.map (SV.mapL f)) xd out) y.dst v=z04 (z04 (st.regs.map (SV.mapL f)) xd out) y.dst v':=congrArg St.regs he
  congr 2
  refine zmi _ _ ?_ rfl rfl rfl rfl
  show z04 st.regs y.dst v'=z04 st.regs y.dst v
  cases hyd:y.dst with
  | none=>rfl
  | some d=>
   rw[hyd] at hvv
   have hlen:(z04 (st.regs.map (SV.mapL f)) xd out).length=st.regs.length:=by cases xd<;>simp[z04]
   simp only[z04] at hvv ⊢
   by_cases hlt:d<st.regs.length
   ·have:=congrArg (fun l=>l[d]?) hvv
    simp only[z04] at hlen
    rw[List.getElem?_set_self (by rw[hlen]; exact hlt),List.getElem?_set_self (by rw[hlen]; exact hlt)] at this
    simp only[Option.some.injEq] at this
    rw[this]
   ·rw[List.set_eq_of_length_le (Nat.le_of_not_lt hlt),List.set_eq_of_length_le (Nat.le_of_not_lt hlt)]
 ·have hc1:cy % 8=1:=by omega
  rcases hld hc1 with hld | ⟨p,e,tt,xs,dd,LL,hp,hpb,hpi,hob,hrun,hcl⟩
  rotate_left
  ·have hp':=hp
   rw[zex hev] at hp'
   have hst:=hrow p e tt xs dd LL hp hpb hc1 hob st.ev hp'
   have hy2:=zju (ops:=ops) hgd _ (zd4 hp') hWy hhy hrun hcl
   rw[hy] at hy2
   simp only[Option.some.injEq,Prod.mk.injEq,true_and] at hy2
   have hWy':=zfh (E:=E) (cb:=cb) (st':=st) hev (fun t n parts ho=>by simp[z3m,ho] at hp) rfl rfl hWy
   have hhy':=hhy
   rw[z7j (E:=E) hev] at hhy'
   have hrun':=hrun
   rw[z71 (E:=E) (cb:=cb) (os:=os) hev,←hst] at hrun'
   rw[zju hgd st (zd4 hp) hWy' hhy' hrun' (by rw[←zfq (E:=E) (os:=[]) hev]; exact hcl),hy2]
   unfold mkS
   rw[if_neg (by simp),if_neg (by simp),zc3 hev]
  obtain⟨t,a,l,off,ti,hop,hl,hti,hlo,hcx⟩:=hld
  have hea:=hev a (by rw[hop]; simp[Op.operands])
  have hlo':z1k st.objs ti (.ptr l off)=some v:=by
   cases hob:obj st.objs l with
   | box cs=>
    have hb:=hbox l cs (z32 hdis hcx) hob
    simp only[z1k,hb] at hlo
    simp only[z1k,hob]
    have e:((cs.map f).drop off).take ti.ty.size=((cs.drop off).take ti.ty.size).map f:=by rw[←List.map_drop,←List.map_take]
    rw[e] at hlo
    split at hlo
    case isFalse=>cases hlo
    rename_i hlen
    rw[if_pos (by simpa using hlen)]
    split at hlo
    ·rename_i hag'
     rw[if_pos hag']
     simp only[Option.some.injEq] at hlo
     have hfirm:((SV.agg ((cs.drop off).take ti.ty.size)).mapL f).firm=true:=by
      show (SV.agg (((cs.drop off).take ti.ty.size).map f)).firm=true
      rw[hlo]; exact hv.1
     rw[←znx hkl hfirm]
     exact congrArg some hlo
    ·rename_i hag'
     rw[if_neg hag']
     split at hlo
     ·rename_i c hcc
      simp only[Option.some.injEq] at hlo
      cases hcs:(cs.drop off).take ti.ty.size with
      | nil=>rw[hcs] at hcc; cases hcc
      | cons c0 r=>
       cases r with
       | nil=>
        rw[hcs] at hcc
        simp only[List.map_cons,List.map_nil,List.cons.injEq,and_true] at hcc
        simp only[Option.some.injEq]
        have hfirm:(f c0).firm=true:=by
         have h0:=hv.1
         rw[←hlo,←hcc] at h0
         exact h0
        rw[←hlo,←hcc,zlb hkl hfirm]
       | cons _ _=>rw[hcs] at hcc; cases hcc
     ·cases hlo
   | row _ _ _ _ _=>
    exfalso
    simp only[z1k] at hlo
    split at hlo
    ·rename_i cs' hb'
     obtain⟨ds,hds⟩:=hbk hc1 l cs' (z32 hdis hcx) hb'
     rw[hob] at hds; cases hds
    ·cases hlo
   | dead=>
    exfalso
    simp only[z1k] at hlo
    split at hlo
    ·rename_i cs' hb'
     obtain⟨ds,hds⟩:=hbk hc1 l cs' (z32 hdis hcx) hb'
     rw[hob] at hds; cases hds
    ·cases hlo
   | hol _ _ _=>
    exfalso
    simp only[z1k] at hlo
    split at hlo
    ·rename_i cs' hb'
     obtain⟨ds,hds⟩:=hbk hc1 l cs' (z32 hdis hcx) hb'
     rw[hob] at hds; cases hds
    ·cases hlo
  have hy2:=zhj (E:=E) (cb:=cb) (ops:=ops) hgd hop hti _ v hl hlo
  rw[hy] at hy2
  simp only[Option.some.injEq,Prod.mk.injEq,true_and] at hy2
  rw[zhj hgd hop hti st v (by rw[←hea]; exact hl) hlo',hy2]
  unfold mkS
  rw[if_neg (by simp),if_neg (by simp),zc3 hev]
theorem y1o {ops:List Oper} {st s1 s2:St} {x y:Oper} {cx cy:Nat} (hx:one1 E cb ops st x=some (s1,cx)) (hy:one1 E cb ops s1 y=some (s2,cy)) (h6:cx % 8=5∨cx % 8=6∨cx % 8=7) (hgd:y.guard=none) (hc:cy % 8≤1) (hc6:cy % 8=1→cx % 8=6→isIx y=false∧(cy / 8) % 2=1) (hk:cy / 8≠0) (hdis:(cx / 8) &&& (cy / 8)=0)
  (h1:z3o (z16 ops y) x.dst=false) (h2:z3o (z16 ops x) y.dst=false) (h3:z3o x.dst.toList y.dst=false):
  ∃ t1,one1 E cb ops st y=some (t1,cy)∧one1 E cb ops t1 x=some (s2,cx):=by
 have hdis:(cy / 8) &&& (cx / 8)=0:=by rw[Nat.and_comm]; exact hdis
 obtain⟨f,out,os,fm,hkl,rfl,_,hbox,hbk,_,hrb⟩:=zvt (st:=st) hx h6 (fun _ _=>rfl) rfl rfl rfl rfl
 obtain⟨v,rfl,hyt,hv,_⟩:=zqr hy hkl hbox (fun _=>hbk) (fun p e tt xs dd LL hp hpb hc1 hob ρ hρ=>by
  have hn6:cx % 8≠6:=fun h6=>by
   obtain⟨i1,i2⟩:=hc6 hc1 h6
   obtain⟨_,v0,_,_,hld0,_,_,hlk0⟩:=zii hy hc hk
   obtain⟨p0,hp0,hq0⟩:=hlk0 hc1
   rw[hp] at hp0
   simp only[Option.some.injEq] at hp0
   subst hp0
   have h22:=hq0 i2
   rcases hld0 hc1 with ⟨t,a,l,off,ti,r1,r2,r3,r4,r5⟩ | ⟨p1,_,_,_,_,_,hp1,_,_,_,hrun1,_⟩
   ·have:z3m (St.ev { st with regs:=z04 (st.regs.map (SV.mapL f)) x.dst out,objs:=os,frm:=fm }) y=some (l,false,true):=by simp[z3m,r1,r2]
    rw[hp] at this
    simp only[Option.some.injEq] at this
    subst this
    simp only[z1k] at r4
    rw[hob] at r4
    cases r4
   ·rw[hp] at hp1
    simp only[Option.some.injEq] at hp1
    subst hp1
    rcases zgz hp hrun1 with ⟨_,_,_,_,_,_,r1,_,_,_,r5,_⟩ | ⟨_,_,r3,_⟩
    ·subst r5
     rcases zgz hp hrun1 with ⟨_,_,l,_,_,_,_,_,_,r4,_,_⟩ | ⟨_,_,r3,_⟩
     ·simp only[z1k] at r4
      rename_i r6 _ _
      simp_all
     ·rw[r3 rfl] at i1; cases i1
    ·rw[r3 h22] at i1; cases i1
  have hrow:obj st.objs p.1=.row e tt xs dd LL:=by
   refine hrb hn6 p.1 e tt xs dd LL ?_ hob
   have hb0:=z32 hdis hpb
   unfold z3g at hb0
   cases hp1:p.2.1 with
   | true=>rw[hp1,if_pos rfl] at hb0; exact .inr hb0
   | false=>rw[hp1,if_neg (by simp)] at hb0; exact .inl hb0
  exact z6z hρ (hrow.trans hob.symm)) hgd hc hk hdis h1
 refine⟨_,hyt,?_⟩
 exact zz1 hx h6 rfl h2 h3 hv hdis
theorem zvx {ops:List Oper} {st s1:St} {x:Oper} {cx:Nat} (h:one1 E cb ops st x=some (s1,cx)) (hc:cx % 8=2):cx / 8=st.objs.length:=by
 unfold one1 at h
 split at h
 ·obtain⟨_,h⟩:=z94 h (by omega)
  unfold z6u at h
  split at h
  ·rename_i t ht
   rw[Tree.run_map] at h
   obtain⟨s,_,h2⟩:=Tree.run_some t h
   simp only[Option.some.injEq,Prod.mk.injEq] at h2
   have:=zns E cb st.ev st.objs x
   omega
  ·split at h
   ·cases h
   rw[Tree.run_map] at h
   obtain⟨⟨v,new⟩,h1,h2⟩:=Tree.run_some _ h
   simp only[Option.some.injEq,Prod.mk.injEq] at h2
   obtain⟨rfl,rfl⟩:=h2
   have hle2:=zdh (E:=E) (ρ:=st.ev) (o:=x) (os:=new)
   have h2:clsV E st.ev x new=2:=by omega
   rw[h2]
   unfold mkS
   rw[if_pos (by simp)]
   omega
 ·simp only[Option.some.injEq,Prod.mk.injEq] at h
  omega
 ·cases h
def LeO (os os':Objs):Prop:=∀ l x,obj os l=x→x≠.dead→obj os' l=x
theorem zq4 {os os':Objs} (hle:LeO os os') {c:Leaf} {t:Ty} {p:List t.den×List Nat} (h:z08 os t c=some p):z08 os' t c=some p:=by
 cases c with
 | nilS=>exact h
 | val s x L=>cases s<;>first | exact h | cases h
 | own l=>
  simp only[z08] at h ⊢
  cases ho:obj os l with
  | row e s xs d L=>rw[hle l _ ho (by simp)]; rw[ho] at h; exact h
  | dead=>rw[ho] at h; cases h
  | hol _ _ _=>rw[ho] at h; cases h
  | box cs=>rw[ho] at h; cases h
 | sub l i off=>
  simp only[z08] at h ⊢
  cases ho:obj os l with
  | row e s xs d L=>rw[hle l _ ho (by simp)]; rw[ho] at h; exact h
  | dead=>rw[ho] at h; cases h
  | hol _ _ _=>rw[ho] at h; cases h
  | box cs=>rw[ho] at h; cases h
 | view l i off=>
  simp only[z08] at h ⊢
  cases ho:obj os l with
  | row e s xs d L=>rw[hle l _ ho (by simp)]; rw[ho] at h; exact h
  | dead=>rw[ho] at h; cases h
  | hol _ _ _=>rw[ho] at h; cases h
  | box cs=>rw[ho] at h; cases h
 | _=>cases h
theorem zhw {os os':Objs} (hle:LeO os os'):∀ (t:Ty) {ls:List Leaf} {p:t.den×List Nat×List Leaf},z14 os t ls=some p→z14 os' t ls=some p
 | .pair a b,ls,p,h=>by
  simp only[z14] at h ⊢
  split at h
  ·rename_i x L r ha
   rw[zhw hle a ha]
   simp only
   split at h
   ·rename_i y M q hb
    rw[zhw hle b hb]
    exact h
   ·cases h
  ·cases h
 | .unit,ls,p,h=>h
 | .slice e t,ls,p,h=>by
  cases ls with
  | nil=>cases h
  | cons c r=>
   simp only[z14] at h ⊢
   split at h
   ·rename_i x L hs
    rw[zq4 hle hs]
    exact h
   ·cases h
 | .int k,ls,p,h=>by
  cases ls with
  | nil=>cases h
  | cons c r=>cases c<;>first | exact h | cases h
 | .bool,ls,p,h=>by
  cases ls with
  | nil=>cases h
  | cons c r=>cases c<;>first | exact h | cases h
 | .str,ls,p,h=>by
  cases ls with
  | nil=>cases h
  | cons c r=>cases c<;>first | exact h | cases h
theorem zlt {os os':Objs} (hle:LeO os os'):∀ (t:Ty) {ls:List Leaf} {p:t.den×List Nat×List Leaf},z0z os t ls=some p→z0z os' t ls=some p
 | .pair a b,ls,p,h=>by
  simp only[z0z] at h ⊢
  split at h
  case h_2=>cases h
  rename_i x L r ha
  rw[zlt hle a ha]
  simp only
  split at h
  case h_2=>cases h
  rename_i y M q hb
  rw[zlt hle b hb]
  exact h
 | .unit,ls,p,h=>h
 | .slice e t,ls,p,h=>by
  cases ls with
  | nil=>cases h
  | cons c r=>
   cases c with
   | nilS=>exact h
   | own l=>
    simp only[z0z] at h ⊢
    cases ho:obj os l with
    | row e s xs d L=>rw[hle l _ ho (by simp)]; rw[ho] at h; exact h
    | dead=>rw[ho] at h; cases h
    | hol _ _ _=>rw[ho] at h; cases h
    | box cs=>rw[ho] at h; cases h
   | sub l i off=>
    simp only[z0z] at h ⊢
    cases ho:obj os l with
    | row e s xs d L=>rw[hle l _ ho (by simp)]; rw[ho] at h; exact h
    | dead=>rw[ho] at h; cases h
    | hol _ _ _=>rw[ho] at h; cases h
    | box cs=>rw[ho] at h; cases h
   | _=>cases h
 | .int k,ls,p,h=>by
  cases ls with
  | nil=>cases h
  | cons c r=>cases c<;>first | exact h | cases h
 | .bool,ls,p,h=>by
  cases ls with
  | nil=>cases h
  | cons c r=>cases c<;>first | exact h | cases h
 | .str,ls,p,h=>by
  cases ls with
  | nil=>cases h
  | cons c r=>cases c<;>first | exact h | cases h
theorem z8a {os os':Objs} (hle:LeO os os'):∀ (ps:List PIn) {vs:List SV} {p:z6e ps×List Nat×List Nat},(ps.all fun p=>!p.isClo)=true→z05 cb os ps vs=some p→z05 cb os' ps vs=some p
 | [],vs,p,_,h=>by cases vs<;>first | exact h | cases h
 | .imm b t::ps,vs,p,hc,h=>by
  cases vs with
  | nil=>cases h
  | cons v vs=>
   simp only[z05] at h ⊢
   split at h
   ·rename_i b' ls hl
    split at h
    ·rename_i hb
     rw[if_pos hb]
     split at h
     ·rename_i x L hg
      split at h
      ·rename_i y M W hr
       rw[zhw hle t hg,z8a hle ps (by simpa[PIn.isClo] using hc) hr]
       exact h
      ·cases h
     ·cases h
    ·cases h
   ·cases h
 | .mut b t::ps,vs,p,hc,h=>by
  cases vs with
  | nil=>cases h
  | cons v vs=>
   simp only[z05] at h ⊢
   split at h
   ·rename_i b' ls hl
    split at h
    ·rename_i hb
     rw[if_pos hb]
     split at h
     ·rename_i x L hg
      split at h
      ·rename_i y M W hr
       rw[zlt hle t hg,z8a hle ps (by simpa[PIn.isClo] using hc) hr]
       exact h
      ·cases h
     ·cases h
    ·cases h
   ·cases h
 | .ptr t::ps,vs,p,hc,h=>by
  cases vs with
  | nil=>cases h
  | cons v vs=>
   cases v with
   | one c=>
    cases c<;>simp only[z05] at h ⊢<;>try (cases h; done)
    rename_i l off
    split at h
    case isFalse=>cases h
    rename_i hof
    rw[if_pos hof]
    cases ho:obj os l with
    | row e s xs d L=>rw[ho] at h; cases h
    | dead=>rw[ho] at h; cases h
    | hol _ _ _=>rw[ho] at h; cases h
    | box cs=>
     rw[hle l _ ho (by simp)]; rw[ho] at h
     simp only at h ⊢
     split at h
     ·rename_i x L hg
      split at h
      ·rename_i y M W hr
       rw[zhw hle t hg,z8a hle ps (by simpa[PIn.isClo] using hc) hr]
       exact h
      ·cases h
     ·cases h
   | agg _=>simp[z05] at h
   | tup _=>simp[z05] at h
 | .clo gs r::ps,vs,p,hc,h=>by simp[PIn.isClo] at hc
theorem zib:∀ (t:Ty) {os os':Objs} {y:t.den} {ls r:List Leaf},z17 os t y ls=some (os',r)→os'.length=os.length
 | .pair a b,os,os',y,ls,r,h=>by
  simp only[z17] at h
  split at h
  ·rename_i h1
   exact (zib b h).trans (zib a h1)
  ·cases h
 | .unit,os,os',y,ls,r,h=>by simp only[z17,Option.some.injEq,Prod.mk.injEq] at h; rw[h.1]
 | .slice e t,os,os',y,ls,r,h=>by
  cases ls with
  | nil=>cases h
  | cons c ls=>
   cases c<;>simp only[z17] at h<;>try (cases h; done)
   ·simp only[Option.some.injEq,Prod.mk.injEq] at h; rw[h.1]
   ·split at h
    ·split at h
     ·simp only[Option.some.injEq,Prod.mk.injEq] at h; rw[←h.1,List.length_set]
     ·cases h
    ·cases h
   ·split at h
    ·split at h
     ·simp only[Option.some.injEq,Prod.mk.injEq] at h; rw[←h.1,List.length_set]
     ·cases h
    ·cases h
 | .int n,os,os',y,ls,r,h=>by
  cases ls with
  | nil=>cases h
  | cons c ls=>simp only[z17,Option.some.injEq,Prod.mk.injEq] at h; rw[h.1]
 | .bool,os,os',y,ls,r,h=>by
  cases ls with
  | nil=>cases h
  | cons c ls=>simp only[z17,Option.some.injEq,Prod.mk.injEq] at h; rw[h.1]
 | .str,os,os',y,ls,r,h=>by
  cases ls with
  | nil=>cases h
  | cons c ls=>simp only[z17,Option.some.injEq,Prod.mk.injEq] at h; rw[h.1]
theorem z9m {Lc:List Nat}:∀ (ps:List PIn) {os os':Objs} {y:z51 ps} {vs:List SV},z19 Lc os ps y vs=some os'→os'.length=os.length
 | [],os,os',y,vs,h=>by cases vs<;>(simp only[z19,Option.some.injEq] at h; rw[h])
 | .imm b t::ps,os,os',y,vs,h=>by
  cases vs with
  | nil=>cases h
  | cons v vs=>exact z9m ps h
 | .clo gs r::ps,os,os',y,vs,h=>by
  cases vs with
  | nil=>cases h
  | cons v vs=>exact z9m ps h
 | .mut b t::ps,os,os',y,vs,h=>by
  cases vs with
  | nil=>cases h
  | cons v vs=>
   simp only[z19] at h
   split at h
   case h_2=>cases h
   split at h
   case h_2=>cases h
   rename_i h1
   exact (z9m ps h).trans (zib t h1)
 | .ptr t::ps,os,os',y,vs,h=>by
  cases vs with
  | nil=>cases h
  | cons v vs=>
   cases v with
   | one c=>
    cases c<;>simp only[z19] at h<;>try (cases h; done)
    have:=z9m ps h
    rw[List.length_set] at this
    exact this
   | agg _=>cases h
   | tup _=>cases h
theorem zia {k:Nat} {b:AObj} {os0:Objs}:∀ (t:Ty) {os os':Objs} {y x:t.den} {L:List Nat} {ls r q:List Leaf},z0z os0 t ls=some (x,L,q)→k∉L→z17 os t y ls=some (os',r)→z17 (os.set k b) t y ls=some (os'.set k b,r)
 | .pair a c,os,os',y,x,L,ls,r,q,hg,hL,h=>by
  simp only[z0z] at hg
  split at hg
  case h_2=>cases hg
  rename_i x1 L1 r1 g1
  split at hg
  case h_2=>cases hg
  rename_i x2 L2 r2 g2
  simp only[Option.some.injEq,Prod.mk.injEq] at hg
  obtain⟨_,rfl,rfl⟩:=hg
  simp only[List.mem_append,not_or] at hL
  simp only[z17] at h ⊢
  split at h
  case h_2=>cases h
  rename_i os1 r3 h1
  obtain⟨rfl,_⟩:=zcn a g1 hL.1 h1
  rw[zia a g1 hL.1 h1]
  exact zia c g2 hL.2 h
 | .unit,os,os',y,x,L,ls,r,q,hg,hL,h=>by
  simp only[z17,Option.some.injEq,Prod.mk.injEq] at h ⊢
  obtain⟨rfl,rfl⟩:=h; exact⟨rfl,rfl⟩
 | .slice e t,os,os',y,x,L,ls,r,q,hg,hL,h=>by
  cases ls with
  | nil=>cases h
  | cons c ls=>
   cases c<;>simp only[z17] at h ⊢<;>try (cases h; done)
   ·simp only[Option.some.injEq,Prod.mk.injEq] at h ⊢
    obtain⟨rfl,rfl⟩:=h; exact⟨rfl,rfl⟩
   ·simp only[z0z] at hg
    split at hg
    case h_2=>cases hg
    split at hg
    case isFalse=>cases hg
    split at hg
    case h_2=>cases hg
    simp only[Option.some.injEq,Prod.mk.injEq] at hg
    obtain⟨_,rfl,rfl⟩:=hg
    have hne:=hL
    simp only[List.mem_singleton] at hne
    split at h
    ·rename_i ho
     rw[z01 (fun e=>hne e.symm),ho]
     simp only
     split at h
     ·simp only[Option.some.injEq,Prod.mk.injEq] at h
      obtain⟨rfl,rfl⟩:=h
      rename_i hc _
      try rw[hc]
      rw[List.set_comm _ _ hne]
     ·cases h
    ·cases h
   ·simp only[z0z] at hg
    split at hg
    case h_2=>cases hg
    split at hg
    case h_2=>cases hg
    split at hg
    case isFalse=>cases hg
    split at hg
    case h_2=>cases hg
    simp only[Option.some.injEq,Prod.mk.injEq] at hg
    obtain⟨_,rfl,rfl⟩:=hg
    have hne:=hL
    simp only[List.mem_singleton] at hne
    split at h
    ·rename_i ho
     rw[z01 (fun e=>hne e.symm),ho]
     simp only
     split at h
     ·rename_i hc
      simp only[Option.some.injEq,Prod.mk.injEq] at h
      obtain⟨rfl,rfl⟩:=h
      try rw[hc]
      rw[List.set_comm _ _ hne]
     ·cases h
    ·cases h
 | .int n,os,os',y,x,L,ls,r,q,hg,hL,h=>by
  cases ls with
  | nil=>cases h
  | cons c ls=>
   simp only[z17,Option.some.injEq,Prod.mk.injEq] at h ⊢
   obtain⟨rfl,rfl⟩:=h; exact⟨rfl,rfl⟩
 | .bool,os,os',y,x,L,ls,r,q,hg,hL,h=>by
  cases ls with
  | nil=>cases h
  | cons c ls=>
   simp only[z17,Option.some.injEq,Prod.mk.injEq] at h ⊢
   obtain⟨rfl,rfl⟩:=h; exact⟨rfl,rfl⟩
 | .str,os,os',y,x,L,ls,r,q,hg,hL,h=>by
  cases ls with
  | nil=>cases h
  | cons c ls=>
   simp only[z17,Option.some.injEq,Prod.mk.injEq] at h ⊢
   obtain⟨rfl,rfl⟩:=h; exact⟨rfl,rfl⟩
theorem zcm {k:Nat} {b:AObj} {os0:Objs} {Lc:List Nat}:∀ (ps:List PIn) {os os':Objs} {y:z51 ps} {vs:List SV} {x:z6e ps} {L W:List Nat},z05 cb os0 ps vs=some (x,L,W)→(ps.all fun p=>!p.isClo)=true→k∉W→z19 Lc os ps y vs=some os'→z19 Lc (os.set k b) ps y vs=some (os'.set k b)
 | [],os,os',y,vs,x,L,W,_,_,_,h=>by
  cases vs with
  | nil=>simp only[z19,Option.some.injEq] at h ⊢; rw[h]
  | cons _ _=>simp only[z19,Option.some.injEq] at h ⊢; rw[h]
 | .imm b t::ps,os,os',y,vs,x,L,W,hg,hc,hW,h=>by
  cases vs with
  | nil=>cases h
  | cons v vs=>
   simp only[z05] at hg
   split at hg
   ·split at hg
    ·split at hg
     ·split at hg
      ·rename_i hr
       simp only[Option.some.injEq,Prod.mk.injEq] at hg
       obtain⟨_,_,rfl⟩:=hg
       exact zcm ps hr (by simpa[PIn.isClo] using hc) hW h
      ·cases hg
     ·cases hg
    ·cases hg
   ·cases hg
 | .clo gs r::ps,os,os',y,vs,x,L,W,hg,hc,hW,h=>by simp[PIn.isClo] at hc
 | .mut b t::ps,os,os',y,vs,x,L,W,hg,hc,hW,h=>by
  cases vs with
  | nil=>cases h
  | cons v vs=>
   simp only[z05] at hg
   split at hg
   case h_2=>cases hg
   rename_i b' ls hlv
   split at hg
   case isFalse=>cases hg
   split at hg
   case h_2=>cases hg
   rename_i x1 L1 hgm
   split at hg
   case h_2=>cases hg
   rename_i hr
   simp only[Option.some.injEq,Prod.mk.injEq] at hg
   obtain⟨_,_,rfl⟩:=hg
   simp only[List.mem_append,not_or] at hW
   simp only[z19,hlv] at h ⊢
   split at h
   ·rename_i h1
    rw[zia t hgm hW.1 h1]
    exact zcm ps hr (by simpa[PIn.isClo] using hc) hW.2 h
   ·cases h
 | .ptr t::ps,os,os',y,vs,x,L,W,hg,hc,hW,h=>by
  cases vs with
  | nil=>cases h
  | cons v vs=>
   cases v with
   | one c=>
    cases c<;>simp only[z05] at hg<;>try (cases hg; done)
    split at hg
    ·split at hg
     ·split at hg
      ·split at hg
       ·rename_i hr
        simp only[Option.some.injEq,Prod.mk.injEq] at hg
        obtain⟨_,_,rfl⟩:=hg
        simp only[List.mem_cons,not_or] at hW
        simp only[z19] at h ⊢
        rw[List.set_comm _ _ hW.1]
        exact zcm ps hr (by simpa[PIn.isClo] using hc) hW.2 h
       ·cases hg
      ·cases hg
     ·cases hg
    ·cases hg
   | agg _=>simp[z05] at hg
   | tup _=>simp[z05] at hg
theorem Kl.undef {m:Nat} {f:Leaf→Leaf} (h:Kl m f):f .undef=.undef:=by rcases h.or .undef with e | e<;>exact e
theorem zy1 {m:Nat} {f:Leaf→Leaf} (hk:Kl m f) {st st':St} (hr:st'.regs=st.regs.map (SV.mapL f)) (z:Operand):st'.ev z=(st.ev z).mapL f:=by
 cases z with
 | tmp t=>
  show st'.regs.getD t _=(st.regs.getD t _).mapL f
  rw[hr]
  rcases zob (regs:=st.regs) (t:=t) hk with e | e
  ·exact e
  ·simp only[List.getD,List.getElem?_map,List.getElem?_eq_none e,Option.map_none,Option.getD_none]
   show _=SV.one (f .undef)
   rw[hk.undef]
 | const v=>
  show zv4 v=(zv4 v).mapL f
  unfold zv4
  split
  all_goals first
   | exact (zax hk rfl (fun k hk2=>by simp[SV.code,Leaf.code,Leaf.on,Leaf.men] at hk2)).symm
   | (show SV.one _=SV.one (f .undef); rw[hk.undef])
 | func g=>exact (zax (v:=.one (.fn g [])) hk rfl (fun k hk2=>by simp[SV.code,Leaf.code,Leaf.on,Leaf.men] at hk2)).symm
 | _=>show SV.one .undef=SV.one (f .undef); rw[hk.undef]
theorem zh5 {ob:AObj} (h:zg9 ob) (hd:Bool) (k:Nat):AObj.kill hd k ob=ob∧AObj.leans k ob=false:=by
 rcases h with ⟨e,t,xs,rfl⟩ | ⟨cs,rfl,hcs⟩
 ·exact⟨rfl,rfl⟩
 ·refine⟨?_,rfl⟩
  simp only[AObj.kill,AObj.box.injEq]
  conv=>rhs; rw[←List.map_id cs]
  refine List.map_congr_left fun c hc=>?_
  have h0:=hcs c hc
  show Leaf.kill hd k c=c
  unfold Leaf.kill
  rw[if_neg]
  intro hdie
  cases c<;>simp_all[Leaf.dies,Leaf.code,Leaf.on,Leaf.men,has]
theorem zkj (ob:AObj) (l:Nat):(z0m ob l).firm=true∧(z0m ob l).code=[2*l+1]:=by
 unfold z0m; cases ob<;>simp[SV.firm,Leaf.firm,SV.code,Leaf.code,Leaf.on,Leaf.men]
theorem zki {ob:AObj} {l k:Nat} {hd:Bool} (h:hd=true→k≠l):(z0m ob l).kill hd k=z0m ob l:=by
 unfold z0m
 cases hd with
 | false=>cases ob<;>simp[SV.kill,Leaf.kill,Leaf.dies]
 | true=>
  have:=h rfl
  have h2:¬l=k:=fun e=>this e.symm
  cases ob<;>simp[SV.kill,Leaf.kill,Leaf.dies,h2]
theorem zxx {ρ:Operand→SV} (hρ:∀ g,ρ (.func g)=.one (.fn g [])) {os:Objs} {o:Oper} {r:SV×Objs} (hf:z41 E o=true) (hs:(z0l E cb ρ os o).run some=some r):∀ z∈o.op.operands.toList,(ρ z).firm=true:=by
 unfold z41 at hf
 simp only[Bool.and_eq_true,Bool.not_eq_true'] at hf
 obtain⟨_,himm,hf⟩:=hf
 intro z hz
 split at hf
 ·rename_i t ho
  rw[ho] at hz
  simp[Op.operands] at hz
 ·rename_i t n parts ho
  rw[ho] at hz
  simp only[List.isEmpty_iff] at hf
  have:parts=#[]:=by simpa using hf
  subst this
  simp[Op.operands] at hz
 ·rename_i t n c ho
  simp only[z0l,ho] at hs
  split at hs
  case h_2=>cases hs
  rename_i h1 h2
  have key:∀ v:SV,∀ k x L,v.leaf=.val k x L→v.firm=true:=by
   intro v k x L hv
   cases v with
   | one c=>simp only[SV.leaf] at hv; subst hv; rfl
   | agg cs=>cases hv
   | tup vs=>cases hv
  rw[ho] at hz
  simp[Op.operands] at hz
  rcases hz with rfl | rfl
  ·exact key _ _ _ _ h1
  ·exact key _ _ _ _ h2
 ·rename_i c ho
  split at hf
  case h_2=>cases hf
  rename_i g hcal
  simp only[Bool.and_eq_true,List.isEmpty_iff] at hf
  have harg:c.args=#[]:=by simpa using hf.1
  rw[ho] at hz
  simp[Op.operands,Call.operands,hcal,harg] at hz
  subst hz
  rw[hρ]; rfl
 ·cases hf
theorem zdc {ops:List Oper} {st s2:St} {y:Oper} {cy l:Nat} (hy:one1 E cb ops st y=some (s2,cy)) (hsl:z1g E y=some l):
  ∃ ob,zg9 ob∧y.guard=none∧obj st.objs l=.dead∧(Nat.blt l st.objs.length&&(!Nat.blt l st.ro&&!Nat.blt l st.fx))=true∧cy=7+8*z0c (z0k true [l]) ∧
   s2=({ st with objs:=st.objs.set l ob }:St).put y.dst (z0m ob l)∧(∀ z∈y.op.operands.toList,(st.ev z).firm=true∧(st.ev z).code=[]) ∧
   ∀ st2:St,(∀ z∈y.op.operands.toList,st.ev z=st2.ev z)→obj st2.objs l=.dead→(Nat.blt l st2.objs.length&&(!Nat.blt l st2.ro&&!Nat.blt l st2.fx))=true →
    one1 E cb ops st2 y=some (({ st2 with objs:=st2.objs.set l ob }:St).put y.dst (z0m ob l),cy):=by
 obtain⟨d,hd,_,hf⟩:=z5u hsl
 have hgn:=zvd hf
 unfold one1 z1a at hy
 simp only[hgn] at hy
 unfold step at hy
 rw[hsl] at hy
 simp only at hy
 rw[Tree.run_map] at hy
 obtain⟨st',h1,h2⟩:=Tree.run_some _ hy
 simp only[Option.some.injEq,Prod.mk.injEq] at h2
 obtain⟨rfl,rfl⟩:=h2
 obtain⟨ob,hso,hob,hc,hfr,rfl,hr⟩:=zjy hf h1
 have hfm:=zxx (fun g=>rfl) hf hr
 refine⟨ob,hso,hgn,hob,hc,rfl,rfl,fun z hz=>⟨hfm z hz,hfr z hz⟩,fun st2 hev hob2 hc2=>?_⟩
 unfold one1 z1a
 simp only[hgn]
 unfold step
 rw[hsl]
 simp only
 rw[Tree.run_map]
 exact Tree.run_then _ _ (zre hso hob2 hc2 (fun z hz=>by rw[←hev z hz]; exact hfr z hz) (by rw[←z71 hev]; exact hr) rfl)
theorem zn4 {ob:AObj} (hso:zg9 ob) {os:Objs} {l m:Nat} (hdead:obj os l=.dead):(os.set l ob).any (AObj.leans m)=os.any (AObj.leans m):=by
 rw[Bool.eq_iff_iff,List.any_eq_true,List.any_eq_true]
 constructor
 ·rintro⟨z,hz,hz2⟩
  rcases List.mem_or_eq_of_mem_set hz with hz3 | rfl
  ·exact⟨z,hz3,hz2⟩
  ·rw[(zh5 hso true m).2] at hz2; cases hz2
 ·rintro⟨z,hz,hz2⟩
  obtain⟨i,hi,rfl⟩:=List.mem_iff_getElem.1 hz
  by_cases e:i=l
  ·subst e
   simp only[obj,List.getD,List.getElem?_eq_getElem hi,Option.getD_some] at hdead
   rw[hdead] at hz2; cases hz2
  ·exact⟨os[i],List.mem_iff_getElem.2 ⟨i,by simpa using hi,by rw[List.getElem_set_ne (fun h=>e h.symm)]⟩,hz2⟩
theorem zlc {hd:Bool} {m l:Nat} {ob:AObj} (hso:zg9 ob) {st sk:St} {d:Option Tmp} {sv:SV} (hdead:obj st.objs l=.dead) (hsv:sv.kill hd m=sv) (h:st.kill hd m=some sk):
  (({ st with objs:=st.objs.set l ob }:St).put d sv).kill hd m=some (({ sk with objs:=sk.objs.set l ob }:St).put d sv):=by
 obtain⟨h1,rfl⟩:=z4c h
 unfold St.kill
 show (if (st.objs.set l ob).any (AObj.leans m)=true then none else some _)=_
 rw[zn4 hso hdead,h1,if_neg (by simp)]
 simp only[St.put,List.map_set,(zh5 hso hd m).1]
 congr 2
 cases d with
 | none=>rfl
 | some d=>simp[z04,List.map_set,hsv]
theorem zop {hd:Bool} {m l:Nat} {ob:AObj} (hso:zg9 ob) {st s':St} {d:Option Tmp} {sv:SV} (hdead:obj st.objs l=.dead) (hsv:sv.kill hd m=sv) (h:(({ st with objs:=st.objs.set l ob }:St).put d sv).kill hd m=some s'):
  ∃ sk,st.kill hd m=some sk∧s'=({ sk with objs:=sk.objs.set l ob }:St).put d sv:=by
 obtain⟨h1,_⟩:=z4c h
 have h2:st.objs.any (AObj.leans m)=false:=by rw[←zn4 hso hdead (m:=m)]; exact h1
 have h3:st.kill hd m=some { st with regs:=st.regs.map (SV.kill hd m),objs:=st.objs.map (AObj.kill hd m),frm:=st.frm.map (Leaf.kill hd m) }:=by
  unfold St.kill; rw[h2,if_neg (by simp)]
 refine⟨_,h3,?_⟩
 have:=zlc hso (d:=d) hdead hsv h3
 rw[h] at this
 exact (Option.some.inj this)
theorem zld {hd:Bool} {k:Nat} {ob:AObj} (hso:zg9 ob):∀ (W:List Nat) {st s':St},st.killAll hd W=some s'→({ st with objs:=st.objs.set k ob }:St).killAll hd W=some { s' with objs:=s'.objs.set k ob }
 | [],st,s',h=>by simp only[St.killAll,Option.some.injEq] at h ⊢; rw[h]
 | l::W,st,s',h=>by
  simp only[St.killAll] at h ⊢
  unfold St.kill at h ⊢
  split at h
  case h_2=>cases h
  rename_i s1 h1
  split at h1
  ·cases h1
  rename_i hn
  simp only[Option.some.injEq] at h1
  subst h1
  have hn2:¬((st.objs.set k ob).any (AObj.leans l)=true):=by
   intro ha
   apply hn
   rw[List.any_eq_true] at ha ⊢
   obtain⟨z,hz,hz2⟩:=ha
   rcases List.mem_or_eq_of_mem_set hz with hz3 | rfl
   ·exact⟨z,hz3,hz2⟩
   ·rw[(zh5 hso hd l).2] at hz2; cases hz2
  rw[if_neg hn2]
  simp only
  rw[List.map_set,(zh5 hso hd l).1]
  exact zld hso W h
theorem zxy {ops:List Oper} {st s1 s2:St} {x y:Oper} {cx cy l m:Nat} (hx:one1 E cb ops st x=some (s1,cx)) (hy:one1 E cb ops s1 y=some (s2,cy)) (hl:z1g E x=some l) (hm:z1g E y=some m)
  (h1:z3o (z16 ops y) x.dst=false) (h2:z3o (z16 ops x) y.dst=false) (h3:z3o x.dst.toList y.dst=false):
  ∃ t1,one1 E cb ops st y=some (t1,cy)∧one1 E cb ops t1 x=some (s2,cx):=by
 obtain⟨ob,hso,_,hob,hc,hcx,rfl,_,hX⟩:=zdc hx hl
 obtain⟨ob2,hso2,_,hob2,hc2,hcy,rfl,_,hY⟩:=zdc hy hm
 simp only[St.put,List.length_set] at hob2 hc2
 have hll:l<st.objs.length:=by simp only[Bool.and_eq_true] at hc; simpa using hc.1
 have hne:m≠l:=by
  intro e
  subst e
  rw[z0a hll] at hob2
  rcases hso with ⟨_,_,_,rfl⟩ | ⟨_,rfl,_⟩<;>cases hob2
 rw[z01 hne] at hob2
 have a1:AgreeOn ops y (({ st with objs:=st.objs.set l ob }:St).put x.dst (z0m ob l)) st:=fun t ht=>(z3s (z3n h1 t ht)).symm
 have a2:AgreeOn ops x st (({ st with objs:=st.objs.set m ob2 }:St).put y.dst (z0m ob2 m)):=fun t ht=>z3s (z3n h2 t ht)
 refine⟨_,hY st (z21 a1) hob2 hc2,?_⟩
 rw[hX _ (z21 a2) (by simp only[St.put]; rw[z01 (fun e=>hne e.symm)]; exact hob) (by simpa only[St.put,List.length_set] using hc)]
 congr 2
 refine zmi _ _ ?_ ?_ rfl rfl rfl
 ·exact zad h3 _ _ _
 ·exact List.set_comm _ _ hne
theorem zva {ops:List Oper} {st s1 s2:St} {x y:Oper} {cx cy l:Nat} (hx:one1 E cb ops st x=some (s1,cx)) (hy:one1 E cb ops s1 y=some (s2,cy)) (hl:z1g E x=some l) (h5:cy % 8=5) (hgy:y.guard=none) (hdis:(cx / 8) &&& (cy / 8)=0)
  (h1:z3o (z16 ops y) x.dst=false) (h2:z3o (z16 ops x) y.dst=false):
  ∃ t1,one1 E cb ops st y=some (t1,cy)∧one1 E cb ops t1 x=some (s2,cx):=by
 obtain⟨ob,hso,_,hob,hc,hcx,rfl,hfx,hX⟩:=zdc hx hl
 have a1:AgreeOn ops y (({ st with objs:=st.objs.set l ob }:St).put x.dst (z0m ob l)) st:=fun t ht=>(z3s (z3n h1 t ht)).symm
 have hev:=z21 a1
 unfold one1 z1a at hy ⊢
 simp only[hgy] at hy ⊢
 obtain⟨hsl,hy⟩:=z94 hy (by omega)
 rw[z1w hsl]
 unfold z6u at hy ⊢
 split at hy
 case h_2=>
  exfalso
  split at hy
  ·cases hy
  ·rw[Tree.run_map] at hy
   obtain⟨p,_,q2⟩:=Tree.run_some _ hy
   simp only[Option.some.injEq,Prod.mk.injEq] at q2
   have:=zdh (E:=E) (ρ:=(({ st with objs:=st.objs.set l ob }:St).put x.dst (z0m ob l)).ev) (o:=y) (os:=p.2)
   omega
 rename_i t ht
 rw[Tree.run_map] at hy
 obtain⟨s3,r1,r2⟩:=Tree.run_some t hy
 simp only[Option.some.injEq,Prod.mk.injEq] at r2
 obtain⟨rfl,rfl⟩:=r2
 obtain⟨tt,a,x',m,off,hop,ha⟩:=ztk h5
 have ea:st.ev a=(({ st with objs:=st.objs.set l ob }:St).put x.dst (z0m ob l)).ev a:=(hev a (by simp[hop,Op.operands])).symm
 have ex':st.ev x'=(({ st with objs:=st.objs.set l ob }:St).put x.dst (z0m ob l)).ev x':=(hev x' (by simp[hop,Op.operands])).symm
 have hw:wcls E cb (({ st with objs:=st.objs.set l ob }:St).put x.dst (z0m ob l)).ev (({ st with objs:=st.objs.set l ob }:St).put x.dst (z0m ob l)).objs y=5+8*z0c (z0k false [m]):=by
  unfold wcls; simp only[hop,ha]
 have hw0:wcls E cb st.ev st.objs y=5+8*z0c (z0k false [m]):=by
  unfold wcls; simp only[hop,ea,ha]
 rw[hw] at hdis
 have hne:m≠l:=by
  intro e
  subst e
  have q1:(cx / 8).testBit (2*m+1)=true:=by rw[show cx / 8=z0c (z0k true [m]) by omega]; exact z7i (.inr (z1e (by simp)).1)
  have q2:=z32 hdis q1
  rw[show (5+8*z0c (z0k false [m])) / 8=z0c (z0k false [m]) by omega] at q2
  exact z2a q2 (z1e (by simp)).1
 unfold z57 at ht ⊢
 simp only[hop] at ht ⊢
 simp only[Option.some.injEq] at ht
 subst ht
 split at r1
 case h_2=>cases r1
 rename_i ti hdn hti
 simp only[Tree.ofOpt] at r1
 rw[ha,←ex'] at r1
 have hkey:∃ t1,z8f st ti (.ptr m off) (st.ev x')=some t1∧(∀ z∈x.op.operands.toList,st.ev z=t1.ev z)∧obj t1.objs l=.dead∧t1.objs.length=st.objs.length∧t1.ro=st.ro∧t1.fx=st.fx∧s3=({ t1 with objs:=t1.objs.set l ob }:St).put x.dst (z0m ob l):=by
  revert r1
  intro r1
  have r1':z8f (({ st with objs:=st.objs.set l ob }:St).put x.dst (z0m ob l)) ti (.ptr m off) (st.ev x')=some s3:=by
   revert r1
   cases z8f (({ st with objs:=st.objs.set l ob }:St).put x.dst (z0m ob l)) ti (.ptr m off) (st.ev x') with
   | none=>intro r1; cases r1
   | some q=>intro r1; simpa[Tree.run] using r1
  unfold z8f at r1' ⊢
  split at r1'
  ·cases r1'
  rename_i b ls hls
  simp only[hls]
  split at r1'
  case isFalse=>cases r1'
  rename_i hcond
  rw[if_pos hcond]
  simp only at r1' ⊢
  split at r1'
  ·cases r1'
  rename_i hro
  rw[if_neg (show ¬(Nat.blt m st.ro=true) from hro)]
  split at r1'
  ·cases r1'
  rename_i sk' hk
  obtain⟨sk,hsk,rfl⟩:=zop hso hob (zki (fun h=>by cases h)) hk
  rw[hsk]
  simp only
  simp only[St.put] at r1'
  rw[z01 hne] at r1'
  split at r1'
  case h_2=>cases r1'
  rename_i cs hcs
  split at r1'
  case h_2=>cases r1'
  rename_i cs' hcs'
  split at r1'
  case isFalse=>cases r1'
  rename_i hkn
  simp only[hcs,hcs',hkn,if_true]
  simp only[Option.some.injEq] at r1'
  obtain⟨_,hsk2⟩:=z4c hsk
  have hlsk:sk.objs.length=st.objs.length:=by rw[hsk2]; simp
  have e1:(SV.kill false m)=SV.mapL (Leaf.kill false m):=by funext v; exact z6y v
  refine⟨_,rfl,fun z hz=>?_,?_,by simp only[List.length_set]; exact hlsk,by rw[hsk2],by rw[hsk2],?_⟩
  ·have hkl:Kl (z0c (z0k false [m])) (Leaf.kill false m):=Kl.kill (by simp)
   have q1:sk.ev z=(st.ev z).mapL (Leaf.kill false m):=zy1 hkl (by rw[hsk2,←e1]) z
   have q2:(st.ev z).mapL (Leaf.kill false m)=st.ev z:=zax hkl (hfx z hz).1 fun k hk2=>by rw[(hfx z hz).2] at hk2; cases hk2
   rw[q2] at q1
   rw[←q1]
   cases z<;>rfl
  ·show obj (sk.objs.set m _) l=_
   rw[z01 (fun e=>hne e.symm),hsk2]
   show obj (st.objs.map _) l=_
   rw[z8s,hob]; rfl
  ·rw[←r1']
   refine zmi _ _ rfl ?_ rfl rfl rfl
   exact List.set_comm _ _ (fun e=>hne e.symm)
 obtain⟨t1,hs,he,hd1,hlen,hro,hfx1,rfl⟩:=hkey
 refine⟨t1,?_,?_⟩
 ·simp only[hdn,hti,ea,ha,hw,hw0]
  rw[Tree.run_map]
  unfold Tree.ofOpt
  rw[hs]
  rfl
 ·exact hX t1 he hd1 (by rw[hlen,hro,hfx1]; exact hc)
theorem zub {ops:List Oper} {st s1 s2:St} {x y:Oper} {cx cy m:Nat} {T:TypeId} {ax mx:Operand} {lo hi:Option Operand} (hx:one1 E cb ops st x=some (s1,cx)) (hy:one1 E cb ops s1 y=some (s2,cy)) (hop:x.op=.slice T ax lo hi (some mx)) (hgx:x.guard=none) (hm:z1g E y=some m)
  (h1:z3o (z16 ops y) x.dst=false) (h2:z3o (z16 ops x) y.dst=false) (h3:z3o x.dst.toList y.dst=false):
  cx=3∧∃ t1,one1 E cb ops st y=some (t1,cy)∧one1 E cb ops t1 x=some (s2,cx):=by
 obtain⟨ob,hso,_,hob,hc,hcy,rfl,hfy,hY⟩:=zdc hy hm
 have hsl:z1g E x=none:=zgd (by simp[z41,hop])
 unfold one1 z1a at hx ⊢
 simp only[hgx] at hx ⊢
 rw[z1w hsl] at hx
 unfold z6u at hx
 split at hx
 case h_2=>
  exfalso
  split at hx
  ·cases hx
  ·rw[Tree.run_map] at hx
   obtain⟨p,q1,q2⟩:=Tree.run_some _ hx
   simp only[z0l,hop] at q1
   cases q1
 rename_i t ht
 rw[Tree.run_map] at hx
 obtain⟨s3,r1,r2⟩:=Tree.run_some t hx
 simp only[Option.some.injEq,Prod.mk.injEq] at r2
 obtain⟨rfl,rfl⟩:=r2
 have hw:∀ s:St,wcls E cb s.ev s.objs x=3:=fun s=>by unfold wcls; simp only[hop]
 rw[hw]
 refine⟨rfl,?_⟩
 unfold z57 at ht
 simp only[hop] at ht
 cases hi with
 | none=>cases ht
 | some hi=>
 simp only at ht
 split at ht
 case h_2=>cases ht
 rename_i l hax hws
 simp only[Option.some.injEq] at ht
 subst ht
 unfold zrg at r1
 split at r1
 ·cases r1
 rename_i hcond
 split at r1
 case h_2=>cases r1
 rename_i e tt xs d L hobl
 split at r1
 case isFalse=>cases r1
 rename_i hsz
 split at r1
 case h_2=>cases r1
 rename_i i j k hlo hhi hmx
 obtain⟨g1,r1⟩:=Tree.run_need r1
 obtain⟨g2,r1⟩:=Tree.run_need r1
 obtain⟨g3,r1⟩:=Tree.run_need r1
 obtain⟨g4,r1⟩:=Tree.run_need r1
 split at r1
 case h_2=>cases r1
 rename_i sk hsk
 simp only[Tree.run,Option.some.injEq] at r1
 subst r1
 obtain⟨_,hsk2⟩:=z4c hsk
 have hlsk:sk.objs.length=st.objs.length:=by rw[hsk2]; simp
 have hll:l<st.objs.length:=z0o (by rw[hobl]; simp)
 simp only[St.put,List.length_set] at hob hc
 have hne:m≠l:=by
  intro e
  subst e
  rw[z0a (by rw[hlsk]; exact hll)] at hob
  cases hob
 rw[z01 hne,hsk2] at hob
 have hdead:obj st.objs m=.dead:=by
  have hob2:obj (st.objs.map (AObj.kill true l)) m=.dead:=hob
  rw[z8s] at hob2
  cases ho:obj st.objs m<;>rw[ho] at hob2<;>first | rfl | cases hob2
 have hkl:Kl (z0c (z0k true [l])) (Leaf.kill true l):=Kl.kill (by simp)
 have e1:(SV.kill true l)=SV.mapL (Leaf.kill true l):=by funext v; exact z6y v
 have hevy:∀ z∈y.op.operands.toList,(({ sk with objs:=sk.objs.set l (.row e tt ((xs.take j.toNat).drop i.toNat) d L) }:St).put x.dst (.one (.own l))).ev z=st.ev z:=by
  intro z hz
  have a1:AgreeOn ops y (({ sk with objs:=sk.objs.set l (.row e tt ((xs.take j.toNat).drop i.toNat) d L) }:St).put x.dst (.one (.own l))) sk:=fun t ht=>(z3s (z3n h1 t ht)).symm
  have q:=z21 a1 z hz
  have q2:sk.ev z=(st.ev z).mapL (Leaf.kill true l):=zy1 hkl (by rw[hsk2,←e1]) z
  rw[q,q2]
  exact znx hkl (by rw[←q2,←q]; exact (hfy z hz).1)
 have hc0:(Nat.blt m st.objs.length&&(!Nat.blt m st.ro&&!Nat.blt m st.fx))=true:=by
  rw[hlsk,hsk2] at hc
  exact hc
 refine⟨_,hY st hevy hdead hc0,?_⟩
 have a2:AgreeOn ops x st (({ st with objs:=st.objs.set m ob }:St).put y.dst (z0m ob m)):=fun t ht=>z3s (z3n h2 t ht)
 have hev:=z21 a2
 have hbn:∀ (q:Option Operand) (dflt:Int),(∀ z,q=some z→z∈x.op.operands.toList)→bnd (({ st with objs:=st.objs.set m ob }:St).put y.dst (z0m ob m)).ev dflt q=bnd st.ev dflt q:=by
  intro q dflt hq
  cases q with
  | none=>rfl
  | some z=>simp only[bnd]; rw[←hev z (hq z rfl)]
 have b1:=hbn lo 0 (by rintro z rfl; simp[hop,Op.operands])
 have b2:=hbn (some hi) 0 (by rintro z hz; cases hz; simp[hop,Op.operands])
 have b3:=hbn (some mx) 0 (by rintro z hz; cases hz; simp[hop,Op.operands])
 rw[z1w hsl]
 unfold z6u
 have hk2:=zlc hso (d:=y.dst) (sv:=z0m ob m) hdead (zki (fun _=>fun e=>hne e.symm)) hsk
 have hW:z57 E cb (({ st with objs:=st.objs.set m ob }:St).put y.dst (z0m ob m)) x=some (zrg (szIs (z3b E T)) (({ st with objs:=st.objs.set m ob }:St).put y.dst (z0m ob m)) x.dst l lo hi mx):=by
  unfold z57
  simp only[hop]
  rw[←hev ax (by simp[hop,Op.operands]),hax,hws]
 rw[hW]
 simp only
 rw[Tree.run_map]
 have hobl2:obj (({ st with objs:=st.objs.set m ob }:St).put y.dst (z0m ob m)).objs l=.row e tt xs d L:=by
  show obj (st.objs.set m ob) l=_
  rw[z01 (fun e=>hne e.symm)]; exact hobl
 unfold zrg
 have hcond2:¬((Nat.blt l (({ st with objs:=st.objs.set m ob }:St).put y.dst (z0m ob m)).ro||Nat.blt l (({ st with objs:=st.objs.set m ob }:St).put y.dst (z0m ob m)).fx)=true):=hcond
 rw[if_neg hcond2,hobl2]
 simp only
 rw[if_pos hsz,b1,b2,b3,hlo,hhi,hmx]
 simp only[g1,g2,g3,g4,Tree.need,Tree.run,hk2,hw,if_true]
 congr 2
 refine zmi _ _ ?_ ?_ rfl rfl rfl
 ·exact zad h3 _ _ _
 ·exact List.set_comm _ _ hne
theorem zw7 {ops:List Oper} {st s1 s2:St} {x y:Oper} {cx cy:Nat} (hx:one1 E cb ops st x=some (s1,cx)) (hy:one1 E cb ops s1 y=some (s2,cy)) (h6:cx % 8=6) (h7:cy % 8=7) {l:Nat} (hsl:z1g E y=some l) (hdis:(cx / 8) &&& (cy / 8)=0)
  (h1:z3o (z16 ops y) x.dst=false) (h2:z3o (z16 ops x) y.dst=false) (h3:z3o x.dst.toList y.dst=false):
  ∃ t1,one1 E cb ops st y=some (t1,cy)∧one1 E cb ops t1 x=some (s2,cx):=by
 obtain⟨ob,hso,hgn,hob,hc,hcy,hs2,hfy,hY⟩:=zdc hy hsl
 unfold one1 at hx
 cases hgx:z1a ops st x with
 | none=>rw[hgx] at hx; cases hx
 | some bb=>
 cases bb with
 | false=>rw[hgx] at hx; simp only[Option.some.injEq,Prod.mk.injEq] at hx; omega
 | true=>
 rw[hgx] at hx
 simp only at hx
 obtain⟨hslx,hx⟩:=z94 hx (by omega)
 unfold z6u at hx
 split at hx
 case h_2=>
  exfalso
  split at hx
  ·cases hx
  ·rw[Tree.run_map] at hx
   obtain⟨p,_,q2⟩:=Tree.run_some _ hx
   simp only[Option.some.injEq,Prod.mk.injEq] at q2
   have:=zdh (E:=E) (ρ:=st.ev) (o:=x) (os:=p.2)
   omega
 rename_i t ht
 rw[Tree.run_map] at hx
 obtain⟨s3,r1,r2⟩:=Tree.run_some t hx
 simp only[Option.some.injEq,Prod.mk.injEq] at r2
 obtain⟨rfl,rfl⟩:=r2
 obtain⟨c,f,g,s,x0,L,W,hop,hcal,hfl,hrf,hsg,hgi,hw⟩:=zpk h6
 unfold z57 at ht
 simp only[hop,hcal,hfl,hrf,hsg] at ht
 split at ht
 case isFalse=>cases ht
 rename_i hm
 simp only[Option.some.injEq] at ht
 subst ht
 unfold zrp at r1
 rw[hgi] at r1
 simp only at r1
 split at r1
 case isFalse=>cases r1
 rename_i hcond
 simp only[Tree.run] at r1
 cases hz:s.fn x0 with
 | none=>rw[hz] at r1; cases r1
 | some z=>
 rw[hz] at r1
 simp only[Option.bind_some] at r1
 split at r1
 ·cases r1
 rename_i st1 hk
 split at r1
 ·cases r1
 rename_i os hput
 simp only[Tree.run,Option.some.injEq] at r1
 have hnc:(s.ins.all fun p=>!p.isClo)=true:=by
  simp only[Bool.and_eq_true] at hcond; exact hcond.2
 have e8:wcls E cb st.ev st.objs x / 8=z0c (z0k false W):=by rw[hw]; omega
 have e8y:cy / 8=z0c (z0k true [l]):=by rw[hcy]; omega
 have hbit:∀ k∈z0k true [l],(wcls E cb st.ev st.objs x / 8).testBit (k+1)=false:=fun k hk2=>by
  refine z32 (a:=cy / 8) (by rw[Nat.and_comm]; exact hdis) ?_
  rw[e8y]
  cases hb:(z0c (z0k true [l])).testBit (k+1) with
  | true=>rfl
  | false=>exact absurd hk2 (z2a hb)
 have hlW:l∉W:=fun hm2=>by
  have:=hbit (2*l) (z1e (by simp)).1
  rw[e8] at this
  exact z2a this (z1e hm2).1
 obtain⟨kf,hkl,hst1,hst⟩:=KL.killAll (hd:=false) (W:=W) W (fun _ h=>h) _ _ hk
 have hlen1:st1.objs.length=st.objs.length:=by rw[hst1]; simp[St.mapS]
 have hleno:os.length=st.objs.length:=(z9m s.ins hput).trans hlen1
 have o1:s3.objs=os++(z0e L s.outs z.1 os.length).2:=by rw[←r1]; rfl
 have hlt:l<st.objs.length:=by
  rw[←hleno]
  refine Decidable.byContradiction fun hn=>?_
  have hl2:l<s3.objs.length:=by simp only[Bool.and_eq_true] at hc; simpa using hc.1
  rw[o1] at hob hl2
  have he:obj (os++(z0e L s.outs z.1 os.length).2) l∈(z0e L s.outs z.1 os.length).2:=by
   rw[List.length_append] at hl2
   simp only[obj,List.getD,List.getElem?_append_right (show os.length≤l by omega),List.getElem?_eq_getElem (show l - os.length<(z0e L s.outs z.1 os.length).2.length by omega),Option.getD_some]
   exact List.getElem_mem _
  obtain⟨_,_,_,_,_,he2⟩:=z7g _ _ _ _ he
  rw[hob] at he2; cases he2
 have hob1:obj st1.objs l=.dead:=by
  rw[←z2t s.ins hgi hlW hput,←hob,o1,z29 (by rw[hleno]; exact hlt)]
 have hob0:obj st.objs l=.dead:=by
  rw[hst1] at hob1
  simp only[St.mapS,obj,List.getD,List.getElem?_map,List.getElem?_eq_getElem hlt,Option.map_some,Option.getD_some] at hob1 ⊢
  cases ho:st.objs[l] with
  | dead=>rfl
  | hol _ _ _=>rw[ho] at hob1; cases hob1
  | row _ _ _ _ _=>rw[ho] at hob1; cases hob1
  | box _=>rw[ho] at hob1; cases hob1
 have hro:s3.ro=st.ro:=by rw[←r1]; show st1.ro=_; rw[hst1]; rfl
 have hfx:s3.fx=st.fx:=by rw[←r1]; show st1.fx=_; rw[hst1]; rfl
 have hc0:(Nat.blt l st.objs.length&&(!Nat.blt l st.ro&&!Nat.blt l st.fx))=true:=by
  rw[hro,hfx] at hc
  simp only[Bool.and_eq_true] at hc ⊢
  exact⟨by simpa using hlt,hc.2⟩
 have hptr:(z0m ob l).mapL kf=z0m ob l:=by
  refine zax hkl (zkj ob l).1 fun k hk2=>?_
  have hk3:k=2*l+1:=by rw[(zkj ob l).2] at hk2; simpa using hk2
  subst hk3
  have:=hbit (2*l+1) ((z1e (by simp)).2 rfl)
  rw[e8] at this
  exact this
 have hevy:∀ z∈y.op.operands.toList,s3.ev z=st.ev z:=by
  intro z hz
  have a1:AgreeOn ops y s3 st1:=by
   intro t ht
   rw[←r1]
   exact (z3s (z3n h1 t ht)).symm
  have q:=z21 a1 z hz
  have q2:st1.ev z=(st.ev z).mapL kf:=zy1 hkl (by rw[hst1]; rfl) z
  rw[q,q2]
  exact znx hkl (by rw[←q2,←q]; exact (hfy z hz).1)
 refine⟨({ st with objs:=st.objs.set l ob }:St).put y.dst (z0m ob l),hY st hevy hob0 hc0,?_⟩
 ·have hag:AgreeOn ops x st (({ st with objs:=st.objs.set l ob }:St).put y.dst (z0m ob l)):=by
   intro t ht
   show (z04 st.regs y.dst (z0m ob l)).getD t _=st.regs.getD t _
   exact z3s (z3n h2 t ht)
  have hev:=z21 hag
  have hgd:=z5s hag
  have hle:LeO st.objs (st.objs.set l ob):=by
   intro k z hk hz
   rw[z01 (fun e=>by subst e; rw[hob0] at hk; exact hz hk.symm)]
   exact hk
  generalize hT:({ st with objs:=st.objs.set l ob }:St).put y.dst (z0m ob l)=t1 at hag hev hgd
  have p1:t1.objs=st.objs.set l ob:=by rw[←hT]; rfl
  have p2:t1.ro=st.ro:=by rw[←hT]; rfl
  have hops:=z6j (c:=c)
  have ef:st.ev f=t1.ev f:=hev f (by rw[hop]; exact hops.2 f hcal)
  have eargs:c.args.toList.map st.ev=c.args.toList.map t1.ev:=List.map_congr_left fun z hz=>hev z (by rw[hop]; exact hops.1 z hz)
  have hgi1:z05 cb t1.objs s.ins (c.args.toList.map t1.ev)=some (x0,L,W):=by
   rw[p1,←eargs]
   exact z8a hle s.ins hnc hgi
  have hw1:wcls E cb t1.ev t1.objs x=wcls E cb st.ev st.objs x:=by
   rw[hw]
   unfold wcls
   simp only[hop,hcal,←ef,hfl,hrf,hsg,hgi1]
  have hk1:t1.killAll false W=some { (st.put y.dst (z0m ob l)).mapS kf with objs:=((st.put y.dst (z0m ob l)).mapS kf).objs.set l ob }:=by
   rw[←hT]
   exact zld hso W (hst (st.put y.dst (z0m ob l)) rfl rfl rfl)
  have hput1:z19 L (((st.put y.dst (z0m ob l)).mapS kf).objs.set l ob) s.ins z.2 (c.args.toList.map t1.ev)=some (os.set l ob):=by
   rw[←eargs]
   refine zcm s.ins hgi hnc hlW ?_
   rw[show ((st.put y.dst (z0m ob l)).mapS kf).objs=st1.objs by rw[hst1]; rfl]
   exact hput
  unfold one1
  rw[hgd,hgx]
  simp only
  rw[z1w hslx]
  unfold z6u z57
  simp only[hop,hcal,←ef,hfl,hrf,hsg]
  rw[if_pos hm]
  simp only
  rw[Tree.run_map]
  unfold zrp
  rw[hgi1]
  simp only
  rw[p2,if_pos hcond]
  simp only[Tree.run,hz,Option.bind_some]
  rw[hk1]
  simp only
  rw[hput1]
  simp only[Tree.run,Option.map_some]
  rw[hw1,hs2]
  congr 2
  refine zmi _ _ ?_ ?_ ?_ ?_ ?_
  ·have key:(z04 st.regs y.dst (z0m ob l)).map (SV.mapL kf)=z04 (st.regs.map (SV.mapL kf)) y.dst (z0m ob l):=by
    cases y.dst with
    | none=>rfl
    | some d=>simp only[z04,List.map_set,hptr]
   have e9:List.length (os.set l ob)=List.length os:=List.length_set
   show z04 ((z04 st.regs y.dst (z0m ob l)).map (SV.mapL kf)) x.dst (zcp (z0e L s.outs z.1 (List.length (os.set l ob))).1)=z04 s3.regs y.dst (z0m ob l)
   rw[key,e9,←r1,hst1]
   exact zad h3 _ _ _
  ·show os.set l _++_=s3.objs.set l _
   rw[o1,List.length_set,List.set_append_left _ _ (by rw[hleno]; exact hlt)]
  ·rw[←r1,hst1]; rfl
  ·rw[←r1,hst1]; rfl
  ·rw[←r1,hst1]; rfl
theorem zw8 {ops:List Oper} {st s1 s2:St} {x y:Oper} {cx cy:Nat} (hx:one1 E cb ops st x=some (s1,cx)) (hy:one1 E cb ops s1 y=some (s2,cy)) (h2c:cx % 8=2) (h7:cy % 8=7) {l:Nat} (hsl:z1g E y=some l) (hfl:zi1 E x=true) (hbl:cy / 8<2 ^ (2*(cx / 8)+1))
  (h1:z3o (z16 ops y) x.dst=false) (h2:z3o (z16 ops x) y.dst=false) (h3:z3o x.dst.toList y.dst=false):
  ∃ t1,one1 E cb ops st y=some (t1,cy)∧one1 E cb ops t1 x=some (s2,cx):=by
 have hlen:=zvx hx h2c
 have kx:∃ v nx,s1=eff st x v nx∧z1a ops st x=some true∧z57 E cb st x=none∧¬((z1t E st.ev x&&!Nat.beq st.fx 0)=true)∧(z0l E cb st.ev st.objs x).run some=some (v,nx)∧z1g E x=none∧cx=clsV E st.ev x nx+8*mkS st x v (clsV E st.ev x nx):=by
  unfold one1 at hx
  cases hg:z1a ops st x with
  | none=>rw[hg] at hx; cases hx
  | some bb=>
  cases bb with
  | false=>rw[hg] at hx; simp only[Option.some.injEq,Prod.mk.injEq] at hx; omega
  | true=>
  rw[hg] at hx
  simp only at hx
  obtain⟨hslx,hx⟩:=z94 hx (by omega)
  unfold z6u at hx
  split at hx
  ·rename_i t ht
   rw[Tree.run_map] at hx
   obtain⟨s,_,q2⟩:=Tree.run_some t hx
   simp only[Option.some.injEq,Prod.mk.injEq] at q2
   have:=zns E cb st.ev st.objs x
   omega
  ·rename_i hW
   split at hx
   ·cases hx
   ·rename_i hh
    rw[Tree.run_map] at hx
    obtain⟨⟨v,new⟩,q1,q2⟩:=Tree.run_some _ hx
    simp only[Option.some.injEq,Prod.mk.injEq] at q2
    exact⟨v,new,q2.1.symm,rfl,hW,hh,q1,hslx,q2.2.symm⟩
 obtain⟨v,nx,hs1,hgx,hWx,hhx,hrx,hslx,hcx⟩:=kx
 subst hs1
 unfold zi1 at hfl
 split at hfl
 case h_2=>cases hfl
 rename_i c hop
 split at hfl
 case h_2=>cases hfl
 rename_i g hcal
 split at hfl
 case h_2=>cases hfl
 rename_i s hsg
 obtain⟨ob,hso,hgn,hob,hc,hcy,hs2,hfy,hY⟩:=zdc hy hsl
 have hob:obj (st.objs++nx) l=.dead:=hob
 have hc:(Nat.blt l (st.objs++nx).length&&(!Nat.blt l st.ro&&!Nat.blt l st.fx))=true:=hc
 have hlt:l<st.objs.length:=by
  rw[←hlen]
  refine Decidable.byContradiction fun hn=>?_
  have e8:cy / 8=z0c (z0k true [l]):=by omega
  have hb:(cy / 8).testBit (2*l+1)=true:=by
   cases hb:(cy / 8).testBit (2*l+1) with
   | true=>rfl
   | false=>
    rw[e8] at hb
    exact absurd (z1e (hd:=true) (W:=[l]) (l:=l) (by simp)).1 (z2a hb)
  have:=Nat.testBit_lt_two_pow (Nat.lt_of_lt_of_le hbl (Nat.pow_le_pow_right (by omega) (by omega:2*(cx / 8)+1≤2*l+1)))
  rw[this] at hb
  cases hb
 have hob0:obj st.objs l=.dead:=by rw[←hob,z29 hlt]
 have hset:(st.objs++nx).set l ob=st.objs.set l ob++nx:=List.set_append_left _ _ hlt
 have hc0:(Nat.blt l st.objs.length&&(!Nat.blt l st.ro&&!Nat.blt l st.fx))=true:=by
  simp only[Bool.and_eq_true] at hc ⊢
  exact⟨by simpa using hlt,hc.2⟩
 refine⟨({ st with objs:=st.objs.set l ob }:St).put y.dst (z0m ob l),hY st (z21 (z4g (st:=st) (v:=v) (new:=nx) h1)) hob0 hc0,?_⟩
 ·have hag:AgreeOn ops x st (({ st with objs:=st.objs.set l ob }:St).put y.dst (z0m ob l)):=by
   intro t ht
   show (z04 st.regs y.dst (z0m ob l)).getD t _=st.regs.getD t _
   exact z3s (z3n h2 t ht)
  have hev:=z21 hag
  have hgd:=z5s hag
  generalize hT:({ st with objs:=st.objs.set l ob }:St).put y.dst (z0m ob l)=t1 at hag hev hgd
  have o1:t1.objs=st.objs.set l ob:=by rw[←hT]; rfl
  have o2:t1.ro=st.ro:=by rw[←hT]; rfl
  have o3:t1.fx=st.fx:=by rw[←hT]; rfl
  have o4:t1.regs=z04 st.regs y.dst (z0m ob l):=by rw[←hT]; rfl
  have o5:t1.frm=st.frm:=by rw[←hT]; rfl
  have hle:LeO st.objs t1.objs:=by
   intro k z hk hz
   rw[o1,z01 (fun e=>by subst e; rw[hob0] at hk; exact hz hk.symm)]
   exact hk
  have hlen1:t1.objs.length=st.objs.length:=by rw[o1,List.length_set]
  have hW':z57 E cb t1 x=none:=zfh hev (fun t n parts ho=>by rw[hop] at ho; cases ho) o2 o3 hWx
  have hrun:(z0l E cb t1.ev t1.objs x).run some=some (v,nx):=by
   rw[←z71 hev]
   have hfn:(st.ev (.func g)).leaf=.fn g []:=rfl
   simp only[z0l,hop,hcal,hfn,hsg] at hrx ⊢
   split at hrx
   ·cases hrx
   ·rename_i hm
    rw[if_neg hm]
    unfold ztf at hrx ⊢
    split at hrx
    ·cases hrx
    ·rename_i q L W hq
     rw[z8a hle s.ins hfl hq,hlen1]
     exact hrx
  unfold one1
  rw[hgd,hgx]
  simp only
  rw[z1w hslx]
  unfold z6u
  rw[hW']
  simp only
  rw[←z7j (E:=E) hev,o3,if_neg hhx,Tree.run_map]
  rw[Tree.run_then _ _ hrun]
  have hcl:=zfq (E:=E) (os:=nx) hev
  have hmk:mkS t1 x v (clsV E st.ev x nx)=mkS st x v (clsV E st.ev x nx):=by
   unfold mkS
   rw[←zc3 hev,hlen1]
  rw[←hcl,hmk,←hcx,hs2]
  congr 2
  refine zmi _ _ ?_ ?_ o2 rfl o5
  ·show z04 t1.regs x.dst v=z04 (z04 st.regs x.dst v) y.dst _
   rw[o4,zad h3]
  ·show t1.objs++nx=_
   rw[o1]
   exact hset.symm
theorem zez {o:Oper} (h:zf0 E o=true):∃ l,z1g E o=some l:=by
 unfold zf0 at h
 cases hs:z1g E o with
 | none=>rw[hs] at h; cases h
 | some l=>exact⟨l,rfl⟩
theorem zos {o:Oper} (h:zot E o=true):(∃ l,z1g E o=some l)∨∃ T a lo hi mx,o.op=.slice T a lo hi (some mx)∧o.guard=none:=by
 unfold zot at h
 rw[Bool.or_eq_true] at h
 rcases h with h | h
 ·exact .inl (zez h)
 ·split at h
  ·exact .inr ⟨_,_,_,_,_,by assumption,by assumption⟩
  ·cases h
theorem zvb {ops:List Oper} {st s1:St} {x:Oper} {cx l:Nat} (hx:one1 E cb ops st x=some (s1,cx)) (hl:z1g E x=some l):cx % 8=7:=by
 obtain⟨_,_,_,_,_,hc,_⟩:=zdc hx hl
 omega
set_option maxHeartbeats 4000000 in
theorem zw6 {ops:List Oper} {st s1 s2:St} {x y:Oper} {cx cy:Nat} (hx:one1 E cb ops st x=some (s1,cx)) (hy:one1 E cb ops s1 y=some (s2,cy)) (hm:zgk E ops x y cx cy=true) (hmid:(cx % 8≠3∧cy % 8≠3)∨(midK E z3i x y=false∧midK E z3h x y=false)):
  ∃ t1,one1 E cb ops st y=some (t1,cy)∧one1 E cb ops t1 x=some (s2,cx):=by
 unfold zgk zpx zrn at hm
 simp only[Bool.and_eq_true,Bool.not_eq_true'] at hm
 obtain⟨⟨⟨h1,h2⟩,h3⟩,h4⟩:=hm
 by_cases h37:cx % 8=3∧cy % 8=7
 ·rw[h37.1,h37.2] at h4
  simp only[Bool.and_eq_true] at h4
  obtain⟨m,hm⟩:=zez h4.2
  rcases zos h4.1 with ⟨l,hl⟩ | ⟨T,a,lo,hi,mx,hop,hg⟩
  ·have:=zvb hx hl; omega
  ·exact (zub hx hy hop hg hm h1 h2 h3).2
 by_cases h77:cx % 8=7∧cy % 8=7
 ·rw[h77.1,h77.2] at h4
  simp only[Bool.and_eq_true] at h4
  obtain⟨m,hm⟩:=zez h4.1
  rcases zos h4.2.1 with ⟨l,hl⟩ | ⟨T,a,lo,hi,mx,hop,hg⟩
  ·exact zxy hx hy hl hm h1 h2 h3
  ·have:=(zub hx hy hop hg hm h1 h2 h3).1; omega
 by_cases h75:cx % 8=7∧cy % 8=5
 ·rw[h75.1,h75.2] at h4
  simp only[Bool.and_eq_true,beq_iff_eq] at h4
  obtain⟨h4a,h4b,h4c⟩:=h4
  have h4b:y.guard=none:=by simpa using h4b
  rcases zos h4a with ⟨l,hl⟩ | ⟨T,a,lo,hi,mx,hop,hg⟩
  ·exact zva hx hy hl h75.2 h4b h4c h1 h2
  ·exfalso
   have hsl:z1g E x=none:=zgd (by simp[z41,hop])
   unfold one1 z1a at hx
   simp only[hg] at hx
   rw[z1w hsl] at hx
   unfold z6u at hx
   split at hx
   ·rw[Tree.run_map] at hx
    obtain⟨s3,_,r2⟩:=Tree.run_some _ hx
    simp only[Option.some.injEq,Prod.mk.injEq] at r2
    have hw:wcls E cb st.ev st.objs x=3:=by unfold wcls; simp only[hop]
    omega
   ·split at hx
    ·cases hx
    ·rw[Tree.run_map] at hx
     obtain⟨p,q1,q2⟩:=Tree.run_some _ hx
     simp only[z0l,hop] at q1
     cases q1
 have h33:cx % 8≠3∧cy % 8≠3:=by
  rcases hmid with h | ⟨q1,q2⟩
  ·exact h
  ·rw[q1,q2] at h4
   refine⟨fun e=>?_,fun e=>?_⟩<;>rw[e] at h4<;>split at h4
   all_goals first | omega | simp[zl6] at h4
 by_cases hc4:cy % 8=4
 ·have h0:zlf x=true∧cy=4∧cx / 8≤1:=by
   rw[hc4] at h4
   split at h4<;>simp_all
  obtain⟨h0,rfl,hle⟩:=h0
  exact zw9 hx hy h0 hle h1 h2 h3
 by_cases h67:cx % 8=6∧cy % 8=7
 ·rw[h67.1,h67.2] at h4
  simp only[Bool.and_eq_true,beq_iff_eq] at h4
  obtain⟨l,hl⟩:=zez h4.1.1
  exact zw7 hx hy h67.1 h67.2 hl h4.2 h1 h2 h3
 by_cases hw:cx % 8=5∨cx % 8=6∨cx % 8=7
 ·have h0:y.guard=none∧cy % 8≤1∧cy / 8≠0∧(cx / 8) &&& (cy / 8)=0:=by
   rcases hw with hw | hw | hw<;>rw[hw] at h4<;>split at h4
   all_goals first | omega | skip
   all_goals simp_all
  have h6:cy % 8=1→cx % 8=6→isIx y=false∧(cy / 8) % 2=1:=by
   intro e1 e2
   rw[e1,e2] at h4
   simp only[Bool.and_eq_true,Bool.not_eq_true',beq_iff_eq] at h4
   exact h4.1.2
  exact y1o hx hy hw h0.1 h0.2.1 h6 h0.2.2.1 h0.2.2.2 h1 h2 h3
 by_cases h27:cx % 8=2∧cy % 8=7
 ·rw[h27.1,h27.2] at h4
  simp only[Bool.and_eq_true] at h4
  obtain⟨l,hl⟩:=zez h4.1.1
  exact zw8 hx hy h27.1 h27.2 hl h4.1.2 (by simpa using h4.2) h1 h2 h3
 by_cases hc5:cy % 8=5∨cy % 8=6∨cy % 8=7
 ·have h0:(zht x=true∧cx / 8=0∧cy % 8=5)∨(x.guard=none∧cx % 8≤1∧cx / 8≠0∧(cx / 8) &&& (cy / 8)=0):=by
   rcases hc5 with hc5 | hc5 | hc5<;>rw[hc5] at h4<;>split at h4
   all_goals first | omega | skip
   all_goals simp_all
  rcases h0 with ⟨h0,hz,h5⟩ | ⟨q0,q1,q2,q3⟩
  ·exact zz9 hx hy h5 h0 (by omega) h1
  ·exact y1n hx hy hc5 q0 q1 q2 (fun e1 e2 e3=>by rw[e1,e3] at h4; simp only[e2,Bool.not_true,Bool.false_or,Bool.and_eq_true,beq_iff_eq] at h4; exact h4.1.2) q3 h1 h2 h3
 have hcase:cx % 8≤2∧cy % 8≤2∧(cx % 8≤1∨cy % 8=0∨(cx % 8=2∧cy % 8=1∧cy / 8≠0∧cy / 8<2 ^ (2*(cx / 8)+1)))∧(cy % 8=2→cx % 8≤1):=by
  clear hx hy hmid h1 h2 h3
  have hw2:cx % 8≠5∧cx % 8≠6∧cx % 8≠7:=⟨fun e=>hw (.inl e),fun e=>hw (.inr (.inl e)),fun e=>hw (.inr (.inr e))⟩
  have hc52:cy % 8≠5∧cy % 8≠6∧cy % 8≠7:=⟨fun e=>hc5 (.inl e),fun e=>hc5 (.inr (.inl e)),fun e=>hc5 (.inr (.inr e))⟩
  clear hw hc5 h37 h77 h75 h67 h27
  split at h4
  all_goals first | omega | simp_all
 obtain⟨hcx,hcy,hA,hB⟩:=hcase
 obtain⟨v,nx,hs1,_,hnx⟩:=zhi hx hcx (st':=st) (fun _ _=>rfl) rfl rfl (.inl rfl)
 subst hs1
 have hn2:cx % 8=2→cx / 8=st.objs.length:=zvx hx
 obtain⟨u,ny,hs2,hyt,hny⟩:=zhi hy hcy (st':=st) (z4g h1) rfl rfl (by
  rcases hA with h | h | ⟨q0,q1,q2,q3⟩
  ·left; rw[hnx h]; simp[eff]
  ·exact .inr (.inr (.inl h))
  ·exact .inr (.inr (.inr ⟨q1,q2,by rw[←hn2 q0]; exact q3,nx,rfl⟩)))
 subst hs2
 obtain⟨v',nx',he,hxt,hnx'⟩:=zhi hx hcx (st':=eff st y u ny) (z4g h2).symm rfl rfl (by
  by_cases hc:cy % 8≤1
  ·left; rw[hny hc]; simp[eff]
  ·exact .inr (.inl ⟨hB (by omega),ny,rfl⟩))
 refine⟨_,hyt,?_⟩
 rw[hxt]
 congr 1
 congr 1
 have hd:∀ (regs:List SV) (p q:SV),z04 (z04 regs y.dst p) x.dst q=z04 (z04 regs x.dst q) y.dst p:=by
  intro regs p q
  cases hxd:x.dst with
  | none=>rfl
  | some d=>
   cases hyd:y.dst with
   | none=>rfl
   | some e=>
    have hne:e≠d:=fun e'=>by
     rw[hxd,hyd,e'] at h3
     simp[z3o,has] at h3
    simp[z04,List.set_comm _ _ hne]
 have hregs:z04 st.regs x.dst v=z04 st.regs x.dst v':=by have:=congrArg St.regs he; exact this
 have hobjs:nx=nx':=by have:=congrArg St.objs he; simpa[eff] using this
 subst hobjs
 have e1:(eff (eff st y u ny) x v' nx).regs=(eff (eff st x v nx) y u ny).regs:=by
  show z04 (z04 st.regs y.dst u) x.dst v'=z04 (z04 st.regs x.dst v) y.dst u
  rw[hd,←hregs]
 have e2:(eff (eff st y u ny) x v' nx).objs=(eff (eff st x v nx) y u ny).objs:=by
  show st.objs++ny++nx=st.objs++nx++ny
  by_cases hc:cx % 8≤1
  ·rw[hnx hc]; simp
  ·rw[hny (by rcases hA with h | h | h; exact absurd h hc; all_goals omega)]; simp
 have e3:∀ (a b:St),a.regs=b.regs→a.objs=b.objs→a.ro=b.ro→a.fx=b.fx→a.frm=b.frm→a=b:=by
  intro a b h1 h2 h3 h4 h5
  cases a; cases b; simp_all
 exact e3 _ _ e1 e2 rfl rfl rfl
theorem zoj {ops:List Oper} {s s1:PSt} {o:Oper} {c:Nat} (h:oneP E cb ops s o=some (s1,c)):
  (z9n E s o=true∧one1 E cb ops s.1 o=some (s1.1,c)∧s1.2=s.2) ∨
  (o.guard=none∧s.2=none∧z1s E.app o.dst=true∧∃ p,(appT E s.1 o).run some=some (s1.1,p)∧s1.2=some p∧c=zdx s.1 o) ∨
  (o.guard=none∧∃ p,s.2=some p∧(zgv E s.1 o p).run some=some s1.1∧s1.2=none∧c=3):=by
 obtain⟨st,pd⟩:=s
 obtain⟨t1,q1⟩:=s1
 unfold oneP at h
 split at h
 ·rename_i hb
  split at h
  ·rename_i s' c' h1
   simp only[Option.some.injEq,Prod.mk.injEq] at h
   obtain⟨⟨rfl,rfl⟩,rfl⟩:=h
   exact .inl ⟨hb,h1,rfl⟩
  ·cases h
 ·rename_i hb
  split at h
  ·cases h
  rename_i hg
  cases pd with
  | none=>
   simp only at h
   obtain⟨q,h1,h2⟩:=Tree.run_some _ h
   simp only[Option.some.injEq,Prod.mk.injEq] at h2
   obtain⟨⟨rfl,rfl⟩,rfl⟩:=h2
   exact .inr (.inl ⟨hg,rfl,by simpa[z9n] using hb,q.2,h1,rfl,rfl⟩)
  | some p=>
   simp only at h
   obtain⟨q,h1,h2⟩:=Tree.run_some _ h
   simp only[Option.some.injEq,Prod.mk.injEq] at h2
   obtain⟨⟨rfl,rfl⟩,rfl⟩:=h2
   exact .inr (.inr ⟨hg,p,rfl,h1,rfl,rfl⟩)
theorem z5v {ops:List Oper} {st s1:St} {pd:Option Pend} {o:Oper} {c:Nat} (hb:z9n E (st,pd) o=true) (h:one1 E cb ops st o=some (s1,c)):oneP E cb ops (st,pd) o=some ((s1,pd),c):=by
 unfold oneP
 simp only[hb,h]
theorem zok {ops:List Oper} {st s1:St} {p:Pend} {o:Oper} (hg:o.guard=none) (hw:z1s E.app o.dst=true) (h:(appT E st o).run some=some (s1,p)):oneP E cb ops (st,none) o=some ((s1,some p),zdx st o):=by
 unfold oneP z9n
 simp only[hw,Bool.not_true,hg]
 exact Tree.run_then _ (fun q=>((q.1,some q.2),zdx st o)) h
theorem KL.mono {m m':Nat} {K:St→Option St} (h:KL m K) (hm:∀ k,m.testBit k=true→m'.testBit k=true):KL m' K:=by
 intro s1 s2 hk
 obtain⟨f,h1,h2,h3⟩:=h s1 s2 hk
 exact⟨f,h1.mono hm,h2,h3⟩
theorem znb {W V:List Nat} (h:∀ k∈W,k∈V):∀ k,(z0c W).testBit k=true→(z0c V).testBit k=true:=by
 have key:∀ (W:List Nat) (a k:Nat),(W.foldl (fun a l=>a ||| 2 ^ (l+1)) a).testBit k=true→a.testBit k=true∨∃ l∈W,k=l+1:=by
  intro W
  induction W with
  | nil=>intro a k h; exact .inl h
  | cons l W ih=>
   intro a k h
   rcases ih _ _ h with h1 | ⟨l',h1,h2⟩
   ·rw[Nat.testBit_or,Bool.or_eq_true,Nat.testBit_two_pow] at h1
    rcases h1 with h1 | h1
    ·exact .inl h1
    ·exact .inr ⟨l,by simp,by simpa[eq_comm] using h1⟩
   ·exact .inr ⟨l',by simp[h1],h2⟩
 intro k hk
 rcases key W 0 k hk with h1 | ⟨l,h1,rfl⟩
 ·simp at h1
 ·exact z7i (.inr (h l h1))
theorem KL.moveF {m l:Nat}:KL (z0c (z0k false [l]++z0k true [m])) (fun st=>st.move [m] false l):=by
 intro s1 s2 hs
 simp only[St.move] at hs
 split at hs
 case isFalse=>cases hs
 rename_i hc
 obtain⟨f,h1,h2,h3⟩:=KL.bind ((KL.killAll (hd:=true) (W:=[m]) [m] (by simp)).mono (znb (V:=z0k false [l]++z0k true [m]) fun k hk=>List.mem_append_right _ hk))
  ((KL.kill (hd:=false) (W:=[l]) (l:=l) (by simp)).mono (znb (V:=z0k false [l]++z0k true [m]) fun k hk=>List.mem_append_left _ hk)) s1 s2 hs
 refine⟨f,h1,h2,fun st ho hr hf=>?_⟩
 simp only[St.move]
 rw[hr,hf,if_pos hc]
 exact h3 st ho hr hf
theorem zph {st s1:St} {p:Pend} {o:Oper} (h:(appT E st o).run some=some (s1,p)):
  ∃ so xo l i off m kf row,so∈o.op.operands.toList∧xo∈o.op.operands.toList∧zdx st o=3+8*z0c (z0k false [l]++z0k true [m])∧m≠l ∧
   Kl (z0c (z0k false [l]++z0k true [m])) kf∧(∃ e t xs L ys,obj st.objs l=.row e t xs true L∧row=.row e t ys true L∧ys.length=xs.length)∧l<st.objs.length ∧
   s1={ st with regs:=z04 (st.regs.map (SV.mapL kf)) o.dst (.one (.sub l i off)),objs:=(z0n [m] (st.objs.map (AObj.mapL kf))).set l row,frm:=st.frm.map kf } ∧
   ∀ st':St,st'.objs=st.objs→st'.ro=st.ro→st'.fx=st.fx→st'.frm=st.frm→(∀ z∈o.op.operands.toList,st.ev z=st'.ev z) →
    (appT E st' o).run some=some ({ st' with regs:=z04 (st'.regs.map (SV.mapL kf)) o.dst (.one (.sub l i off)),objs:=(z0n [m] (st.objs.map (AObj.mapL kf))).set l row,frm:=st.frm.map kf },p)∧zdx st' o=zdx st o:=by
 unfold appT at h
 split at h
 case h_2=>cases h
 rename_i c ho
 split at h
 case h_2=>cases h
 rename_i so xo tt uu hc hargs hTy
 split at h
 case isFalse=>cases h
 rename_i htu
 split at h
 case h_2=>cases h
 rename_i ei ti l i off m hti hsl hxl
 rw[Tree.run_map] at h
 obtain⟨st2,hs1,hs2⟩:=Tree.run_some _ h
 simp only[Option.some.injEq,Prod.mk.injEq] at hs2
 obtain⟨rfl,rfl⟩:=hs2
 have hso:so∈o.op.operands.toList:=by rw[ho]; exact (z6j (c:=c)).1 so (by rw[hargs]; simp)
 have hxo:xo∈o.op.operands.toList:=by rw[ho]; exact (z6j (c:=c)).1 xo (by rw[hargs]; simp)
 have hmsk:zdx st o=3+8*z0c (z0k false [l]++z0k true [m]):=by
  unfold zdx
  simp only[ho,hargs,hsl,hxl]
 have hs0:=hs1
 unfold zuh at hs1
 split at hs1
 ·cases hs1
 rename_i hge
 have hlm:m≠l:=fun e=>hge (by simp[e])
 split at hs1
 case h_2=>cases hs1
 rename_i e1 t xs L e2 u zs L2 hob hobm
 split at hs1
 case h_2=>cases hs1
 rename_i e' u' ys hla
 split at hs1
 case h_2=>cases hs1
 rename_i zs' hcast
 split at hs1
 case isFalse=>cases hs1
 rename_i hcond
 obtain⟨hbd,hs1⟩:=Tree.run_need hs1
 split at hs1
 case h_2=>cases hs1
 rename_i z hset
 split at hs1
 case h_2=>cases hs1
 rename_i st1 hmv
 simp only[Tree.run,Option.some.injEq] at hs1
 subst hs1
 obtain⟨kf,hkl,rfl,hst⟩:=KL.moveF (l:=l) (m:=m) _ _ hmv
 refine⟨so,xo,l,i,off,m,kf,.row e1 t (xs.set i.toNat z) true L,hso,hxo,hmsk,hlm,hkl,⟨e1,t,xs,L,_,hob,rfl,by simp⟩,z0o (by rw[hob]; simp),?_,fun st' h1 h2 h3 h4 h5=>⟨?_,?_⟩⟩
 ·cases hd:o.dst<;>simp[St.put,St.mapS,z04,hd]
 ·have e1':=h5 so hso
  have e2':=h5 xo hxo
  unfold appT
  simp only[ho,hc,hargs,hTy,htu,if_true,hti,←e1',←e2',hsl,hxl]
  rw[Tree.run_map]
  unfold zuh
  rw[h2,h3,if_neg hge,h1]
  simp only[hob,hobm,hla,hcast]
  rw[if_pos hcond]
  have hst':=hst st' h1 h2 h3
  simp only[Tree.need,Tree.run,hbd,if_true,hset,hst']
  cases hd:o.dst<;>simp[St.put,St.mapS,z04,hd,h1,h2,h3,h4]
 ·rw[hmsk]
  unfold zdx
  simp only[ho,hargs,←h5 so hso,←h5 xo hxo,hsl,hxl]
theorem zwe {o:Oper} (h:z41 E o=false):zf0 E o=false:=by
 unfold zf0; rw[zgd h]; rfl
theorem zyu {st:St} {o:Oper} {r:St×Pend} (h:(appT E st o).run some=some r):zot E o=false:=by
 unfold appT at h
 split at h
 case h_2=>cases h
 rename_i c ho
 split at h
 case h_2=>cases h
 rename_i so xo tt uu hc hargs hTy
 unfold zot
 rw[zwe (by simp[z41,ho,hc]),ho]
 rfl
theorem zs5 {o:Oper} {t:TypeId} {a u:Operand} (ho:o.op=.store t a u):zot E o=false:=by
 unfold zot
 rw[zwe (by simp[z41,ho]),ho]
 rfl
theorem zj0 {st st':St} {o:Oper} (hev:∀ x∈o.op.operands.toList,st.ev x=st'.ev x):z5y st' o=z5y st o:=by
 unfold z5y
 cases ho:o.op<;>rw[ho] at hev<;>simp only
 case load t x=>rw[hev x (by simp[Op.operands])]
 case indexAddr t x i=>rw[hev x (by simp[Op.operands])]
theorem zm9 {ops:List Oper} {st s1:St} {x:Oper} {cx:Nat} (h:one1 E cb ops st x=some (s1,cx)) (hb:z5y st x=true):cx % 8≤1∧∃ v,s1=eff st x v []:=by
 obtain⟨b1,b2⟩:=zm8 (E:=E) (cb:=cb) hb
 unfold one1 at h
 split at h
 ·rw[z1w b1] at h
  unfold z6u at h
  rw[b2.1] at h
  simp only[b2.2,Bool.false_and,Bool.false_eq_true,if_false] at h
  rw[Tree.run_map] at h
  obtain⟨⟨v,new⟩,q1,q2⟩:=Tree.run_some _ h
  simp only[Option.some.injEq,Prod.mk.injEq] at q2
  obtain⟨rfl,rfl⟩:=q2
  have hcl:clsV E st.ev x new≤1∧new=[]:=by
   unfold z5y at hb
   split at hb
   ·rename_i z ho
    simp only[z0l,ho] at q1
    have:=Tree.run_ret1 q1
    simp only[Prod.mk.injEq] at this
    obtain⟨_,rfl⟩:=this
    simp[clsV,ho]
   ·rename_i t z f ho
    simp only[z0l,ho] at q1
    have hn:new=[]:=by
     split at q1
     case h_2=>cases q1
     split at q1
     case h_2=>cases q1
     split at q1
     ·cases q1
     split at q1
     all_goals first | (cases q1; done) | (have:=Tree.run_ret1 q1; simp only[Prod.mk.injEq] at this; exact this.2)
    subst hn
    simp[clsV,ho]
   ·rename_i z ho
    simp only[z0l,ho] at q1
    have hn:new=[]:=by
     split at q1
     all_goals first | (cases q1; done) | (have:=Tree.run_ret1 q1; simp only[Prod.mk.injEq] at this; exact this.2)
    subst hn
    simp[clsV,ho]
   ·rename_i t z ho
    simp only[z0l,ho] at q1
    have hn:new=[]:=by
     split at q1
     case h_2=>cases q1
     split at q1
     case h_2=>cases q1
     have:=Tree.run_ret1 q1
     simp only[Prod.mk.injEq] at this; exact this.2
    subst hn
    simp only[clsV,ho]
    split<;>simp
   ·rename_i t z i ho
    split at hb
    case h_2=>cases hb
    rename_i l hl
    have hp:z3m st.ev x=some (l,true,true):=by simp[z3m,ho,hl]
    rcases zgz hp q1 with ⟨_,_,_,_,_,_,r1,_⟩ | ⟨_,_,_,r3,r4⟩
    ·rw[ho] at r1; cases r1
    ·simp only at r4
     subst r4
     exact⟨by omega,rfl⟩
   ·cases hb
  obtain⟨hcl,rfl⟩:=hcl
  exact⟨by omega,v,rfl⟩
 ·simp only[Option.some.injEq,Prod.mk.injEq] at h
  obtain⟨rfl,rfl⟩:=h
  exact⟨by omega,.one .skip,by simp[eff,St.put]⟩
 ·cases h
theorem zqn {ops:List Oper} {st s1:St} {x:Oper} {cx:Nat} {b0 b1:Bool} (h:one1 E cb ops st x=some (s1,cx)) (hm:zl6 b0 b1 cx=true) (h0:b0=true→z3i x=true) (h1:b1=true→z3h x=true):
  cx % 8≤1∧cx / 8≠0∧z5y st x=true∧(cx % 8=1→∃ p,z3m st.ev x=some p∧p.2.2=true)∧x.guard=none:=by
 unfold zl6 at hm
 simp only[Bool.and_eq_true,bne_iff_ne,ne_eq,Bool.or_eq_true,beq_iff_eq] at hm
 obtain⟨hk0,hm⟩:=hm
 rcases hm with ⟨hb,hc⟩ | ⟨hb,hc,ho⟩
 ·have:=h0 hb
  unfold z3i at this
  simp only[Bool.and_eq_true,Option.isNone_iff_eq_none] at this
  refine⟨by omega,hk0,?_,fun h=>by omega,this.1⟩
  have:=this.2
  unfold zpg at this
  unfold z5y
  split at this
  ·rename_i hop; simp only[hop]
  ·rename_i hop; simp only[hop]
  ·rename_i hop; simp only[hop]
  ·cases this
 ·obtain⟨_,_,_,_,_,_,_,hlk⟩:=zii h (by omega) hk0
  obtain⟨p,hp,hp2⟩:=hlk hc
  have hp2:=hp2 ho
  have:=h1 hb
  unfold z3h at this
  simp only[Bool.and_eq_true,Option.isNone_iff_eq_none] at this
  refine⟨by omega,hk0,?_,fun _=>⟨p,hp,hp2⟩,this.1⟩
  have:=this.2
  unfold zpf at this
  unfold z5y
  unfold z3m at hp
  split at this
  ·rename_i t a hop
   simp only[hop] at hp ⊢
   split at hp
   ·rename_i hl; simp only[hl]
   ·simp only[Option.some.injEq] at hp; subst hp; cases hp2
   ·simp only[Option.some.injEq] at hp; subst hp; cases hp2
   ·cases hp
  ·rename_i t a i hop
   simp only[hop] at hp ⊢
   split at hp
   ·rename_i hl; simp only[hl]
   ·simp only[Option.some.injEq] at hp; subst hp; cases hp2
   ·cases hp
  ·cases this
theorem zpw {ρ:Operand→SV} {os os':Objs} {o:Oper} {p:Nat×Bool×Bool} (hp:z3m ρ o=some p) (hp2:p.2.2=true) (hp1:p.2.1=true) {e:TypeId} {t:Ty} {xs ys:List t.den} {d:Bool} {L:List Nat} (h1:obj os p.1=.row e t xs d L) (h2:obj os' p.1=.row e t ys d L) (hl:ys.length=xs.length):z0l E cb ρ os' o=z0l E cb ρ os o:=by
 unfold z3m at hp
 split at hp
 ·split at hp
  ·simp only[Option.some.injEq] at hp; subst hp; cases hp1
  ·simp only[Option.some.injEq] at hp; subst hp; cases hp1
  ·simp only[Option.some.injEq] at hp; subst hp; cases hp1
  ·cases hp
 ·rename_i T x i ho
  split at hp
  ·rename_i l hx
   simp only[Option.some.injEq] at hp; subst hp
   simp only[z0l,ho,hx,h1,h2,hl]
  ·simp only[Option.some.injEq] at hp; subst hp; cases hp1
  ·cases hp
 ·cases hp
theorem zdj {st:St} {l m:Nat} {kf:Leaf→Leaf} {row:AObj} {k:Nat} (h1:k≠l) (h2:k≠m):obj ((z0n [m] (st.objs.map (AObj.mapL kf))).set l row) k=obj (st.objs.map (AObj.mapL kf)) k:=by
 rw[z01 h1,z4t _ _ (by simpa using h2)]
theorem zdk {l m k:Nat}:((z0c (z0k false [l]++z0k true [m])).testBit (2*k+1)=false→k≠l∧k≠m)∧((z0c (z0k false [l]++z0k true [m])).testBit (2*k+2)=false→k≠m):=by
 refine⟨fun h=>⟨fun e=>z2a h ?_,fun e=>z2a h ?_⟩,fun h e=>z2a h ?_⟩
 ·subst e; simp[z0k]
 ·subst e; simp[z0k]
 ·subst e; simp[z0k]
theorem zjd {st s1:St} {o:Oper} {p:Pend} (h:(zgv E st o p).run some=some s1):∃ t a x,o.op=.store t a x∧o.dst=none:=by
 unfold zgv at h
 split at h
 case h_2=>cases h
 rename_i t a x ho
 split at h
 case h_2=>cases h
 rename_i hd _ _ _
 exact⟨t,a,x,ho,hd⟩
theorem zz8 {ops:List Oper} {s s1 s2:PSt} {x y:Oper} {cx cy:Nat} (hx:oneP E cb ops s x=some (s1,cx)) (hy:oneP E cb ops s1 y=some (s2,cy)) (hm:zgk E ops x y cx cy=true):
  ∃ t1,oneP E cb ops s y=some (t1,cy)∧oneP E cb ops t1 x=some (s2,cx):=by
 obtain⟨st,pd⟩:=s
 obtain⟨st1,pd1⟩:=s1
 obtain⟨st2,pd2⟩:=s2
 have hm0:=hm
 unfold zgk zpx at hm
 simp only[Bool.and_eq_true,Bool.not_eq_true'] at hm
 obtain⟨⟨⟨h1,h2⟩,h3⟩,h4⟩:=hm
 have mid0:∀ {z:Oper},z.dst=none→(∃ t a u,z.op=.store t a u)→(midK E z3i x y=true∨midK E z3h x y=true)→z=x∨z=y→False:=by
  rintro z hd ⟨t,a,u,ho⟩ hk hz
  unfold midK at hk
  rcases hz with rfl | rfl
  ·simp[hd,z1s,z3i,z3h,zpg,zpf,ho] at hk
  ·simp[hd,z1s,z3i,z3h,zpg,zpf,ho] at hk
 have midF:∀ {c:Nat},zl6 (midK E z3i x y) (midK E z3h x y) c=true→midK E z3i x y=true∨midK E z3h x y=true:=by
  intro c hc
  unfold zl6 at hc
  simp only[Bool.and_eq_true,Bool.or_eq_true] at hc
  rcases hc.2 with h | h
  ·exact .inl h.1
  ·exact .inr h.1
 rcases zoj hx with ⟨px,ox,ex⟩ | ⟨gx,nx,wx,p,ax,ex,rfl⟩ | ⟨gx,p,nx,cx',ex,rfl⟩
 ·simp only at ex ox
  subst ex
  rcases zoj hy with ⟨py,oy,ey⟩ | ⟨gy,ny,wy,p,ay,ey,rfl⟩ | ⟨gy,p,ny,cy',ey,rfl⟩
  ·simp only at ey oy
   subst ey
   cases pd2 with
   | none=>
    simp only[z9n,Bool.not_eq_true'] at px py
    obtain⟨t1,q1,q2⟩:=zw6 ox oy hm0 (.inr ⟨by simp[midK,px,py],by simp[midK,px,py]⟩)
    exact⟨(t1,none),z5v (by simp[z9n,py]) q1,z5v (by simp[z9n,px]) q2⟩
   | some p=>
    simp only[z9n] at px py
    obtain⟨cx1,v,rfl⟩:=zm9 ox px
    obtain⟨cy1,u,rfl⟩:=zm9 oy py
    obtain⟨t1,q1,q2⟩:=zw6 ox oy hm0 (.inl ⟨by omega,by omega⟩)
    have hby:z5y st y=true:=by
     rw[←zj0 (z21 (z4g (v:=v) (new:=[]) (st:=st) h1).symm)]
     exact py
    obtain⟨_,u',rfl⟩:=zm9 q1 hby
    refine⟨(_,some p),z5v hby q1,z5v ?_ q2⟩
    show z5y _ x=true
    rw[zj0 (z21 (z4g (v:=u') (new:=[]) (st:=st) h2).symm)]
    exact px
  ·
   simp only at ny ay ey
   subst ny
   simp only[z9n,Bool.not_eq_true'] at px
   obtain⟨so,xo,l,i,off,m,kf,row,hso,hxo,hmsk,hlm,hkl,⟨e,t,xs,L,ys,hob,rfl,hlen⟩,hll,rfl,hst⟩:=zph ay
   rw[hmsk] at h4 hm0 ⊢
   have hmod:(3+8*z0c (z0k false [l]++z0k true [m])) % 8=3:=by omega
   have hdiv:(3+8*z0c (z0k false [l]++z0k true [m])) / 8=z0c (z0k false [l]++z0k true [m]):=by omega
   unfold zrn at h4
   rw[hmod,hdiv] at h4
   have h5:zl6 (midK E z3i x y) (midK E z3h x y) cx=true∧(cx / 8) &&& z0c (z0k false [l]++z0k true [m])=0:=by
    split at h4
    all_goals first | (cases h4; done) | omega | skip
    all_goals (simp only[Bool.and_eq_true,beq_iff_eq] at h4; exact h4)
   obtain⟨h5,hdis⟩:=h5
   have hK0:midK E z3i x y=true→z3i x=true:=fun h=>by simpa[midK,px,wy] using h
   have hK1:midK E z3h x y=true→z3h x=true:=fun h=>by simpa[midK,px,wy] using h
   obtain⟨hc,hk,hbx,hlk,hgd⟩:=zqn ox h5 hK0 hK1
   obtain⟨_,v0,rfl,_⟩:=zii ox hc hk
   have hobe:(eff st x v0 []).objs=st.objs:=by simp[eff]
   rw[hobe] at hob
   obtain⟨q1,q2⟩:=hst st hobe.symm rfl rfl rfl (z21 (z4g (v:=v0) (new:=[]) (st:=st) h1).symm |> fun h z hz=>(h z hz).symm)
   have h3':∀ (regs:List SV) (p q:SV),z04 (z04 regs y.dst p) x.dst q=z04 (z04 regs x.dst q) y.dst p:=fun regs p q=>zad h3 regs p q
   obtain⟨v,he,hrun,hev,_⟩:=zu3 (out:=.one (.sub l i off)) (os:=(z0n [m] ((eff st x v0 []).objs.map (AObj.mapL kf))).set l (.row e t ys true L)) (fm:=(eff st x v0 []).frm.map kf) (yd:=y.dst) ox hkl (fun k cs hk1 hk2=>by
     obtain⟨n1,n2⟩:=zdk.1 hk1
     rw[zdj n1 n2,hobe]
     exact zpe hk2) (fun p0 e0 t0 x0 d0 L0 hp hpb hpi hc1 hob0=>by
     obtain⟨p1,hp1,hp2⟩:=hlk hc1
     rw[hp] at hp1
     simp only[Option.some.injEq] at hp1
     subst hp1
     have hb0:=z32 hdis hpb
     unfold z3g at hb0
     cases hp3:p0.2.1 with
     | true=>
      rw[hp3,if_pos rfl] at hb0
      have n2:=zdk.2 hb0
      by_cases n1:p0.1=l
      ·rw[n1] at hob0
       rw[hob] at hob0
       cases hob0
       exact zpw hp hp2 hp3 (by rw[n1]; exact hob) (by rw[n1,z0a (by rw[z1q,List.length_map]; exact hll)]) hlen
      ·refine z6z hp ?_
       rw[zdj n1 n2,hobe,(z7e (fun _=>rfl)).1 hob0,hob0]
     | false=>
      rw[hp3,if_neg (by simp)] at hb0
      obtain⟨n1,n2⟩:=zdk.1 hb0
      refine z6z hp ?_
      rw[zdj n1 n2,hobe,(z7e (fun _=>rfl)).1 hob0,hob0]) hgd hc hk hdis h2 h3'
   have hms:zdx st y=3+8*z0c (z0k false [l]++z0k true [m]):=q2.trans hmsk
   have hA:=zok (cb:=cb) (ops:=ops) gy wy q1
   rw[hms] at hA
   refine⟨_,hA,?_⟩
   rw[ey]
   refine z5v ?_ ?_
   ·show z5y _ x=true
    rw[zj0 hev]
    exact hbx
   ·rw[←he] at hrun
    exact hrun
  ·
   exfalso
   simp only at cy'
   obtain⟨t,a,u,ho,hd⟩:=zjd cy'
   unfold zrn at h4
   have h5:zl6 (midK E z3i x y) (midK E z3h x y) cx=true:=by
    split at h4
    all_goals first | (cases h4; done) | omega | skip
    all_goals (simp only[Bool.and_eq_true,beq_iff_eq] at h4; exact h4.1)
   exact mid0 hd ⟨t,a,u,ho⟩ (midF h5) (.inr rfl)
 ·
  simp only at nx ax ex
  subst nx
  subst ex
  rcases zoj hy with ⟨py,oy,ey⟩ | ⟨gy,ny,wy,p',ay,ey,rfl⟩ | ⟨gy,p',ny,cy',ey,rfl⟩
  ·simp only at ey oy
   subst ey
   simp only[z9n] at py
   obtain⟨so,xo,l,i,off,m,kf,row,hso,hxo,hmsk,hlm,hkl,⟨e,t,xs,L,ys,hob,rfl,hlen⟩,hll,rfl,hst⟩:=zph ax
   rw[hmsk] at h4 hm0 ⊢
   have hmod:(3+8*z0c (z0k false [l]++z0k true [m])) % 8=3:=by omega
   have hdiv:(3+8*z0c (z0k false [l]++z0k true [m])) / 8=z0c (z0k false [l]++z0k true [m]):=by omega
   unfold zrn at h4
   rw[hmod,hdiv] at h4
   have h5:zl6 (midK E z3i x y) (midK E z3h x y) cy=true∧z0c (z0k false [l]++z0k true [m]) &&& (cy / 8)=0:=by
    rw[zyu ax] at h4
    split at h4
    all_goals first | (cases h4; done) | omega | skip
    all_goals (simp only[Bool.and_eq_true,beq_iff_eq] at h4; first | exact h4 | (exact absurd h4.1 (by decide)))
   obtain⟨h5,hdis⟩:=h5
   have hdis:(cy / 8) &&& z0c (z0k false [l]++z0k true [m])=0:=by rw[Nat.and_comm]; exact hdis
   have hwy:z1s E.app y.dst=false:=by
    cases hw:z1s E.app y.dst with
    | false=>rfl
    | true=>rcases midF h5 with h | h<;>simp[midK,hw,wx] at h
   have hK0:midK E z3i x y=true→z3i y=true:=fun h=>by simpa[midK,hwy,wx] using h
   have hK1:midK E z3h x y=true→z3h y=true:=fun h=>by simpa[midK,hwy,wx] using h
   obtain⟨hc,hk,hby,hlk,hgd⟩:=zqn oy h5 hK0 hK1
   obtain⟨v,rfl,hyt,hv,hfv⟩:=zqr oy hkl (fun k cs hk1 hk2=>by
     obtain⟨n1,n2⟩:=zdk.1 hk1
     rw[zdj n1 n2]
     exact zpe hk2) (fun _ k cs hk1 hk2=>by
     obtain⟨n1,n2⟩:=zdk.1 hk1
     rw[zdj n1 n2] at hk2
     exact zk3 hk2) (fun p0 e0 t0 x0 d0 L0 hp hpb hc1 hob0 ρ hρ=>by
     obtain⟨p1,hp1,hp2⟩:=hlk hc1
     rw[hp] at hp1
     simp only[Option.some.injEq] at hp1
     subst hp1
     have hb0:=z32 hdis hpb
     unfold z3g at hb0
     cases hp3:p0.2.1 with
     | true=>
      rw[hp3,if_pos rfl] at hb0
      have n2:=zdk.2 hb0
      by_cases n1:p0.1=l
      ·have hob1:obj ((z0n [m] (st.objs.map (AObj.mapL kf))).set l (.row e t ys true L)) p0.1=.row e t ys true L:=by rw[n1,z0a (by rw[z1q,List.length_map]; exact hll)]
       exact zpw hρ hp2 hp3 hob1 (by rw[n1]; exact hob) hlen.symm
      ·refine z6z hρ ?_
       rw[zdj n1 n2] at hob0 ⊢
       rw[hob0,(z7e (f:=kf) (fun _=>rfl)).2 hob0]
     | false=>
      rw[hp3,if_neg (by simp)] at hb0
      obtain⟨n1,n2⟩:=zdk.1 hb0
      refine z6z hρ ?_
      rw[zdj n1 n2] at hob0 ⊢
      rw[hob0,(z7e (f:=kf) (fun _=>rfl)).2 hob0]) hgd hc hk hdis h1
   have hobe:(eff st y v []).objs=st.objs:=by simp[eff]
   obtain⟨q1,q2⟩:=hst (eff st y v []) hobe rfl rfl rfl (z21 (z4g (v:=v) (new:=[]) (st:=st) h2).symm)
   refine⟨(_,none),z5v (by simp[z9n,hwy]) hyt,?_⟩
   have:=zok (cb:=cb) (ops:=ops) gx wx q1
   rw[q2.trans hmsk] at this
   rw[this]
   congr 3
   refine zmi _ _ ?_ (by simp[eff]) rfl rfl rfl
   show z04 ((z04 st.regs y.dst v).map _) x.dst _=z04 (z04 (st.regs.map _) x.dst _) y.dst v
   rw[←zad h3]
   congr 1
   cases y.dst with
   | none=>rfl
   | some d=>simp[z04,List.map_set,hfv]
  ·simp only at ny; cases ny
  ·exfalso
   obtain⟨_,_,l,_,_,m,_,_,_,_,hmsk,_⟩:=zph ax
   rw[hmsk] at h4
   unfold zrn at h4
   split at h4
   all_goals first | (cases h4; done) | omega
 ·
  exfalso
  simp only at cx'
  obtain⟨t,a,u,ho,hd⟩:=zjd cx'
  simp only at ex
  subst ex
  have h5:zl6 (midK E z3i x y) (midK E z3h x y) cy=true:=by
   unfold zrn at h4
   rw[zs5 ho] at h4
   split at h4
   all_goals first | (cases h4; done) | omega | skip
   all_goals (simp only[Bool.and_eq_true,beq_iff_eq] at h4; first | exact h4.1 | (exact absurd h4.1 (by decide)))
  exact mid0 hd ⟨t,a,u,ho⟩ (midF h5) (.inl rfl)
def Seq (E:Env) (cb:CB) (ops:List Oper) (cl:Nat→Nat):List Nat→PSt→PSt→Prop
 | [],s,s'=>s=s'
 | i::r,s,s'=>∃ o s1,ops[i]? = some o∧oneP E cb ops s o=some (s1,cl i)∧Seq E cb ops cl r s1 s'
theorem Seq.pull {ops:List Oper} {cl:Nat→Nat}:∀ (A:List Nat) {j:Nat} {B:List Nat} {s s':PSt},Seq E cb ops cl (A++j::B) s s'→(∀ i∈A,∀ oi oj,ops[i]? = some oi→ops[j]? = some oj→zgk E ops oi oj (cl i) (cl j)=true)→Seq E cb ops cl (j::(A++B)) s s'
 | [],j,B,s,s',h,_=>h
 | i::A,j,B,s,s',h,hm=>by
  obtain⟨oi,s1,ho,h1,h2⟩:=h
  obtain⟨oj,t1,hj,h3,h4⟩:=Seq.pull A h2 fun k hk=>hm k (by simp[hk])
  obtain⟨t2,h5,h6⟩:=zz8 h1 h3 (hm i (by simp) oi oj ho hj)
  exact⟨oj,t2,hj,h5,oi,t1,ho,h6,h4⟩
def zfe (acc:List Nat) (o:Oper):Nat:=o.after.toList.foldl (fun s e=>if Region.binds .any e then s ||| 2 ^ e.on ||| acc.getD e.on 0 else s) 0
theorem zth {acc:List Nat} {o:Oper} {i:Nat} (h:(zfe acc o).testBit i=true):∃ e∈o.after.toList,Region.binds .any e=true∧(i=e.on∨(acc.getD e.on 0).testBit i=true):=by
 have key:∀ (l:List Edge) (s:Nat),(l.foldl (fun s e=>if Region.binds .any e then s ||| 2 ^ e.on ||| acc.getD e.on 0 else s) s).testBit i=true→s.testBit i=true∨∃ e∈l,Region.binds .any e=true∧(i=e.on∨(acc.getD e.on 0).testBit i=true):=by
  intro l
  induction l with
  | nil=>intro s h; exact .inl h
  | cons e l ih=>
   intro s h
   rw[List.foldl_cons] at h
   rcases ih _ h with h1 | ⟨e',he',h1⟩
   ·split at h1
    ·rename_i hb
     rw[Nat.testBit_or,Nat.testBit_or,Bool.or_eq_true,Bool.or_eq_true] at h1
     rcases h1 with (h1 | h1) | h1
     ·exact .inl h1
     ·refine .inr ⟨e,by simp,hb,.inl ?_⟩
      rw[Nat.testBit_two_pow] at h1
      have h1:e.on=i:=by simpa using h1
      exact h1.symm
     ·exact .inr ⟨e,by simp,hb,.inr h1⟩
    ·exact .inl h1
   ·exact .inr ⟨e',by simp[he'],h1⟩
 rcases key _ _ h with h1 | h1
 ·simp at h1
 ·exact h1
def z5g:List Nat→List Oper→List Nat
 | acc,[]=>acc
 | acc,o::r=>z5g (acc++[zfe acc o]) r
theorem zyr (ops:List Oper):z2g ops=z5g [] ops:=by
 have:∀ (l:List Oper) (acc:List Nat),l.foldl (fun acc o=>acc++[o.after.toList.foldl (fun s e=>if Region.binds .any e then s ||| 2 ^ e.on ||| acc.getD e.on 0 else s) 0]) acc=z5g acc l:=by
  intro l
  induction l with
  | nil=>intro acc; rfl
  | cons o l ih=>intro acc; rw[List.foldl_cons]; exact ih _
 exact this ops []
theorem z8b:∀ (l:List Oper) (acc:List Nat) (j:Nat),(j<acc.length→(z5g acc l)[j]? = acc[j]?) ∧
  ∀ k o,l[k]? = some o→(z5g acc l)[acc.length+k]? = some (zfe ((z5g acc l).take (acc.length+k)) o)
 | [],acc,j=>⟨fun _=>rfl,fun k o h=>by simp at h⟩
 | o::l,acc,j=>by
  refine⟨fun hj=>?_,fun k o' hk=>?_⟩
  ·simp only[z5g]
   rw[(z8b l (acc++[zfe acc o]) j).1 (by simp; omega),List.getElem?_append_left hj]
  ·simp only[z5g]
   cases k with
   | zero=>
    simp only[List.getElem?_cons_zero,Option.some.injEq] at hk
    subst hk
    rw[Nat.add_zero,(z8b l (acc++[zfe acc o]) acc.length).1 (by simp)]
    have:(z5g (acc++[zfe acc o]) l).take acc.length=acc:=by
     apply List.ext_getElem?
     intro m
     rw[List.getElem?_take]
     split
     ·rename_i hm
      rw[(z8b l (acc++[zfe acc o]) m).1 (by simp; omega),List.getElem?_append_left hm]
     ·rename_i hm
      rw[List.getElem?_eq_none (by omega)]
    rw[this]
    simp
   | succ k=>
    have:=(z8b l (acc++[zfe acc o]) 0).2 k o' (by simpa using hk)
    simp only[List.length_append,List.length_cons,List.length_nil] at this
    rw[show acc.length+(k+1)=acc.length+(0+1)+k by omega]
    exact this
theorem zvl {ops:List Oper} {i j:Nat} (h:((z2g ops).getD j 0).testBit i=true):∃ o,ops[j]? = some o∧∃ e∈o.after.toList,Region.binds .any e=true∧(i=e.on∨((z2g ops).getD e.on 0).testBit i=true):=by
 have hlen:∀ (l:List Oper) (acc:List Nat),(z5g acc l).length=acc.length+l.length:=by
  intro l
  induction l with
  | nil=>intro acc; rfl
  | cons o l ih=>intro acc; simp only[z5g]; rw[ih]; simp; omega
 rw[zyr] at h ⊢
 cases ho:ops[j]? with
 | none=>
  have:(z5g [] ops)[j]? = none:=by
   rw[List.getElem?_eq_none]
   rw[hlen]
   simpa using ho
  simp[List.getD,this] at h
 | some o=>
  refine⟨o,rfl,?_⟩
  have hg:=(z8b ops [] 0).2 j o ho
  simp only[List.length_nil,Nat.zero_add] at hg
  simp only[List.getD,hg,Option.getD_some] at h
  obtain⟨e,he,hb,h1⟩:=zth h
  refine⟨e,he,hb,?_⟩
  rcases h1 with h1 | h1
  ·exact .inl h1
  ·right
   simp only[List.getD] at h1 ⊢
   rw[List.getElem?_take] at h1
   split at h1
   ·exact h1
   ·simp at h1
end
section
variable {C:Ctx} {E:Env} {cb:CB}
theorem zn5 {ρ:Type} {ops:List Oper} {y:ρ} {K:List Nat→St→Option ρ}:∀ (rest:List Oper) (i:Nat) (cls:List Nat) (st:St) (pd:Option Pend),(∀ k o,rest[k]? = some o→ops[i+k]? = some o)→cls.length=i→zh8 E cb ops i rest cls st pd K=some y →
  ∃ cls' st',K cls' st'=some y∧(∃ tl,cls'=cls++tl∧tl.length=rest.length)∧Seq E cb ops (fun k=>cls'.getD k 3) (List.range' i rest.length) (st,pd) (st',none)
 | [],i,cls,st,pd,hd,hl,h=>by
  cases pd with
  | none=>exact⟨cls,st,h,⟨[],by simp,rfl⟩,rfl⟩
  | some p=>cases h
 | o::rest,i,cls,st,pd,hd,hl,h=>by
  have hoi:ops[i]? = some o:=hd 0 o rfl
  have hd':∀ k q,rest[k]? = some q→ops[i+1+k]? = some q:=fun k q hk=>by rw[Nat.add_right_comm]; exact hd (k+1) q hk
  have hpl:∀ (q:Option Pend) (b:Bool),(match q with | none=>!z1s E.app o.dst | some _=>z5y st o)=b→z9n E (st,q) o=b:=fun q b h=>by cases q<;>exact h
  have fin:∀ {s1:St} {pd1:Option Pend} {c:Nat},oneP E cb ops (st,pd) o=some ((s1,pd1),c)→zh8 E cb ops (i+1) rest (cls++[c]) s1 pd1 K=some y →
    ∃ cls' st',K cls' st'=some y∧(∃ tl,cls'=cls++tl∧tl.length=rest.length+1)∧Seq E cb ops (fun k=>cls'.getD k 3) (List.range' i (rest.length+1)) (st,pd) (st',none):=by
   intro s1 pd1 c h1 h2
   obtain⟨cls',st',hk,⟨tl,rfl,htl⟩,hseq⟩:=zn5 rest (i+1) (cls++[c]) s1 pd1 hd' (by simp[hl]) h2
   refine⟨_,st',hk,⟨c::tl,by simp,by simp[htl]⟩,?_⟩
   simp only[List.range'_succ]
   refine⟨o,(s1,pd1),hoi,?_,hseq⟩
   rw[h1]
   congr 2
   simp[List.getD,←hl]
  simp only[zh8,zr9] at h
  simp only[List.length_cons]
  split at h
  ·rename_i hb
   have hb:=hpl pd _ hb
   split at h
   ·rename_i hg
    obtain⟨⟨st1,c⟩,h1,h2⟩:=Tree.run_some _ h
    rw[zto] at h2
    refine fin (z5v hb ?_) h2
    unfold one1
    rw[hg]
    exact h1
   ·rename_i hg
    refine fin (z5v hb ?_) h
    unfold one1
    rw[hg]
   ·cases h
  ·rename_i hb
   have hb:=hpl pd _ hb
   split at h
   ·cases h
   rename_i hg
   cases pd with
   | none=>
    simp only at h
    obtain⟨⟨st1,p⟩,h1,h2⟩:=Tree.run_some _ h
    exact fin (zok hg (by simpa[z9n] using hb) h1) h2
   | some p=>
    simp only at h
    obtain⟨st1,h1,h2⟩:=Tree.run_some _ h
    refine fin ?_ h2
    unfold oneP
    rw[hb]
    simp only[hg]
    exact Tree.run_then _ (fun s'=>((s',none),3)) h1
theorem y1w (hE:EnvOk C.P C.Γ E) (hcb:CBOk C.P C.Γ cb) {r f:Nat} {ops:Array Oper} {st st1:St} {gh:Gh} {a:Act} {w:World} {i c:Nat} {o:Oper} (hi:ops[i]? = some o) (hI:Inv r f st) (h:Rel C st gh a w) (h1:one1 E cb ops.toList st o=some (st1,c))
  {K:Act→World→Prop} {Q:Exit→Act→World→Prop} (hK:∀ gh' a' w',Inv r f st1→Rel C st1 gh' a' w'→K a' w'):wpOp C.P ops Q i K a w:=by
 unfold wpOp
 rw[hi]
 simp only
 unfold one1 at h1
 split at h1
 ·rename_i hg
  rw[if_pos (z97 h hg)]
  exact .inl (zs6 hE hcb h (by rw[hI.fx]; exact hI.fl) (by rw[hI.ro]; exact hI.rl) h1 fun gh' a' w' hr=>hK gh' a' w' (hI.step h1) hr)
 ·rename_i hg
  rw[if_neg (by rw[z97 h hg]; simp)]
  simp only[Option.some.injEq,Prod.mk.injEq] at h1
  obtain⟨rfl,_⟩:=h1
  exact hK gh _ w ⟨hI.ro,hI.fx,hI.rl,hI.fl⟩ (zwh h o.dst)
 ·cases h1
theorem Inv.put {r f:Nat} {st:St} (h:Inv r f st) {d:Option Tmp} {v:SV}:Inv r f (st.put d v):=by cases d<;>exact⟨h.ro,h.fx,h.rl,h.fl⟩
theorem y1v (hE:EnvOk C.P C.Γ E) (hcb:CBOk C.P C.Γ cb) {r f:Nat} {ops:Array Oper} {s s1:PSt} {gh:Gh} {a:Act} {w:World} {i c:Nat} {o:Oper} (hi:ops[i]? = some o) (hI:Inv r f s.1) (h:RelP C s.1 gh a w s.2) (h1:oneP E cb ops.toList s o=some (s1,c))
  {K:Act→World→Prop} {Q:Exit→Act→World→Prop} (hK:∀ gh' a' w',Inv r f s1.1→RelP C s1.1 gh' a' w' s1.2→K a' w'):wpOp C.P ops Q i K a w:=by
 obtain⟨st,pd⟩:=s
 obtain⟨st1,pd1⟩:=s1
 rcases zoj h1 with ⟨px,ox,ex⟩ | ⟨gx,nx,wx,p,ax,ex,_⟩ | ⟨gx,p,nx,cx',ex,_⟩
 ·simp only at ex ox
  subst ex
  cases pd1 with
  | none=>exact y1w hE hcb hi hI h ox hK
  | some p=>
   simp only[z9n] at px
   obtain⟨w2,hw2⟩:=RelP.some_rel h
   unfold wpOp
   rw[hi]
   simp only
   unfold one1 at ox
   split at ox
   ·rename_i hg
    rw[if_pos (z97 hw2 hg)]
    exact .inl (zvk hE h px ox fun gh' a' w' hr=>hK gh' a' w' (hI.step ox) hr)
   ·rename_i hg
    rw[if_neg (by rw[z97 hw2 hg]; simp)]
    simp only[Option.some.injEq,Prod.mk.injEq] at ox
    obtain⟨rfl,_⟩:=ox
    exact hK gh _ w hI.put (h.put fun w2 _=>⟨rfl,fun hk=>by simp[Leaf.known] at hk⟩)
   ·cases ox
 ·simp only at nx ax ex
  subst nx
  subst ex
  have hgd:z1a ops.toList st o=some true:=by unfold z1a; rw[gx]
  unfold wpOp
  rw[hi]
  simp only
  rw[if_pos (z97 h hgd)]
  obtain⟨_,_,_,_,_,_,_,_,_,_,_,_,_,_,hll,hs1,_⟩:=zph ax
  refine .inl (y2o hE h ax fun gh' a' w' hr=>hK gh' a' w' ?_ hr)
  rw[hs1]
  exact⟨hI.ro,hI.fx,by simp only[List.length_set,z1q,List.length_map]; exact hI.rl,by simp only[List.length_set,z1q,List.length_map]; exact hI.fl⟩
 ·simp only at nx cx' ex
  subst nx
  subst ex
  obtain⟨w2,hw2⟩:=RelP.some_rel h
  have hgd:z1a ops.toList st o=some true:=by unfold z1a; rw[gx]
  unfold wpOp
  rw[hi]
  simp only
  rw[if_pos (z97 hw2 hgd)]
  have hce:=(zrk (Q:=Q) (next:=fun _ _=>True) hE h cx' fun _ _ _ _=>trivial).1
  subst hce
  exact .inl (zrk hE h cx' fun gh' a' w' hr=>hK gh' a' w' hI hr).2
theorem y6y (hE:EnvOk C.P C.Γ E) (hcb:CBOk C.P C.Γ cb) {r f:Nat} {ops:Array Oper} {cl:Nat→Nat} {stf:St} {Q:Exit→Act→World→Prop}
  (hback:∀ j o,ops[j]? = some o→∀ e∈o.after.toList,Region.binds .any e=true→e.on<j)
  (hpass:∀ i j oi oj,i<j→ops[i]? = some oi→ops[j]? = some oj→((z2g ops.toList).getD j 0).testBit i=true∨zgk E ops.toList oi oj (cl i) (cl j)=true)
  {T:List Nat} (hTb:∀ j∈T,∀ i,i<ops.size→i∉T→((z2g ops.toList).getD j 0).testBit i=true) (hTl:∀ j∈T,∀ i,i<ops.size→i∉T→i<j)
  (hQ:∀ gh a w (listed:Array Bool),Inv r f stf→Rel C stf gh a w→listed.size=ops.size→(∀ i,i∈T↔i<ops.size∧listed.getD i true=false)→wpAny C.P .any ops Q T.length listed a w):∀ (n:Nat) (R:List Nat) (listed:Array Bool) (st:PSt) (gh:Gh) (a:Act) (w:World),R.length=n→R.Pairwise (·<·)→(∀ i,(i∈R∨i∈T)↔i<ops.size∧listed.getD i true=false)→(∀ i∈R,i∉T)→listed.size=ops.size →
   (∀ k,listed.getD k false=true→∀ i,((z2g ops.toList).getD k 0).testBit i=true→listed.getD i false=true)→Inv r f st.1→RelP C st.1 gh a w st.2→Seq E cb ops.toList cl R st (stf,none)→wpAny C.P .any ops Q (n+T.length) listed a w:=by
 intro n
 induction n with
 | zero=>
  intro R listed st gh a w hn hp hR hRT hls hcl hI h hs
  have:R=[]:=List.eq_nil_of_length_eq_zero hn
  subst this
  obtain rfl:st=(stf,none):=hs
  rw[Nat.zero_add]
  exact hQ gh a w listed hI h hls fun i=>by rw[←hR i]; simp
 | succ n ih=>
  intro R listed st gh a w hn hp hR hRT hls hcl hI h hs
  rw[Nat.succ_add]
  have hfalse:∀ k,k<ops.size→(listed.getD k true=false↔¬listed.getD k false=true):=by
   intro k hk
   have:k<listed.size:=by omega
   simp[this]
  have hfirst:∀ j R',R=j::R'→j∈Region.ready .any ops listed:=by
   intro j R' e
   obtain⟨hj1,hj2⟩:=(hR j).1 (by rw[e]; simp)
   have hjT:j∉T:=hRT j (by rw[e]; simp)
   refine mem_ready.2 ⟨hj2,ops[j],by simp[hj1],fun e' he hb=>?_⟩
   have hlt:=hback j ops[j] (by simp[hj1]) e' (by simpa using he) hb
   cases hl:listed.getD e'.on false with
   | true=>rfl
   | false=>
    have hmem:e'.on∈R:=((hR e'.on).2 ⟨by omega,(hfalse _ (by omega)).2 (by simp[hl])⟩).resolve_right fun hT=>by have:=hTl _ hT j hj1 hjT; omega
    rw[e] at hmem hp
    rcases List.mem_cons.1 hmem with h1 | h1
    ·omega
    ·have:=(List.pairwise_cons.1 hp).1 _ h1; omega
  refine⟨fun hnil=>?_,fun j hj=>?_⟩
  ·cases R with
   | nil=>simp at hn
   | cons j R'=>have:=hfirst j R' rfl; rw[hnil] at this; cases this
  ·obtain⟨h0,oj,hoj,hall⟩:=mem_ready.1 hj
   have hjs:j<ops.size:=(Array.getElem?_eq_some_iff.1 hoj).1
   have hbits:∀ i,((z2g ops.toList).getD j 0).testBit i=true→listed.getD i false=true:=by
    intro i hi
    obtain⟨o,ho,e,he,hb,h1⟩:=zvl hi
    have ho':oj=o:=by
     have:ops[j]? = some o:=by simpa using ho
     rw[hoj] at this; simpa using this
    subst ho'
    have hel:=hall e (by simpa using he) hb
    rcases h1 with rfl | h1
    ·exact hel
    ·exact hcl _ hel i h1
   have hjR:j∈R:=((hR j).2 ⟨hjs,h0⟩).resolve_right fun hT=>by
    cases hRe:R with
    | nil=>rw[hRe] at hn; simp at hn
    | cons k R'=>
     have hk:k∈R:=by rw[hRe]; simp
     obtain⟨k1,k2⟩:=(hR k).1 (.inl hk)
     have:=hbits k (hTb j hT k k1 (hRT k hk))
     rw[hfalse k k1] at k2
     exact k2 this
   obtain⟨A,B,rfl⟩:=List.append_of_mem hjR
   have hpA:=List.pairwise_append.1 hp
   have hpull:=Seq.pull A hs (fun i hi oi oj' hoi hoj'=>by
    have hij:i<j:=hpA.2.2 i hi j (by simp)
    rcases hpass i j oi oj' hij (by simpa using hoi) (by simpa using hoj') with h1 | h1
    ·exfalso
     have h2:=hbits i h1
     have h3:=((hR i).1 (.inl (by simp[hi]))).2
     rw[hfalse i ((hR i).1 (.inl (by simp[hi]))).1] at h3
     exact h3 h2
    ·exact h1)
   obtain⟨o,s1,ho,h1,h2⟩:=hpull
   have ho':ops[j]? = some o:=by simpa using ho
   refine y1v hE hcb ho' hI h h1 fun gh' a' w' hI' h'=>?_
   have hnodup:¬j∈A++B:=by
    intro hm
    rcases List.mem_append.1 hm with hm | hm
    ·have:=hpA.2.2 j hm j (by simp); omega
    ·have:=(List.pairwise_cons.1 hpA.2.1).1 j hm; omega
   refine ih (A++B) (listed.setIfInBounds j true) s1 gh' a' w' (by simp at hn ⊢; omega) ?_ (fun i=>?_) (fun i hi=>hRT i (by simp only[List.mem_append,List.mem_cons] at hi ⊢; rcases hi with hi | hi<;>simp[hi])) (by simp[hls]) (fun k hk i hi=>?_) hI' h' h2
   ·exact List.pairwise_append.2 ⟨hpA.1,(List.pairwise_cons.1 hpA.2.1).2,fun x hx y hy=>hpA.2.2 x hx y (by simp[hy])⟩
   ·by_cases hij:i=j
    ·subst hij
     constructor
     ·rintro (hm | hm)
      ·exact absurd hm hnodup
      ·exact absurd hm (hRT i (by simp))
     ·rintro⟨_,h3⟩
      simp[show i<listed.size by omega] at h3
    ·rw[getD_set_ne true (fun e=>hij e.symm),←hR i]
     simp only[List.mem_append,List.mem_cons]
     constructor
     ·rintro ((h3 | h3) | h3)
      ·exact .inl (.inl h3)
      ·exact .inl (.inr (.inr h3))
      ·exact .inr h3
     ·rintro ((h3 | h3 | h3) | h3)
      ·exact .inl (.inl h3)
      ·exact absurd h3 hij
      ·exact .inl (.inr h3)
      ·exact .inr h3
   ·by_cases hkj:k=j
    ·subst hkj; exact getD_set_true (hbits i hi)
    ·rw[getD_set_ne false (fun e=>hkj e.symm)] at hk
     exact getD_set_true (hcl k hk i hi)
theorem Rel.drawn {st:St} {gh:Gh} {a:Act} {w:World} (h:Rel C st gh a w):Rel C st gh a { w with drawn:=w.drawn+1 }:=by
 have hT:Tr C w gh st.objs { w with drawn:=w.drawn+1 } gh st.objs (fun _=>False) (fun _=>False):=
  ⟨Nat.le_refl _,fun b _=>.inl rfl,fun l b _ hb=>⟨l,hb,.inl rfl⟩,fun l _ _=>⟨rfl,rfl,rfl,rfl⟩,fun l hl=>hl.elim⟩
 refine⟨⟨h.fr.os,h.fr.tape,h.fr.output,h.fr.size,h.fr.block,fun hq=>Nat.le_trans (h.fr.drawn hq) (Nat.le_succ _)⟩,h.u0,h.gl,h.lt,h.own,h.dj,h.nd,h.sep,fun l=>?_,h.fix,h.fm,h.len,fun i=>?_,h.df,h.frm.mono fun c y hc hk=>z52 hT h.dj h.objs z2f hk⟩
 ·by_cases hd:obj st.objs l=.dead
  ·have:=h.objs l
   rw[hd] at this ⊢
   exact this
  ·refine zhl hT h.dj h.objs h.lt (fun h=>h) hd ?_
   cases ho:obj st.objs l with
   | dead=>exact absurd ho hd
   | hol _ _ _=>exact trivial
   | box cs=>exact fun c hc=>z2f
   | row e t xs d L=>exact fun _ hl=>hl.elim
 ·exact znw hT h.dj h.objs (z2r fun c hc=>z2f) (h.regs i)
theorem ztb {ρ:Type} (hE:EnvOk C.P C.Γ E) (hcb:CBOk C.P C.Γ cb) {r f id:Nat} {ops:Array Oper} {front:List Oper} {y:ρ} {st:St} {gh:Gh} {a:Act} {w:World} {K:St→Option ρ} {Q:Exit→Act→World→Prop} (hI:Inv r f st) (h:Rel C st gh a w)
  (hfr:∀ (k:Nat) (o:Oper),front[k]? = some o→ops.toList[k]? = some o) (hle:front.length≤ops.size) (hT:∀ j,front.length≤j→j<ops.size→∀ i,i<front.length→((z2g ops.toList).getD j 0).testBit i=true)
  (hs:zh8 E cb ops.toList 0 front [] st none (fun cls st'=>if zyi E ops.toList cls then K st' else none)=some y)
  (hK:∀ st' gh' a' w' (listed:Array Bool),Inv r f st'→Rel C st' gh' a' w'→K st'=some y→(∀ j o,ops[j]? = some o→∀ e∈o.after.toList,Region.binds .any e=true→e.on<j)→listed.size=ops.size→(∀ i,i∈List.range' front.length (ops.size - front.length)↔i<ops.size∧listed.getD i true=false)→wpAny C.P .any ops Q (ops.size - front.length) listed a' w'):(Code.region id ops true).wp C.P Q a w:=by
 obtain⟨cls,stf,hk,⟨tl,htl,htl2⟩,hseq⟩:=zn5 front 0 [] st none (by simpa using hfr) rfl hs
 split at hk
 case isFalse=>cases hk
 rename_i hd
 unfold zyi y0z zwc at hd
 simp only[Bool.and_eq_true,List.all_eq_true,List.mem_range,Array.length_toList,Bool.or_eq_true,Bool.not_eq_true'] at hd
 obtain⟨hback,hstat,hfree⟩:=hd
 have hbk:∀ j o,ops[j]? = some o→∀ e∈o.after.toList,Region.binds .any e=true→e.on<j:=by
  intro j o ho e he hb
  have hj:j<ops.size:=(Array.getElem?_eq_some_iff.1 ho).1
  have:=hback j hj
  rw[show ops.toList[j]? = some o by simpa using ho] at this
  simp only[List.all_eq_true,Bool.or_eq_true,Bool.not_eq_true'] at this
  rcases this e he with h1 | h1
  ·rw[hb] at h1; cases h1
  ·simpa using h1
 refine wp_region_any hE.mixed ?_
 have hsz:front.length+(List.range' front.length (ops.size - front.length)).length=ops.size:=by rw[List.length_range']; omega
 suffices key:wpAny C.P .any ops Q (front.length+(List.range' front.length (ops.size - front.length)).length) (Array.replicate ops.size false) a { w with drawn:=w.drawn+1 } by rwa [hsz] at key
 refine y6y hE hcb (cl:=fun k=>cls.getD k 3) (stf:=stf) hbk (fun i j oi oj hij hoi hoj=>?_) (T:=List.range' front.length (ops.size - front.length)) (fun j hj i hi hn=>by rw[List.mem_range'_1] at hj hn; exact hT j (by omega) (by omega) i (by omega)) (fun j hj i hi hn=>by rw[List.mem_range'_1] at hj hn; omega) (fun gh a w listed hI h h1 h2=>by rw[List.length_range']; exact hK stf gh a w listed hI h hk hbk h1 h2) front.length (List.range front.length) _ (st,none) gh a _ (by simp) ?_ (fun i=>?_) (fun i hi=>by rw[List.mem_range] at hi; rw[List.mem_range'_1]; omega) (by simp) (fun k hk i hi=>?_) hI h.drawn ?_
 ·have hj:j<ops.size:=(Array.getElem?_eq_some_iff.1 hoj).1
  have ei:ops.toList[i]? = some oi:=by simpa using hoi
  have ej:ops.toList[j]? = some oj:=by simpa using hoj
  have h1:=hstat j hj i hij
  rw[ei,ej] at h1
  cases hb:((z2g ops.toList).getD j 0).testBit i with
  | true=>exact .inl rfl
  | false=>
   rw[hb] at h1
   rcases h1 with h1 | h1
   ·cases h1
   ·have hmem:(i,j,zlf oi,zht oi,zf0 E oj&&zi1 E oi,isIx oi,isIx oj,midK E z3i oi oj,midK E z3h oi oj,oi.guard.isNone,oj.guard.isNone,zot E oi,zf0 E oj)∈zlw E ops.toList:=by
     unfold zlw
     refine List.mem_flatMap.2 ⟨j,List.mem_range.2 (by simpa using hj),List.mem_filterMap.2 ⟨i,List.mem_range.2 hij,?_⟩⟩
     rw[hb,if_neg (by simp),ei,ej]
    have h2:=hfree _ hmem
    right
    have h3:zpx ops.toList oi oj=true:=h1
    unfold zgk
    rw[h3]
    exact h2
 ·exact List.pairwise_lt_range
 ·simp only[List.mem_range,List.mem_range'_1]
  constructor
  ·intro hi
   have hi:i<ops.size:=by omega
   exact⟨hi,by simp[hi]⟩
  ·exact fun h=>by have:=h.1; omega
 ·exfalso
  by_cases hks:k<ops.size<;>simp[hks] at hk
 ·rw[←List.range_eq_range'] at hseq
  exact hseq
theorem zn6 {ρ:Type} (hE:EnvOk C.P C.Γ E) (hcb:CBOk C.P C.Γ cb) {r f id:Nat} {ops:Array Oper} {front:List Oper} {y:ρ} {st:St} {gh:Gh} {a:Act} {w:World} {K:St→Option ρ} {Q:Exit→Act→World→Prop} (hI:Inv r f st) (h:Rel C st gh a w)
  (hfr:∀ (k:Nat) (o:Oper),front[k]? = some o→ops.toList[k]? = some o) (hle:front.length≤ops.size) (hT:∀ j,front.length≤j→j<ops.size→∀ i,i<front.length→((z2g ops.toList).getD j 0).testBit i=true)
  (hs:zi9 E cb ops.toList front st K=some y)
  (hK:∀ st' gh' a' w' (listed:Array Bool),Inv r f st'→Rel C st' gh' a' w'→K st'=some y→(∀ j o,ops[j]? = some o→∀ e∈o.after.toList,Region.binds .any e=true→e.on<j)→listed.size=ops.size→(∀ i,i∈List.range' front.length (ops.size - front.length)↔i<ops.size∧listed.getD i true=false)→wpAny C.P .any ops Q (ops.size - front.length) listed a' w'):(Code.region id ops true).wp C.P Q a w:=by
 unfold zi9 at hs
 split at hs
 ·exact ztb hE hcb hI h hfr hle hT hs hK
 ·rw[zr9] at hs
  split at hs
  ·exact ztb hE hcb hI h hfr hle hT hs hK
  ·rename_i p q hpq
   exact ztb (E:={ E with slots:=p::q }) ⟨hE.mixed,hE.q,hE.tab,hE.sig,hE.clos,hE.eqs,hE.rfn⟩ hcb (st:={ st with objs:=st.objs++(p::q).map fun _=>AObj.dead }) ⟨hI.ro,hI.fx,by have:=hI.rl; simp; omega,by have:=hI.fl; simp; omega⟩ (h.reserve fun k=>zzz _ _ k) hfr hle hT hs hK
theorem zse {ρ:Type} (hE:EnvOk C.P C.Γ E) (hcb:CBOk C.P C.Γ cb) {r f id:Nat} {ops:Array Oper} {y:ρ} {st:St} {gh:Gh} {a:Act} {w:World} {K:St→Option ρ} {Q:Exit→Act→World→Prop} (hI:Inv r f st) (h:Rel C st gh a w)
  (hs:zi9 E cb ops.toList ops.toList st K=some y) (hK:∀ st' gh' a' w',Inv r f st'→Rel C st' gh' a' w'→K st'=some y→Q .normal a' w'):(Code.region id ops true).wp C.P Q a w:=by
 refine zn6 hE hcb hI h (fun _ _ h=>h) (by simp) (fun j h1 h2=>by simp at h1; omega) hs fun st' gh' a' w' listed hI' h' hk _ hls hl=>?_
 rw[Array.length_toList] at hl ⊢
 rw[Nat.sub_self] at hl ⊢
 refine⟨?_,hK st' gh' a' w' hI' h' hk⟩
 cases hr:Region.ready .any ops listed with
 | nil=>rfl
 | cons j _=>
  have hj:j∈Region.ready .any ops listed:=by rw[hr]; simp
  obtain⟨h0,o,ho,_⟩:=mem_ready.1 hj
  have:=(hl j).2 ⟨(Array.getElem?_eq_some_iff.1 ho).1,h0⟩
  simp at this
end
end Go.AM
