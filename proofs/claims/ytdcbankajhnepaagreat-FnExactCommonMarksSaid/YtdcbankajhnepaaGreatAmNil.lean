/- Slices held against nil; nil slices that become rows of ours. No condition. -/
import Derived.Test.YtdcbankajhnepaaGreatAmRebox
import Derived.WalkSpells
import Derived.Laws.Cover3
set_option linter.unusedVariables false
set_option linter.unusedSimpArgs false
namespace Go.AM
theorem bothO_some {ρ:Type} {a b:Option ρ} {y:ρ} (h:bothO a b = some y):a = some y ∧ b = some y:=by
 unfold bothO at h
 split at h
 ·rename_i hab
  exact ⟨h,hab ▸ h⟩
 ·cases h
theorem bothO_same {ρ:Type} (a:Option ρ):bothO a a = a:=by
 unfold bothO
 rw [if_pos rfl]
section
variable {C:Ctx} {st:St} {gh:Gh} {a:Act} {w:World}
theorem slice_rep (h:Rel C st gh a w) {c:Leaf} {v:Value} (hc:LeafOk C w gh st.objs c v) {s:Ty} {xs:List s.den} {L:List Nat} (hd:sliceData st.objs s c = some (xs,L)):∃ A n,v = .slice A (List.length xs) n ∧ (xs = [] ∨ A.isSome = true):=by
 have hg:getImm st.objs (.slice 0 s) [c] = some (xs,L,[]):=by simp only [getImm,hd]
 obtain ⟨v1,v2,he,hi,h2⟩:=getImm_ok h.dj h.sep0 h.lt h.objs (.slice 0 s) (ls:=[c]) (vs:=[v]) ⟨hc,trivial⟩ hg
 obtain ⟨A,n,h3,_,h4⟩:=hi.rep
 subst h3
 refine ⟨A,n,(List.cons.inj he).1,?_⟩
 rcases h4 with h4 | ⟨b,o,hA,_⟩
 ·exact .inl h4
 ·exact .inr (by rw [hA]; rfl)
def nilSays (neg b:Bool):Option Bool → Prop
 | none=>b = !neg
 | some true=>True
 | some false=>b = neg
theorem ok_nilCmp {E:Env} (hE:EnvOk C.P C.Γ E) {o:Oper} (h:Rel C st gh a w) {neg:Bool} {e:Option Bool} (hs:nilCmp E st o = some (neg,e)):
  ∃ b:Bool,(execOp a.eval o).run C.P w = .ok (.value (.bool b)) w ∧ nilSays neg b e:=by
 unfold nilCmp at hs
 split at hs
 case h_2=>cases hs
 rename_i op t x y u ho
 split at hs
 case isFalse=>cases hs
 rename_i hsl
 have htd:∃ el,C.P.underlying t = some (.slice el):=by
  unfold isSliceTy at hsl
  split at hsl
  ·rename_i el _ _ _ htt
   have:=(hE.tab _ _ htt).td
   exact ⟨el,this.2.1⟩
  ·cases hsl
 obtain ⟨el,hu⟩:=htd
 have main:∀ (A:Option Addr) (n c:Nat),a.eval x = .slice A n c → a.eval y = .slice none 0 0 → ∀ ng:Bool,op = (if ng then BinOp.neq else BinOp.eql) → (execOp a.eval o).run C.P w = .ok (.value (.bool (ng ^^ A.isNone))) w:=by
  intro A n c hx hy ng hop
  cases ng with
  | false=>
   simp only [Bool.false_eq_true,if_false] at hop
   subst hop
   have:=run_equal_slice_nil (P:=C.P) w t el A n c hu
   simp [execOp,ho,hx,hy,binOp,eqGuard,this]
  | true=>
   simp only [if_true] at hop
   subst hop
   have:=run_equal_slice_nil (P:=C.P) w t el A n c hu
   simp [execOp,ho,hx,hy,binOp,eqGuard,this]
 have fin:∀ ng:Bool,op = (if ng then BinOp.neq else BinOp.eql) → a.eval y = .slice none 0 0 → (match (st.ev x).leaf with
   | .nilS=>some (ng,none)
   | c=>match sliceTy st.objs c with
    | some s=>match sliceData st.objs s c with
     | some (xs,_)=>some (ng,some xs.isEmpty)
     | none=>none
    | none=>none) = some (neg,e) → ∃ b:Bool,(execOp a.eval o).run C.P w = .ok (.value (.bool b)) w ∧ nilSays neg b e:=by
  intro ng hop hy hm
  have hlx:=h.leaf x
  split at hm
  ·rename_i hl
   simp only [Option.some.injEq,Prod.mk.injEq] at hm
   obtain ⟨rfl,rfl⟩:=hm
   rw [hl] at hlx
   refine ⟨_,main none 0 0 hlx.1 hy ng hop,?_⟩
   cases ng <;> rfl
  ·split at hm
   case h_2=>cases hm
   rename_i s _
   split at hm
   case h_2=>cases hm
   rename_i xs L hd
   simp only [Option.some.injEq,Prod.mk.injEq] at hm
   obtain ⟨rfl,rfl⟩:=hm
   obtain ⟨A,n,hv,hA⟩:=slice_rep h hlx hd
   refine ⟨_,main A _ n hv hy ng hop,?_⟩
   show nilSays ng (ng ^^ A.isNone) (some xs.isEmpty)
   rcases hA with hA | hA
   ·subst hA; trivial
   ·have hn:(ng ^^ A.isNone) = ng:=by
     cases A with
     | none=>cases hA
     | some _=>simp
    rw [hn]
    generalize xs.isEmpty = q
    cases q
    ·rfl
    ·trivial
 have hly:=h.ev y
 split at hs
 ·rename_i hy
  rw [hy] at hly
  exact fin false rfl hly.1 hs
 ·rename_i hy
  rw [hy] at hly
  exact fin true rfl hly.1 hs
 ·cases hs
theorem All2.setL {α β:Type} {R:α → β → Prop}:∀ {xs:List α} {ys:List β} {i:Nat} {c:α},All2 R xs ys → (∀ v,ys[i]? = some v → R c v) → All2 R (xs.set i c) ys
 | [],ys,i,c,h,_=>by simpa using h
 | x :: xs,[],i,c,h,_=>h.elim
 | x :: xs,y :: ys,0,c,h,hc=>⟨hc y rfl,h.2⟩
 | x :: xs,y :: ys,i + 1,c,h,hc=>⟨h.1,All2.setL h.2 fun v hv=>hc v (by simpa using hv)⟩
def SpotV (C:Ctx) (gh:Gh) (a:Act) (w:World):Spot → Value → Prop
 | .r i,v=>a.tmps.getD i undef = v
 | .f i,v=>C.frm[i]? = some v
 | .b l k,v=>∃ arr T,w.heap[gh.bk l]? = some (.cells arr T (0,0)) ∧ arr.toList[k]? = some v
theorem spot_val (h:Rel C st gh a w) {s:Spot} {d:Leaf} (hd:spotGet st s = d) (hn:d ≠ .undef):∃ v,SpotV C gh a w s v ∧ LeafOk C w gh st.objs d v:=by
 subst hd
 cases s with
 | r i=>
  have hv:=h.regs i
  refine ⟨_,rfl,?_⟩
  simp only [spotGet] at hn ⊢
  cases hr:st.reg i with
  | one c=>rw [hr] at hv; exact hv
  | agg cs=>rw [hr] at hn; exact absurd rfl hn
  | tup vs=>rw [hr] at hn; exact absurd rfl hn
 | f i=>
  simp only [spotGet,List.getD] at hn ⊢
  cases hf:st.frm[i]? with
  | none=>rw [hf] at hn; exact absurd rfl hn
  | some c=>
   obtain ⟨v,hv,hc⟩:=h.frm.get hf
   exact ⟨v,hv,hc⟩
 | b l k=>
  simp only [spotGet,List.getD] at hn ⊢
  cases ho:obj st.objs l with
  | dead=>rw [ho] at hn; exact absurd rfl hn
  | row e t xs d L=>rw [ho] at hn; exact absurd rfl hn
  | box cs=>
   rw [ho] at hn
   simp only at hn ⊢
   have hb:=h.objs l
   rw [ho] at hb
   obtain ⟨_,arr,T,hw,ha⟩:=hb
   cases hf:cs[k]? with
   | none=>rw [hf] at hn; exact absurd rfl hn
   | some c=>
    obtain ⟨v,hv,hc⟩:=ha.get hf
    exact ⟨v,⟨arr,T,hw,hv⟩,hc⟩
theorem spot_put (h:Rel C st gh a w) {s:Spot} {v:Value} (hs:SpotV C gh a w s v) {c:Leaf} (hc:LeafOk C w gh st.objs c v):Rel C (spotPut st c s) gh a w ∧ (spotPut st c s).ro = st.ro ∧ (spotPut st c s).fx = st.fx ∧ (spotPut st c s).objs.length = st.objs.length:=by
 cases s with
 | r i=>
  refine ⟨⟨h.fr,h.u0,h.gl,h.lt,h.own,h.dj,h.nd,h.sep,h.objs,h.fix,h.fm,by simpa [spotPut] using h.len,fun j=>?_,h.df,h.frm⟩,rfl,rfl,rfl⟩
  show SVOk _ ((st.regs.set i (.one c)).getD j (.one .undef)) _
  have hj:=h.regs j
  by_cases e:j = i
  ·subst e
   by_cases hlt:j < st.regs.length
   ·rw [show (st.regs.set j (.one c)).getD j (.one .undef) = .one c by simp [List.getD,hlt]]
    simp only [SpotV] at hs
    rw [hs]
    exact hc
   ·rw [show (st.regs.set j (.one c)).getD j (.one .undef) = .one .undef by simp [List.getD,hlt]]
    exact SVOk.undef _
  ·rw [show (st.regs.set i (.one c)).getD j (.one .undef) = st.regs.getD j (.one .undef) by simp [List.getD,List.getElem?_set_ne (fun e'=>e e'.symm)]]
   exact hj
 | f i=>exact ⟨⟨h.fr,h.u0,h.gl,h.lt,h.own,h.dj,h.nd,h.sep,h.objs,h.fix,h.fm,h.len,h.regs,h.df,All2.setL h.frm fun v' hv'=>by rw [show SpotV C gh a w (.f i) v = (C.frm[i]? = some v) from rfl,hv'] at hs; cases hs; exact hc⟩,rfl,rfl,rfl⟩
 | b l k=>
  simp only [spotPut]
  cases ho:obj st.objs l with
  | dead=>exact ⟨h,rfl,rfl,rfl⟩
  | row e t xs d L=>exact ⟨h,rfl,rfl,rfl⟩
  | box cs=>
   have hl:=obj_lt (os:=st.objs) (l:=l) (by rw [ho]; simp)
   have K1:∀ k' e t xs d L,obj st.objs k' = .row e t xs d L → obj (st.objs.set l (.box (cs.set k c))) k' = .row e t xs d L:=by
    intro k' e t xs d L hr
    rw [obj_set_ne (fun e'=>by subst e'; rw [ho] at hr; cases hr)]; exact hr
   have K2:∀ k' ds,obj st.objs k' = .box ds → ∃ es,obj (st.objs.set l (.box (cs.set k c))) k' = .box es:=by
    intro k' ds hr
    by_cases e:k' = l
    ·subst e; exact ⟨_,obj_set_eq hl⟩
    ·exact ⟨ds,by rw [obj_set_ne e]; exact hr⟩
   have key:∀ c' y,LeafOk C w gh st.objs c' y → LeafOk C w gh (st.objs.set l (.box (cs.set k c))) c' y:=fun c' y hc'=>leaf_kind K1 K2 hc'
   refine ⟨⟨h.fr,h.u0,h.gl,h.lt,h.own,h.dj,h.nd,h.sep,fun k'=>?_,h.fix,h.fm,h.len,fun i=>(h.regs i).mono fun c y _ hc=>key c y hc,h.df,h.frm.mono fun c y _ hc=>key c y hc⟩,rfl,rfl,by simp⟩
   have hb:=h.objs k'
   show ObjOk C w gh _ k' (obj (st.objs.set l (.box (cs.set k c))) k')
   by_cases e:k' = l
   ·subst e
    rw [obj_set_eq hl]
    rw [ho] at hb
    obtain ⟨q1,arr,T,q2,q3⟩:=hb
    refine ⟨q1,arr,T,q2,All2.setL (q3.mono fun c y _ hc=>key c y hc) fun v' hv'=>?_⟩
    obtain ⟨arr',T',q4,q5⟩:=hs
    rw [q2] at q4
    simp only [Option.some.injEq,Obj.cells.injEq,and_true] at q4
    obtain ⟨rfl,rfl⟩:=q4
    rw [hv'] at q5
    cases q5
    exact key _ _ hc
   ·rw [obj_set_ne e]
    cases ho':obj st.objs k' with
    | dead=>rw [ho'] at hb; exact hb
    | box ds=>
     rw [ho'] at hb
     obtain ⟨q1,arr,T,q2,q3⟩:=hb
     exact ⟨q1,arr,T,q2,q3.mono fun c y _ hc=>key c y hc⟩
    | row e t xs d L=>rw [ho'] at hb; exact hb
theorem frzAt_ok (h:Rel C st gh a w) {s:Spot} {e:TypeId} {t:Ty} {st':St} (hs:frzAt st s e t = some st'):∃ gh',Rel C st' gh' a w ∧ st'.ro = st.ro ∧ st'.fx = st.fx ∧ st'.objs.length = st.objs.length:=by
 unfold frzAt at hs
 split at hs
 ·rename_i hg
  simp only [Option.some.injEq] at hs
  subst hs
  obtain ⟨v,h1,h2⟩:=spot_val h hg (by simp)
  have hv:v = .slice none 0 0:=h2.1
  exact ⟨gh,spot_put h h1 ⟨fun W' _=>⟨none,0,by rw [hv]; rfl,Nat.le_refl _,.inl rfl⟩,fun _=>h2.2 rfl⟩⟩
 ·rename_i m hg
  split at hs
  ·rename_i d st1 hf
   simp only [Option.some.injEq] at hs
   subst hs
   obtain ⟨v,h1,h2⟩:=spot_val h hg (by simp)
   obtain ⟨g1,hr1,s1,hl,_,_⟩:=Rel.frzLs [m] h (ls:=[.own m]) (us:=[v]) ⟨h2,trivial⟩ hf
   have h3:SpotV C g1 a w s v:=by
    cases s with
    | r i=>exact h1
    | f i=>exact h1
    | b l k=>obtain ⟨arr,T,q1,q2⟩:=h1; exact ⟨arr,T,by rw [s1.bk]; exact q1,q2⟩
   obtain ⟨k1,k2,k3,k4⟩:=spot_put hr1 h3 hl.1
   exact ⟨g1,k1,k2.trans s1.ro,k3.trans s1.fx,k4.trans s1.len⟩
  ·cases hs
 ·simp only [Option.some.injEq] at hs
  subst hs
  exact ⟨gh,h,rfl,rfl,rfl⟩
def Gh.take (gh:Gh) (c m:Nat):Gh:=
 {hd:=fun k=>if k = c then gh.hd m else gh.hd k,bk:=gh.bk,ft:=fun k=>if k = c then gh.ft m else if k = m then [] else gh.ft k }
theorem stays_or {c:Leaf} {Z1 Z2 H:Nat → Prop} (h1:c.stays Z1 H) (h2:c.stays Z2 H):c.stays (fun k=>Z1 k ∨ Z2 k) H:=by
 cases c with
 | fn f caps=>intro p hp e; exact e.elim (h1 p hp) (h2 p hp)
 | own k=>intro e; exact e.elim h1 h2
 | oela k i o=>intro e; exact e.elim h1 h2
 | view k i o=>intro e; exact e.elim h1 h2
 | ptr k o=>intro e; exact e.elim h1 h2
 | sub k i o=>intro e; exact e.elim h1 h2
 | oel2 k i o j o2=>intro e; exact e.elim h1 h2
 | val t x L=>intro l e; exact e.elim (h1 l) (h2 l)
 | ela t xs i o L=>intro l e; exact e.elim (h1 l) (h2 l)
 | undef=>trivial
 | skip=>trivial
 | nilS=>trivial
 | clo gs r p=>trivial
theorem takeAt_ok (h:Rel C st gh a w) {s:Spot} {c:Nat} {st':St} (hs:takeAt st s c = some st'):∃ gh',Rel C st' gh' a w ∧ st'.ro = st.ro ∧ st'.fx = st.fx ∧ st'.objs.length = st.objs.length:=by
 unfold takeAt at hs
 split at hs
 case h_2=>cases hs
 rename_i m hg
 split at hs
 ·simp only [Option.some.injEq] at hs
  subst hs
  exact ⟨gh,h,rfl,rfl,rfl⟩
 rename_i hmc
 have hmc:m ≠ c:=by simpa using hmc
 split at hs
 case h_2=>cases hs
 rename_i e t xs d L e2 t2 xs2 d2 L2 hom hoc
 split at hs
 case isFalse=>cases hs
 rename_i hb
 split at hs
 case h_2=>cases hs
 rename_i st1 hk
 simp only [Option.some.injEq] at hs
 subst hs
 obtain ⟨v,hv,hl⟩:=spot_val h hg (by simp)
 obtain ⟨h1,hcl,_,k1,k2,k3,k4,_⟩:=Rel.killAll [c,m] h hk
 have cc:=hcl c (by simp)
 have cm:=hcl m (by simp)
 have hom1:obj st1.objs m = .row e t xs d L:=(k4 m e t xs d L).2 hom
 have hoc1:obj st1.objs c = .row e2 t2 xs2 d2 L2:=(k4 c e2 t2 xs2 d2 L2).2 hoc
 have hlc:c < st1.objs.length:=obj_lt (by rw [hoc1]; simp)
 have hlm:m < st1.objs.length:=obj_lt (by rw [hom1]; simp)
 have nb:∀ {x y:Nat},Nat.blt x y = false → y ≤ x:=fun {x y} hx=>Nat.not_lt.1 fun hlt=>by have h2:Nat.blt x y = true:=(by simpa using hlt); rw [hx] at h2; cases h2
 simp only [Bool.and_eq_true,Bool.not_eq_true'] at hb
 obtain ⟨⟨⟨b1,b2⟩,b3⟩,b4⟩:=hb
 have b1:=nb b1; have b2:=nb b2; have b3:=nb b3; have b4:=nb b4
 have oc:obj ((st1.objs.set c (.row e t xs d L)).set m .dead) c = .row e t xs d L:=by rw [obj_set_ne (fun e=>hmc e.symm),obj_set_eq hlc]
 have om:obj ((st1.objs.set c (.row e t xs d L)).set m .dead) m = .dead:=by rw [obj_set_eq (by rw [List.length_set]; exact hlm)]
 have oo:∀ k,k ≠ c → k ≠ m → obj ((st1.objs.set c (.row e t xs d L)).set m .dead) k = obj st1.objs k:=fun k q1 q2=>by rw [obj_set_ne q2,obj_set_ne q1]
 generalize ho2:(st1.objs.set c (.row e t xs d L)).set m .dead = os2 at oc om oo
 have hlen2:os2.length = st1.objs.length:=by rw [← ho2,List.length_set,List.length_set]
 have fc:(gh.take c m).ft c = gh.ft m:=by simp [Gh.take]
 have fm:(gh.take c m).ft m = []:=by simp [Gh.take,hmc]
 have fo:∀ k,k ≠ c → k ≠ m → (gh.take c m).ft k = gh.ft k:=fun k q1 q2=>by simp [Gh.take,q1,q2]
 have dc:(gh.take c m).hd c = gh.hd m:=by simp [Gh.take]
 have dO:∀ k,k ≠ c → (gh.take c m).hd k = gh.hd k:=fun k q1=>by simp [Gh.take,q1]
 have up:∀ {k b},b ∈ (gh.take c m).ft k → (k = c ∧ b ∈ gh.ft m) ∨ (k ≠ c ∧ k ≠ m ∧ b ∈ gh.ft k):=by
  intro k b hb
  by_cases q1:k = c
  ·subst q1; rw [fc] at hb; exact .inl ⟨rfl,hb⟩
  ·by_cases q2:k = m
   ·subst q2; rw [fm] at hb; simp at hb
   ·rw [fo k q1 q2] at hb; exact .inr ⟨q1,q2,hb⟩
 have hT:Tr C w gh st1.objs w (gh.take c m) os2 (fun k=>k = c ∨ k = m) (fun _=>true = false):=by
  refine ⟨Nat.le_refl _,fun b _=>.inl rfl,fun k b _ hb=>?_,fun k hk _=>?_,fun k _ hH=>by cases hH⟩
  ·rcases up hb with ⟨_,hb2⟩ | ⟨_,_,hb2⟩
   ·exact ⟨m,hb2,.inr (.inr rfl)⟩
   ·exact ⟨k,hb2,.inl rfl⟩
  ·have q1:k ≠ c:=fun e=>hk (.inl e)
   have q2:k ≠ m:=fun e=>hk (.inr e)
   exact ⟨oo k q1 q2,dO k q1,rfl,fo k q1 q2⟩
 have st2:∀ x:Leaf,x.dies true c = false → x.dies true m = false → x.stays (fun k=>k = c ∨ k = m) (fun _=>true = false):=fun x q1 q2=>stays_or (stays_of_dies q1) (stays_of_dies q2)
 have hrel:Rel C { st1 with objs:=os2 } (gh.take c m) a w:=by
  refine ⟨h1.fr,h1.u0,h1.gl,fun k b hb=>?_,fun k b hk hb=>?_,fun k k' b hb hb'=>?_,fun k=>?_,fun k b hb=>?_,fun k=>?_,fun k hk=>?_,h1.fm,h1.len,fun i=>?_,h1.df,h1.frm.mono fun x y hx hk=>leaf_tr hT h1.dj h1.objs (st2 x (cc.frm x hx) (cm.frm x hx)) hk⟩
  ·rcases up hb with ⟨_,hb⟩ | ⟨_,_,hb⟩ <;> exact h1.lt _ _ hb
  ·rcases up hb with ⟨_,hb⟩ | ⟨_,_,hb⟩
   ·exact h1.own m b (by rw [k1]; exact b2) hb
   ·exact h1.own k b hk hb
  ·rcases up hb with ⟨q1,hb2⟩ | ⟨q1,q2,hb2⟩ <;> rcases up hb' with ⟨q3,hb3⟩ | ⟨q3,q4,hb3⟩
   ·exact q1.trans q3.symm
   ·exact absurd (h1.dj _ _ _ hb2 hb3).symm q4
   ·exact absurd (h1.dj _ _ _ hb2 hb3) q2
   ·exact h1.dj _ _ _ hb2 hb3
  ·by_cases q1:k = c
   ·subst q1; rw [fc]; exact h1.nd m
   ·by_cases q2:k = m
    ·subst q2; rw [fm]; simp
    ·rw [fo k q1 q2]; exact h1.nd k
  ·rcases up hb with ⟨_,hb⟩ | ⟨_,_,hb⟩ <;> exact h1.sep _ _ hb
  ·show ObjOk C w _ os2 k (obj os2 k)
   by_cases q1:k = c
   ·subst q1
    rw [oc]
    have hm:=h1.objs m
    rw [hom1] at hm
    obtain ⟨Fs,ess,r1,r2,r3⟩:=hm
    refine ⟨Fs,ess,AllR.mono (fun x _ F cs hx=>?_) r1,by rw [fc,dc]; exact r2,by rw [dc]; exact r3⟩
    unfold ElemR at hx ⊢
    cases d with
    | true=>exact hx
    | false=>
     refine ⟨hx.1,imm_tr hT (fun l hl=>?_) hx.2⟩
     rcases hl with rfl | rfl
     ·exact cc.rows _ _ _ _ _ _ hom1
     ·exact cm.rows _ _ _ _ _ _ hom1
   ·by_cases q2:k = m
    ·subst q2; rw [om]; exact fm
    ·rw [oo k q1 q2]
     by_cases hd:obj st1.objs k = .dead
     ·have:=h1.objs k
      rw [hd] at this ⊢
      show (gh.take c m).ft k = []
      rw [fo k q1 q2]; exact this
     ·have:=obj_tr hT h1.dj h1.objs h1.lt (l:=k) (fun e=>e.elim q1 q2) hd (by
       cases ho:obj st1.objs k with
       | dead=>exact absurd ho hd
       | box ds=>exact fun x hx=>st2 x (cc.boxes k ds ho x hx) (cm.boxes k ds ho x hx)
       | row e t xs d L=>
        intro l' hl'
        rcases hl' with rfl | rfl
        ·exact cc.rows _ _ _ _ _ _ ho
        ·exact cm.rows _ _ _ _ _ _ ho)
      rw [oo k q1 q2] at this
      exact this
  ·have hk':k < st.fx:=by have:k < st1.fx:=hk; omega
   have q1:k ≠ c:=by omega
   have q2:k ≠ m:=by omega
   rw [dO k q1,fo k q1 q2]
   exact h1.fix k hk
  ·exact sv_tr hT h1.dj h1.objs (stays_of_all fun x hx=>st2 x (cc.regs i x hx) (cm.regs i x hx)) (h1.regs i)
 have hv':SpotV C (gh.take c m) a w s v:=by
  cases s with
  | r i=>exact hv
  | f i=>exact hv
  | b l k=>exact hv
 obtain ⟨r1,r2,r3,r4⟩:=spot_put hrel hv' (c:=.own c) ⟨⟨by rw [dc]; exact hl.1.1,_,_,_,_,_,oc⟩,fun _=>hl.2 rfl⟩
 exact ⟨_,r1,r2.trans k1,r3.trans k2,r4.trans (by show os2.length = _; omega)⟩
theorem leanAt_ok (h:Rel C st gh a w) {s:Spot} {L:List Nat} {st':St} (hs:leanAt st s L = some st'):Rel C st' gh a w ∧ st'.ro = st.ro ∧ st'.fx = st.fx ∧ st'.objs.length = st.objs.length:=by
 unfold leanAt at hs
 split at hs
 ·rename_i t x M hg
  simp only [Option.some.injEq] at hs
  subst hs
  obtain ⟨v,hv,hc⟩:=spot_val h hg (by simp)
  exact spot_put h hv ⟨hc.1.sub fun b _ hb=>UU.mono (fun l hl=>by rw [has_app,hl]; rfl) hb,fun _=>hc.2 rfl⟩
 ·cases hs
theorem rowAt_ok {pl pk:Nat} {pe:TypeId} {pt:Ty} {pd:Bool} {pL:List Nat} {st st':St} {gh:Gh} (h:Rel C st gh a w) (hfx:st.fx ≤ st.objs.length) (hs:rowAt st pl pk pe pt pd pL = some st'):∃ gh',Rel C st' gh' a w ∧ st'.ro = st.ro ∧ st'.fx = st.fx ∧ st.objs.length ≤ st'.objs.length:=by
  unfold rowAt at hs
  split at hs
  case h_2=>cases hs
  rename_i cs hob
  split at hs
  case h_2=>cases hs
  rename_i hk
  simp only [Option.some.injEq] at hs
  subst hs
  have hl:pl < st.objs.length:=obj_lt (by rw [hob]; simp)
  have h1:Rel C { st with objs:=st.objs ++ [AObj.row pe pt [] pd pL] } (gh.add st.objs.length (.slice none 0 0) 0 []) a w:=
   h.new1 (Fr.refl _ _) hfx (by simp) (by simp) ⟨[],[],trivial,by simp [Gh.add,Value.ownBlock],by
    simp only [Gh.add,if_true]
    exact ⟨by simp,.inl ⟨rfl,rfl⟩⟩⟩
  have hrow:obj (st.objs ++ [AObj.row pe pt [] pd pL]) st.objs.length = .row pe pt [] pd pL:=by simp [obj,List.getD]
  have hbox:obj (st.objs ++ [AObj.row pe pt [] pd pL]) pl = .box cs:=by rw [obj_app hl,hob]
  have hlt':pl < (st.objs ++ [AObj.row pe pt [] pd pL]).length:=by simp; omega
  have hne:st.objs.length ≠ pl:=by omega
  generalize hos:st.objs ++ [AObj.row pe pt [] pd pL] = os at h1 hrow hbox hlt' ⊢
  generalize hgg:gh.add st.objs.length (.slice none 0 0) 0 [] = g1 at h1
  have hhd:g1.hd st.objs.length = .slice none 0 0:=by rw [← hgg]; simp [Gh.add]
  have K1:∀ k e t xs d L,obj os k = .row e t xs d L → obj (os.set pl (.box (cs.set pk (.own st.objs.length)))) k = .row e t xs d L:=by
   intro k e t xs d L hr
   rw [obj_set_ne (fun e'=>by subst e'; rw [hbox] at hr; cases hr)]; exact hr
  have K2:∀ k ds,obj os k = .box ds → ∃ es,obj (os.set pl (.box (cs.set pk (.own st.objs.length)))) k = .box es:=by
   intro k ds hr
   by_cases e:k = pl
   ·subst e; exact ⟨_,obj_set_eq hlt'⟩
   ·exact ⟨ds,by rw [obj_set_ne e]; exact hr⟩
  have key:∀ c y,LeafOk C w g1 os c y → LeafOk C w g1 (os.set pl (.box (cs.set pk (.own st.objs.length)))) c y:=fun c y hc=>leaf_kind K1 K2 hc
  have h2:Rel C { st with objs:=os.set pl (.box (cs.set pk (.own st.objs.length))) } g1 a w:=by
   refine ⟨h1.fr,h1.u0,h1.gl,h1.lt,h1.own,h1.dj,h1.nd,h1.sep,fun k=>?_,h1.fix,h1.fm,h1.len,fun i=>(h1.regs i).mono fun c y _ hc=>key c y hc,h1.df,h1.frm.mono fun c y _ hc=>key c y hc⟩
   have hb:=h1.objs k
   show ObjOk C w g1 _ k (obj (os.set pl (.box (cs.set pk (.own st.objs.length)))) k)
   replace hb:ObjOk C w g1 os k (obj os k):=hb
   by_cases e:k = pl
   ·subst e
    rw [obj_set_eq hlt']
    rw [hbox] at hb
    obtain ⟨q1,arr,T,q2,q3⟩:=hb
    refine ⟨q1,arr,T,q2,All2.of_get (by rw [List.length_set]; exact q3.len) fun i c v hc hv=>?_⟩
    obtain ⟨c0,hc0⟩:∃ c0,cs[i]? = some c0:=by
     have:i < (cs.set pk (.own st.objs.length)).length:=(List.getElem?_eq_some_iff.1 hc).1
     rw [List.length_set] at this
     exact ⟨_,List.getElem?_eq_getElem this⟩
    obtain ⟨v',hv',hr⟩:=q3.get hc0
    rw [hv] at hv'
    simp only [Option.some.injEq] at hv'
    subst hv'
    by_cases ei:pk = i
    ·subst ei
     rw [List.getElem?_set_self (List.getElem?_eq_some_iff.1 hc0).1] at hc
     simp only [Option.some.injEq] at hc
     subst hc
     rw [hk] at hc0
     simp only [Option.some.injEq] at hc0
     subst hc0
     exact ⟨⟨by rw [hhd]; exact hr.1,_,_,_,_,_,by rw [obj_set_ne hne]; exact hrow⟩,fun _=>hr.2 rfl⟩
    ·rw [List.getElem?_set_ne ei,hc0] at hc
     simp only [Option.some.injEq] at hc
     subst hc
     exact key _ _ hr
   ·rw [obj_set_ne e]
    cases ho:obj os k with
    | dead=>rw [ho] at hb; exact hb
    | box ds=>
     rw [ho] at hb
     obtain ⟨q1,arr,T,q2,q3⟩:=hb
     exact ⟨q1,arr,T,q2,q3.mono fun c y _ hc=>key c y hc⟩
    | row e t xs d L=>rw [ho] at hb; exact hb
  have hlen:(os.set pl (.box (cs.set pk (.own st.objs.length)))).length = st.objs.length + 1:=by rw [List.length_set,← hos]; simp
  exact ⟨g1,h2,rfl,rfl,by show _ ≤ (os.set _ _).length; omega⟩
theorem promo_ok:∀ (ps:List Adj) {st st':St} {gh:Gh},Rel C st gh a w → st.fx ≤ st.objs.length → promo ps st = some st' → ∃ gh',Rel C st' gh' a w ∧ st'.ro = st.ro ∧ st'.fx = st.fx ∧ st.objs.length ≤ st'.objs.length
 | [],st,st',gh,h,hfx,hs=>by
  simp only [promo,Option.some.injEq] at hs
  subst hs
  exact ⟨gh,h,rfl,rfl,Nat.le_refl _⟩
 | .row l k e t d L :: ps,st,st',gh,h,hfx,hs=>by
  simp only [promo] at hs
  split at hs
  ·rename_i st1 h1
   obtain ⟨g1,r1,e1,e2,e3⟩:=rowAt_ok h hfx h1
   obtain ⟨g2,r2,f1,f2,f3⟩:=promo_ok ps r1 (by omega) hs
   exact ⟨g2,r2,f1.trans e1,f2.trans e2,by omega⟩
  ·cases hs
 | .loose l L :: ps,st,st',gh,h,hfx,hs=>by
  simp only [promo] at hs
  split at hs
  ·rename_i st1 h1
   obtain ⟨g1,_,_,_,_,_,r1,s1,_⟩:=h.loosen h1
   have e1:=s1.ro; have e2:=s1.fx; have e3:=s1.len
   obtain ⟨g2,r2,f1,f2,f3⟩:=promo_ok ps r1 (by omega) hs
   exact ⟨g2,r2,f1.trans e1,f2.trans e2,by omega⟩
  ·cases hs
 | .frz s e t :: ps,st,st',gh,h,hfx,hs=>by
  simp only [promo] at hs
  split at hs
  ·rename_i st1 h1
   obtain ⟨g1,r1,e1,e2,e3⟩:=frzAt_ok h h1
   obtain ⟨g2,r2,f1,f2,f3⟩:=promo_ok ps r1 (by omega) hs
   exact ⟨g2,r2,f1.trans e1,f2.trans e2,by omega⟩
  ·cases hs
 | .lean s L :: ps,st,st',gh,h,hfx,hs=>by
  simp only [promo] at hs
  split at hs
  ·rename_i st1 h1
   obtain ⟨r1,e1,e2,e3⟩:=leanAt_ok h h1
   obtain ⟨g2,r2,f1,f2,f3⟩:=promo_ok ps r1 (by omega) hs
   exact ⟨g2,r2,f1.trans e1,f2.trans e2,by omega⟩
  ·cases hs
 | .take s c :: ps,st,st',gh,h,hfx,hs=>promo_ok ps h hfx (by simpa only [promo] using hs)
 | .drop i :: ps,st,st',gh,h,hfx,hs=>by
  simp only [promo] at hs
  have h1:Rel C { st with frm:=st.frm.set i .undef } gh a w:=
   ⟨h.fr,h.u0,h.gl,h.lt,h.own,h.dj,h.nd,h.sep,h.objs,h.fix,h.fm,h.len,h.regs,h.df,All2.setL h.frm fun v _=>⟨trivial,fun hk=>by cases hk⟩⟩
  exact promo_ok ps (st:={ st with frm:=st.frm.set i .undef }) h1 hfx hs
theorem frzAll_ok:∀ (ps:List Adj) {st st':St} {gh:Gh},Rel C st gh a w → frzAll ps st = some st' → ∃ gh',Rel C st' gh' a w ∧ st'.ro = st.ro ∧ st'.fx = st.fx ∧ st'.objs.length = st.objs.length
 | [],st,st',gh,h,hs=>by
  simp only [frzAll,Option.some.injEq] at hs
  subst hs
  exact ⟨gh,h,rfl,rfl,rfl⟩
 | .row l k e t d L :: ps,st,st',gh,h,hs=>frzAll_ok ps h (by simpa only [frzAll] using hs)
 | .loose l L :: ps,st,st',gh,h,hs=>frzAll_ok ps h (by simpa only [frzAll] using hs)
 | .lean s L :: ps,st,st',gh,h,hs=>frzAll_ok ps h (by simpa only [frzAll] using hs)
 | .frz s e t :: ps,st,st',gh,h,hs=>by
  simp only [frzAll] at hs
  split at hs
  ·rename_i st1 h1
   obtain ⟨g1,r1,e1,e2,e3⟩:=frzAt_ok h h1
   obtain ⟨g2,r2,f1,f2,f3⟩:=frzAll_ok ps r1 hs
   exact ⟨g2,r2,f1.trans e1,f2.trans e2,f3.trans e3⟩
  ·cases hs
 | .drop i :: ps,st,st',gh,h,hs=>frzAll_ok ps h (by simpa only [frzAll] using hs)
 | .take s c :: ps,st,st',gh,h,hs=>by
  simp only [frzAll] at hs
  split at hs
  ·rename_i st1 h1
   obtain ⟨g1,r1,e1,e2,e3⟩:=takeAt_ok h h1
   obtain ⟨g2,r2,f1,f2,f3⟩:=frzAll_ok ps r1 hs
   exact ⟨g2,r2,f1.trans e1,f2.trans e2,f3.trans e3⟩
  ·cases hs
end
end Go.AM
