/- Slices held against nil; nil slices that become rows of ours. No condition. -/
import Derived.Test.YtdcbankajhnepaaGreatAmRebox
import Derived.Test.YtdcbankajhnepaaGreatAmHole
import Derived.WalkSpells
import Derived.Laws.Cover3
set_option linter.unusedVariables false
set_option linter.unusedSimpArgs false
namespace Go.AM
theorem zvj {ρ:Type} {a b:Option ρ} {y:ρ} (h:zyq a b=some y):a=some y∧b=some y:=by
 unfold zyq at h
 split at h
 ·rename_i hab
  exact⟨h,hab▸h⟩
 ·cases h
section
variable {C:Ctx} {st:St} {gh:Gh} {a:Act} {w:World}
theorem zwf (h:Rel C st gh a w) {c:Leaf} {v:Value} (hc:LeafOk C w gh st.objs c v) {s:Ty} {xs:List s.den} {L:List Nat} (hd:z08 st.objs s c=some (xs,L)):∃ A n,v=.slice A (List.length xs) n∧(xs=[]∨A.isSome=true):=by
 have hg:z14 st.objs (.slice 0 s) [c]=some (xs,L,[]):=by simp only[z14,hd]
 obtain⟨v1,v2,he,hi,h2⟩:=z58 h.dj h.sep0 h.lt h.objs (.slice 0 s) (ls:=[c]) (vs:=[v]) ⟨hc,trivial⟩ hg
 obtain⟨A,n,h3,_,h4⟩:=hi.rep
 subst h3
 refine⟨A,n,(List.cons.inj he).1,?_⟩
 rcases h4 with h4 | ⟨b,o,hA,_⟩
 ·exact .inl h4
 ·exact .inr (by rw[hA]; rfl)
def zsq (neg b:Bool):Option Bool→Prop
 | none=>b=!neg
 | some true=>True
 | some false=>b=neg
theorem zqj {E:Env} (hE:EnvOk C.P C.Γ E) {o:Oper} (h:Rel C st gh a w) {neg:Bool} {e:Option Bool} (hs:zx6 E st o=some (neg,e)):
  ∃ b:Bool,(execOp a.eval o).run C.P w=.ok (.value (.bool b)) w∧zsq neg b e:=by
 unfold zx6 at hs
 split at hs
 case h_2=>cases hs
 rename_i op t x y u ho
 split at hs
 case isFalse=>cases hs
 rename_i hsl
 have htd:∃ el,C.P.underlying t=some (.slice el):=by
  unfold z88 at hsl
  split at hsl
  ·rename_i el _ _ _ htt
   have:=(hE.tab _ _ htt).td
   exact⟨el,this.2.1⟩
  ·cases hsl
 obtain⟨el,hu⟩:=htd
 have main:∀ (A:Option Addr) (n c:Nat),a.eval x=.slice A n c→a.eval y=.slice none 0 0→∀ ng:Bool,op=(if ng then BinOp.neq else BinOp.eql)→(execOp a.eval o).run C.P w=.ok (.value (.bool (ng ^^ A.isNone))) w:=by
  intro A n c hx hy ng hop
  cases ng with
  | false=>
   simp only[Bool.false_eq_true,if_false] at hop
   subst hop
   have:=run_equal_slice_nil (P:=C.P) w t el A n c hu
   simp[execOp,ho,hx,hy,binOp,eqGuard,this]
  | true=>
   simp only[if_true] at hop
   subst hop
   have:=run_equal_slice_nil (P:=C.P) w t el A n c hu
   simp[execOp,ho,hx,hy,binOp,eqGuard,this]
 have fin:∀ ng:Bool,op=(if ng then BinOp.neq else BinOp.eql)→a.eval y=.slice none 0 0→(match (st.ev x).leaf with
   | .nilS=>some (ng,none)
   | c=>match z3d st.objs c with
    | some s=>match z08 st.objs s c with
     | some (xs,_)=>some (ng,some xs.isEmpty)
     | none=>none
    | none=>none)=some (neg,e)→∃ b:Bool,(execOp a.eval o).run C.P w=.ok (.value (.bool b)) w∧zsq neg b e:=by
  intro ng hop hy hm
  have hlx:=h.leaf x
  split at hm
  ·rename_i hl
   simp only[Option.some.injEq,Prod.mk.injEq] at hm
   obtain⟨rfl,rfl⟩:=hm
   rw[hl] at hlx
   refine⟨_,main none 0 0 hlx.1 hy ng hop,?_⟩
   cases ng<;>rfl
  ·split at hm
   case h_2=>cases hm
   rename_i s _
   split at hm
   case h_2=>cases hm
   rename_i xs L hd
   simp only[Option.some.injEq,Prod.mk.injEq] at hm
   obtain⟨rfl,rfl⟩:=hm
   obtain⟨A,n,hv,hA⟩:=zwf h hlx hd
   refine⟨_,main A _ n hv hy ng hop,?_⟩
   show zsq ng (ng ^^ A.isNone) (some xs.isEmpty)
   rcases hA with hA | hA
   ·subst hA; trivial
   ·have hn:(ng ^^ A.isNone)=ng:=by
     cases A with
     | none=>cases hA
     | some _=>simp
    rw[hn]
    generalize xs.isEmpty=q
    cases q
    ·rfl
    ·trivial
 have hly:=h.ev y
 split at hs
 ·rename_i hy
  rw[hy] at hly
  exact fin false rfl hly.1 hs
 ·rename_i hy
  rw[hy] at hly
  exact fin true rfl hly.1 hs
 ·cases hs
theorem All2.setL {α β:Type} {R:α→β→Prop}:∀ {xs:List α} {ys:List β} {i:Nat} {c:α},All2 R xs ys→(∀ v,ys[i]? = some v→R c v)→All2 R (xs.set i c) ys
 | [],ys,i,c,h,_=>by simpa using h
 | x::xs,[],i,c,h,_=>h.elim
 | x::xs,y::ys,0,c,h,hc=>⟨hc y rfl,h.2⟩
 | x::xs,y::ys,i+1,c,h,hc=>⟨h.1,All2.setL h.2 fun v hv=>hc v (by simpa using hv)⟩
def zvm (C:Ctx) (gh:Gh) (a:Act) (w:World):Spot→Value→Prop
 | .r i,v=>a.tmps.getD i undef=v
 | .f i,v=>C.frm[i]? = some v
 | .b l k,v=>∃ arr T,w.heap[gh.bk l]? = some (.cells arr T (0,0))∧arr.toList[k]? = some v
theorem zh1 (h:Rel C st gh a w) {s:Spot} {d:Leaf} (hd:ze5 st s=d) (hn:d≠.undef):∃ v,zvm C gh a w s v∧LeafOk C w gh st.objs d v:=by
 subst hd
 cases s with
 | r i=>
  have hv:=h.regs i
  refine⟨_,rfl,?_⟩
  simp only[ze5] at hn ⊢
  cases hr:st.reg i with
  | one c=>rw[hr] at hv; exact hv
  | agg cs=>rw[hr] at hn; exact absurd rfl hn
  | tup vs=>rw[hr] at hn; exact absurd rfl hn
 | f i=>
  simp only[ze5,List.getD] at hn ⊢
  cases hf:st.frm[i]? with
  | none=>rw[hf] at hn; exact absurd rfl hn
  | some c=>
   obtain⟨v,hv,hc⟩:=h.frm.get hf
   exact⟨v,hv,hc⟩
 | b l k=>
  simp only[ze5,List.getD] at hn ⊢
  cases ho:obj st.objs l with
  | dead=>rw[ho] at hn; exact absurd rfl hn
  | hol _ _ _=>rw[ho] at hn; exact absurd rfl hn
  | row e t xs d L=>rw[ho] at hn; exact absurd rfl hn
  | box cs=>
   rw[ho] at hn
   simp only at hn ⊢
   have hb:=h.objs l
   rw[ho] at hb
   obtain⟨_,arr,T,hw,ha⟩:=hb
   cases hf:cs[k]? with
   | none=>rw[hf] at hn; exact absurd rfl hn
   | some c=>
    obtain⟨v,hv,hc⟩:=ha.get hf
    exact⟨v,⟨arr,T,hw,hv⟩,hc⟩
theorem zh2 (h:Rel C st gh a w) {s:Spot} {v:Value} (hs:zvm C gh a w s v) {c:Leaf} (hc:LeafOk C w gh st.objs c v):Rel C (z9i st c s) gh a w∧(z9i st c s).ro=st.ro∧(z9i st c s).fx=st.fx∧(z9i st c s).objs.length=st.objs.length:=by
 cases s with
 | r i=>
  refine⟨⟨h.fr,h.u0,h.gl,h.lt,h.own,h.dj,h.nd,h.sep,h.objs,h.fix,h.fm,by simpa[z9i] using h.len,fun j=>?_,h.df,h.frm⟩,rfl,rfl,rfl⟩
  show SVOk _ ((st.regs.set i (.one c)).getD j (.one .undef)) _
  have hj:=h.regs j
  by_cases e:j=i
  ·subst e
   by_cases hlt:j<st.regs.length
   ·rw[show (st.regs.set j (.one c)).getD j (.one .undef)=.one c by simp[List.getD,hlt]]
    simp only[zvm] at hs
    rw[hs]
    exact hc
   ·rw[show (st.regs.set j (.one c)).getD j (.one .undef)=.one .undef by simp[List.getD,hlt]]
    exact SVOk.undef _
  ·rw[show (st.regs.set i (.one c)).getD j (.one .undef)=st.regs.getD j (.one .undef) by simp[List.getD,List.getElem?_set_ne (fun e'=>e e'.symm)]]
   exact hj
 | f i=>exact⟨⟨h.fr,h.u0,h.gl,h.lt,h.own,h.dj,h.nd,h.sep,h.objs,h.fix,h.fm,h.len,h.regs,h.df,All2.setL h.frm fun v' hv'=>by rw[show zvm C gh a w (.f i) v=(C.frm[i]? = some v) from rfl,hv'] at hs; cases hs; exact hc⟩,rfl,rfl,rfl⟩
 | b l k=>
  simp only[z9i]
  cases ho:obj st.objs l with
  | dead=>exact⟨h,rfl,rfl,rfl⟩
  | hol _ _ _=>exact⟨h,rfl,rfl,rfl⟩
  | row e t xs d L=>exact⟨h,rfl,rfl,rfl⟩
  | box cs=>
   have hl:=z0o (os:=st.objs) (l:=l) (by rw[ho]; simp)
   have K1:∀ k' e t xs d L,obj st.objs k'=.row e t xs d L→obj (st.objs.set l (.box (cs.set k c))) k'=.row e t xs d L:=by
    intro k' e t xs d L hr
    rw[z01 (fun e'=>by subst e'; rw[ho] at hr; cases hr)]; exact hr
   have K3:∀ k' e t ys,obj st.objs k'=.hol e t ys→obj (st.objs.set l (.box (cs.set k c))) k'=.hol e t ys:=by
    intro k' e t ys hr
    rw[z01 (fun e'=>by subst e'; rw[ho] at hr; cases hr)]; exact hr
   have K2:∀ k' ds,obj st.objs k'=.box ds→∃ es,obj (st.objs.set l (.box (cs.set k c))) k'=.box es:=by
    intro k' ds hr
    by_cases e:k'=l
    ·subst e; exact⟨_,z0a hl⟩
    ·exact⟨ds,by rw[z01 e]; exact hr⟩
   have key:∀ c' y,LeafOk C w gh st.objs c' y→LeafOk C w gh (st.objs.set l (.box (cs.set k c))) c' y:=fun c' y hc'=>z6c ⟨K1,K3⟩ K2 hc'
   refine⟨⟨h.fr,h.u0,h.gl,h.lt,h.own,h.dj,h.nd,h.sep,fun k'=>?_,h.fix,h.fm,h.len,fun i=>(h.regs i).mono fun c y _ hc=>key c y hc,h.df,h.frm.mono fun c y _ hc=>key c y hc⟩,rfl,rfl,by simp⟩
   have hb:=h.objs k'
   show z2n C w gh _ k' (obj (st.objs.set l (.box (cs.set k c))) k')
   by_cases e:k'=l
   ·subst e
    rw[z0a hl]
    rw[ho] at hb
    obtain⟨q1,arr,T,q2,q3⟩:=hb
    refine⟨q1,arr,T,q2,All2.setL (q3.mono fun c y _ hc=>key c y hc) fun v' hv'=>?_⟩
    obtain⟨arr',T',q4,q5⟩:=hs
    rw[q2] at q4
    simp only[Option.some.injEq,Obj.cells.injEq,and_true] at q4
    obtain⟨rfl,rfl⟩:=q4
    rw[hv'] at q5
    cases q5
    exact key _ _ hc
   ·rw[z01 e]
    cases ho':obj st.objs k' with
    | dead=>rw[ho'] at hb; exact hb
    | hol _ _ _=>rw[ho'] at hb; exact hb
    | box ds=>
     rw[ho'] at hb
     obtain⟨q1,arr,T,q2,q3⟩:=hb
     exact⟨q1,arr,T,q2,q3.mono fun c y _ hc=>key c y hc⟩
    | row e t xs d L=>rw[ho'] at hb; exact hb
theorem zu8 (h:Rel C st gh a w) {s:Spot} {e:TypeId} {t:Ty} {st':St} (hs:y07 st s e t=some st'):∃ gh',Rel C st' gh' a w∧st'.ro=st.ro∧st'.fx=st.fx∧st'.objs.length=st.objs.length:=by
 unfold y07 at hs
 split at hs
 ·rename_i hg
  simp only[Option.some.injEq] at hs
  subst hs
  obtain⟨v,h1,h2⟩:=zh1 h hg (by simp)
  have hv:v=.slice none 0 0:=h2.1
  exact⟨gh,zh2 h h1 ⟨fun W' _=>⟨none,0,by rw[hv]; rfl,Nat.le_refl _,.inl rfl⟩,fun _=>h2.2 rfl⟩⟩
 ·rename_i m hg
  split at hs
  ·rename_i d st1 hf
   simp only[Option.some.injEq] at hs
   subst hs
   obtain⟨v,h1,h2⟩:=zh1 h hg (by simp)
   obtain⟨g1,hr1,s1,hl,_,_⟩:=Rel.frzLs [m] h (ls:=[.own m]) (us:=[v]) ⟨h2,trivial⟩ hf
   have h3:zvm C g1 a w s v:=by
    cases s with
    | r i=>exact h1
    | f i=>exact h1
    | b l k=>obtain⟨arr,T,q1,q2⟩:=h1; exact⟨arr,T,by rw[s1.bk]; exact q1,q2⟩
   obtain⟨k1,k2,k3,k4⟩:=zh2 hr1 h3 hl.1
   exact⟨g1,k1,k2.trans s1.ro,k3.trans s1.fx,k4.trans s1.len⟩
  ·cases hs
 ·simp only[Option.some.injEq] at hs
  subst hs
  exact⟨gh,h,rfl,rfl,rfl⟩
def Gh.take (gh:Gh) (c m:Nat):Gh:=
 {hd:=fun k=>if k=c then gh.hd m else gh.hd k,bk:=gh.bk,ft:=fun k=>if k=c then gh.ft m else if k=m then [] else gh.ft k }
theorem zzd {c:Leaf} {Z1 Z2 H:Nat→Prop} (h1:c.stays Z1 H) (h2:c.stays Z2 H):c.stays (fun k=>Z1 k∨Z2 k) H:=by
 cases c with
 | fn f caps=>intro p hp e; exact e.elim (h1 p hp) (h2 p hp)
 | own k=>intro e; exact e.elim h1 h2
 | oela k i o=>intro e; exact e.elim h1 h2
 | view k i o=>intro e; exact e.elim h1 h2
 | ptr k o=>intro e; exact e.elim h1 h2
 | sub k i o=>intro e; exact e.elim h1 h2
 | oel2 k i o j o2=>intro e; exact e.elim h1 h2
 | hol k _=>intro e; exact e.elim h1 h2
 | val t x L=>intro l e; exact e.elim (h1 l) (h2 l)
 | ela t xs i o L=>intro l e; exact e.elim (h1 l) (h2 l)
 | undef=>trivial
 | skip=>trivial
 | nilS=>trivial
 | clo gs r p=>trivial
theorem zvz (h:Rel C st gh a w) {s:Spot} {c:Nat} {st':St} (hs:zw0 st s c=some st'):∃ gh',Rel C st' gh' a w∧st'.ro=st.ro∧st'.fx=st.fx∧st'.objs.length=st.objs.length:=by
 unfold zw0 at hs
 split at hs
 case h_2=>cases hs
 rename_i m hg
 split at hs
 ·simp only[Option.some.injEq] at hs
  subst hs
  exact⟨gh,h,rfl,rfl,rfl⟩
 rename_i hmc
 have hmc:m≠c:=by simpa using hmc
 split at hs
 case h_2=>cases hs
 rename_i e t xs d L e2 t2 xs2 d2 L2 hom hoc
 split at hs
 case isFalse=>cases hs
 rename_i hb
 split at hs
 case h_2=>cases hs
 rename_i st1 hk
 simp only[Option.some.injEq] at hs
 subst hs
 obtain⟨v,hv,hl⟩:=zh1 h hg (by simp)
 obtain⟨h1,hcl,_,k1,k2,k3,k4,_⟩:=Rel.killAll [c,m] h hk
 have cc:=hcl c (by simp)
 have cm:=hcl m (by simp)
 have hom1:obj st1.objs m=.row e t xs d L:=(k4 m e t xs d L).2 hom
 have hoc1:obj st1.objs c=.row e2 t2 xs2 d2 L2:=(k4 c e2 t2 xs2 d2 L2).2 hoc
 have hlc:c<st1.objs.length:=z0o (by rw[hoc1]; simp)
 have hlm:m<st1.objs.length:=z0o (by rw[hom1]; simp)
 have nb:∀ {x y:Nat},Nat.blt x y=false→y≤x:=fun {x y} hx=>Nat.not_lt.1 fun hlt=>by have h2:Nat.blt x y=true:=(by simpa using hlt); rw[hx] at h2; cases h2
 simp only[Bool.and_eq_true,Bool.not_eq_true'] at hb
 obtain⟨⟨⟨b1,b2⟩,b3⟩,b4⟩:=hb
 have b1:=nb b1; have b2:=nb b2; have b3:=nb b3; have b4:=nb b4
 have oc:obj ((st1.objs.set c (.row e t xs d L)).set m .dead) c=.row e t xs d L:=by rw[z01 (fun e=>hmc e.symm),z0a hlc]
 have om:obj ((st1.objs.set c (.row e t xs d L)).set m .dead) m=.dead:=by rw[z0a (by rw[List.length_set]; exact hlm)]
 have oo:∀ k,k≠c→k≠m→obj ((st1.objs.set c (.row e t xs d L)).set m .dead) k=obj st1.objs k:=fun k q1 q2=>by rw[z01 q2,z01 q1]
 generalize ho2:(st1.objs.set c (.row e t xs d L)).set m .dead=os2 at oc om oo
 have hlen2:os2.length=st1.objs.length:=by rw[←ho2,List.length_set,List.length_set]
 have fc:(gh.take c m).ft c=gh.ft m:=by simp[Gh.take]
 have fm:(gh.take c m).ft m=[]:=by simp[Gh.take,hmc]
 have fo:∀ k,k≠c→k≠m→(gh.take c m).ft k=gh.ft k:=fun k q1 q2=>by simp[Gh.take,q1,q2]
 have dc:(gh.take c m).hd c=gh.hd m:=by simp[Gh.take]
 have dO:∀ k,k≠c→(gh.take c m).hd k=gh.hd k:=fun k q1=>by simp[Gh.take,q1]
 have up:∀ {k b},b∈(gh.take c m).ft k→(k=c∧b∈gh.ft m)∨(k≠c∧k≠m∧b∈gh.ft k):=by
  intro k b hb
  by_cases q1:k=c
  ·subst q1; rw[fc] at hb; exact .inl ⟨rfl,hb⟩
  ·by_cases q2:k=m
   ·subst q2; rw[fm] at hb; simp at hb
   ·rw[fo k q1 q2] at hb; exact .inr ⟨q1,q2,hb⟩
 have hT:Tr C w gh st1.objs w (gh.take c m) os2 (fun k=>k=c∨k=m) (fun _=>true=false):=by
  refine⟨Nat.le_refl _,fun b _=>.inl rfl,fun k b _ hb=>?_,fun k hk _=>?_,fun k _ hH=>by cases hH⟩
  ·rcases up hb with ⟨_,hb2⟩ | ⟨_,_,hb2⟩
   ·exact⟨m,hb2,.inr (.inr rfl)⟩
   ·exact⟨k,hb2,.inl rfl⟩
  ·have q1:k≠c:=fun e=>hk (.inl e)
   have q2:k≠m:=fun e=>hk (.inr e)
   exact⟨oo k q1 q2,dO k q1,rfl,fo k q1 q2⟩
 have st2:∀ x:Leaf,x.dies true c=false→x.dies true m=false→x.stays (fun k=>k=c∨k=m) (fun _=>true=false):=fun x q1 q2=>zzd (z3c q1) (z3c q2)
 have hrel:Rel C { st1 with objs:=os2 } (gh.take c m) a w:=by
  refine⟨h1.fr,h1.u0,h1.gl,fun k b hb=>?_,fun k b hk hb=>?_,fun k k' b hb hb'=>?_,fun k=>?_,fun k b hb=>?_,fun k=>?_,fun k hk=>?_,h1.fm,h1.len,fun i=>?_,h1.df,h1.frm.mono fun x y hx hk=>z52 hT h1.dj h1.objs (st2 x (cc.frm x hx) (cm.frm x hx)) hk⟩
  ·rcases up hb with ⟨_,hb⟩ | ⟨_,_,hb⟩<;>exact h1.lt _ _ hb
  ·rcases up hb with ⟨_,hb⟩ | ⟨_,_,hb⟩
   ·exact h1.own m b (by rw[k1]; exact b2) hb
   ·exact h1.own k b hk hb
  ·rcases up hb with ⟨q1,hb2⟩ | ⟨q1,q2,hb2⟩<;>rcases up hb' with ⟨q3,hb3⟩ | ⟨q3,q4,hb3⟩
   ·exact q1.trans q3.symm
   ·exact absurd (h1.dj _ _ _ hb2 hb3).symm q4
   ·exact absurd (h1.dj _ _ _ hb2 hb3) q2
   ·exact h1.dj _ _ _ hb2 hb3
  ·by_cases q1:k=c
   ·subst q1; rw[fc]; exact h1.nd m
   ·by_cases q2:k=m
    ·subst q2; rw[fm]; simp
    ·rw[fo k q1 q2]; exact h1.nd k
  ·rcases up hb with ⟨_,hb⟩ | ⟨_,_,hb⟩<;>exact h1.sep _ _ hb
  ·show z2n C w _ os2 k (obj os2 k)
   by_cases q1:k=c
   ·subst q1
    rw[oc]
    have hm:=h1.objs m
    rw[hom1] at hm
    obtain⟨Fs,ess,r1,r2,r3⟩:=hm
    refine⟨Fs,ess,AllR.mono (fun x _ F cs hx=>?_) r1,by rw[fc,dc]; exact r2,by rw[dc]; exact r3⟩
    unfold z38 at hx ⊢
    cases d with
    | true=>exact hx
    | false=>
     refine⟨hx.1,zf3 hT (fun l hl=>?_) hx.2⟩
     rcases hl with rfl | rfl
     ·exact cc.rows _ _ _ _ _ _ hom1
     ·exact cm.rows _ _ _ _ _ _ hom1
   ·by_cases q2:k=m
    ·subst q2; rw[om]; exact fm
    ·rw[oo k q1 q2]
     by_cases hd:obj st1.objs k=.dead
     ·have:=h1.objs k
      rw[hd] at this ⊢
      show (gh.take c m).ft k=[]
      rw[fo k q1 q2]; exact this
     ·have:=zhl hT h1.dj h1.objs h1.lt (l:=k) (fun e=>e.elim q1 q2) hd (by
       cases ho:obj st1.objs k with
       | dead=>exact absurd ho hd
       | hol _ _ _=>exact trivial
       | box ds=>exact fun x hx=>st2 x (cc.boxes k ds ho x hx) (cm.boxes k ds ho x hx)
       | row e t xs d L=>
        intro l' hl'
        rcases hl' with rfl | rfl
        ·exact cc.rows _ _ _ _ _ _ ho
        ·exact cm.rows _ _ _ _ _ _ ho)
      rw[oo k q1 q2] at this
      exact this
  ·have hk':k<st.fx:=by have:k<st1.fx:=hk; omega
   have q1:k≠c:=by omega
   have q2:k≠m:=by omega
   rw[dO k q1,fo k q1 q2]
   exact h1.fix k hk
  ·exact znw hT h1.dj h1.objs (z2r fun x hx=>st2 x (cc.regs i x hx) (cm.regs i x hx)) (h1.regs i)
 have hv':zvm C (gh.take c m) a w s v:=by
  cases s with
  | r i=>exact hv
  | f i=>exact hv
  | b l k=>exact hv
 obtain⟨r1,r2,r3,r4⟩:=zh2 hrel hv' (c:=.own c) ⟨⟨by rw[dc]; exact hl.1.1,_,_,_,_,_,oc⟩,fun _=>hl.2 rfl⟩
 exact⟨_,r1,r2.trans k1,r3.trans k2,r4.trans (by show os2.length=_; omega)⟩
theorem zxe (h:Rel C st gh a w) {s:Spot} {L:List Nat} {st':St} (hs:zxf st s L=some st'):Rel C st' gh a w∧st'.ro=st.ro∧st'.fx=st.fx∧st'.objs.length=st.objs.length:=by
 unfold zxf at hs
 split at hs
 ·rename_i t x M hg
  simp only[Option.some.injEq] at hs
  subst hs
  obtain⟨v,hv,hc⟩:=zh1 h hg (by simp)
  exact zh2 h hv ⟨hc.1.sub fun b _ hb=>UU.mono (fun l hl=>by rw[z2o,hl]; rfl) hb,fun _=>hc.2 rfl⟩
 ·cases hs
theorem zzh {pl pk:Nat} {pe:TypeId} {pt:Ty} {pd:Bool} {pL:List Nat} {st st':St} {gh:Gh} (h:Rel C st gh a w) (hfx:st.fx≤st.objs.length) (hs:z1b st pl pk pe pt pd pL=some st'):∃ gh',Rel C st' gh' a w∧st'.ro=st.ro∧st'.fx=st.fx∧st.objs.length≤st'.objs.length:=by
  unfold z1b at hs
  split at hs
  case h_2=>cases hs
  rename_i cs hob
  split at hs
  case h_2=>cases hs
  rename_i hk
  simp only[Option.some.injEq] at hs
  subst hs
  have hl:pl<st.objs.length:=z0o (by rw[hob]; simp)
  have h1:Rel C { st with objs:=st.objs++[AObj.row pe pt [] pd pL] } (gh.add st.objs.length (.slice none 0 0) 0 []) a w:=
   h.new1 (Fr.refl _ _) hfx (by simp) (by simp) ⟨[],[],trivial,by simp[Gh.add,Value.ownBlock],by
    simp only[Gh.add,if_true]
    exact⟨by simp,.inl ⟨rfl,rfl⟩⟩⟩
  have hrow:obj (st.objs++[AObj.row pe pt [] pd pL]) st.objs.length=.row pe pt [] pd pL:=by simp[obj,List.getD]
  have hbox:obj (st.objs++[AObj.row pe pt [] pd pL]) pl=.box cs:=by rw[z29 hl,hob]
  have hlt':pl<(st.objs++[AObj.row pe pt [] pd pL]).length:=by simp; omega
  have hne:st.objs.length≠pl:=by omega
  generalize hos:st.objs++[AObj.row pe pt [] pd pL]=os at h1 hrow hbox hlt' ⊢
  generalize hgg:gh.add st.objs.length (.slice none 0 0) 0 []=g1 at h1
  have hhd:g1.hd st.objs.length=.slice none 0 0:=by rw[←hgg]; simp[Gh.add]
  have K1:∀ k e t xs d L,obj os k=.row e t xs d L→obj (os.set pl (.box (cs.set pk (.own st.objs.length)))) k=.row e t xs d L:=by
   intro k e t xs d L hr
   rw[z01 (fun e'=>by subst e'; rw[hbox] at hr; cases hr)]; exact hr
  have K3:∀ k e t ys,obj os k=.hol e t ys→obj (os.set pl (.box (cs.set pk (.own st.objs.length)))) k=.hol e t ys:=by
   intro k e t ys hr
   rw[z01 (fun e'=>by subst e'; rw[hbox] at hr; cases hr)]; exact hr
  have K2:∀ k ds,obj os k=.box ds→∃ es,obj (os.set pl (.box (cs.set pk (.own st.objs.length)))) k=.box es:=by
   intro k ds hr
   by_cases e:k=pl
   ·subst e; exact⟨_,z0a hlt'⟩
   ·exact⟨ds,by rw[z01 e]; exact hr⟩
  have key:∀ c y,LeafOk C w g1 os c y→LeafOk C w g1 (os.set pl (.box (cs.set pk (.own st.objs.length)))) c y:=fun c y hc=>z6c ⟨K1,K3⟩ K2 hc
  have h2:Rel C { st with objs:=os.set pl (.box (cs.set pk (.own st.objs.length))) } g1 a w:=by
   refine⟨h1.fr,h1.u0,h1.gl,h1.lt,h1.own,h1.dj,h1.nd,h1.sep,fun k=>?_,h1.fix,h1.fm,h1.len,fun i=>(h1.regs i).mono fun c y _ hc=>key c y hc,h1.df,h1.frm.mono fun c y _ hc=>key c y hc⟩
   have hb:=h1.objs k
   show z2n C w g1 _ k (obj (os.set pl (.box (cs.set pk (.own st.objs.length)))) k)
   replace hb:z2n C w g1 os k (obj os k):=hb
   by_cases e:k=pl
   ·subst e
    rw[z0a hlt']
    rw[hbox] at hb
    obtain⟨q1,arr,T,q2,q3⟩:=hb
    refine⟨q1,arr,T,q2,All2.of_get (by rw[List.length_set]; exact q3.len) fun i c v hc hv=>?_⟩
    obtain⟨c0,hc0⟩:∃ c0,cs[i]? = some c0:=by
     have:i<(cs.set pk (.own st.objs.length)).length:=(List.getElem?_eq_some_iff.1 hc).1
     rw[List.length_set] at this
     exact⟨_,List.getElem?_eq_getElem this⟩
    obtain⟨v',hv',hr⟩:=q3.get hc0
    rw[hv] at hv'
    simp only[Option.some.injEq] at hv'
    subst hv'
    by_cases ei:pk=i
    ·subst ei
     rw[List.getElem?_set_self (List.getElem?_eq_some_iff.1 hc0).1] at hc
     simp only[Option.some.injEq] at hc
     subst hc
     rw[hk] at hc0
     simp only[Option.some.injEq] at hc0
     subst hc0
     exact⟨⟨by rw[hhd]; exact hr.1,_,_,_,_,_,by rw[z01 hne]; exact hrow⟩,fun _=>hr.2 rfl⟩
    ·rw[List.getElem?_set_ne ei,hc0] at hc
     simp only[Option.some.injEq] at hc
     subst hc
     exact key _ _ hr
   ·rw[z01 e]
    cases ho:obj os k with
    | dead=>rw[ho] at hb; exact hb
    | hol _ _ _=>rw[ho] at hb; exact hb
    | box ds=>
     rw[ho] at hb
     obtain⟨q1,arr,T,q2,q3⟩:=hb
     exact⟨q1,arr,T,q2,q3.mono fun c y _ hc=>key c y hc⟩
    | row e t xs d L=>rw[ho] at hb; exact hb
  have hlen:(os.set pl (.box (cs.set pk (.own st.objs.length)))).length=st.objs.length+1:=by rw[List.length_set,←hos]; simp
  exact⟨g1,h2,rfl,rfl,by show _≤(os.set _ _).length; omega⟩
theorem zxb (h:Rel C st gh a w) {s:Spot} {st':St} (hs:zxc st s=some st'):Rel C st' gh a w∧st'.ro=st.ro∧st'.fx=st.fx∧st'.objs.length=st.objs.length:=by
 unfold zxc at hs
 split at hs
 case h_2=>cases hs
 rename_i l i off hg
 split at hs
 case h_2=>cases hs
 rename_i e0 t xs L hob
 split at hs
 case h_2=>cases hs
 rename_i e u x hlf
 simp only[Option.some.injEq] at hs
 subst hs
 obtain⟨v,h1,h2⟩:=zh1 h hg (by simp)
 have hd:z08 st.objs u (.sub l i off)=some (x,l::L):=by
  simp only[z08,hob,hlf,znq]
 exact zh2 h h1 ⟨z2d (e:=e) h.dj h.sep0 h.lt h.objs h2 hd,fun _=>h2.2 rfl⟩
theorem z7f:∀ (ps:List Adj) {st st':St} {gh:Gh},Rel C st gh a w→st.fx≤st.objs.length→zbz ps st=some st'→∃ gh',Rel C st' gh' a w∧st'.ro=st.ro∧st'.fx=st.fx∧st.objs.length≤st'.objs.length
 | [],st,st',gh,h,hfx,hs=>by
  simp only[zbz,Option.some.injEq] at hs
  subst hs
  exact⟨gh,h,rfl,rfl,Nat.le_refl _⟩
 | .row l k e t d L::ps,st,st',gh,h,hfx,hs=>by
  simp only[zbz] at hs
  split at hs
  ·rename_i st1 h1
   obtain⟨g1,r1,e1,e2,e3⟩:=zzh h hfx h1
   obtain⟨g2,r2,f1,f2,f3⟩:=z7f ps r1 (by omega) hs
   exact⟨g2,r2,f1.trans e1,f2.trans e2,by omega⟩
  ·cases hs
 | .loose l L::ps,st,st',gh,h,hfx,hs=>by
  simp only[zbz] at hs
  split at hs
  ·rename_i st1 h1
   obtain⟨g1,_,_,_,_,_,r1,s1,_⟩:=h.loosen h1
   have e1:=s1.ro; have e2:=s1.fx; have e3:=s1.len
   obtain⟨g2,r2,f1,f2,f3⟩:=z7f ps r1 (by omega) hs
   exact⟨g2,r2,f1.trans e1,f2.trans e2,by omega⟩
  ·cases hs
 | .frz s e t::ps,st,st',gh,h,hfx,hs=>by
  simp only[zbz] at hs
  split at hs
  ·rename_i st1 h1
   obtain⟨g1,r1,e1,e2,e3⟩:=zu8 h h1
   obtain⟨g2,r2,f1,f2,f3⟩:=z7f ps r1 (by omega) hs
   exact⟨g2,r2,f1.trans e1,f2.trans e2,by omega⟩
  ·cases hs
 | .lean s L::ps,st,st',gh,h,hfx,hs=>by
  simp only[zbz] at hs
  split at hs
  ·rename_i st1 h1
   obtain⟨r1,e1,e2,e3⟩:=zxe h h1
   obtain⟨g2,r2,f1,f2,f3⟩:=z7f ps r1 (by omega) hs
   exact⟨g2,r2,f1.trans e1,f2.trans e2,by omega⟩
  ·cases hs
 | .take s c::ps,st,st',gh,h,hfx,hs=>z7f ps h hfx (by simpa only[zbz] using hs)
 | .drop i::ps,st,st',gh,h,hfx,hs=>by
  simp only[zbz] at hs
  have h1:Rel C { st with frm:=st.frm.set i .undef } gh a w:=
   ⟨h.fr,h.u0,h.gl,h.lt,h.own,h.dj,h.nd,h.sep,h.objs,h.fix,h.fm,h.len,h.regs,h.df,All2.setL h.frm fun v _=>⟨trivial,fun hk=>by cases hk⟩⟩
  exact z7f ps (st:={ st with frm:=st.frm.set i .undef }) h1 hfx hs
 | .look s::ps,st,st',gh,h,hfx,hs=>by
  simp only[zbz] at hs
  split at hs
  ·rename_i st1 h1
   obtain⟨r1,e1,e2,e3⟩:=zxb h h1
   obtain⟨g2,r2,f1,f2,f3⟩:=z7f ps r1 (by omega) hs
   exact⟨g2,r2,f1.trans e1,f2.trans e2,by omega⟩
  ·cases hs
 | .hole l::ps,st,st',gh,h,hfx,hs=>by
  simp only[zbz] at hs
  split at hs
  ·rename_i st1 h1
   obtain⟨r1,e1,e2,e3⟩:=h.toHol h1
   obtain⟨g2,r2,f1,f2,f3⟩:=z7f ps r1 (by omega) hs
   exact⟨g2,r2,f1.trans e1,f2.trans e2,by omega⟩
  ·cases hs
theorem z59:∀ (ps:List Adj) {st st':St} {gh:Gh},Rel C st gh a w→z92 ps st=some st'→∃ gh',Rel C st' gh' a w∧st'.ro=st.ro∧st'.fx=st.fx∧st'.objs.length=st.objs.length
 | [],st,st',gh,h,hs=>by
  simp only[z92,Option.some.injEq] at hs
  subst hs
  exact⟨gh,h,rfl,rfl,rfl⟩
 | .row l k e t d L::ps,st,st',gh,h,hs=>z59 ps h (by simpa only[z92] using hs)
 | .loose l L::ps,st,st',gh,h,hs=>z59 ps h (by simpa only[z92] using hs)
 | .lean s L::ps,st,st',gh,h,hs=>z59 ps h (by simpa only[z92] using hs)
 | .frz s e t::ps,st,st',gh,h,hs=>by
  simp only[z92] at hs
  split at hs
  ·rename_i st1 h1
   obtain⟨g1,r1,e1,e2,e3⟩:=zu8 h h1
   obtain⟨g2,r2,f1,f2,f3⟩:=z59 ps r1 hs
   exact⟨g2,r2,f1.trans e1,f2.trans e2,f3.trans e3⟩
  ·cases hs
 | .drop i::ps,st,st',gh,h,hs=>z59 ps h (by simpa only[z92] using hs)
 | .look s::ps,st,st',gh,h,hs=>z59 ps h (by simpa only[z92] using hs)
 | .hole l::ps,st,st',gh,h,hs=>z59 ps h (by simpa only[z92] using hs)
 | .take s c::ps,st,st',gh,h,hs=>by
  simp only[z92] at hs
  split at hs
  ·rename_i st1 h1
   obtain⟨g1,r1,e1,e2,e3⟩:=zvz h h1
   obtain⟨g2,r2,f1,f2,f3⟩:=z59 ps r1 hs
   exact⟨g2,r2,f1.trans e1,f2.trans e2,f3.trans e3⟩
  ·cases hs
end
end Go.AM
