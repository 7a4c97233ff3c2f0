/- What keeps the relation: leaves that die, objects that are let go, new objects, objects that are written. No condition. -/
import Derived.Test.YtdcbankajhnepaaGreatAmState
set_option linter.unusedVariables false
set_option linter.unusedSimpArgs false
namespace Go.AM
def SV.all:SV→List Leaf
 | .one c=>[c]
 | .agg cs=>cs
 | .tup vs=>vs.flatMap (·.2)
theorem z2r {v:SV} {Z H:Nat→Prop} (h:∀ c∈v.all,c.stays Z H):v.stays Z H:=by
 cases v with
 | one c=>exact h c (by simp[SV.all])
 | agg cs=>exact h
 | tup vs=>exact fun p hp c hc=>h c (by simp only[SV.all,List.mem_flatMap]; exact⟨p,hp,hc⟩)
structure Clear (m:Bool) (l:Nat) (st:St):Prop where
 regs:∀ i,∀ c∈(st.reg i).all,c.dies m l=false
 boxes:∀ k cs,obj st.objs k=.box cs→∀ c∈cs,c.dies m l=false
 rows:∀ k e t xs d L,obj st.objs k=.row e t xs d L→has L l=false
 frm:∀ c∈st.frm,c.dies m l=false
theorem z3c {m:Bool} {l:Nat} {c:Leaf} (h:c.dies m l=false):c.stays (fun k=>k=l) (fun _=>m=false):=by
 cases c with
 | fn f caps=>
  intro p hp e
  cases m
  ·rfl
  ·simp only[Leaf.dies,Bool.true_and,List.any_eq_false] at h
   have:=h p hp
   simp[e] at this
 | val t x L=>intro k hk; subst hk; exact h
 | ela t xs i o L=>intro k hk; subst hk; exact h
 | own k=>intro e; cases m<;>simp_all[Leaf.dies]
 | oela k _ _=>intro e; cases m<;>simp_all[Leaf.dies]
 | view k _ _=>intro e; cases m<;>simp_all[Leaf.dies]
 | ptr k _=>intro e; cases m<;>simp_all[Leaf.dies]
 | sub k _ _=>intro e; simp_all[Leaf.dies]
 | oel2 k _ _ _ _=>intro e; simp_all[Leaf.dies]
 | hol k _=>intro e; simp_all[Leaf.dies]
 | undef=>trivial
 | skip=>trivial
 | nilS=>trivial
 | clo _ _ _=>trivial
theorem z2f {c:Leaf}:c.stays (fun _=>False) (fun _=>False):=by
 cases c<;>simp[Leaf.stays]
theorem z6c {C:Ctx} {w:World} {gh:Gh} {os os':Objs} (hr:(∀ l e t xs d L,obj os l=.row e t xs d L→obj os' l=.row e t xs d L)∧∀ l e t ys,obj os l=.hol e t ys→obj os' l=.hol e t ys) (hb:∀ l cs,obj os l=.box cs→∃ ds,obj os' l=.box ds)
  {c:Leaf} {v:Value} (h:LeafOk C w gh os c v):LeafOk C w gh os' c v:=by
 refine⟨?_,h.2⟩
 replace h:=h.1
 cases c with
 | own l=>obtain⟨hv,e,t,xs,d,L,ho⟩:=h; exact⟨hv,e,t,xs,d,L,hr.1 _ _ _ _ _ _ ho⟩
 | sub l i off=>obtain⟨e,t,xs,L,g,og,n,c,s,z,ho,r⟩:=h; exact⟨e,t,xs,L,g,og,n,c,s,z,hr.1 _ _ _ _ _ _ ho,r⟩
 | oel2 l i off j o2=>
  obtain⟨e,t,xs,L,s,u,ys,b,og,n,c,ho,h1,h2,h3,⟨e',t',xs',L',g,og',n',c',s',z,ho',r⟩,h5⟩:=h
  exact⟨e,t,xs,L,s,u,ys,b,og,n,c,hr.1 _ _ _ _ _ _ ho,h1,h2,h3,⟨e',t',xs',L',g,og',n',c',s',z,hr.1 _ _ _ _ _ _ ho',r⟩,h5⟩
 | ptr l off=>obtain⟨hv,cs,ho⟩:=h; exact⟨hv,hb _ _ ho⟩
 | oela l i off=>obtain⟨e,t,xs,d,L,g,og,n,c,ho,r⟩:=h; exact⟨e,t,xs,d,L,g,og,n,c,hr.1 _ _ _ _ _ _ ho,r⟩
 | view l i off=>obtain⟨e,t,xs,d,L,g,n,c,ho,r⟩:=h; exact⟨e,t,xs,d,L,g,n,c,hr.1 _ _ _ _ _ _ ho,r⟩
 | fn f caps=>obtain⟨hv,ho⟩:=h; exact⟨hv,fun p hp=>let ⟨cs,hc⟩:=ho p hp; hb _ _ hc⟩
 | hol l k=>
  cases k with
  | hd=>obtain⟨hv,e,t,ys,ho⟩:=h; exact⟨hv,e,t,ys,hr.2 _ _ _ _ ho⟩
  | pl i=>obtain⟨e,t,ys,g,og,n,c,ho,r⟩:=h; exact⟨e,t,ys,g,og,n,c,hr.2 _ _ _ _ ho,r⟩
  | el i=>obtain⟨e,t,ys,g,og,n,c,ho,r⟩:=h; exact⟨e,t,ys,g,og,n,c,hr.2 _ _ _ _ ho,r⟩
 | undef=>trivial
 | skip=>exact h
 | nilS=>exact h
 | val t x L=>exact h
 | ela t xs i off L=>exact h
 | clo gs r p=>exact h
theorem zey {C:Ctx} {w:World} {gh:Gh} {os:Objs} {m:Bool} {l:Nat} {c:Leaf} {v:Value} (h:LeafOk C w gh os c v):LeafOk C w gh os (c.kill m l) v:=by
 unfold Leaf.kill
 split
 ·exact⟨trivial,by simp[Leaf.known]⟩
 ·exact h
theorem z87 {m:Bool} {l:Nat} (c:Leaf):(c.kill m l).dies m l=false:=by
 unfold Leaf.kill
 split
 ·rfl
 ·exact Bool.eq_false_iff.2 ‹¬_›
theorem All2.map {α β γ:Type} {R:γ→β→Prop} {S:α→β→Prop} {f:α→γ} {xs:List α}:∀ {ys:List β},(∀ x y,x∈xs→S x y→R (f x) y)→All2 S xs ys→All2 R (xs.map f) ys:=by
 induction xs with
 | nil=>intro ys _ h; cases ys<;>simp_all[All2]
 | cons x xs ih=>
  intro ys h k
  cases ys<;>simp only[All2,List.map_cons] at k ⊢
  exact⟨h _ _ (by simp) k.1,ih (fun y z hy=>h y z (by simp[hy])) k.2⟩
theorem z8s {os:Objs} {m:Bool} {l k:Nat}:obj (os.map (AObj.kill m l)) k=(obj os k).kill m l:=by
 simp only[obj,List.getD,List.getElem?_map]
 cases os[k]?<;>rfl
theorem zku {st:St} {m:Bool} {l i:Nat} {os:Objs} {fm:List Leaf}:St.reg { st with regs:=st.regs.map (SV.kill m l),objs:=os,frm:=fm } i=(st.reg i).kill m l:=by
 simp only[St.reg,List.getD,List.getElem?_map]
 cases st.regs[i]?<;>rfl
theorem y1p {R S:Leaf→Value→Prop} {m:Bool} {l:Nat} (hk:∀ c y,R c y→S (c.kill m l) y) {v:SV} {x:Value} (h:SVOk R v x):SVOk S (v.kill m l) x:=by
 cases v with
 | one c=>exact hk _ _ h
 | agg cs=>obtain⟨vs,rfl,h⟩:=h; exact⟨vs,rfl,h.map fun c y _ hc=>hk c y hc⟩
 | tup rs=>
  obtain⟨vs,rfl,h⟩:=h
  refine⟨vs,rfl,?_⟩
  induction rs generalizing vs with
  | nil=>cases vs<;>simp_all[zjm]
  | cons p ps ih=>
   cases vs with
   | nil=>exact h.elim
   | cons v vs=>
    obtain⟨⟨us,h1,h2⟩,h3⟩:=h
    exact⟨⟨us,h1,h2.map fun c y _ hc=>hk c y hc⟩,ih vs h3⟩
theorem y0k {m:Bool} {l:Nat} {v:SV}:∀ c∈(v.kill m l).all,c.dies m l=false:=by
 cases v with
 | one c=>simp[SV.kill,SV.all,z87]
 | agg cs=>simp only[SV.kill,SV.all,List.mem_map]; rintro c ⟨d,_,rfl⟩; exact z87 d
 | tup vs=>
  simp only[SV.kill,SV.all,List.mem_flatMap,List.mem_map]
  rintro c ⟨p,⟨q,hq,rfl⟩,hc⟩
  obtain⟨d,_,rfl⟩:=List.mem_map.1 hc
  exact z87 d
theorem z4c {m:Bool} {l:Nat} {st st':St} (hk:st.kill m l=some st'):st.objs.any (AObj.leans l)=false∧st'={ st with regs:=st.regs.map (SV.kill m l),objs:=st.objs.map (AObj.kill m l),frm:=st.frm.map (Leaf.kill m l) }:=by
 unfold St.kill at hk
 split at hk
 ·cases hk
 ·exact⟨Bool.eq_false_iff.2 ‹¬_›,by simpa using hk.symm⟩
theorem za4 {os:Objs} {m:Bool} {l:Nat}:((∀ k e t xs d L,obj os k=.row e t xs d L→obj (os.map (AObj.kill m l)) k=.row e t xs d L)∧∀ k e t ys,obj os k=.hol e t ys→obj (os.map (AObj.kill m l)) k=.hol e t ys)∧(∀ k cs,obj os k=.box cs→∃ ds,obj (os.map (AObj.kill m l)) k=.box ds):=
 ⟨⟨fun k e t xs d L h=>by rw[z8s,h]; rfl,fun k e t ys h=>by rw[z8s,h]; rfl⟩,fun k cs h=>⟨_,by rw[z8s,h]; rfl⟩⟩
theorem Rel.kill {C:Ctx} {st st':St} {gh:Gh} {a:Act} {w:World} {m:Bool} {l:Nat} (h:Rel C st gh a w) (hk:st.kill m l=some st'):Rel C st' gh a w∧Clear m l st':=by
 obtain⟨hl,rfl⟩:=z4c hk
 have K:=za4 (os:=st.objs) (m:=m) (l:=l)
 have key:∀ c y,LeafOk C w gh st.objs c y→LeafOk C w gh (st.objs.map (AObj.kill m l)) (c.kill m l) y:=fun c y hc=>zey (z6c K.1 K.2 hc)
 refine⟨⟨h.fr,h.u0,h.gl,h.lt,h.own,h.dj,h.nd,h.sep,fun k=>?_,h.fix,h.fm,by simpa using h.len,fun i=>?_,h.df,h.frm.map fun c y _ hc=>key c y hc⟩,⟨fun i c hc=>?_,fun k cs hk c hc=>?_,fun k e t xs d L hk=>?_,fun c hc=>?_⟩⟩
 ·have hb:=h.objs k
  show z2n C w gh _ k (obj (st.objs.map (AObj.kill m l)) k)
  rw[z8s]
  cases ho:obj st.objs k with
  | dead=>rw[ho] at hb; exact hb
  | hol _ _ _=>rw[ho] at hb; exact hb
  | box cs=>
   rw[ho] at hb
   obtain⟨h1,arr,T,h2,h3⟩:=hb
   exact⟨h1,arr,T,h2,h3.map fun c y _ hc=>key c y hc⟩
  | row e t xs d L=>rw[ho] at hb; exact hb
 ·rw[zku]
  exact y1p key (h.regs i)
 ·rw[zku] at hc
  exact y0k c hc
 ·rw[z8s] at hk
  cases ho:obj st.objs k with
  | dead=>rw[ho] at hk; cases hk
  | hol _ _ _=>rw[ho] at hk; cases hk
  | box ds=>
   rw[ho] at hk
   simp only[AObj.kill,AObj.box.injEq] at hk
   subst hk
   obtain⟨d,_,rfl⟩:=List.mem_map.1 hc
   exact z87 d
  | row e t xs d L=>rw[ho] at hk; cases hk
 ·rw[z8s] at hk
  cases ho:obj st.objs k with
  | dead=>rw[ho] at hk; cases hk
  | hol _ _ _=>rw[ho] at hk; cases hk
  | box ds=>rw[ho] at hk; cases hk
  | row e' t' xs' d' L'=>
   rw[ho] at hk
   simp only[AObj.kill] at hk
   cases hk
   have hlt:=z0o (os:=st.objs) (l:=k) (by rw[ho]; simp)
   have:(obj st.objs k)∈st.objs:=by simp only[obj,List.getD,List.getElem?_eq_getElem hlt]; exact List.getElem_mem hlt
   rw[ho] at this
   have:=List.any_eq_false.1 hl _ this
   simpa[AObj.leans] using this
 ·obtain⟨d,_,rfl⟩:=List.mem_map.1 hc
  exact z87 d
def Gh.up (gh:Gh) (l:Nat) (hd:Value) (ft:List Nat):Gh:=
 {hd:=fun k=>if k=l then hd else gh.hd k,bk:=gh.bk,ft:=fun k=>if k=l then ft else gh.ft k }
@[simp] theorem Gh.up_hd (gh:Gh) (l:Nat) (hd:Value) (ft:List Nat):(gh.up l hd ft).hd l=hd:=by simp[Gh.up]
@[simp] theorem Gh.up_ft (gh:Gh) (l:Nat) (hd:Value) (ft:List Nat):(gh.up l hd ft).ft l=ft:=by simp[Gh.up]
@[simp] theorem Gh.up_bk (gh:Gh) (l:Nat) (hd:Value) (ft:List Nat):(gh.up l hd ft).bk=gh.bk:=rfl
theorem Gh.up_hd_ne (gh:Gh) (l:Nat) (hd:Value) (ft:List Nat) {k:Nat} (h:k≠l):(gh.up l hd ft).hd k=gh.hd k:=by simp[Gh.up,h]
theorem Gh.up_ft_ne (gh:Gh) (l:Nat) (hd:Value) (ft:List Nat) {k:Nat} (h:k≠l):(gh.up l hd ft).ft k=gh.ft k:=by simp[Gh.up,h]
theorem Rel.write {C:Ctx} {st:St} {gh:Gh} {a:Act} {w w':World} (h:Rel C st gh a w) {m:Bool} {l:Nat} (hcl:Clear m l st) (hro:st.ro≤l) (hl:l<st.objs.length)
  {o':AObj} {hd':Value} {F':List Nat} (hw:Fr (·∈gh.ft l) w w')
  (hm:m=false→hd'=gh.hd l∧(∀ e t xs d L,obj st.objs l=.row e t xs d L→∃ ys d' L',o'=.row e t ys d' L'∧ys.length=xs.length)∧(∀ cs,obj st.objs l=.box cs→∃ ds,o'=.box ds))
  (hfix:l<st.fx→hd'=gh.hd l∧F'=gh.ft l)
  (hF:∀ b∈F',b∈gh.ft l∨(w.heap.size≤b∧b<w'.heap.size)) (hnd:F'.Nodup)
  (hob:z2n C w' (gh.up l hd' F') (st.objs.set l o') l o'):Rel C { st with objs:=st.objs.set l o' } (gh.up l hd' F') a w':=by
 have hsz:=hw.size
 have hT:Tr C w gh st.objs w' (gh.up l hd' F') (st.objs.set l o') (fun k=>k=l) (fun _=>m=false):=by
  refine⟨hw.size,fun b hb=>?_,fun k b hb hk=>?_,fun k hk hd=>?_,fun k hk hH=>?_⟩
  ·by_cases hb':b∈gh.ft l
   ·exact .inr ⟨l,rfl,hb'⟩
   ·exact .inl (hw.block b hb hb')
  ·by_cases e:k=l
   ·subst e
    rw[Gh.up_ft] at hk
    rcases hF b hk with h' | h'
    ·exact⟨k,h',.inl rfl⟩
    ·omega
   ·rw[Gh.up_ft_ne _ _ _ _ e] at hk
    exact⟨k,hk,.inl rfl⟩
  ·exact⟨z01 hk,Gh.up_hd_ne _ _ _ _ hk,rfl,Gh.up_ft_ne _ _ _ _ hk⟩
  ·subst hk
   obtain⟨h1,h2,h3⟩:=hm hH
   refine⟨by rw[Gh.up_hd,h1],rfl,fun e t xs d L ho=>?_,fun cs ho=>?_⟩
   ·rw[z0a hl]; exact h2 _ _ _ _ _ ho
   ·rw[z0a hl]; exact h3 _ ho
 have hfresh:∀ b∈F',b∉gh.ft l→w.heap.size≤b:=fun b hb hn=>((hF b hb).resolve_left hn).1
 refine⟨h.fr.on hw fun i hi hlt=>?_,h.u0,h.gl,fun k b hb=>?_,fun k b hk hb=>?_,fun k k' b hb hb'=>?_,fun k=>?_,fun k b hb=>?_,fun k=>?_,fun k hk=>?_,h.fm,h.len,fun i=>?_,h.df,h.frm.mono fun c y hc hk=>z52 hT h.dj h.objs (z3c (hcl.frm c hc)) hk⟩
 ·rcases h.own l i hro hi with h' | h'
  ·omega
  ·exact h'
 ·by_cases e:k=l
  ·subst e
   rw[Gh.up_ft] at hb
   rcases hF b hb with h' | h'
   ·have:=h.lt _ _ h'; omega
   ·exact h'.2
  ·rw[Gh.up_ft_ne _ _ _ _ e] at hb
   have:=h.lt _ _ hb; omega
 ·by_cases e:k=l
  ·subst e
   rw[Gh.up_ft] at hb
   rcases hF b hb with h' | h'
   ·exact h.own _ _ hk h'
   ·left; have:=h.fr.size; omega
  ·rw[Gh.up_ft_ne _ _ _ _ e] at hb
   exact h.own _ _ hk hb
 ·by_cases e:k=l<;>by_cases e':k'=l
  ·rw[e,e']
  ·subst e
   rw[Gh.up_ft] at hb
   rw[Gh.up_ft_ne _ _ _ _ e'] at hb'
   rcases hF b hb with h' | h'
   ·exact h.dj _ _ _ h' hb'
   ·have:=h.lt _ _ hb'; omega
  ·subst e'
   rw[Gh.up_ft] at hb'
   rw[Gh.up_ft_ne _ _ _ _ e] at hb
   rcases hF b hb' with h' | h'
   ·exact h.dj _ _ _ hb h'
   ·have:=h.lt _ _ hb; omega
  ·rw[Gh.up_ft_ne _ _ _ _ e] at hb
   rw[Gh.up_ft_ne _ _ _ _ e'] at hb'
   exact h.dj _ _ _ hb hb'
 ·by_cases e:k=l
  ·subst e; rw[Gh.up_ft]; exact hnd
  ·rw[Gh.up_ft_ne _ _ _ _ e]; exact h.nd k
 ·by_cases e:k=l
  ·subst e
   rw[Gh.up_ft] at hb
   rcases hF b hb with h' | h'
   ·exact h.sep _ _ h'
   ·intro hu; have:=h.u0 _ hu; have:=h.fr.size; omega
  ·rw[Gh.up_ft_ne _ _ _ _ e] at hb
   exact h.sep _ _ hb
 ·by_cases e:k=l
  ·subst e
   show z2n C w' _ _ k (obj (st.objs.set k o') k)
   rw[z0a hl]; exact hob
  ·by_cases hd:obj st.objs k=.dead
   ·have:=h.objs k
    rw[hd] at this
    show z2n C w' _ _ k (obj (st.objs.set l o') k)
    rw[z01 e,hd]
    show (gh.up l hd' F').ft k=[]
    rw[Gh.up_ft_ne _ _ _ _ e]; exact this
   ·refine zhl hT h.dj h.objs h.lt e hd ?_
    cases ho:obj st.objs k with
    | dead=>exact absurd ho hd
    | hol _ _ _=>exact trivial
    | box cs=>exact fun c hc=>z3c (hcl.boxes k cs ho c hc)
    | row e t xs d L=>intro l' hl'; subst hl'; exact hcl.rows _ _ _ _ _ _ ho
 ·have hk':k≠l∨k=l:=by omega
  rcases hk' with e | e
  ·rw[Gh.up_hd_ne _ _ _ _ e,Gh.up_ft_ne _ _ _ _ e,Gh.up_bk]; exact h.fix k hk
  ·subst e
   obtain⟨h1,h2⟩:=hfix hk
   rw[Gh.up_hd,Gh.up_ft,Gh.up_bk,h1,h2]; exact h.fix k hk
 ·exact znw hT h.dj h.objs (z2r fun c hc=>z3c (hcl.regs i c hc)) (h.regs i)
theorem Rel.grow {C:Ctx} {st:St} {gh gh':Gh} {a:Act} {w w':World} (h:Rel C st gh a w) (new:Objs) (hw:FrQ (C.Γ.q=true) (fun _=>False) w w')
  (hsame:∀ l,l<st.objs.length→gh'.hd l=gh.hd l∧gh'.bk l=gh.bk l∧gh'.ft l=gh.ft l)
  (hft:∀ l b,st.objs.length≤l→b∈gh'.ft l→w.heap.size≤b∧b<w'.heap.size)
  (hdj:∀ l l' b,st.objs.length≤l→st.objs.length≤l'→b∈gh'.ft l→b∈gh'.ft l'→l=l') (hnd:∀ l,st.objs.length≤l→(gh'.ft l).Nodup)
  (hob:∀ l,st.objs.length≤l→z2n C w' gh' (st.objs++new) l (obj (st.objs++new) l)) (hfx:st.fx≤st.objs.length):Rel C { st with objs:=st.objs++new } gh' a w':=by
 have hsz:=hw.size
 have hT:Tr C w gh st.objs w' gh' (st.objs++new) (fun _=>False) (fun _=>False):=by
  refine⟨hw.size,fun b hb=>.inl (hw.block b hb id),fun k b hb hk=>?_,fun k _ hd=>?_,fun k hk=>hk.elim⟩
  ·by_cases e:k<st.objs.length
   ·exact⟨k,by rw[←(hsame k e).2.2]; exact hk,.inl rfl⟩
   ·have:=hft k b (by omega) hk; omega
  ·have e:=z0o hd
   obtain⟨h1,h2,h3⟩:=hsame k e
   exact⟨z29 e,h1,h2,h3⟩
 refine⟨h.fr.on hw (fun i hi _=>hi.elim) id,h.u0,h.gl,fun k b hb=>?_,fun k b hk hb=>?_,fun k k' b hb hb'=>?_,fun k=>?_,fun k b hb=>?_,fun k=>?_,fun k hk=>?_,h.fm,h.len,fun i=>?_,h.df,h.frm.mono fun c y hc hk=>z52 hT h.dj h.objs z2f hk⟩
 ·by_cases e:k<st.objs.length
  ·rw[(hsame k e).2.2] at hb; have:=h.lt _ _ hb; omega
  ·exact (hft k b (by omega) hb).2
 ·by_cases e:k<st.objs.length
  ·rw[(hsame k e).2.2] at hb; exact h.own _ _ hk hb
  ·left; have:=hft k b (by omega) hb; have:=h.fr.size; omega
 ·by_cases e:k<st.objs.length<;>by_cases e':k'<st.objs.length
  ·rw[(hsame k e).2.2] at hb; rw[(hsame k' e').2.2] at hb'; exact h.dj _ _ _ hb hb'
  ·rw[(hsame k e).2.2] at hb; have:=h.lt _ _ hb; have:=hft k' b (by omega) hb'; omega
  ·rw[(hsame k' e').2.2] at hb'; have:=h.lt _ _ hb'; have:=hft k b (by omega) hb; omega
  ·exact hdj _ _ _ (by omega) (by omega) hb hb'
 ·by_cases e:k<st.objs.length
  ·rw[(hsame k e).2.2]; exact h.nd k
  ·exact hnd k (by omega)
 ·by_cases e:k<st.objs.length
  ·rw[(hsame k e).2.2] at hb; exact h.sep _ _ hb
  ·intro hu; have:=hft k b (by omega) hb; have:=h.u0 _ hu; have:=h.fr.size; omega
 ·by_cases e:k<st.objs.length
  ·by_cases hd:obj st.objs k=.dead
   ·have:=h.objs k
    rw[hd] at this
    show z2n C w' _ _ k (obj (st.objs++new) k)
    rw[z29 e,hd]
    show gh'.ft k=[]
    rw[(hsame k e).2.2]; exact this
   ·refine zhl hT h.dj h.objs h.lt (fun h=>h) hd ?_
    cases ho:obj st.objs k with
    | dead=>exact absurd ho hd
    | hol _ _ _=>exact trivial
    | box cs=>exact fun c hc=>z2f
    | row e t xs d L=>exact fun _ hl=>hl.elim
  ·exact hob k (by omega)
 ·have hk':k<st.fx:=hk
  obtain⟨h1,h2,h3⟩:=hsame k (by omega)
  rw[h1,h2,h3]; exact h.fix k hk
 ·exact znw hT h.dj h.objs (z2r fun c hc=>z2f) (h.regs i)
theorem SVOk.undef {C:Ctx} {w:World} {gh:Gh} {os:Objs} (x:Value):SVOk (LeafOk C w gh os) (.one .undef) x:=⟨trivial,by simp[Leaf.known]⟩
theorem Rel.put {C:Ctx} {st:St} {gh:Gh} {a:Act} {w:World} (h:Rel C st gh a w) {d:Option Tmp} {v:SV} {x:Value} (hv:SVOk (LeafOk C w gh st.objs) v x):Rel C (st.put d v) gh (a.put d x) w:=by
 cases d with
 | none=>exact h
 | some d=>
  refine⟨h.fr,h.u0,h.gl,h.lt,h.own,h.dj,h.nd,h.sep,h.objs,h.fix,h.fm,by simpa[St.put,z04,Act.put] using h.len,fun i=>?_,by simpa[Act.put] using h.df,h.frm⟩
  show SVOk _ ((st.regs.set d v).getD i (.one .undef)) ((a.tmps.setIfInBounds d x).getD i undef)
  have hi:=h.regs i
  have hl:=h.len
  by_cases e:i=d
  ·subst e
   by_cases hlt:i<st.regs.length
   ·have hlt':i<a.tmps.size:=by omega
    rw[show (st.regs.set i v).getD i (.one .undef)=v by simp[List.getD,hlt],show (a.tmps.setIfInBounds i x).getD i undef=x by simp[Array.getD,hlt']]
    exact hv
   ·rw[show (st.regs.set i v).getD i (.one .undef)=.one .undef by simp[List.getD,hlt]]
    exact SVOk.undef _
  ·simp only[St.reg] at hi
   rw[show (st.regs.set d v).getD i (.one .undef)=st.regs.getD i (.one .undef) by simp[List.getD,List.getElem?_set_ne (fun e'=>e e'.symm)]]
   rw[show (a.tmps.setIfInBounds d x).getD i undef=a.tmps.getD i undef by simp[Array.getD_eq_getD_getElem?,Array.getElem?_setIfInBounds,show ¬d=i from fun e'=>e e'.symm]]
   exact hi
end Go.AM
