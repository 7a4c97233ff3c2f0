/- Functions with lent parameters: how they find them, and what they leave. No condition. -/
import Derived.Test.YtdcbankajhnepaaGreatAmInl
set_option linter.unusedVariables false
set_option linter.unusedSimpArgs false
namespace Go.AM
theorem AllR.det {α:Type} {R:α→List Nat→List Value→Prop} (hR:∀ x F F' c,R x F c→R x F' c→F=F') {xs:List α}:∀ {Fs Gs:List (List Nat)} {cs:List (List Value)},AllR R xs Fs cs→AllR R xs Gs cs→Fs=Gs:=by
 induction xs with
 | nil=>intro Fs Gs cs h k; cases Fs<;>cases Gs<;>cases cs<;>simp_all[AllR]
 | cons x xs ih=>
  intro Fs Gs cs h k
  cases Fs<;>cases Gs<;>cases cs<;>simp only[AllR] at h k
  rw[hR _ _ _ _ h.1 k.1,ih h.2 k.2]
theorem zm0 {β:Type} {n:Nat} (hn:0<n):∀ {cs ds:List (List β)},(∀ c∈cs,c.length=n)→(∀ c∈ds,c.length=n)→cs.flatten=ds.flatten→cs=ds
 | [],[],_,_,_=>rfl
 | [],d::ds,_,hd,h=>by
  have h1:=hd d (by simp)
  have h2:=congrArg List.length h
  simp only[List.flatten_nil,List.length_nil,List.flatten_cons,List.length_append] at h2
  omega
 | c::cs,[],hc,_,h=>by
  have h1:=hc c (by simp)
  have h2:=congrArg List.length h
  simp only[List.flatten_nil,List.length_nil,List.flatten_cons,List.length_append] at h2
  omega
 | c::cs,d::ds,hc,hd,h=>by
  rw[List.flatten_cons,List.flatten_cons] at h
  obtain⟨h1,h2⟩:=List.append_inj h (by rw[hc c (by simp),hd d (by simp)])
  rw[h1,zm0 hn (fun c h=>hc c (by simp[h])) (fun c h=>hd c (by simp[h])) h2]
theorem zqm {β:Type}:∀ {cs ds:List (List β)},(∀ c∈cs,c.length=0)→(∀ c∈ds,c.length=0)→cs.length=ds.length→cs=ds
 | [],[],_,_,_=>rfl
 | [],_::_,_,_,h=>by simp at h
 | _::_,[],_,_,h=>by simp at h
 | c::cs,d::ds,hc,hd,h=>by
  have h1:=List.eq_nil_of_length_eq_zero (hc c (by simp))
  have h2:=List.eq_nil_of_length_eq_zero (hd d (by simp))
  have h3:cs=ds:=zqm (fun c h=>hc c (by simp[h])) (fun c h=>hd c (by simp[h])) (by simpa using h)
  rw[h1,h2,h3]
theorem zsh {w:World} {e size:Nat} {v:Value} {n:Nat} {xs ys:List Value} (h:OwnR w e size v n xs) (k:OwnR w e size v n ys):xs=ys:=by
 rcases h.2 with ⟨rfl,rfl⟩ | ⟨g,o,cap,cur,rfl,hg,_,_,_,ht⟩
 ·have h1:=h.1; have k1:=k.1
  simp only[Nat.zero_mul] at h1 k1
  rw[List.eq_nil_of_length_eq_zero h1,List.eq_nil_of_length_eq_zero k1]
 ·rcases k.2 with ⟨hn,_⟩ | ⟨g',o',cap',cur',hv,hg',_,_,_,ht'⟩
  ·cases hn
  ·cases hv
   rw[hg] at hg'
   simp only[Option.some.injEq,Obj.cells.injEq,and_true] at hg'
   subst hg'
   rw[←ht,←ht']
theorem Deep.det:∀ (t:Ty) {w:World} {x:t.den} {F F':List Nat} {cs:List Value},Deep t w x F cs→Deep t w x F' cs→F=F'
 | .int _,_,_,_,_,_,h,k=>by rw[h.1,k.1]
 | .bool,_,_,_,_,_,h,k=>by rw[h.1,k.1]
 | .str,_,_,_,_,_,h,k=>by rw[h.1,k.1]
 | .unit,_,_,_,_,_,h,k=>by rw[h.1,k.1]
 | .pair a b,_,_,_,_,_,h,k=>by
  obtain⟨F1,F2,c1,c2,rfl,rfl,h1,h2⟩:=h
  obtain⟨G1,G2,d1,d2,rfl,he,k1,k2⟩:=k
  obtain⟨rfl,rfl⟩:=List.append_inj he (by rw[Deep.len a h1,Deep.len a k1])
  rw[Deep.det a h1 k1,Deep.det b h2 k2]
 | .slice e t,w,xs,F,F',cs,h,k=>by
  obtain⟨v,rfl,Fs,ess,ha,rfl,ho⟩:=h
  obtain⟨v',he,Gs,dss,ka,rfl,ko⟩:=k
  simp only[List.cons.injEq,and_true] at he
  subst he
  have h1:=ha.size (fun x F c hR=>Deep.len t hR)
  have k1:=ka.size (fun x F c hR=>Deep.len t hR)
  have hfl:=zsh ho ko
  have hess:ess=dss:=by
   by_cases hp:0<t.size
   ·exact zm0 hp h1 k1 hfl
   ·have h0:t.size=0:=by omega
    rw[h0] at h1 k1
    exact zqm h1 k1 (by rw[ha.len.2,ka.len.2])
  subst hess
  have hFG:Fs=Gs:=AllR.det (R:=Deep t w) (fun x F F' c hR hR'=>Deep.det t hR hR') ha ka
  rw[hFG]
theorem zgs {os:Objs}:∀ (t:Ty) {ls:List Leaf} {y:t.den} {W:List Nat} {r:List Leaf},z0z os t ls=some (y,W,r)→r=ls.drop t.size∧t.size≤ls.length
 | .pair a b,ls,y,W,r,h=>by
  simp only[z0z] at h
  split at h
  ·rename_i x1 L r1 h1
   split at h
   ·rename_i x2 M r2 h2
    simp only[Option.some.injEq,Prod.mk.injEq] at h
    obtain⟨_,_,rfl⟩:=h
    obtain⟨rfl,k1⟩:=zgs a h1
    obtain⟨rfl,k2⟩:=zgs b h2
    rw[List.length_drop] at k2
    exact⟨by rw[List.drop_drop]; rfl,by simp only[Ty.size]; omega⟩
   ·cases h
  ·cases h
 | .unit,ls,y,W,r,h=>by
  simp only[z0z,Option.some.injEq,Prod.mk.injEq] at h
  obtain⟨_,_,rfl⟩:=h
  exact⟨rfl,Nat.zero_le _⟩
 | .slice e t,ls,y,W,r,h=>by
  cases ls with
  | nil=>cases h
  | cons c ls=>
   have:r=ls:=by
    cases c<;>simp only[z0z] at h<;>try (cases h; done)
    ·simp only[Option.some.injEq,Prod.mk.injEq] at h; exact h.2.2.symm
    ·split at h
     ·split at h
      ·split at h
       ·simp only[Option.some.injEq,Prod.mk.injEq] at h; exact h.2.2.symm
       ·cases h
      ·cases h
     ·cases h
    ·split at h
     ·split at h
      ·split at h
       ·split at h
        ·simp only[Option.some.injEq,Prod.mk.injEq] at h; exact h.2.2.symm
        ·cases h
       ·cases h
      ·cases h
     ·cases h
   subst this
   exact⟨rfl,by simp[Ty.size]⟩
 | .int k,ls,y,W,r,h=>by
  cases ls with
  | nil=>cases h
  | cons c ls=>
   cases c<;>simp only[z0z] at h<;>try (cases h; done)
   split at h
   ·simp only[Option.some.injEq,Prod.mk.injEq] at h; obtain⟨_,_,rfl⟩:=h; exact⟨rfl,by simp[Ty.size]⟩
   ·cases h
 | .bool,ls,y,W,r,h=>by
  cases ls with
  | nil=>cases h
  | cons c ls=>
   cases c<;>simp only[z0z] at h<;>try (cases h; done)
   split at h
   ·simp only[Option.some.injEq,Prod.mk.injEq] at h; obtain⟨_,_,rfl⟩:=h; exact⟨rfl,by simp[Ty.size]⟩
   ·cases h
 | .str,ls,y,W,r,h=>by
  cases ls with
  | nil=>cases h
  | cons c ls=>
   cases c<;>simp only[z0z] at h<;>try (cases h; done)
   split at h
   ·simp only[Option.some.injEq,Prod.mk.injEq] at h; obtain⟨_,_,rfl⟩:=h; exact⟨rfl,by simp[Ty.size]⟩
   ·cases h
theorem z7l:∀ (t:Ty) (x:t.den) (n:Nat),(z02 t x n).1.length=t.size
 | .pair a b,x,n=>by simp[z02,Ty.size,z7l a,z7l b]
 | .int _,_,_=>rfl
 | .bool,_,_=>rfl
 | .str,_,_=>rfl
 | .slice _ _,_,_=>rfl
 | .unit,_,_=>rfl
def Sits (gh:Gh):(t:Ty)→t.den→Nat→World→List Value→Prop
 | .pair a b,x,n,w,cs=>∀ c1 c2,cs=c1++c2→c1.length=a.size→Sits gh a x.1 n w c1∧Sits gh b x.2 (n+(z02 a x.1 n).2.length) w c2
 | .slice e t,x,n,w,cs=>∃ F,Deep (.slice e t) w x F cs∧cs=[gh.hd n]∧gh.ft n=F
 | _,_,_,_,_=>True
theorem zp8 {w:World}:∀ (t:Ty) {x:t.den} {F:List Nat} {cs:List Value} (n:Nat),Deep t w x F cs →
  ∃ G:List (Value×List Nat),All2 (zrw w) (z02 t x n).2 G∧F=G.flatMap (·.2) ∧
   (∀ (C:Ctx) (gh:Gh) (os:Objs),(∀ j g,G[j]? = some g→gh.hd (n+j)=g.1)→(∀ j o,(z02 t x n).2[j]? = some o→obj os (n+j)=o)→All2 (LeafOk C w gh os) (z02 t x n).1 cs) ∧
   ∀ gh:Gh,(∀ j g,G[j]? = some g→gh.hd (n+j)=g.1∧gh.ft (n+j)=g.2)→Sits gh t x n w cs
 | .int k,x,F,cs,n,h=>by obtain⟨rfl,rfl⟩:=h; exact⟨[],trivial,rfl,fun C gh os _ _=>⟨z0j rfl rfl,trivial⟩,fun _ _=>trivial⟩
 | .bool,x,F,cs,n,h=>by obtain⟨rfl,rfl⟩:=h; exact⟨[],trivial,rfl,fun C gh os _ _=>⟨z0j rfl rfl,trivial⟩,fun _ _=>trivial⟩
 | .str,x,F,cs,n,h=>by obtain⟨rfl,rfl⟩:=h; exact⟨[],trivial,rfl,fun C gh os _ _=>⟨z0j rfl rfl,trivial⟩,fun _ _=>trivial⟩
 | .unit,x,F,cs,n,h=>by obtain⟨rfl,rfl⟩:=h; exact⟨[],trivial,rfl,fun C gh os _ _=>trivial,fun _ _=>trivial⟩
 | .slice e t,x,F,cs,n,h=>by
  have hone:=Deep.one _ h
  have h':=h
  obtain⟨v,rfl,hr⟩:=h
  refine⟨[(v,F)],⟨⟨e,t,x,rfl,hr⟩,trivial⟩,by simp,fun C gh os hg ho=>⟨⟨⟨?_,e,t,x,true,[],?_⟩,fun _=>hone v (by simp)⟩,trivial⟩,fun gh hg=>?_⟩
  ·have:=hg 0 _ rfl; simpa using this.symm
  ·have:=ho 0 _ rfl; simpa using this
  ·obtain⟨g1,g2⟩:=hg 0 _ rfl
   simp only[Nat.add_zero] at g1 g2
   exact⟨F,h',by rw[g1],g2⟩
 | .pair a b,x,F,cs,n,h=>by
  obtain⟨F1,F2,c1,c2,rfl,rfl,h1,h2⟩:=h
  obtain⟨G1,g1,g2,g3,g4⟩:=zp8 a n h1
  obtain⟨G2,k1,k2,k3,k4⟩:=zp8 b (n+(z02 a x.1 n).2.length) h2
  have hl:=g1.len
  have hG1:∀ {j g},G1[j]? = some g→(G1++G2)[j]? = some g:=fun {j g} hj=>by rw[List.getElem?_append_left (List.getElem?_eq_some_iff.1 hj).1]; exact hj
  have hG2:∀ {j g},G2[j]? = some g→(G1++G2)[(z02 a x.1 n).2.length+j]? = some g:=fun {j g} hj=>by rw[List.getElem?_append_right (by omega),hl,Nat.add_sub_cancel_left]; exact hj
  refine⟨G1++G2,g1.app k1,by rw[g2,k2,List.flatMap_append],fun C gh os hg ho=>(g3 C gh os (fun j g hj=>hg j g (hG1 hj)) (fun j o hj=>?_)).app (k3 C gh os (fun j g hj=>?_) (fun j o hj=>?_)),fun gh hg d1 d2 he hlen=>?_⟩
  ·exact ho j o (by simp only[z02]; rw[List.getElem?_append_left (List.getElem?_eq_some_iff.1 hj).1]; exact hj)
  ·rw[Nat.add_assoc]; exact hg _ g (hG2 hj)
  ·have:=ho ((z02 a x.1 n).2.length+j) o (by simp only[z02]; rw[List.getElem?_append_right (by omega),Nat.add_sub_cancel_left]; exact hj)
   rw[Nat.add_assoc]; exact this
  ·obtain⟨rfl,rfl⟩:=List.append_inj he (by rw[Deep.len a h1,hlen])
   exact⟨g4 gh fun j g hj=>hg j g (hG1 hj),k4 gh fun j g hj=>by rw[Nat.add_assoc]; exact hg _ g (hG2 hj)⟩
theorem ztg {w w':World} {gh gh':Gh} {os:Objs} (hrow:∀ l e s ys L,obj os l=.row e s ys true L→RowR (Deep s w') w' e s.size (gh'.hd l) (gh'.ft l) ys):∀ (t:Ty) {x y:t.den} {n m:Nat} {cs:List Value} {W:List Nat} {rest r:List Leaf},n+(z02 t x n).2.length≤m→(∀ l,l<m→gh'.hd l=gh.hd l∧gh'.ft l=gh.ft l)→Sits gh t x n w cs →
  (cs.length=t.size)→z0z os t ((z02 t x n).1++rest)=some (y,W,r)→MutT t w w' x y cs
 | .int _,_,_,_,_,_,_,_,_,_,_,_,_,_=>trivial
 | .bool,_,_,_,_,_,_,_,_,_,_,_,_,_=>trivial
 | .str,_,_,_,_,_,_,_,_,_,_,_,_,_=>trivial
 | .unit,_,_,_,_,_,_,_,_,_,_,_,_,_=>trivial
 | .slice e t,x,y,n,m,cs,W,rest,r,hm,hgh,hs,hcl,hg=>by
  obtain⟨F,hd,rfl,hF⟩:=hs
  simp only[z02,List.length_cons,List.length_nil] at hm
  obtain⟨k1,k2⟩:=hgh n (by omega)
  simp only[z02,List.singleton_append,z0z] at hg
  cases ho:obj os n with
  | dead=>rw[ho] at hg; cases hg
  | hol _ _ _=>rw[ho] at hg; cases hg
  | box _=>rw[ho] at hg; cases hg
  | row e' s ys d L=>
   rw[ho] at hg
   cases d with
   | false=>cases hg
   | true=>
    simp only at hg
    split at hg
    ·rename_i he
     simp only[beq_iff_eq] at he
     subst he
     split at hg
     ·rename_i z hz
      simp only[Option.some.injEq,Prod.mk.injEq] at hg
      obtain⟨rfl,_,_⟩:=hg
      obtain⟨rfl,rfl⟩:=z20 hz
      intro F' hd'
      have:=Deep.det _ hd hd'
      subst this
      refine⟨gh.hd n,rfl,?_⟩
      have:=hrow n _ _ _ _ ho
      rw[k1,k2,hF] at this
      exact this
     ·cases hg
    ·cases hg
 | .pair a b,x,y,n,m,cs,W,rest,r,hm,hgh,hs,hcl,hg=>by
  intro c1 c2 he hlen
  obtain⟨s1,s2⟩:=hs c1 c2 he hlen
  simp only[z02,List.length_append] at hm
  simp only[z02,List.append_assoc,z0z] at hg
  split at hg
  ·rename_i x1 L r1 h1
   split at hg
   ·rename_i x2 M r2 h2
    simp only[Option.some.injEq,Prod.mk.injEq] at hg
    obtain⟨rfl,_,_⟩:=hg
    have hr1:=(zgs a h1).1
    rw[List.drop_left' (z7l a x.1 n)] at hr1
    subst hr1
    have hc2:c2.length=b.size:=by rw[he,List.length_append,hlen] at hcl; simp only[Ty.size] at hcl; omega
    exact⟨ztg hrow a (by omega) hgh s1 hlen h1,ztg hrow b (by omega) hgh s2 hc2 h2⟩
   ·cases hg
  ·cases hg
def y1b (U0:Nat→Prop) (Fm:List Nat) (w:World) (o:AObj) (g:Value×List Nat):Prop:=
 zrw w o g∨∃ t x b arr T,o=.box (z2k t x [])∧g=(.pointer (some ⟨b,0,none⟩),[b])∧w.heap[b]? = some (.cells arr T (0,0))∧ImmS t x arr.toList w (MutU U0 Fm)
theorem zf1 {P:Program} {w:World} {U0:Nat→Prop} {Fm:List Nat}:∀ (ps:List PIn) {x:z6e ps} {args:List Value} {F:List Nat} (n:Nat),zpi P w U0 Fm ps x args F →
  ∃ G,All2 (y1b U0 Fm w) (z4e ps x n).2 G∧F=G.flatMap (·.2)∧(∀ (C:Ctx) (gh:Gh) (os:Objs),C.P=P→C.w0=w→C.U0=U0→(∀ j g,G[j]? = some g→gh.hd (n+j)=g.1∧gh.bk (n+j)=bkOf g.1)→(∀ j o,(z4e ps x n).2[j]? = some o→obj os (n+j)=o) →
   (∀ b,UU C.U0 gh [] b→MutU U0 Fm b)→All2 (SVOk (LeafOk C w gh os)) (z4e ps x n).1 args) ∧
   ∀ (w':World) (gh gh':Gh) (os:Objs) (m:Nat) (z:z51 ps) (B:List Nat) (U:Nat→Prop),(∀ j g,G[j]? = some g→gh.hd (n+j)=g.1∧gh.ft (n+j)=g.2∧gh.bk (n+j)=bkOf g.1)→n+(z4e ps x n).2.length≤m→(∀ l,l<m→gh'.hd l=gh.hd l∧gh'.ft l=gh.ft l∧gh'.bk l=gh.bk l) →
    (∀ l e s ys L,obj os l=.row e s ys true L→RowR (Deep s w') w' e s.size (gh'.hd l) (gh'.ft l) ys) →
    (∀ l ls (t:Ty) (y:t.den) L,obj os l=.box ls→z14 os t ls=some (y,L,[])→∃ arr T,w'.heap[gh'.bk l]? = some (.cells arr T (0,0))∧ImmS t y arr.toList w' (UU U0 gh' L)) →
    zak os ps x n=some (z,B)→(∀ b,b<w'.heap.size→U b→UU U0 gh' B b)→zje w w' U ps x z args
 | [],x,args,F,n,h=>by obtain⟨rfl,rfl⟩:=h; exact⟨[],trivial,rfl,fun _ _ _ _ _ _ _ _ _=>trivial,fun _ _ _ _ _ _ _ _ _ _ _ _ _ _ _=>trivial⟩
 | .imm b t::ps,x,args,F,n,h=>by
  obtain⟨v,cs,r,rfl,hp,hi,hr⟩:=h
  obtain⟨G,h1,h2,h3,h4⟩:=zf1 ps n hr
  exact⟨G,h1,h2,fun C gh os e1 e2 e3 hg ho hU=>⟨zww hp (hi.sub fun b _ hb=>hU b hb),h3 C gh os e1 e2 e3 hg ho hU⟩,fun w' gh gh' os m z B U hg hm hgh hrow hbox hb hU=>h4 w' gh gh' os m z B U hg hm hgh hrow hbox hb hU⟩
 | .clo gs r::ps,x,args,F,n,h=>by
  obtain⟨v,q,rfl,hc,_,hr⟩:=h
  obtain⟨G,h1,h2,h3,h4⟩:=zf1 ps n hr
  refine⟨G,h1,h2,fun C gh os e1 e2 e3 hg ho hU=>⟨⟨?_,fun _=>?_⟩,h3 C gh os e1 e2 e3 hg ho hU⟩,fun w' gh gh' os m z B U hg hm hgh hrow hbox hb hU=>h4 w' gh gh' os m z B U hg hm hgh hrow hbox hb hU⟩
  ·show ztj C.P v gs r x.1 C.w0 C.U0
   rw[e1,e2,e3]; exact hc
  ·obtain⟨g,caps,rfl,_⟩:=hc; rfl
 | .mut b t::ps,x,args,F,n,h=>by
  obtain⟨v,cs,r,F1,F2,rfl,hp,hd,rfl,hr⟩:=h
  obtain⟨G2,h1,h2,h3,h4⟩:=zf1 ps (n+(z02 t x.1 n).2.length) hr
  obtain⟨G1,g1,g2,g3,g4⟩:=zp8 t n hd
  have hl:=g1.len
  have hG1:∀ {j g},G1[j]? = some g→(G1++G2)[j]? = some g:=fun {j g} hj=>by rw[List.getElem?_append_left (List.getElem?_eq_some_iff.1 hj).1]; exact hj
  have hG2:∀ {j g},G2[j]? = some g→(G1++G2)[(z02 t x.1 n).2.length+j]? = some g:=fun {j g} hj=>by rw[List.getElem?_append_right (by omega),hl,Nat.add_sub_cancel_left]; exact hj
  refine⟨G1++G2,(g1.mono fun _ _ _ h=>.inl h).app h1,by rw[g2,h2,List.flatMap_append],fun C gh os e1 e2 e3 hg ho hU=>⟨zc0 hp (g3 C gh os (fun j g hj=>(hg j g (hG1 hj)).1) (fun j o hj=>?_)) ?_,h3 C gh os e1 e2 e3 (fun j g hj=>?_) (fun j o hj=>?_) hU⟩,fun w' gh gh' os m z B U hg hm hgh hrow hbox hb hU=>?_⟩
  ·exact ho j o (by simp only[z4e]; rw[List.getElem?_append_left (List.getElem?_eq_some_iff.1 hj).1]; exact hj)
  ·cases b with
   | true=>exact .inr rfl
   | false=>
    left
    obtain rfl:cs=[v]:=hp
    rw[z7l,←Deep.len t hd]
    rfl
  ·rw[Nat.add_assoc]; exact hg _ g (hG2 hj)
  ·have:=ho ((z02 t x.1 n).2.length+j) o (by simp only[z4e]; rw[List.getElem?_append_right (by omega),Nat.add_sub_cancel_left]; exact hj)
   rw[Nat.add_assoc]; exact this
  ·simp only[zak] at hb
   split at hb
   ·rename_i y W hgm
    split at hb
    ·rename_i z2 B2 hz2
     simp only[Option.some.injEq,Prod.mk.injEq] at hb
     obtain⟨rfl,rfl⟩:=hb
     simp only[z4e,List.length_append] at hm
     refine⟨fun cs' hp'=>?_,h4 w' gh gh' os m z2 B2 U (fun j g hj=>by rw[Nat.add_assoc]; exact hg _ g (hG2 hj)) (by omega) hgh hrow hbox hz2 hU⟩
     have hcs:cs'=cs:=by
      simp only[List.headD_cons] at hp'
      cases b with
      | true=>
       have h5:v=.agg cs.toArray:=hp
       have h6:v=.agg cs'.toArray:=hp'
       rw[h5] at h6
       simp only[Value.agg.injEq] at h6
       have:=congrArg Array.toList h6
       simpa using this.symm
      | false=>
       have h5:cs=[v]:=hp
       have h6:cs'=[v]:=hp'
       rw[h5,h6]
     subst hcs
     have hgm':z0z os t ((z02 t x.1 n).1++[])=some (y,W,[]):=by rw[List.append_nil]; exact hgm
     exact ztg hrow t (m:=m) (by omega) (fun l hl=>⟨(hgh l hl).1,(hgh l hl).2.1⟩) (g4 gh fun j g hj=>⟨(hg j g (hG1 hj)).1,(hg j g (hG1 hj)).2.1⟩) (Deep.len t hd) hgm'
    ·cases hb
   ·cases hb
 | .ptr t::ps,x,args,F,n,h=>by
  obtain⟨b,arr,T,r,F2,rfl,hheap,hi,rfl,hr⟩:=h
  obtain⟨G,h1,h2,h3,h4⟩:=zf1 ps (n+1) hr
  have hG2:∀ {j:Nat} {g:Value×List Nat},G[j]? = some g→((Value.pointer (some ⟨b,0,none⟩),[b])::G)[1+j]? = some g:=fun {j g} hj=>by rw[Nat.add_comm,List.getElem?_cons_succ]; exact hj
  refine⟨(.pointer (some ⟨b,0,none⟩),[b])::G,⟨.inr ⟨t,x.1,b,arr,T,rfl,rfl,hheap,hi⟩,h1⟩,by rw[h2]; rfl,fun C gh os e1 e2 e3 hg ho hU=>⟨⟨⟨?_,z2k t x.1 [],?_⟩,fun _=>rfl⟩,h3 C gh os e1 e2 e3 (fun j g hj=>?_) (fun j o hj=>?_) hU⟩,fun w' gh gh' os m z B U hg hm hgh hrow hbox hb hU=>?_⟩
  ·have:=(hg 0 _ rfl).2
   simp only[Nat.add_zero,bkOf] at this
   rw[this]
  ·have:=ho 0 _ rfl
   simpa using this
  ·have:=hg (1+j) g (hG2 hj)
   rwa [←Nat.add_assoc] at this
  ·have:=ho (1+j) o (by simp only[z4e]; rw[Nat.add_comm 1 j,List.getElem?_cons_succ]; exact hj)
   rwa [←Nat.add_assoc] at this
  ·simp only[zak] at hb
   split at hb
   case h_2=>cases hb
   rename_i ls hob
   split at hb
   case h_2=>cases hb
   rename_i y L hgi
   split at hb
   case h_2=>cases hb
   rename_i z2 B2 hz2
   simp only[Option.some.injEq,Prod.mk.injEq] at hb
   obtain⟨rfl,rfl⟩:=hb
   simp only[z4e,List.length_cons] at hm
   refine⟨fun b' hb'=>?_,h4 w' gh gh' os m z2 B2 U (fun j g hj=>?_) (by omega) hgh hrow hbox hz2 fun b hb hu=>UU.mono (fun l hl=>by simp[z2o,hl]) (hU b hb hu)⟩
   ·obtain⟨arr',T',k1,k2⟩:=hbox n ls t y L hob hgi
    have hbk:=(hg 0 _ rfl).2.2
    simp only[Nat.add_zero,bkOf] at hbk
    rw[(hgh n (by omega)).2.2,hbk] at k1
    simp only[List.headD_cons,Value.pointer.injEq,Option.some.injEq,Addr.mk.injEq,and_true] at hb'
    subst hb'
    exact⟨arr',T',k1,k2.sub fun b hb hu=>UU.mono (fun l hl=>by simp[z2o,hl]) (hU b hb hu)⟩
   ·have:=hg (1+j) g (hG2 hj)
    rwa [←Nat.add_assoc] at this
theorem y6p {P:Program} {Γ:Facts} {E:Env} {s:FSpec} (hE:EnvOk P (Γ.at s.q) E) (hcb:∀ N,CBOk P (Γ.at s.q) (cbs N E)) (hinl:∀ N,zry P (Γ.at s.q) (y05 N E (cbs N E) 9)) {f:FuncId} {fn:Func} {c:Code} (hf:P.funcs[f]? = some fn) (hb:fn.body=some c)
  (hr:∀ x y,s.fn x=some y→∃ N,runF N E fn s.ins s.outs x=some y):FOk P Γ f s:=by
 intro x args w U0 Fm hU0 hins hnd hdis hgl y hy
 obtain⟨N,hrun⟩:=hr x y hy
 replace hcb:=hcb N
 replace hinl:=hinl N
 obtain⟨G,hG,hFm,hsvs,hback⟩:=zf1 s.ins 0 hins
 have hlenG:=hG.len
 let g0:Gh:=gh0.ext 0 G
 let C:Ctx:=⟨P,Γ.at s.q,U0,(·∈Fm),w,g0,[]⟩
 have hftG:∀ (l b:Nat),b∈g0.ft l→∃ g,G[l]? = some g∧b∈g.2:=by
  intro l b hb
  simp only[g0,Gh.ext,Nat.not_lt_zero,if_false,Nat.sub_zero] at hb
  split at hb
  ·rename_i g hg; exact⟨g,hg,hb⟩
  ·cases hb
 have hftM:∀ l b,b∈g0.ft l→b∈Fm:=fun l b hb=>by
  obtain⟨g,hg,hb⟩:=hftG l b hb
  rw[hFm]
  exact List.mem_flatMap.2 ⟨g,List.mem_of_getElem? hg,hb⟩
 rw[hFm] at hnd
 obtain⟨n1,n2⟩:=zda hnd
 have hrowAt:∀ (l:Nat) (g:Value×List Nat),G[l]? = some g→∃ o,(z4e s.ins x 0).2[l]? = some o∧y1b U0 Fm w o g:=by
  intro l g hg
  have hlt:l<(z4e s.ins x 0).2.length:=by rw[hlenG]; exact (List.getElem?_eq_some_iff.1 hg).1
  obtain⟨g',hg',hr⟩:=hG.get (List.getElem?_eq_getElem hlt)
  rw[hg] at hg'
  simp only[Option.some.injEq] at hg'
  subst hg'
  exact⟨_,List.getElem?_eq_getElem hlt,hr⟩
 have hg0:∀ (j:Nat) (g:Value×List Nat),G[j]? = some g→g0.hd (0+j)=g.1∧g0.ft (0+j)=g.2∧g0.bk (0+j)=bkOf g.1:=by
  intro j g hg
  simp[g0,Gh.ext,hg]
 have hsv:=hsvs C g0 (z4e s.ins x 0).2 rfl rfl rfl (fun j g hg=>⟨(hg0 j g hg).1,(hg0 j g hg).2.2⟩) (fun j o ho=>by simp[obj,List.getD,ho]) (fun b hb=>by
  rcases hb with hb | ⟨l,_,hb⟩
  ·exact .inl hb
  ·exact .inr (hftM l b hb))
 unfold runF at hrun
 rw[hb] at hrun
 simp only at hrun
 have hRel:Rel C { regs:=zds fn (z4e s.ins x 0).1,objs:=(z4e s.ins x 0).2,ro:=0,fx:=(z4e s.ins x 0).2.length,frm:=[] } g0 { tmps:=args.toArray++Array.replicate (fn.ntmps - args.toArray.size) undef,defers:=[] } w:=by
  refine⟨Fr.refl _ _,fun b hb=>?_,hgl,fun l b hb=>?_,fun l b _ hb=>.inr (hftM l b hb),fun l l' b hb hb'=>?_,fun l=>?_,fun l b hb hu=>?_,fun l=>?_,fun l _=>⟨rfl,rfl,rfl⟩,fun h0 b hb=>?_,zoa hsv.len fn,fun i=>zsf (fun v=>SVOk.undef v) hsv fn i,rfl,trivial⟩
  ·rcases hb with hb | hb
   ·exact hU0 b hb
   ·obtain⟨W,_,hn,_⟩:=hgl
    have:b<Γ.n:=hb
    show b<w.heap.size; omega
  ·obtain⟨g,hg,hb⟩:=hftG l b hb
   obtain⟨o,_,⟨e,t,xs,_,hr⟩ | ⟨t,y,b',arr,T,_,rfl,hh,_⟩⟩:=hrowAt l g hg
   ·exact hr.lt (fun x G c hR=>Deep.lt t hR) b hb
   ·obtain rfl:b=b':=by simpa using hb
    exact (Array.getElem?_eq_some_iff.1 hh).1
  ·obtain⟨g,hg,hb⟩:=hftG l b hb
   obtain⟨g',hg',hb'⟩:=hftG l' b hb'
   exact n2 _ _ _ _ _ hg hg' hb hb'
  ·simp only[g0,Gh.ext,Nat.not_lt_zero,if_false,Nat.sub_zero]
   split
   ·rename_i g hg; exact n1 _ g hg
   ·exact List.nodup_nil
  ·rcases hu with hu | hu
   ·exact hdis b (hftM l b hb) hu
   ·obtain⟨W,_,_,hgb⟩:=hgl
    exact (hgb b hu).1 (.inr (hftM l b hb))
  ·cases hg:G[l]? with
   | none=>
    have:(z4e s.ins x 0).2.length≤l:=by rw[hlenG]; simpa using hg
    rw[show obj (z4e s.ins x 0).2 l=.dead by simp[obj,List.getD,List.getElem?_eq_none this]]
    show g0.ft l=[]
    simp[g0,Gh.ext,hg]
   | some g=>
    obtain⟨q1,q2,q3⟩:=hg0 l g hg
    rw[Nat.zero_add] at q1 q2 q3
    obtain⟨o,ho,⟨e,t,xs,rfl,hr⟩ | ⟨t,y,b',arr,T,rfl,rfl,hh,hi⟩⟩:=hrowAt l g hg
    ·rw[show obj (z4e s.ins x 0).2 l=.row e t xs true [] by simp[obj,List.getD,ho]]
     show RowR _ _ _ _ (g0.hd l) (g0.ft l) xs
     rw[q1,q2]
     exact hr
    ·rw[show obj (z4e s.ins x 0).2 l=.box (z2k t y []) by simp[obj,List.getD,ho]]
     have q3:g0.bk l=b':=q3
     have q2:g0.ft l=[b']:=q2
     refine⟨by rw[q2,q3],arr,T,by rw[q3]; exact hh,z3t t (hi.sub fun b _ hb=>?_)⟩
     rcases hb with hb | ⟨l',_,hb⟩
     ·exact .inl hb
     ·exact .inr (hftM l' b hb)
  ·have h00:(z4e s.ins x 0).2.length=0:=h0
   have:G=[]:=List.eq_nil_of_length_eq_zero (by omega)
   rw[this] at hFm
   simp only[List.flatMap_nil] at hFm
   have hb:b∈Fm:=hb
   rw[hFm] at hb
   cases hb
 have hFmem:∀ b∈Fm,∃ l,l<(z4e s.ins x 0).2.length∧b∈g0.ft l:=by
  intro b hb
  rw[hFm] at hb
  obtain⟨g,hg,hb⟩:=List.mem_flatMap.1 hb
  obtain⟨l,hl,rfl⟩:=List.mem_iff_getElem.1 hg
  exact⟨l,by omega,by have:=(hg0 l G[l] (List.getElem?_eq_getElem hl)).2.1; rw[Nat.zero_add] at this; rw[this]; exact hb⟩
 refine calls_of_wp hf hb (z54 (C:=C) (r:=0) (f:=(z4e s.ins x 0).2.length) hE hcb hinl c ⟨rfl,rfl,Nat.zero_le _,Nat.le_refl _⟩ hRel hrun fun e st' gh' a' w' hI' h' hk=>?_)
 have main:(∃ j,e=.exit j)∨(a'.defers=[]∧∃ v,(results fn a'.tmps).run P w'=.ok v w'∧∃ vs Fd,Ending.returned v=.returned (zkz vs)∧FrQ (s.q=true) (·∈Fm) w w'∧Fd.Nodup∧(∀ b∈Fd,w.heap.size≤b) ∧
   zi4 w' (fun b=>U0 b∨b∈Fm∨b∈Fd) s.outs y.1 vs Fd∧zje w w' (fun b=>U0 b∨b∈Fm∨b∈Fd) s.ins x y.2 args):=by
  unfold retK at hk
  split at hk
  ·cases hk
  right
  split at hk
  ·rename_i y1 M B hret
   split at hk
   ·rename_i hc
    simp only[Bool.and_eq_true,List.all_eq_true,Bool.not_eq_true'] at hc
    split at hk
    ·rename_i z B2 hz
     split at hk
     case isFalse=>cases hk
     rename_i hc2
     simp only[List.all_eq_true,Bool.and_eq_true,Bool.not_eq_true'] at hc2
     simp only[Option.some.injEq] at hk
     subst hk
     obtain⟨vs,ht,hout⟩:=zjr hE h' s.outs hret
     have hfixft:∀ l,l<(z4e s.ins x 0).2.length→gh'.hd l=g0.hd l∧gh'.ft l=g0.ft l∧gh'.bk l=g0.bk l:=fun l hl=>by
      have:=h'.fix l (by rw[hI'.fx]; exact hl)
      exact⟨this.1,this.2.2,this.2.1⟩
     have hnlt:∀ {a b:Nat},Nat.blt a b=false→b≤a:=fun {a b} h=>Nat.not_lt.1 fun hl=>by
      have:Nat.blt a b=true:=by simpa using hl
      rw[h] at this; cases this
     have hUB:∀ Bx:List Nat,(∀ l∈Bx,has M l=false∧Nat.blt l st'.fx=false)→∀ b,(U0 b∨b∈Fm∨b∈M.flatMap gh'.ft)→UU U0 gh' Bx b:=by
      intro Bx hBx b hb
      rcases hb with hb | hb | hb
      ·exact .inl hb
      ·obtain⟨l',hl',hbl'⟩:=hFmem b hb
       rw[←(hfixft l' hl').2.1] at hbl'
       refine .inr ⟨l',?_,hbl'⟩
       cases hh:has Bx l' with
       | false=>rfl
       | true=>
        have:=hnlt (hBx l' (z8w.1 hh)).2
        rw[hI'.fx] at this
        omega
      ·obtain⟨l,hl,hbl⟩:=List.mem_flatMap.1 hb
       refine .inr ⟨l,?_,hbl⟩
       cases hh:has Bx l with
       | false=>rfl
       | true=>
        have h2:=(hBx l (z8w.1 hh)).1
        rw[z8w.2 hl] at h2
        cases h2
     refine⟨h'.df,_,zge ht,_,M.flatMap gh'.ft,rfl,h'.fr,y08 h' (zd2 hc.1.1),fun b hb=>?_,hout _ fun b _ hb=>?_,?_⟩
     ·obtain⟨l,hl,hbl⟩:=List.mem_flatMap.1 hb
      rcases h'.own l b (by rw[hI'.ro]; exact Nat.zero_le _) hbl with h1 | h1
      ·exact h1
      ·exfalso
       obtain⟨l',hl',hbl'⟩:=hFmem b h1
       rw[←(hfixft l' hl').2.1] at hbl'
       have:=h'.dj _ _ _ hbl hbl'
       subst this
       have:=hnlt (hc.2 l hl).2
       rw[hI'.fx] at this
       omega
     ·exact hUB B hc.1.2 b hb
     ·exact hback w' g0 gh' st'.objs (z4e s.ins x 0).2.length z B2 _ hg0 (by omega) hfixft (fun l e t ys L ho=>by
       have:=h'.objs l
       rw[ho] at this
       exact this) (fun l ls t y L ho hgi=>by
       have:=h'.objs l
       rw[ho] at this
       obtain⟨b1,arr,T,b2,b3⟩:=this
       obtain⟨v1,v2,he,hi,h2⟩:=z58 h'.dj h'.sep0 h'.lt h'.objs t b3 hgi
       obtain rfl:=h2.nil_right
       rw[List.append_nil] at he
       exact⟨arr,T,b2,by rw[he]; exact hi⟩) hz fun b _ hu=>hUB B2 hc2 b hu
    ·cases hk
   ·cases hk
  ·cases hk
 rcases main with ⟨j,rfl⟩ | ⟨h1,v,h2,h3⟩
 ·simp[retK] at hk
 ·cases e with
  | normal=>exact⟨h1,v,h2,h3⟩
  | ret=>exact⟨h1,v,h2,h3⟩
  | exit j=>simp[retK] at hk
end Go.AM
