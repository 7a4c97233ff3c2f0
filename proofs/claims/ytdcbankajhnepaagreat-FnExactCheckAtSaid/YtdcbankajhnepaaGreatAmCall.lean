/- Calls of functions of which something is said, and of closures. No condition. -/
import Derived.Test.YtdcbankajhnepaaGreatAmOps5
set_option linter.unusedVariables false
set_option linter.unusedSimpArgs false
namespace Go.AM
def zrw (w:World) (o:AObj) (g:Value×List Nat):Prop:=∃ e t xs,o=.row e t xs true []∧RowR (Deep t w) w e t.size g.1 g.2 xs
theorem zdf {w:World}:∀ (t:Ty) {x:t.den} {F:List Nat} {cs:List Value} (n:Nat),Deep t w x F cs →
  ∃ G:List (Value×List Nat),All2 (zrw w) (z02 t x n).2 G∧F=G.flatMap (·.2) ∧
   ∀ (C:Ctx) (gh:Gh) (os:Objs),(∀ j g,G[j]? = some g→gh.hd (n+j)=g.1)→(∀ j o,(z02 t x n).2[j]? = some o→obj os (n+j)=o)→All2 (LeafOk C w gh os) (z02 t x n).1 cs
 | .int k,x,F,cs,n,h=>by obtain⟨rfl,rfl⟩:=h; exact⟨[],trivial,rfl,fun C gh os _ _=>⟨z0j rfl rfl,trivial⟩⟩
 | .bool,x,F,cs,n,h=>by obtain⟨rfl,rfl⟩:=h; exact⟨[],trivial,rfl,fun C gh os _ _=>⟨z0j rfl rfl,trivial⟩⟩
 | .str,x,F,cs,n,h=>by obtain⟨rfl,rfl⟩:=h; exact⟨[],trivial,rfl,fun C gh os _ _=>⟨z0j rfl rfl,trivial⟩⟩
 | .unit,x,F,cs,n,h=>by obtain⟨rfl,rfl⟩:=h; exact⟨[],trivial,rfl,fun C gh os _ _=>trivial⟩
 | .slice e t,x,F,cs,n,h=>by
  have hone:=Deep.one _ h
  obtain⟨v,rfl,hr⟩:=h
  refine⟨[(v,F)],⟨⟨e,t,x,rfl,hr⟩,trivial⟩,by simp,fun C gh os hg ho=>⟨⟨⟨?_,e,t,x,true,[],?_⟩,fun _=>hone v (by simp)⟩,trivial⟩⟩
  ·have:=hg 0 _ rfl; simpa using this.symm
  ·have:=ho 0 _ rfl; simpa using this
 | .pair a b,x,F,cs,n,h=>by
  obtain⟨F1,F2,c1,c2,rfl,rfl,h1,h2⟩:=h
  obtain⟨G1,g1,g2,g3⟩:=zdf a n h1
  obtain⟨G2,k1,k2,k3⟩:=zdf b (n+(z02 a x.1 n).2.length) h2
  have hl:=g1.len
  refine⟨G1++G2,g1.app k1,by rw[g2,k2,List.flatMap_append],fun C gh os hg ho=>(g3 C gh os (fun j g hj=>?_) (fun j o hj=>?_)).app (k3 C gh os (fun j g hj=>?_) (fun j o hj=>?_))⟩
  ·exact hg j g (by rw[List.getElem?_append_left (List.getElem?_eq_some_iff.1 hj).1]; exact hj)
  ·exact ho j o (by simp only[z02]; rw[List.getElem?_append_left (List.getElem?_eq_some_iff.1 hj).1]; exact hj)
  ·have:=hg ((z02 a x.1 n).2.length+j) g (by rw[List.getElem?_append_right (by omega),hl,Nat.add_sub_cancel_left]; exact hj)
   rw[Nat.add_assoc]; exact this
  ·have:=ho ((z02 a x.1 n).2.length+j) o (by simp only[z02]; rw[List.getElem?_append_right (by omega),Nat.add_sub_cancel_left]; exact hj)
   rw[Nat.add_assoc]; exact this
theorem z85 {C:Ctx} {w:World} {U:Nat→Prop} {L:List Nat}:∀ (ps:List POut) {y:z4z ps} {vs:List Value} {F:List Nat} (n:Nat),zi4 w U ps y vs F →
  ∃ G:List (Value×List Nat),All2 (zrw w) (z0e L ps y n).2 G∧F=G.flatMap (·.2) ∧
   ∀ (gh:Gh) (os:Objs),(∀ j g,G[j]? = some g→gh.hd (n+j)=g.1)→(∀ j o,(z0e L ps y n).2[j]? = some o→obj os (n+j)=o)→(∀ b,b<w.heap.size→UU C.U0 gh L b→U b) →
    zjm (LeafOk C w gh os) (z0e L ps y n).1 vs
 | [],y,vs,F,n,h=>by obtain⟨rfl,rfl⟩:=h; exact⟨[],trivial,rfl,fun gh os _ _ _=>trivial⟩
 | .imm b t::ps,y,vs,F,n,h=>by
  obtain⟨v,cs,r,rfl,hp,hi,hr⟩:=h
  obtain⟨G,g1,g2,g3⟩:=z85 (C:=C) ps n hr
  exact⟨G,g1,g2,fun gh os hg ho hU=>⟨⟨cs,hp,z3t t (hi.sub hU)⟩,g3 gh os hg ho hU⟩⟩
 | .deep b t::ps,y,vs,F,n,h=>by
  obtain⟨v,cs,r,F1,F2,rfl,hp,hd,rfl,hr⟩:=h
  obtain⟨G1,g1,g2,g3⟩:=zdf t n hd
  obtain⟨G2,k1,k2,k3⟩:=z85 (C:=C) ps (n+(z02 t y.1 n).2.length) hr
  have hl:=g1.len
  refine⟨G1++G2,g1.app k1,by rw[g2,k2,List.flatMap_append],fun gh os hg ho hU=>⟨⟨cs,hp,g3 C gh os (fun j g hj=>?_) (fun j o hj=>?_)⟩,k3 gh os (fun j g hj=>?_) (fun j o hj=>?_) hU⟩⟩
  ·exact hg j g (by rw[List.getElem?_append_left (List.getElem?_eq_some_iff.1 hj).1]; exact hj)
  ·exact ho j o (by simp only[z0e]; rw[List.getElem?_append_left (List.getElem?_eq_some_iff.1 hj).1]; exact hj)
  ·have:=hg ((z02 t y.1 n).2.length+j) g (by rw[List.getElem?_append_right (by omega),hl,Nat.add_sub_cancel_left]; exact hj)
   rw[Nat.add_assoc]; exact this
  ·have:=ho ((z02 t y.1 n).2.length+j) o (by simp only[z0e]; rw[List.getElem?_append_right (by omega),Nat.add_sub_cancel_left]; exact hj)
   rw[Nat.add_assoc]; exact this
theorem zoh {w:World} {U V:Nat→Prop}:∀ (ps:List POut) {y:z4z ps} {vs:List Value} {F:List Nat},zi4 w U ps y vs F→(∀ b,b<w.heap.size→V b→U b)→(∀ b∈F,¬V b)→zi4 w V (zbn ps) (zvy ps y) vs []
 | [],y,vs,F,h,_,_=>⟨h.1,rfl⟩
 | .imm b t::ps,y,vs,F,h,hV,hF=>by
  obtain⟨v,cs,r,rfl,hp,hi,hr⟩:=h
  exact⟨v,cs,r,rfl,hp,hi.sub hV,zoh ps hr hV hF⟩
 | .deep b t::ps,y,vs,F,h,hV,hF=>by
  obtain⟨v,cs,r,F1,F2,rfl,hp,hd,rfl,hr⟩:=h
  exact⟨v,cs,r,rfl,hp,ImmS.ofDeep hd fun b hb=>hF b (by simp[hb]),zoh ps hr hV fun b hb=>hF b (by simp[hb])⟩
theorem zco {R:Leaf→Value→Prop} {ls:List (Bool×List Leaf)} {vs:List Value} (h:zjm R ls vs) (h1:∀ p,ls=[p]→p.2.length=1∨p.1=true):SVOk R (zcp ls) (zkz vs):=by
 match ls,vs,h with
 | [],[],_=>exact⟨[],rfl,trivial⟩
 | [p],[v],h=>
  obtain⟨⟨us,hp,hu⟩,_⟩:=h
  exact zc0 hp hu (h1 p rfl)
 | p::q::r,v::u::s,h=>exact⟨_,rfl,h⟩
 | [p],v::u::s,h=>exact h.2.elim
 | p::q::r,[v],h=>exact h.2.elim
section
variable {C:Ctx} {st:St} {gh:Gh} {a:Act} {w:World}
def bkOf:Value→Nat
 | .pointer (some a)=>a.block
 | _=>0
def Gh.ext (gh:Gh) (n:Nat) (G:List (Value×List Nat)):Gh:=
 {hd:=fun k=>if k<n then gh.hd k else match G[k - n]? with | some g=>g.1 | none=>.slice none 0 0,
  bk:=fun k=>if k<n then gh.bk k else match G[k - n]? with | some g=>bkOf g.1 | none=>0,
  ft:=fun k=>if k<n then gh.ft k else match G[k - n]? with | some g=>g.2 | none=>[] }
theorem Gh.ext_same (gh:Gh) (n:Nat) (G:List (Value×List Nat)):∀ k,k<n→(gh.ext n G).hd k=gh.hd k∧(gh.ext n G).bk k=gh.bk k∧(gh.ext n G).ft k=gh.ft k:=fun k hk=>by simp[Gh.ext,hk]
theorem Gh.ext_new {gh:Gh} {n m:Nat} {G:List (Value×List Nat)} (hf:∀ b∈G.flatMap (·.2),m≤b):∀ k b,n≤k→b∈(gh.ext n G).ft k→m≤b:=by
 intro k b hk hb
 simp only[Gh.ext,show ¬k<n by omega,if_false] at hb
 split at hb
 ·rename_i g hg; exact hf b (List.mem_flatMap.2 ⟨g,List.mem_of_getElem? hg,hb⟩)
 ·cases hb
theorem zda {G:List (Value×List Nat)} (h:(G.flatMap (·.2)).Nodup):(∀ (i:Nat) g,G[i]? = some g→g.2.Nodup)∧∀ (i j:Nat) g k b,G[i]? = some g→G[j]? = some k→b∈g.2→b∈k.2→i=j:=by
 induction G with
 | nil=>simp
 | cons p G ih=>
  rw[List.flatMap_cons,List.nodup_append] at h
  obtain⟨h1,h2,h3⟩:=h
  obtain⟨i1,i2⟩:=ih h2
  refine⟨fun i g hi=>?_,fun i j g k b hi hj hb hb'=>?_⟩
  ·cases i with
   | zero=>simp at hi; subst hi; exact h1
   | succ i=>exact i1 i g (by simpa using hi)
  ·cases i with
   | zero=>
    cases j with
    | zero=>rfl
    | succ j=>
     simp at hi hj; subst hi
     exact absurd rfl (h3 b hb b (List.mem_flatMap.2 ⟨k,List.mem_of_getElem? hj,hb'⟩))
   | succ i=>
    cases j with
    | zero=>
     simp at hi hj; subst hj
     exact absurd rfl (h3 b hb' b (List.mem_flatMap.2 ⟨g,List.mem_of_getElem? hi,hb⟩))
    | succ j=>rw[i2 i j g k b (by simpa using hi) (by simpa using hj) hb hb']
theorem Rel.newRows (h:Rel C st gh a w) {new:Objs} {G:List (Value×List Nat)} {w':World} (hfx:st.fx≤st.objs.length) (hw:FrQ (C.Γ.q=true) (fun _=>False) w w') (hG:All2 (zrw w') new G) (hn:(G.flatMap (·.2)).Nodup) (hf:∀ b∈G.flatMap (·.2),w.heap.size≤b):
  Rel C { st with objs:=st.objs++new } (gh.ext st.objs.length G) a w':=by
 obtain⟨n1,n2⟩:=zda hn
 have hftl:∀ l b,st.objs.length≤l→b∈(gh.ext st.objs.length G).ft l→∃ g,G[l - st.objs.length]? = some g∧b∈g.2:=by
  intro l b hl hb
  simp only[Gh.ext,show ¬l<st.objs.length by omega,if_false] at hb
  split at hb
  ·rename_i g hg; exact⟨g,hg,hb⟩
  ·cases hb
 have hrow:∀ l g,G[l - st.objs.length]? = some g→∃ o,new[l - st.objs.length]? = some o∧zrw w' o g:=by
  intro l g hg
  have hl:=hG.len
  have hlt:l - st.objs.length<new.length:=by rw[hl]; exact (List.getElem?_eq_some_iff.1 hg).1
  obtain⟨g',hg',hr⟩:=hG.get (List.getElem?_eq_getElem hlt)
  rw[hg] at hg'
  simp only[Option.some.injEq] at hg'
  subst hg'
  exact⟨_,List.getElem?_eq_getElem hlt,hr⟩
 refine h.grow new hw (fun l hl=>?_) (fun l b hl hb=>?_) (fun l l' b hl hl' hb hb'=>?_) (fun l hl=>?_) (fun l hl=>?_) hfx
 ·simp[Gh.ext,hl]
 ·obtain⟨g,hg,hb⟩:=hftl l b hl hb
  refine⟨hf b (List.mem_flatMap.2 ⟨g,List.mem_of_getElem? hg,hb⟩),?_⟩
  obtain⟨o,_,e,t,xs,_,hr⟩:=hrow l g hg
  exact hr.lt (fun x G c hR=>Deep.lt t hR) b hb
 ·obtain⟨g,hg,hb⟩:=hftl l b hl hb
  obtain⟨g',hg',hb'⟩:=hftl l' b hl' hb'
  have:=n2 _ _ _ _ _ hg hg' hb hb'
  omega
 ·simp only[Gh.ext,show ¬l<st.objs.length by omega,if_false]
  split
  ·rename_i g hg; exact n1 _ g hg
  ·exact List.nodup_nil
 ·cases hg:G[l - st.objs.length]? with
  | none=>
   have hlen:=hG.len
   have:new.length≤l - st.objs.length:=by rw[hlen]; simpa using hg
   rw[show obj (st.objs++new) l=.dead by simp[obj,List.getD,List.getElem?_append,show ¬l<st.objs.length by omega,List.getElem?_eq_none this]]
   show (gh.ext _ _).ft l=[]
   simp[Gh.ext,show ¬l<st.objs.length by omega,hg]
  | some g=>
   obtain⟨o,ho,e,t,xs,rfl,hr⟩:=hrow l g hg
   rw[show obj (st.objs++new) l=.row e t xs true [] by simp[obj,List.getD,List.getElem?_append,show ¬l<st.objs.length by omega,ho]]
   show RowR _ _ _ _ ((gh.ext _ _).hd l) ((gh.ext _ _).ft l) xs
   simp only[Gh.ext,show ¬l<st.objs.length by omega,if_false,hg]
   exact hr
theorem y19 (h:Rel C st gh a w) {L:List Nat} (hL:∀ l,l<st.objs.length→has L l=true):UU C.U0 gh L=C.U0:=by
 funext b
 apply propext
 constructor
 ·rintro (hu | ⟨l,hl,hb⟩)
  ·exact hu
  ·by_cases hlt:l<st.objs.length
   ·rw[hL l hlt] at hl; cases hl
   ·rw[z6f h (by omega)] at hb; cases hb
 ·exact fun hu=>.inl hu
def zmu (gh:Gh) (caps:List (Nat×Nat)):Array Value:=(caps.map fun p=>Value.pointer (some ⟨gh.bk p.1,p.2,none⟩)).toArray
def CBOk (P:Program) (Γ:Facts) (cb:CB):Prop:=∀ (C:Ctx) (st:St) (gh:Gh) (a:Act) (w:World),C.P=P→C.Γ=Γ→Rel C st gh a w→st.fx=0→∀ g caps gs r,(∀ p∈caps,∃ cs,obj st.objs p.1=.box cs) →
 ztj P (.func (.func g) #[] (zmu gh caps)) gs r (cb g caps st.objs gs r) w C.U0
theorem za2 {R:Leaf→Value→Prop} {v:SV} {x:Value} (h:SVOk R v x) {b:Bool} {ls:List Leaf} (hl:v.leaves=some (b,ls)):∃ cs,zci b cs x∧All2 R ls cs:=by
 cases v with
 | one c=>
  simp only[SV.leaves,Option.some.injEq,Prod.mk.injEq] at hl
  obtain⟨rfl,rfl⟩:=hl
  exact⟨[x],rfl,h,trivial⟩
 | agg cs=>
  simp only[SV.leaves,Option.some.injEq,Prod.mk.injEq] at hl
  obtain⟨rfl,rfl⟩:=hl
  exact h
 | tup vs=>cases hl
theorem zls {n l:Nat} (h:l<n):has (List.range n) l=true:=z8w.2 (List.mem_range.2 h)
theorem zm7 (h:Rel C st gh a w) (hfx:st.fx=0) {v:Value} {gs:List (Bool×Ty)} {r:Ty} {p:zca gs→Option r.den} (hc:ztj C.P v gs r p C.w0 C.U0):ztj C.P v gs r p w C.U0:=by
 obtain⟨g,caps,hv,hW⟩:=hc
 have hfr:=h.fr
 refine⟨g,caps,hv,fun W hs hb=>hW W (by have:=hfr.size; omega) fun b hlt hu=>?_⟩
 rw[hb b (by have:=hfr.size; omega) hu]
 exact hfr.block b hlt (h.fm hfx b)
theorem zhx {cb:CB} (hcb:CBOk C.P C.Γ cb) (h:Rel C st gh a w) {Lt:List Nat}:∀ (ps:List PIn) {vs:List SV} {args:List Value} {x:z6e ps} {L W:List Nat},All2 (SVOk (LeafOk C w gh st.objs)) vs args→z05 cb st.objs ps vs=some (x,L,W) →
  (∀ p∈ps,p.isMut=false)→(∀ p∈ps,p.isClo=true→st.fx=0)→(∀ l,has L l=true→has Lt l=true)→zpi C.P w (UU C.U0 gh Lt) [] ps x args []
 | [],vs,args,x,L,W,ha,hg,_,_,_=>by
  cases vs with
  | nil=>cases args with
   | nil=>exact⟨rfl,rfl⟩
   | cons _ _=>exact ha.elim
  | cons _ _=>simp[z05] at hg
 | .imm b t::ps,vs,args,x,L,W,ha,hg,hm,hc,hL=>by
  cases vs with
  | nil=>simp[z05] at hg
  | cons v vs=>
   cases args with
   | nil=>exact ha.elim
   | cons y args=>
    simp only[z05] at hg
    split at hg
    ·rename_i b' ls hls
     split at hg
     ·rename_i hb
      simp only[beq_iff_eq] at hb
      subst hb
      split at hg
      ·rename_i z L1 hgi
       split at hg
       ·rename_i q M W' hr
        simp only[Option.some.injEq,Prod.mk.injEq] at hg
        obtain⟨rfl,rfl,rfl⟩:=hg
        obtain⟨cs,hp,hcs⟩:=za2 ha.1 hls
        obtain⟨v1,v2,rfl,hi,h2⟩:=z58 h.dj h.sep0 h.lt h.objs t hcs hgi
        cases v2 with
        | cons _ _=>exact h2.elim
        | nil=>
         rw[List.append_nil] at hp
         refine⟨y,v1,args,rfl,hp,hi.sub fun b _ hb=>?_,zhx hcb h ps ha.2 hr (fun p hp=>hm p (by simp[hp])) (fun p hp=>hc p (by simp[hp])) fun l hl=>hL l (by simp[z2o,hl])⟩
         rcases hb with hb | hb
         ·exact UU.mono (fun l hl=>hL l (by simp[z2o,hl])) hb
         ·cases hb
       ·cases hg
      ·cases hg
     ·cases hg
    ·cases hg
 | .ptr t::ps,vs,args,x,L,W,ha,hg,hm,hc,hL=>by
  have:=hm (.ptr t) (by simp)
  simp[PIn.isMut] at this
 | .mut b t::ps,vs,args,x,L,W,ha,hg,hm,hc,hL=>by
  have:=hm (.mut b t) (by simp)
  simp[PIn.isMut] at this
 | .clo gs r::ps,vs,args,x,L,W,ha,hg,hm,hc,hL=>by
  have hfx:=hc (.clo gs r) (by simp) rfl
  cases vs with
  | nil=>simp[z05] at hg
  | cons v vs=>
   cases args with
   | nil=>exact ha.elim
   | cons y args=>
    cases v with
    | agg _=>simp[z05] at hg
    | tup _=>simp[z05] at hg
    | one lf=>
    cases lf with
    | fn g caps=>
     simp only[z05] at hg
     split at hg
     ·rename_i q M W' hr
      simp only[Option.some.injEq,Prod.mk.injEq] at hg
      obtain⟨rfl,rfl,rfl⟩:=hg
      obtain⟨hval,hbox⟩:=ha.1.1
      have hU:UU C.U0 gh Lt=C.U0:=y19 h fun l hl=>hL l (by simp[z2o,zls hl])
      refine⟨y,args,rfl,?_,rfl,zhx hcb h ps ha.2 hr (fun p hp=>hm p (by simp[hp])) (fun p hp=>hc p (by simp[hp])) fun l hl=>hL l (by simp[z2o,hl])⟩
      rw[hU,hval]
      exact hcb C st gh a w rfl rfl h hfx g caps _ _ hbox
     ·cases hg
    | clo gs'' r'' p=>
     simp only[z05] at hg
     split at hg
     ·rename_i heq
      split at hg
      ·rename_i q M W' hr
       simp only[Option.some.injEq,Prod.mk.injEq] at hg
       obtain⟨rfl,rfl,rfl⟩:=hg
       obtain⟨rfl,rfl⟩:=heq
       have hU:UU C.U0 gh Lt=C.U0:=y19 h fun l hl=>hL l (by simp[z2o,zls hl])
       refine⟨y,args,rfl,?_,rfl,zhx hcb h ps ha.2 hr (fun p hp=>hm p (by simp[hp])) (fun p hp=>hc p (by simp[hp])) fun l hl=>hL l (by simp[z2o,hl])⟩
       rw[hU]
       exact zm7 h hfx ha.1.1
      ·cases hg
     ·cases hg
    | _=>simp[z05] at hg
theorem zjb (h:Rel C st gh a w) (xs:List Operand):All2 (SVOk (LeafOk C w gh st.objs)) (xs.map st.ev) (xs.map a.eval):=by
 induction xs with
 | nil=>trivial
 | cons x xs ih=>exact⟨h.ev x,ih⟩
theorem zog {w:World} {U:Nat→Prop} {L:List Nat}:∀ (ps:List POut) {y:z4z ps} {vs:List Value} {F:List Nat} (n:Nat),zi4 w U ps y vs F→∀ p,(z0e L ps y n).1=[p]→p.2.length=1∨p.1=true
 | [],y,vs,F,n,h,p,he=>by simp[z0e] at he
 | .imm b t::ps,y,vs,F,n,h,p,he=>by
  obtain⟨v,cs,r,rfl,hp,hi,hr⟩:=h
  simp only[z0e,List.cons.injEq] at he
  obtain⟨rfl,_⟩:=he
  cases b with
  | true=>exact .inr rfl
  | false=>
   left
   obtain rfl:cs=[v]:=hp
   have hl:=Rep.len t hi.rep
   have:∀ (t:Ty) (x:t.den),(z2k t x L).length=t.size:=by
    intro t
    induction t with
    | pair a b iha ihb=>intro x; simp[z2k,Ty.size,iha,ihb]
    | _=>intro x; simp[z2k,Ty.size]
   rw[this,←hl]
   rfl
 | .deep b t::ps,y,vs,F,n,h,p,he=>by
  obtain⟨v,cs,r,F1,F2,rfl,hp,hd,rfl,hr⟩:=h
  simp only[z0e,List.cons.injEq] at he
  obtain⟨rfl,_⟩:=he
  cases b with
  | true=>exact .inr rfl
  | false=>
   left
   obtain rfl:cs=[v]:=hp
   have hl:=Deep.len t hd
   have:∀ (t:Ty) (x:t.den) (n:Nat),(z02 t x n).1.length=t.size:=by
    intro t
    induction t with
    | pair a b iha ihb=>intro x n; simp[z02,Ty.size,iha,ihb]
    | _=>intro x n; simp[z02,Ty.size]
   rw[this,←hl]
   rfl
theorem zae {o:Oper} (h:Rel C st gh a w) {c:Call} {f:Operand} (ho:o.op=.call c) (hc:c.callee=.value f) {g:FuncId} {caps:Array Value} (hf:a.eval f=.func (.func g) #[] caps) (hen:z1m C.P g):
  (execOp a.eval o).run C.P w=.ok (.enter g ((c.args.toList.map a.eval).toArray++caps)) w:=by
 have:c.args.map a.eval=(c.args.toList.map a.eval).toArray:=by apply Array.ext'; simp
 simp only[execOp,ho,resolve,hc,hf,Deferred.ofValue,Sem.run_bind,Sem.run_pure,Result.andThen_ok,invoke,this]
 simpa using hen _ w
theorem zzs {E:Env} (hE:EnvOk C.P C.Γ E) {cb:CB} (hcb:CBOk C.P C.Γ cb) {o:Oper} (h:Rel C st gh a w) (hfx:st.fx≤st.objs.length) {c:Call} {f:Operand} (ho:o.op=.call c) (hc:c.callee=.value f) {g:FuncId} (hf:(st.ev f).leaf=.fn g []) {s:FSpec} (hs:z4i E.sig g=some s)
  (hm:s.ins.any PIn.isMut=false) (hclo:s.ins.any PIn.isClo=true→st.fx=0) {v:SV} {new:Objs} {im:Bool} (hr:(ztf im cb st.objs s (c.args.toList.map st.ev)).run some=some (v,new)) {next:Act→World→Prop} {Q:Exit→Act→World→Prop}
  (hn:∀ x gh' w',Grow C st gh w gh' w'→Rel C { st with objs:=st.objs++new } gh' a w'→SVOk (LeafOk C w' gh' (st.objs++new)) v x→next (a.put o.dst x) w'):o.wp C.P a w next Q:=by
 obtain⟨hen,hF,hsq⟩:=hE.sig _ _ hs
 have hfv:=h.leaf f
 rw[hf] at hfv
 have hfv:a.eval f=.func (.func g) #[] #[]:=by simpa using hfv.1.1
 unfold ztf at hr
 split at hr
 ·cases hr
 ·rename_i x L W hg
  simp only[Tree.run] at hr
  cases hy:s.fn x with
  | none=>rw[hy] at hr; cases hr
  | some y=>
   rw[hy] at hr
   simp only[Option.bind_some] at hr
   have hins:=zhx hcb h (Lt:=L) s.ins (zjb h c.args.toList) hg (fun p hp=>by
     have:=List.any_eq_false.1 hm p hp; simpa using this) (fun p hp hpc=>hclo (List.any_eq_true.2 ⟨p,hp,hpc⟩)) fun l hl=>hl
   have hcalls:=hF x _ w (UU C.U0 gh L) [] (fun b hb=>by
    rcases hb with hb | ⟨l,_,hb⟩
    ·have:=h.u0 b (.inl hb); have:=h.fr.size; omega
    ·exact h.lt _ _ hb) hins List.nodup_nil (by simp) (h.glob (by simp)) y hy
   unfold Oper.wp
   rw[zae h ho hc hfv hen]
   simp only[Oper.upon]
   rw[show (c.args.toList.map a.eval).toArray++#[]=(c.args.toList.map a.eval).toArray by simp]
   refine hcalls.mono ?_
   rintro e w' ⟨vs,Fd,rfl,hfr,hnd,hfd,houts,_⟩
   have hfr':FrQ (C.Γ.q=true) (fun _=>False) w w':=⟨hfr.os,hfr.tape,hfr.output,hfr.size,fun k hk _=>hfr.block k hk (by simp),fun hq=>hfr.drawn (hsq hq)⟩
   cases im with
   | true=>
    simp only[Tree.run,Option.some.injEq,Prod.mk.injEq] at hr
    obtain⟨rfl,rfl⟩:=hr
    have hrel:=h.newRows (new:=[]) (G:=[]) hfx hfr' trivial (by simp) (by simp)
    have houts':=zoh (V:=UU C.U0 gh L) s.outs houts (fun b _ hb=>.inl hb) (fun b hb hu=>by
     have h1:=hfd b hb
     rcases hu with hu | ⟨l,_,hu⟩
     ·have:=h.u0 b (.inl hu); have:=h.fr.size; omega
     ·have:=h.lt _ _ hu; omega)
    obtain⟨G,hG,hF0,hleaf⟩:=z85 (C:=C) (L:=L) (zbn s.outs) 0 houts'
    have hnil:(z0e L (zbn s.outs) (zvy s.outs y.1) 0).2=[]:=by
     have:∀ (ps:List POut) (z:z4z (zbn ps)) (n:Nat),(z0e L (zbn ps) z n).2=[]:=by
      intro ps
      induction ps with
      | nil=>intro z n; rfl
      | cons p ps ih=>intro z n; cases p<;>exact ih z.2 n
     exact this _ _ _
    rw[hnil] at hG hleaf
    have hG0:G=[]:=by
     cases G with
     | nil=>rfl
     | cons _ _=>exact hG.elim
    refine hn _ _ _ ⟨hfr',Gh.ext_same _ _ _,Gh.ext_new (G:=[]) (by simp)⟩ hrel (zco (hleaf _ _ (fun j g hj=>by rw[hG0] at hj; simp at hj) (fun j o hj=>by simp at hj) fun b hb hu=>?_) (zog (zbn s.outs) 0 houts'))
    rcases hu with hu | ⟨l,hl,hb'⟩
    ·exact .inl hu
    ·by_cases hlt:l<st.objs.length
     ·simp only[Gh.ext,hlt,if_true] at hb'
      exact .inr ⟨l,hl,hb'⟩
     ·simp[Gh.ext,hlt] at hb'
   | false=>
   simp only[Tree.run,Option.some.injEq,Prod.mk.injEq] at hr
   obtain⟨rfl,rfl⟩:=hr
   obtain⟨G,hG,rfl,hleaf⟩:=z85 (C:=C) (L:=L) s.outs st.objs.length houts
   have hrel:=h.newRows hfx hfr' hG hnd hfd
   refine hn _ _ _ ⟨hfr',Gh.ext_same _ _ _,Gh.ext_new hfd⟩ hrel (zco (hleaf _ _ (fun j g hj=>?_) (fun j o hj=>?_) fun b hb hu=>?_) (zog s.outs st.objs.length houts))
   ·simp only[Gh.ext,show ¬st.objs.length+j<st.objs.length by omega,if_false,Nat.add_sub_cancel_left,hj]
   ·simp only[obj,List.getD,List.getElem?_append,show ¬st.objs.length+j<st.objs.length by omega,if_false,Nat.add_sub_cancel_left,hj,Option.getD_some]
   ·rcases hu with hu | ⟨l,hl,hb'⟩
    ·exact .inl (.inl hu)
    ·by_cases hlt:l<st.objs.length
     ·simp only[Gh.ext,hlt,if_true] at hb'
      exact .inl (.inr ⟨l,hl,hb'⟩)
     ·simp only[Gh.ext,hlt,if_false] at hb'
      split at hb'
      ·rename_i g hg; exact .inr (.inr (List.mem_flatMap.2 ⟨g,List.mem_of_getElem? hg,hb'⟩))
      ·cases hb'
theorem zyt (h:Rel C st gh a w):∀ (gs:List (Bool×Ty)) {vs:List SV} {args:List Value} {x:zca gs},All2 (SVOk (LeafOk C w gh st.objs)) vs args→zd9 st.objs gs vs=some x→zi5 C.U0 gs x args w
 | [],vs,args,x,ha,hg=>by
  cases vs with
  | nil=>cases args with
   | nil=>exact rfl
   | cons _ _=>exact ha.elim
  | cons _ _=>simp[zd9] at hg
 | (b,t)::gs,vs,args,x,ha,hg=>by
  cases vs with
  | nil=>simp[zd9] at hg
  | cons v vs=>
   cases args with
   | nil=>exact ha.elim
   | cons y args=>
    simp only[zd9] at hg
    split at hg
    ·rename_i b' ls hls
     split at hg
     ·rename_i hb
      simp only[beq_iff_eq] at hb
      subst hb
      split at hg
      ·rename_i z L1 hgi
       split at hg
       ·rename_i q hr
        simp only[Option.some.injEq] at hg
        subst hg
        obtain⟨cs,hp,hcs⟩:=za2 ha.1 hls
        obtain⟨v1,v2,rfl,hi,h2⟩:=z58 h.dj h.sep0 h.lt h.objs t hcs hgi
        cases v2 with
        | cons _ _=>exact h2.elim
        | nil=>
         rw[List.append_nil] at hp
         exact⟨y,v1,args,rfl,hp,hi.sub fun b _ hb=>.inl hb,zyt h gs ha.2 hr⟩
       ·cases hg
      ·cases hg
     ·cases hg
    ·cases hg
theorem zuz {o:Oper} (h:Rel C st gh a w) (hfx:st.fx=0) {c:Call} {f:Operand} (ho:o.op=.call c) (hc:c.callee=.value f) {gs:List (Bool×Ty)} {r:Ty} {p:zca gs→Option r.den} (hf:(st.ev f).leaf=.clo gs r p)
  {v:SV} {new:Objs} (hr:(zpd st.objs gs r p (c.args.toList.map st.ev)).run some=some (v,new)) {next:Act→World→Prop} {Q:Exit→Act→World→Prop}
  (hn:∀ x gh' w',Grow C st gh w gh' w'→Rel C { st with objs:=st.objs++new } gh' a w'→SVOk (LeafOk C w' gh' (st.objs++new)) v x→next (a.put o.dst x) w'):o.wp C.P a w next Q:=by
 have hfv:=h.leaf f
 rw[hf] at hfv
 obtain⟨g,caps,hval,hW⟩:=zm7 h hfx hfv.1
 unfold zpd at hr
 split at hr
 ·rename_i x hx
  simp only[Tree.run] at hr
  cases hy:p x with
  | none=>rw[hy] at hr; cases hr
  | some y=>
   rw[hy] at hr
   simp only[Option.bind_some] at hr
   obtain⟨hen,hcalls⟩:=hW w (Nat.le_refl _) (fun _ _ _=>rfl) x y _ (zyt h gs (zjb h c.args.toList) hx) hy
   split at hr
   ·rename_i hflat
    split at hr
    ·rename_i lf hex
     simp only[Tree.run,Option.some.injEq,Prod.mk.injEq] at hr
     obtain⟨rfl,rfl⟩:=hr
     unfold Oper.wp
     rw[zae h ho hc hval hen]
     simp only[Oper.upon]
     refine hcalls.mono ?_
     rintro e w' ⟨cv,rfl,hrep,hfr⟩
     have hrel:=h.newRows (new:=[]) (G:=[]) (by omega) hfr.any trivial (by simp) (by simp)
     refine hn _ _ _ ⟨hfr.any,Gh.ext_same _ _ _,Gh.ext_new (G:=[]) (by simp)⟩ hrel ?_
     have hl:=z3t (C:=C) (gh:=gh.ext st.objs.length []) (os:=st.objs++[]) r (L:=[]) (ImmS.flat hflat hrep _)
     rw[hex] at hl
     exact hl.1
    ·cases hr
   ·cases hr
 ·cases hr
end
end Go.AM
