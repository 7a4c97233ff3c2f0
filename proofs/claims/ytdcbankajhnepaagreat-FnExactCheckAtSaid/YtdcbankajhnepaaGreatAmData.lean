/- Leaves and data: what is read of leaves lies in memory as data; what is taken apart is related leaf by leaf. No condition. -/
import Derived.Test.YtdcbankajhnepaaGreatAmMove
set_option linter.unusedVariables false
set_option linter.unusedSimpArgs false
namespace Go.AM
def z3l:Ty→List Value
 | .int k=>[.int k 0]
 | .bool=>[.bool false]
 | .str=>[.string ⟨#[]⟩]
 | .slice _ _=>[.slice none 0 0]
 | .pair a b=>z3l a++z3l b
 | .unit=>[]
theorem Deep.zero:∀ (t:Ty) (w:World),Deep t w t.zero [] (z3l t)
 | .int _,_=>⟨rfl,rfl⟩
 | .bool,_=>⟨rfl,rfl⟩
 | .str,_=>⟨rfl,rfl⟩
 | .slice e t,w=>⟨_,rfl,[],[],trivial,rfl,OwnR.nil w e t.size⟩
 | .pair a b,w=>⟨[],[],_,_,rfl,rfl,Deep.zero a w,Deep.zero b w⟩
 | .unit,_=>⟨rfl,rfl⟩
theorem z2o (L M:List Nat) (l:Nat):has (L++M) l=(has L l||has M l):=by simp[has]
theorem zd7 (m:Nat) (M:List Nat) (l:Nat):has (m::M) l=(Nat.beq l m||has M l):=by simp[has]
theorem z8w {L:List Nat} {l:Nat}:has L l=true↔l∈L:=by
 simp only[has,List.any_eq_true]
 constructor
 ·rintro⟨x,hx,he⟩; rw[Nat.eq_of_beq_eq_true he]; exact hx
 ·intro h; exact⟨l,h,Nat.beq_refl l⟩
theorem UU.mono {U0:Nat→Prop} {gh:Gh} {L M:List Nat} (h:∀ l,has L l=true→has M l=true) {b:Nat} (hb:UU U0 gh M b):UU U0 gh L b:=by
 rcases hb with hb | ⟨l,hl,hb⟩
 ·exact .inl hb
 ·refine .inr ⟨l,?_,hb⟩
  cases hh:has L l
  ·rfl
  ·rw[h l hh] at hl; cases hl
section
variable {C:Ctx} {w:World} {gh:Gh} {os:Objs}
theorem z0j {t:Ty} (hf:t.flat=true) {x:t.den} {v:Value} {L:List Nat} (h:Rep t w x [v]):LeafOk C w gh os (.val t x L) v:=
 ⟨ImmS.flat hf h _,fun _=>Rep.one t h v (by simp)⟩
theorem z3t:∀ (t:Ty) {x:t.den} {L:List Nat} {cs},ImmS t x cs w (UU C.U0 gh L)→All2 (LeafOk C w gh os) (z2k t x L) cs
 | .int k,x,L,cs,h=>by obtain rfl:=h.rep; exact⟨z0j rfl rfl,trivial⟩
 | .bool,x,L,cs,h=>by obtain rfl:=h.rep; exact⟨z0j rfl rfl,trivial⟩
 | .str,x,L,cs,h=>by obtain rfl:=h.rep; exact⟨z0j rfl rfl,trivial⟩
 | .slice e t,x,L,cs,h=>by
  obtain⟨A,c,rfl,_⟩:=h.rep
  exact⟨⟨h,fun _=>rfl⟩,trivial⟩
 | .pair a b,x,L,cs,h=>by
  obtain⟨c1,c2,rfl,h1,h2⟩:=h.pair
  exact (z3t a h1).app (z3t b h2)
 | .unit,x,L,cs,h=>by obtain rfl:=h.rep; trivial
theorem z61:∀ (t:Ty),All2 (LeafOk C w gh os) (z1n t) (z3l t)
 | .int k=>⟨z0j rfl rfl,trivial⟩
 | .bool=>⟨z0j rfl rfl,trivial⟩
 | .str=>⟨z0j rfl rfl,trivial⟩
 | .slice e t=>⟨⟨rfl,fun _=>rfl⟩,trivial⟩
 | .pair a b=>(z61 a).app (z61 b)
 | .unit=>trivial
theorem zgn:∀ (t:Ty) {x:t.den} {F cs} {off:Nat} {s:Ty} {y:s.den},Deep t w x F cs→z18 t x off=some ⟨s,y⟩→∃ G v,(∀ b∈G,b∈F)∧(F.Nodup→G.Nodup)∧cs[off]? = some v∧Deep s w y G [v]
 | .int k,x,F,cs,off,s,y,h,hl=>by
  simp only[z18] at hl
  split at hl
  ·simp only[Option.some.injEq,Sigma.mk.injEq] at hl; obtain⟨rfl,e⟩:=hl; obtain rfl:=eq_of_heq e
   obtain⟨rfl,rfl⟩:=h
   simp only[beq_iff_eq] at *
   subst off
   exact⟨[],_,by simp,by simp,rfl,rfl,rfl⟩
  ·cases hl
 | .bool,x,F,cs,off,s,y,h,hl=>by
  simp only[z18] at hl
  split at hl
  ·simp only[Option.some.injEq,Sigma.mk.injEq] at hl; obtain⟨rfl,e⟩:=hl; obtain rfl:=eq_of_heq e
   obtain⟨rfl,rfl⟩:=h
   simp only[beq_iff_eq] at *
   subst off
   exact⟨[],_,by simp,by simp,rfl,rfl,rfl⟩
  ·cases hl
 | .str,x,F,cs,off,s,y,h,hl=>by
  simp only[z18] at hl
  split at hl
  ·simp only[Option.some.injEq,Sigma.mk.injEq] at hl; obtain⟨rfl,e⟩:=hl; obtain rfl:=eq_of_heq e
   obtain⟨rfl,rfl⟩:=h
   simp only[beq_iff_eq] at *
   subst off
   exact⟨[],_,by simp,by simp,rfl,rfl,rfl⟩
  ·cases hl
 | .slice e t,x,F,cs,off,s,y,h,hl=>by
  simp only[z18] at hl
  split at hl
  ·simp only[Option.some.injEq,Sigma.mk.injEq] at hl; obtain⟨rfl,e⟩:=hl; obtain rfl:=eq_of_heq e
   obtain⟨v,rfl,hr⟩:=h
   simp only[beq_iff_eq] at *
   subst off
   exact⟨F,v,fun _ h=>h,fun h=>h,rfl,v,rfl,hr⟩
  ·cases hl
 | .pair a b,x,F,cs,off,s,y,h,hl=>by
  obtain⟨F1,F2,c1,c2,rfl,rfl,h1,h2⟩:=h
  have hlen:=Deep.len a h1
  simp only[z18] at hl
  split at hl
  ·obtain⟨G,v,hG,hn,hv,hd⟩:=zgn a h1 hl
   exact⟨G,v,fun b hb=>by simp[hG b hb],fun h=>hn (List.nodup_append.1 h).1,by rw[List.getElem?_append_left (by omega)]; exact hv,hd⟩
  ·obtain⟨G,v,hG,hn,hv,hd⟩:=zgn b h2 hl
   exact⟨G,v,fun b hb=>by simp[hG b hb],fun h=>hn (List.nodup_append.1 h).2.1,by rw[List.getElem?_append_right (by omega),hlen]; exact hv,hd⟩
 | .unit,x,F,cs,off,s,y,h,hl=>by simp[z18] at hl
theorem zgu {l:Nat} {i:Int} {e:TypeId} {t:Ty} {xs:List t.den} {L:List Nat} {g og n c:Nat} (ho:obj os l=.row e t xs true L) (h0:0≤i) (h1:i<xs.length) (hh:gh.hd l=.slice (some ⟨g,og,none⟩) n c):
  ∀ (s:Ty) {x:s.den} {off:Nat} {F cs},Deep s w x F cs→(∀ j,j<s.size→z18 t t.zero (off+j)=z18 s s.zero j)→(∀ j u,cs[j]? = some u→w.cell? ⟨g,og+i.toNat*t.size+(off+j),none⟩=some u) →
   All2 (LeafOk C w gh os) (zjz s x l i off) cs
 | .int k,x,off,F,cs,h,_,_=>by obtain⟨_,rfl⟩:=h; exact⟨z0j rfl rfl,trivial⟩
 | .bool,x,off,F,cs,h,_,_=>by obtain⟨_,rfl⟩:=h; exact⟨z0j rfl rfl,trivial⟩
 | .str,x,off,F,cs,h,_,_=>by obtain⟨_,rfl⟩:=h; exact⟨z0j rfl rfl,trivial⟩
 | .slice e' u,x,off,F,cs,h,hz,hc=>by
  have hone:=Deep.one _ h
  obtain⟨v,rfl,hr⟩:=h
  refine⟨⟨⟨e,t,xs,L,g,og,n,c,e',u,ho,h0,h1,?_,hh,?_⟩,fun _=>hone v (by simp)⟩,trivial⟩
  ·have:=hz 0 (by simp[Ty.size]); simpa[z18,Ty.zero] using this
  ·have:=hc 0 v rfl; simpa using this
 | .pair a b,x,off,F,cs,h,hz,hc=>by
  obtain⟨F1,F2,c1,c2,rfl,rfl,h1',h2'⟩:=h
  have hlen:=Deep.len a h1'
  refine (zgu ho h0 h1 hh a h1' (fun j hj=>?_) (fun j u hu=>?_)).app (zgu ho h0 h1 hh b h2' (fun j hj=>?_) (fun j u hu=>?_))
  ·rw[hz j (by simp only[Ty.size]; omega)]; simp[z18,Ty.zero,hj]
  ·exact hc j u (by rw[List.getElem?_append_left (by rw[hlen]; have:=(List.getElem?_eq_some_iff.1 hu).1; omega)]; exact hu)
  ·rw[show off+a.size+j=off+(a.size+j) by omega,hz (a.size+j) (by simp only[Ty.size]; omega)]; simp only[z18,Ty.zero,Nat.add_sub_cancel_left,show ¬a.size+j<a.size from by omega,if_false]
  ·rw[show off+a.size+j=off+(a.size+j) by omega]
   exact hc _ u (by rw[List.getElem?_append_right (by omega),hlen,Nat.add_sub_cancel_left]; exact hu)
 | .unit,x,off,F,cs,h,_,_=>by obtain⟨_,rfl⟩:=h; trivial
theorem RowR.rep {α:Type} {R:α→List Nat→List Value→Prop} {e e':TypeId} {t:Ty} {v:Value} {F:List Nat} {xs:List α} {f:α→t.den} {w':World}
  (h:RowR R w e t.size v F xs) (hF:∀ b∈F,w'.heap[b]? = w.heap[b]?) (hR:∀ x G c,(∀ b∈G,b∈F)→R x G c→c.length=t.size∧Rep t w' (f x) c):Rep (.slice e' t) w' (xs.map f) [v]:=by
 obtain⟨A,c,hv,hc⟩:=z0u h.choose_spec.choose_spec.2.2
 refine⟨A,c,by rw[hv,List.length_map],by rw[List.length_map]; exact hc,?_⟩
 have hN:RowR (fun x G c=>R x G c∧∀ b∈G,b∈F) w' e t.size v F xs:=h.congr hF fun x G c hG hx=>⟨hx,hG⟩
 by_cases hx:xs=[]
 ·exact .inl (by simp[hx])
 ·right
  have h0:0<xs.length:=List.length_pos_iff.2 hx
  have hlen:∀ x G c,(R x G c∧∀ b∈G,b∈F)→c.length=t.size:=fun x G c hx=>(hR x G c hx.2 hx.1).1
  obtain⟨g,og,n,c',hv',_⟩:=hN.cells hlen (i:=0) (x:=xs[0]) (by simp[List.getElem?_eq_getElem h0])
  rw[hv] at hv'
  simp only[Value.slice.injEq] at hv'
  refine⟨g,og,hv'.1,fun i y hy=>?_⟩
  rw[List.getElem?_map] at hy
  cases hxi:xs[i]? with
  | none=>rw[hxi] at hy; cases hy
  | some x=>
   rw[hxi] at hy
   simp only[Option.map_some,Option.some.injEq] at hy
   subst hy
   obtain⟨g2,og2,n2,c2,hv2,G,es,hRx,_,hcell⟩:=hN.cells hlen hxi
   rw[hv] at hv2
   simp only[Value.slice.injEq] at hv2
   have hg:g=g2∧og=og2:=by have:=hv'.1.symm.trans hv2.1; simpa using this
   obtain⟨rfl,rfl⟩:=hg
   exact⟨es,(hR _ _ _ hRx.2 hRx.1).2,fun j u hu=>hcell j u hu⟩
theorem z20 {a b:Ty} {x:List a.den} {y:List b.den} (h:zfc a b x=some y):∃ e:a=b,e▸x=y:=by
 unfold zfc at h
 split at h
 ·rename_i e; exact⟨e,by simpa using h⟩
 ·cases h
theorem z11 {a b:Ty} {x:a.den} {y:b.den} (h:Ty.cast a b x=some y):∃ e:a=b,e▸x=y:=by
 unfold Ty.cast at h
 split at h
 ·rename_i e; exact⟨e,by simpa using h⟩
 ·cases h
theorem zkq {l:Nat} {e e':TypeId} {t:Ty} {xs:List t.den} {d:Bool} {L:List Nat} (hdj:∀ l l' b,b∈gh.ft l→b∈gh.ft l'→l=l') (hsep:∀ l b,b∈gh.ft l→¬C.U0 b)
  (hlt:∀ l b,b∈gh.ft l→b<w.heap.size) (h:z2n C w gh os l (.row e t xs d L)):ImmS (.slice e' t) xs [gh.hd l] w (UU C.U0 gh (l::L)):=by
 intro W' hW
 have hft:∀ b∈gh.ft l,¬UU C.U0 gh (l::L) b:=by
  rintro b hb (hu | ⟨l',hl',hb'⟩)
  ·exact hsep _ _ hb hu
  ·have:=hdj _ _ _ hb hb'
   subst this
   simp[zd7] at hl'
 have hsame:∀ b∈gh.ft l,W'.heap[b]? = w.heap[b]?:=fun b hb=>hW b (hlt _ _ hb) (hft b hb)
 have:=RowR.rep (e':=e') (f:=id) h hsame fun x G c hG hR=>by
  unfold z38 at hR
  cases d
  ·exact⟨Rep.len t hR.2.rep,hR.2 W' fun b hb hu=>hW b hb fun hv=>hu (UU.mono (fun l' hl'=>by rw[zd7,hl',Bool.or_true]) hv)⟩
  ·have:=Deep.congr t (w':=W') hR fun b hb=>hsame b (hG b hb)
   exact⟨Deep.len t this,Deep.rep t this⟩
 simpa using this
theorem z6w {α:Type} {xs:List α} {i:Int} {d:α} (h0:0≤i) (h1:i<xs.length):xs[i.toNat]? = some (rd xs i d):=by
 have:i.toNat<xs.length:=by omega
 simp[rd,List.getD,List.getElem?_eq_getElem this]
theorem ztm {l:Nat} {i:Int} {off:Nat} {v:Value} {e:TypeId} {t:Ty} {xs:List t.den} {L:List Nat} {s:Ty} {x:s.den} (ho:obj os l=.row e t xs true L) (hob:z2n C w gh os l (obj os l)) (hv:y70 C w gh os (.sub l i off) v)
  (hl:z18 t (rd xs i t.zero) off=some ⟨s,x⟩):∃ G,(∀ b∈G,b∈gh.ft l)∧Deep s w x G [v]:=by
 obtain⟨e1,t1,xs1,L1,g,og,n,c,s1,z1,ho1,h0,h1,hz,hh,hcell⟩:=hv
 rw[ho] at ho1 hob
 cases ho1
 obtain⟨g2,og2,n2,c2,hv2,G,es,hR,hG,hc⟩:=RowR.cells (fun x F c hR=>Deep.len t hR) hob (z6w (d:=t.zero) h0 h1)
 obtain⟨G',v',hG',_,hv',hd⟩:=zgn t hR hl
 have hcv:=hc off v' hv'
 rw[hh] at hv2
 cases hv2
 have:v'=v:=by rw[hcell] at hcv; simpa using hcv.symm
 subst this
 exact⟨G',fun b hb=>hG b (hG' b hb),hd⟩
theorem zdl (b o n:Nat):(⟨b,o,none⟩:Addr).add n=⟨b,o+n,none⟩:=by
 unfold Addr.add
 split
 ·subst n; rfl
 ·rfl
theorem zr0 {e:TypeId} {t:Ty} {xs:List t.den} {A:Option Addr} {c:Nat} {U:Nat→Prop} (h:ImmS (.slice e t) xs [.slice A xs.length c] w U) {l u:Nat} (hl:l≤u) (hu:u≤xs.length):
  ImmS (.slice 0 t) ((xs.take u).drop l) [.slice (if c=l then A else A.map (·.add (l*t.size))) (u - l) (c - l)] w U:=by
 intro W' hW
 obtain⟨A',c',he,hc,hr⟩:=h W' hW
 simp only[List.cons.injEq,Value.slice.injEq,and_true,true_and] at he
 obtain⟨rfl,rfl⟩:=he
 have hlen:((xs.take u).drop l).length=u - l:=by simp; omega
 refine⟨_,c - l,by rw[hlen],by rw[hlen]; omega,?_⟩
 by_cases hlu:l=u
 ·left; subst hlu; exact List.eq_nil_of_length_eq_zero (by rw[hlen]; omega)
 ·right
  rcases hr with h0 | ⟨b,p,rfl,hel⟩
  ·subst h0; simp at hu; omega
  ·refine⟨b,p+l*t.size,?_,fun i x hx=>?_⟩
   ·rw[if_neg (by omega)]; simp[zdl]
   ·rw[List.getElem?_drop] at hx
    have hx':xs[l+i]? = some x:=by
     rw[List.getElem?_take] at hx
     split at hx
     ·exact hx
     ·cases hx
    obtain⟨es,hes,hcell⟩:=hel _ _ hx'
    refine⟨es,hes,fun j v hv=>?_⟩
    have:=hcell j v hv
    rw[show p+l*t.size+i*t.size+j=p+(l+i)*t.size+j by rw[Nat.add_mul]; omega]
    exact this
theorem z2d (hdj:∀ l l' b,b∈gh.ft l→b∈gh.ft l'→l=l') (hsep:∀ l b,b∈gh.ft l→¬C.U0 b) (hlt:∀ l b,b∈gh.ft l→b<w.heap.size) (hob:∀ l,z2n C w gh os l (obj os l))
  {t:Ty} {e:TypeId} {c:Leaf} {v:Value} {xs:List t.den} {L:List Nat} (hc:LeafOk C w gh os c v) (h:z08 os t c=some (xs,L)):ImmS (.slice e t) xs [v] w (UU C.U0 gh L):=by
 replace hc:=hc.1
 cases c with
 | nilS=>
  simp only[z08,Option.some.injEq,Prod.mk.injEq] at h
  obtain⟨rfl,rfl⟩:=h
  obtain rfl:v=_:=hc
  exact fun W' _=>⟨none,0,rfl,Nat.le_refl _,.inl rfl⟩
 | val s x M=>
  cases s with
  | slice e' s=>
   simp only[z08] at h
   split at h
   ·rename_i y hy
    simp only[Option.some.injEq,Prod.mk.injEq] at h
    obtain⟨rfl,rfl⟩:=h
    obtain⟨rfl,rfl⟩:=z20 hy
    exact hc
   ·cases h
  | _=>simp[z08] at h
 | own l=>
  simp only[z08] at h
  split at h
  ·rename_i e' s xs' d M ho
   split at h
   ·rename_i y hy
    simp only[Option.some.injEq,Prod.mk.injEq] at h
    obtain⟨rfl,rfl⟩:=h
    obtain⟨rfl,rfl⟩:=z20 hy
    obtain⟨hv,_⟩:=hc
    rw[hv]
    exact zkq (os:=os) hdj hsep hlt (ho▸hob l)
   ·cases h
  ·cases h
 | sub l i off=>
  simp only[z08] at h
  split at h
  ·rename_i e' s xs' d M ho
   have hd:d=true:=by
    obtain⟨_,_,_,_,_,_,_,_,_,_,ho',_⟩:=hc
    rw[ho] at ho'; cases ho'; rfl
   subst hd
   split at h
   ·rename_i e2 u x hl
    split at h
    ·rename_i y hy
     simp only[Option.some.injEq,Prod.mk.injEq] at h
     obtain⟨rfl,rfl⟩:=h
     obtain⟨rfl,rfl⟩:=z20 hy
     obtain⟨G,hG,hd⟩:=ztm ho (hob l) hc hl
     refine ImmS.ofDeep (F:=G) (t:=.slice e2 u) hd fun b hb=>?_
     rintro (hu | ⟨l',hl',hb'⟩)
     ·exact hsep _ _ (hG b hb) hu
     ·have:=hdj _ _ _ (hG b hb) hb'
      subst this
      simp[zd7] at hl'
    ·cases h
   ·cases h
  ·cases h
 | view l lo hi_=>
  simp only[z08] at h
  split at h
  ·rename_i e' s xs' d M ho
   split at h
   ·rename_i y hy
    simp only[Option.some.injEq,Prod.mk.injEq] at h
    obtain⟨rfl,rfl⟩:=h
    obtain⟨rfl,rfl⟩:=z20 hy
    obtain⟨_,_,_,_,_,g,n,c,ho',h0,h1,h2,hh,hv⟩:=hc
    rw[ho] at ho'
    cases ho'
    have hi:=zkq (os:=os) (e':=0) hdj hsep hlt (ho▸hob l)
    rw[hh] at hi
    have hn:n=xs'.length:=by
     obtain⟨A,c2,he,_⟩:=hi.rep
     simp only[List.cons.injEq,Value.slice.injEq,and_true] at he
     exact he.2.1
    subst hn
    have:=zr0 hi (l:=lo.toNat) (u:=hi_.toNat) (by omega) (by omega)
    rw[hv]
    exact this
   ·cases h
  ·cases h
 | _=>simp[z08] at h
theorem z58 (hdj:∀ l l' b,b∈gh.ft l→b∈gh.ft l'→l=l') (hsep:∀ l b,b∈gh.ft l→¬C.U0 b) (hlt:∀ l b,b∈gh.ft l→b<w.heap.size) (hob:∀ l,z2n C w gh os l (obj os l)):
  ∀ (t:Ty) {ls:List Leaf} {vs:List Value} {x:t.den} {L:List Nat} {r:List Leaf},All2 (LeafOk C w gh os) ls vs→z14 os t ls=some (x,L,r) →
   ∃ v1 v2,vs=v1++v2∧ImmS t x v1 w (UU C.U0 gh L)∧All2 (LeafOk C w gh os) r v2
 | .pair a b,ls,vs,x,L,r,h,hg=>by
  simp only[z14] at hg
  split at hg
  ·rename_i y M r1 ha
   split at hg
   ·rename_i z N r2 hb
    simp only[Option.some.injEq,Prod.mk.injEq] at hg
    obtain⟨rfl,rfl,rfl⟩:=hg
    obtain⟨v1,v2,rfl,h1,h2⟩:=z58 hdj hsep hlt hob a h ha
    obtain⟨v3,v4,rfl,h3,h4⟩:=z58 hdj hsep hlt hob b h2 hb
    refine⟨v1++v3,v4,by simp,ImmS.mk (h1.sub fun b _ hb=>UU.mono (fun l hl=>by simp[z2o,hl]) hb) (h3.sub fun b _ hb=>UU.mono (fun l hl=>by simp[z2o,hl]) hb),h4⟩
   ·cases hg
  ·cases hg
 | .unit,ls,vs,x,L,r,h,hg=>by
  simp only[z14,Option.some.injEq,Prod.mk.injEq] at hg
  obtain⟨_,rfl,rfl⟩:=hg
  exact⟨[],vs,rfl,fun _ _=>rfl,h⟩
 | .slice e t,ls,vs,x,L,r,h,hg=>by
  cases ls with
  | nil=>simp[z14] at hg
  | cons c ls=>
   cases vs with
   | nil=>exact h.elim
   | cons v vs=>
    simp only[z14] at hg
    split at hg
    ·rename_i y M hs
     simp only[Option.some.injEq,Prod.mk.injEq] at hg
     obtain⟨rfl,rfl,rfl⟩:=hg
     exact⟨[v],vs,rfl,z2d hdj hsep hlt hob h.1 hs,h.2⟩
    ·cases hg
 | .int k,ls,vs,x,L,r,h,hg=>by
  cases ls with
  | nil=>simp[z14] at hg
  | cons c ls=>
   cases vs with
   | nil=>exact h.elim
   | cons v vs=>
    cases c<;>simp only[z14] at hg<;>try (cases hg; done)
    split at hg
    ·rename_i y hy
     simp only[Option.some.injEq,Prod.mk.injEq] at hg
     obtain⟨rfl,rfl,rfl⟩:=hg
     obtain⟨rfl,rfl⟩:=z11 hy
     exact⟨[v],vs,rfl,ImmS.flat rfl (ImmS.rep h.1.1) _,h.2⟩
    ·cases hg
 | .bool,ls,vs,x,L,r,h,hg=>by
  cases ls with
  | nil=>simp[z14] at hg
  | cons c ls=>
   cases vs with
   | nil=>exact h.elim
   | cons v vs=>
    cases c<;>simp only[z14] at hg<;>try (cases hg; done)
    split at hg
    ·rename_i y hy
     simp only[Option.some.injEq,Prod.mk.injEq] at hg
     obtain⟨rfl,rfl,rfl⟩:=hg
     obtain⟨rfl,rfl⟩:=z11 hy
     exact⟨[v],vs,rfl,ImmS.flat rfl (ImmS.rep h.1.1) _,h.2⟩
    ·cases hg
 | .str,ls,vs,x,L,r,h,hg=>by
  cases ls with
  | nil=>simp[z14] at hg
  | cons c ls=>
   cases vs with
   | nil=>exact h.elim
   | cons v vs=>
    cases c<;>simp only[z14] at hg<;>try (cases hg; done)
    split at hg
    ·rename_i y hy
     simp only[Option.some.injEq,Prod.mk.injEq] at hg
     obtain⟨rfl,rfl,rfl⟩:=hg
     obtain⟨rfl,rfl⟩:=z11 hy
     exact⟨[v],vs,rfl,ImmS.flat rfl (ImmS.rep h.1.1) _,h.2⟩
    ·cases hg
theorem z9f (hob:∀ l,z2n C w gh os l (obj os l)):
  ∀ (t:Ty) {ls:List Leaf} {vs:List Value} {x:t.den} {M:List Nat} {r:List Leaf},All2 (LeafOk C w gh os) ls vs→z1p os t ls=some (x,M,r) →
   ∃ v1 v2,vs=v1++v2∧Deep t w x (M.flatMap gh.ft) v1∧All2 (LeafOk C w gh os) r v2
 | .pair a b,ls,vs,x,L,r,h,hg=>by
  simp only[z1p] at hg
  split at hg
  ·rename_i y M r1 ha
   split at hg
   ·rename_i z N r2 hb
    simp only[Option.some.injEq,Prod.mk.injEq] at hg
    obtain⟨rfl,rfl,rfl⟩:=hg
    obtain⟨v1,v2,rfl,h1,h2⟩:=z9f hob a h ha
    obtain⟨v3,v4,rfl,h3,h4⟩:=z9f hob b h2 hb
    exact⟨v1++v3,v4,by simp,⟨_,_,_,_,List.flatMap_append,rfl,h1,h3⟩,h4⟩
   ·cases hg
  ·cases hg
 | .unit,ls,vs,x,L,r,h,hg=>by
  simp only[z1p,Option.some.injEq,Prod.mk.injEq] at hg
  obtain⟨_,rfl,rfl⟩:=hg
  exact⟨[],vs,rfl,⟨rfl,rfl⟩,h⟩
 | .slice e t,ls,vs,x,L,r,h,hg=>by
  cases ls with
  | nil=>simp[z1p] at hg
  | cons c ls=>
   cases vs with
   | nil=>exact h.elim
   | cons v vs=>
    cases c with
    | nilS=>
     simp only[z1p,Option.some.injEq,Prod.mk.injEq] at hg
     obtain⟨rfl,rfl,rfl⟩:=hg
     obtain rfl:v=_:=h.1.1
     exact⟨[_],vs,rfl,Deep.zero (.slice e t) w,h.2⟩
    | own l=>
     simp only[z1p] at hg
     split at hg
     ·rename_i e' s xs M ho
      split at hg
      ·rename_i he
       simp only[beq_iff_eq] at he
       subst he
       split at hg
       ·rename_i y hy
        simp only[Option.some.injEq,Prod.mk.injEq] at hg
        obtain⟨rfl,rfl,rfl⟩:=hg
        obtain⟨rfl,rfl⟩:=z20 hy
        refine⟨[v],vs,rfl,?_,h.2⟩
        obtain⟨hv,_⟩:=h.1.1
        have hb:=hob l
        rw[ho] at hb
        simp only[List.flatMap_cons,List.flatMap_nil,List.append_nil]
        exact⟨v,rfl,by rw[hv]; exact hb⟩
       ·cases hg
      ·cases hg
     ·cases hg
    | _=>simp[z1p] at hg
 | .int k,ls,vs,x,L,r,h,hg=>by
  cases ls with
  | nil=>simp[z1p] at hg
  | cons c ls=>
   cases vs with
   | nil=>exact h.elim
   | cons v vs=>
    cases c<;>simp only[z1p] at hg<;>try (cases hg; done)
    split at hg
    ·rename_i y hy
     simp only[Option.some.injEq,Prod.mk.injEq] at hg
     obtain⟨rfl,rfl,rfl⟩:=hg
     obtain⟨rfl,rfl⟩:=z11 hy
     exact⟨[v],vs,rfl,Deep.flat _ rfl (ImmS.rep h.1.1) w,h.2⟩
    ·cases hg
 | .bool,ls,vs,x,L,r,h,hg=>by
  cases ls with
  | nil=>simp[z1p] at hg
  | cons c ls=>
   cases vs with
   | nil=>exact h.elim
   | cons v vs=>
    cases c<;>simp only[z1p] at hg<;>try (cases hg; done)
    split at hg
    ·rename_i y hy
     simp only[Option.some.injEq,Prod.mk.injEq] at hg
     obtain⟨rfl,rfl,rfl⟩:=hg
     obtain⟨rfl,rfl⟩:=z11 hy
     exact⟨[v],vs,rfl,Deep.flat _ rfl (ImmS.rep h.1.1) w,h.2⟩
    ·cases hg
 | .str,ls,vs,x,L,r,h,hg=>by
  cases ls with
  | nil=>simp[z1p] at hg
  | cons c ls=>
   cases vs with
   | nil=>exact h.elim
   | cons v vs=>
    cases c<;>simp only[z1p] at hg<;>try (cases hg; done)
    split at hg
    ·rename_i y hy
     simp only[Option.some.injEq,Prod.mk.injEq] at hg
     obtain⟨rfl,rfl,rfl⟩:=hg
     obtain⟨rfl,rfl⟩:=z11 hy
     exact⟨[v],vs,rfl,Deep.flat _ rfl (ImmS.rep h.1.1) w,h.2⟩
    ·cases hg
end
end Go.AM
