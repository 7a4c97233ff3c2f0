/- Over a loop's head. No condition. -/
import Derived.Test.YtdcbankajhnepaaGreatAmStep
set_option linter.unusedVariables false
set_option linter.unusedSimpArgs false
namespace Go.AM
theorem All2.of_get {α β:Type} {R:α→β→Prop}:∀ {xs:List α} {ys:List β},xs.length=ys.length→(∀ (i:Nat) x y,xs[i]? = some x→ys[i]? = some y→R x y)→All2 R xs ys
 | [],[],_,_=>trivial
 | [],_::_,h,_=>by simp at h
 | _::_,[],h,_=>by simp at h
 | x::xs,y::ys,h,hr=>⟨hr 0 x y rfl rfl,All2.of_get (by simpa using h) fun i x y hx hy=>hr (i+1) x y (by simpa using hx) (by simpa using hy)⟩
theorem Ty.cast_self (t:Ty) (x:t.den):Ty.cast t t x=some x:=by simp[Ty.cast]
theorem znq (t:Ty) (x:List t.den):zfc t t x=some x:=by simp[zfc]
theorem zvh (t:Ty) (x:List (Option t.den)):zvi t t x=some x:=by simp[zvi]
theorem zvg {a b:Ty} {x:List (Option a.den)} {y:List (Option b.den)} (h:zvi a b x=some y):∃ e:a=b,y=e▸x:=by
 unfold zvi at h
 split at h
 ·rename_i e; exact⟨e,by simpa using h.symm⟩
 ·cases h
theorem z10 (n:Nat):∀ ls:List Leaf,z1z n ls ls=some (za1 ls)
 | []=>rfl
 | .val t x L::r=>by simp[z1z,za1,Ty.cast_self,z10 n r]
 | .clo a b p::r=>by simp[z1z,za1,z10 n r]
 | .nilS::r=>by simp[z1z,za1,z10 n r]
 | .own l::r=>by simp[z1z,za1,z10 n r]
 | .ptr l o::r=>by simp[z1z,za1,z10 n r]
 | .fn f cs::r=>by simp[z1z,za1,z10 n r]
 | .undef::r=>by simp[z1z,za1,z10 n r]
 | .skip::r=>by simp[z1z,za1,z10 n r]
 | .sub _ _ _::r=>by simp[z1z,za1,z10 n r]
 | .ela _ _ _ _ _::r=>by simp[z1z,za1,z10 n r]
 | .oela _ _ _::r=>by simp[z1z,za1,z10 n r]
 | .view _ _ _::r=>by simp[z1z,za1,z10 n r]
 | .oel2 _ _ _ _ _::r=>by simp[z1z,za1,z10 n r]
 | .hol _ .hd::r=>by simp[z1z,za1,z10 n r]
 | .hol _ (.pl _)::r=>by simp[z1z,za1,z10 n r]
 | .hol _ (.el _)::r=>by simp[z1z,za1,z10 n r]
theorem z86 (n:Nat):∀ os:Objs,z0w n os os=some (z9z os)
 | []=>rfl
 | .box cs::r=>by simp[z0w,z9z,z10,z86 n r]
 | .row e t xs d L::r=>by simp[z0w,z9z,znq,z86 n r]
 | .hol e t ys::r=>by simp[z0w,z9z,zvh,z86 n r]
 | .dead::r=>by simp[z0w,z9z,z86 n r]
theorem z3f:∀ (os:Objs) (d:z5r os),(z0v os d).length=os.length
 | [],_=>rfl
 | .box cs::r,d=>by simp[z0v,z3f r]
 | .row e t xs b L::r,d=>by simp[z0v,z3f r]
 | .hol e t ys::r,d=>by simp[z0v,z3f r]
 | .dead::r,d=>by simp[z0v,z3f r]
theorem z1j:∀ (ls:List Leaf) (d:zgl ls),(z48 ls d).length=ls.length
 | [],_=>rfl
 | .val t x L::r,d=>by simp[z48,z1j r]
 | .clo a b p::r,d=>by simp[z48,z1j r]
 | .nilS::r,d=>by simp[z48,z1j r]
 | .own l::r,d=>by simp[z48,z1j r]
 | .ptr l o::r,d=>by simp[z48,z1j r]
 | .fn f cs::r,d=>by simp[z48,z1j r]
 | .undef::r,d=>by simp[z48,z1j r]
 | .skip::r,d=>by simp[z48,z1j r]
 | .sub _ _ _::r,d=>by simp[z48,z1j r]
 | .ela _ _ _ _ _::r,d=>by simp[z48,z1j r]
 | .oela _ _ _::r,d=>by simp[z48,z1j r]
 | .view _ _ _::r,d=>by simp[z48,z1j r]
 | .oel2 _ _ _ _ _::r,d=>by simp[z48,z1j r]
 | .hol _ .hd::r,d=>by simp[z48,z1j r]
 | .hol _ (.pl _)::r,d=>by simp[z48,z1j r]
 | .hol _ (.el _)::r,d=>by simp[z48,z1j r]
def zmx:AObj→AObj→Prop
 | .dead,.dead=>True
 | .box _,.box _=>True
 | .row e t _ d L,.row f s _ c M=>e=f∧t=s∧d=c∧L=M
 | .hol e t _,.hol f s _=>e=f∧t=s
 | _,_=>False
theorem z6b:∀ (os:Objs) (d:z5r os) (l:Nat),zmx (obj os l) (obj (z0v os d) l)
 | [],_,l=>by simp[z0v,obj,List.getD,zmx]
 | .box cs::r,d,0=>by simp[z0v,obj,List.getD,zmx]
 | .row e t xs b L::r,d,0=>by simp[z0v,obj,List.getD,zmx]
 | .dead::r,d,0=>by simp[z0v,obj,List.getD,zmx]
 | .hol e t ys::r,d,0=>by simp[z0v,obj,List.getD,zmx]
 | .hol e t ys::r,d,l+1=>by simpa[z0v,obj,List.getD] using z6b r d.2 l
 | .box cs::r,d,l+1=>by simpa[z0v,obj,List.getD] using z6b r d.2 l
 | .row e t xs b L::r,d,l+1=>by simpa[z0v,obj,List.getD] using z6b r d.2 l
 | .dead::r,d,l+1=>by simpa[z0v,obj,List.getD] using z6b r d l
def Gh.cut (gh:Gh) (n:Nat):Gh:={ hd:=gh.hd,bk:=gh.bk,ft:=fun k=>if k<n then gh.ft k else [] }
theorem y6z {U0:Nat→Prop} {gh:Gh} {n:Nat} {L:List Nat} {b:Nat} (h:UU U0 (gh.cut n) L b):UU U0 gh L b:=by
 rcases h with h | ⟨l,hl,hb⟩
 ·exact .inl h
 ·simp only[Gh.cut] at hb
  split at hb
  ·exact .inr ⟨l,hl,hb⟩
  ·cases hb
theorem zyx {U0:Nat→Prop} {gh:Gh} {n:Nat} {L M:List Nat} {b:Nat} (hLM:L=M∨∀ k∈zz2 n M,has L k=true) (h:UU U0 (gh.cut n) L b):UU U0 gh M b:=by
 rcases hLM with rfl | hLM
 ·exact y6z h
 ·rcases h with h | ⟨l,hl,hb⟩
  ·exact .inl h
  ·simp only[Gh.cut] at hb
   split at hb
   ·rename_i hlt
    refine .inr ⟨l,?_,hb⟩
    cases hh:has M l with
    | false=>rfl
    | true=>
     have:has L l=true:=hLM l (List.mem_filter.2 ⟨z8w.1 hh,by simpa using hlt⟩)
     rw[this] at hl; cases hl
   ·cases hb
section
variable {C:Ctx} {w:World} {gh:Gh}
def Leaf.named (os:Objs):Leaf→Prop
 | .own l=>∃ e t xs d L,obj os l=.row e t xs d L
 | .ptr l _=>∃ cs,obj os l=.box cs
 | .fn _ caps=>∀ p∈caps,∃ cs,obj os p.1=.box cs
 | .hol l .hd=>∃ e t ys,obj os l=.hol e t ys
 | _=>True
theorem LeafOk.named {os:Objs} {c:Leaf} {v:Value} (h:LeafOk C w gh os c v):c.named os:=by
 replace h:=h.1
 cases c with
 | hol l k=>cases k<;>first | trivial | exact h.2
 | _=>first | trivial | exact h.2
theorem zyv {os os2:Objs} (hA:∀ l,zmx (obj os l) (obj os2 l)) {l:Nat} (h:∃ e t xs d L,obj os l=.row e t xs d L):∃ e t xs d L,obj os2 l=.row e t xs d L:=by
 obtain⟨e,t,xs,d,L,ho⟩:=h
 have:=hA l
 rw[ho] at this
 cases h2:obj os2 l with
 | dead=>rw[h2] at this; exact this.elim
 | hol _ _ _=>rw[h2] at this; exact this.elim
 | box cs=>rw[h2] at this; exact this.elim
 | row e t xs d L=>exact⟨_,_,_,_,_,rfl⟩
theorem zyw {os os2:Objs} (hA:∀ l,zmx (obj os l) (obj os2 l)) {l:Nat} (h:∃ e t ys,obj os l=.hol e t ys):∃ e t ys,obj os2 l=.hol e t ys:=by
 obtain⟨e,t,ys,ho⟩:=h
 have:=hA l
 rw[ho] at this
 cases h2:obj os2 l with
 | dead=>rw[h2] at this; exact this.elim
 | box cs=>rw[h2] at this; exact this.elim
 | row e t xs d L=>rw[h2] at this; exact this.elim
 | hol e t ys=>exact⟨_,_,_,rfl⟩
theorem zru {os os2:Objs} (hA:∀ l,zmx (obj os l) (obj os2 l)) {l:Nat} (h:∃ cs,obj os l=.box cs):∃ cs,obj os2 l=.box cs:=by
 obtain⟨cs,ho⟩:=h
 have:=hA l
 rw[ho] at this
 cases h2:obj os2 l with
 | dead=>rw[h2] at this; exact this.elim
 | hol _ _ _=>rw[h2] at this; exact this.elim
 | box cs=>exact⟨_,rfl⟩
 | row e t xs d L=>rw[h2] at this; exact this.elim
theorem zu2 {os0 os' os2:Objs} {n:Nat} (hA:∀ l,zmx (obj os0 l) (obj os2 l)):∀ (ls ms:List Leaf) {d:zgl ls} {vs:List Value},(∀ c∈ls,c.named os0)→z1z n ls ms=some d→All2 (LeafOk C w gh os') ms vs→All2 (LeafOk C w (gh.cut n) os2) (z48 ls d) vs:=by
 intro ls
 induction ls with
 | nil=>
  intro ms d vs _ he ha
  cases ms with
  | nil=>
   obtain rfl:=ha.nil_right
   exact trivial
  | cons _ _=>simp[z1z] at he
 | cons c ls ih=>
  intro ms d vs hn he ha
  cases ms with
  | nil=>cases c<;>simp[z1z] at he
  | cons c' ms=>
   cases vs with
   | nil=>exact ha.elim
   | cons v vs=>
    have hn':∀ c∈ls,c.named os0:=fun c hc=>hn c (by simp[hc])
    have hnc:=hn c (by simp)
    obtain⟨h1,h2⟩:=ha
    have un:∀ {d':zgl ls},z1z n ls ms=some d'→All2 (LeafOk C w (gh.cut n) os2) (.undef::z48 ls d') (v::vs):=fun he=>⟨⟨trivial,fun hk=>by simp[Leaf.known] at hk⟩,ih ms hn' he h2⟩
    cases c with
    | undef=>simp only[z1z] at he; exact un he
    | skip=>simp only[z1z] at he; exact un he
    | sub l i o=>simp only[z1z] at he; exact un he
    | ela t xs i o L=>simp only[z1z] at he; exact un he
    | oela l i o=>simp only[z1z] at he; exact un he
    | view l i o=>simp only[z1z] at he; exact un he
    | oel2 l i o j o2=>simp only[z1z] at he; exact un he
    | hol l k=>
     cases k with
     | pl i=>simp only[z1z] at he; exact un he
     | el i=>simp only[z1z] at he; exact un he
     | hd=>
      cases c' with
      | hol m k2=>
       cases k2<;>simp only[z1z] at he<;>try (cases he; done)
       split at he
       ·rename_i hl
        simp only[beq_iff_eq] at hl
        subst hl
        exact⟨⟨⟨h1.1.1,zyw hA hnc⟩,fun _=>h1.2 rfl⟩,ih ms hn' he h2⟩
       ·cases he
      | _=>simp[z1z] at he
    | val t x L=>
     cases c'<;>simp only[z1z] at he<;>try (cases he; done)
     rename_i s y M
     split at he
     ·rename_i hL
      simp only[Bool.or_eq_true,beq_iff_eq,List.all_eq_true] at hL
      split at he
      ·rename_i z hz
       split at he
       ·rename_i d' hd'
        simp only[Option.some.injEq] at he
        subst he
        obtain⟨rfl,rfl⟩:=z11 hz
        exact⟨⟨ImmS.sub h1.1 fun b _ hb=>zyx hL hb,fun _=>h1.2 rfl⟩,ih ms hn' hd' h2⟩
       ·cases he
      ·cases he
     ·cases he
    | clo a b p=>
     cases c'<;>simp only[z1z] at he<;>try (cases he; done)
     split at he
     ·rename_i hT
      obtain⟨rfl,rfl⟩:=hT
      split at he
      ·rename_i d' hd'
       simp only[Option.some.injEq] at he
       subst he
       exact⟨⟨h1.1,fun _=>h1.2 rfl⟩,ih ms hn' hd' h2⟩
      ·cases he
     ·cases he
    | nilS=>
     cases c'<;>simp only[z1z] at he<;>try (cases he; done)
     exact⟨⟨h1.1,fun _=>h1.2 rfl⟩,ih ms hn' he h2⟩
    | own l=>
     cases c'<;>simp only[z1z] at he<;>try (cases he; done)
     split at he
     ·rename_i hl
      simp only[beq_iff_eq] at hl
      subst hl
      exact⟨⟨⟨h1.1.1,zyv hA hnc⟩,fun _=>h1.2 rfl⟩,ih ms hn' he h2⟩
     ·cases he
    | ptr l o=>
     cases c'<;>simp only[z1z] at he<;>try (cases he; done)
     split at he
     ·rename_i hl
      simp only[Bool.and_eq_true,beq_iff_eq] at hl
      obtain⟨rfl,rfl⟩:=hl
      exact⟨⟨⟨h1.1.1,zru hA hnc⟩,fun _=>h1.2 rfl⟩,ih ms hn' he h2⟩
     ·cases he
    | fn f cs=>
     cases c'<;>simp only[z1z] at he<;>try (cases he; done)
     split at he
     ·rename_i hl
      simp only[Bool.and_eq_true,beq_iff_eq] at hl
      obtain⟨rfl,rfl⟩:=hl
      exact⟨⟨⟨h1.1.1,fun p hp=>zru hA (hnc p hp)⟩,fun _=>h1.2 rfl⟩,ih ms hn' he h2⟩
     ·cases he
def OExt (n:Nat):AObj→AObj→AObj→Prop
 | .dead,.dead,o2=>o2=.dead
 | .box cs,.box ds,o2=>∃ x,z1z n cs ds=some x∧o2=.box (z48 cs x)
 | .row e t _ b L,.row f s ys c M,o2=>e=f∧b=c∧(L=M∨∀ k∈zz2 n M,has L k=true)∧∃ xs,zfc s t ys=some xs∧o2=.row e t xs b L
 | .hol e t _,.hol f s ys,o2=>e=f∧∃ zs,zvi s t ys=some zs∧o2=.hol e t zs
 | _,_,_=>False
theorem zc2 (n:Nat):∀ (os os':Objs) {d:z5r os} (l:Nat),l<os.length→z0w n os os'=some d→OExt n (obj os l) (obj os' l) (obj (z0v os d) l)
 | [],os',d,l,hl,h=>by simp at hl
 | .box cs::r,[],d,l,hl,h=>by simp[z0w] at h
 | .row _ _ _ _ _::r,[],d,l,hl,h=>by simp[z0w] at h
 | .dead::r,[],d,l,hl,h=>by simp[z0w] at h
 | .hol _ _ _::r,[],d,l,hl,h=>by simp[z0w] at h
 | .box cs::r,o'::q,d,l,hl,h=>by
  cases o' with
  | dead=>simp[z0w] at h
  | hol _ _ _=>simp[z0w] at h
  | row _ _ _ _ _=>simp[z0w] at h
  | box ds=>
   simp only[z0w] at h
   split at h
   ·rename_i x hx
    split at h
    ·rename_i y hy
     simp only[Option.some.injEq] at h
     subst h
     cases l with
     | zero=>exact⟨x,hx,rfl⟩
     | succ l=>simpa[z0v,obj,List.getD] using zc2 n r q l (by simpa using hl) hy
    ·cases h
   ·cases h
 | .row e t xs b L::r,o'::q,d,l,hl,h=>by
  cases o' with
  | dead=>simp[z0w] at h
  | hol _ _ _=>simp[z0w] at h
  | box _=>simp[z0w] at h
  | row f s ys c M=>
   simp only[z0w] at h
   split at h
   ·rename_i hc
    simp only[Bool.and_eq_true,Bool.or_eq_true,beq_iff_eq,List.all_eq_true] at hc
    split at h
    ·rename_i x hx
     split at h
     ·rename_i y hy
      simp only[Option.some.injEq] at h
      subst h
      cases l with
      | zero=>exact⟨hc.1.1,hc.1.2,hc.2,x,hx,rfl⟩
      | succ l=>simpa[z0v,obj,List.getD] using zc2 n r q l (by simpa using hl) hy
     ·cases h
    ·cases h
   ·cases h
 | .hol e t ys::r,o'::q,d,l,hl,h=>by
  cases o' with
  | dead=>simp[z0w] at h
  | row _ _ _ _ _=>simp[z0w] at h
  | box _=>simp[z0w] at h
  | hol f s zs=>
   simp only[z0w] at h
   split at h
   ·rename_i hc
    simp only[beq_iff_eq] at hc
    split at h
    ·rename_i x hx
     split at h
     ·rename_i y hy
      simp only[Option.some.injEq] at h
      subst h
      cases l with
      | zero=>exact⟨hc,x,hx,rfl⟩
      | succ l=>simpa[z0v,obj,List.getD] using zc2 n r q l (by simpa using hl) hy
     ·cases h
    ·cases h
   ·cases h
 | .dead::r,o'::q,d,l,hl,h=>by
  cases o' with
  | hol _ _ _=>simp[z0w] at h
  | row _ _ _ _ _=>simp[z0w] at h
  | box _=>simp[z0w] at h
  | dead=>
   simp only[z0w] at h
   cases l with
   | zero=>exact rfl
   | succ l=>simpa[z0v,obj,List.getD] using zc2 n r q l (by simpa using hl) h
end
theorem zj9 {live:List Nat}:∀ (k:Nat) (regs:List SV) (i:Nat),(z0x live k regs)[i]? = (regs[i]?).map fun v=>if has live (k+i) then v.leaf else .undef
 | k,[],i=>by simp[z0x]
 | k,v::r,0=>by simp[z0x]
 | k,v::r,i+1=>by
  simp only[z0x,List.getElem?_cons_succ]
  rw[zj9 (k+1) r i,show k+1+i=k+(i+1) by omega]
theorem zai {live:List Nat}:∀ (k:Nat) (regs:List SV),(z0x live k regs).length=regs.length
 | k,[]=>rfl
 | k,v::r=>by simp[z0x,zai (k+1) r]
theorem zpr {C:Ctx} {w:World} {gh:Gh} {os:Objs} {v:SV} {x:Value} (h:SVOk (LeafOk C w gh os) v x):LeafOk C w gh os v.leaf x:=by
 cases v with
 | one c=>exact h
 | agg cs=>exact SVOk.undef _
 | tup vs=>exact SVOk.undef _
theorem zxi {C:Ctx} {st:St} {gh:Gh} {a:Act} {w:World} (h:Rel C st gh a w) (live:List Nat):All2 (LeafOk C w gh st.objs) (z0x live 0 st.regs) a.tmps.toList:=by
 refine All2.of_get (by rw[zai,Array.length_toList]; exact h.len) fun i c v hc hv=>?_
 rw[zj9] at hc
 cases hr:st.regs[i]? with
 | none=>rw[hr] at hc; cases hc
 | some s=>
  rw[hr] at hc
  simp only[Option.map_some,Option.some.injEq,Nat.zero_add] at hc
  subst hc
  split
  ·have:=h.regs i
   simp only[St.reg,List.getD,hr,Option.getD_some] at this
   rw[show a.tmps.getD i undef=v by rw[Array.getElem?_toList] at hv; simp[Array.getD_eq_getD_getElem?,hv]] at this
   exact zpr this
  ·exact SVOk.undef _
theorem zt4 {C:Ctx} {st0 st':St} {gh0 gh':Gh} {a0 a':Act} {w0 w':World} {live:List Nat} (h0:Rel C st0 gh0 a0 w0) (h:Rel C st' gh' a' w') (hfx:st0.fx≤st0.objs.length) (e1:st'.ro=st0.ro) (e2:st'.fx=st0.fx) {x:zgl (z0x live 0 st0.regs++st0.frm)} {z:z5r st0.objs}
  (hx:z1z st0.objs.length (z0x live 0 st0.regs++st0.frm) (z0x live 0 st'.regs++st'.frm)=some x) (hz:z0w st0.objs.length st0.objs st'.objs=some z):Rel C (zf4 live st0 (x,z)) (gh'.cut st0.objs.length) a' w':=by
 have hA:=z6b st0.objs z
 have hk0:=(zxi h0 live).app h0.frm
 have hk:=(zxi h live).app h.frm
 have hall:=zu2 (n:=st0.objs.length) hA _ _ (fun c hc=>by
  obtain⟨i,hi,rfl⟩:=List.mem_iff_getElem.1 hc
  obtain⟨v,hv,hr⟩:=hk0.get (List.getElem?_eq_getElem hi)
  exact hr.named) hx hk
 have e3:st0.regs.length=a'.tmps.size:=by
  have q1:=hall.len
  have q2:=h0.frm.len
  rw[z1j,List.length_append,zai,List.length_append,Array.length_toList] at q1
  omega
 have h1:All2 (LeafOk C w' (gh'.cut st0.objs.length) (z0v st0.objs z)) ((z48 (z0x live 0 st0.regs++st0.frm) x).take st0.regs.length) a'.tmps.toList:=by
  have:=hall.take st0.regs.length
  rwa [e3,show (a'.tmps.toList++C.frm).take a'.tmps.size=a'.tmps.toList by rw[←Array.length_toList,List.take_left],←e3] at this
 have h2:All2 (LeafOk C w' (gh'.cut st0.objs.length) (z0v st0.objs z)) ((z48 (z0x live 0 st0.regs++st0.frm) x).drop st0.regs.length) C.frm:=by
  have:=hall.drop st0.regs.length
  rwa [e3,show (a'.tmps.toList++C.frm).drop a'.tmps.size=C.frm by rw[←Array.length_toList,List.drop_left],←e3] at this
 have hft:∀ {l b},b∈(gh'.cut st0.objs.length).ft l→b∈gh'.ft l∧l<st0.objs.length:=by
  intro l b hb
  simp only[Gh.cut] at hb
  split at hb
  ·exact⟨hb,by assumption⟩
  ·cases hb
 refine⟨h.fr,h.u0,h.gl,fun l b hb=>h.lt l b (hft hb).1,fun l b hl hb=>h.own l b (by rw[e1]; exact hl) (hft hb).1,fun l l' b hb hb'=>h.dj l l' b (hft hb).1 (hft hb').1,fun l=>?_,fun l b hb=>h.sep l b (hft hb).1,fun l=>?_,fun l hl=>?_,fun hf=>h.fm (by rw[e2]; exact hf),?_,fun i=>?_,h.df,?_⟩
 ·simp only[Gh.cut]
  split
  ·exact h.nd l
  ·exact List.nodup_nil
 ·by_cases hl:l<st0.objs.length
  ·have hox:=zc2 _ st0.objs st'.objs l hl hz
   have hob:=h.objs l
   have hob0:=h0.objs l
   show z2n C w' _ (z0v st0.objs z) l (obj (z0v st0.objs z) l)
   have hftl:(gh'.cut st0.objs.length).ft l=gh'.ft l:=by simp[Gh.cut,hl]
   generalize hg2:obj (z0v st0.objs z) l=o2 at hox
   generalize hg0:obj st0.objs l=o0 at hox hob0
   generalize hg1:obj st'.objs l=o1 at hox hob
   cases o0 with
   | dead=>
    cases o1 with
    | dead=>obtain rfl:o2=_:=hox; show (gh'.cut _).ft l=[]; rw[hftl]; exact hob
    | hol _ _ _=>exact hox.elim
    | box _=>exact hox.elim
    | row _ _ _ _ _=>exact hox.elim
   | box cs=>
    cases o1 with
    | dead=>exact hox.elim
    | hol _ _ _=>exact hox.elim
    | row _ _ _ _ _=>exact hox.elim
    | box ds=>
     obtain⟨x,hxe,rfl⟩:=hox
     obtain⟨h1,arr,T,h2,h3⟩:=hob
     obtain⟨g1,arr0,T0,g2,g3⟩:=hob0
     refine⟨by rw[hftl]; exact h1,arr,T,h2,zu2 hA cs ds (fun c hc=>?_) hxe h3⟩
     obtain⟨i,hi,rfl⟩:=List.mem_iff_getElem.1 hc
     obtain⟨v,hv,hr⟩:=g3.get (List.getElem?_eq_getElem hi)
     exact hr.named
   | hol e t ys=>
    cases o1 with
    | dead=>exact hox.elim
    | row _ _ _ _ _=>exact hox.elim
    | box _=>exact hox.elim
    | hol f s zs=>
     obtain⟨rfl,zs',hc,rfl⟩:=hox
     obtain⟨rfl,rfl⟩:=zvg hc
     show RowR _ _ _ _ (gh'.hd l) ((gh'.cut _).ft l) _
     rw[hftl]
     exact hob
   | row e t xs b L=>
    cases o1 with
    | dead=>exact hox.elim
    | hol _ _ _=>exact hox.elim
    | box _=>exact hox.elim
    | row f s ys c M=>
     obtain⟨rfl,rfl,hLM,xs',hc,rfl⟩:=hox
     obtain⟨rfl,rfl⟩:=z20 hc
     show RowR _ _ _ _ (gh'.hd l) ((gh'.cut _).ft l) _
     rw[hftl]
     have hob:RowR (z38 C w' gh' s b M) w' e s.size (gh'.hd l) (gh'.ft l) ys:=hob
     refine hob.congr (fun _ _=>rfl) fun x G c _ hR=>?_
     unfold z38 at hR ⊢
     cases b with
     | true=>exact hR
     | false=>exact⟨hR.1,hR.2.sub fun b _ hb=>zyx hLM hb⟩
  ·have:obj (z0v st0.objs z) l=.dead:=by simp[obj,List.getD,List.getElem?_eq_none (by rw[z3f]; omega:(z0v st0.objs z).length≤l)]
   show z2n C w' _ (z0v st0.objs z) l (obj (z0v st0.objs z) l)
   rw[this]
   show (gh'.cut _).ft l=[]
   simp[Gh.cut,hl]
 ·have hl':l<st0.fx:=hl
  have:=h.fix l (by rw[e2]; exact hl')
  refine⟨this.1,this.2.1,?_⟩
  simp only[Gh.cut,show l<st0.objs.length by omega,if_true]
  exact this.2.2
 ·show (((z48 _ x).take st0.regs.length).map SV.one).length=_
  rw[List.length_map,List.length_take,z1j,List.length_append,zai,e3]
  omega
 ·show SVOk _ (St.reg { st0 with regs:=((z48 _ x).take st0.regs.length).map SV.one,objs:=z0v st0.objs z,frm:=_ } i) _
  simp only[St.reg,List.getD,List.getElem?_map]
  cases hi:((z48 (z0x live 0 st0.regs++st0.frm) x).take st0.regs.length)[i]? with
  | none=>exact SVOk.undef _
  | some c=>
   obtain⟨v,hv,hr⟩:=h1.get hi
   rw[Array.getElem?_toList] at hv
   rw[show a'.tmps.getD i undef=v by simp[Array.getD_eq_getD_getElem?,hv]]
   exact hr
 ·exact h2
end Go.AM
