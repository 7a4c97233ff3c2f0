/- Rows out of which elements are moved. No condition. -/
import Derived.Test.YtdcbankajhnepaaGreatAmStep
import Derived.Test.YtdcbankajhnepaaGreatAmSubSort
set_option linter.unusedVariables false
set_option linter.unusedSimpArgs false
namespace Go.AM
theorem zrt {α:Type} {R:α→List Nat→List Value→Prop} {S:Option α→List Nat→List Value→Prop} (hs:∀ x F c,R x F c→S (some x) F c):∀ {xs:List α} {Fs:List (List Nat)} {cs:List (List Value)},AllR R xs Fs cs→AllR S (xs.map some) Fs cs
 | [],Fs,cs,h=>by cases Fs<;>cases cs<;>simp_all[AllR]
 | x::xs,Fs,cs,h=>by
  cases Fs<;>cases cs<;>simp only[AllR,List.map_cons] at h ⊢
  exact⟨hs _ _ _ h.1,zrt hs h.2⟩
theorem znr {α:Type}:∀ {ys:List (Option α)} {zs:List α},zfd ys=some zs→ys=zs.map some
 | [],zs,h=>by simp only[zfd,Option.some.injEq] at h; subst h; rfl
 | none::_,zs,h=>by simp[zfd] at h
 | some x::r,zs,h=>by
  unfold zfd at h
  split at h
  ·rename_i q hq
   simp only[Option.some.injEq] at h
   subst h
   rw[znr hq]; rfl
  ·cases h
theorem zme {α:Type} {R:α→List Nat→List Value→Prop} {S:Option α→List Nat→List Value→Prop} (hs:∀ x F c,S (some x) F c→R x F c):∀ {xs:List α} {Fs:List (List Nat)} {cs:List (List Value)},AllR S (xs.map some) Fs cs→AllR R xs Fs cs
 | [],Fs,cs,h=>by cases Fs<;>cases cs<;>simp_all[AllR]
 | x::xs,Fs,cs,h=>by
  cases Fs<;>cases cs<;>simp only[AllR,List.map_cons] at h ⊢
  exact⟨hs _ _ _ h.1,zme hs h.2⟩
theorem ztx {os:Objs} {f:Leaf→Leaf} {k:Nat}:obj (os.map (AObj.mapL f)) k=(obj os k).mapL f:=by
 simp only[obj,List.getD,List.getElem?_map]
 cases os[k]?<;>rfl
theorem zwa {R S:Leaf→Value→Prop} {f:Leaf→Leaf} (hk:∀ c y,R c y→S (f c) y) {v:SV} {x:Value} (h:SVOk R v x):SVOk S (v.mapL f) x:=by
 cases v with
 | one c=>exact hk _ _ h
 | agg cs=>obtain⟨vs,rfl,h⟩:=h; exact⟨vs,rfl,h.map fun c y _ hc=>hk c y hc⟩
 | tup rs=>
  obtain⟨vs,rfl,h⟩:=h
  refine⟨vs,rfl,?_⟩
  induction rs generalizing vs with
  | nil=>cases vs<;>simp_all[zjm]
  | cons p ps ih=>
   cases vs with
   | nil=>exact h.elim
   | cons v vs=>
    obtain⟨⟨us,h1,h2⟩,h3⟩:=h
    exact⟨⟨us,h1,h2.map fun c y _ hc=>hk c y hc⟩,ih vs h3⟩
theorem zfa:∀ (Fs:List (List Nat)) (i:Nat),(Fs.set i []).flatten.Sublist Fs.flatten
 | [],i=>by simp
 | F::Fs,0=>by simp
 | F::Fs,i+1=>by
  simp only[List.set_cons_succ,List.flatten_cons]
  exact (List.Sublist.refl F).append (zfa Fs i)
theorem zit {Fs:List (List Nat)} {i:Nat} (h:Fs.flatten.Nodup):(Fs.set i []).flatten.Nodup:=h.sublist (zfa Fs i)
theorem ziu {Fs:List (List Nat)} {G:List Nat} (h:Fs.flatten.Nodup) (hG:G∈Fs):G.Nodup:=(List.pairwise_flatten.1 h).1 G hG
theorem zp4 {Fs:List (List Nat)} (h:Fs.flatten.Nodup) {i j:Nat} (hi:i<Fs.length) (hj:j<Fs.length) (hij:i≠j) {b:Nat} (h1:b∈Fs[i]) (h2:b∈Fs[j]):False:=by
 have hp:=List.pairwise_iff_getElem.1 (List.pairwise_flatten.1 h).2
 rcases Nat.lt_or_ge i j with hlt | hge
 ·exact hp i j hi hj hlt b h1 b h2 rfl
 ·exact hp j i hj hi (by omega) b h2 b h1 rfl
section
variable {C:Ctx} {st:St} {gh:Gh} {a:Act} {w:World}
theorem znc (h:Rel C st gh a w) {l:Nat} (hl:l<st.objs.length) {o':AObj} {g:Leaf→Leaf} {gh':Gh} (hg:∀ k,k≠l→obj st.objs k≠.dead→gh'.hd k=gh.hd k∧gh'.bk k=gh.bk k∧gh'.ft k=gh.ft k) (hft:∀ k b,b∈gh'.ft k→b∈gh.ft k∨b∈gh.ft l)
  {ext:Objs} {c:Leaf} {v:Value} (hd:c.dies true l=false) (hc:LeafOk C w gh st.objs c v):LeafOk C w gh' ((st.objs.map (AObj.mapL g)).set l o'++ext) c v:=by
 have hT:Tr C w gh st.objs w gh' (st.objs.set l o'++ext) (fun k=>k=l) (fun _=>true=false):=by
  refine⟨Nat.le_refl _,fun b _=>.inl rfl,fun k b _ hb=>?_,fun k hk hdd=>?_,fun k _ hH=>by cases hH⟩
  ·rcases hft k b hb with h' | h'
   ·exact⟨k,h',.inl rfl⟩
   ·exact⟨l,h',.inr rfl⟩
  ·obtain⟨h1,h2,h3⟩:=hg k hk hdd
   have e:=z0o hdd
   exact⟨by rw[z29 (by simpa using e),z01 hk],h1,h2,h3⟩
 have h1:=z52 hT h.dj h.objs (z3c hd) hc
 have key:∀ k,obj ((st.objs.map (AObj.mapL g)).set l o'++ext) k=if k=l then o' else if k<st.objs.length then (obj st.objs k).mapL g else obj (st.objs.set l o'++ext) k:=by
  intro k
  by_cases e:k=l
  ·subst e
   rw[if_pos rfl,z29 (by simpa using hl),z0a (by simpa using hl)]
  ·rw[if_neg e]
   by_cases hk:k<st.objs.length
   ·rw[if_pos hk,z29 (by simpa using hk),z01 e,ztx]
   ·rw[if_neg hk]
    simp only[obj,List.getD]
    rw[List.getElem?_append_right (by simp; omega),List.getElem?_append_right (by simp; omega)]
    simp
 have key2:∀ k,k≠l→k<st.objs.length→obj (st.objs.set l o'++ext) k=obj st.objs k:=fun k e hk=>by rw[z29 (by simpa using hk),z01 e]
 have key3:obj (st.objs.set l o'++ext) l=o':=by rw[z29 (by simpa using hl),z0a hl]
 refine z6c ⟨fun k e t xs d L hk=>?_,fun k e t ys hk=>?_⟩ (fun k cs hk=>?_) h1
 ·rw[key]
  by_cases e:k=l
  ·subst e; rw[if_pos rfl,←key3]; exact hk
  ·rw[if_neg e]
   split
   ·rename_i hlt; rw[key2 k e hlt] at hk; rw[hk]; rfl
   ·exact hk
 ·rw[key]
  by_cases e:k=l
  ·subst e; rw[if_pos rfl,←key3]; exact hk
  ·rw[if_neg e]
   split
   ·rename_i hlt; rw[key2 k e hlt] at hk; rw[hk]; rfl
   ·exact hk
 ·rw[key]
  by_cases e:k=l
  ·subst e; rw[if_pos rfl,←key3]; exact⟨_,hk⟩
  ·rw[if_neg e]
   split
   ·rename_i hlt; rw[key2 k e hlt] at hk; rw[hk]; exact⟨_,rfl⟩
   ·exact⟨_,hk⟩
theorem zqk (h:Rel C st gh a w) {l:Nat} {o':AObj} {g:Leaf→Leaf} {gh':Gh} {ext:Objs} {k:Nat} (hk:k≠l) (hlt:k<st.objs.length) (hg:gh'.hd k=gh.hd k∧gh'.bk k=gh.bk k∧gh'.ft k=gh.ft k) (hU:∀ e t xs d L,obj st.objs k=.row e t xs d L→∀ b,UU C.U0 gh' L b→UU C.U0 gh L b)
  (hleaf:∀ c v,LeafOk C w gh st.objs c v→LeafOk C w gh' ((st.objs.map (AObj.mapL g)).set l o'++ext) (g c) v):z2n C w gh' ((st.objs.map (AObj.mapL g)).set l o'++ext) k (obj ((st.objs.map (AObj.mapL g)).set l o'++ext) k):=by
 rw[z29 (by simpa using hlt),z01 hk,ztx]
 have hb:=h.objs k
 obtain⟨g1,g2,g3⟩:=hg
 cases ho:obj st.objs k with
 | dead=>rw[ho] at hb; show gh'.ft k=[]; rw[g3]; exact hb
 | box cs=>
  rw[ho] at hb
  obtain⟨h1,arr,T,h2,h3⟩:=hb
  exact⟨by rw[g3,g2]; exact h1,arr,T,by rw[g2]; exact h2,h3.map fun c y _ hc=>hleaf c y hc⟩
 | hol e t ys=>
  rw[ho] at hb
  show RowR _ _ _ _ (gh'.hd k) (gh'.ft k) ys
  rw[g1,g3]; exact hb
 | row e t xs d L=>
  rw[ho] at hb
  show RowR _ _ _ _ (gh'.hd k) (gh'.ft k) xs
  rw[g1,g3]
  refine RowR.congr hb (fun _ _=>rfl) fun x G c hG hR=>?_
  unfold z38 at hR ⊢
  cases d with
  | true=>exact hR
  | false=>exact⟨hR.1,hR.2.sub fun b _ hb=>hU _ _ _ _ _ ho b hb⟩
theorem ztq {regs:List SV} {f:Leaf→Leaf} {i:Nat} {P:SV→Prop} (h0:P (.one .undef)) (h:P ((regs.getD i (.one .undef)).mapL f)):P ((regs.map (SV.mapL f)).getD i (.one .undef)):=by
 simp only[List.getD,List.getElem?_map] at h ⊢
 cases hr:regs[i]? with
 | none=>exact h0
 | some v=>rw[hr] at h; exact h
theorem Rel.toHol (h:Rel C st gh a w) {l:Nat} {st1:St} (hk:st.toHol l=some st1):Rel C st1 gh a w∧st1.ro=st.ro∧st1.fx=st.fx∧st1.objs.length=st.objs.length:=by
 unfold St.toHol at hk
 split at hk
 ·cases hk
 rename_i hcond
 simp only[Bool.or_eq_true,Nat.blt_eq,not_or,Nat.not_lt] at hcond
 obtain⟨hro,hfx,_⟩:=hcond
 split at hk
 case h_3=>cases hk
 case h_2=>simp only[Option.some.injEq] at hk; subst hk; exact⟨h,rfl,rfl,rfl⟩
 rename_i e t xs hob
 split at hk
 case isFalse=>cases hk
 rename_i hsl
 simp only[Option.some.injEq] at hk
 subst hk
 have hl:l<st.objs.length:=z0o (by rw[hob]; simp)
 have ho1:obj ((st.objs.map (AObj.mapL (Leaf.toHol l))).set l (.hol e t (xs.map some))) l=.hol e t (xs.map some):=z0a (by simpa using hl)
 have leaf:∀ c v,LeafOk C w gh st.objs c v→LeafOk C w gh ((st.objs.map (AObj.mapL (Leaf.toHol l))).set l (.hol e t (xs.map some))) (c.toHol l) v:=by
  intro c v hc
  have oth:c.dies true l=false→LeafOk C w gh ((st.objs.map (AObj.mapL (Leaf.toHol l))).set l (.hol e t (xs.map some))) c v:=fun hd=>by
   have:=znc (g:=Leaf.toHol l) (o':=.hol e t (xs.map some)) (gh':=gh) (ext:=[]) h hl (fun _ _ _=>⟨rfl,rfl,rfl⟩) (fun _ _ hb=>.inl hb) hd hc
   simpa using this
  have und:LeafOk C w gh ((st.objs.map (AObj.mapL (Leaf.toHol l))).set l (.hol e t (xs.map some))) .undef v:=⟨trivial,fun hk=>by cases hk⟩
  have dft:LeafOk C w gh ((st.objs.map (AObj.mapL (Leaf.toHol l))).set l (.hol e t (xs.map some))) (c.kill true l) v:=by
   unfold Leaf.kill
   split
   ·exact und
   ·rename_i hd; exact oth (by simpa using hd)
  cases c with
  | own k=>
   simp only[Leaf.toHol]
   split
   ·rename_i he
    simp only[beq_iff_eq] at he
    subst he
    exact⟨⟨hc.1.1,e,t,_,ho1⟩,fun _=>hc.2 rfl⟩
   ·rename_i he; exact oth (by simpa[Leaf.dies] using he)
  | sub k i off=>
   simp only[Leaf.toHol]
   split
   ·rename_i he
    simp only[beq_iff_eq] at he
    subst he
    split
    ·rename_i hz
     simp only[beq_iff_eq] at hz
     subst hz
     obtain⟨e',t',xs',L,g,og,n,cc,s,z,ho,h0,h1,h2,hh,hcell⟩:=hc.1
     rw[hob] at ho
     cases ho
     exact⟨⟨e,t,_,g,og,n,cc,ho1,h0,by simpa using h1,hh,by simpa using hcell⟩,fun _=>hc.2 rfl⟩
    ·exact und
   ·rename_i he; exact oth (by simpa[Leaf.dies] using he)
  | _=>exact dft
 have hrow:=h.objs l
 rw[hob] at hrow
 refine⟨⟨h.fr,h.u0,h.gl,h.lt,h.own,h.dj,h.nd,h.sep,fun k=>?_,h.fix,h.fm,by simpa[St.mapS] using h.len,fun i=>?_,h.df,h.frm.map fun c y _ hc=>leaf c y hc⟩,rfl,rfl,by simp⟩
 ·show z2n C w gh ((st.objs.map (AObj.mapL (Leaf.toHol l))).set l (.hol e t (xs.map some))) k (obj ((st.objs.map (AObj.mapL (Leaf.toHol l))).set l (.hol e t (xs.map some))) k)
  by_cases ek:k=l
  ·subst ek
   rw[ho1]
   obtain⟨Fs,ess,hall,hF,how⟩:=hrow
   refine⟨Fs,ess,zrt (fun x F c hx=>?_) hall,hF,by simpa using how⟩
   unfold z38 at hx
   simp only[if_true] at hx; exact hx
  ·by_cases hlt:k<st.objs.length
   ·have:=zqk (g:=Leaf.toHol l) (o':=.hol e t (xs.map some)) (gh':=gh) (ext:=[]) h ek hlt ⟨rfl,rfl,rfl⟩ (fun _ _ _ _ _ _ b hb=>hb) (by simpa using leaf)
    simpa using this
   ·have hd:obj ((st.objs.map (AObj.mapL (Leaf.toHol l))).set l (.hol e t (xs.map some))) k=.dead:=by
     simp only[obj,List.getD]
     rw[List.getElem?_eq_none (by simp; omega)]; rfl
    rw[hd]
    exact z6f h (by omega)
 ·exact ztq (P:=fun v=>SVOk (LeafOk C w gh _) v _) (SVOk.undef _) (zwa leaf (h.regs i))
theorem Rel.takeHol (h:Rel C st gh a w) (hfl:st.fx≤st.objs.length) {r:Tmp} {st1:St} (hr:(st.takeHol r).run some=some st1):∃ gh',Rel C st1 gh' a w∧st1.ro=st.ro∧st1.fx=st.fx∧st1.objs.length=st.objs.length+1:=by
 unfold St.takeHol at hr
 split at hr
 case h_2=>cases hr
 rename_i l i hreg
 split at hr
 ·cases hr
 rename_i hcond
 simp only[Bool.or_eq_true,Nat.blt_eq,not_or,Nat.not_lt] at hcond
 have hro:=hcond.1
 have hfx:=hcond.2.1
 split at hr
 case h_2=>cases hr
 rename_i e e' u ys hob
 simp only[Tree.run] at hr
 cases hx:ys.getD i.toNat none with
 | none=>rw[hx] at hr; cases hr
 | some x=>
 rw[hx] at hr
 simp only[Option.bind_some,Tree.run,Option.some.injEq] at hr
 subst hr
 have hl:l<st.objs.length:=z0o (by rw[hob]; simp)
 have hgi:ys[i.toNat]? = some (some x):=by
  simp only[List.getD] at hx
  cases hg:ys[i.toNat]? with
  | none=>rw[hg] at hx; cases hx
  | some z=>rw[hg] at hx; simpa using hx
 have hrow:=h.objs l
 rw[hob] at hrow
 obtain⟨Fs,ess,hall,hF,how⟩:=hrow
 obtain⟨G,es,hG,hes,hR⟩:=hall.get hgi
 have hlen:=hall.len
 obtain⟨vi,rfl,hrowi⟩:=hR
 have hiy:i.toNat<ys.length:=(List.getElem?_eq_some_iff.1 hgi).1
 have hrv:=h.regs r
 rw[hreg] at hrv
 have hvi:a.tmps.getD r undef=vi:=by
  obtain⟨e2,t2,ys2,g,og,n,c,ho2,h0,h1,hh,hcell⟩:=hrv.1
  rw[hob] at ho2
  cases ho2
  obtain⟨g3,og3,n3,c3,hh3,_,x3,G3,es3,hg3,hR3,hc3⟩:=zxp h hob h0 h1
  rw[hh] at hh3
  cases hh3
  have hob2:=h.objs l
  rw[hob] at hob2
  have hcl:=OwnR.cells (w:=w) (e:=e) (size:=1) (g:=g) (o:=og) (m:=n) (c:=c) (n:=ys.length) (xs:=ess.flatten) (by rw[←hh]; exact how)
  have hsz:∀ c∈ess,c.length=1:=hall.size fun x F c hx=>zp0 hx
  have hf:=z4f (n:=1) hsz hes (j:=0) (by omega)
  have:=hcl (i.toNat*1+0) vi (by rw[hf]; rfl)
  simp only[Nat.mul_one,Nat.add_zero] at this
  have hcell':w.cell? ⟨g,og+i.toNat,none⟩=some (a.tmps.getD r undef):=by simpa[Ty.size] using hcell
  rw[this] at hcell'
  exact (Option.some.inj hcell').symm
 have hnd:=h.nd l
 rw[hF] at hnd
 obtain⟨n1,n2,n3⟩:=List.nodup_append.1 hnd
 have hGm:G∈Fs:=List.mem_of_getElem? hG
 have hsub:∀ b,b∈(Fs.set i.toNat []).flatten→b∈Fs.flatten∧b∉G:=by
  intro b hb
  obtain⟨K,hK,hbK⟩:=List.mem_flatten.1 hb
  obtain⟨j,hj,rfl⟩:=List.mem_iff_getElem.1 hK
  rw[List.length_set] at hj
  by_cases ej:i.toNat=j
  ·subst ej; rw[List.getElem_set_self] at hbK; cases hbK
  ·rw[List.getElem_set_ne ej] at hbK
   refine⟨List.mem_flatten.2 ⟨_,List.getElem_mem hj,hbK⟩,fun hbG=>?_⟩
   have hi':i.toNat<Fs.length:=by omega
   have hGe:Fs[i.toNat]=G:=by
    rw[List.getElem?_eq_getElem hi'] at hG; exact Option.some.inj hG
   exact zp4 n2 hi' hj ej (hGe▸hbG) hbK
 have hnd2:(Fs.set i.toNat []).flatten.Nodup:=zit n2
 have hndG:G.Nodup:=ziu n2 hGm
 have hGF:∀ b,b∈G→b∈Fs.flatten:=fun b hb=>List.mem_flatten.2 ⟨G,hGm,hb⟩
 have hGl:∀ b,b∈G→b∈gh.ft l:=fun b hb=>by rw[hF]; exact List.mem_append.2 (.inr (hGF b hb))
 let F':=(gh.hd l).ownBlock.toList++(Fs.set i.toNat []).flatten
 have hF':∀ b,b∈F'→b∈gh.ft l∧b∉G:=by
  intro b hb
  rcases List.mem_append.1 hb with hb | hb
  ·exact⟨by rw[hF]; exact List.mem_append.2 (.inl hb),fun hg=>n3 b hb b (hGF b hg) rfl⟩
  ·obtain⟨q1,q2⟩:=hsub b hb
   exact⟨by rw[hF]; exact List.mem_append.2 (.inr q1),q2⟩
 have hF'n:F'.Nodup:=List.nodup_append.2 ⟨n1,hnd2,fun b hb b' hb' e=>n3 b hb b' (hsub b' hb').1 e⟩
 let N:=st.objs.length
 let g2:Gh:=(gh.up l (gh.hd l) F').add N vi 0 G
 have hNl:l≠N:=by show l≠st.objs.length; omega
 have gl:g2.hd l=gh.hd l∧g2.ft l=F':=⟨by simp[g2,Gh.add,hNl],by simp[g2,Gh.add,hNl]⟩
 have gN:g2.hd N=vi∧g2.ft N=G:=⟨by simp[g2,Gh.add],by simp[g2,Gh.add]⟩
 have go:∀ k,k≠l→k≠N→g2.hd k=gh.hd k∧g2.bk k=gh.bk k∧g2.ft k=gh.ft k:=fun k h1 h2=>⟨by simp[g2,Gh.add,h2,Gh.up_hd_ne _ _ _ _ h1],by simp[g2,Gh.add,h2],by simp[g2,Gh.add,h2,Gh.up_ft_ne _ _ _ _ h1]⟩
 have hft:∀ k b,b∈g2.ft k→(k=l∧b∈F')∨(k=N∧b∈G)∨(k≠l∧k≠N∧b∈gh.ft k):=by
  intro k b hb
  by_cases e1:k=l
  ·subst e1; rw[gl.2] at hb; exact .inl ⟨rfl,hb⟩
  ·by_cases e2:k=N
   ·rw[e2,gN.2] at hb; exact .inr (.inl ⟨e2,hb⟩)
   ·rw[(go k e1 e2).2.2] at hb; exact .inr (.inr ⟨e1,e2,hb⟩)
 have hin:∀ k b,b∈g2.ft k→b∈gh.ft k∨b∈gh.ft l:=by
  intro k b hb
  rcases hft k b hb with ⟨_,h1⟩ | ⟨_,h1⟩ | ⟨_,_,h1⟩
  ·exact .inr (hF' b h1).1
  ·exact .inr (hGl b h1)
  ·exact .inl h1
 have ndN:∀ k,obj st.objs k≠.dead→k≠N:=fun k hk=>by have:=z0o hk; show k≠st.objs.length; omega
 generalize hos:(st.objs.map (AObj.mapL (Leaf.unHol l))).set l (.hol e (.slice e' u) (ys.set i.toNat none))++[AObj.row e' u x true []]=os1
 have ho1:obj os1 l=.hol e (.slice e' u) (ys.set i.toNat none):=by rw[←hos,z29 (by simpa using hl),z0a (by simpa using hl)]
 have hoN:obj os1 N=.row e' u x true []:=by rw[←hos]; simp[obj,List.getD,N]
 have leaf:∀ c v,LeafOk C w gh st.objs c v→LeafOk C w g2 os1 (c.unHol l) v:=by
  intro c v hc
  have oth:c.dies true l=false→LeafOk C w g2 os1 c v:=fun hd=>by
   rw[←hos]
   exact znc h hl (fun k hk hdd=>go k hk (ndN k hdd)) hin hd hc
  have und:LeafOk C w g2 os1 .undef v:=⟨trivial,fun hk=>by cases hk⟩
  have dft:LeafOk C w g2 os1 (c.kill true l) v:=by
   unfold Leaf.kill
   split
   ·exact und
   ·rename_i hd; exact oth (by simpa using hd)
  cases c with
  | hol k q=>
   cases q with
   | hd=>
    by_cases ek:k=l
    ·subst ek
     exact⟨⟨by rw[gl.1]; exact hc.1.1,_,_,_,ho1⟩,fun _=>hc.2 rfl⟩
    ·exact oth (by simpa[Leaf.dies] using ek)
   | pl j=>exact dft
   | el j=>exact dft
  | _=>exact dft
 refine⟨g2,⟨h.fr,h.u0,h.gl,fun k b hb=>?_,fun k b hk hb=>?_,fun k k' b hb hb'=>?_,fun k=>?_,fun k b hb=>?_,fun k=>?_,fun k hk=>?_,h.fm,by simpa using h.len,fun j=>?_,h.df,h.frm.map fun c y _ hc=>leaf c y hc⟩,rfl,rfl,by rw[←hos]; simp⟩
 ·rcases hin k b hb with h1 | h1<;>exact h.lt _ _ h1
 ·rcases hft k b hb with ⟨rfl,h1⟩ | ⟨_,h1⟩ | ⟨_,_,h1⟩
  ·exact h.own _ _ hk (hF' b h1).1
  ·exact h.own l _ hro (hGl b h1)
  ·exact h.own _ _ hk h1
 ·rcases hft k b hb with ⟨e1,h1⟩ | ⟨e1,h1⟩ | ⟨e1,e2,h1⟩<;>rcases hft k' b hb' with ⟨f1,j1⟩ | ⟨f1,j1⟩ | ⟨f1,f2,j1⟩
  ·rw[e1,f1]
  ·exact absurd j1 (hF' b h1).2
  ·exact absurd (h.dj _ _ _ (hF' b h1).1 j1).symm f1
  ·exact absurd h1 (hF' b j1).2
  ·rw[e1,f1]
  ·exact absurd (h.dj _ _ _ (hGl b h1) j1).symm f1
  ·exact absurd (h.dj _ _ _ h1 (hF' b j1).1) e1
  ·exact absurd (h.dj _ _ _ h1 (hGl b j1)) e1
  ·exact h.dj _ _ _ h1 j1
 ·by_cases e1:k=l
  ·subst e1; rw[gl.2]; exact hF'n
  ·by_cases e2:k=N
   ·rw[e2,gN.2]; exact hndG
   ·rw[(go k e1 e2).2.2]; exact h.nd k
 ·rcases hin k b hb with h1 | h1<;>exact h.sep _ _ h1
 ·show z2n C w g2 os1 k (obj os1 k)
  by_cases e1:k=l
  ·subst e1
   rw[ho1]
   show RowR _ _ _ _ (g2.hd k) (g2.ft k) _
   rw[gl.1,gl.2]
   refine⟨Fs.set i.toNat [],ess,?_,rfl,by simpa using how⟩
   have hset:=hall.set (i:=i.toNat) (x:=none) (F:=[]) (c:=[vi]) ⟨rfl,rfl,fun z hz=>by
    simp only[List.mem_singleton] at hz
    subst hz
    obtain⟨A,c,hA,_⟩:=z0u hrowi.choose_spec.choose_spec.2.2
    rw[hA]; rfl⟩
   have he:ess.set i.toNat [vi]=ess:=by
    apply List.ext_getElem?
    intro j
    by_cases ej:i.toNat=j
    ·subst ej
     rw[List.getElem?_set_self (by omega),hes]
    ·rw[List.getElem?_set_ne ej]
   rwa [he] at hset
  ·by_cases e2:k=N
   ·rw[e2,hoN]
    show RowR _ _ _ _ (g2.hd N) (g2.ft N) _
    rw[gN.1,gN.2]
    refine RowR.congr hrowi (fun _ _=>rfl) fun z K c _ hz=>?_
    simpa[z38] using hz
   ·by_cases hlt:k<st.objs.length
    ·rw[←hos]
     refine zqk h e1 hlt (go k e1 e2) (fun e0 t0 xs0 d0 L0 ho0 b hb=>?_) (by rw[hos]; exact leaf)
     rcases hb with hb | ⟨j,hj,hb⟩
     ·exact .inl hb
     ·rcases hft j b hb with ⟨rfl,h1⟩ | ⟨rfl,h1⟩ | ⟨_,_,h1⟩
      ·exact .inr ⟨_,hj,(hF' b h1).1⟩
      ·have hmem:obj st.objs k∈st.objs:=by simp only[obj,List.getD,List.getElem?_eq_getElem hlt]; exact List.getElem_mem hlt
       have:=List.any_eq_false.1 (Bool.eq_false_iff.2 hcond.2.2) _ hmem
       rw[ho0] at this
       exact .inr ⟨l,by simpa[AObj.leans] using this,hGl b h1⟩
      ·exact .inr ⟨j,hj,h1⟩
    ·have hd:obj os1 k=.dead:=by
      rw[←hos]
      simp only[obj,List.getD]
      rw[List.getElem?_eq_none (by simp; show st.objs.length+1≤k; have:k≠st.objs.length:=e2; omega)]; rfl
     rw[hd]
     show g2.ft k=[]
     rw[(go k e1 e2).2.2]; exact z6f h (by omega)
 ·have hk':k<st.fx:=hk
  obtain⟨q1,q2,q3⟩:=go k (by omega) (by show k≠st.objs.length; omega)
  rw[q1,q2,q3]; exact h.fix k hk
 ·show SVOk _ (((st.regs.map (SV.mapL (Leaf.unHol l))).set r (.one (.own st.objs.length))).getD j (.one .undef)) _
  by_cases ej:j=r
  ·subst ej
   by_cases hlt:j<st.regs.length
   ·rw[show ((st.regs.map (SV.mapL (Leaf.unHol l))).set j (.one (.own st.objs.length))).getD j (.one .undef)=.one (.own st.objs.length) by simp[List.getD,hlt]]
    refine⟨⟨by rw[hvi]; exact gN.1.symm,_,_,_,_,_,hoN⟩,fun _=>hrv.2 rfl⟩
   ·rw[show ((st.regs.map (SV.mapL (Leaf.unHol l))).set j (.one (.own st.objs.length))).getD j (.one .undef)=.one .undef by simp[List.getD,hlt]]
    exact SVOk.undef _
  ·rw[show ((st.regs.map (SV.mapL (Leaf.unHol l))).set r (.one (.own st.objs.length))).getD j (.one .undef)=(st.regs.map (SV.mapL (Leaf.unHol l))).getD j (.one .undef) by simp[List.getD,List.getElem?_set_ne (fun e'=>ej e'.symm)]]
   exact ztq (P:=fun v=>SVOk (LeafOk C w g2 os1) v _) (SVOk.undef _) (zwa leaf (h.regs j))
theorem Rel.splitHol (h:Rel C st gh a w) (hfl:st.fx≤st.objs.length) {r:Tmp} {st1:St} (hr:(st.splitHol r).run some=some st1):∃ gh',Rel C st1 gh' a w∧st1.ro=st.ro∧st1.fx=st.fx∧st1.objs.length=st.objs.length+1:=by
 unfold St.splitHol at hr
 split at hr
 ·split at hr
  ·rename_i st2 h2
   obtain⟨r2,e1,e2,e3⟩:=h.toHol h2
   obtain⟨g,q0,q1,q2,q3⟩:=r2.takeHol (by omega) hr
   exact⟨g,q0,q1.trans e1,q2.trans e2,by omega⟩
  ·cases hr
 ·exact h.takeHol hfl hr
theorem zp6 {α:Type} {z:α} {xs:List α} {i:Nat} (hi:i<xs.length):xs.eraseIdx i=(List.range i++List.range' (i+1) (xs.length - (i+1))).map (xs.getD · z):=by
 rw[List.eraseIdx_eq_take_drop_succ]
 exact (zp9 (by omega) (by omega)).1
theorem zx4 {E:Env} (hE:EnvOk C.P C.Γ E) {o:Oper} (h:Rel C st gh a w) {c:Call} {f:Operand} (ho:o.op=.call c) (hc:c.callee=.value f) {g:FuncId} (hf:(st.ev f).leaf=.fn g []) {ri:RInfo} (hs:z4i E.rfn g=some ri) (hkk:ri.k=.cut)
  {l:Nat} {i j:SV} (hca:c.args.toList.map st.ev=[.one (.hol l .hd),i,j]) {st':St} (hr:(zuc st o.dst ri l i.leaf j.leaf).run some=some st') {next:Act→World→Prop} {Q:Exit→Act→World→Prop} (hn:∀ gh' a' w',Rel C st' gh' a' w'→next a' w'):o.wp C.P a w next Q:=by
 obtain⟨hen,hrow⟩:=hE.rfn _ _ hs
 have hfv:=h.leaf f
 rw[hf] at hfv
 have hfv:a.eval f=.func (.func g) #[] #[]:=by simpa using hfv.1.1
 have hargs:=zjb h c.args.toList
 unfold Oper.wp
 rw[zae h ho hc hfv hen]
 simp only[Oper.upon]
 rw[show (c.args.toList.map a.eval).toArray++#[]=(c.args.toList.map a.eval).toArray by simp]
 rw[hca] at hargs
 generalize c.args.toList.map a.eval=args at hargs
 match args,hargs with
 | [v0,vi,vj],hargs=>
 obtain⟨ha0,hai,haj,_⟩:=hargs
 unfold zuc at hr
 split at hr
 ·cases hr
 rename_i hcond
 simp only[Bool.or_eq_true,Nat.blt_eq,not_or,Nat.not_lt] at hcond
 obtain⟨hro,hfx⟩:=hcond
 split at hr
 case h_2=>cases hr
 rename_i e t ys n1 L1 n2 L2 hob hi hj
 split at hr
 case isFalse=>cases hr
 rename_i hcc
 simp only[Bool.and_eq_true,beq_iff_eq] at hcc
 obtain⟨rfl,hsz,hpos,hag⟩:=hcc
 simp only[Tree.run] at hr
 cases hzs:holD ys n1 n2 with
 | none=>rw[hzs] at hr; cases hr
 | some zs=>
 rw[hzs] at hr
 simp only[Option.bind_some] at hr
 split at hr
 case h_2=>cases hr
 rename_i st1 hk
 simp only[Tree.run,Option.some.injEq] at hr
 subst hr
 unfold holD at hzs
 split at hzs
 case isFalse=>cases hzs
 rename_i hb
 simp only[Bool.and_eq_true,decide_eq_true_eq] at hb
 obtain⟨b1,b2,b3⟩:=hb
 have hys:=znr hzs
 obtain⟨hr1,hcl⟩:=h.kill hk
 obtain⟨k1,k2,k3,_,_⟩:=z0f hk
 have ho1:obj st1.objs l=.hol ri.e t ys:=by
  obtain⟨_,rfl⟩:=z4c hk
  exact za4.1.2 _ _ _ _ hob
 have hl1:l<st1.objs.length:=z0o (by rw[ho1]; simp)
 have leafv:∀ {sv:SV} {v:Value} {n:Int} {L:List Nat},SVOk (LeafOk C w gh st.objs) sv v→sv.leaf=.val (.int .i64) n L→v=.int .i64 n:=by
  intro sv v n L hv he
  cases sv with
  | one c=>
   simp only[SV.leaf] at he
   subst he
   exact z2b hv
  | agg cs=>simp[SV.leaf] at he
  | tup vs=>simp[SV.leaf] at he
 obtain rfl:=leafv hai hi
 obtain rfl:=leafv haj hj
 have hv0:v0=gh.hd l:=ha0.1.1
 subst hv0
 have hrow0:RowR (HolE t.size (Deep t w)) w ri.e t.size (gh.hd l) (gh.ft l) ys:=by have:=hr1.objs l; rw[ho1] at this; exact this
 obtain⟨Fs,ess,hall,hF,how⟩:=hrow0
 have hlen:=hall.len
 have hpre:∀ c∈ess,c.length=ri.size∧∀ u∈c,u.oneCell'=true:=fun c hc=>by
  obtain⟨x,F,hx⟩:=hall.mem hc
  exact⟨by rw[zp0 hx,hsz],zxn hx⟩
 have hrow1:=hrow w (gh.hd l) ess hpre (by rw[hlen.2,←hsz]; exact how)
 rw[hkk] at hrow1
 have hiy:n1.toNat<ys.length:=by omega
 have:=hrow1 n1.toNat n2.toNat (by omega) (by rw[hlen.2]; omega)
 rw[show ((n1.toNat:Nat):Int)=n1 by omega,show ((n2.toNat:Nat):Int)=n2 by omega] at this
 refine this.mono fun e w' hpost=>?_
 obtain⟨v',rfl,hob',how',hfr⟩:=hpost
 rw[hlen.2,show n2.toNat=n1.toNat+1 by omega] at how'
 generalize hσ:List.range n1.toNat++List.range' (n1.toNat+1) (ys.length - (n1.toNat+1))=σ at how'
 obtain⟨_,s2,s3⟩:=zp9 (z:=(none:Option t.den)) (xs:=ys) (i:=n1.toNat) (j:=n1.toNat+1) (by omega) (by omega)
 rw[hσ] at s2 s3
 have hyσ:zs.map some=σ.map (ys.getD · none):=by rw[←hys,zp6 (z:=none) hiy,hσ]
 have hzl:zs.length=σ.length:=by have:=congrArg List.length hyσ; simpa using this
 have hnd:=hr1.nd l
 rw[hF] at hnd
 obtain⟨n1',n2',n3'⟩:=List.nodup_append.1 hnd
 obtain⟨p1,p2⟩:=zid n2' s2
 have hFin:∀ b∈v'.ownBlock.toList++(σ.map (Fs.getD · [])).flatten,b∈gh.ft l:=by
  intro b hb
  rw[hF]
  rcases List.mem_append.1 hb with hb | hb
  ·exact List.mem_append.2 (.inl (hob'▸hb))
  ·exact List.mem_append.2 (.inr (p2 b hb))
 have hrel:=hr1.write (m:=true) (l:=l) (o':=.row ri.e t zs true []) (hd':=v') (F':=v'.ownBlock.toList++(σ.map (Fs.getD · [])).flatten) hcl (by rw[k1]; exact hro) hl1
  (⟨hfr.os,hfr.tape,hfr.output,hfr.size,fun k hk hn=>hfr.block k hk fun hh=>hn (by rw[hF]; simp[hh]),hfr.drawn⟩) (fun hm0=>by cases hm0) (fun hlt=>by rw[k2] at hlt; omega) (fun b hb=>.inl (hFin b hb))
  (List.nodup_append.2 ⟨hob'▸n1',p1,fun b hb b' hb' e=>n3' b (hob'▸hb) b' (p2 b' hb') e⟩) ?_
 ·refine hn _ _ w' (hrel.put ⟨⟨(Gh.up_hd _ _ _ _).symm,_,_,_,_,_,z0a hl1⟩,fun _=>?_⟩)
  obtain⟨A,c,rfl,_⟩:=z0u how'
  rfl
 ·show RowR _ _ _ _ ((gh.up l v' _).hd l) ((gh.up l v' _).ft l) _
  rw[Gh.up_hd,Gh.up_ft]
  have hpk:=hall.pick (z:=none) (S:=HolE t.size (Deep t w')) (σ:=σ) (fun x F c hFm hx=>by
   cases x with
   | none=>exact hx
   | some x=>
    have hx:Deep t w x F c:=hx
    exact Deep.congr t hx fun b hbF=>hfr.block b (Deep.lt t hx b hbF) fun hh=>n3' b (by simp[hh]) b (List.mem_flatten.2 ⟨F,hFm,hbF⟩) rfl) s3
  rw[←hyσ] at hpk
  refine⟨_,_,zme (R:=z38 C w' (gh.up l v' (v'.ownBlock.toList++(σ.map (Fs.getD · [])).flatten)) t true []) (fun x F c hx=>?_) hpk,rfl,?_⟩
  ·unfold z38; simp only[if_true]; exact hx
  ·rw[hzl,hsz]; exact how'
theorem y09 {E:Env} (hE:EnvOk C.P C.Γ E) {cb:CB} (hcb:CBOk C.P C.Γ cb) {o:Oper} (h:Rel C st gh a w) (hfx:st.fx≤st.objs.length) (hro:st.ro≤st.objs.length) {t:Tree St} (ht:zy0 E cb st o=some t) {st':St} (hr:t.run some=some st')
  {next:Act→World→Prop} {Q:Exit→Act→World→Prop} (hn:∀ gh' a' w',Rel C st' gh' a' w'→next a' w'):o.wp C.P a w next Q:=by
 unfold zy0 at ht
 split at ht
 ·split at ht
  case isFalse=>cases ht
  simp only[Option.some.injEq] at ht
  subst ht
  split at hr
  case h_2=>cases hr
  obtain⟨st2,h1,h2⟩:=Tree.run_andThen _ hr
  rw[Tree.run_map] at h2
  obtain⟨⟨st3,c⟩,q1,q2⟩:=Tree.run_some _ h2
  simp only[Option.some.injEq] at q2
  subst q2
  obtain⟨g2,r2,e1,e2,e3⟩:=h.splitHol hfx h1
  exact zs6 hE hcb r2 (by omega) (by omega) q1 hn
 ·rename_i c ho
  split at ht
  case h_2=>cases ht
  rename_i f hc
  split at ht
  case h_2=>cases ht
  rename_i g hf
  split at ht
  case h_2=>cases ht
  rename_i ri hs
  split at ht
  ·rename_i l i j hkk hca
   simp only[Option.some.injEq] at ht
   subst ht
   exact zx4 hE h ho hc hf hs hkk hca hr hn
  ·rename_i l i off v hkk hca
   simp only[Option.some.injEq] at ht
   subst ht
   exact zuu hE hcb h ho hc hf hs hkk hca hr hn
  ·cases ht
 ·cases ht
theorem zj3 {r:Tmp} {st1:St} (hr:(st.takeHol r).run some=some st1):st1.ro=st.ro∧st1.fx=st.fx∧st1.objs.length=st.objs.length+1:=by
 unfold St.takeHol at hr
 split at hr
 case h_2=>cases hr
 split at hr
 ·cases hr
 split at hr
 case h_2=>cases hr
 simp only[Tree.run] at hr
 rename_i ys _
 cases hx:ys.getD _ none with
 | none=>rw[hx] at hr; cases hr
 | some x=>
 rw[hx] at hr
 simp only[Option.bind_some,Tree.run,Option.some.injEq] at hr
 subst hr
 exact⟨rfl,rfl,by simp⟩
theorem zuk {l:Nat} {st1:St} (hk:st.toHol l=some st1):st1.ro=st.ro∧st1.fx=st.fx∧st1.objs.length=st.objs.length:=by
 unfold St.toHol at hk
 split at hk
 ·cases hk
 split at hk
 ·split at hk
  ·simp only[Option.some.injEq] at hk
   subst hk
   exact⟨rfl,rfl,by simp⟩
  ·cases hk
 ·simp only[Option.some.injEq] at hk; subst hk; exact⟨rfl,rfl,rfl⟩
 ·cases hk
theorem znz {r:Tmp} {st1:St} (hr:(st.splitHol r).run some=some st1):st1.ro=st.ro∧st1.fx=st.fx∧st1.objs.length=st.objs.length+1:=by
 unfold St.splitHol at hr
 split at hr
 ·split at hr
  ·rename_i st2 h2
   obtain⟨e1,e2,e3⟩:=zuk h2
   obtain⟨q1,q2,q3⟩:=zj3 hr
   exact⟨q1.trans e1,q2.trans e2,by omega⟩
  ·cases hr
 ·exact zj3 hr
theorem zve {E:Env} {cb:CB} {o:Oper} {t:Tree St} (ht:zy0 E cb st o=some t) {st':St} (hr:t.run some=some st'):st'.ro=st.ro∧st'.fx=st.fx∧st.objs.length≤st'.objs.length:=by
 unfold zy0 at ht
 split at ht
 ·split at ht
  case isFalse=>cases ht
  simp only[Option.some.injEq] at ht
  subst ht
  split at hr
  case h_2=>cases hr
  obtain⟨st2,h1,h2⟩:=Tree.run_andThen _ hr
  rw[Tree.run_map] at h2
  obtain⟨⟨st3,c⟩,q1,q2⟩:=Tree.run_some _ h2
  simp only[Option.some.injEq] at q2
  subst q2
  obtain⟨e1,e2,e3⟩:=znz h1
  obtain⟨f1,f2,f3⟩:=zpv q1
  exact⟨f1.trans e1,f2.trans e2,by omega⟩
 ·split at ht
  case h_2=>cases ht
  split at ht
  case h_2=>cases ht
  split at ht
  case h_2=>cases ht
  split at ht
  ·simp only[Option.some.injEq] at ht
   subst ht
   unfold zuc at hr
   split at hr
   ·cases hr
   split at hr
   case h_2=>cases hr
   split at hr
   case isFalse=>cases hr
   simp only[Tree.run] at hr
   rename_i ys _ _ _ _ _ _ _ _
   generalize holD _ _ _=q at hr
   cases q with
   | none=>cases hr
   | some zs=>
   simp only[Option.bind_some] at hr
   split at hr
   case h_2=>cases hr
   rename_i st1 hk
   simp only[Tree.run,Option.some.injEq] at hr
   subst hr
   obtain⟨k1,k2,k3,_⟩:=z0f hk
   exact⟨by simp[St.put,k1],by simp[St.put,k2],by simp[St.put,k3]⟩
  ·simp only[Option.some.injEq] at ht
   subst ht
   exact zq2 hr
  ·cases ht
 ·cases ht
end
end Go.AM
