/- Stores: the operation. No condition. -/
import Derived.Test.YtdcbankajhnepaaGreatAmSub
set_option linter.unusedVariables false
set_option linter.unusedSimpArgs false
namespace Go.AM
theorem z5a {a b:Nat} (h:¬Nat.blt a b=true):b≤a:=Nat.not_lt.1 fun hl=>h (by simpa using hl)
theorem All2.nil_right {α β:Type} {R:α→β→Prop} {ys:List β} (h:All2 R [] ys):ys=[]:=by
 cases ys with
 | nil=>rfl
 | cons _ _=>exact h.elim
section
variable {C:Ctx} {st:St} {gh:Gh} {a:Act} {w:World}
theorem y08 (h:Rel C st gh a w) {M:List Nat} (hn:M.Nodup):(M.flatMap gh.ft).Nodup:=by
 induction M with
 | nil=>simp
 | cons m M ih=>
  obtain⟨h1,h2⟩:=List.nodup_cons.1 hn
  rw[List.flatMap_cons,List.nodup_append]
  refine⟨h.nd m,ih h2,fun b hb b' hb' e=>?_⟩
  subst e
  obtain⟨k,hk,hb'⟩:=List.mem_flatMap.1 hb'
  exact h1 (h.dj _ _ _ hb hb'▸hk)
theorem zt0 {st':St} {m:Bool} {l:Nat} (hk:st.kill m l=some st') {ls:List Leaf} {us:List Value} (hus:All2 (LeafOk C w gh st.objs) ls us):All2 (LeafOk C w gh st'.objs) (ls.map (Leaf.kill m l)) us:=by
 obtain⟨_,rfl⟩:=z4c hk
 have K:=za4 (os:=st.objs) (m:=m) (l:=l)
 exact hus.map fun c y _ hc=>zey (z6c K.1 K.2 hc)
theorem zgw {ls:List Leaf} {us:List Value} {os:Objs} (hus:All2 (LeafOk C w gh os) ls us) (hk:ls.all Leaf.known=true):∀ u∈us,u.oneCell'=true:=by
 intro u hu
 obtain⟨c,hc,hr⟩:=hus.mem hu
 exact hr.2 (List.all_eq_true.1 hk c hc)
theorem zh6 {t:Ty}:∀ (ls:List Leaf) {x z:t.den} {off:Nat},z34 t x off ls=some z→∀ c∈ls,c.known=true
 | [],_,_,_,_=>by simp
 | c::ls,x,z,off,hp=>by
  cases c<;>simp only[z34] at hp<;>try (cases hp; done)
  split at hp
  ·split at hp
   ·intro c hc
    rcases List.mem_cons.1 hc with rfl | hc
    ·rfl
    ·exact zh6 ls hp c hc
   ·cases hp
  ·cases hp
theorem zut {o:Oper} (h:Rel C st gh a w) {t:TypeId} {p x:Operand} (ho:o.op=.store t p x) {ti:TI} (hT:TabOk C.P t ti) {l:Nat} {i:Int} {off:Nat} {j:Int} {o2:Nat} (hp:LeafOk C w gh st.objs (.oel2 l i off j o2) (a.eval p)) {b:Bool} {ls:List Leaf} {us:List Value}
  (hpk:zci b us (a.eval x)) (hus:All2 (LeafOk C w gh st.objs) ls us) (hul:us.length=ti.ty.size) (hpos:0<ti.ty.size) {st':St} (hs:zk7 st l i off j o2 ls=some st'):∃ gh' w',(execOp a.eval o).run C.P w=.ok .skip w'∧Rel C st' gh' a w':=by
 obtain⟨⟨e,t',xs,L,s,u,ys,bk,ob,n,c,hob,hla,hj0,hj1,hsub,hpv⟩,_⟩:=hp
 obtain⟨e1,t1,xs1,L1,g,og,n1,c1,s1,z1,hob1,hi0,hi1,_,hhd,hcell⟩:=hsub
 rw[hob] at hob1
 cases hob1
 unfold zk7 at hs
 split at hs
 ·cases hs
 rename_i hro
 have hro:=bltF hro
 rw[hob] at hs
 simp only[hla] at hs
 split at hs
 case h_2=>cases hs
 rename_i q hput
 split at hs
 case h_2=>cases hs
 rename_i z hset
 split at hs
 case h_2=>cases hs
 rename_i st1 hk
 simp only[Option.some.injEq] at hs
 subst hs
 obtain⟨hr1,hcl⟩:=h.kill hk
 obtain⟨k1,k2,k3,k4,k5⟩:=z0f hk
 have hob1:=(k4 l e t' xs true L).2 hob
 have hrow:=h.objs l
 rw[hob] at hrow
 have hil:i.toNat<xs.length:=by omega
 obtain⟨G,v,g',og',n',c',hhd',hcell',hGF,hGn,hdeep,hfin⟩:=zs3 hrow (h.nd l) (z6w (d:=t'.zero) hi0 hi1) hla
 rw[hhd] at hhd'
 cases hhd'
 have hv:v=.slice (some ⟨bk,ob,none⟩) n c:=by rw[hcell] at hcell'; simpa using hcell'.symm
 subst hv
 obtain⟨v',he,hin⟩:=hdeep
 simp only[List.cons.injEq,and_true] at he
 subst he
 obtain⟨cur,hheap,hcsz,hbG⟩:=RowR.block hin rfl
 have hjl:j.toNat<List.length ys:=by omega
 have hmul:j.toNat*u.size+u.size≤List.length ys*u.size:=by have:=Nat.mul_le_mul_right u.size hjl; rw[Nat.succ_mul] at this; exact this
 have hne:ls≠[]:=by intro e; have:=hus.len; rw[e] at this; simp at this; omega
 have h1:=zgw hus (List.all_eq_true.2 fun c hc=>zh6 ls hput c hc)
 have hfit:o2+us.length≤u.size:=by
  rcases z4q (C:=C) (w:=w) (gh:=gh) (os:=st.objs) (t:=u) (fun _ cs=>cs.length=u.size) (fun _ _ h=>h) (fun x z cs off s y v h _ _ _=>by simpa using h) hus (cs:=List.replicate u.size undef) (by simp) hput with h2 | h2
  ·exact h2.1
  ·exact absurd h2.1 hne
 have hcells:=z3u hpk fun hb=>by subst hb; obtain rfl:us=[a.eval x]:=hpk; exact h1 _ (by simp)
 have hrun:=z2i hT ho hpv hcells h1 hul hheap (by omega)
 have hother:∀ b,b≠bk→(w.setRow bk (z07 (ob+j.toNat*u.size+o2) us cur.toList).toArray).heap[b]? = w.heap[b]?:=fun b hb=>setRow_other w bk b _ hb
 have hbF:bk∈gh.ft l:=hGF bk hbG
 have hrow':=hfin (w.setRow bk (z07 (ob+j.toNat*u.size+o2) us cur.toList).toArray) (ys.set j.toNat q) z hset (fun b _ hb=>hother b fun e=>hb (e▸hbG)) ⟨_,rfl,RowR.store (S:=fun _=>Deep u (w.setRow bk (z07 (ob+j.toNat*u.size+o2) us cur.toList).toArray)) hin (fun x F c hR=>Deep.len u hR) hGn (z6w (d:=u.zero) hj0 hj1) hfit rfl hheap (fun _ G' es hG' _ hR=>by
   have hR':=Deep.congr u hR fun b hb=>hother b (hG' b hb).2
   rcases z4q (C:=C) (w:=w) (gh:=gh) (os:=st.objs) (t:=u) (fun x cs=>Deep u _ x G' cs) (fun _ _ h=>Deep.len u h) (fun x z cs off s y v h1 h2 h3 h4=>zfi u h1 h2 h3 (h4 _)) hus hR' hput with h3 | h3
   ·exact h3.2
   ·exact absurd h3.1 hne) (fun _ y G' es hG' _ hR=>Deep.congr u hR fun b hb=>hother b (hG' b hb).2)⟩
 have hM:MoveOk C st1 gh w false l [] (.row e t' (xs.set i.toNat z) true L) (gh.hd l) (gh.ft l) (w.setRow bk (z07 (ob+j.toNat*u.size+o2) us cur.toList).toArray):=by
  refine⟨hcl,by simp,by omega,by simp,by simp,by simp,z0o (by rw[hob1]; simp),?_,fun _=>⟨rfl,fun e2 t2 xs2 d2 L2 he=>?_,fun cs he=>by (rw[hob1] at he; cases he)⟩,fun _=>⟨rfl,rfl⟩,fun b hb=>.inl hb,h.nd l⟩
  ·have:=Fr.setRow w bk (z07 (ob+j.toNat*u.size+o2) us cur.toList).toArray
   exact⟨this.os,this.tape,this.output,this.size,fun k hk hn=>this.block k hk fun e=>hn (e▸hbF),this.drawn⟩
  ·rw[hob1] at he
   cases he
   exact⟨_,_,_,rfl,by simp⟩
 refine⟨gh.mv l (gh.hd l) (gh.ft l) [],_,hrun,?_⟩
 have hrel:=hr1.move hM (by
  show RowR _ _ e t'.size ((gh.mv l _ _ []).hd l) ((gh.mv l _ _ []).ft l) _
  rw[Gh.mv_hd,Gh.mv_ft]
  exact hrow')
 simpa[z0n] using hrel
theorem zs8 {β:Type} {p:Nat} {v:β} {l:List β} (h:l[p]? = some v):z07 p [v] l=l:=by
 apply List.ext_getElem?
 intro k
 have hp:=(List.getElem?_eq_some_iff.1 h).1
 rw[z4l (by simp; omega)]
 split
 ·rfl
 ·split
  ·rename_i h1 h2
   have:k=p:=by simp at h2; omega
   subst this
   simp[h]
  ·rfl
theorem zsi {o:Oper} (h:Rel C st gh a w) {t:TypeId} {p x:Operand} (ho:o.op=.store t p x) {ti:TI} (hT:TabOk C.P t ti) {l:Nat} {i:Int} {off:Nat} {j:Int} {o2:Nat} (hp:LeafOk C w gh st.objs (.oel2 l i off j o2) (a.eval p)) {b:Bool} {ls:List Leaf} {us:List Value}
  (hpk:zci b us (a.eval x)) (hus:All2 (LeafOk C w gh st.objs) ls us) (hul:us.length=ti.ty.size) (hpos:0<ti.ty.size) {st':St} (hs:zjp st ti l i off j o2 ls=some st'):∃ gh' w',(execOp a.eval o).run C.P w=.ok .skip w'∧Rel C st' gh' a w':=by
 obtain⟨⟨e,t',xs,L,s,u,ys,bk,ob,n,c,hob,hla,hj0,hj1,hsub,hpv⟩,_⟩:=hp
 obtain⟨e1,t1,xs1,L1,g,og,n1,c1,s1,z1,hob1,hi0,hi1,_,hhd,hcell⟩:=hsub
 rw[hob] at hob1
 cases hob1
 unfold zjp at hs
 split at hs
 ·cases hs
 rename_i hge
 simp only[Bool.or_eq_true,not_or] at hge
 have hro:=bltF hge.1
 have hfxl:=bltF hge.2
 rw[hob] at hs
 simp only[hla] at hs
 split at hs
 case isFalse=>cases hs
 rename_i hcond
 simp only[Bool.and_eq_true,beq_iff_eq,decide_eq_true_eq] at hcond
 obtain⟨rfl,hty⟩:=hcond
 split at hs
 case h_2=>cases hs
 rename_i q M hget
 split at hs
 case h_2=>cases hs
 rename_i z hset
 split at hs
 case h_2=>cases hs
 rename_i st1 hmv
 simp only[Option.some.injEq] at hs
 subst hs
 obtain⟨hr1,hcl,hcM,hroM,hlM,hMn,k1,k2,k3,k4⟩:=h.moveSt hmv
 have hob1:=(k4 l e t' xs true L).2 hob
 have hrow:=h.objs l
 rw[hob] at hrow
 obtain⟨v1,v2,rfl,hd,h2⟩:=z9f h.objs u hus hget
 obtain rfl:=h2.nil_right
 rw[List.append_nil] at *
 have h1:=Deep.one u hd
 have hlt':=Deep.len u hd
 have hcells:=z3u hpk fun hb=>by subst hb; obtain rfl:v1=[a.eval x]:=hpk; exact h1 _ (by simp)
 obtain⟨G,v,g',og',n',c',cur,hhd',hgh,hplt,hcell',hGF,hgF,hgG,hGn,hdeep,hfin⟩:=zs4 hrow (h.nd l) (z6w (d:=t'.zero) hi0 hi1) hla
 rw[hhd] at hhd'
 cases hhd'
 have hv:v=.slice (some ⟨bk,ob,none⟩) n c:=by rw[hcell] at hcell'; simpa using hcell'.symm
 subst hv
 obtain⟨v',he,hin⟩:=hdeep
 simp only[List.cons.injEq,and_true] at he
 subst he
 obtain⟨cur2,hheap,hcsz,hbG⟩:=RowR.block hin rfl
 have hjl:j.toNat<List.length ys:=by omega
 have hmul:j.toNat*u.size+u.size≤List.length ys*u.size:=by have:=Nat.mul_le_mul_right u.size hjl; rw[Nat.succ_mul] at this; exact this
 have hrun:=z2i hT ho hpv hcells h1 hul hheap (by rw[hlt',Nat.add_zero]; omega)
 rw[Nat.add_zero] at hrun
 have hdis:∀ b∈M.flatMap gh.ft,b∉gh.ft l:=by
  intro b hb hb'
  obtain⟨k,hk,hbk⟩:=List.mem_flatMap.1 hb
  exact hlM (h.dj _ _ _ hb' hbk▸hk)
 have hother:∀ b,b≠bk→(w.setRow bk (z07 (ob+j.toNat*u.size) v1 cur2.toList).toArray).heap[b]? = w.heap[b]?:=fun b hb=>setRow_other w bk b _ hb
 have hbF:bk∈gh.ft l:=hGF bk hbG
 obtain⟨F2,hF2n,hF2m,hrow2⟩:=RowR.replace (S:=fun W=>Deep u W) hin (fun x F c hR=>Deep.len u hR) hGn hjl hlt' rfl hheap (y08 h hMn) (fun b hb hb'=>hdis b hb (hGF b hb'))
  (fun W hW=>Deep.congr u hd fun b hb=>hW b fun e=>hdis b hb (e▸hbF)) (fun W y G' es hG' hW hR=>Deep.congr u hR fun b hb=>hW b (hG' b hb).2)
 have hgbk:g≠bk:=fun e=>hgG (e▸hbG)
 have hspl:z07 (og+i.toNat*t'.size+off) [Value.slice (some ⟨bk,ob,none⟩) n c] cur.toList=cur.toList:=by
  refine zs8 ?_
  rw[cell_of_row w g _ cur e (0,0) hgh] at hcell
  rw[Array.getElem?_toList]
  exact hcell
 obtain⟨F',f1,f2,hrow'⟩:=hfin (w.setRow bk (z07 (ob+j.toNat*u.size) v1 cur2.toList).toArray) (ys.set j.toNat q) z (.slice (some ⟨bk,ob,none⟩) n c) F2 hset (by rw[hspl,hother g hgbk]; simpa using hgh)
  (fun b _ hb _=>hother b fun e=>hb (e▸hbG)) ⟨_,rfl,hrow2⟩ hF2n (fun b hb hbl=>by
   rcases hF2m b hb with h3 | h3
   ·exact h3
   ·exact absurd hbl (hdis b h3))
 have hM:MoveOk C st1 gh w false l M (.row e t' (xs.set i.toNat z) true L) (gh.hd l) F' (w.setRow bk (z07 (ob+j.toNat*u.size) v1 cur2.toList).toArray):=by
  refine⟨hcl,hcM,by omega,fun k hk=>by have:=hroM k hk; omega,fun k hk=>by have:=hroM k hk; omega,hlM,z0o (by rw[hob1]; simp),?_,fun _=>⟨rfl,fun e t xs d L he=>?_,fun cs he=>by (rw[hob1] at he; cases he)⟩,fun hl=>by omega,fun b hb=>?_,f1⟩
  ·have:=Fr.setRow w bk (z07 (ob+j.toNat*u.size) v1 cur2.toList).toArray
   exact⟨this.os,this.tape,this.output,this.size,fun k hk hn=>this.block k hk fun e=>hn (e▸hbF),this.drawn⟩
  ·rw[hob1] at he
   have he:=he.symm
   cases he
   exact⟨_,_,_,rfl,by simp⟩
  ·rcases f2 b hb with ⟨h3,_⟩ | h3
   ·exact .inl h3
   ·rcases hF2m b h3 with h4 | h4
    ·exact .inl (hGF b h4)
    ·obtain⟨k,hk,hbk⟩:=List.mem_flatMap.1 h4
     exact .inr (.inl ⟨k,hk,hbk⟩)
 refine⟨_,_,hrun,hr1.move hM ?_⟩
 show RowR _ _ e t'.size ((gh.mv l _ _ M).hd l) ((gh.mv l _ _ M).ft l) _
 rw[Gh.mv_hd,Gh.mv_ft]
 exact hrow'
theorem zqh {o:Oper} (h:Rel C st gh a w) {t:TypeId} {p x:Operand} (ho:o.op=.store t p x) {ti:TI} (hT:TabOk C.P t ti) {l:Nat} {i:Int} {off:Nat} (hp:LeafOk C w gh st.objs (.oela l i off) (a.eval p)) {b:Bool} {ls:List Leaf} {us:List Value}
  (hpk:zci b us (a.eval x)) (hus:All2 (LeafOk C w gh st.objs) ls us) (hul:us.length=ti.ty.size) (hpos:0<ti.ty.size) {st':St} (hs:z81 st l i off ls=some st'):∃ gh' w',(execOp a.eval o).run C.P w=.ok .skip w'∧Rel C st' gh' a w':=by
 obtain⟨⟨e,t',xs,d,L,g,og,n,c,hob,hi0,hi1,hhd,hpv⟩,_⟩:=hp
 unfold z81 at hs
 rw[hob] at hs
 simp only at hs
 split at hs
 ·cases hs
 rename_i hge
 simp only[Bool.or_eq_true,not_or] at hge
 have hro:=bltF hge.1
 have hnl:l∉zl0 ls:=zur (Bool.eq_false_iff.2 hge.2)
 split at hs
 case h_2=>cases hs
 rename_i ls1 st1 hf
 split at hs
 case h_2=>cases hs
 rename_i st2 hlo
 split at hs
 case h_2=>cases hs
 rename_i z M hput
 split at hs
 ·cases hs
 rename_i hMl
 have hMl:=Bool.eq_false_iff.2 hMl
 split at hs
 case h_2=>cases hs
 rename_i st3 hk
 simp only[Option.some.injEq] at hs
 subst hs
 obtain⟨g1,hr1,s1,hl1,b1,o1⟩:=Rel.frzLs _ h hus hf
 obtain⟨g2,hr2,s2,hfxd,hob2,o2,lf2⟩:=hr1.loose hlo ((o1 l e t' xs d L hnl).2 hob)
 have S:=s1.trans s2
 have hus2:All2 (LeafOk C w g2 st2.objs) (ls1.map (Leaf.kill false l)) us:=hl1.map fun c v _ hc=>lf2 c v hc
 have hrow:=hr2.objs l
 rw[hob2] at hrow
 have hhd2:g2.hd l=.slice (some ⟨g,og,none⟩) n c:=by rw[S.hd]; exact hhd
 obtain⟨cur,hheap,hcsz,hgF⟩:=RowR.block hrow hhd2
 have hil:i.toNat<xs.length:=by omega
 have hmul:i.toNat*t'.size+t'.size≤xs.length*t'.size:=by have:=Nat.mul_le_mul_right t'.size hil; rw[Nat.succ_mul] at this; exact this
 have hput':∀ es,ImmS t' (rd xs i t'.zero) es w (UU C.U0 g2 L)→((ls1.map (Leaf.kill false l))=[]∨off+us.length≤t'.size)∧(ls1.map (Leaf.kill false l)).all Leaf.known=true∧ImmS t' z (z07 off us es) w (UU C.U0 g2 (uni L M)):=fun es he=>
  zn8 hr2.dj hr2.sep0 hr2.lt hr2.objs hus2 (he.sub fun b _ hb=>UU.mono (fun k hk=>by rw[zgq,hk,Bool.true_or]) hb) hput fun k hk=>by rw[zgq,hk,Bool.or_true]
 obtain⟨g0,og0,n0,c0,_,G0,es0,hR0,_,_⟩:=RowR.cells (fun x F c hR=>(z12 hR).1) hrow (z6w (d:=t'.zero) hi0 hi1)
 obtain⟨q1,q2,_⟩:=hput' es0 hR0.2
 have hne:ls1.map (Leaf.kill false l)≠[]:=by
  intro he
  have:=hus2.len
  rw[he] at this
  simp at this; omega
 have hfit:=q1.resolve_left hne
 have h1:=zgw hus2 q2
 have hcells:=z3u hpk fun hb=>by subst hb; obtain rfl:us=[a.eval x]:=hpk; exact h1 _ (by simp)
 have hrun:=z2i hT ho hpv hcells h1 hul hheap (by omega)
 obtain⟨hr3,hcl⟩:=hr2.kill hk
 obtain⟨k1,k2,k3,k4,k5⟩:=z0f hk
 have hob3:=(k4 l e t' xs false L).2 hob2
 have hM:MoveOk C st3 g2 w false l [] (.row e t' (xs.set i.toNat z) false (uni L M)) (g2.hd l) (g2.ft l) (w.setRow g (z07 (og+i.toNat*t'.size+off) us cur.toList).toArray):=by
  refine⟨hcl,by simp,by rw[k1,S.ro]; exact hro,by simp,by simp,by simp,z0o (by rw[hob3]; simp),?_,fun _=>⟨rfl,fun e1 t1 xs1 d1 L1 he=>?_,fun cs he=>by (rw[hob3] at he; cases he)⟩,fun _=>⟨rfl,rfl⟩,fun b hb=>.inl hb,hr2.nd l⟩
  ·have:=Fr.setRow w g (z07 (og+i.toNat*t'.size+off) us cur.toList).toArray
   exact⟨this.os,this.tape,this.output,this.size,fun k hk hn=>this.block k hk fun e=>hn (e▸hgF),this.drawn⟩
  ·rw[hob3] at he
   cases he
   exact⟨_,_,_,rfl,by simp⟩
 refine⟨g2.mv l (g2.hd l) (g2.ft l) [],_,hrun,?_⟩
 have hnoL:∀ j,(j=l∨j∈([]:List Nat))→has L j=false:=hM.noL hob3
 have hnoU:∀ j,(j=l∨j∈([]:List Nat))→has (uni L M) j=false:=fun j hj=>by
  rw[zgq,hnoL j hj]
  rcases hj with rfl | hj
  ·exact hMl
  ·cases hj
 have hrel:=hr3.move hM ?_
 ·simpa[z0n] using hrel
 ·show RowR _ _ e t'.size ((g2.mv l _ _ []).hd l) ((g2.mv l _ _ []).ft l) _
  rw[Gh.mv_hd,Gh.mv_ft]
  refine RowR.store (S:=fun _=>z38 C (w.setRow g (z07 (og+i.toNat*t'.size+off) us cur.toList).toArray) (g2.mv l (g2.hd l) (g2.ft l) []) t' false (uni L M)) hrow (fun x F c hR=>(z12 hR).1) (hr2.nd l) (z6w hi0 hi1 (d:=t'.zero)) hfit hhd2 hheap (fun _ G es hG _ hR=>⟨hR.1,zf3 hM.tr hnoU (hput' es hR.2).2.2⟩) (fun _ y G es hG _ hR=>⟨hR.1,(zf3 hM.tr hnoL hR.2).sub fun b _ hb=>UU.mono (fun k hk=>by rw[zgq,hk,Bool.true_or]) hb⟩)
theorem zzm {E:Env} (hE:EnvOk C.P C.Γ E) {o:Oper} (h:Rel C st gh a w) {t:TypeId} {p x:Operand} (ho:o.op=.store t p x) {ti:TI} (ht:tyOf E t=some ti) {st':St} (hs:z8f st ti (st.ev p).leaf (st.ev x)=some st'):
  ∃ gh' w',(execOp a.eval o).run C.P w=.ok .skip w'∧Rel C st' gh' a w':=by
 have hT:=hE.tab _ _ ht
 have hp:=h.leaf p
 unfold z8f at hs
 split at hs
 ·cases hs
 rename_i b ls hls
 obtain⟨us,hpk,hus⟩:=h.leaves x hls
 split at hs
 case isFalse=>cases hs
 rename_i hlen
 simp only[Bool.and_eq_true,beq_iff_eq] at hlen
 have hpos:0<ti.ty.size:=by have:=hlen.2; simpa using this
 have hul:us.length=ti.ty.size:=by rw[←hus.len]; exact hlen.1
 split at hs
 ·
  rename_i l off hc
  rw[hc] at hp
  obtain⟨⟨hpv,cs0,hob0⟩,_⟩:=hp
  split at hs
  ·cases hs
  rename_i hro
  have hro:=z5a hro
  split at hs
  ·cases hs
  rename_i st1 hk
  obtain⟨hr1,hcl⟩:=h.kill hk
  obtain⟨k1,k2,k3,k4,k5⟩:=z0f hk
  split at hs
  case h_2=>cases hs
  rename_i cs hob
  split at hs
  case h_2=>cases hs
  rename_i cs' hput
  split at hs
  case isFalse=>cases hs
  rename_i hkn
  simp only[Option.some.injEq] at hs
  subst hs
  have hus1:=zt0 hk hus
  have h1:=zgw hus1 hkn
  have hcells:=z3u hpk fun hb=>by subst hb; obtain rfl:us=[a.eval x]:=hpk; exact h1 _ (by simp)
  have hbx:=hr1.objs l
  rw[hob] at hbx
  obtain⟨hft,arr,T,hheap,hcs⟩:=hbx
  unfold z83 at hput
  split at hput
  case isFalse=>cases hput
  rename_i hle
  simp only[Option.some.injEq] at hput
  subst hput
  have hcl1:cs.length=arr.size:=by have:=hcs.len; rwa [Array.length_toList] at this
  rw[List.length_map,hus.len] at hle
  have hrun:=z2i hT ho hpv hcells h1 hul hheap (by rw[←hcl1]; exact hle)
  have hgl:gh.bk l∈gh.ft l:=by rw[hft]; simp
  have hM:MoveOk C st1 gh w false l [] (.box (z07 off (ls.map (Leaf.kill false l)) cs)) (gh.hd l) (gh.ft l) (w.setRow (gh.bk l) (z07 off us arr.toList).toArray):=by
   refine⟨hcl,by simp,by omega,by simp,by simp,by simp,z0o (by rw[hob]; simp),?_,fun _=>⟨rfl,fun e t xs d L he=>by (rw[hob] at he; cases he),fun _ _=>⟨_,rfl⟩⟩,fun _=>⟨rfl,rfl⟩,fun b hb=>.inl hb,h.nd l⟩
   have:=Fr.setRow w (gh.bk l) (z07 off us arr.toList).toArray
   exact⟨this.os,this.tape,this.output,this.size,fun k hk hn=>this.block k hk fun e=>hn (e▸hgl),this.drawn⟩
  refine⟨gh.mv l (gh.hd l) (gh.ft l) [],_,hrun,?_⟩
  have hrel:=hr1.move hM ?_
  ·simpa[z0n,z07] using hrel
  ·refine⟨by rw[Gh.mv_ft,Gh.mv_bk,hft],(z07 off us arr.toList).toArray,T,?_,?_⟩
   ·rw[Gh.mv_bk]
    exact setRow_heap w (gh.bk l) arr _ T _ hheap
   ·rw[List.toList_toArray]
    have hall:All2 (LeafOk C w gh st1.objs) (z07 off (ls.map (Leaf.kill false l)) cs) (z07 off us arr.toList):=by
     refine ((hcs.take _).app hus1).app ?_
     rw[hus1.len]
     exact hcs.drop _
    refine hall.mono fun c v hc hv=>z52 hM.tr h.dj hr1.objs (zbx ?_ (by simp) (by simp)) hv
    unfold z07 at hc
    rcases List.mem_append.1 hc with hc | hc
    ·rcases List.mem_append.1 hc with hc | hc
     ·exact hcl.boxes l cs hob c (List.mem_of_mem_take hc)
     ·obtain⟨d,_,rfl⟩:=List.mem_map.1 hc
      exact z87 d
    ·exact hcl.boxes l cs hob c (List.mem_of_mem_drop hc)
 ·
  rename_i l i off hc
  rw[hc] at hp
  obtain⟨⟨e,t',xs,deep,L,g,og,n,c,hob,hi0,hi1,hhd,hpv⟩,hp2⟩:=hp
  split at hs
  ·cases hs
  rename_i hro
  have hro:=z5a hro
  rw[hob] at hs
  simp only at hs
  have hrow:=h.objs l
  rw[hob] at hrow
  obtain⟨cur,hheap,hcsz,hgF⟩:=RowR.block hrow hhd
  have hil:i.toNat<xs.length:=by omega
  have hmul:i.toNat*t'.size+t'.size≤xs.length*t'.size:=by have:=Nat.mul_le_mul_right t'.size hil; rw[Nat.succ_mul] at this; exact this
  split at hs
  ·
   rename_i hflat
   split at hs
   case h_2=>cases hs
   rename_i z hput
   split at hs
   case h_2=>cases hs
   rename_i st1 hk
   simp only[Option.some.injEq] at hs
   subst hs
   obtain⟨hr1,hcl⟩:=h.kill hk
   obtain⟨k1,k2,k3,k4,k5⟩:=z0f hk
   have hob1:=(k4 l e t' xs deep L).2 hob
   have hne:ls≠[]:=by intro e; rw[e] at hlen; simp at hlen; omega
   have hfit:off+us.length≤t'.size∧∀ u∈us,u.oneCell'=true:=by
    have hdum:=z4q (C:=C) (w:=w) (gh:=gh) (os:=st.objs) (t:=t') (fun _ cs=>cs.length=t'.size) (fun _ _ h=>h) (fun x z cs off s y v h _ _ _=>by simpa using h) hus (cs:=List.replicate t'.size undef) (by simp) hput
    rcases hdum with h1 | h1
    ·refine⟨h1.1,fun u hu=>?_⟩
     obtain⟨c,hc,hr⟩:=hus.mem hu
     refine hr.2 ?_
     have:∀ (ls:List Leaf) {x z:t'.den} {off:Nat},z34 t' x off ls=some z→∀ c∈ls,c.known=true:=by
      intro ls
      induction ls with
      | nil=>simp
      | cons c ls ih=>
       intro x z off hp
       cases c<;>simp only[z34] at hp<;>try (cases hp; done)
       split at hp
       ·split at hp
        ·intro c hc
         rcases List.mem_cons.1 hc with rfl | hc
         ·rfl
         ·exact ih hp c hc
        ·cases hp
       ·cases hp
     exact this ls hput c hc
    ·exact absurd h1.1 hne
   have hcells:=z3u hpk fun hb=>by subst hb; obtain rfl:us=[a.eval x]:=hpk; exact hfit.2 _ (by simp)
   have hrun:=z2i hT ho hpv hcells hfit.2 hul hheap (by omega)
   have hM:MoveOk C st1 gh w false l [] (.row e t' (xs.set i.toNat z) deep L) (gh.hd l) (gh.ft l) (w.setRow g (z07 (og+i.toNat*t'.size+off) us cur.toList).toArray):=by
    refine⟨hcl,by simp,by omega,by simp,by simp,by simp,z0o (by rw[hob1]; simp),?_,fun _=>⟨rfl,fun e t xs d L he=>?_,fun cs he=>by (rw[hob1] at he; cases he)⟩,fun _=>⟨rfl,rfl⟩,fun b hb=>.inl hb,h.nd l⟩
    ·have:=Fr.setRow w g (z07 (og+i.toNat*t'.size+off) us cur.toList).toArray
     exact⟨this.os,this.tape,this.output,this.size,fun k hk hn=>this.block k hk fun e=>hn (e▸hgF),this.drawn⟩
    ·rw[hob1] at he
     have he:=he.symm
     cases he
     exact⟨_,_,_,rfl,by simp⟩
   refine⟨gh.mv l (gh.hd l) (gh.ft l) [],_,hrun,?_⟩
   have hrel:=hr1.move hM ?_
   ·simpa[z0n] using hrel
   ·show RowR _ _ e t'.size ((gh.mv l _ _ []).hd l) ((gh.mv l _ _ []).ft l) _
    rw[Gh.mv_hd,Gh.mv_ft]
    have hnoL:∀ j,(j=l∨j∈([]:List Nat))→has L j=false:=hM.noL hob1
    have hother:∀ b,b≠g→(w.setRow g (z07 (og+i.toNat*t'.size+off) us cur.toList).toArray).heap[b]? = w.heap[b]?:=fun b hb=>setRow_other w g b _ hb
    refine RowR.store (S:=fun _=>z38 C (w.setRow g (z07 (og+i.toNat*t'.size+off) us cur.toList).toArray) (gh.mv l (gh.hd l) (gh.ft l) []) t' deep L) hrow (fun x F c hR=>(z12 hR).1) (h.nd l) (z6w hi0 hi1 (d:=t'.zero)) hfit.1 hhd hheap (fun _ G es hG _ hR=>?_) (fun _ y G es hG _ hR=>?_)
    ·unfold z38 at hR ⊢
     cases deep with
     | true=>
      simp only[if_true] at hR ⊢
      have hR':=Deep.congr t' hR fun b hb=>hother b (hG b hb).2
      rcases z4q (C:=C) (w:=w) (gh:=gh) (os:=st.objs) (t:=t') (fun x cs=>Deep t' _ x G cs) (fun _ _ h=>Deep.len t' h) (fun x z cs off s y v h1 h2 h3 h4=>zfi t' h1 h2 h3 (h4 _)) hus hR' hput with h1 | h1
      ·exact h1.2
      ·exact absurd h1.1 hne
     | false=>
      simp only[Bool.false_eq_true,if_false] at hR ⊢
      refine⟨hR.1,?_⟩
      have hR':=zf3 hM.tr hnoL hR.2
      rcases z4q (C:=C) (w:=w) (gh:=gh) (os:=st.objs) (t:=t') (fun x cs=>ImmS t' x cs _ _) (fun _ _ h=>Rep.len t' h.rep) (fun x z cs off s y v h1 h2 h3 h4=>fun W hW=>zkk t' (h1 W hW) h2 h3 (h4 _)) hus hR' hput with h1 | h1
      ·exact h1.2
      ·exact absurd h1.1 hne
    ·unfold z38 at hR ⊢
     cases deep with
     | true=>exact Deep.congr t' hR fun b hb=>hother b (hG b hb).2
     | false=>exact⟨hR.1,zf3 hM.tr hnoL hR.2⟩
  ·
   have shal:z81 st l i off ls=some st'→∃ gh' w',(execOp a.eval o).run C.P w=.ok .skip w'∧Rel C st' gh' a w':=fun hs=>zqh h ho hT ⟨⟨e,t',xs,deep,L,g,og,n,c,hob,hi0,hi1,hhd,hpv⟩,hp2⟩ hpk hus hul hpos hs
   split at hs
   case isFalse=>exact shal hs
   rename_i hcond
   simp only[Bool.and_eq_true,beq_iff_eq,decide_eq_true_eq,Bool.not_eq_true'] at hcond
   obtain⟨⟨⟨hdeep,hoff⟩,hty⟩,hfxl⟩:=hcond
   subst hdeep; subst hoff
   have hfxl:st.fx≤l:=z5a (by rw[hfxl]; simp)
   split at hs
   case h_2=>exact shal hs
   rename_i z M hget
   split at hs
   case h_2=>exact shal hs
   rename_i st1 hmv
   simp only[Option.some.injEq] at hs
   subst hs
   obtain⟨hr1,hcl,hcM,hroM,hlM,hMn,k1,k2,k3,k4⟩:=h.moveSt hmv
   have hob1:=(k4 l e t' xs true L).2 hob
   obtain⟨v1,v2,rfl,hd,h2⟩:=z9f h.objs t' hus hget
   obtain rfl:=h2.nil_right
   rw[List.append_nil] at *
   have h1:=Deep.one t' hd
   have hlt':=Deep.len t' hd
   have hcells:=z3u hpk fun hb=>by subst hb; obtain rfl:v1=[a.eval x]:=hpk; exact h1 _ (by simp)
   have hrun:=z2i hT ho hpv hcells h1 hul hheap (by rw[hlt',Nat.add_zero]; omega)
   rw[Nat.add_zero] at hrun
   have hdis:∀ b∈M.flatMap gh.ft,b∉gh.ft l:=by
    intro b hb hb'
    obtain⟨k,hk,hbk⟩:=List.mem_flatMap.1 hb
    exact hlM (h.dj _ _ _ hb' hbk▸hk)
   have hother:∀ b,b≠g→(w.setRow g (z07 (og+i.toNat*t'.size) v1 cur.toList).toArray).heap[b]? = w.heap[b]?:=fun b hb=>setRow_other w g b _ hb
   obtain⟨F',hF'n,hF'm,hrow'⟩:=RowR.replace (S:=fun _=>z38 C (w.setRow g (z07 (og+i.toNat*t'.size) v1 cur.toList).toArray) gh t' true L) hrow (fun x F c hR=>(z12 hR).1) (h.nd l) hil hlt' hhd hheap (y08 h hMn) hdis
    (fun _ _=>Deep.congr t' hd fun b hb=>hother b fun e=>hdis b hb (e▸hgF)) (fun _ y G es hG _ hR=>Deep.congr t' hR fun b hb=>hother b (hG b hb).2)
   have hM:MoveOk C st1 gh w false l M (.row e t' (xs.set i.toNat z) true L) (gh.hd l) F' (w.setRow g (z07 (og+i.toNat*t'.size) v1 cur.toList).toArray):=by
    refine⟨hcl,hcM,by omega,fun k hk=>by have:=hroM k hk; omega,fun k hk=>by have:=hroM k hk; omega,hlM,z0o (by rw[hob1]; simp),?_,fun _=>⟨rfl,fun e t xs d L he=>?_,fun cs he=>by (rw[hob1] at he; cases he)⟩,fun hl=>by omega,fun b hb=>?_,hF'n⟩
    ·have:=Fr.setRow w g (z07 (og+i.toNat*t'.size) v1 cur.toList).toArray
     exact⟨this.os,this.tape,this.output,this.size,fun k hk hn=>this.block k hk fun e=>hn (e▸hgF),this.drawn⟩
    ·rw[hob1] at he
     have he:=he.symm
     cases he
     exact⟨_,_,_,rfl,by simp⟩
    ·rcases hF'm b hb with h3 | h3
     ·exact .inl h3
     ·obtain⟨k,hk,hbk⟩:=List.mem_flatMap.1 h3
      exact .inr (.inl ⟨k,hk,hbk⟩)
   refine⟨_,_,hrun,hr1.move hM ?_⟩
   show RowR _ _ e t'.size ((gh.mv l _ _ M).hd l) ((gh.mv l _ _ M).ft l) _
   rw[Gh.mv_hd,Gh.mv_ft]
   exact hrow'
 ·rename_i l i off j o2 hc
  rw[hc] at hp
  split at hs
  ·exact zut h ho hT hp hpk hus hul hpos hs
  ·exact zsi h ho hT hp hpk hus hul hpos hs
 ·cases hs
end
end Go.AM
