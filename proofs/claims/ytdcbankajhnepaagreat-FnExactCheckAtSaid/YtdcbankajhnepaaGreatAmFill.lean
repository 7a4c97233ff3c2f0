/- A variable takes a place that was laid by for it. No condition. -/
import Derived.Test.YtdcbankajhnepaaGreatAmRow
set_option linter.unusedVariables false
set_option linter.unusedSimpArgs false
namespace Go.AM
section
variable {C:Ctx} {st:St} {gh:Gh} {a:Act} {w:World}
def Gh.slot (gh:Gh) (l n:Nat):Gh:=
 {hd:=fun k=>if k=l then gh.hd n else gh.hd k,bk:=fun k=>if k=l then gh.bk n else gh.bk k,ft:=fun k=>if k=l then gh.ft n else if k=n then [] else gh.ft k }
def zg9 (ob:AObj):Prop:=(∃ e t xs,ob=.row e t xs true [])∨∃ cs,ob=.box cs∧∀ c∈cs,c.code=[]
theorem Rel.toSlot (h:Rel C st gh a w) {l:Nat} (hd:obj st.objs l=.dead) (hro:st.ro≤l) (hfx:st.fx≤l) (hl:l<st.objs.length) {ob:AObj} {gh1:Gh} {w1:World} (hg:Grow C st gh w gh1 w1) (h1:Rel C { st with objs:=st.objs++[ob] } gh1 a w1) (hob:zg9 ob):
  Rel C { st with objs:=st.objs.set l ob } (gh1.slot l st.objs.length) a w1:=by
 obtain⟨hfr,hsame,hnew⟩:=hg
 have hft0:gh.ft l=[]:=by have:=h.objs l; rw[hd] at this; exact this
 have go:∀ k,k<st.objs.length→k≠l→(gh1.slot l st.objs.length).hd k=gh.hd k∧(gh1.slot l st.objs.length).bk k=gh.bk k∧(gh1.slot l st.objs.length).ft k=gh.ft k:=fun k hk e=>by
  obtain⟨q1,q2,q3⟩:=hsame k hk
  simp only[Gh.slot,if_neg e,if_neg (show ¬k=st.objs.length by omega)]
  exact⟨q1,q2,q3⟩
 have gl:(gh1.slot l st.objs.length).hd l=gh1.hd st.objs.length∧(gh1.slot l st.objs.length).bk l=gh1.bk st.objs.length∧(gh1.slot l st.objs.length).ft l=gh1.ft st.objs.length:=by simp[Gh.slot]
 have gn:∀ k,st.objs.length≤k→(gh1.slot l st.objs.length).ft k=[]:=fun k hk=>by
  simp only[Gh.slot,if_neg (show ¬k=l by omega)]
  split
  ·rfl
  ·exact z6f h1 (by simp; omega)
 have hup:∀ {k b},b∈(gh1.slot l st.objs.length).ft k→(k=l∧b∈gh1.ft st.objs.length)∨(k≠l∧k<st.objs.length∧b∈gh.ft k∧b∈gh1.ft k):=by
  intro k b hb
  by_cases e:k=l
  ·subst e; rw[gl.2.2] at hb; exact .inl ⟨rfl,hb⟩
  ·by_cases hk:k<st.objs.length
   ·have hb2:=hb
    rw[(go k hk e).2.2] at hb
    exact .inr ⟨e,hk,hb,by rw[(hsame k hk).2.2]; exact hb⟩
   ·rw[gn k (by omega)] at hb; cases hb
 have hT:Tr C w gh st.objs w1 (gh1.slot l st.objs.length) (st.objs.set l ob) (fun _=>False) (fun _=>False):=by
  refine⟨hfr.size,fun b hb=>.inl (hfr.block b hb id),fun k b hb hk=>?_,fun k _ hk=>?_,fun k hk hH=>hH.elim⟩
  ·rcases hup hk with ⟨_,h2⟩ | ⟨_,_,h2,_⟩
   ·have:=hnew _ _ (Nat.le_refl _) h2; omega
   ·exact⟨k,h2,.inl rfl⟩
  ·have e:k≠l:=fun e=>hk (e▸hd)
   exact⟨z01 e,go k (z0o hk) e⟩
 refine⟨h1.fr,h1.u0,h1.gl,fun k b hb=>?_,fun k b hk hb=>?_,fun k k' b hb hb'=>?_,fun k=>?_,fun k b hb=>?_,fun k=>?_,fun k hk=>?_,h.fm,h.len,fun i=>?_,h.df,h.frm.mono fun c y hc hk=>z52 hT h.dj h.objs z2f hk⟩
 ·rcases hup hb with ⟨_,h2⟩ | ⟨_,_,_,h2⟩<;>exact h1.lt _ _ h2
 ·rcases hup hb with ⟨_,h2⟩ | ⟨_,_,_,h2⟩
  ·exact h1.own st.objs.length b (by show st.ro≤st.objs.length; omega) h2
  ·exact h1.own _ _ hk h2
 ·rcases hup hb with ⟨e1,h2⟩ | ⟨e1,k1,_,h2⟩<;>rcases hup hb' with ⟨f1,j2⟩ | ⟨f1,m1,_,j2⟩
  ·rw[e1,f1]
  ·have:=h1.dj _ _ _ h2 j2; omega
  ·have:=h1.dj _ _ _ h2 j2; omega
  ·exact h1.dj _ _ _ h2 j2
 ·by_cases e:k=l
  ·subst e; rw[gl.2.2]; exact h1.nd _
  ·by_cases hk:k<st.objs.length
   ·rw[(go k hk e).2.2]; exact h.nd k
   ·rw[gn k (by omega)]; exact List.nodup_nil
 ·rcases hup hb with ⟨_,h2⟩ | ⟨_,_,_,h2⟩<;>exact h1.sep _ _ h2
 ·by_cases e:k=l
  ·subst e
   show z2n C _ _ _ k (obj (st.objs.set k ob) k)
   rw[z0a hl]
   have hb:=h1.objs st.objs.length
   rw[show obj (st.objs++[ob]) st.objs.length=ob by simp[obj,List.getD]] at hb
   rcases hob with ⟨e0,t0,xs,rfl⟩ | ⟨cs,rfl,hcs⟩
   ·show RowR _ _ _ _ ((gh1.slot k st.objs.length).hd k) ((gh1.slot k st.objs.length).ft k) xs
    rw[gl.1,gl.2.2]
    refine RowR.congr hb (fun _ _=>rfl) fun x G c _ hR=>?_
    unfold z38 at hR ⊢
    exact hR
   ·obtain⟨q1,arr,T,q2,q3⟩:=hb
    refine⟨by rw[gl.2.2,gl.2.1]; exact q1,arr,T,by rw[gl.2.1]; exact q2,q3.mono fun c v hc hv=>?_⟩
    have hcode:=hcs c hc
    refine⟨?_,hv.2⟩
    have hv:=hv.1
    have hU:∀ L b,UU C.U0 (gh1.slot k st.objs.length) L b→has L k=false→UU C.U0 gh1 [] b:=fun L b hu _=>by
     rcases hu with hu | ⟨j,hj,hbj⟩
     ·exact .inl hu
     ·rcases hup hbj with ⟨_,h2⟩ | ⟨_,_,_,h2⟩
      ·exact .inr ⟨_,rfl,h2⟩
      ·exact .inr ⟨_,rfl,h2⟩
    cases c with
    | val t x L=>
     have hL:L=[]:=by simpa[Leaf.code,Leaf.on,Leaf.men] using hcode
     subst hL
     exact hv.sub fun b _ hb=>hU [] b hb rfl
    | ela t x i o L=>
     have hL:L=[]:=by simpa[Leaf.code,Leaf.on,Leaf.men] using hcode
     subst hL
     obtain⟨z0,z1,b,o',c',z2,z3⟩:=hv
     exact⟨z0,z1,b,o',c',z2,z3.sub fun b _ hb=>hU [] b hb rfl⟩
    | fn g caps=>
     have hc0:caps=[]:=by simpa[Leaf.code,Leaf.on,Leaf.men] using hcode
     subst hc0
     exact⟨hv.1,by simp⟩
    | undef=>trivial
    | skip=>exact hv
    | nilS=>exact hv
    | clo a b p=>exact hv
    | own _=>simp[Leaf.code,Leaf.on,Leaf.men] at hcode
    | sub _ _ _=>simp[Leaf.code,Leaf.on,Leaf.men] at hcode
    | ptr _ _=>simp[Leaf.code,Leaf.on,Leaf.men] at hcode
    | oela _ _ _=>simp[Leaf.code,Leaf.on,Leaf.men] at hcode
    | oel2 _ _ _ _ _=>simp[Leaf.code,Leaf.on,Leaf.men] at hcode
    | view _ _ _=>simp[Leaf.code,Leaf.on,Leaf.men] at hcode
    | hol _ _=>simp[Leaf.code,Leaf.on,Leaf.men] at hcode
  ·by_cases hk:k<st.objs.length
   ·by_cases hd:obj st.objs k=.dead
    ·have:=h.objs k
     rw[hd] at this
     show z2n C _ _ _ k (obj (st.objs.set l ob) k)
     rw[z01 e,hd]
     show (gh1.slot l _).ft k=[]
     rw[(go k hk e).2.2]; exact this
    ·refine zhl hT h.dj h.objs h.lt (fun h=>h) hd ?_
     cases ho:obj st.objs k with
     | dead=>exact absurd ho hd
     | hol _ _ _=>exact trivial
     | box ds=>exact fun c hc=>z2f
     | row e t xs d L=>exact fun _ hl'=>hl'.elim
   ·show z2n C _ _ _ k (obj (st.objs.set l ob) k)
    rw[show obj (st.objs.set l ob) k=.dead by simp[obj,List.getD,List.getElem?_eq_none (show (st.objs.set l ob).length≤k by simp; omega)]]
    exact gn k (by omega)
 ·have hk':k<st.fx:=hk
  obtain⟨q1,q2,q3⟩:=go k (by omega) (by omega)
  rw[q1,q2,q3]; exact h.fix k hk
 ·exact znw hT h.dj h.objs (z2r fun c hc=>z2f) (h.regs i)
theorem Rel.reserve (h:Rel C st gh a w) {os:Objs} (ho:∀ k,obj os k=obj st.objs k):Rel C { st with objs:=os } gh a w:=by
 have hT:Tr C w gh st.objs w gh os (fun _=>False) (fun _=>False):=
  ⟨Nat.le_refl _,fun b _=>.inl rfl,fun l b _ hb=>⟨l,hb,.inl rfl⟩,fun l _ _=>⟨ho l,rfl,rfl,rfl⟩,fun l hl=>hl.elim⟩
 refine⟨h.fr,h.u0,h.gl,h.lt,h.own,h.dj,h.nd,h.sep,fun l=>?_,h.fix,h.fm,h.len,fun i=>?_,h.df,h.frm.mono fun c y hc hk=>z52 hT h.dj h.objs z2f hk⟩
 ·show z2n C w gh os l (obj os l)
  by_cases hd:obj st.objs l=.dead
  ·have:=h.objs l
   rw[ho l]
   rw[hd] at this ⊢
   exact this
  ·refine zhl hT h.dj h.objs h.lt (fun h=>h) hd ?_
   cases ho:obj st.objs l with
   | dead=>exact absurd ho hd
   | hol _ _ _=>exact trivial
   | box cs=>exact fun c hc=>z2f
   | row e t xs d L=>exact fun _ hl=>hl.elim
 ·exact znw hT h.dj h.objs (z2r fun c hc=>z2f) (h.regs i)
theorem zzz (os:Objs) (n:List (Nat×Nat)) (k:Nat):obj (os++n.map fun _=>AObj.dead) k=obj os k:=by
 by_cases hk:k<os.length
 ·exact z29 hk
 ·simp only[obj,List.getD]
  rw[List.getElem?_append_right (by omega),List.getElem?_eq_none (by omega:os.length≤k)]
  simp only[List.getElem?_map]
  cases n[k - os.length]?<;>rfl
end
end Go.AM
