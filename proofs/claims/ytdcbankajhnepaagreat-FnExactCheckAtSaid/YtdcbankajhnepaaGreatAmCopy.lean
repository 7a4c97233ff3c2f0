/- 'copy' into a row of our own, or into a piece of one. No condition. -/
import Derived.Test.YtdcbankajhnepaaGreatAmAppend
import Derived.Laws.CopyRow
import Derived.Laws.IdiomCopy
set_option linter.unusedVariables false
set_option linter.unusedSimpArgs false
namespace Go.AM
theorem z98 {β:Type}:∀ {cs:List (List β)},(∀ c∈cs,c.length=1)→∀ k,(cs.take k).flatten=cs.flatten.take k
 | [],_,k=>by simp
 | c::cs,h,0=>by simp
 | c::cs,h,k+1=>by
  have hc:=h c (by simp)
  match c,hc with
  | [u],_=>simp[z98 (cs:=cs) (fun c hc=>h c (by simp[hc])) k]
theorem zhz {β:Type}:∀ {cs:List (List β)},(∀ c∈cs,c.length=1)→∀ k,(cs.drop k).flatten=cs.flatten.drop k
 | [],_,k=>by simp
 | c::cs,h,0=>by simp
 | c::cs,h,k+1=>by
  have hc:=h c (by simp)
  match c,hc with
  | [u],_=>simp[zhz (cs:=cs) (fun c hc=>h c (by simp[hc])) k]
theorem AllR.take {α:Type} {R:α→List Nat→List Value→Prop}:∀ {xs:List α} {Fs cs} (k:Nat),AllR R xs Fs cs→AllR R (xs.take k) (Fs.take k) (cs.take k)
 | [],Fs,cs,k,h=>by cases Fs<;>cases cs<;>simp_all[AllR]
 | x::xs,Fs,cs,0,h=>by simp[AllR]
 | x::xs,Fs,cs,k+1,h=>by
  cases Fs<;>cases cs<;>simp only[AllR] at h
  exact⟨h.1,h.2.take k⟩
theorem AllR.drop {α:Type} {R:α→List Nat→List Value→Prop}:∀ {xs:List α} {Fs cs} (k:Nat),AllR R xs Fs cs→AllR R (xs.drop k) (Fs.drop k) (cs.drop k)
 | [],Fs,cs,k,h=>by cases Fs<;>cases cs<;>simp_all[AllR]
 | x::xs,Fs,cs,0,h=>by simpa using h
 | x::xs,Fs,cs,k+1,h=>by
  cases Fs<;>cases cs<;>simp only[AllR] at h
  simpa using h.2.drop k
theorem RowR.splice1 {α:Type} {w:World} {R S T:α→List Nat→List Value→Prop} {e size:Nat} {v:Value} {F:List Nat} {xs zs:List α} (hz1:size=1) (h:RowR R w e size v F xs) (hR:∀ x G c,R x G c→G=[]∧c.length=1∧T x G c) (hS:∀ x G c,S x G c→G=[]∧c.length=1∧T x G c)
  {g og n c:Nat} (hv:v=.slice (some ⟨g,og,none⟩) n c) {cur:Array Value} (hg:w.heap[g]? = some (.cells cur e (0,0))) {Gs:List (List Nat)} {ds:List (List Value)} (hA:AllR S zs Gs ds) {k:Nat} (hfit:k+zs.length≤xs.length):
  RowR T (w.setRow g (z07 (og+k) ds.flatten cur.toList).toArray) e size v F (z07 k zs xs):=by
 subst hz1
 obtain⟨Fs,ess,ha,rfl,hl,ho⟩:=h
 have hsz:=ha.size (fun x G c h=>(hR x G c h).2.1)
 have hsd:=hA.size (fun x G c h=>(hS x G c h).2.1)
 have hlA:=hA.len
 have hla:=ha.len
 have hdl:ds.flatten.length=zs.length:=by rw[z2j hsd,hlA.2]; omega
 have hF0:=ha.nofoot (fun x G c h=>(hR x G c h).1)
 rcases ho with ⟨hn',_⟩ | ⟨g',og',cap,cur',hv',hg',hc,hm,hcs,ht⟩
 ·rw[hv] at hn'; cases hn'
 ·have he:=hv.symm.trans hv'
  simp only[Value.slice.injEq,Option.some.injEq,Addr.mk.injEq,and_true] at he
  obtain⟨⟨rfl,rfl⟩,rfl,rfl⟩:=he
  rw[hg] at hg'
  simp only[Option.some.injEq,Obj.cells.injEq,and_true] at hg'
  subst hg'
  have hcl:og+c≤cur.toList.length:=by rw[Array.length_toList]; omega
  have hlen:(z07 k zs xs).length=xs.length:=z2p hfit
  have key:AllR (fun x G c=>G=[]∧c.length=1∧T x G c) (z07 k zs xs) (z07 k Gs Fs) (z07 k ds ess):=by
   unfold z07
   rw[hlA.1,hlA.2]
   exact ((ha.take k).mono (fun x F c _ h=>hR x F c h)).app (hA.mono (fun x F c _ h=>hS x F c h)) |>.app ((ha.drop _).mono (fun x F c _ h=>hR x F c h))
  have hfl:(z07 k ds ess).flatten=z07 k ds.flatten ess.flatten:=by
   unfold z07
   rw[List.flatten_append,List.flatten_append,z98 hsz,zhz hsz,hdl,hlA.2]
  refine⟨z07 k Gs Fs,z07 k ds ess,key.mono fun x F c _ h=>h.2.2,by rw[hF0,key.nofoot fun x G c h=>h.1],?_,.inr ⟨g,og,c,_,by rw[hv,hlen],setRow_heap w g cur _ e _ hg,by rw[hlen]; exact hc,hm,?_,?_⟩⟩
  ·rw[hfl,z2p (by rw[hl,hdl]; omega),hl,hlen]
  ·rw[List.size_toArray,z2p (by rw[hdl]; omega)]; omega
  ·rw[hlen]
   show (((z07 (og+k) ds.flatten cur.toList).toArray.toList).drop og).take (xs.length*1)=_
   rw[List.toList_toArray,zac (by rw[hdl]; omega) (by omega) ht,hfl]
section
variable {C:Ctx} {st:St} {gh:Gh} {a:Act} {w:World}
theorem y6u (h:Rel C st gh a w) {y:Leaf} {yv:Value} {l:Nat} {lo hi:Int} (hy:LeafOk C w gh st.objs y yv) (hd:y0g st.objs y=some (l,lo,hi)) {e:TypeId} {t:Ty} {xs:List t.den} {dp:Bool} {L:List Nat} (hob:obj st.objs l=.row e t xs dp L):
  0≤lo∧lo≤hi∧hi≤xs.length∧∃ A B c c',gh.hd l=.slice A xs.length c∧xs.length≤c∧yv=.slice B (hi.toNat - lo.toNat) c'∧(lo<hi→B=A.map (·.add (lo.toNat*t.size))):=by
 have hi':=zkq (e':=0) h.dj h.sep0 h.lt (hob▸h.objs l)
 obtain⟨A,cap,hh,hcap,_⟩:=hi'.rep
 simp only[List.cons.injEq,and_true] at hh
 unfold y0g at hd
 split at hd
 ·rename_i l'
  split at hd
  ·rename_i e2 t2 xs2 d2 L2 ho2
   simp only[Option.some.injEq,Prod.mk.injEq] at hd
   obtain⟨rfl,rfl,rfl⟩:=hd
   rw[hob] at ho2
   cases ho2
   obtain⟨⟨hv,_⟩,_⟩:=hy
   refine⟨by omega,by omega,by omega,A,A,cap,cap,hh,hcap,by rw[hv,hh]; simp,fun _=>?_⟩
   cases A<;>simp[Addr.add]
  ·cases hd
 ·simp only[Option.some.injEq,Prod.mk.injEq] at hd
  obtain⟨rfl,rfl,rfl⟩:=hd
  obtain⟨⟨e2,t2,xs2,d2,L2,A2,n2,c2,ho2,h0,h1,h2,hh2,hv⟩,_⟩:=hy
  rw[hob] at ho2
  cases ho2
  rw[hh] at hh2
  cases hh2
  refine⟨h0,h1,h2,A,_,cap,_,hh,hcap,hv,fun hlt=>if_neg (by omega)⟩
 ·cases hd
theorem zx5 {e:TypeId} {ti:TI} {tt uu ty:TypeId} (hT:TabOk C.P e ti) (hsz1:ti.ty.size=1) (hu:C.P.underlying tt=some (.slice e)) (h:Rel C st gh a w) {d:Option Tmp} {l:Nat} {lo hi:Int} {x y:Leaf} {xv yv:Value} (hy:LeafOk C w gh st.objs y yv) (hd:y0g st.objs y=some (l,lo,hi)) (hx:LeafOk C w gh st.objs x xv) {st':St} (hs:(zrh st d l lo hi x).run some=some st'):
  ∃ v' gh' w',(Builtin.copy_ #[tt,uu] ty #[yv,xv]).run C.P w=.ok v' w'∧Rel C st' gh' (a.put d v') w':=by
 have hinf:(C.P.info? e).map (·.size)=some 1:=by
  obtain⟨i,hi,_,hsi,_⟩:=hT.i
  rw[hi,Option.map_some,hsi,hsz1]
 unfold zrh at hs
 split at hs
 ·cases hs
 rename_i hro
 have hro:=z5a hro
 split at hs
 case h_2=>cases hs
 rename_i e' t xs deep L hob
 split at hs
 case isFalse=>cases hs
 rename_i hc
 simp only[Bool.and_eq_true,beq_iff_eq] at hc
 obtain⟨hflat,hz1⟩:=hc
 split at hs
 case h_1=>cases hs
 rename_i ys M hdata
 split at hs
 case h_2=>cases hs
 rename_i st1 hk
 simp only[Tree.run,Option.some.injEq] at hs
 subst hs
 obtain⟨g0,g1,g2,A,B,c,c',hh,hcap,hyv,hB⟩:=y6u h hy hd hob
 obtain⟨hr1,hcl⟩:=h.kill hk
 obtain⟨k1,k2,k3,k4,k5⟩:=z0f hk
 have hob1:=(k4 l e' t xs deep L).2 hob
 have himm:=z2d (e:=e') h.dj h.sep0 h.lt h.objs hx hdata
 obtain⟨ds,hA,hxv,h1⟩:=zr1 himm hflat
 have hint:∀ (W:World) (G:Gh) (os:Objs) (n:Nat),SVOk (LeafOk C W G os) (vint .i64 (n:Int)) (goInt n):=fun W G os n=>z0j (t:=.int .i64) rfl rfl
 by_cases hk0:zbo ys lo hi=0
 ·have hsame:({ st1 with objs:=st1.objs.set l (.row e' t (ztd xs ys lo hi) deep L) }:St)=st1:=by
   have:ztd xs ys lo hi=xs:=by unfold ztd; rw[hk0]; simp
   rw[this,←hob1]
   have hl:l<st1.objs.length:=z0o (by rw[hob1]; simp)
   have:st1.objs.set l (obj st1.objs l)=st1.objs:=by
    unfold obj
    simp[List.getD,List.getElem?_eq_getElem hl]
   rw[this]
  rw[hsame,hk0]
  refine⟨goInt 0,gh,w,?_,hr1.put (hint _ _ _ 0)⟩
  unfold zbo at hk0
  rw[hyv]
  rcases hxv with ⟨cx,rfl,rfl⟩ | ⟨ad,cx,rfl,_⟩
  ·exact run_copy_none w tt uu ty e _ _ _ _ _ _ hu hinf (by simp)
  ·exact run_copy_none w tt uu ty e _ _ _ _ _ _ hu hinf hk0
 ·have hkp:0<zbo ys lo hi:=Nat.pos_of_ne_zero hk0
  have hky:zbo ys lo hi≤ys.length:=Nat.min_le_left _ _
  have hkh:zbo ys lo hi≤hi.toNat - lo.toNat:=Nat.min_le_right _ _
  have hrow:=h.objs l
  rw[hob] at hrow
  have hA':∃ g og,A=some ⟨g,og,none⟩:=by
   obtain⟨Fs,ess,_,_,_,ho⟩:=hrow
   rcases ho with ⟨hn',hl0⟩ | ⟨g',og',cap,cur',hv',_⟩
   ·exfalso; have:=List.eq_nil_of_length_eq_zero hl0; omega
   ·rw[hh] at hv'; cases hv'; exact⟨g',og',rfl⟩
  obtain⟨g,og,rfl⟩:=hA'
  obtain⟨cur,hheap,hcsz,hgF⟩:=RowR.block hrow hh
  rcases hxv with ⟨cx,rfl,rfl⟩ | ⟨ad,cx,rfl,hcell⟩
  ·simp at hky; omega
  have hlA:=hA.len
  have hsd:=hA.size (n:=1) (fun x G c hS=>by rw[Rep.len t hS.2,hz1])
  have hAk:AllR (fun y G c=>G=[]∧Rep t w y c) _ _ _:=hA.take (zbo ys lo hi)
  have hsdk:=hAk.size (n:=1) (fun x G c hS=>by rw[Rep.len t hS.2,hz1])
  have hdk:(ds.take (zbo ys lo hi)).flatten.length=zbo ys lo hi:=by
   rw[z2j hsdk,List.length_take,hlA.2]; omega
  have hBv:=hB (by omega)
  simp only[Option.map_some,zdl,hz1,Nat.mul_one] at hBv
  have hrun:=run_copy_row (P:=C.P) w tt uu ty e g (og+lo.toNat) (hi.toNat - lo.toNat) c' ad ys.length cx cur e' ((ds.take (zbo ys lo hi)).flatten) hu hinf hheap (by rw[hdk]; rfl)
   (fun j v hv=>hcell j v (by rw[z98 hsd,List.getElem?_take] at hv; split at hv; exact hv; cases hv)) (by rw[hdk]; rw[hz1] at hcsz; omega)
   (fun v hv=>h1 v (by rw[z98 hsd] at hv; exact List.mem_of_mem_take hv))
  rw[hdk] at hrun
  have hspl:ztd xs ys lo hi=z07 lo.toNat (ys.take (zbo ys lo hi)) xs:=by
   unfold ztd z07
   rw[List.length_take,Nat.min_eq_left hky]
  have hspw:(cur.toList.take (og+lo.toNat)++(ds.take (zbo ys lo hi)).flatten++cur.toList.drop (og+lo.toNat+zbo ys lo hi))=z07 (og+lo.toNat) (ds.take (zbo ys lo hi)).flatten cur.toList:=by
   unfold z07
   rw[hdk]
  rw[hspw] at hrun
  have hfit:lo.toNat+(ys.take (zbo ys lo hi)).length≤xs.length:=by rw[List.length_take]; omega
  have hM:MoveOk C st1 gh w false l [] (.row e' t (ztd xs ys lo hi) deep L) (gh.hd l) (gh.ft l) (w.setRow g (z07 (og+lo.toNat) (ds.take (zbo ys lo hi)).flatten cur.toList).toArray):=by
   refine⟨hcl,by simp,by omega,by simp,by simp,by simp,z0o (by rw[hob1]; simp),?_,fun _=>⟨rfl,fun e t xs' d L he=>?_,fun cs he=>by (rw[hob1] at he; cases he)⟩,fun _=>⟨rfl,rfl⟩,fun b hb=>.inl hb,h.nd l⟩
   ·have:=Fr.setRow w g (z07 (og+lo.toNat) (ds.take (zbo ys lo hi)).flatten cur.toList).toArray
    exact⟨this.os,this.tape,this.output,this.size,fun k hk hn=>this.block k hk fun e=>hn (e▸hgF),this.drawn⟩
   ·rw[hob1] at he
    have he:=he.symm
    cases he
    exact⟨_,_,_,rfl,by rw[hspl,z2p hfit]⟩
  refine⟨goInt (zbo ys lo hi),gh.mv l (gh.hd l) (gh.ft l) [],_,by rw[hyv,hBv]; exact hrun,?_⟩
  have hrel:=hr1.move hM ?_
  ·refine Rel.put ?_ (hint _ _ _ _)
   simpa[z0n] using hrel
  ·show RowR _ _ e' t.size ((gh.mv l _ _ []).hd l) ((gh.mv l _ _ []).ft l) _
   rw[Gh.mv_hd,Gh.mv_ft,hspl]
   have hfl:∀ (W:World) (G:Gh) (x:t.den) cs,Rep t w x cs→z38 C W G t deep L x [] cs:=fun W G x cs hr=>by
    unfold z38
    cases deep with
    | true=>exact Deep.flat t hflat hr W
    | false=>exact⟨rfl,ImmS.flat hflat (Deep.rep t (Deep.flat t hflat hr W)) _⟩
   refine RowR.splice1 (S:=fun y G c=>G=[]∧Rep t w y c) hz1 hrow (fun x G cs hR=>?_) (fun x G cs hS=>?_) hh hheap hAk hfit
   ·obtain⟨r1,r2,_⟩:=z12 hR
    have hG:G=[]:=by
     unfold z38 at hR
     cases deep with
     | true=>exact Deep.nofoot t hflat hR
     | false=>exact hR.1
    subst hG
    exact⟨rfl,by rw[r1,hz1],hfl _ _ _ _ r2⟩
   ·obtain⟨rfl,hS⟩:=hS
    exact⟨rfl,by rw[Rep.len t hS,hz1],hfl _ _ _ _ hS⟩
end
end Go.AM
