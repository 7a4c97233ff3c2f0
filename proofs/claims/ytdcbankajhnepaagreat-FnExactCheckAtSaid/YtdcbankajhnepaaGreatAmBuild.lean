/- Literals of slices. No condition. -/
import Derived.Test.YtdcbankajhnepaaGreatAmCopy
set_option linter.unusedVariables false
set_option linter.unusedSimpArgs false
namespace Go.AM
theorem AllR.monoF {α:Type} {R S:α→List Nat→List Value→Prop}:∀ {xs:List α} {Fs:List (List Nat)} {cs:List (List Value)},(∀ x F c,F∈Fs→R x F c→S x F c)→AllR R xs Fs cs→AllR S xs Fs cs
 | [],Fs,cs,_,h=>by cases Fs<;>cases cs<;>simp_all[AllR]
 | x::xs,Fs,cs,hm,h=>by
  cases Fs<;>cases cs<;>simp only[AllR] at h ⊢
  exact⟨hm _ _ _ (by simp) h.1,AllR.monoF (fun y F c hF=>hm y F c (by simp[hF])) h.2⟩
section
variable {C:Ctx} {st:St} {gh:Gh} {a:Act} {w:World}
theorem za6 {E:Env} (hE:EnvOk C.P C.Γ E) {o:Oper} {t e:TypeId} {n:Nat} {parts:Array (Nat×Operand)} (ho:o.op=.buildSlice t n parts) {tt ti:TI} (ht:tyOf E t=some tt) (hs:tt.td=.slice e) (he:tyOf E e=some ti)
  (hsz:n*ti.ty.size≤16777216) (hn:n=parts.toList.length) {ess:List (List Value)} (hl:ess.length=parts.toList.length)
  (hk:∀ k p c,parts.toList[k]? = some p→ess[k]? = some c→p.1=0+k∧(a.eval p.2).cells=c.toArray∧c.length=ti.ty.size):
  ∃ cur:Array Value,cur.toList=ess.flatten∧(execOp a.eval o).run C.P w=.ok (.value (.slice (some ⟨w.heap.size,0,none⟩) n n)) (w.alloc (.cells cur e)):=by
 obtain⟨cur,hcur,hrun⟩:=zmm (w:=w) hE ht hs he (n:=n) (vs:=parts.toList.map fun p=>(p.1,a.eval p.2)) (ess:=ess) hsz (by simp[hl]) (by simp[hn]) fun k p c hp hc=>by
  rw[List.getElem?_map] at hp
  cases hq:parts.toList[k]? with
  | none=>rw[hq] at hp; cases hp
  | some q=>
   rw[hq] at hp
   simp only[Option.map_some,Option.some.injEq] at hp
   subst hp
   exact hk k q c hq hc
 refine⟨cur,hcur,?_⟩
 have:(parts.map fun (i,x)=>(i,a.eval x))=(parts.toList.map fun p=>(p.1,a.eval p.2)).toArray:=by apply Array.ext'; simp
 simp only[execOp,ho,this,Sem.run_bind,hrun,Result.andThen_ok,Sem.run_pure]
theorem zhk {E:Env} (hE:EnvOk C.P C.Γ E) {o:Oper} (h:Rel C st gh a w) (hfx:st.fx≤st.objs.length) {t e:TypeId} {n:Nat} {parts:Array (Nat×Operand)} (ho:o.op=.buildSlice t n parts) {tt ti:TI} (ht:tyOf E t=some tt) (hs:tt.td=.slice e) (he:tyOf E e=some ti)
  (hsz:n*ti.ty.size≤16777216) (hpos:0<ti.ty.size) (hn:n=parts.toList.length) {xs:List ti.ty.den} {deep:Bool} {L:List Nat} (hp:z2x ti.ty st.objs deep (parts.toList.map fun p=>(p.1,st.ev p.2)) 0=some (xs,L)) (hL:deep=true→L=[]):
  YldN C st gh a w o (.one (.own st.objs.length)) [.row e ti.ty xs deep L]:=by
 obtain⟨ess,Fs,hl1,hl2,hk,hA⟩:=zjs h hpos parts.toList 0 hp
 obtain⟨cur,hcur,hrun⟩:=za6 (C:=C) (a:=a) (w:=w) hE ho ht hs he hsz hn hl1 hk
 have hlen:∀ c∈ess,c.length=ti.ty.size:=by
  cases deep with
  | true=>exact AllR.size (fun x F c hR=>Deep.len _ hR) hA.1
  | false=>exact AllR.size (fun x F c hR=>Rep.len _ hR.2.rep) hA
 have hmax:xs.length≤maxLen:=by
  have:n*1≤n*ti.ty.size:=Nat.mul_le_mul_left _ hpos
  rw[hl2,←hn]; simp only[maxLen]; omega
 obtain⟨gh',hgr,hrel,hv⟩:=zwn h hfx (e:=e) (t:=ti.ty) (xs:=xs) (d:=deep) (L:=L) (cur:=cur) (ess:=ess) hcur hmax (fun g' w' hsame hsize hft=>by
  cases deep with
  | true=>
   obtain⟨hA,hF⟩:=hA
   rw[hL rfl] at hF
   simp only[List.flatMap_nil] at hF
   refine⟨Fs,hA.monoF fun x F c hF' hR=>?_,hF⟩
   have hF0:F=[]:=by
    cases F with
    | nil=>rfl
    | cons b F=>have:b∈Fs.flatten:=List.mem_flatten.2 ⟨_,hF',by simp⟩; rw[hF] at this; cases this
   subst hF0
   exact Deep.congr _ hR (by simp)
  | false=>
   refine⟨Fs,hA.mono fun x F c _ hR=>⟨hR.1,hR.2.next hsize (fun b hb _=>hsame b hb) fun b hb hu=>?_⟩,AllR.nofoot (fun x F c hR=>hR.1) hA⟩
   rcases hu with hu | ⟨l,hl,hb'⟩
   ·exact .inl hu
   ·exact .inr ⟨l,hl,hft l b hb hb'⟩) hlen (by rw[hl1,hl2])
 rw[hl2,←hn] at hv
 exact⟨_,gh',_,hrun,hgr,hrel,hv⟩
theorem zmp {E:Env} (hE:EnvOk C.P C.Γ E) {o:Oper} (h:Rel C st gh a w) (hfx:st.fx≤st.objs.length) (hro:st.ro≤st.objs.length) {t e:TypeId} {n:Nat} {parts:Array (Nat×Operand)} (ho:o.op=.buildSlice t n parts) {tt ti:TI} (ht:tyOf E t=some tt) (hs:tt.td=.slice e) (he:tyOf E e=some ti)
  (hsz:n*ti.ty.size≤16777216) (hpos:0<ti.ty.size) (hn:n=parts.toList.length) {xs:List ti.ty.den} {M:List Nat} (hp:z2x ti.ty st.objs true (parts.toList.map fun p=>(p.1,st.ev p.2)) 0=some (xs,M))
  {st':St} (hmv:({ st with objs:=st.objs++[AObj.row e ti.ty [] true []] }).move M true st.objs.length=some st'):
  ∃ x gh' w',(execOp a.eval o).run C.P w=.ok (.value x) w'∧Rel C (({ st' with objs:=(z0n M st'.objs).set st.objs.length (.row e ti.ty xs true []) }).put o.dst (.one (.own st.objs.length))) gh' (a.put o.dst x) w':=by
 obtain⟨ess,Fs,hl1,hl2,hk,hA,hF⟩:=zjs h hpos parts.toList 0 hp
 obtain⟨cur,hcur,hrun⟩:=za6 (C:=C) (a:=a) (w:=w) hE ho ht hs he hsz hn hl1 hk
 have hlen:∀ c∈ess,c.length=ti.ty.size:=AllR.size (fun x F c hR=>Deep.len _ hR) hA
 have hmax:xs.length≤maxLen:=by
  have:n*1≤n*ti.ty.size:=Nat.mul_le_mul_left _ hpos
  rw[hl2,←hn]; simp only[maxLen]; omega
 have hfl:=z2j hlen
 have h0:Rel C { st with objs:=st.objs++[AObj.row e ti.ty [] true []] } (gh.add st.objs.length (.slice none 0 0) 0 []) a w:=by
  refine h.new1 (Fr.refl _ _) hfx (by simp) (by simp) ⟨[],[],trivial,by simp[Gh.add,Value.ownBlock],?_⟩
  simp only[Gh.add,if_true]
  exact OwnR.nil w e ti.ty.size
 obtain⟨hr1,hcl,hcM,hroM,hlM,hMn,k1,k2,k3,k4⟩:=h0.moveSt hmv
 have hob1:=(k4 st.objs.length e ti.ty [] true []).2 (by simp[obj,List.getD])
 have hk3:st'.objs.length=st.objs.length+1:=by rw[k3]; simp
 have hft0:∀ k∈M,(gh.add st.objs.length (.slice none 0 0) 0 []).ft k=gh.ft k:=fun k hk=>by simp[Gh.add,show k≠st.objs.length from fun e=>hlM (e▸hk)]
 have hFb:∀ b∈Fs.flatten,∃ k∈M,b∈gh.ft k:=fun b hb=>by rw[hF] at hb; exact List.mem_flatMap.1 hb
 have hM:MoveOk C st' (gh.add st.objs.length (.slice none 0 0) 0 []) w true st.objs.length M (.row e ti.ty xs true []) (.slice (some ⟨w.heap.size,0,none⟩) n n) ([w.heap.size]++Fs.flatten) (w.alloc (.cells cur e)):=by
  refine⟨hcl,hcM,by rw[k1]; exact hro,fun k hk=>by rw[k1]; exact (hroM k hk).1,fun k hk=>by rw[k2]; exact (hroM k hk).2,hlM,by omega,?_,fun hm=>(by cases hm),fun hl=>?_,fun b hb=>?_,?_⟩
  ·exact⟨rfl,rfl,rfl,by simp,fun k hk _=>heap_alloc_old w _ k hk,fun _=>Nat.le_refl _⟩
  ·rw[k2] at hl; exact absurd hl (by simpa using hfx)
  ·rcases List.mem_append.1 hb with hb | hb
   ·simp only[List.mem_singleton] at hb
    subst hb
    exact .inr (.inr ⟨Nat.le_refl _,by simp⟩)
   ·obtain⟨k,hk,hbk⟩:=hFb b hb
    exact .inr (.inl ⟨k,hk,by rw[hft0 k hk]; exact hbk⟩)
  ·rw[List.singleton_append,List.nodup_cons]
   refine⟨fun hb=>?_,by rw[hF]; exact y08 h hMn⟩
   obtain⟨k,_,hbk⟩:=hFb _ hb
   have:=h.lt _ _ hbk; omega
 refine⟨_,(gh.add st.objs.length (.slice none 0 0) 0 []).mv st.objs.length (.slice (some ⟨w.heap.size,0,none⟩) n n) ([w.heap.size]++Fs.flatten) M,_,hrun,(hr1.move hM ?_).put ?_⟩
 ·show RowR _ _ e ti.ty.size ((Gh.mv _ _ _ _ M).hd _) ((Gh.mv _ _ _ _ M).ft _) _
  rw[Gh.mv_hd,Gh.mv_ft]
  refine⟨Fs,ess,hA.monoF fun x F c hF' hR=>?_,by simp[Value.ownBlock],?_⟩
  ·exact Deep.congr _ hR fun b hb=>heap_alloc_old w _ b (Deep.lt _ hR b hb)
  ·have hn':xs.length=n:=by rw[hl2,hn]
   refine⟨by rw[hfl,hl1,hl2],.inr ⟨w.heap.size,0,n,cur,by rw[hn'],heap_alloc_new w _,by rw[hn']; exact Nat.le_refl _,by rw[←hn']; exact hmax,?_,?_⟩⟩
   ·rw[←Array.length_toList,hcur,hfl,hl1,hn]; omega
   ·rw[List.drop_zero,hcur,List.take_of_length_le (by rw[hfl,hl1,hl2]; exact Nat.le_refl _)]
 ·refine⟨⟨by rw[Gh.mv_hd],e,ti.ty,xs,true,[],z0a ?_⟩,fun _=>rfl⟩
  rw[z1q]; omega
end
end Go.AM
