/- Operations that write no object: literals of structs; those that make objects. No condition. -/
import Derived.Test.YtdcbankajhnepaaGreatAmOps3
import Derived.Laws.MakeOwn
set_option linter.unusedVariables false
set_option linter.unusedSimpArgs false
namespace Go.AM
theorem zkw (off:Nat):∀ (l:List Value) (k:Nat) (arr:Array Value),off+k+l.length≤arr.size →
  ((l.zipIdx k).foldl (fun (cs:Array Value) p=>cs.setIfInBounds (off+p.2) p.1) arr).toList=arr.toList.take (off+k)++l++arr.toList.drop (off+k+l.length)
 | [],k,arr,h=>by simp
 | v::l,k,arr,h=>by
  simp only[List.zipIdx_cons,List.foldl_cons]
  rw[zkw off l (k+1) (arr.setIfInBounds (off+k) v) (by simp at h ⊢; omega)]
  simp only[List.length_cons] at h ⊢
  rw[Array.toList_setIfInBounds]
  have hlt:off+k<arr.toList.length:=by simp; omega
  rw[List.drop_set_of_lt (by omega),show off+(k+1)=off+k+1 by omega,List.take_succ_eq_append_getElem (by simp; omega)]
  rw[List.take_set_of_le (by omega)]
  simp[show off+k+1+l.length=off+k+(l.length+1) by omega]
theorem z3u {b:Bool} {us:List Value} {v:Value} (hp:zci b us v) (h1:b=false→v.oneCell'=true):v.cells=us.toArray:=by
 cases b with
 | true=>rw[show v=.agg us.toArray from hp]; rfl
 | false=>
  obtain rfl:us=[v]:=hp
  have:=h1 rfl
  cases v<;>first | rfl | (simp[Value.oneCell'] at this)
section
variable {C:Ctx} {st:St} {gh:Gh} {a:Act} {w:World}
theorem zxw {fs:List FI} (h:Rel C st gh a w):∀ (parts:List (Nat×Operand)) {acc cs:List Leaf} {arr:Array Value},All2 (LeafOk C w gh st.objs) acc arr.toList →
  parts.foldl (fun (acc:Option (List Leaf)) p=>match acc,fs[p.1]?,(st.ev p.2).leaves with
    | some cs,some fi,some (_,ls)=>if ls.length==fi.size&&ls.all Leaf.known then z83 cs fi.off ls else none
    | _,_,_=>none) (some acc)=some cs →
  ∃ arr',Instr.fill ((fs.map fun fi=>(fi.off,fi.size)).toArray[·]?) arr (parts.map fun p=>(p.1,a.eval p.2))=some arr'∧All2 (LeafOk C w gh st.objs) cs arr'.toList
 | [],acc,cs,arr,ha,hf=>by
  simp only[List.foldl_nil,Option.some.injEq] at hf
  subst hf
  exact⟨arr,rfl,ha⟩
 | p::parts,acc,cs,arr,ha,hf=>by
  have hnone:∀ (ps:List (Nat×Operand)),ps.foldl (fun (acc:Option (List Leaf)) p=>match acc,fs[p.1]?,(st.ev p.2).leaves with
    | some cs,some fi,some (_,ls)=>if ls.length==fi.size&&ls.all Leaf.known then z83 cs fi.off ls else none
    | _,_,_=>none) none=none:=by
   intro ps; induction ps with
   | nil=>rfl
   | cons q ps ih=>simpa using ih
  rw[List.foldl_cons] at hf
  cases hfi:fs[p.1]? with
  | none=>rw[hfi] at hf; simp only at hf; rw[hnone] at hf; cases hf
  | some fi=>
   cases hls:(st.ev p.2).leaves with
   | none=>rw[hfi,hls] at hf; simp only at hf; rw[hnone] at hf; cases hf
   | some bl=>
    obtain⟨b,ls⟩:=bl
    rw[hfi,hls] at hf
    simp only at hf
    split at hf
    ·rename_i hc
     simp only[Bool.and_eq_true,beq_iff_eq,List.all_eq_true] at hc
     cases hpl2:z83 acc fi.off ls with
     | none=>rw[hpl2,hnone] at hf; cases hf
     | some acc2=>
      rw[hpl2] at hf
      unfold z83 at hpl2
      split at hpl2
      case isFalse=>cases hpl2
      rename_i hle
      simp only[Option.some.injEq] at hpl2
      subst hpl2
      obtain⟨us,hpk,hus⟩:=h.leaves p.2 hls
      have hulen:=hus.len
      have hlen:=ha.len
      simp only[Array.length_toList] at hlen
      have hone:b=false→(a.eval p.2).oneCell'=true:=by
       intro hb
       subst hb
       obtain rfl:us=[a.eval p.2]:=hpk
       match ls,hus with
       | [c],hus=>exact hus.1.2 (hc.2 c (by simp))
       | [],hus=>exact hus.elim
       | _::_::_,hus=>exact hus.2.elim
      have hcells:=z3u hpk hone
      have hpc:=zkw fi.off us 0 arr (by omega)
      simp only[Nat.add_zero] at hpc
      obtain⟨arr',h1,h2⟩:=zxw h parts (acc:=acc.take fi.off++ls++acc.drop (fi.off+ls.length)) (cs:=cs)
       (arr:=(us.zipIdx 0).foldl (fun (cs:Array Value) p=>cs.setIfInBounds (fi.off+p.2) p.1) arr) (by
        rw[hpc]
        refine ((ha.take _).app hus).app ?_
        rw[hulen]
        exact ha.drop _) hf
      refine⟨arr',?_,h2⟩
      simp only[List.map_cons,Instr.fill]
      have hpl:(fs.map fun fi=>(fi.off,fi.size)).toArray[p.1]? = some (fi.off,fi.size):=by simp[hfi]
      rw[hpl]
      simp only[hcells,List.size_toArray]
      rw[if_neg (by simp; omega)]
      rw[show (us.toArray.zipIdx.foldl (fun (cs:Array Value) (x:Value×Nat)=>match x with | (c,j)=>cs.setIfInBounds (fi.off+j) c) arr)=(us.zipIdx 0).foldl (fun (cs:Array Value) p=>cs.setIfInBounds (fi.off+p.2) p.1) arr from by simp]
      exact h1
    ·rw[hnone] at hf; cases hf
theorem zqg {P:Program}:∀ {fl:List Field} {fs:List FI},fl.map (fun f=>(f.offset,f.type))=fs.map (fun f=>(f.off,f.type))→(∀ fi∈fs,(P.info? fi.type).map (·.size)=some fi.size) →
  fl.mapM (fun f=>(P.info? f.type).map fun i=>(f.offset,i.size))=some (fs.map fun fi=>(fi.off,fi.size))
 | [],[],_,_=>by simp
 | [],fi::fs,h,_=>by simp at h
 | f::fl,[],h,_=>by simp at h
 | f::fl,fi::fs,h,hs=>by
  simp only[List.map_cons,List.cons.injEq,Prod.mk.injEq] at h
  obtain⟨⟨h1,h2⟩,h3⟩:=h
  have hz:=hs fi (by simp)
  rw[←h2] at hz
  cases hp:P.info? f.type with
  | none=>rw[hp] at hz; cases hz
  | some i=>
   rw[hp] at hz
   simp only[Option.map_some,Option.some.injEq] at hz
   simp[List.mapM_cons,hp,zqg h3 (fun x hx=>hs x (by simp[hx])),h1,hz]
theorem zzu {E:Env} (hE:EnvOk C.P C.Γ E) {o:Oper} (h:Rel C st gh a w) {t:TypeId} {parts:Array (Nat×Operand)} (ho:o.op=.build t parts) {ti:TI} (ht:tyOf E t=some ti) {fs:List FI} (hs:ti.td=.struct fs) {cs:List Leaf}
  (hf:parts.toList.foldl (fun (acc:Option (List Leaf)) p=>match acc,fs[p.1]?,(st.ev p.2).leaves with
    | some cs,some fi,some (_,ls)=>if ls.length==fi.size&&ls.all Leaf.known then z83 cs fi.off ls else none
    | _,_,_=>none) (some (z1n ti.ty))=some cs):Yld C st gh a w o (.agg cs):=by
 have hT:=hE.tab _ _ ht
 obtain⟨i,hi,hz,_,_⟩:=hT.i
 have htd:=hT.td
 rw[hs] at htd
 obtain⟨hag,arr,hu,hmap,hsz⟩:=htd
 obtain⟨arr',h1,h2⟩:=zxw (fs:=fs) h parts.toList (arr:=(z3l ti.ty).toArray) (by simpa using z61 ti.ty) hf
 refine⟨.agg arr',?_,⟨arr'.toList,by simp,h2⟩⟩
 have hb:C.P.built t (parts.map fun (i,x)=>(i,a.eval x)).toList=some arr':=by
  unfold Program.built
  simp only[hi,hu,hz,zqg hmap hsz]
  rw[Array.toList_map]
  simp only[zval,hag,if_true,Value.cells]
  exact h1
 simp only[execOp,ho,Sem.run_bind,run_build w t _ arr' hb,Result.andThen_ok,Sem.run_pure]
def Grow (C:Ctx) (st:St) (gh:Gh) (w:World) (gh':Gh) (w':World):Prop:=
 FrQ (C.Γ.q=true) (fun _=>False) w w'∧(∀ k,k<st.objs.length→gh'.hd k=gh.hd k∧gh'.bk k=gh.bk k∧gh'.ft k=gh.ft k)∧∀ k b,st.objs.length≤k→b∈gh'.ft k→w.heap.size≤b
def YldN (C:Ctx) (st:St) (gh:Gh) (a:Act) (w:World) (o:Oper) (v:SV) (new:Objs):Prop:=
 ∃ x gh' w',(execOp a.eval o).run C.P w=.ok (.value x) w'∧Grow C st gh w gh' w'∧Rel C { st with objs:=st.objs++new } gh' a w'∧SVOk (LeafOk C w' gh' (st.objs++new)) v x
theorem YldN.of {o:Oper} {v:SV} (h:Rel C st gh a w) (hy:Yld C st gh a w o v):YldN C st gh a w o v []:=by
 obtain⟨x,hr,hv⟩:=hy
 exact⟨x,gh,w,hr,⟨Fr.refl _ _,fun _ _=>⟨rfl,rfl,rfl⟩,fun k b hk hb=>by
  have:gh.ft k=[]:=by
   have:=h.objs k
   rw[show obj st.objs k=.dead by simp[obj,List.getD,List.getElem?_eq_none hk]] at this
   exact this
  rw[this] at hb; cases hb⟩,by rw[List.append_nil]; exact h,by rw[List.append_nil]; exact hv⟩
def Gh.add (gh:Gh) (l:Nat) (hd:Value) (bk:Nat) (ft:List Nat):Gh:=
 {hd:=fun k=>if k=l then hd else gh.hd k,bk:=fun k=>if k=l then bk else gh.bk k,ft:=fun k=>if k=l then ft else gh.ft k }
theorem Gh.add_same (gh:Gh) (n:Nat) (hd:Value) (bk:Nat) (ft:List Nat):∀ k,k<n→(gh.add n hd bk ft).hd k=gh.hd k∧(gh.add n hd bk ft).bk k=gh.bk k∧(gh.add n hd bk ft).ft k=gh.ft k:=
 fun k hk=>by simp[Gh.add,show k≠n by omega]
theorem z6f (h:Rel C st gh a w) {l:Nat} (hl:st.objs.length≤l):gh.ft l=[]:=by
 have:=h.objs l
 rw[show obj st.objs l=.dead by simp[obj,List.getD,List.getElem?_eq_none hl]] at this
 exact this
theorem Gh.add_new (h:Rel C st gh a w) {hd:Value} {bk:Nat} {ft:List Nat} (hft:∀ b∈ft,w.heap.size≤b):∀ k b,st.objs.length≤k→b∈(gh.add st.objs.length hd bk ft).ft k→w.heap.size≤b:=by
 intro k b hk hb
 by_cases e:k=st.objs.length
 ·subst e; simp[Gh.add] at hb; exact hft b hb
 ·simp[Gh.add,e,z6f h hk] at hb
theorem Rel.new1 (h:Rel C st gh a w) {o:AObj} {hd:Value} {bk:Nat} {ft:List Nat} {w':World} (hw:Fr (fun _=>False) w w') (hfx:st.fx≤st.objs.length) (hft:∀ b∈ft,w.heap.size≤b∧b<w'.heap.size) (hnd:ft.Nodup)
  (hob:z2n C w' (gh.add st.objs.length hd bk ft) (st.objs++[o]) st.objs.length o):Rel C { st with objs:=st.objs++[o] } (gh.add st.objs.length hd bk ft) a w':=by
 refine h.grow [o] hw.any (fun l hl=>?_) (fun l b hl hb=>?_) (fun l l' b hl hl' hb hb'=>?_) (fun l hl=>?_) (fun l hl=>?_) hfx
 ·simp[Gh.add,show l≠st.objs.length by omega]
 ·by_cases e:l=st.objs.length
  ·subst e; simp[Gh.add] at hb; exact hft b hb
  ·simp[Gh.add,e,z6f h hl] at hb
 ·by_cases e:l=st.objs.length<;>by_cases e':l'=st.objs.length
  ·rw[e,e']
  ·simp[Gh.add,e',z6f h hl'] at hb'
  ·simp[Gh.add,e,z6f h hl] at hb
  ·simp[Gh.add,e,z6f h hl] at hb
 ·by_cases e:l=st.objs.length
  ·subst e; simpa[Gh.add] using hnd
  ·simp[Gh.add,e,z6f h hl]
 ·by_cases e:l=st.objs.length
  ·subst e
   rw[show obj (st.objs++[o]) st.objs.length=o by simp[obj,List.getD]]
   exact hob
  ·rw[show obj (st.objs++[o]) l=.dead by simp[obj,List.getD,List.getElem?_append,show ¬l<st.objs.length by omega,show ¬l - st.objs.length=0 by omega]]
   show (gh.add _ _ _ _).ft l=[]
   simp[Gh.add,e,z6f h hl]
theorem Fr.alloc (w:World) (o:Obj):Fr (fun _=>False) w (w.alloc o):=⟨rfl,rfl,rfl,by simp,fun k hk _=>heap_alloc_old w o k hk,fun _=>Nat.le_refl _⟩
theorem zwx {os:Objs} {w':World} {g:Gh} {e:TypeId} {t:Ty} {xs:List t.den} {d:Bool} {L:List Nat} {n:Nat} {x:Value} (hn:n=os.length) (hx:x=g.hd n) (h1:x.oneCell'=true):SVOk (LeafOk C w' g (os++[.row e t xs d L])) (.one (.own n)) x:=by
 subst hn
 exact⟨⟨hx,e,t,xs,d,L,by simp[obj,List.getD]⟩,fun _=>h1⟩
theorem zx2 {o:Oper} (h:Rel C st gh a w) (hfx:st.fx≤st.objs.length) {x:Operand} (ho:o.op=.assign x) (hx:st.ev x=.one .nilS) (e:TypeId) (t:Ty):YldN C st gh a w o (.one (.own st.objs.length)) [.row e t [] true []]:=by
 have hxv:=h.ev x
 rw[hx] at hxv
 have hv:a.eval x=.slice none 0 0:=hxv.1
 refine⟨.slice none 0 0,gh.add st.objs.length (.slice none 0 0) 0 [],w,by simp only[execOp,ho,Sem.run_pure,hv],⟨Fr.refl _ _,Gh.add_same _ _ _ _ _,Gh.add_new h (by simp)⟩,?_,zwx rfl (by simp[Gh.add]) rfl⟩
 refine h.new1 (Fr.refl _ _) hfx (by simp) (by simp) ⟨[],[],trivial,by simp[Gh.add,Value.ownBlock],?_⟩
 simp only[Gh.add,if_true]
 exact OwnR.nil w e t.size
theorem zzv {E:Env} (hE:EnvOk C.P C.Γ E) {o:Oper} (h:Rel C st gh a w) (hfx:st.fx≤st.objs.length) {t:TypeId} (ho:o.op=.alloc t) {ti:TI} (ht:tyOf E t=some ti):YldN C st gh a w o (.one (.ptr st.objs.length 0)) [.box (z1n ti.ty)]:=by
 have hT:=hE.tab _ _ ht
 obtain⟨i,hi,hz,_,_⟩:=hT.i
 have hcells:(zval ti).cells=(z3l ti.ty).toArray:=by
  unfold zval
  cases hag:ti.agg with
  | true=>rfl
  | false=>
   have htd:=hT.td
   split at htd
   ·cases hty:ti.ty<;>simp[hty] at htd<;>simp[z3l,Value.cells]
   ·obtain⟨s,hs⟩:=htd.2.2; simp[hs,z3l,Value.cells]
   ·rw[htd.1] at hag; cases hag
 refine⟨.pointer (some ⟨w.heap.size,0,none⟩),gh.add st.objs.length (.slice none 0 0) w.heap.size [w.heap.size],w.alloc (.cells (z3l ti.ty).toArray t),?_,⟨(Fr.alloc _ _).any,Gh.add_same _ _ _ _ _,Gh.add_new h (by simp)⟩,?_,⟨⟨by simp[Gh.add],_,by simp[obj,List.getD]; rfl⟩,fun _=>rfl⟩⟩
 ·simp[execOp,ho,Instr.alloc,zeroValue,typeInfo,hi,hz,newVar,newRow,hcells]
 ·refine h.new1 (Fr.alloc _ _) hfx (by simp) (by simp) ⟨by simp[Gh.add],(z3l ti.ty).toArray,t,?_,?_⟩
  ·simp only[Gh.add,if_true]; exact heap_alloc_new w _
  ·simpa using z61 ti.ty
theorem y67 {o:Oper} (h:Rel C st gh a w) (hfx:st.fx≤st.objs.length) {t:TypeId} {x:Operand} (ho:o.op=.box t x) {b:Bool} {ls:List Leaf} (hl:(st.ev x).leaves=some (b,ls)) (hk:ls.all Leaf.known=true):YldN C st gh a w o (.one (.ptr st.objs.length 0)) [.box ls]:=by
 obtain⟨us,hp,hus⟩:=h.leaves x hl
 have hone:b=false→(a.eval x).oneCell'=true:=by
  intro hb
  subst hb
  obtain rfl:us=[a.eval x]:=hp
  match ls,hus with
  | [c],hus=>exact hus.1.2 (by simpa using hk)
  | [],hus=>exact hus.elim
  | _::_::_,hus=>exact hus.2.elim
 have hcells:=z3u hp hone
 refine⟨.pointer (some ⟨w.heap.size,0,none⟩),gh.add st.objs.length (.slice none 0 0) w.heap.size [w.heap.size],w.alloc (.cells us.toArray t),?_,⟨(Fr.alloc _ _).any,Gh.add_same _ _ _ _ _,Gh.add_new h (by simp)⟩,?_,⟨⟨by simp[Gh.add],_,by simp[obj,List.getD]; rfl⟩,fun _=>rfl⟩⟩
 ·simp[execOp,ho,Instr.box,newVar,newRow,hcells]
 ·refine h.new1 (Fr.alloc _ _) hfx (by simp) (by simp) ⟨by simp[Gh.add],us.toArray,t,?_,?_⟩
  ·simp only[Gh.add,if_true]; exact heap_alloc_new w _
  ·
   have hT:Tr C w gh st.objs (w.alloc (.cells us.toArray t)) (gh.add st.objs.length (.slice none 0 0) w.heap.size [w.heap.size]) (st.objs++[.box ls]) (fun _=>False) (fun _=>False):=by
    refine⟨by simp,fun b hb=>.inl (heap_alloc_old w _ b hb),fun k b hb hk=>?_,fun k _ hd=>?_,fun k hk=>hk.elim⟩
    ·by_cases e:k=st.objs.length
     ·subst e; simp[Gh.add] at hk; omega
     ·simp[Gh.add,e] at hk; exact⟨k,hk,.inl rfl⟩
    ·have e:=z0o hd
     exact⟨z29 e,by simp[Gh.add,show k≠st.objs.length by omega],by simp[Gh.add,show k≠st.objs.length by omega],by simp[Gh.add,show k≠st.objs.length by omega]⟩
   exact hus.mono fun c v _ hc=>z52 hT h.dj h.objs z2f hc
end
end Go.AM
