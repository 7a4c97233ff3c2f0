/- slices.SortFunc at a row of ours whose elements are of one cell. No condition. -/
import Derived.Shelf.SlSortCmp.NoneTotal
import Derived.Sort.AssemblyPlain
import Derived.Test.YtdcbankajhnepaaGreatAmRowDel
set_option linter.unusedVariables false
set_option linter.unusedSimpArgs false
namespace Go.Proofs
open Go.Shelf Go.RowKit Go.Lib Go.Sort Go.AM
variable {P:Program} {ρ:Ren}
theorem y2g {W W':World} (h:Fr (fun _=>False) W W'):∃ q os,W'=grow (W.drewN q) os:=by
 refine⟨W'.drawn - W.drawn,W'.heap.extract W.heap.size W'.heap.size,?_⟩
 have h1:=h.os; have h2:=h.tape; have h3:=h.output; have h4:=h.size; have h5:=h.drawn trivial
 have hh:W.heap++W'.heap.extract W.heap.size W'.heap.size=W'.heap:=by
  apply Array.ext_getElem?
  intro i
  by_cases hi:i<W.heap.size
  ·rw[Array.getElem?_append_left hi,h.block i hi id]
  ·rw[Array.getElem?_append_right (by omega),Array.getElem?_extract]
   by_cases h2:i<W'.heap.size
   ·rw[if_pos (by omega)]
    congr 1
    omega
   ·rw[if_neg (by omega),Array.getElem?_eq_none (by omega)]
 obtain⟨a1,a2,a3,a4,a5⟩:=W
 obtain⟨b1,b2,b3,b4,b5⟩:=W'
 dsimp only at *
 subst h1 h2 h3
 simp only[grow,World.drewN]
 rw[hh]
 congr 1
 omega
theorem zkf {α:Type} [Inhabited α] (enc:α→Value) (w:World) (g og k:Nat) (d:Array α) (os:Array Obj):(sortWorld enc w g og k d os).heap=w.heap.modify g (onCells (putCells enc og d))++os:=rfl
theorem zwd {α:Type} [Inhabited α] (enc:α→Value) (w:World) (g og k:Nat) (d:Array α) (os:Array Obj):Fr (fun b=>b=g) w (sortWorld enc w g og k d os):=by
 refine⟨rfl,rfl,rfl,?_,fun b hb hne=>?_,fun _=>Nat.le_add_right _ _⟩
 ·rw[zkf]; simp
 ·rw[zkf,Array.getElem?_append_left (by simpa using hb),Array.getElem?_modify,if_neg (fun e=>hne e.symm)]
theorem zof {α:Type} [Inhabited α] (enc:α→Value) (d:Array α) (cur:Array Value) (og:Nat) (h:og+d.size≤cur.size):(putCells enc og d cur).size=cur.size∧((putCells enc og d cur).toList.drop og).take d.size=d.toList.map enc:=by
 refine⟨by simp[putCells],?_⟩
 apply List.ext_getElem
 ·simp[putCells]; omega
 ·intro i h1 h2
  have hi:i<d.size:=by simp at h2; omega
  simp[putCells,hi,getElem!_pos d i hi]
theorem zze {α:Type} [Inhabited α] {enc:α→Value} {w:World} {e:TypeId} {g og n cap k:Nat} {d:Array α} {os:Array Obj} {xs:List Value} (h:OwnR w e 1 (.slice (some ⟨g,og,none⟩) n cap) n xs) (hd:d.size=n):
  OwnR (sortWorld enc w g og k d os) e 1 (.slice (some ⟨g,og,none⟩) n cap) n (d.toList.map enc):=by
 obtain⟨cur,hg,_,hnc,hcm,hcs,htake⟩:=h.at
 have hlt:g<w.heap.size:=(Array.getElem?_eq_some_iff.1 hg).1
 obtain⟨p1,p2⟩:=zof enc d cur og (by omega)
 refine⟨by simp[hd],.inr ⟨g,og,cap,putCells enc og d cur,rfl,?_,hnc,hcm,by rw[p1]; exact hcs,by rw[Nat.mul_one,←hd]; exact p2⟩⟩
 rw[zkf,Array.getElem?_append_left (by simpa using hlt),Array.getElem?_modify,if_pos rfl,hg]
 rfl
theorem zzg (L:SlLaysF.n6 P ρ) {e:TypeId} {w:World} {v:Value} {css:List (List Value)} (hcss:∀ c∈css,c.length=1∧∀ u∈c,u.oneCell'=true) (how:OwnR w e 1 v css.length css.flatten)
  {m:Nat→Nat→Int} (hbig:css.length<4611686018427387904) (hO:SWO (z4x css.length m)) {h:FuncId} {lb:Array Value}
  (hs:∀ (j k:Nat) (cj ck:List Value),css[j]? = some cj→css[k]? = some ck→z1m P h∧∀ W:World,w.heap.size≤W.heap.size→(∀ b,b<w.heap.size→v.ownBlock≠some b→W.heap[b]? = w.heap[b]?) →
   Calls P h (#[zcf false cj,zcf false ck]++lb) W fun r W'=>r=.returned (.int .i64 (m j k))∧Fr (fun _=>False) W W'):
  Calls P (ρ.f 6) #[v,.func (.func h) #[] lb] w fun r w'=>r=.returned (.tuple #[])∧OwnR w' e 1 v css.length ((z2w css.length m).map (css.getD · [])).flatten∧Fr (fun b=>v.ownBlock=some b) w w':=by
 obtain⟨n,hnn⟩:∃ n,n=css.length:=⟨_,rfl⟩
 rw[←hnn] at how hO hbig ⊢
 obtain⟨A,c,rfl,hc⟩:=z0u how
 by_cases hpos:n=0
 ·subst hpos
  have hnil:css=[]:=List.length_eq_zero_iff.1 hnn.symm
  subst hnil
  refine (AnyF.slices_SortFunc_none (P:=P) (ρ:=ρ) { L with } A c _ w).mono ?_
  rintro r w' ⟨rfl,rfl⟩
  refine⟨rfl,?_,Fr.refl _ _⟩
  have:z2w 0 m=[]:=by
   have hz:=(pdq_sorts (z4x 0 m) hO (List.range 0).toArray 0 0 (Lib.bitLen 0) true true (Nat.le_refl _) (Nat.le_refl _) (Or.inl rfl)).1.1
   unfold z2w
   exact List.length_eq_zero_iff.1 (by simpa using hz)
  rw[this]
  simpa using how
 have how0:=how
 obtain⟨hl0,hor⟩:=how
 rcases hor with ⟨_,h0⟩ | ⟨g,og,cap,cur,hv,hg,hnc,hcm,hcs,htake⟩
 ·omega
 simp only[Value.slice.injEq] at hv
 obtain⟨rfl,_,rfl⟩:=hv
 obtain⟨cell,hcell⟩:∃ cell:Nat→Value,cell=fun i=>(css.getD (min i (n - 1)) []).headD undef:=⟨_,rfl⟩
 have hci:∀ i,css[min i (n - 1)]? = some [cell i]:=by
  intro i
  have hi':min i (n - 1)<css.length:=by omega
  have h1:=(hcss _ (List.getElem_mem hi')).1
  rw[List.getElem?_eq_getElem hi',hcell]
  have e:css.getD (min i (n - 1)) []=css[min i (n - 1)]:=by simp[List.getD,List.getElem?_eq_getElem hi']
  simp only[e]
  match hm:css[min i (n - 1)],h1 with
  | [x],_=>rfl
 have hO1:OneCell cell:=by
  intro i
  have:=hci i
  exact (hcss _ (List.mem_of_getElem? this)).2 _ (by simp)
 have hget:∀ i,i<n→css.getD i []=[cell i]:=by
  intro i hi
  have:=hci i
  rw[show min i (n - 1)=i by omega] at this
  simp[List.getD,this]
 have hflat:css.flatten=(List.range n).map cell:=by
  rw[zah fun c hc=>(hcss c hc).1]
  apply List.ext_getElem
  ·simp[hnn]
  ·intro i q1 q2
   have hi:i<n:=by simp at q2; omega
   have:=hget i hi
   have hi':i<css.length:=by omega
   have e:css.getD i []=css[i]:=by simp[List.getD,List.getElem?_eq_getElem hi']
   rw[e] at this
   simp[this]
 rw[hflat] at how0
 have hsz:(List.range n).toArray.size=n:=by simp
 have hblk:g<w.heap.size:=(Array.getElem?_eq_some_iff.1 hg).1
 have he:z1m P h:=(hs _ _ _ _ (hci 0) (hci 0)).1
 have hcall:=Any.slices_SortFunc_eq (P:=P) (ρ:=ρ) (α:=Nat) L cell hO1 (fun i j=>m (min i (n - 1)) (min j (n - 1))) hO h lb g og c (List.range n).toArray w he
  (fun k os dk hdk x y=>by
   have hf:=zwd cell w g og k dk os
   refine ((hs _ _ _ _ (hci x) (hci y)).2 _ hf.size (fun b hb hne=>hf.block b hb fun e=>hne (by rw[e]; rfl))).mono ?_
   rintro r W' ⟨rfl,hfr⟩
   exact⟨rfl,y2g hfr⟩)
  (fun j hj=>by
   have hjn:j<n:=by simpa using hj
   refine⟨?_,zep how0 j⟩
   rw[zif how0 j hjn]
   simp[getElem!_pos (List.range n).toArray j hj,hjn])
  hblk (by rw[hsz]; exact hbig)
 rw[hsz] at hcall
 refine hcall.mono ?_
 rintro r w' ⟨rfl,k,os,rfl⟩
 have hps:=(pdq_sorts (z4x n m) hO (List.range n).toArray 0 n (Lib.bitLen n) true true (Nat.zero_le _) (by simp) (Or.inl rfl)).1
 have hd:(pdq (z4x n m) (List.range n).toArray 0 n (Lib.bitLen n) true true).size=n:=by rw[hps.1]; simp
 have hmem:∀ i∈z2w n m,i<n:=by
  intro i hi
  have hp:=hps.2.2
  have e1:(pdq (z4x n m) (List.range n).toArray 0 n (Lib.bitLen n) true true).extract 0 n=pdq (z4x n m) (List.range n).toArray 0 n (Lib.bitLen n) true true:=by
   apply Array.ext
   ·rw[Array.size_extract,hd]; omega
   ·intro i h1 h2; simp
  rw[e1] at hp
  have:=hp.mem_iff.1 hi
  simpa using this
 refine⟨rfl,?_,?_⟩
 ·have hown:=zze (enc:=cell) (k:=k) (os:=os) how0 hd
  have e1:(z2w n m).map (css.getD · [])=(z2w n m).map fun i=>[cell i]:=List.map_congr_left fun i hi=>hget i (hmem i hi)
  have e2:∀ l:List Nat,(l.map fun i=>[cell i]).flatten=l.map cell:=fun l=>by
   induction l with
   | nil=>rfl
   | cons i l ih=>rw[List.map_cons,List.flatten_cons,ih]; rfl
  rw[e1,e2]
  exact hown
 ·have hf:=zwd cell w g og k (pdq (z4x n m) (List.range n).toArray 0 n (Lib.bitLen n) true true) os
  exact⟨hf.os,hf.tape,hf.output,hf.size,fun b hb hne=>hf.block b hb fun e=>hne (by rw[e]; rfl),hf.drawn⟩
theorem zn7 (L:SlLaysF.n6 P ρ) {e:TypeId}:zmw P (ρ.f 6) ⟨.sort,e,1,false⟩:=by
 intro w v css hcss how fv m hbig hO hsays
 simp only at hcss how
 obtain⟨h,lb,rfl,hs⟩:=hsays
 refine (zzg L hcss how hbig hO (h:=h) (lb:=lb) fun j k cj ck hj hk=>?_).mono ?_
 ·obtain⟨he,hW⟩:=hs [zcf false cj,zcf false ck] (.int .i64 (m j k)) ⟨j,k,cj,ck,hj,hk,rfl,rfl⟩
  exact⟨he,fun W h1 h2=>hW W h1 h2⟩
 ·rintro r w' ⟨rfl,h1,h2⟩
  exact⟨rfl,h1,h2⟩
end Go.Proofs
