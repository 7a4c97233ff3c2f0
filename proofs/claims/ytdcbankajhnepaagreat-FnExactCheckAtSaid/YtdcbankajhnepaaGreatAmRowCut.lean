/- slices.Delete at a row of ours whose elements are of one cell. No condition. -/
import Derived.Shelf.SlicesE.Delete
import Derived.Test.YtdcbankajhnepaaGreatAmRowDel
set_option linter.unusedVariables false
set_option linter.unusedSimpArgs false
namespace Go.Proofs
open Go.Shelf Go.RowKit Go.Lib Go.Sort Go.AM
variable {P:Program} {ρ:Ren}
theorem zqb (L:SlLaysE.n45 P ρ) (A:Option Addr) (n c i:Nat) (hi:i≤n) (hc:n≤c) (w:World):
  Calls P (ρ.f 45) #[.slice A n c,.int .i64 i,.int .i64 i] w fun e w'=>e=.returned (.slice A n c)∧w'=w:=by
 have mixed:=L.mixed; have t0:=L.t0; have a0:=L.a0; have z0:=L.z0; have v0:=L.v0; have t3:=L.t3; have a3:=L.a3; have z3:=L.z3; have v3:=L.v3; have t4:=L.t4; have a4:=L.a4; have z4:=L.z4; have v4:=L.v4; have t22:=L.t22; have a22:=L.a22; have z22:=L.z22; have v22:=L.v22; have a23:=L.a23; have z23:=L.z23
 obtain⟨_,_,FG⟩:=L.f45
 go_enter FG,SlBodyN.n45_ntmps ρ
 go_wp2
 all_goals (go_ret; exact⟨rfl,rfl⟩)
section
variable {α:Type} [Inhabited α]
theorem zod (enc:α→Value) (w:World) (q g og:Nat) (d:Array α):(putRow enc (Sort.ahead w q) g og d).heap=w.heap.modify g (onCells (putCells enc og d)):=rfl
theorem y64 (enc:α→Value) (w:World) (q g og:Nat) (d:Array α):Fr (fun b=>b=g) w (putRow enc (Sort.ahead w q) g og d):=by
 refine⟨rfl,rfl,rfl,?_,fun b hb hne=>?_,fun _=>Nat.le_add_right _ _⟩
 ·rw[zod]; simp
 ·rw[zod,Array.getElem?_modify,if_neg (fun e=>hne e.symm)]
theorem zzj (enc:α→Value) (d:Array α) (cur:Array Value) (og:Nat) (h:og+d.size≤cur.size):(putCells enc og d cur).size=cur.size∧((putCells enc og d cur).toList.drop og).take d.size=d.toList.map enc:=by
 refine⟨by simp[putCells],?_⟩
 apply List.ext_getElem
 ·simp[putCells]; omega
 ·intro i h1 h2
  have hi:i<d.size:=by simp at h2; omega
  simp[putCells,hi,getElem!_pos d i hi]
theorem y1s {enc:α→Value} {w:World} {e:TypeId} {g og n cap q:Nat} {d:Array α} {xs:List Value} (h:OwnR w e 1 (.slice (some ⟨g,og,none⟩) n cap) n xs) (hd:d.size=n):
  OwnR (putRow enc (Sort.ahead w q) g og d) e 1 (.slice (some ⟨g,og,none⟩) n cap) n (d.toList.map enc):=by
 obtain⟨cur,hg,_,hnc,hcm,hcs,htake⟩:=h.at
 obtain⟨p1,p2⟩:=zzj enc d cur og (by omega)
 refine⟨by simp[hd],.inr ⟨g,og,cap,putCells enc og d cur,rfl,?_,hnc,hcm,by rw[p1]; exact hcs,by rw[Nat.mul_one,←hd]; exact p2⟩⟩
 rw[zod,Array.getElem?_modify,if_pos rfl,hg]
 rfl
end
theorem zwq (L:SlLaysE.n45 P ρ) {e:TypeId} {zv:Value} (hz:zv.oneCell'=true) (v23:∀ w,(zeroValue (ρ.t 23)).run P w=.ok zv w) {i0:TypeInfo} (hi0:P.info? (ρ.t 23)=some i0) (hz1:i0.size=1):zmw P (ρ.f 45) ⟨.cut,e,1,false⟩:=by
 intro w v css hcss how i j hij hj
 simp only at hcss how
 have h1:∀ c∈css,c.length=1:=fun c hc=>(hcss c hc).1
 have keep:(List.range i++List.range' j (css.length - j)).length=css.length - (j - i):=by simp; omega
 obtain⟨n,hnn⟩:∃ n,n=css.length:=⟨_,rfl⟩
 rw[←hnn] at how hj keep ⊢
 have how0:=how
 obtain⟨hl0,hor⟩:=how
 rcases hor with ⟨rfl,h0⟩ | ⟨g,og,cap,cur,rfl,hg,hnc,hcm,hcs,htake⟩
 ·obtain rfl:n=0:=h0
  obtain rfl:j=0:=by omega
  obtain rfl:i=0:=by omega
  refine (zqb L none 0 0 0 (Nat.le_refl _) (Nat.le_refl _) w).mono ?_
  rintro r w' ⟨rfl,rfl⟩
  refine⟨_,rfl,rfl,by simpa using OwnR.nil _ _ _,Fr.refl _ _⟩
 obtain⟨cell,hcell⟩:∃ cell:Nat→Value,cell=fun i=>if i<n then (css.getD i []).headD undef else zv:=⟨_,rfl⟩
 have hcz:cell n=zv:=by rw[hcell]; simp
 have hci:∀ i,i<n→css.getD i []=[cell i]:=by
  intro i hi
  have hi':i<css.length:=by omega
  have e:css.getD i []=css[i]:=by simp[List.getD,List.getElem?_eq_getElem hi']
  have:=h1 _ (List.getElem_mem hi')
  rw[hcell]
  simp only[hi,if_true,e]
  match hm:css[i],this with
  | [x],_=>rfl
 have hO:OneCell cell:=by
  intro i
  by_cases hi:i<n
  ·have:=hci i hi
   have hi':i<css.length:=by omega
   have e:css.getD i []=css[i]:=by simp[List.getD,List.getElem?_eq_getElem hi']
   rw[e] at this
   exact (hcss _ (List.getElem_mem hi')).2 _ (by rw[this]; simp)
  ·rw[hcell]; simp only[hi,if_false]; exact hz
 have hflat:css.flatten=(List.range n).map cell:=by
  rw[zah h1]
  apply List.ext_getElem
  ·simp[hnn]
  ·intro i q1 q2
   have hi:i<n:=by simp at q2; omega
   have:=hci i hi
   have hi':i<css.length:=by omega
   have e:css.getD i []=css[i]:=by simp[List.getD,List.getElem?_eq_getElem hi']
   rw[e] at this
   simp[this]
 rw[hflat] at how0
 have hsz:(List.range n).toArray.size=n:=by simp
 have hcall:=AnyE.slices_Delete (P:=P) (ρ:=ρ) L cell hO n (by rw[hcz]; exact v23) i0 hi0 hz1 g og cap i j (List.range n).toArray w (fun k hk=>by
  have hkn:k<n:=by simpa using hk
  refine⟨?_,zep how0 k⟩
  rw[zif how0 k hkn]
  simp[getElem!_pos (List.range n).toArray k hk,hkn]) (by rw[hsz]; exact hnc) (by simp[maxLen] at hcm; omega) hij (by rw[hsz]; exact hj)
 rw[hsz] at hcall
 refine hcall.mono ?_
 rintro r w' ⟨rfl,q,rfl⟩
 obtain⟨d,hd⟩:∃ d:Array Nat,d=((List.range n).toArray.toList.take i++(List.range n).toArray.toList.drop j++List.replicate (j - i) n).toArray:=⟨_,rfl⟩
 rw[←hd]
 have hds:d.size=n:=by rw[hd]; simp; omega
 have hf:=y64 cell w q g og d
 refine⟨_,rfl,rfl,?_,⟨hf.os,hf.tape,hf.output,hf.size,fun b hb hne=>hf.block b hb fun e=>hne (by rw[e]; rfl),hf.drawn⟩⟩
 have hown:=y1s (enc:=cell) (q:=q) how0 hds
 have hcut:=zwz hown (show n - (j - i)≤n by omega)
 rw[keep]
 have e0:d.toList=List.range i++List.range' j (n - j)++List.replicate (j - i) n:=by
  rw[hd,List.toList_toArray,List.toList_toArray,List.take_range,Nat.min_eq_left (by omega)]
  congr 2
  apply List.ext_getElem
  ·simp
  ·intro k q1 q2; simp
 have:((d.toList.map cell).take (n - (j - i)))=((List.range i++List.range' j (n - j)).map (css.getD · [])).flatten:=by
  have e1:(List.range i++List.range' j (n - j)).map (css.getD · [])=(List.range i++List.range' j (n - j)).map fun i=>[cell i]:=List.map_congr_left fun k hk=>hci k (by
   rcases List.mem_append.1 hk with hk | hk
   ·have:=List.mem_range.1 hk; omega
   ·obtain⟨q,hq,rfl⟩:=List.mem_range'.1 hk; omega)
  have e2:∀ l:List Nat,(l.map fun i=>[cell i]).flatten=l.map cell:=fun l=>by
   induction l with
   | nil=>rfl
   | cons i l ih=>rw[List.map_cons,List.flatten_cons,ih]; rfl
  rw[e1,e2,e0,←List.map_take,List.take_append_of_le_length (by rw[keep]; omega),List.take_of_length_le (by rw[keep]; omega)]
 rw[this] at hcut
 exact hcut
end Go.Proofs
