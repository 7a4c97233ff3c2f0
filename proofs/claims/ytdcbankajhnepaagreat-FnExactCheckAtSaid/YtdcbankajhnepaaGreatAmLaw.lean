/- From a function's run on data to a row's claim. No condition. -/
import Derived.Test.YtdcbankajhnepaaGreatAmClo
import Derived.DeepKeys
import Derived.WalkKit
import Derived.ProofKit
import Derived.OpenShut
import Derived.ShutString
import Derived.ChangeOld
import Derived.ChangeStays
import Derived.Below
import Derived.SizedLaws
set_option linter.unusedVariables false
set_option linter.unusedSimpArgs false
namespace Go.AM
open Go.ChangeShapes Go.WideShapes Go.ChangeAt Go.RowKit
def y2d (k:IntKind):Option TypeDesc→Bool
 | some (.int j)=>decide (j=k)
 | _=>false
def zxl:Option TypeDesc→Bool
 | some .bool=>true
 | _=>false
def y2c:Option TypeDesc→Bool
 | some .string=>true
 | _=>false
def zd6 (e:TypeId):Option TypeDesc→Bool
 | some (.slice d)=>d==e
 | _=>false
theorem zor {k:IntKind} {d:Option TypeDesc} (h:y2d k d=true):d=some (.int k):=by
 unfold y2d at h
 split at h
 ·simp only[decide_eq_true_eq] at h; rw[h]
 ·cases h
theorem zlg {d:Option TypeDesc} (h:zxl d=true):d=some .bool:=by
 unfold zxl at h
 split at h
 ·rfl
 ·cases h
theorem zoq {d:Option TypeDesc} (h:y2c d=true):d=some .string:=by
 unfold y2c at h
 split at h
 ·rfl
 ·cases h
theorem zv7 {e:TypeId} {d:Option TypeDesc} (h:zd6 e d=true):d=some (.slice e):=by
 unfold zd6 at h
 split at h
 ·simp only[beq_iff_eq] at h; rw[h]
 ·cases h
mutual
def tyOk (P:Program):Ty→TypeId→Bool
 | .int k,t=>y2d k (P.underlying t)
 | .bool,t=>zxl (P.underlying t)
 | .str,t=>y2c (P.underlying t)
 | .slice e s,t=>zd6 e (P.underlying t)&&(P.cellsOf e==s.size&&Nat.blt 0 s.size)&&tyOk P s e
 | .pair a b,t=>match P.underlying t with
  | some (.struct arr)=>P.cellsOf t==(Ty.pair a b).size&&(match arr.toList with
   | f::fs=>f.offset==0&&P.cellsOf f.type==a.size&&tyOk P a f.type&&z2c P b fs a.size
   | []=>false)
  | _=>false
 | .unit,t=>match P.underlying t with
  | some (.struct arr)=>P.cellsOf t==0&&arr.toList.isEmpty
  | _=>false
def z2c (P:Program):Ty→List Field→Nat→Bool
 | .unit,[],_=>true
 | .pair a b,f::fs,off=>f.offset==off&&P.cellsOf f.type==a.size&&tyOk P a f.type&&z2c P b fs (off+a.size)
 | _,_,_=>false
end
def agOf:Ty→Bool
 | .pair _ _ | .unit=>true
 | _=>false
def Wf:(t:Ty)→t.den→Prop
 | .int k,n=>(Lit.int k n).wf=true
 | .bool,_=>True
 | .str,s=>s.size≤maxLen
 | .slice _ t,xs=>List.length xs≤maxLen∧∀ x∈(xs:List t.den),Wf t x
 | .pair a b,x=>Wf a x.1∧Wf b x.2
 | .unit,_=>True
theorem Rep.ext:∀ (t:Ty) {w w':World} {x:t.den} {cs:List Value},Rep t w x cs→(∀ b,b<w.heap.size→w'.heap[b]? = w.heap[b]?)→Rep t w' x cs
 | .int _,_,_,_,_,h,_=>h
 | .bool,_,_,_,_,h,_=>h
 | .str,_,_,_,_,h,_=>h
 | .unit,_,_,_,_,h,_=>h
 | .pair a b,_,_,_,_,h,hw=>by
  obtain⟨c1,c2,rfl,h1,h2⟩:=h
  exact⟨c1,c2,rfl,Rep.ext a h1 hw,Rep.ext b h2 hw⟩
 | .slice e t,w,w',_,_,h,hw=>by
  obtain⟨A,c,rfl,hc,hr⟩:=h
  refine⟨A,c,rfl,hc,?_⟩
  rcases hr with h0 | ⟨b,o,rfl,hel⟩
  ·exact .inl h0
  ·refine .inr ⟨b,o,rfl,fun i x hx=>?_⟩
   obtain⟨es,h1,h2⟩:=hel i x hx
   refine⟨es,Rep.ext t h1 hw,fun j u hu=>?_⟩
   have:=h2 j u hu
   rw[World.cell?_of_block (w:=w) (hw _ (World.block_lt_of_cell? w _ this))]
   exact this
section
variable {H:Type} {enc:TypeId×Value→H} {P:Program} {w:World}
theorem zbv {e:TypeId} {s:Ty} {t:TypeId} (h:tyOk P (.slice e s) t=true):P.underlying t=some (.slice e)∧P.cellsOf e=s.size∧0<s.size∧tyOk P s e=true:=by
 simp only[tyOk,Bool.and_eq_true,beq_iff_eq] at h
 exact⟨zv7 h.1.1,h.1.2.1,by simpa using h.1.2.2,h.2⟩
mutual
theorem zjn:∀ (ty:Ty) {t:TypeId} {fuel:Nat} {cs:List Value} {x:DataW H×List MemPlace},tyOk P ty t=true→DataW.trod enc P w 0 (fun _=>true) true fuel t cs=some x→∃ y:ty.den,Rep ty w y cs∧Wf ty y
 | .int k,t,fuel,cs,x,hT,h=>by
  simp only[tyOk] at hT
  obtain⟨n,rfl,_,hw⟩:=DataW.trod_int (zor hT) h
  exact⟨n,rfl,hw⟩
 | .bool,t,fuel,cs,x,hT,h=>by
  simp only[tyOk] at hT
  obtain⟨b,rfl,_⟩:=DataW.trod_bool (zlg hT) h
  exact⟨b,rfl,trivial⟩
 | .str,t,fuel,cs,x,hT,h=>by
  simp only[tyOk] at hT
  obtain⟨s,rfl,_,hs⟩:=DataW.trod_string (zoq hT) h
  exact⟨s,rfl,hs⟩
 | .slice e s,t,fuel,cs,x,hT,h=>by
  obtain⟨hu,hc,hpos,hs⟩:=zbv hT
  rcases DataW.trod_slice hu h with ⟨rfl,_⟩ | ⟨a,len,cap,elems,rest,n,_,rfl,_,_,hl,hm,hlen,hel,_,_⟩
  ·exact⟨[],⟨none,0,rfl,Nat.le_refl _,.inl rfl⟩,Nat.zero_le _,fun _ h=>by cases h⟩
  ·have key:∀ i,i<len→∃ (y:s.den) (es:List Value),Rep s w y es∧Wf s y∧w.cells? 0 (a.add (i*s.size)) s.size=some es:=by
    intro i hi
    have h1:=hel i hi
    rw[hc] at h1
    have h2:i<elems.length:=by omega
    rw[List.getElem?_eq_getElem h2] at h1
    obtain⟨es,h3,h4⟩:=Option.bind_eq_some_iff.1 h1
    obtain⟨y,h5,h6⟩:=zjn s hs h4
    exact⟨y,es,h5,h6,h3⟩
   let ys:List s.den:=(List.range len).attach.map fun i=>(key i.1 (List.mem_range.1 i.2)).choose
   have hys:ys.length=len:=by simp[ys]
   have hget:∀ i y,ys[i]? = some y→∃ es,Rep s w y es∧Wf s y∧w.cells? 0 (a.add (i*s.size)) s.size=some es:=by
    intro i y hy
    have hi:i<len:=by have:=(List.getElem?_eq_some_iff.1 hy).1; omega
    simp only[ys,List.getElem?_map,List.getElem?_attach] at hy
    obtain⟨⟨j,hj⟩,h1,h2⟩:=Option.map_eq_some_iff.1 hy
    have hij:j=i:=by
     have:=List.getElem?_attach (xs:=List.range len) (i:=i)
     simp only[List.getElem?_pmap,List.getElem?_range hi] at h1
     simp at h1
     exact h1.symm
    subst hij
    subst h2
    have hcs:=(key j (List.mem_range.1 hj)).choose_spec
    obtain⟨es,h3,h4,h5⟩:=hcs
    exact⟨es,h3,h4,h5⟩
   refine⟨ys,?_,by rw[hys]; omega,fun y hy=>?_⟩
   ·refine⟨some a,cap,by rw[hys],by rw[hys]; exact hl,?_⟩
    by_cases h0:len=0
    ·left; exact List.eq_nil_of_length_eq_zero (by omega)
    ·right
     obtain⟨b,off,spot⟩:=a
     have h00:0<len:=by omega
     obtain⟨es,h3,_,h5⟩:=hget 0 ys[0] (by rw[List.getElem?_eq_getElem])
     obtain⟨_,hes,hcell⟩:=World.cells?_some h5
     have hspot:spot=none:=by
      have:=hcell 0 hpos
      rw[List.getElem?_eq_getElem (by rw[hes]; exact hpos)] at this
      simpa[Addr.add] using World.cell?_spot this
     subst hspot
     refine⟨b,off,rfl,fun i y hy=>?_⟩
     obtain⟨es,h3,_,h5⟩:=hget i y hy
     obtain⟨_,hes,hcell⟩:=World.cells?_some h5
     refine⟨es,h3,fun j u hu=>?_⟩
     have hj:=(List.getElem?_eq_some_iff.1 hu).1
     have:=hcell j (by omega)
     rw[hu,Addr.add_lit,Addr.add_lit] at this
     exact this
   ·obtain⟨i,hi,rfl⟩:=List.mem_iff_getElem.1 hy
    obtain⟨es,_,h4,_⟩:=hget i _ (List.getElem?_eq_getElem hi)
    exact h4
 | .pair a b,t,fuel,cs,x,hT,h=>by
  simp only[tyOk] at hT
  split at hT
  ·rename_i arr hu
   simp only[Bool.and_eq_true,beq_iff_eq] at hT
   obtain⟨hsz,hT⟩:=hT
   obtain⟨xs,n,_,_,hcs,hxl,hf⟩:=DataW.trod_struct hu h
   split at hT
   ·rename_i f fs hfs
    simp only[Bool.and_eq_true,beq_iff_eq] at hT
    obtain⟨⟨⟨h1,h2⟩,h3⟩,h4⟩:=hT
    have hall:∀ g∈arr.toList,∃ y,DataW.trod enc P w 0 (fun _=>true) true n g.type ((cs.drop g.offset).take (P.cellsOf g.type))=some y:=by
     intro g hg
     obtain⟨i,hi,rfl⟩:=List.mem_iff_getElem.1 hg
     have hi':i<arr.size:=by simpa using hi
     have:=hf i arr[i] (by simp[hi'])
     rw[List.getElem?_eq_getElem (by omega)] at this
     exact⟨_,by simpa using this⟩
    obtain⟨y0,hy0⟩:=hall f (by rw[hfs]; simp)
    rw[h1,h2,List.drop_zero] at hy0
    obtain⟨y,hy,hwy⟩:=zjn a h3 hy0
    have hcsl:cs.length=a.size+b.size:=by rw[hcs,hsz]; rfl
    obtain⟨z,hz,hwz⟩:=znm b h4 (cs:=cs) (fuel:=n) (by omega) fun g hg=>hall g (by rw[hfs]; simp[hg])
    exact⟨(y,z),⟨_,_,by rw[List.take_append_drop],hy,hz⟩,hwy,hwz⟩
   ·cases hT
  ·cases hT
 | .unit,t,fuel,cs,x,hT,h=>by
  simp only[tyOk] at hT
  split at hT
  ·rename_i arr hu
   simp only[Bool.and_eq_true,beq_iff_eq] at hT
   obtain⟨xs,n,_,_,hcs,hxl,hf⟩:=DataW.trod_struct hu h
   rw[hT.1] at hcs
   exact⟨(),List.eq_nil_of_length_eq_zero hcs,trivial⟩
  ·cases hT
theorem znm:∀ (ty:Ty) {fs:List Field} {off:Nat} {cs:List Value} {fuel:Nat},z2c P ty fs off=true→cs.length=off+ty.size→(∀ g∈fs,∃ y,DataW.trod enc P w 0 (fun _=>true) true fuel g.type ((cs.drop g.offset).take (P.cellsOf g.type))=some y) →
  ∃ y:ty.den,Rep ty w y (cs.drop off)∧Wf ty y
 | .unit,fs,off,cs,fuel,hT,hl,hf=>⟨(),List.drop_eq_nil_of_le (by rw[hl]; exact Nat.le_refl _),trivial⟩
 | .pair a b,fs,off,cs,fuel,hT,hl,hf=>by
  cases fs with
  | nil=>simp[z2c] at hT
  | cons f fs=>
   simp only[z2c,Bool.and_eq_true,beq_iff_eq] at hT
   obtain⟨⟨⟨h1,h2⟩,h3⟩,h4⟩:=hT
   obtain⟨y0,hy0⟩:=hf f (by simp)
   rw[h1,h2] at hy0
   obtain⟨y,hy,hwy⟩:=zjn a h3 hy0
   obtain⟨z,hz,hwz⟩:=znm b h4 (cs:=cs) (fuel:=fuel) (by rw[hl]; simp only[Ty.size]; omega) fun g hg=>hf g (by simp[hg])
   refine⟨(y,z),⟨_,_,?_,hy,hz⟩,hwy,hwz⟩
   rw[←List.drop_drop,List.take_append_drop]
 | .int _,fs,off,cs,fuel,hT,hl,hf=>by cases fs<;>simp[z2c] at hT
 | .bool,fs,off,cs,fuel,hT,hl,hf=>by cases fs<;>simp[z2c] at hT
 | .str,fs,off,cs,fuel,hT,hl,hf=>by cases fs<;>simp[z2c] at hT
 | .slice _ _,fs,off,cs,fuel,hT,hl,hf=>by cases fs<;>simp[z2c] at hT
end
end
section
variable {P:Program}
theorem zm2 {T:TypeId→Prop} (hT:∀ ty t,tyOk P ty t=true→T t):∀ (ty:Ty) {fs:List Field} {off:Nat},z2c P ty fs off=true →
  (∀ f∈fs,T f.type)∧ty.size=(fs.map fun f=>P.cellsOf f.type).sum∧∀ (j:Nat) f,fs[j]? = some f→f.offset=off+((fs.take j).map fun f=>P.cellsOf f.type).sum
 | .unit,fs,off,h=>by
  cases fs with
  | nil=>exact⟨by simp,rfl,by simp⟩
  | cons f fs=>simp[z2c] at h
 | .pair a b,fs,off,h=>by
  cases fs with
  | nil=>simp[z2c] at h
  | cons f fs=>
   simp only[z2c,Bool.and_eq_true,beq_iff_eq] at h
   obtain⟨⟨⟨h1,h2⟩,h3⟩,h4⟩:=h
   obtain⟨k1,k2,k3⟩:=zm2 hT b h4
   refine⟨fun g hg=>?_,?_,fun j g hg=>?_⟩
   ·rcases List.mem_cons.1 hg with rfl | hg
    ·exact hT _ _ h3
    ·exact k1 g hg
   ·simp only[Ty.size,List.map_cons,List.sum_cons,h2,k2]
   ·cases j with
    | zero=>simp at hg; subst hg; simp[h1]
    | succ j=>
     have:=k3 j g (by simpa using hg)
     simp only[List.take_succ_cons,List.map_cons,List.sum_cons,h2]
     omega
 | .int _,fs,off,h=>by cases fs<;>simp[z2c] at h
 | .bool,fs,off,h=>by cases fs<;>simp[z2c] at h
 | .str,fs,off,h=>by cases fs<;>simp[z2c] at h
 | .slice _ _,fs,off,h=>by cases fs<;>simp[z2c] at h
def IsTy (P:Program) (t:TypeId):Prop:=∃ ty,tyOk P ty t=true
theorem zbw {ty:Ty} {t:TypeId} (h:tyOk P ty t=true):(∃ k,P.underlying t=some (.int k))∨P.underlying t=some .bool∨P.underlying t=some .string∨(∃ e s,ty=.slice e s∧P.underlying t=some (.slice e))∨(∃ fs,P.underlying t=some (.struct fs)∧agOf ty=true):=by
 cases ty with
 | int k=>exact .inl ⟨k,zor (by simpa only[tyOk] using h)⟩
 | bool=>exact .inr (.inl (zlg (by simpa only[tyOk] using h)))
 | str=>exact .inr (.inr (.inl (zoq (by simpa only[tyOk] using h))))
 | slice e s=>exact .inr (.inr (.inr (.inl ⟨e,s,rfl,(zbv h).1⟩)))
 | pair a b=>
  simp only[tyOk] at h
  split at h
  ·rename_i arr hu; exact .inr (.inr (.inr (.inr ⟨arr,hu,rfl⟩)))
  ·cases h
 | unit=>
  simp only[tyOk] at h
  split at h
  ·rename_i arr hu; exact .inr (.inr (.inr (.inr ⟨arr,hu,rfl⟩)))
  ·cases h
theorem zxj:Kids P (IsTy P) where
 pointer:=by
  rintro t e ⟨ty,h⟩ hu
  rcases zbw h with ⟨_,h⟩ | h | h | ⟨_,_,_,h⟩ | ⟨_,h,_⟩<;>(rw[hu] at h; cases h)
 slice:=by
  rintro t e ⟨ty,h⟩ hu
  rcases zbw h with ⟨_,h'⟩ | h' | h' | ⟨e',s,rfl,h'⟩ | ⟨_,h',_⟩<;>rw[hu] at h'<;>try (cases h'; done)
  cases h'
  exact⟨s,(zbv h).2.2.2⟩
 array:=by
  rintro t e n ⟨ty,h⟩ hu
  rcases zbw h with ⟨_,h⟩ | h | h | ⟨_,_,_,h⟩ | ⟨_,h,_⟩<;>(rw[hu] at h; cases h)
 struct:=by
  rintro t fs ⟨ty,h⟩ hu
  cases ty with
  | int k=>have:=zor (by simpa only[tyOk] using h); rw[hu] at this; cases this
  | bool=>have:=zlg (by simpa only[tyOk] using h); rw[hu] at this; cases this
  | str=>have:=zoq (by simpa only[tyOk] using h); rw[hu] at this; cases this
  | slice e s=>have:=(zbv h).1; rw[hu] at this; cases this
  | unit=>
   simp only[tyOk,hu,Bool.and_eq_true,beq_iff_eq,List.isEmpty_iff] at h
   rw[h.2]
   exact⟨by simp,h.1,by simp⟩
  | pair a b=>
   simp only[tyOk,hu,Bool.and_eq_true,beq_iff_eq] at h
   obtain⟨hsz,h⟩:=h
   split at h
   ·rename_i f gs hfs
    have hF:z2c P (.pair a b) (f::gs) 0=true:=by
     simp only[Bool.and_eq_true,beq_iff_eq] at h
     simp only[z2c,Bool.and_eq_true,beq_iff_eq,Nat.zero_add]
     exact h
    obtain⟨k1,k2,k3⟩:=zm2 (T:=IsTy P) (fun ty t h=>⟨ty,h⟩) _ hF
    rw[hfs]
    exact⟨k1,hsz.trans k2,fun j f hf=>by rw[k3 j f hf,Nat.zero_add]⟩
   ·cases h
 map:=by
  rintro t k e ⟨ty,h⟩ hu
  rcases zbw h with ⟨_,h⟩ | h | h | ⟨_,_,_,h⟩ | ⟨_,h,_⟩<;>(rw[hu] at h; cases h)
@[reducible] def zlr:List Ty→List PIn
 | []=>[]
 | t::r=>.imm (agOf t) t::zlr r
def y2p:(tys:List Ty)→z6e (zlr tys)→Prop
 | [],_=>True
 | t::r,x=>Wf t x.1∧y2p r x.2
def zg1 (P:Program):List Ty→List TypeId→Bool
 | [],[]=>true
 | ty::tys,t::ts=>tyOk P ty t&&zg1 P tys ts
 | _,_=>false
variable {H:Type} {enc:TypeId×Value→H}
theorem y1u {W:World} {base:Nat} {ty:Ty} {t:TypeId} {v:Value} {y:ty.den} (hT:tyOk P ty t=true) (hv:Value.okWide P W .any base t v) (hr:Rep ty W y v.cells.toList):zci (agOf ty) v.cells.toList v:=by
 unfold Value.okWide at hv
 rcases zbw hT with ⟨k,hu⟩ | hu | hu | ⟨e,s,rfl,hu⟩ | ⟨fs,hu,hag⟩
 ·rw[hu] at hv
  simp only at hv
  have hag:agOf ty=false:=by
   cases ty with
   | pair a b=>simp only[tyOk,hu] at hT; cases hT
   | unit=>simp only[tyOk,hu] at hT; cases hT
   | _=>rfl
  rw[hag]
  unfold Cell.okWide at hv
  rw[hu] at hv
  cases v<;>first | rfl | (simp[Cell.ok,hu] at hv)
 ·rw[hu] at hv
  simp only at hv
  have hag:agOf ty=false:=by
   cases ty with
   | pair a b=>simp only[tyOk,hu] at hT; cases hT
   | unit=>simp only[tyOk,hu] at hT; cases hT
   | _=>rfl
  rw[hag]
  unfold Cell.okWide at hv
  rw[hu] at hv
  cases v<;>first | rfl | (simp[Cell.ok,hu] at hv)
 ·rw[hu] at hv
  simp only at hv
  have hag:agOf ty=false:=by
   cases ty with
   | pair a b=>simp only[tyOk,hu] at hT; cases hT
   | unit=>simp only[tyOk,hu] at hT; cases hT
   | _=>rfl
  rw[hag]
  unfold Cell.okWide at hv
  rw[hu] at hv
  cases v<;>first | rfl | (simp[Cell.ok,hu] at hv)
 ·rw[hu] at hv
  simp only at hv
  unfold Cell.okWide at hv
  rw[hu] at hv
  cases v<;>first | rfl | (simp[Cell.ok,hu] at hv)
 ·rw[hu] at hv
  obtain⟨cs,rfl,_⟩:=hv
  rw[hag]
  simp[zci,Value.cells]
theorem zrr {W:World} {base:Nat}:∀ (tys:List Ty) {ts:List TypeId} {vs:List Value} {ds:List (DataW H)} {ps:List MemPlace},zg1 P tys ts=true→(∀ (j:Nat) t v,ts[j]? = some t→vs[j]? = some v→Value.okWide P W .any base t v) →
  DataW.TrodAll enc P W 0 (fun _=>true) true ts vs ds ps→ds.length=tys.length∧∃ x:z6e (zlr tys),y2p tys x∧zpi P W (fun _=>False) [] (zlr tys) x vs []
 | [],ts,vs,ds,ps,hp,hv,h=>by
  cases ts with
  | cons _ _=>simp[zg1] at hp
  | nil=>
   obtain⟨rfl,rfl,rfl⟩:=trodAll_nil h
   exact⟨rfl,(),trivial,rfl,rfl⟩
 | ty::tys,ts,vs,ds,ps,hp,hv,h=>by
  cases ts with
  | nil=>simp[zg1] at hp
  | cons t ts=>
   simp only[zg1,Bool.and_eq_true] at hp
   obtain⟨v,vs',d,ds',p,q,rfl,rfl,rfl,⟨fuel,h1⟩,h2⟩:=trodAll_cons h
   obtain⟨hl,x,hx,hi⟩:=zrr tys hp.2 (fun j t v ht hv'=>hv (j+1) t v (by simpa using ht) (by simpa using hv')) h2
   obtain⟨y,hy,hw⟩:=zjn ty hp.1 h1
   exact⟨by simp[hl],(y,x),⟨hw,hx⟩,v,_,vs',rfl,y1u hp.1 (hv 0 t v rfl rfl) hy,fun W' hW=>Rep.ext ty hy fun b hb=>hW b hb (by rintro (h | h); exact h; cases h),hi⟩
theorem zgy {W W':World} (hW:∀ b,b<W.heap.size→W'.heap[b]? = W.heap[b]?) {sp:Nat→Bool} (hsp:∀ b,b<W.heap.size→sp b=true):∀ (tys:List Ty) {ts:List TypeId} {vs:List Value} {ds:List (DataW H)} {ps:List MemPlace},zg1 P tys ts=true →
  DataW.TrodAll enc P W 0 (fun _=>true) true ts vs ds ps→DataW.TrodAll enc P W' 0 sp true ts vs ds ps
 | [],ts,vs,ds,ps,hp,h=>by
  cases ts with
  | cons _ _=>simp[zg1] at hp
  | nil=>
   obtain⟨rfl,rfl,rfl⟩:=trodAll_nil h
   exact rfl
 | ty::tys,ts,vs,ds,ps,hp,h=>by
  cases ts with
  | nil=>simp[zg1] at hp
  | cons t ts=>
   simp only[zg1,Bool.and_eq_true] at hp
   obtain⟨v,vs',d,ds',p,q,rfl,rfl,rfl,⟨fuel,h1⟩,h2⟩:=trodAll_cons h
   have hlt:=DataW.trod_lt _ _ _ _ h1
   refine⟨p,q,⟨fuel,DataW.trod_stays zxj (fun {t e} ht hu=>?_) (fun h=>by cases h) ⟨ty,hp.1⟩ h1 (fun m hm=>?_) (fun m hm=>hsp _ (hlt m hm))⟩,zgy hW hsp tys hp.2 h2,rfl⟩
   ·obtain⟨ty',ht'⟩:=ht
    rcases zbw ht' with ⟨_,h'⟩ | h' | h' | ⟨e',s,rfl,h'⟩ | ⟨_,h',_⟩<;>rw[hu] at h'<;>try (cases h'; done)
    cases h'
    have:=zbv ht'
    rw[this.2.1]; exact this.2.2.1
   ·have hm':=hlt m hm
    cases m with
    | cell b o=>exact World.cell?_of_block (w:=W) (hW b hm')
    | map b=>exact hW b hm'
def y29:Facts:=⟨0,fun _=>True,true⟩
theorem law_ok {C:Checked} {Γ:Facts} {E:Env} (hE:EnvOk C.prog Γ E) {f:FuncId} {fn:Func} {c:Code} (hf:C.prog.funcs[f]? = some fn) (hb:fn.body=some c) {tys:List Ty} (hp:zg1 C.prog tys fn.params.toList=true)
  {tb:TypeId} (hres:fn.resultTypes=#[tb]) (htb:C.prog.underlying tb=some .bool) {s:ChangeSpec} (hvars:s.vars=[]) (hspec:∀ ds:List (DataW H),ds.length=tys.length→s.fn H ds={ results:=[.lit (.bool true)],args:=ds })
  (hrun:∀ x,y2p tys x→∃ N z,runF N E fn (zlr tys) [.imm false .bool] x=some ((true,()),z))
  {apart:Bool} {W:World} {base:Nat} {args:Array Value} {ds gs:List (DataW H)} {before:List MemPlace} (hgl:Gl Γ (fun _=>False) W) (hval:∀ (j:Nat) t v,fn.params[j]? = some t→args[j]? = some v→Value.okWide C.prog W .any base t v)
  (hW:DataW.Whole enc C.prog fn.params.toList s.vars apart W args.toList ds gs before):
  Calls C.prog f args W fun e W'=>∃ v,e=.returned v∧s.post enc C.prog fn apart true false false W args v W':=by
 have hW':=hW
 obtain⟨p,q,hA,hV,rfl,hfz,hnd⟩:=hW
 rw[hvars] at hV
 obtain⟨rfl,rfl⟩:=trodVars_none hV
 obtain⟨hl,x,hx,hi⟩:=zrr tys hp (fun j t v ht hv=>hval j t v (by simpa using ht) (by simpa using hv)) hA
 obtain⟨N,z,hz⟩:=hrun x hx
 have hF:FOk C.prog Γ f ⟨zlr tys,[.imm false .bool],fun x=>runF N E fn (zlr tys) [.imm false .bool] x,Γ.q⟩:=zt8 hE hf hb fun x y h=>⟨N,h⟩
 have hcall:=hF x args.toList W (fun _=>False) [] (fun b h=>h.elim) hi List.nodup_nil (by simp) (hgl.next (Nat.le_refl _) (fun _ _ _=>rfl) fun b _ hz=>by simp at hz) _ hz
 simp only[Array.toArray_toList] at hcall
 refine hcall.mono ?_
 rintro e W' ⟨vs,Fd,rfl,hfr,_,_,⟨v,cs,r,rfl,hpk,him,rfl,rfl⟩,_⟩
 obtain rfl:cs=[v]:=hpk
 have hrep:v=.bool true:=by have:=him.rep; simpa[Rep] using this
 subst hrep
 have hsame:∀ b,b<W.heap.size→W'.heap[b]? = W.heap[b]?:=fun b hb=>hfr.block b hb (by simp)
 refine⟨_,rfl,ds,[],p++[],[],p,[],hW',?_,?_,?_,?_,fun h=>by cases h⟩
 ·rw[List.append_nil,hspec ds hl,hres]
  exact trodAll_mk1 (shut_bool htb _)
 ·rw[List.append_nil,hspec ds hl]
  exact zgy hsame (fun b hb=>by simpa using hb) tys hp hA
 ·rw[List.append_nil,hspec ds hl,hvars]
  exact rfl
 ·have bel:Below W.heap.size W W':=⟨hfr.os,hfr.tape,hfr.output,hfr.size,hsame⟩
  exact bel.frame _
end
theorem z09 {P:Program} {t:TypeId} {ti:TI} {fs:List FI} {arr:Array Field} (h1:(P.info? t).map (fun i=>(i.zero,i.size,i.bytes))=some (some (zval ti),ti.ty.size,ti.bytes)) (h2:ti.td=.struct fs) (h3:ti.agg=true) (h4:P.underlying t=some (.struct arr))
  (h5:arr.toList.map (fun f=>(f.offset,f.type))=fs.map (fun f=>(f.off,f.type))) (h6:fs.all (fun fi=>match P.info? fi.type with | some i=>i.size==fi.size | none=>false)=true):TabOk P t ti:=by
 refine⟨h1,?_⟩
 rw[h2]
 refine⟨h3,arr,h4,h5,fun fi hfi=>?_⟩
 have:=List.all_eq_true.1 h6 fi hfi
 split at this
 ·rename_i i hi
  simp only[beq_iff_eq] at this
  simp[hi,this]
 ·cases this
theorem z1i {P:Program} {t e:TypeId} {ti:TI} {s:Ty} (h1:(P.info? t).map (fun i=>(i.zero,i.size,i.bytes))=some (some (zval ti),ti.ty.size,ti.bytes)) (h2:ti.td=.slice e) (h3:ti.agg=false) (h4:P.underlying t=some (.slice e)) (h5:ti.ty=.slice e s):TabOk P t ti:=by
 refine⟨h1,?_⟩
 rw[h2]
 exact⟨h3,h4,s,h5⟩
theorem z9h {P:Program} {t:TypeId} {ti:TI} {k:IntKind} (h1:(P.info? t).map (fun i=>(i.zero,i.size,i.bytes))=some (some (zval ti),ti.ty.size,ti.bytes)) (h2:ti.td=.data) (h3:ti.agg=false) (h4:P.underlying t=some (.int k)) (h5:ti.ty=.int k):TabOk P t ti:=by
 refine⟨h1,?_⟩
 rw[h2]
 refine⟨h3,?_⟩
 rw[h5]; exact h4
theorem y1h {P:Program} {t:TypeId} {ti:TI} (h1:(P.info? t).map (fun i=>(i.zero,i.size,i.bytes))=some (some (zval ti),ti.ty.size,ti.bytes)) (h2:ti.td=.data) (h3:ti.agg=false) (h4:P.underlying t=some .bool) (h5:ti.ty=.bool):TabOk P t ti:=by
 refine⟨h1,?_⟩
 rw[h2]
 refine⟨h3,?_⟩
 rw[h5]; exact h4
theorem zw2 {P:Program} {t:TypeId} {ti:TI} (h1:(P.info? t).map (fun i=>(i.zero,i.size,i.bytes))=some (some (zval ti),ti.ty.size,ti.bytes)) (h2:ti.td=.data) (h3:ti.agg=false) (h4:P.underlying t=some .string) (h5:ti.ty=.str):TabOk P t ti:=by
 refine⟨h1,?_⟩
 rw[h2]
 refine⟨h3,?_⟩
 rw[h5]; exact h4
def zfb (P:Program) (g:TypeId→List Bool→Bool):List Field→List Bool→Nat→Bool
 | [],sh,_=>sh.isEmpty
 | f::fs,sh,off=>(f.name != "_")&&(f.offset==off)&&(P.info? f.type).isSome&&((sh.take (P.cellsOf f.type)).length==P.cellsOf f.type&&P.cellsOf f.type != 0)&&g f.type (sh.take (P.cellsOf f.type))&&zfb P g fs (sh.drop (P.cellsOf f.type)) (off+P.cellsOf f.type)
def zg8 (P:Program):Nat→TypeId→List Bool→Bool
 | 0,_,_=>false
 | d+1,t,sh=>match P.underlying t with
  | some (.int .i64)=>sh==[false]
  | some .string=>sh==[true]
  | some (.struct fs)=>!P.stoodInHeld t&&zfb P (zg8 P d) fs.toList sh 0
  | _=>false
def zhc (P:Program) (t:TypeId) (xs:List Sc):Value:=match P.underlying t with
 | some (.struct _)=>.agg (xs.map Sc.val).toArray
 | _=>(xs.headD (.i 0)).val
theorem ztv {P:Program} {d:Nat} {t:TypeId} {sh:List Bool} {off:Nat} (hg:zg8 P d t sh=true) (hi:(P.info? t).isSome=true) (hn:P.cellsOf t=sh.length) {xs:List Sc} (hx:off+sh.length≤xs.length) (w:World):
  (part t (xs.map Sc.val).toArray off).run P w=.ok (zhc P t ((xs.drop off).take sh.length)) w:=by
 obtain⟨i,hi⟩:=Option.isSome_iff_exists.1 hi
 cases d with
 | zero=>simp[zg8] at hg
 | succ d=>
  unfold zg8 at hg
  split at hg
  ·rename_i hu
   simp only[beq_iff_eq] at hg
   subst hg
   simp only[List.length_singleton] at hx
   have h0:off<xs.length:=by omega
   have:(xs.drop off).take 1=[xs[off]]:=by rw[List.drop_eq_getElem_cons h0]; rfl
   simp[part,isAgg,run_underlying hu,zhc,hu,this,h0]
  ·rename_i hu
   simp only[beq_iff_eq] at hg
   subst hg
   simp only[List.length_singleton] at hx
   have h0:off<xs.length:=by omega
   have:(xs.drop off).take 1=[xs[off]]:=by rw[List.drop_eq_getElem_cons h0]; rfl
   simp[part,isAgg,run_underlying hu,zhc,hu,this,h0]
  ·rename_i fs hu
   have hs:(sizeOf t).run P w=.ok sh.length w:=by rw[run_sizeOf w hi,hn]
   simp only[part,isAgg,Sem.run_bind,run_underlying hu,Result.andThen_ok,Sem.run_pure,if_true,hs,zhc,hu]
   congr 2
   apply Array.ext'
   simp[List.map_take,List.map_drop,List.take_drop]
  ·cases hg
theorem zjc {P:Program} {d dd:Nat} (ih:∀ {t sh},zg8 P d t sh=true→∀ (xs ys:List Sc) (w:World),xs.map Sc.isS=sh→ys.map Sc.isS=sh→(Op.equalIn dd t (zhc P t xs) (zhc P t ys)).run P w=.ok (scEq xs ys) w) {xs ys:List Sc} (w:World):
  ∀ (fs:List Field) (sh:List Bool) (off:Nat),zfb P (zg8 P d) fs sh off=true→(xs.drop off).map Sc.isS=sh→(ys.drop off).map Sc.isS=sh→(Op.eqFields dd (xs.map Sc.val).toArray (ys.map Sc.val).toArray fs).run P w=.ok (scEq (xs.drop off) (ys.drop off)) w
 | [],sh,off,h,hx,hy=>by
  simp only[zfb,List.isEmpty_iff] at h
  subst h
  rw[List.map_eq_nil_iff.1 hx,List.map_eq_nil_iff.1 hy]
  simp[Op.eqFields,scEq]
 | f::fs,sh,off,h,hx,hy=>by
  simp only[zfb,Bool.and_eq_true,beq_iff_eq,bne_iff_ne] at h
  obtain⟨⟨⟨⟨⟨h1,h2⟩,h3⟩,h6,hz⟩,h4⟩,h5⟩:=h
  subst h2
  have lx:=congrArg List.length hx
  have ly:=congrArg List.length hy
  rw[List.length_map,List.length_drop] at lx ly
  rw[List.length_take] at h6
  have hc:(sh.take (P.cellsOf f.type)).length=P.cellsOf f.type:=by rw[List.length_take]; exact h6
  have hsplit:∀ (xs ys:List Sc),xs.drop f.offset=(xs.drop f.offset).take (P.cellsOf f.type)++xs.drop (f.offset+P.cellsOf f.type):=by
   intro xs ys
   rw[←List.drop_drop,List.take_append_drop]
  have pa:(part f.type (xs.map Sc.val).toArray f.offset).run P w=.ok (zhc P f.type ((xs.drop f.offset).take (P.cellsOf f.type))) w:=by
   have:=ztv h4 h3 (by rw[hc]) (xs:=xs) (off:=f.offset) (by rw[hc]; omega) w
   rw[hc] at this
   exact this
  have pb:(part f.type (ys.map Sc.val).toArray f.offset).run P w=.ok (zhc P f.type ((ys.drop f.offset).take (P.cellsOf f.type))) w:=by
   have:=ztv h4 h3 (by rw[hc]) (xs:=ys) (off:=f.offset) (by rw[hc]; omega) w
   rw[hc] at this
   exact this
  have pe:=ih h4 ((xs.drop f.offset).take (P.cellsOf f.type)) ((ys.drop f.offset).take (P.cellsOf f.type)) w (by rw[←hx,List.map_take]) (by rw[←hy,List.map_take])
  have hr:=zjc ih w fs _ (f.offset+P.cellsOf f.type) h5 (by rw[←hx,←List.drop_drop,List.map_drop (i:=P.cellsOf f.type)]) (by rw[←hy,←List.drop_drop,List.map_drop (i:=P.cellsOf f.type)])
  have split:scEq (xs.drop f.offset) (ys.drop f.offset)=(scEq ((xs.drop f.offset).take (P.cellsOf f.type)) ((ys.drop f.offset).take (P.cellsOf f.type))&&scEq (xs.drop (f.offset+P.cellsOf f.type)) (ys.drop (f.offset+P.cellsOf f.type))):=by
   rw[←zkl (by rw[List.length_take,List.length_take,List.length_drop,List.length_drop]; omega),←hsplit xs ys,←hsplit ys xs]
  rw[split,Op.eqFields]
  simp only[h1,ne_eq,not_false_eq_true,if_true,Sem.run_bind,pa,pb,pe,Result.andThen_ok]
  cases scEq ((xs.drop f.offset).take (P.cellsOf f.type)) ((ys.drop f.offset).take (P.cellsOf f.type)) with
  | false=>simp
  | true=>simpa using hr
theorem zm3 {P:Program}:∀ (d:Nat) {dd:Nat} {t:TypeId} {sh:List Bool},d≤dd→zg8 P d t sh=true→∀ (xs ys:List Sc) (w:World),xs.map Sc.isS=sh→ys.map Sc.isS=sh→(Op.equalIn dd t (zhc P t xs) (zhc P t ys)).run P w=.ok (scEq xs ys) w
 | 0,_,_,_,_,h,_,_,_,_,_=>by simp[zg8] at h
 | d+1,dd,t,sh,hd,h,xs,ys,w,hx,hy=>by
  obtain⟨e,rfl⟩:∃ e,dd=e+1:=⟨dd - 1,by omega⟩
  unfold zg8 at h
  split at h
  ·rename_i hu
   simp only[beq_iff_eq] at h
   subst h
   match xs,ys,hx,hy with
   | [.i a],[.i b],_,_=>
    simp only[zhc,hu,List.headD_cons,Sc.val]
    rw[run_equalIn_int w e t .i64 .i64 a b hu]
    simp[scEq,Sc.eq]
   | [.s a],_,hx,_=>simp[Sc.isS] at hx
   | [.i _],[.s b],_,hy=>simp[Sc.isS] at hy
   | [],_,hx,_=>simp at hx
   | _::_::_,_,hx,_=>simp at hx
   | [.i _],[],_,hy=>simp at hy
   | [.i _],_::_::_,_,hy=>simp at hy
  ·rename_i hu
   simp only[beq_iff_eq] at h
   subst h
   match xs,ys,hx,hy with
   | [.s a],[.s b],_,_=>
    simp only[zhc,hu,List.headD_cons,Sc.val]
    rw[run_equalIn_string w e t a b hu]
    simp[scEq,Sc.eq]
   | [.i a],_,hx,_=>simp[Sc.isS] at hx
   | [.s _],[.i b],_,hy=>simp[Sc.isS] at hy
   | [],_,hx,_=>simp at hx
   | _::_::_,_,hx,_=>simp at hx
   | [.s _],[],_,hy=>simp at hy
   | [.s _],_::_::_,_,hy=>simp at hy
  ·rename_i fs hu
   simp only[Bool.and_eq_true,Bool.not_eq_true'] at h
   have hf:P.fieldsOf t=fs:=by simp[Program.fieldsOf,hu]
   simp only[zhc,hu]
   rw[run_equalIn_struct (P:=P) w e t _ _ (by rw[hf]; exact hu) h.1,hf]
   have:=zjc (dd:=e) (xs:=xs) (ys:=ys) (fun {t sh} ht xs ys w hx hy=>zm3 d (by omega) ht xs ys w hx hy) w fs.toList sh 0 h.2 (by simpa using hx) (by simpa using hy)
   simpa using this
  ·cases h
theorem y6s {P:Program} {t:TypeId} {sh:List Bool} {fs:Array Field} (hu:P.underlying t=some (.struct fs)) (hg:P.eqGuardType P.depth t=false) (hk:zg8 P 10 t sh=true):EqS P t sh:=by
 refine⟨hg,fun xs ys w hx hy=>?_⟩
 have:=zm3 10 (dd:=10000) (by omega) hk xs ys w hx hy
 simpa only[zhc,hu] using this
def AllIn {α:Type} (R:Nat→α→Prop):List (Nat×α)→Prop
 | []=>True
 | p::r=>R p.1 p.2∧AllIn R r
theorem AllIn.of {α:Type} {R:Nat→α→Prop}:∀ {l:List (Nat×α)},AllIn R l→∀ t x,z4i l t=some x→R t x
 | [],_,t,x,h=>by cases h
 | (k,y)::r,hl,t,x,h=>by
  simp only[z4i] at h
  split at h
  ·rename_i hk
   simp only[beq_iff_eq] at hk
   simp only[Option.some.injEq] at h
   subst hk; subst h
   exact hl.1
  ·exact AllIn.of hl.2 t x h
theorem y2j {P:Program} {Γ:Facts} {E:Env} (hm:P.follows .mixedOrders=true) (h1:AllIn (fun t ti=>TabOk P t ti) E.tab) (h2:AllIn (fun f s=>z1m P f∧FOk P Γ f s∧(Γ.q=true→s.q=true)) E.sig) (h3:AllIn (fun g (ci:CloInfo)=>P.funcs[g]? = some ci.fn∧z1m P g) E.clos) (h4:AllIn (fun t n=>EqS P t n) E.eqs) (h5:AllIn (fun g ri=>z1m P g∧zmw P g ri) E.rfn:=by exact trivial) (hq:E.q=Γ.q:=by rfl):EnvOk P Γ E:=
 ⟨hm,hq,fun t ti h=>h1.of t ti h,fun f s h=>h2.of f s h,fun g ci h=>h3.of g ci h,fun t n h=>h4.of t n h,fun g ri h=>h5.of g ri h⟩
theorem enters {P:Program} {f:FuncId} {fn:Func} {c:Code} (hf:P.funcs[f]? = some fn) (hname:(fn.name == "runtime.NumGoroutine")=false) (hb:fn.body=some c):z1m P f:=by
 intro args w
 have h1:fn.name ≠ "runtime.NumGoroutine" := by simpa using hname
 simp[callFunc,hf,h1,hb,mark]
abbrev FnS (P:Program) (Γ:Facts) (f:FuncId) (s:FSpec):Prop:=z1m P f∧FOk P Γ f s∧(Γ.q=true→s.q=true)
theorem z0h {P:Program} {Γ:Facts} {E:Env} {s:FSpec} (hm:P.follows .mixedOrders=true) (h1:AllIn (fun t ti=>TabOk P t ti) E.tab) (h2:AllIn (fun f s=>FnS P Γ f s) E.sig) {f:FuncId} {fn:Func} {c:Code} (hf:P.funcs[f]? = some fn) (hname:(fn.name == "runtime.NumGoroutine")=false) (hb:fn.body=some c)
  (hr:∀ x y,s.fn x=some y→∃ N,runF N E fn s.ins s.outs x=some y) (h3:AllIn (fun g (ci:CloInfo)=>P.funcs[g]? = some ci.fn∧z1m P g) E.clos:=by exact trivial) (h4:AllIn (fun t n=>EqS P t n) E.eqs:=by exact trivial) (h5:AllIn (fun g ri=>z1m P g∧zmw P g ri) E.rfn:=by exact trivial)
  (hq:E.q=Γ.q:=by rfl) (hs:Γ.at s.q=Γ:=by rfl) (hqs:Γ.q=true→s.q=true:=by exact fun _=>rfl):FnS P Γ f s:=
 ⟨enters hf hname hb,zt8 (by rw[hs]; exact y2j hm h1 h2 h3 h4 h5 hq) hf hb hr,hqs⟩
end Go.AM
