/- Stores. No condition. -/
import Derived.Test.YtdcbankajhnepaaGreatAmWrite
set_option linter.unusedVariables false
set_option linter.unusedSimpArgs false
namespace Go.AM
def z07 {β:Type} (p:Nat) (us l:List β):List β:=l.take p++us++l.drop (p+us.length)
theorem z2p {β:Type} {p:Nat} {us l:List β} (h:p+us.length≤l.length):(z07 p us l).length=l.length:=by
 simp[z07]; omega
theorem z4l {β:Type} {p:Nat} {us l:List β} (h:p+us.length≤l.length) (k:Nat):(z07 p us l)[k]? = if k<p then l[k]? else if k<p+us.length then us[k - p]? else l[k]?:=by
 unfold z07
 have hp:(l.take p).length=p:=by rw[List.length_take]; omega
 by_cases h1:k<p
 ·rw[if_pos h1,List.append_assoc,List.getElem?_append_left (by omega),List.getElem?_take,if_pos h1]
 ·rw[if_neg h1,List.append_assoc,List.getElem?_append_right (by omega),hp]
  by_cases h2:k<p+us.length
  ·rw[if_pos h2,List.getElem?_append_left (by omega)]
  ·rw[if_neg h2,List.getElem?_append_right (by omega),List.getElem?_drop]
   congr 1
   omega
theorem zs7 {β:Type} {p:Nat} {us l:List β} {m:Nat} (h:p+us.length≤m) (hm:m≤l.length):(z07 p us l).take m=z07 p us (l.take m):=by
 apply List.ext_getElem?
 intro k
 rw[List.getElem?_take,z4l (by omega),z4l (by rw[List.length_take]; omega),List.getElem?_take]
 by_cases hk:k<m
 ·simp[hk]
 ·simp only[hk,if_false]
  rw[if_neg (by omega),if_neg (by omega)]
theorem z7c {β:Type} {n:Nat} {cs:List (List β)} (hn:∀ c∈cs,c.length=n) {i off:Nat} {es us:List β} (hi:cs[i]? = some es) (hf:off+us.length≤n):
  (cs.set i (z07 off us es)).flatten=z07 (i*n+off) us cs.flatten:=by
 have hes:=hn es (List.mem_of_getElem? hi)
 have hil:=(List.getElem?_eq_some_iff.1 hi).1
 have hfl:=z2j hn
 have hmul:i*n+n≤cs.length*n:=by have:=Nat.mul_le_mul_right n hil; rw[Nat.succ_mul] at this; exact this
 rw[zlz hn (by rw[z2p (by omega)]; exact hes) hil]
 have key:∀ j,j<n→cs.flatten[i*n+j]? = es[j]?:=fun j hj=>z4f hn hi hj
 apply List.ext_getElem?
 intro k
 have hA:(cs.flatten.take (i*n)).length=i*n:=by rw[List.length_take]; omega
 have hB:(z07 off us es).length=n:=by rw[z2p (by omega)]; exact hes
 rw[z4l (by omega)]
 by_cases h1:k<i*n
 ·rw[List.append_assoc,List.getElem?_append_left (by omega),List.getElem?_take,if_pos h1,if_pos (by omega)]
 ·by_cases h2:k<i*n+n
  ·have hk:=key (k - i*n) (by omega)
   rw[show i*n+(k - i*n)=k by omega] at hk
   have hsg:=z4l (p:=off) (us:=us) (l:=es) (by omega) (k - i*n)
   rw[List.append_assoc,List.getElem?_append_right (by omega),hA,List.getElem?_append_left (by omega),hsg]
   by_cases h3:k - i*n<off
   ·rw[if_pos h3,if_pos (by omega),hk]
   ·by_cases h4:k - i*n<off+us.length
    ·rw[if_neg h3,if_pos h4,if_neg (by omega),if_pos (by omega)]
     congr 1
     omega
    ·rw[if_neg h3,if_neg h4,if_neg (by omega),if_neg (by omega),hk]
  ·rw[List.append_assoc,List.getElem?_append_right (by omega),hA,List.getElem?_append_right (by omega),hB,List.getElem?_drop,if_neg (by omega),if_neg (by omega)]
   congr 1
   omega
theorem ztp:∀ (t:Ty) {x z:t.den} {off:Nat} {s:Ty} {y:s.den},z2m t x off s y=some z→off<t.size
 | .int k,x,z,off,s,y,h=>by simp only[z2m] at h; split at h<;>simp_all[Ty.size]
 | .bool,x,z,off,s,y,h=>by simp only[z2m] at h; split at h<;>simp_all[Ty.size]
 | .str,x,z,off,s,y,h=>by simp only[z2m] at h; split at h<;>simp_all[Ty.size]
 | .slice e t,x,z,off,s,y,h=>by simp only[z2m] at h; split at h<;>simp_all[Ty.size]
 | .unit,x,z,off,s,y,h=>by simp[z2m] at h
 | .pair a b,x,z,off,s,y,h=>by
  simp only[z2m] at h
  split at h
  ·simp only[Ty.size]; omega
  ·split at h
   ·rename_i q hq; have:=ztp b hq; simp only[Ty.size]; omega
   ·cases h
theorem ze8 {β:Type} {a b:List β} {i:Nat} {v:β} (h:i<a.length):(a++b).set i v=a.set i v++b:=by
 rw[List.set_append_left _ _ h]
theorem zcl {β:Type} {a b:List β} {i:Nat} {v:β} (h:a.length≤i):(a++b).set i v=a++b.set (i - a.length) v:=by
 rw[List.set_append_right _ _ h]
theorem zfi {w:World}:∀ (t:Ty) {x z:t.den} {F:List Nat} {cs:List Value} {off:Nat} {s:Ty} {y:s.den} {v:Value},Deep t w x F cs→z2m t x off s y=some z→s.flat=true→Rep s w y [v]→Deep t w z F (cs.set off v)
 | .int k,x,z,F,cs,off,s,y,v,h,hs,hf,hr=>by
  simp only[z2m] at hs
  split at hs
  ·rename_i ho
   simp only[beq_iff_eq] at ho
   subst ho
   obtain⟨rfl,rfl⟩:=z11 hs
   obtain⟨rfl,rfl⟩:=h
   simp only[Rep,List.cons.injEq,and_true] at hr
   subst hr
   exact⟨rfl,rfl⟩
  ·cases hs
 | .bool,x,z,F,cs,off,s,y,v,h,hs,hf,hr=>by
  simp only[z2m] at hs
  split at hs
  ·rename_i ho
   simp only[beq_iff_eq] at ho
   subst ho
   obtain⟨rfl,rfl⟩:=z11 hs
   obtain⟨rfl,rfl⟩:=h
   simp only[Rep,List.cons.injEq,and_true] at hr
   subst hr
   exact⟨rfl,rfl⟩
  ·cases hs
 | .str,x,z,F,cs,off,s,y,v,h,hs,hf,hr=>by
  simp only[z2m] at hs
  split at hs
  ·rename_i ho
   simp only[beq_iff_eq] at ho
   subst ho
   obtain⟨rfl,rfl⟩:=z11 hs
   obtain⟨rfl,rfl⟩:=h
   simp only[Rep,List.cons.injEq,and_true] at hr
   subst hr
   exact⟨rfl,rfl⟩
  ·cases hs
 | .slice e t,x,z,F,cs,off,s,y,v,h,hs,hf,hr=>by
  simp only[z2m] at hs
  split at hs
  ·obtain⟨rfl,rfl⟩:=z11 hs
   simp[Ty.flat] at hf
  ·cases hs
 | .unit,x,z,F,cs,off,s,y,v,h,hs,hf,hr=>by simp[z2m] at hs
 | .pair a b,x,z,F,cs,off,s,y,v,h,hs,hf,hr=>by
  obtain⟨F1,F2,c1,c2,rfl,rfl,h1,h2⟩:=h
  have hlen:=Deep.len a h1
  simp only[z2m] at hs
  split at hs
  ·split at hs
   ·rename_i q hq
    simp only[Option.some.injEq] at hs
    subst hs
    exact⟨F1,F2,_,c2,rfl,ze8 (by omega),zfi a h1 hq hf hr,h2⟩
   ·cases hs
  ·split at hs
   ·rename_i q hq
    simp only[Option.some.injEq] at hs
    subst hs
    exact⟨F1,F2,c1,_,rfl,by rw[zcl (by omega),hlen],h1,zfi b h2 hq hf hr⟩
   ·cases hs
theorem zkk {w:World}:∀ (t:Ty) {x z:t.den} {cs:List Value} {off:Nat} {s:Ty} {y:s.den} {v:Value},Rep t w x cs→z2m t x off s y=some z→s.flat=true→Rep s w y [v]→Rep t w z (cs.set off v)
 | .int k,x,z,cs,off,s,y,v,h,hs,hf,hr=>by
  simp only[z2m] at hs
  split at hs
  ·rename_i ho
   simp only[beq_iff_eq] at ho
   subst ho
   obtain⟨rfl,rfl⟩:=z11 hs
   obtain rfl:cs=_:=h
   exact hr
  ·cases hs
 | .bool,x,z,cs,off,s,y,v,h,hs,hf,hr=>by
  simp only[z2m] at hs
  split at hs
  ·rename_i ho
   simp only[beq_iff_eq] at ho
   subst ho
   obtain⟨rfl,rfl⟩:=z11 hs
   obtain rfl:cs=_:=h
   exact hr
  ·cases hs
 | .str,x,z,cs,off,s,y,v,h,hs,hf,hr=>by
  simp only[z2m] at hs
  split at hs
  ·rename_i ho
   simp only[beq_iff_eq] at ho
   subst ho
   obtain⟨rfl,rfl⟩:=z11 hs
   obtain rfl:cs=_:=h
   exact hr
  ·cases hs
 | .slice e t,x,z,cs,off,s,y,v,h,hs,hf,hr=>by
  simp only[z2m] at hs
  split at hs
  ·obtain⟨rfl,rfl⟩:=z11 hs
   simp[Ty.flat] at hf
  ·cases hs
 | .unit,x,z,cs,off,s,y,v,h,hs,hf,hr=>by simp[z2m] at hs
 | .pair a b,x,z,cs,off,s,y,v,h,hs,hf,hr=>by
  obtain⟨c1,c2,rfl,h1,h2⟩:=h
  have hlen:=Rep.len a h1
  simp only[z2m] at hs
  split at hs
  ·split at hs
   ·rename_i q hq
    simp only[Option.some.injEq] at hs
    subst hs
    exact⟨_,c2,ze8 (by omega),zkk a h1 hq hf hr,h2⟩
   ·cases hs
  ·split at hs
   ·rename_i q hq
    simp only[Option.some.injEq] at hs
    subst hs
    exact⟨c1,_,by rw[zcl (by omega),hlen],h1,zkk b h2 hq hf hr⟩
   ·cases hs
theorem zgc {β:Type} {off:Nat} {v:β} {us cs:List β} (h:off+(us.length+1)≤cs.length):z07 (off+1) us (cs.set off v)=z07 off (v::us) cs:=by
 apply List.ext_getElem?
 intro k
 rw[z4l (by simp; omega),z4l (by simp; omega)]
 simp only[List.length_cons]
 by_cases h1:k<off
 ·rw[if_pos (by omega),if_pos h1,List.getElem?_set_ne (by omega)]
 ·rw[if_neg h1]
  by_cases h2:k=off
  ·subst h2
   rw[if_pos (by omega),if_pos (by omega),List.getElem?_set_self (by omega)]
   simp
  ·rw[if_neg (by omega)]
   by_cases h3:k<off+1+us.length
   ·rw[if_pos h3,if_pos (by omega),show k - off=(k - (off+1))+1 by omega,List.getElem?_cons_succ]
   ·rw[if_neg h3,if_neg (by omega),List.getElem?_set_ne (by omega)]
theorem z4q {C:Ctx} {w:World} {gh:Gh} {os:Objs} {t:Ty} (T:t.den→List Value→Prop) (hlen:∀ x cs,T x cs→cs.length=t.size)
  (hT:∀ (x z:t.den) cs off (s:Ty) (y:s.den) v,T x cs→z2m t x off s y=some z→s.flat=true→(∀ W,Rep s W y [v])→T z (cs.set off v)):∀ {ls:List Leaf} {us cs:List Value} {x z:t.den} {off:Nat},All2 (LeafOk C w gh os) ls us→T x cs→z34 t x off ls=some z →
   off+us.length≤t.size∧T z (z07 off us cs)∨(ls=[]∧z=x∧us=[])
 | [],us,cs,x,z,off,ha,hx,hp=>by
  cases us with
  | cons _ _=>exact ha.elim
  | nil=>right; simp only[z34,Option.some.injEq] at hp; exact⟨rfl,hp.symm,rfl⟩
 | c::ls,us,cs,x,z,off,ha,hx,hp=>by
  left
  cases us with
  | nil=>exact ha.elim
  | cons v us=>
   cases c with
   | val s y L=>
    simp only[z34] at hp
    split at hp
    ·rename_i hf
     simp only[Bool.and_eq_true,beq_iff_eq] at hf
     split at hp
     ·rename_i q hq
      have hrep:∀ W,Rep s W y [v]:=fun W=>Deep.rep s (Deep.flat s hf.1 (ImmS.rep ha.1.1) W)
      have hTq:=hT _ _ _ _ _ _ v hx hq hf.1 hrep
      have hlt:=ztp t hq
      have hc:=hlen _ _ hx
      rcases z4q T hlen hT ha.2 hTq hp with ⟨h1,h2⟩ | ⟨h1,h2,h3⟩
      ·refine⟨by simp only[List.length_cons]; omega,?_⟩
       rw[←zgc (by omega)]
       exact h2
      ·subst h3; subst h2
       refine⟨by simp; omega,?_⟩
       have:z07 off [v] cs=cs.set off v:=by
        rw[←zgc (us:=[]) (by simp; omega)]
        simp[z07]
       rw[this]
       exact hTq
     ·cases hp
    ·cases hp
   | _=>simp[z34] at hp
theorem Fr.setRow (w:World) (g:Nat) (cs:Array Value):Fr (·=g) w (w.setRow g cs):=
 ⟨rfl,rfl,rfl,by simp[World.setRow],fun k _ hk=>setRow_other w g k _ hk,fun _=>Nat.le_refl _⟩
section
variable {C:Ctx} {st:St} {gh:Gh} {a:Act} {w:World}
theorem z2i {P:Program} {t:TypeId} {ti:TI} (hT:TabOk P t ti) {o:Oper} {x y:Operand} (ho:o.op=.store t x y) {g off:Nat} (hp:a.eval x=.pointer (some ⟨g,off,none⟩)) {us:List Value} (hus:(a.eval y).cells=us.toArray) (h1:∀ u∈us,u.oneCell'=true)
  (hl:us.length=ti.ty.size) {cur:Array Value} {T:TypeId} (hg:w.heap[g]? = some (.cells cur T (0,0))) (hf:off+us.length≤cur.size):(execOp a.eval o).run P w=.ok .skip (w.setRow g (z07 off us cur.toList).toArray):=by
 have hst:=run_storeCells_at P g off T us 0 cur w hg (by simpa using hf) h1
 simp only[Nat.add_zero] at hst
 simp only[execOp,ho,hp,Instr.storeAt,Instr.sureAddr,storeVar,Sem.run_bind,Sem.run_pure,Result.andThen_ok,hT.size w,hus,List.size_toArray,hl,ne_eq,not_true_eq_false,if_false,hst]
 simp[hst,z07,hl]
theorem zmy {P:Program} {o:Oper} {w w':World} {next:Act→World→Prop} {Q:Exit→Act→World→Prop}
  (hr:(execOp a.eval o).run P w=.ok .skip w') (h:next (a.put o.dst undef) w'):o.wp P a w next Q:=by
 unfold Oper.wp; rw[hr]; exact h
theorem RowR.block {α:Type} {R:α→List Nat→List Value→Prop} {e size:Nat} {v:Value} {F:List Nat} {xs:List α} (h:RowR R w e size v F xs) {g og n c:Nat} (hv:v=.slice (some ⟨g,og,none⟩) n c):
  ∃ cur,w.heap[g]? = some (.cells cur e (0,0))∧og+xs.length*size≤cur.size∧g∈F:=by
 obtain⟨Fs,ess,ha,rfl,hl,ho⟩:=h
 rcases ho with ⟨hn,_⟩ | ⟨g',og',cap,cur,hv',hg,hc,_,hcs,_⟩
 ·rw[hv] at hn; cases hn
 ·rw[hv] at hv'
  cases hv'
  exact⟨cur,hg,by have:=Nat.mul_le_mul_right size hc; omega,by simp[hv,Value.ownBlock]⟩
theorem zac {cs us:List Value} {o k m:Nat} {xs:List Value} (hk:k+us.length≤m) (hm:o+m≤cs.length) (ht:(cs.drop o).take m=xs):
  ((z07 (o+k) us cs).drop o).take m=z07 k us xs:=by
 have hd:(z07 (o+k) us cs).drop o=z07 k us (cs.drop o):=by
  unfold z07
  rw[List.append_assoc,List.drop_append_of_le_length (by simp; omega),List.drop_take,Nat.add_sub_cancel_left,List.drop_drop,List.append_assoc,Nat.add_assoc]
 rw[hd,zs7 (by omega) (by simp; omega),ht]
theorem RowR.store {α:Type} {R:α→List Nat→List Value→Prop} {S:World→α→List Nat→List Value→Prop} {e size:Nat} {v:Value} {F:List Nat} {xs:List α} (h:RowR R w e size v F xs) (hn:∀ x G c,R x G c→c.length=size) (hF:F.Nodup)
  {i:Nat} {x:α} (hi:xs[i]? = some x) {off:Nat} {us:List Value} (hfit:off+us.length≤size) {g og n c:Nat} (hv:v=.slice (some ⟨g,og,none⟩) n c) {cur:Array Value} (hg:w.heap[g]? = some (.cells cur e (0,0))) {z:α}
  (hz:∀ W G es,(∀ b∈G,b∈F∧b≠g)→(∀ b,b≠g→W.heap[b]? = w.heap[b]?)→R x G es→S W z G (z07 off us es)) (hRS:∀ W y G c,(∀ b∈G,b∈F∧b≠g)→(∀ b,b≠g→W.heap[b]? = w.heap[b]?)→R y G c→S W y G c):
  RowR (S (w.setRow g (z07 (og+i*size+off) us cur.toList).toArray)) (w.setRow g (z07 (og+i*size+off) us cur.toList).toArray) e size v F (xs.set i z):=by
 obtain⟨Fs,ess,ha,rfl,hl,ho⟩:=h
 have hsz:=ha.size hn
 have hfl:=z2j hsz
 obtain⟨G,es,hG,hes,hR⟩:=ha.get hi
 have hil:=(List.getElem?_eq_some_iff.1 hi).1
 have hmul:i*size+size≤xs.length*size:=by have:=Nat.mul_le_mul_right size hil; rw[Nat.succ_mul] at this; exact this
 rw[hv] at hF
 simp only[Value.ownBlock,Option.toList_some,List.singleton_append,List.nodup_cons] at hF
 have hsub:∀ G',G'∈Fs→∀ b∈G',b∈(v.ownBlock.toList++Fs.flatten)∧b≠g:=fun G' hG' b hb=>⟨List.mem_append.2 (.inr (List.mem_flatten.2 ⟨G',hG',hb⟩)),fun e=>hF.1 (e▸List.mem_flatten.2 ⟨G',hG',hb⟩)⟩
 have hother:∀ b,b≠g→(w.setRow g (z07 (og+i*size+off) us cur.toList).toArray).heap[b]? = w.heap[b]?:=fun b hb=>setRow_other w g b _ hb
 rcases ho with ⟨hn',_⟩ | ⟨g',og',cap,cur',hv',hg',hc,hm,hcs,ht⟩
 ·rw[hv] at hn'; cases hn'
 ·have he:=hv.symm.trans hv'
  simp only[Value.slice.injEq,Option.some.injEq,Addr.mk.injEq,and_true] at he
  obtain⟨⟨rfl,rfl⟩,rfl,rfl⟩:=he
  rw[hg] at hg'
  simp only[Option.some.injEq,Obj.cells.injEq,and_true] at hg'
  subst hg'
  have hcl:og+c*size≤cur.toList.length:=by rw[Array.length_toList]; exact hcs
  have hcap:xs.length*size≤c*size:=Nat.mul_le_mul_right _ hc
  refine⟨Fs,ess.set i (z07 off us es),?_,rfl,by rw[z7c hsz hes hfit,z2p (by rw[hl]; omega),hl,List.length_set],.inr ⟨g,og,c,_,by rw[hv,List.length_set],setRow_heap w g cur _ e _ hg,by rw[List.length_set]; exact hc,hm,?_,?_⟩⟩
  ·have key:∀ (ys:List α) Gs ds,(∀ G∈Gs,G∈Fs)→AllR R ys Gs ds→AllR (S (w.setRow g (z07 (og+i*size+off) us cur.toList).toArray)) ys Gs ds:=by
    intro ys
    induction ys with
    | nil=>intro Gs ds _ h; cases Gs<;>cases ds<;>simp_all[AllR]
    | cons y ys ih=>
     intro Gs ds hG h
     cases Gs<;>cases ds<;>simp only[AllR] at h ⊢
     exact⟨hRS _ _ _ _ (hsub _ (hG _ (by simp))) hother h.1,ih _ _ (fun G hG'=>hG G (by simp[hG'])) h.2⟩
   have hset:=(key xs Fs ess (fun _ h=>h) ha).set (i:=i) (hz _ G es (hsub G (List.mem_of_getElem? hG)) hother hR)
   have hGset:Fs.set i G=Fs:=by
    apply List.ext_getElem?
    intro k
    by_cases hk:i=k
    ·subst hk; rw[List.getElem?_set_self (List.getElem?_eq_some_iff.1 hG).1,hG]
    ·rw[List.getElem?_set_ne hk]
   rwa [hGset] at hset
  ·rw[List.size_toArray,z2p (by omega)]; exact hcl
  ·rw[List.length_set]
   show (((z07 (og+i*size+off) us cur.toList).toArray.toList).drop og).take (xs.length*size)=_
   rw[List.toList_toArray,Nat.add_assoc,zac (by omega) (by omega) ht,z7c hsz hes hfit]
theorem RowR.replace {α:Type} {R:α→List Nat→List Value→Prop} {S:World→α→List Nat→List Value→Prop} {e size:Nat} {v:Value} {F:List Nat} {xs:List α} (h:RowR R w e size v F xs) (hn:∀ x G c,R x G c→c.length=size) (hF:F.Nodup)
  {i:Nat} (hi:i<xs.length) {us:List Value} (hfit:us.length=size) {g og n c:Nat} (hv:v=.slice (some ⟨g,og,none⟩) n c) {cur:Array Value} (hg:w.heap[g]? = some (.cells cur e (0,0))) {z:α} {G':List Nat} (hG':G'.Nodup) (hd:∀ b∈G',b∉F)
  (hz:∀ W,(∀ b,b≠g→W.heap[b]? = w.heap[b]?)→S W z G' us) (hRS:∀ W y G c,(∀ b∈G,b∈F∧b≠g)→(∀ b,b≠g→W.heap[b]? = w.heap[b]?)→R y G c→S W y G c):
  ∃ F',F'.Nodup∧(∀ b∈F',b∈F∨b∈G')∧RowR (S (w.setRow g (z07 (og+i*size) us cur.toList).toArray)) (w.setRow g (z07 (og+i*size) us cur.toList).toArray) e size v F' (xs.set i z):=by
 obtain⟨Fs,ess,ha,rfl,hl,ho⟩:=h
 have hsz:=ha.size hn
 have hfl:=z2j hsz
 obtain⟨G,es,hG,hes,hR⟩:=ha.get (List.getElem?_eq_getElem hi)
 have hmul:i*size+size≤xs.length*size:=by have:=Nat.mul_le_mul_right size hi; rw[Nat.succ_mul] at this; exact this
 have hFo:=hF
 rw[hv] at hF
 simp only[Value.ownBlock,Option.toList_some,List.singleton_append,List.nodup_cons] at hF
 have hsub:∀ G',G'∈Fs→∀ b∈G',b∈(v.ownBlock.toList++Fs.flatten)∧b≠g:=fun G' hG' b hb=>⟨List.mem_append.2 (.inr (List.mem_flatten.2 ⟨G',hG',hb⟩)),fun e=>hF.1 (e▸List.mem_flatten.2 ⟨G',hG',hb⟩)⟩
 have hother:∀ b,b≠g→(w.setRow g (z07 (og+i*size) us cur.toList).toArray).heap[b]? = w.heap[b]?:=fun b hb=>setRow_other w g b _ hb
 have hmemset:∀ b,b∈(Fs.set i G').flatten→b∈Fs.flatten∨b∈G':=by
  intro b hb
  obtain⟨H,hH,hb⟩:=List.mem_flatten.1 hb
  rcases List.mem_or_eq_of_mem_set hH with h1 | h1
  ·exact .inl (List.mem_flatten.2 ⟨H,h1,hb⟩)
  ·rw[h1] at hb; exact .inr hb
 have hndset:∀ (Fs:List (List Nat)) (i:Nat),Fs.flatten.Nodup→(∀ b∈G',b∉Fs.flatten)→(Fs.set i G').flatten.Nodup:=by
  intro Fs
  induction Fs with
  | nil=>intro i _ _; simp
  | cons H Fs ih=>
   intro i hn hd
   rw[List.flatten_cons,List.nodup_append] at hn
   obtain⟨n1,n2,n3⟩:=hn
   cases i with
   | zero=>
    rw[List.set_cons_zero,List.flatten_cons,List.nodup_append]
    exact⟨hG',n2,fun b hb b' hb' e=>hd b hb (by rw[e]; simp[hb'])⟩
   | succ i=>
    rw[List.set_cons_succ,List.flatten_cons,List.nodup_append]
    refine⟨n1,ih i n2 (fun b hb hb'=>hd b hb (by simp[hb'])),fun b hb b' hb' e=>?_⟩
    subst e
    obtain⟨K,hK,hbK⟩:=List.mem_flatten.1 hb'
    rcases List.mem_or_eq_of_mem_set hK with h1 | h1
    ·exact n3 b hb b (List.mem_flatten.2 ⟨K,h1,hbK⟩) rfl
    ·rw[h1] at hbK; exact hd b hbK (by simp[hb])
 rcases ho with ⟨hn',_⟩ | ⟨g',og',cap,cur',hv',hg',hc,hm,hcs,ht⟩
 ·rw[hv] at hn'; cases hn'
 ·have he:=hv.symm.trans hv'
  simp only[Value.slice.injEq,Option.some.injEq,Addr.mk.injEq,and_true] at he
  obtain⟨⟨rfl,rfl⟩,rfl,rfl⟩:=he
  rw[hg] at hg'
  simp only[Option.some.injEq,Obj.cells.injEq,and_true] at hg'
  subst hg'
  have hcl:og+c*size≤cur.toList.length:=by rw[Array.length_toList]; exact hcs
  have hcap:xs.length*size≤c*size:=Nat.mul_le_mul_right _ hc
  have hwhole:z07 0 us es=us:=by
   have hes':=hsz es (List.mem_of_getElem? hes)
   simp[z07,List.drop_of_length_le (by omega:es.length≤us.length)]
  have hfl2:=z7c (off:=0) (us:=us) hsz hes (by omega)
  rw[hwhole,Nat.add_zero] at hfl2
  refine⟨v.ownBlock.toList++(Fs.set i G').flatten,?_,?_,Fs.set i G',ess.set i us,?_,rfl,by rw[hfl2,z2p (by rw[hl]; omega),hl,List.length_set],.inr ⟨g,og,c,_,by rw[hv,List.length_set],setRow_heap w g cur _ e _ hg,by rw[List.length_set]; exact hc,hm,?_,?_⟩⟩
  ·rw[hv]
   simp only[Value.ownBlock,Option.toList_some,List.singleton_append,List.nodup_cons]
   refine⟨fun hb=>?_,hndset Fs i hF.2 fun b hb hb'=>hd b hb (by simp[hb'])⟩
   rcases hmemset _ hb with h1 | h1
   ·exact hF.1 h1
   ·exact hd _ h1 (by rw[hv]; simp[Value.ownBlock])
  ·intro b hb
   rcases List.mem_append.1 hb with h1 | h1
   ·exact .inl (by simp only[List.mem_append]; exact .inl h1)
   ·rcases hmemset _ h1 with h2 | h2
    ·exact .inl (by simp only[List.mem_append]; exact .inr h2)
    ·exact .inr h2
  ·have key:∀ (ys:List α) Gs ds,(∀ G∈Gs,G∈Fs)→AllR R ys Gs ds→AllR (S (w.setRow g (z07 (og+i*size) us cur.toList).toArray)) ys Gs ds:=by
    intro ys
    induction ys with
    | nil=>intro Gs ds _ h; cases Gs<;>cases ds<;>simp_all[AllR]
    | cons y ys ih=>
     intro Gs ds hG h
     cases Gs<;>cases ds<;>simp only[AllR] at h ⊢
     exact⟨hRS _ _ _ _ (hsub _ (hG _ (by simp))) hother h.1,ih _ _ (fun G hG'=>hG G (by simp[hG'])) h.2⟩
   exact (key xs Fs ess (fun _ h=>h) ha).set (i:=i) (hz _ hother)
  ·rw[List.size_toArray,z2p (by omega)]; exact hcl
  ·rw[List.length_set]
   show (((z07 (og+i*size) us cur.toList).toArray.toList).drop og).take (xs.length*size)=_
   rw[List.toList_toArray,zac (by omega) (by omega) ht,hfl2]
end
end Go.AM
