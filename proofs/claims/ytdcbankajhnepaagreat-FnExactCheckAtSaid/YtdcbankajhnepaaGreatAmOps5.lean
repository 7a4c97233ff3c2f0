/- Operations that make rows; calls. No condition. -/
import Derived.Test.YtdcbankajhnepaaGreatAmOps4
set_option linter.unusedVariables false
set_option linter.unusedSimpArgs false
namespace Go.AM
theorem zfg:∀ t:Ty,(z3l t).length=t.size:=fun t=>Deep.len t (Deep.zero t default)
theorem y2b (z:List Value) (hz:0<z.length) (n:Nat):(List.range (n*z.length)).map (fun k=>z.toArray[k % z.toArray.size]!)=(List.replicate n z).flatten:=by
 apply List.ext_getElem?
 intro k
 have hlen:∀ c∈List.replicate n z,c.length=z.length:=fun c hc=>by rw[(List.mem_replicate.1 hc).2]
 by_cases hk:k<n*z.length
 ·have h1:k % z.length<z.length:=Nat.mod_lt _ hz
  have h2:k / z.length<n:=(Nat.div_lt_iff_lt_mul hz).2 hk
  have h3:=z4f hlen (i:=k / z.length) (j:=k % z.length) (c:=z) (by simp[h2]) h1
  rw[Nat.div_add_mod' k z.length] at h3
  rw[h3]
  simp[hk,h1]
 ·rw[List.getElem?_eq_none (by simp; omega),List.getElem?_eq_none (by rw[z2j hlen]; simp; omega)]
section
variable {C:Ctx} {st:St} {gh:Gh} {a:Act} {w:World}
theorem zbt {P:Program} {t:TypeId} {ti:TI} (hT:TabOk P t ti):(zval ti).cells=(z3l ti.ty).toArray:=by
 unfold zval
 cases hag:ti.agg with
 | true=>rfl
 | false=>
  have htd:=hT.td
  split at htd
  ·cases hty:ti.ty<;>simp[hty] at htd<;>simp[z3l,Value.cells]
  ·obtain⟨s,hs⟩:=htd.2.2; simp[hs,z3l,Value.cells]
  ·rw[htd.1] at hag; cases hag
theorem zwn (h:Rel C st gh a w) (hfx:st.fx≤st.objs.length) {e:TypeId} {t:Ty} {xs:List t.den} {d:Bool} {L:List Nat} {cur:Array Value} {ess:List (List Value)} (hcur:cur.toList=ess.flatten) (hmax:xs.length≤maxLen)
  (hel:∀ g' w',(∀ b,b<w.heap.size→w'.heap[b]? = w.heap[b]?)→w.heap.size≤w'.heap.size→(∀ l b,b<w.heap.size→b∈g'.ft l→b∈gh.ft l)→∃ Fs,AllR (z38 C w' g' t d L) xs Fs ess∧Fs.flatten=[]) (hlen:∀ c∈ess,c.length=t.size) (hn:ess.length=xs.length):
  ∃ gh',Grow C st gh w gh' (w.alloc (.cells cur e))∧Rel C { st with objs:=st.objs++[.row e t xs d L] } gh' a (w.alloc (.cells cur e))∧SVOk (LeafOk C (w.alloc (.cells cur e)) gh' (st.objs++[.row e t xs d L])) (.one (.own st.objs.length)) (.slice (some ⟨w.heap.size,0,none⟩) xs.length xs.length):=by
 refine⟨gh.add st.objs.length (.slice (some ⟨w.heap.size,0,none⟩) xs.length xs.length) 0 [w.heap.size],⟨(Fr.alloc _ _).any,Gh.add_same _ _ _ _ _,Gh.add_new h (by simp)⟩,?_,zwx rfl (by simp[Gh.add]) rfl⟩
 obtain⟨Fs,hF,hF0⟩:=hel (gh.add st.objs.length (.slice (some ⟨w.heap.size,0,none⟩) xs.length xs.length) 0 [w.heap.size]) (w.alloc (.cells cur e)) (fun b hb=>heap_alloc_old w _ b hb) (by simp) (fun l b hb hm=>by
  by_cases el:l=st.objs.length
  ·subst el; simp[Gh.add] at hm; omega
  ·simpa[Gh.add,el] using hm)
 refine h.new1 (Fr.alloc _ _) hfx (by simp) (by simp) ⟨Fs,ess,hF,by simp[Gh.add,Value.ownBlock,hF0],?_⟩
 simp only[Gh.add,if_true]
 have hfl:=z2j hlen
 refine⟨by rw[hfl,hn],.inr ⟨w.heap.size,0,xs.length,cur,rfl,heap_alloc_new w _,Nat.le_refl _,hmax,?_,?_⟩⟩
 ·rw[←Array.length_toList,hcur,hfl,hn]; omega
 ·rw[List.drop_zero,hcur,List.take_of_length_le (by rw[hfl,hn]; exact Nat.le_refl _)]
theorem y1z {E:Env} (hE:EnvOk C.P C.Γ E) {o:Oper} (h:Rel C st gh a w) (hfx:st.fx≤st.objs.length) {t e:TypeId} {n c:Operand} (ho:o.op=.makeSlice t n c) {tt ti:TI} (ht:tyOf E t=some tt) (hs:tt.td=.slice e) (he:tyOf E e=some ti) {x:Int} {k k':IntKind} {L L':List Nat}
  (hn:(st.ev n).leaf=.val (.int k) x L) (hc:(st.ev c).leaf=.val (.int k') x L') (hsz:0<ti.ty.size) (hby:0<ti.bytes) (h0:0≤x) (hb:x*ti.bytes≤140737488355328):
  YldN C st gh a w o (.one (.own st.objs.length)) [.row e ti.ty (List.replicate x.toNat ti.ty.zero) true []]:=by
 have h1:=h.leaf n
 rw[hn] at h1
 have h1:=z2b h1
 have h2:=h.leaf c
 rw[hc] at h2
 have h2:=z2b h2
 have hu:=(hE.tab _ _ ht).td
 rw[hs] at hu
 have hT:=hE.tab _ _ he
 obtain⟨i,hi,hz,hsi,hbi⟩:=hT.i
 have hx:x≤140737488355328:=by
  have:x*1≤x*ti.bytes:=Int.mul_le_mul_of_nonneg_left (by omega) h0
  omega
 have hr:=run_make (P:=C.P) w t e i (zval ti) hu.2.1 hi hz k k' x x h0 (Int.le_refl _) (by rw[hbi,Int.mul_comm]; omega) (by omega)
 have hcells:=zbt hT
 have hzl:=zfg ti.ty
 obtain⟨gh',hgr,hrel,hv⟩:=zwn h hfx (e:=e) (t:=ti.ty) (xs:=List.replicate x.toNat ti.ty.zero) (d:=true) (L:=[]) (cur:=madeCells (zval ti).cells (x.toNat*i.size)) (ess:=List.replicate x.toNat (z3l ti.ty))
  (by rw[hcells,hsi]; unfold madeCells; rw[←hzl,←y2b (z3l ti.ty) (by omega)]; simp) (by simp[maxLen]; omega)
  (fun g' w' _ _ _=>⟨List.replicate x.toNat [],AllR.rep (Deep.zero ti.ty w'),by simp⟩) (fun c hc=>by rw[(List.mem_replicate.1 hc).2]; exact hzl) (by simp)
 refine⟨_,gh',_,?_,hgr,hrel,by simpa using hv⟩
 simp only[execOp,ho,h1,h2,Sem.run_bind,hr,Result.andThen_ok,Sem.run_pure]
theorem zp5 {size:Nat}:∀ (vs:List (Nat×Value)) (ess:List (List Value)) (i:Nat) (arr:Array Value),vs.length=ess.length→(∀ k p c,vs[k]? = some p→ess[k]? = some c→p.1=i+k∧p.2.cells=c.toArray∧c.length=size)→(i+vs.length)*size≤arr.size →
  ∃ arr',Instr.fill (fun i=>some (i*size,size)) arr vs=some arr'∧arr'.toList=arr.toList.take (i*size)++ess.flatten++arr.toList.drop ((i+vs.length)*size)
 | [],[],i,arr,_,_,_=>⟨arr,rfl,by simp⟩
 | [],c::ess,i,arr,h,_,_=>by simp at h
 | p::vs,[],i,arr,h,_,_=>by simp at h
 | p::vs,c::ess,i,arr,hl,hp,hs=>by
  obtain⟨h1,h2,h3⟩:=hp 0 p c rfl rfl
  simp only[Nat.add_zero] at h1
  have hmul:(i+(p::vs).length)*size=i*size+size+vs.length*size:=by simp only[List.length_cons,Nat.add_mul,Nat.one_mul]; omega
  rw[hmul] at hs
  have hmin:(arr.toList.take (i*size)).length=i*size:=by rw[List.length_take,Array.length_toList]; omega
  have hpc:=zkw (i*size) c 0 arr (by omega)
  simp only[Nat.add_zero] at hpc
  have hsz2:((c.zipIdx 0).foldl (fun (cs:Array Value) p=>cs.setIfInBounds (i*size+p.2) p.1) arr).size=arr.size:=by
   rw[←Array.length_toList,hpc]
   simp only[List.length_append,List.length_take,List.length_drop,Array.length_toList]
   omega
  obtain⟨arr',ha,hb⟩:=zp5 (size:=size) vs ess (i+1) ((c.zipIdx 0).foldl (fun (cs:Array Value) p=>cs.setIfInBounds (i*size+p.2) p.1) arr) (by simpa using hl)
   (fun k q d hq hd=>by obtain⟨g1,g2,g3⟩:=hp (k+1) q d (by simpa using hq) (by simpa using hd); exact⟨by omega,g2,g3⟩) (by
    rw[hsz2,show i+1+vs.length=i+(p::vs).length by simp; omega,hmul]
    exact hs)
  refine⟨arr',?_,?_⟩
  ·simp only[Instr.fill,h1,h2,List.size_toArray]
   rw[if_neg (by simp[h3]; omega)]
   rw[show (c.toArray.zipIdx.foldl (fun (cs:Array Value) (x:Value×Nat)=>match x with | (u,j)=>cs.setIfInBounds (i*size+j) u) arr)=(c.zipIdx 0).foldl (fun (cs:Array Value) p=>cs.setIfInBounds (i*size+p.2) p.1) arr from by simp]
   exact ha
  ·rw[hb,hpc]
   have e1:(i+1)*size=i*size+size:=by rw[Nat.add_mul]; omega
   have e2:(i+1+vs.length)*size=i*size+size+vs.length*size:=by rw[Nat.add_mul,Nat.add_mul]; omega
   rw[e1,e2,hmul]
   have hl2:(arr.toList.take (i*size)++c).length=i*size+size:=by rw[List.length_append,hmin,h3]
   have e3:((arr.toList.take (i*size)++c++arr.toList.drop (i*size+c.length))).take (i*size+size)=arr.toList.take (i*size)++c:=by
    rw[←hl2,List.take_left]
   have e4:((arr.toList.take (i*size)++c++arr.toList.drop (i*size+c.length))).drop (i*size+size+vs.length*size)=arr.toList.drop (i*size+size+vs.length*size):=by
    rw[←hl2,List.drop_length_add_append,List.drop_drop,hl2,h3]
   rw[e3,e4]
   simp
theorem zjs (h:Rel C st gh a w) {t:Ty} (hts:0<t.size) {deep:Bool}:∀ (parts:List (Nat×Operand)) (i:Nat) {xs:List t.den} {L:List Nat},z2x t st.objs deep (parts.map fun p=>(p.1,st.ev p.2)) i=some (xs,L) →
  ∃ ess Fs,ess.length=parts.length∧xs.length=parts.length∧(∀ k p c,parts[k]? = some p→ess[k]? = some c→p.1=i+k∧(a.eval p.2).cells=c.toArray∧c.length=t.size) ∧
   (if deep then AllR (Deep t w) xs Fs ess∧Fs.flatten=L.flatMap gh.ft else AllR (fun x F c=>F=[]∧ImmS t x c w (UU C.U0 gh L)) xs Fs ess)
 | [],i,xs,L,hp=>by
  simp only[List.map_nil,z2x,Option.some.injEq,Prod.mk.injEq] at hp
  obtain⟨rfl,rfl⟩:=hp
  exact⟨[],[],rfl,rfl,by simp,by cases deep<;>simp[AllR]⟩
 | p::parts,i,xs,L,hp=>by
  simp only[List.map_cons,z2x] at hp
  split at hp
  ·rename_i hj
   simp only[beq_iff_eq] at hj
   cases hls:(st.ev p.2).leaves with
   | none=>rw[hls] at hp; cases hp
   | some bl=>
    obtain⟨b,ls⟩:=bl
    rw[hls] at hp
    simp only at hp
    obtain⟨us,hpk,hus⟩:=h.leaves p.2 hls
    cases hr:z2x t st.objs deep (parts.map fun p=>(p.1,st.ev p.2)) (i+1) with
    | none=>rw[hr] at hp; split at hp<;>cases hp
    | some yL=>
     obtain⟨ys,M⟩:=yL
     rw[hr] at hp
     obtain⟨ess,Fs,hl1,hl2,hk,hA⟩:=zjs h hts parts (i+1) hr
     have first:∀ (x:t.den) (N:List Nat) (hget:(if deep then z1p st.objs t ls else z14 st.objs t ls)=some (x,N,[])),us.length=t.size∧(∀ u∈us,u.oneCell'=true)∧(if deep then Deep t w x (N.flatMap gh.ft) us else ImmS t x us w (UU C.U0 gh N)):=by
      intro x N hget
      cases deep with
      | true=>
       obtain⟨v1,v2,rfl,hd,h2⟩:=z9f h.objs t hus hget
       cases v2 with
       | nil=>rw[List.append_nil]; exact⟨Deep.len t hd,Deep.one t hd,hd⟩
       | cons _ _=>exact h2.elim
      | false=>
       obtain⟨v1,v2,rfl,hd,h2⟩:=z58 h.dj h.sep0 h.lt h.objs t hus hget
       cases v2 with
       | nil=>rw[List.append_nil]; exact⟨Rep.len t hd.rep,Rep.one t hd.rep,hd⟩
       | cons _ _=>exact h2.elim
     split at hp
     ·rename_i x N hget
      simp only[Option.some.injEq,Prod.mk.injEq] at hp
      obtain⟨rfl,rfl⟩:=hp
      obtain⟨g1,g2,g3⟩:=first x N hget
      have hcells:(a.eval p.2).cells=us.toArray:=z3u hpk fun hb=>by subst hb; obtain rfl:us=[a.eval p.2]:=hpk; exact g2 _ (by simp)
      refine⟨us::ess,(if deep then N.flatMap gh.ft else [])::Fs,by simp[hl1],by simp[hl2],fun k q c hq hc=>?_,?_⟩
      ·cases k with
       | zero=>simp at hq hc; subst hq; subst hc; exact⟨by omega,hcells,g1⟩
       | succ k=>
        obtain⟨k1,k2,k3⟩:=hk k q c (by simpa using hq) (by simpa using hc)
        exact⟨by omega,k2,k3⟩
      ·cases deep with
       | true=>exact⟨⟨g3,hA.1⟩,by simp[hA.2]⟩
       | false=>exact⟨⟨rfl,ImmS.sub g3 fun b _ hb=>UU.mono (fun l hl=>by simp[z2o,hl]) hb⟩,hA.mono fun x F c _ hx=>⟨hx.1,ImmS.sub hx.2 fun b _ hb=>UU.mono (fun l hl=>by simp[z2o,hl]) hb⟩⟩
     ·cases hp
  ·cases hp
theorem zmm {P:Program} {Γ:Facts} {E:Env} (hE:EnvOk P Γ E) {t e:TypeId} {tt ti:TI} (ht:tyOf E t=some tt) (hs:tt.td=.slice e) (he:tyOf E e=some ti) {n:Nat} {vs:List (Nat×Value)} {ess:List (List Value)} (hsz:n*ti.ty.size≤16777216) (hl:vs.length=ess.length) (hn:vs.length=n)
  (hp:∀ k p c,vs[k]? = some p→ess[k]? = some c→p.1=0+k∧p.2.cells=c.toArray∧c.length=ti.ty.size):∃ cur:Array Value,cur.toList=ess.flatten∧(Instr.buildSlice t n vs.toArray).run P w=.ok (.slice (some ⟨w.heap.size,0,none⟩) n n) (w.alloc (.cells cur e)):=by
 have hu:=(hE.tab _ _ ht).td
 rw[hs] at hu
 have hT:=hE.tab _ _ he
 obtain⟨i,hi,hz,hsi,hbi⟩:=hT.i
 have hcells:=zbt hT
 have hz0:¬n*ti.ty.size > 2 ^ 24:=by omega
 by_cases h00:n*ti.ty.size=0
 ·obtain⟨arr',ha,hb⟩:=zp5 (size:=ti.ty.size) vs ess 0 #[] hl hp (by simp[hn,h00])
  refine⟨arr',by rw[hb]; simp,?_⟩
  simp only[Instr.buildSlice,Sem.run_bind,run_underlying hu.2.1,Result.andThen_ok,hT.size w,Sem.run_ite,hz0,if_false,h00,if_true,Sem.run_pure]
  have hr0:Array.range 0=(#[]:Array Nat):=by apply Array.ext'; simp
  simp[newRow,hr0,ha]
 ·obtain⟨arr',ha,hb⟩:=zp5 (size:=ti.ty.size) vs ess 0 ((Array.range (n*ti.ty.size)).map ((z3l ti.ty).toArray[· % (z3l ti.ty).toArray.size]!)) hl hp (by simp[hn])
  refine⟨arr',by rw[hb]; simp[hn],?_⟩
  simp only[Instr.buildSlice,Sem.run_bind,run_underlying hu.2.1,Result.andThen_ok,hT.size w,Sem.run_ite,hz0,if_false,h00,Sem.run_pure,zeroValue,typeInfo,run_program,hi,hz,hcells]
  simp only[ha]
  simp[newRow]
end
end Go.AM
