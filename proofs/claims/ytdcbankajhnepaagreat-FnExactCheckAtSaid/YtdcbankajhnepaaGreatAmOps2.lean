/- Operations that write no object: loads, addresses, slices, lengths, conversions. No condition. -/
import Derived.Test.YtdcbankajhnepaaGreatAmOps
import Derived.Laws.BytesString
set_option linter.unusedVariables false
set_option linter.unusedSimpArgs false
namespace Go.AM
section
variable {C:Ctx} {st:St} {gh:Gh} {a:Act} {w:World}
theorem run_load {E:Env} {o:Oper} {t:TypeId} {ti:TI} (hT:TabOk C.P t ti) {x:Operand} (ho:o.op=.load t x) {b off:Nat} (hp:a.eval x=.pointer (some ⟨b,off,none⟩)) {cs:List Value} (hlen:cs.length=ti.ty.size)
  (h1:ti.agg=true∨cs.length=1) (hc:∀ j u,cs[j]? = some u→w.cell? ⟨b,off+j,none⟩=some u):∃ v,(execOp a.eval o).run C.P w=.ok (.value v) w∧zci ti.agg cs v:=by
 have hagg:=hT.isAgg w
 have hsz:=hT.size w
 cases hag:ti.agg with
 | true=>
  have hl:=run_loadCells_list (P:=C.P) w ⟨b,off,none⟩ cs fun j v hv=>by rw[zdl]; exact hc j v hv
  rw[hag] at hagg
  refine⟨.agg cs.toArray,?_,rfl⟩
  simp only[execOp,ho,hp,Instr.loadAt,Instr.sureAddr,loadVar,Sem.run_bind,Sem.run_pure,Result.andThen_ok,hagg,hsz,if_true]
  rw[←hlen,hl]
  rfl
 | false=>
  rw[hag] at hagg h1
  have h1':cs.length=1:=by rcases h1 with h | h; cases h; exact h
  match cs,h1' with
  | [v],_=>
   refine⟨v,?_,rfl⟩
   have:=hc 0 v rfl
   simp only[Nat.add_zero] at this
   simp only[execOp,ho,hp,Instr.loadAt,Instr.sureAddr,loadVar,Sem.run_bind,Sem.run_pure,Result.andThen_ok,hagg,Bool.false_eq_true,if_false,Go.run_load,this]
theorem zu0 {ti:TI} {ls:List Leaf} {v:SV} (h:(if (ls.take ti.ty.size).length==ti.ty.size then (if ti.agg then some (SV.agg (ls.take ti.ty.size)) else match ls.take ti.ty.size with | [c]=>some (SV.one c) | _=>none) else none)=some v):
  (ls.take ti.ty.size).length=ti.ty.size∧v=z90 ti.agg (ls.take ti.ty.size)∧(ti.agg=true∨(ls.take ti.ty.size).length=1):=by
 split at h
 ·rename_i hl
  simp only[beq_iff_eq] at hl
  refine⟨hl,?_⟩
  split at h
  ·rename_i ha
   simp only[Option.some.injEq] at h
   exact⟨by rw[←h,ha]; rfl,.inl ha⟩
  ·rename_i ha
   split at h
   ·rename_i c hc
    simp only[Option.some.injEq] at h
    rw[hc]
    refine⟨?_,.inr rfl⟩
    rw[←h]
    cases hag:ti.agg
    ·rfl
    ·exact absurd hag ha
   ·cases h
 ·cases h
theorem zc1 {E:Env} {o:Oper} {t:TypeId} {ti:TI} (hT:TabOk C.P t ti) {x:Operand} (ho:o.op=.load t x) {b p off:Nat} (hp:a.eval x=.pointer (some ⟨b,p+off,none⟩)) {ls:List Leaf} {cs:List Value}
  (hls:All2 (LeafOk C w gh st.objs) ls cs) (hc:∀ j u,cs[j]? = some u→w.cell? ⟨b,p+j,none⟩=some u) {v:SV}
  (hv:(if ((ls.drop off).take ti.ty.size).length==ti.ty.size then (if ti.agg then some (SV.agg ((ls.drop off).take ti.ty.size)) else match (ls.drop off).take ti.ty.size with | [c]=>some (SV.one c) | _=>none) else none)=some v):Yld C st gh a w o v:=by
 obtain⟨h1,rfl,h2⟩:=zu0 hv
 have hd:=(hls.drop off).take ti.ty.size
 have hlen:=hd.len
 obtain⟨x',hr,hpk⟩:=run_load (E:=E) (w:=w) hT ho hp (cs:=(cs.drop off).take ti.ty.size) (by omega) (by rcases h2 with h | h; exact .inl h; exact .inr (by omega)) fun j u hu=>by
  have hj:j<ti.ty.size:=by have:=(List.getElem?_eq_some_iff.1 hu).1; omega
  rw[List.getElem?_take,if_pos hj,List.getElem?_drop] at hu
  rw[Nat.add_assoc]
  exact hc _ u hu
 exact⟨x',hr,zc0 hpk hd (by rcases h2 with h | h; exact .inr h; exact .inl h)⟩
theorem UU.cons {U0:Nat→Prop} {gh:Gh} {L:List Nat} {l b:Nat} (h:UU U0 gh (l::L) b):UU U0 gh L b:=UU.mono (fun k hk=>by rw[zd7,hk,Bool.or_true]) h
theorem zzy (h:Rel C st gh a w) {l:Nat} {i:Int} {off:Nat} {j:Int} {o2:Nat} {v:Value} (hl:LeafOk C w gh st.objs (.oel2 l i off j o2) v) {u:Ty} {ys:List u.den} {L:List Nat} (hd:z08 st.objs u (.sub l i off)=some (ys,L)):
  0≤j∧j<ys.length∧∃ b ob c,v=.pointer (some ⟨b,ob+j.toNat*u.size+o2,none⟩)∧ImmS (.slice 0 u) ys [.slice (some ⟨b,ob,none⟩) ys.length c] w (UU C.U0 gh L):=by
 obtain⟨e,t,xs,M,s,u',ys',b,ob,n,c,ho,h1,h2,h3,h4,h5⟩:=hl.1
 have hs:LeafOk C w gh st.objs (.sub l i off) (.slice (some ⟨b,ob,none⟩) n c):=⟨h4,fun _=>rfl⟩
 have hi:=z2d (e:=0) h.dj h.sep0 h.lt h.objs hs hd
 simp only[z08,ho,h1] at hd
 split at hd
 ·rename_i y hy
  simp only[Option.some.injEq,Prod.mk.injEq] at hd
  obtain⟨rfl,rfl⟩:=hd
  obtain⟨rfl,rfl⟩:=z20 hy
  obtain⟨A,c2,he,_⟩:=hi.rep
  simp only[List.cons.injEq,Value.slice.injEq,and_true] at he
  obtain⟨_,rfl,_⟩:=he
  exact⟨h2,h3,b,ob,c,h5,hi⟩
 ·cases hd
theorem zp0 {t:Ty} {w:World} {x:Option t.den} {F:List Nat} {c:List Value} (h:HolE t.size (Deep t w) x F c):c.length=t.size:=by
 cases x with
 | none=>exact h.2.1
 | some x=>exact Deep.len t h
theorem zxn {t:Ty} {w:World} {x:Option t.den} {F:List Nat} {c:List Value} (h:HolE t.size (Deep t w) x F c):∀ u∈c,u.oneCell'=true:=by
 cases x with
 | none=>exact h.2.2
 | some x=>exact Deep.one t h
theorem zxp (h:Rel C st gh a w) {l:Nat} {e:TypeId} {t:Ty} {ys:List (Option t.den)} (hob:obj st.objs l=.hol e t ys) {i:Int} (h0:0≤i) (h1:i<ys.length):
  ∃ g o n c,gh.hd l=.slice (some ⟨g,o,none⟩) n c∧n=ys.length∧∃ x G es,ys[i.toNat]? = some x∧HolE t.size (Deep t w) x G es∧∀ j u,es[j]? = some u→w.cell? ⟨g,o+i.toNat*t.size+j,none⟩=some u:=by
 have hb:=h.objs l
 rw[hob] at hb
 have hi:i.toNat<ys.length:=by omega
 obtain⟨g,o,n,c,hv,G,es,hR,_,hcell⟩:=RowR.cells (fun x F c hR=>zp0 hR) hb (List.getElem?_eq_getElem hi)
 refine⟨g,o,n,c,hv,?_,_,G,es,List.getElem?_eq_getElem hi,hR,hcell⟩
 obtain⟨A,c',hv',_⟩:=z0u hb.choose_spec.choose_spec.2.2
 rw[hv] at hv'
 cases hv'; rfl
theorem zsk {E:Env} (hE:EnvOk C.P C.Γ E) {o:Oper} (h:Rel C st gh a w) {t:TypeId} {x:Operand} (ho:o.op=.load t x) {ti:TI} (ht:tyOf E t=some ti) {v:SV} (hv:z1k st.objs ti (st.ev x).leaf=some v):Yld C st gh a w o v:=by
 have hT:=hE.tab _ _ ht
 have hl:=h.leaf x
 unfold z1k at hv
 simp only at hv
 split at hv
 ·rename_i l off he
  rw[he] at hl
  obtain⟨hp,_⟩:=hl.1
  split at hv
  ·rename_i cs hcs
   have hb:=h.objs l
   rw[hcs] at hb
   obtain⟨_,arr,T,hw,ha⟩:=hb
   refine zc1 (E:=E) hT ho (p:=0) (off:=off) (by rw[hp,Nat.zero_add]) ha (fun j u hu=>?_) hv
   rw[Nat.zero_add,cell_of_row w _ j arr T (0,0) hw]
   simpa using hu
  ·cases hv
 ·rename_i t' xs i off L he
  rw[he] at hl
  obtain⟨h0,h1,b,p,c,hp,hi⟩:=hl.1
  obtain⟨b',p',c',he',es,hes,hcell⟩:=hi.elem (z6w (d:=t'.zero) h0 h1)
  simp only[List.cons.injEq,Value.slice.injEq,Option.some.injEq,Addr.mk.injEq,and_true,true_and] at he'
  obtain⟨⟨rfl,rfl⟩,rfl⟩:=he'
  exact zc1 (E:=E) hT ho (p:=p+i.toNat*t'.size) (off:=off) hp (z3t t' hes) hcell hv
 ·rename_i l i off he
  rw[he] at hl
  obtain⟨e,t',xs,d,L,g,og,n,c,hob,h0,h1,hh,hp⟩:=hl.1
  have hb:=h.objs l
  rw[hob] at hb hv
  cases d with
  | true=>
   simp only at hv
   obtain⟨g2,og2,n2,c2,hv2,G,es,hR,hG,hcell⟩:=RowR.cells (fun x F c hR=>(z12 hR).1) hb (z6w (d:=t'.zero) h0 h1)
   rw[hh] at hv2
   cases hv2
   refine zc1 (E:=E) hT ho (p:=og+i.toNat*t'.size) (off:=off) hp (zgu (off:=0) hob h0 h1 hh t' hR (fun j _=>by rw[Nat.zero_add]) (fun j u hu=>?_)) hcell hv
   rw[Nat.zero_add]
   exact hcell j u hu
  | false=>
   simp only at hv
   obtain⟨g2,og2,n2,c2,hv2,G,es,hR,hG,hcell⟩:=RowR.cells (fun x F c hR=>(z12 hR).1) hb (z6w (d:=t'.zero) h0 h1)
   rw[hh] at hv2
   cases hv2
   exact zc1 (E:=E) hT ho (p:=og+i.toNat*t'.size) (off:=off) hp (z3t t' hR.2) hcell hv
 ·rename_i l i off j o2 he
  rw[he] at hl
  split at hv
  ·rename_i u hu
   split at hv
   ·rename_i ys L hd
    obtain⟨h0,h1,b,ob,c,hp,hi⟩:=zzy h hl hd
    obtain⟨b',p',c',he',es,hes,hcell⟩:=hi.elem (z6w (d:=u.zero) h0 h1)
    simp only[List.cons.injEq,Value.slice.injEq,Option.some.injEq,Addr.mk.injEq,and_true,true_and] at he'
    obtain⟨⟨rfl,rfl⟩,rfl⟩:=he'
    exact zc1 (E:=E) hT ho (p:=ob+j.toNat*u.size) (off:=o2) hp (z3t u hes) hcell hv
   ·cases hv
  ·cases hv
 ·rename_i l i he
  rw[he] at hl
  obtain⟨e,t',ys,g,og,n,c,hob,h0,h1,hh,hp⟩:=hl.1
  rw[hob] at hv
  cases t' with
  | slice e1 u=>
   simp only at hv
   split at hv
   case isFalse=>cases hv
   rename_i hc
   simp only[Bool.and_eq_true,decide_eq_true_eq,Bool.not_eq_true'] at hc
   simp only[Option.some.injEq] at hv
   subst hv
   obtain⟨g2,og2,n2,c2,hv2,_,x',G,es,_,hR,hcell⟩:=zxp h hob h0 h1
   rw[hh] at hv2
   cases hv2
   have hlen:=zp0 hR
   obtain⟨y,hr,hpk⟩:=run_load (E:=E) (w:=w) hT ho hp (cs:=es) (by rw[hc.1]; exact hlen) (.inr hlen) hcell
   rw[hc.2] at hpk
   obtain rfl:es=[y]:=hpk
   exact⟨y,hr,⟨e,_,ys,g,og,n,c,hob,h0,h1,hh,by simpa using hcell 0 y rfl⟩,fun _=>zxn hR y (by simp)⟩
  | _=>simp at hv
 ·cases hv
theorem zj4 {P:Program} {t:TypeId} {ti:TI} (hT:TabOk P t ti) {fs:List FI} (hs:ti.td=.struct fs) {f:Nat} {fi:FI} (hf:fs[f]? = some fi):
  ∃ arr fld,P.underlying t=some (.struct arr)∧arr[f]? = some fld∧fld.offset=fi.off∧fld.type=fi.type∧∀ w,(sizeOf fi.type).run P w=.ok fi.size w:=by
 have ht:=hT.td
 rw[hs] at ht
 obtain⟨_,arr,hu,hmap,hsz⟩:=ht
 have h1:(arr.toList.map fun f=>(f.offset,f.type))[f]? = some (fi.off,fi.type):=by rw[hmap,List.getElem?_map,hf]; rfl
 rw[List.getElem?_map] at h1
 cases hg:arr.toList[f]? with
 | none=>rw[hg] at h1; cases h1
 | some fld=>
  rw[hg] at h1
  simp only[Option.map_some,Option.some.injEq,Prod.mk.injEq] at h1
  refine⟨arr,fld,hu,by simpa using hg,h1.1,h1.2,fun w=>?_⟩
  have hz:=hsz fi (List.mem_of_getElem? hf)
  cases hp:P.info? fi.type with
  | none=>rw[hp] at hz; cases hz
  | some i=>
   rw[hp] at hz
   simp only[Option.map_some,Option.some.injEq] at hz
   simp[sizeOf,typeInfo,hp,hz]
theorem z4p {P:Program} {t:TypeId} {ti:TI} (hT:TabOk P t ti) {fs:List FI} (hs:ti.td=.struct fs) {f:Nat} {fi:FI} (hf:fs[f]? = some fi) (hz:¬fi.size=0) {o:Oper} {x:Operand} (ho:o.op=.fieldAddr t x f) {b off:Nat}
  (hp:a.eval x=.pointer (some ⟨b,off,none⟩)):(execOp a.eval o).run P w=.ok (.value (.pointer (some ⟨b,off+fi.off,none⟩))) w:=by
 obtain⟨arr,fld,hu,hg,h1,h2,h3⟩:=zj4 hT hs hf
 simp only[execOp,ho,hp,Instr.fieldAt,fieldPlace,Sem.run_bind,run_underlying hu,Result.andThen_ok,hg,Instr.sureAddr,Sem.run_pure,h2,h3,h1,zdl,hz,if_false]
theorem zj7 {E:Env} (hE:EnvOk C.P C.Γ E) {o:Oper} (h:Rel C st gh a w) {t:TypeId} {x:Operand} {f:Nat} (ho:o.op=.fieldAddr t x f) {ti:TI} (ht:tyOf E t=some ti) {fs:List FI} (hs:ti.td=.struct fs) {fi:FI} (hf:fs[f]? = some fi) (hz:¬fi.size=0):
  (∀ l off,(st.ev x).leaf=.ptr l off→Yld C st gh a w o (.one (.ptr l (off+fi.off)))) ∧
  (∀ t xs i off L,(st.ev x).leaf=.ela t xs i off L→Yld C st gh a w o (.one (.ela t xs i (off+fi.off) L))) ∧
  (∀ l i off,(st.ev x).leaf=.oela l i off→Yld C st gh a w o (.one (.oela l i (off+fi.off)))) ∧
  (∀ l i off j o2,(st.ev x).leaf=.oel2 l i off j o2→Yld C st gh a w o (.one (.oel2 l i off j (o2+fi.off)))):=by
 have hT:=hE.tab _ _ ht
 have hl:=h.leaf x
 refine⟨fun l off he=>?_,fun t' xs i off L he=>?_,fun l i off he=>?_,fun l i off j o2 he=>?_⟩
 all_goals rw[he] at hl
 ·obtain⟨hp,hb⟩:=hl.1
  exact⟨_,z4p hT hs hf hz ho hp,⟨rfl,hb⟩,fun _=>rfl⟩
 ·obtain⟨h0,h1,b,p,c,hp,hi⟩:=hl.1
  refine⟨_,z4p hT hs hf hz ho hp,⟨h0,h1,b,p,c,?_,hi⟩,fun _=>rfl⟩
  rw[Nat.add_assoc]
 ·obtain⟨e,t',xs,d,L,g,og,n,c,hob,h0,h1,hh,hp⟩:=hl.1
  refine⟨_,z4p hT hs hf hz ho hp,⟨e,t',xs,d,L,g,og,n,c,hob,h0,h1,hh,?_⟩,fun _=>rfl⟩
  rw[Nat.add_assoc]
 ·obtain⟨e,t',xs,L,s,u,ys,b,ob,n,c,hob,h1,h2,h3,h4,hp⟩:=hl.1
  refine⟨_,z4p hT hs hf hz ho hp,⟨e,t',xs,L,s,u,ys,b,ob,n,c,hob,h1,h2,h3,h4,?_⟩,fun _=>rfl⟩
  rw[Nat.add_assoc]
theorem ze7 {E:Env} (hE:EnvOk C.P C.Γ E) {T:TypeId} {n:Nat} (h:z3b E T=some n):∃ e,C.P.underlying T=some (.slice e)∧∀ w,(sizeOf e).run C.P w=.ok n w:=by
 unfold z3b at h
 split at h
 ·rename_i e ty ag by_ ht
  split at h
  ·rename_i ti hti
   simp only[Option.some.injEq] at h
   subst h
   have:=(hE.tab _ _ ht).td
   exact⟨e,this.2.1,(hE.tab _ _ hti).size⟩
  ·cases h
 ·cases h
theorem znv {z:Option Nat} {t:Ty} (h:¬(!szIs z t)=true):z=some t.size:=by
 unfold szIs at h
 cases z with
 | none=>simp at h
 | some n=>simp at h; rw[h]
theorem z4o {E:Env} (hE:EnvOk C.P C.Γ E) {T:TypeId} {n:Nat} (hz:z3b E T=some n) {o:Oper} {x i:Operand} (ho:o.op=.indexAddr T x i) {b p len cap:Nat} {k:IntKind} {m:Int}
  (hx:a.eval x=.slice (some ⟨b,p,none⟩) len cap) (hi:a.eval i=.int k m) (h0:0≤m) (h1:m<len):(execOp a.eval o).run C.P w=.ok (.value (.pointer (some ⟨b,p+m.toNat*n,none⟩))) w:=by
 obtain⟨e,hu,hs⟩:=ze7 hE hz
 simp only[execOp,ho,hx,hi,Instr.indexAt,asIntOf,Sem.run_bind,Sem.run_pure,Result.andThen_ok,run_underlying hu,hs]
 simp[h0,h1,hs,zdl]
theorem y06 {e:TypeId} {t:Ty} {xs:List t.den} {v:Value} {U:Nat→Prop} (h:ImmS (.slice e t) xs [v] w U) (hne:xs≠[]):∃ b p c,v=.slice (some ⟨b,p,none⟩) xs.length c:=by
 obtain⟨A,c,he,_,hr⟩:=h.rep
 simp only[List.cons.injEq,and_true] at he
 rcases hr with h0 | ⟨b,p,rfl,_⟩
 ·exact absurd h0 hne
 ·exact⟨b,p,c,he⟩
theorem zx7 {α:Type} {xs:List α} {i:Int} (h0:0≤i) (h1:i<xs.length):xs≠[]:=by intro h; subst h; simp at h1; omega
theorem zsm {E:Env} (hE:EnvOk C.P C.Γ E) {o:Oper} (h:Rel C st gh a w) {T:TypeId} {x i:Operand} (ho:o.op=.indexAddr T x i) {k:IntKind} {n:Int} {L':List Nat} (hi:(st.ev i).leaf=.val (.int k) n L') {e:TypeId} {t:Ty} {xs:List t.den} {L:List Nat}
  (hx:ImmS (.slice e t) xs [a.eval x] w (UU C.U0 gh L)) (hz:z3b E T=some t.size) (h0:0≤n) (h1:n<xs.length):Yld C st gh a w o (.one (.ela t xs n 0 L)):=by
 have hiv:=h.leaf i
 rw[hi] at hiv
 have hiv:=z2b hiv
 obtain⟨b,p,c,hv⟩:=y06 hx (zx7 h0 h1)
 refine⟨_,z4o hE hz ho hv hiv h0 h1,⟨h0,h1,b,p,c,rfl,?_⟩,fun _=>rfl⟩
 rw[hv] at hx
 exact hx
theorem zl2 {E:Env} (hE:EnvOk C.P C.Γ E) {o:Oper} (h:Rel C st gh a w) {T:TypeId} {x i:Operand} (ho:o.op=.indexAddr T x i) {k:IntKind} {n:Int} {L':List Nat} (hi:(st.ev i).leaf=.val (.int k) n L') {l:Nat} (hx:(st.ev x).leaf=.own l) {e:TypeId} {t:Ty} {xs:List t.den} {d:Bool} {L:List Nat}
  (hob:obj st.objs l=.row e t xs d L) (hz:z3b E T=some t.size) (h0:0≤n) (h1:n<xs.length):Yld C st gh a w o (.one (.oela l n 0)):=by
 have hiv:=h.leaf i
 rw[hi] at hiv
 have hiv:=z2b hiv
 have hxv:=h.leaf x
 rw[hx] at hxv
 obtain⟨hv,_⟩:=hxv.1
 have hb:=h.objs l
 rw[hob] at hb
 obtain⟨g,og,m,c,hh,_⟩:=RowR.cells (fun x F c hR=>(z12 hR).1) hb (z6w (d:=t.zero) h0 h1)
 have hlen:m=xs.length:=by
  obtain⟨A,c',hv',_⟩:=z0u hb.choose_spec.choose_spec.2.2
  rw[hh] at hv'
  cases hv'; rfl
 subst hlen
 refine⟨_,z4o hE hz ho (by rw[hv,hh]) hiv h0 h1,⟨e,t,xs,d,L,g,og,_,c,hob,h0,h1,hh,?_⟩,fun _=>rfl⟩
 simp
theorem zsn {E:Env} (hE:EnvOk C.P C.Γ E) {o:Oper} (h:Rel C st gh a w) {T:TypeId} {x i:Operand} (ho:o.op=.indexAddr T x i) {k:IntKind} {n:Int} {L':List Nat} (hi:(st.ev i).leaf=.val (.int k) n L') {l:Nat} (hx:(st.ev x).leaf=.hol l .hd) {e:TypeId} {t:Ty} {ys:List (Option t.den)}
  (hob:obj st.objs l=.hol e t ys) (hz:z3b E T=some t.size) (h0:0≤n) (h1:n<ys.length):Yld C st gh a w o (.one (.hol l (.pl n))):=by
 have hiv:=h.leaf i
 rw[hi] at hiv
 have hiv:=z2b hiv
 have hxv:=h.leaf x
 rw[hx] at hxv
 obtain⟨hv,_⟩:=hxv.1
 obtain⟨g,og,m,c,hh,hlen,_⟩:=zxp h hob h0 h1
 subst hlen
 exact⟨_,z4o hE hz ho (by rw[hv,hh]) hiv h0 h1,⟨e,t,ys,g,og,_,c,hob,h0,h1,hh,rfl⟩,fun _=>rfl⟩
theorem zsl {E:Env} (hE:EnvOk C.P C.Γ E) {o:Oper} (h:Rel C st gh a w) {T:TypeId} {x i:Operand} (ho:o.op=.indexAddr T x i) {k:IntKind} {n:Int} {L':List Nat} (hi:(st.ev i).leaf=.val (.int k) n L') {l:Nat} {j:Int} {off:Nat} (hx:(st.ev x).leaf=.sub l j off) {t:Ty} {xs:List t.den} {L:List Nat}
  (hd:z08 st.objs t (.sub l j off)=some (xs,L)) (hz:z3b E T=some t.size) (h0:0≤n) (h1:n<xs.length):Yld C st gh a w o (.one (.oel2 l j off n 0)):=by
 have hiv:=h.leaf i
 rw[hi] at hiv
 have hiv:=z2b hiv
 have hxv:=h.leaf x
 rw[hx] at hxv
 have hxs:=hxv.1
 obtain⟨e,t',xs',M,g,og,m,c,s,z,hob,q0,q1,hz',hh,hcell⟩:=hxs
 simp only[z08,hob] at hd
 split at hd
 case h_2=>cases hd
 rename_i e2 u y hl
 split at hd
 case h_2=>cases hd
 rename_i y' hy
 simp only[Option.some.injEq,Prod.mk.injEq] at hd
 obtain⟨rfl,rfl⟩:=hd
 obtain⟨rfl,rfl⟩:=z20 hy
 obtain⟨G,hG,v,he,hr⟩:=ztm hob (h.objs l) hxv.1 hl
 simp only[List.cons.injEq,and_true] at he
 subst he
 obtain⟨b,ob,m2,c2,hv,_⟩:=RowR.cells (fun x F c hR=>Deep.len u hR) hr (z6w (d:=u.zero) h0 h1)
 have hlen:m2=List.length y:=by
  obtain⟨A,c',hv',_⟩:=z0u hr.choose_spec.choose_spec.2.2
  rw[hv] at hv'
  cases hv'; rfl
 subst hlen
 rw[hv] at hxv
 refine⟨_,z4o hE hz ho hv hiv h0 h1,⟨e,t',xs',M,e2,u,y,b,ob,_,c2,hob,hl,h0,h1,hxv.1,?_⟩,fun _=>rfl⟩
 simp
theorem zzo {E:Env} (hE:EnvOk C.P C.Γ E) {o:Oper} (h:Rel C st gh a w) {T:TypeId} {x i:Operand} (ho:o.op=.index T x i) {s:ByteArray} {L:List Nat} (hx:(st.ev x).leaf=.val .str s L) {k:IntKind} {n:Int} {L':List Nat} (hi:(st.ev i).leaf=.val (.int k) n L')
  (ht:z7b E T=true) (h0:0≤n) (h1:n<s.size):Yld C st gh a w o (vint .u8 (bt s n)):=by
 have hiv:=h.leaf i
 rw[hi] at hiv
 have hiv:=z2b hiv
 have hxv:=h.leaf x
 rw[hx] at hxv
 have hxv:=zd5 hxv
 have hu:C.P.underlying T=some .string:=by
  unfold z7b at ht
  split at ht
  ·rename_i ti hti; exact (hE.tab _ _ hti).td.2
  ·cases ht
 have hlt:n.toNat<s.size:=by omega
 refine⟨.int .u8 (bt s n),?_,z0j (t:=.int .u8) rfl rfl⟩
 simp only[execOp,ho,hxv,hiv,Instr.index,asIntOf,Sem.run_bind,Sem.run_pure,Result.andThen_ok,run_underlying hu,h0,if_true]
 simp[hlt,bt]
theorem y66 {E:Env} (hE:EnvOk C.P C.Γ E) {o:Oper} (h:Rel C st gh a w) {c:Call} (ho:o.op=.call c) (hc:c.callee=.builtin .len) {x:Operand} {T:TypeId} (hargs:c.args.toList=[x]) (hT:c.argTypes.toList=[T]) {n:Int}
  (hl:zqs (z7b E T) (z88 E T) st.objs (st.ev x)=some n):Yld C st gh a w o (vint .i64 n):=by
 have hargs':c.args=#[x]:=by rw[←hargs]
 have hT':c.argTypes=#[T]:=by rw[←hT]
 have hxv:=h.ev x
 have base:∀ v,a.eval x=v→∀ m:Int,(Builtin.len_ #[T] o.type #[v]).run C.P w=.ok (.int .i64 m) w→Yld C st gh a w o (vint .i64 m):=by
  intro v hv m hr
  refine⟨.int .i64 m,?_,z0j (t:=.int .i64) rfl rfl⟩
  simp only[execOp,ho,resolve,hc,hargs',hT',invoke,builtin,Sem.run_bind,Sem.run_pure,Result.andThen_ok,List.map_toArray,List.map_cons,List.map_nil,hv,hr]
 unfold zqs at hl
 split at hl
 ·rename_i s L he
  split at hl
  ·rename_i ht
   simp only[Option.some.injEq] at hl
   subst hl
   rw[he] at hxv
   have hv:=zd5 hxv
   refine base _ hv _ ?_
   unfold z7b at ht
   split at ht
   ·rename_i ti hti
    have hu:C.P.underlying T=some .string:=(hE.tab _ _ hti).td.2
    simp[Builtin.len_,run_underlying hu,goInt]
   ·cases ht
  ·cases hl
 ·rename_i he
  split at hl
  ·rename_i ht
   simp only[Option.some.injEq] at hl
   subst hl
   rw[he] at hxv
   have hv:a.eval x=.slice none 0 0:=hxv.1
   refine base _ hv _ ?_
   unfold z88 at ht
   split at ht
   ·rename_i e ty ag by_ hti
    have hu:=(hE.tab _ _ hti).td.2.1
    simp[Builtin.len_,run_underlying hu,goInt]
   ·cases ht
  ·cases hl
 ·rename_i c' _ _ he
  split at hl
  ·cases hl
  ·rename_i ht
   split at hl
   ·rename_i t hst
    split at hl
    ·rename_i xs L hsd
     simp only[Option.some.injEq] at hl
     subst hl
     rw[he] at hxv
     have hi:=z2d h.dj h.sep0 h.lt h.objs (e:=0) hxv hsd
     obtain⟨A,c'',hv,_⟩:=hi.rep
     simp only[List.cons.injEq,and_true] at hv
     refine base _ hv _ ?_
     have ht':z88 E T=true:=by simpa using ht
     unfold z88 at ht'
     split at ht'
     ·rename_i e ty ag by_ hti
      have hu:=(hE.tab _ _ hti).td.2.1
      simp[Builtin.len_,run_underlying hu,goInt]
     ·cases ht'
    ·cases hl
   ·cases hl
 ·cases hl
theorem zqf:∀ (xs:List Int) (s:ByteArray),xs.foldl (fun r n=>r.push (UInt8.ofNat n.toNat)) s=⟨s.data++(xs.map fun n=>n.toNat.toUInt8).toArray⟩
 | [],s=>by cases s; simp
 | x::xs,s=>by
  rw[List.foldl_cons,zqf xs]
  cases s
  simp only[ByteArray.push,List.map_cons]
  congr 1
  apply Array.ext'
  simp
theorem zuy {E:Env} (hE:EnvOk C.P C.Γ E) {o:Oper} (h:Rel C st gh a w) {src dst:TypeId} {x:Operand} (ho:o.op=.convert src dst x) {ts td:TI} {j k k':IntKind} {n:Int} {L:List Nat} (hs:tyOf E src=some ts) (hs1:ts.td=.data) (hs2:ts.ty=.int j)
  (hd:tyOf E dst=some td) (hd1:td.td=.data) (hd2:td.ty=.int k) (hx:(st.ev x).leaf=.val (.int k') n L):Yld C st gh a w o (vint k (k.wrap n)):=by
 have hxv:=h.leaf x
 rw[hx] at hxv
 have hxv:=z2b hxv
 have h1:=(hE.tab _ _ hs).td
 have h2:=(hE.tab _ _ hd).td
 rw[hs1,hs2] at h1
 rw[hd1,hd2] at h2
 refine⟨_,?_,z0j (t:=.int k) rfl rfl⟩
 simp only[execOp,ho,hxv,convert,Sem.run_bind,run_underlying h1.2,run_underlying h2.2,Result.andThen_ok,Conv.intToInt,Sem.run_pure]
theorem zux {E:Env} (hE:EnvOk C.P C.Γ E) {o:Oper} (h:Rel C st gh a w) {src dst e:TypeId} {x:Operand} (ho:o.op=.convert src dst x) {ts td te:TI} (hs:tyOf E src=some ts) (hs1:ts.td=.slice e)
  (hd:tyOf E dst=some td) (hd1:td.td=.data) (hd2:td.ty=.str) (he:tyOf E e=some te) (he1:te.td=.data) (he2:te.ty=.int .u8) {xs:List Int} {L:List Nat} (hx:z08 st.objs (.int .u8) (st.ev x).leaf=some (xs,L)):Yld C st gh a w o (vstr (zza xs)):=by
 have hxv:=z2d h.dj h.sep0 h.lt h.objs (e:=0) (h.leaf x) hx
 have h1:=(hE.tab _ _ hs).td
 have h2:=(hE.tab _ _ hd).td
 have h3:=(hE.tab _ _ he).td
 rw[hs1] at h1
 rw[hd1,hd2] at h2
 rw[he1,he2] at h3
 obtain⟨A,c,hv,_,hr⟩:=hxv.rep
 simp only[List.cons.injEq,and_true] at hv
 refine⟨.string (zza xs),?_,z0j (t:=.str) rfl rfl⟩
 simp only[execOp,ho,hv,Sem.run_bind,run_convert_bytes_string w src dst e A _ c h1.2.1 h3.2 h2.2]
 rcases hr with h0 | ⟨b,p,rfl,hel⟩
 ·subst h0
  cases A with
  | none=>simp[Conv.bytesToString,zza]; rfl
  | some ad=>
   simp only[List.length_nil]
   rw[run_bytesToString w ad 0 c [] (by simp[loadCells,loadCellsFrom])]
   rfl
 ·have hl:=run_loadCells_list (P:=C.P) w ⟨b,p,none⟩ (xs.map (Value.int .u8)) fun j v hv=>by
   rw[List.getElem?_map] at hv
   cases hj:xs[j]? with
   | none=>rw[hj] at hv; cases hv
   | some n=>
    rw[hj] at hv
    simp only[Option.map_some,Option.some.injEq] at hv
    subst hv
    obtain⟨es,hes,hc⟩:=hel j n hj
    obtain rfl:es=_:=hes
    have:=hc 0 _ rfl
    rw[zdl]
    simpa[Ty.size] using this
  rw[List.length_map] at hl
  rw[run_bytesToString w ⟨b,p,none⟩ xs.length c xs hl]
  simp only[Result.andThen_ok,Sem.run_pure,zqf]
  have:(ByteArray.empty.data++(xs.map fun n=>n.toNat.toUInt8).toArray)=(xs.map fun n=>n.toNat.toUInt8).toArray:=by
   show (#[]:Array UInt8)++_=_
   simp
  rw[this]
  rfl
end
end Go.AM
