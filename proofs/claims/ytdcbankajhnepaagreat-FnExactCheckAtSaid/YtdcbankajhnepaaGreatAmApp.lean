/- Append to a slice that lies in an element of a row of ours, and what may stand between it and the store of its result. No condition. -/
import Derived.Test.YtdcbankajhnepaaGreatAmStep
set_option linter.unusedVariables false
set_option linter.unusedSimpArgs false
namespace Go.AM
section
variable {C:Ctx} {st:St} {gh:Gh} {a:Act} {w:World}
def RelP (C:Ctx) (st:St) (gh:Gh) (a:Act) (w:World):Option Pend→Prop
 | none=>Rel C st gh a w
 | some p=>∃ (w2:World) (e:TypeId) (t:Ty) (xs:List t.den) (L:List Nat) (g og n c:Nat) (cur:Array Value) (v:Value),Rel C st gh a w2∧obj st.objs p.1=.row e t xs true L∧0≤p.2.1∧p.2.1<xs.length ∧
   gh.hd p.1=.slice (some ⟨g,og,none⟩) n c∧w.heap[g]? = some (.cells cur e (0,0))∧og+p.2.1.toNat*t.size+p.2.2<cur.size∧w2=w.setRow g (z07 (og+p.2.1.toNat*t.size+p.2.2) [v] cur.toList).toArray
theorem RelP.put {p:Option Pend} (h:RelP C st gh a w p) {d:Option Tmp} {v:SV} {x:Value} (hv:∀ w2,Rel C st gh a w2→SVOk (LeafOk C w2 gh st.objs) v x):RelP C (st.put d v) gh (a.put d x) w p:=by
 have e:(st.put d v).objs=st.objs:=rfl
 cases p with
 | none=>exact Rel.put h (hv _ h)
 | some p=>
  obtain⟨w2,e1,t,xs,L,g,og,n,c,cur,v1,h0,h1,h2⟩:=h
  exact⟨w2,e1,t,xs,L,g,og,n,c,cur,v1,h0.put (hv _ h0),h1,h2⟩
theorem RelP.some_rel {p:Option Pend} (h:RelP C st gh a w p):∃ w2,Rel C st gh a w2:=by
 cases p with
 | none=>exact⟨_,h⟩
 | some p=>exact⟨_,h.choose_spec.choose_spec.choose_spec.choose_spec.choose_spec.choose_spec.choose_spec.choose_spec.choose_spec.choose_spec.choose_spec.1⟩
theorem y0j {E:Env} (hE:EnvOk C.P C.Γ E) {cb:CB} {o:Oper} (h:Rel C st gh a w) (hb:z5y st o=true) {v:SV} {new:Objs} (hs:(z0l E cb st.ev st.objs o).run some=some (v,new)):
  new=[]∧∃ x,SVOk (LeafOk C w gh st.objs) v x∧∀ W:World,(∀ l cs,obj st.objs l=.box cs→W.heap[gh.bk l]? = w.heap[gh.bk l]?)→(execOp a.eval o).run C.P W=.ok (.value x) W:=by
 unfold z5y at hb
 split at hb
 ·
  rename_i x ho
  simp only[z0l,ho] at hs
  have:=Tree.run_ret1 hs
  simp only[Prod.mk.injEq] at this
  obtain⟨rfl,rfl⟩:=this
  exact⟨rfl,a.eval x,h.ev x,fun W _=>by simp[execOp,ho]⟩
 ·
  rename_i t x f ho
  simp only[z0l,ho] at hs
  split at hs
  case h_2=>cases hs
  rename_i fs _ _ _ ht
  split at hs
  case h_2=>cases hs
  rename_i fi hf
  split at hs
  ·cases hs
  rename_i hz
  have hz:¬fi.size=0:=by simpa using hz
  have hT:=hE.tab _ _ ht
  obtain⟨k1,k2,k3,k4⟩:=zj7 hE h ho ht rfl hf hz
  have fin:∀ {c:Leaf} {b off:Nat},(v,new)=(SV.one c,[])→a.eval x=.pointer (some ⟨b,off,none⟩)→Yld C st gh a w o (.one c)→new=[]∧∃ x,SVOk (LeafOk C w gh st.objs) v x∧∀ W:World,(∀ l cs,obj st.objs l=.box cs→W.heap[gh.bk l]? = w.heap[gh.bk l]?)→(execOp a.eval o).run C.P W=.ok (.value x) W:=by
   intro c b off he hp hy
   simp only[Prod.mk.injEq] at he
   obtain⟨rfl,rfl⟩:=he
   obtain⟨y,hr,hv⟩:=hy
   have h1:=z4p (w:=w) hT rfl hf hz ho hp
   rw[hr] at h1
   simp only[Result.ok.injEq,Next.value.injEq,and_true] at h1
   subst h1
   exact⟨rfl,_,hv,fun W _=>z4p (w:=W) hT rfl hf hz ho hp⟩
  have hl:=h.leaf x
  split at hs
  ·rename_i l off hx; rw[hx] at hl; exact fin (Tree.run_ret1 hs) hl.1.1 (k1 _ _ hx)
  ·rename_i t xs i off L hx; rw[hx] at hl; obtain⟨_,_,b,p,c,hp,_⟩:=hl.1; exact fin (Tree.run_ret1 hs) hp (k2 _ _ _ _ _ hx)
  ·rename_i l i off hx; rw[hx] at hl; obtain⟨e,t',xs,d,L,g,og,n,c,hob,h0,h1,hh,hp⟩:=hl.1; exact fin (Tree.run_ret1 hs) hp (k3 _ _ _ hx)
  ·rename_i l i off j o2 hx; rw[hx] at hl; obtain⟨e,t',xs,L,s,u,ys,b,ob,n,c,hob,h1,h2,h3,h4,hp⟩:=hl.1; exact fin (Tree.run_ret1 hs) hp (k4 _ _ _ _ _ hx)
  ·cases hs
 ·
  rename_i x ho
  simp only[z0l,ho] at hs
  have hl:=h.leaf x
  have fin:∀ {c:Leaf} {ad:Addr},(v,new)=(SV.one c,[])→LeafOk C w gh st.objs c (a.eval x)→a.eval x=.pointer (some ad)→new=[]∧∃ x,SVOk (LeafOk C w gh st.objs) v x∧∀ W:World,(∀ l cs,obj st.objs l=.box cs→W.heap[gh.bk l]? = w.heap[gh.bk l]?)→(execOp a.eval o).run C.P W=.ok (.value x) W:=by
   intro c ad he hc hp
   simp only[Prod.mk.injEq] at he
   obtain⟨rfl,rfl⟩:=he
   exact⟨rfl,a.eval x,hc,fun W _=>by simp[execOp,ho,hp]⟩
  split at hs
  ·rename_i l off hx; rw[hx] at hl; exact fin (Tree.run_ret1 hs) hl hl.1.1
  ·rename_i l i off hx; rw[hx] at hl; obtain⟨e,t',xs,d,L,g,og,n,c,hob,h0,h1,hh,hp⟩:=hl.1; exact fin (Tree.run_ret1 hs) hl hp
  ·rename_i t xs i off L hx; rw[hx] at hl; obtain⟨_,_,b,p,c,hp,_⟩:=hl.1; exact fin (Tree.run_ret1 hs) hl hp
  ·rename_i l i off j o2 hx; rw[hx] at hl; obtain⟨e,t',xs,L,s,u,ys,b,ob,n,c,hob,h1,h2,h3,h4,hp⟩:=hl.1; exact fin (Tree.run_ret1 hs) hl hp
  ·cases hs
 ·
  rename_i t x ho
  split at hb
  case h_2=>cases hb
  rename_i l off hx
  simp only[z0l,ho] at hs
  split at hs
  case h_2=>cases hs
  rename_i ti ht
  split at hs
  case h_2=>cases hs
  rename_i v' hv
  have he:=Tree.run_ret1 hs
  simp only[Prod.mk.injEq] at he
  obtain⟨rfl,rfl⟩:=he
  have hT:=hE.tab _ _ ht
  obtain⟨y,hr,hvy⟩:=zsk hE h ho ht hv
  refine⟨rfl,y,hvy,fun W hW=>?_⟩
  have hl:=h.leaf x
  rw[hx] at hl hv
  obtain⟨hp,cs0,hob0⟩:=hl.1
  have hbx:=h.objs l
  rw[hob0] at hbx
  obtain⟨_,arr,T,hw,ha⟩:=hbx
  simp only[z1k,hob0] at hv
  obtain⟨q1,_,q3⟩:=zu0 hv
  have hlen:((arr.toList.drop off).take ti.ty.size).length=ti.ty.size:=by
   rw[←((ha.drop off).take ti.ty.size).len]; exact q1
  have hcond:ti.agg=true∨((arr.toList.drop off).take ti.ty.size).length=1:=by
   rcases q3 with h1 | h1
   ·exact .inl h1
   ·exact .inr (by rw[←((ha.drop off).take ti.ty.size).len]; exact h1)
  have cells:∀ V:World,V.heap[gh.bk l]? = some (.cells arr T (0,0))→∀ j u,((arr.toList.drop off).take ti.ty.size)[j]? = some u→V.cell? ⟨gh.bk l,off+j,none⟩=some u:=by
   intro V hV j u hu
   rw[cell_of_row V _ _ arr T (0,0) hV]
   rw[List.getElem?_take] at hu
   split at hu
   ·rw[List.getElem?_drop] at hu; simpa using hu
   ·cases hu
  obtain⟨y1,r1,p1⟩:=run_load (E:=E) (w:=w) hT ho hp hlen hcond (cells w hw)
  obtain⟨y2,r2,p2⟩:=run_load (E:=E) (w:=W) hT ho hp hlen hcond (cells W ((hW l cs0 hob0).trans hw))
  rw[hr] at r1
  simp only[Result.ok.injEq,Next.value.injEq,and_true] at r1
  subst r1
  have:y=y2:=by
   cases hag:ti.agg with
   | true=>rw[hag] at p1 p2; exact p1.trans p2.symm
   | false=>rw[hag] at p1 p2; have:=(show _=[y] from p1).symm.trans p2; simpa using this
  rw[this]
  exact r2
 ·
  rename_i T x i ho
  split at hb
  case h_2=>cases hb
  rename_i l hx
  simp only[z0l,ho,hx] at hs
  split at hs
  case h_2=>cases hs
  rename_i k n L' hi
  split at hs
  case h_2=>cases hs
  rename_i e t xs d L hob
  split at hs
  ·cases hs
  rename_i hz
  obtain⟨h0,hs⟩:=Tree.run_need hs
  obtain⟨h1,hs⟩:=Tree.run_need hs
  have h0:0≤(n:Int):=by simpa using h0
  have h1:(n:Int)<xs.length:=by simpa using h1
  have he:=Tree.run_ret1 hs
  simp only[Prod.mk.injEq] at he
  obtain⟨rfl,rfl⟩:=he
  obtain⟨y,hr,hvy⟩:=zl2 hE h ho hi hx hob (zcj hz) h0 h1
  refine⟨rfl,y,hvy,fun W hW=>?_⟩
  have hiv:=h.leaf i
  rw[hi] at hiv
  have hiv:=z2b hiv
  have hxv:=h.leaf x
  rw[hx] at hxv
  obtain⟨hv,_⟩:=hxv.1
  have hb:=h.objs l
  rw[hob] at hb
  obtain⟨g,og,m,c,hh,_⟩:=RowR.cells (fun x F c hR=>(z12 hR).1) hb (z6w (d:=t.zero) h0 h1)
  have hlen:m=xs.length:=by
   obtain⟨A,c',hv',_⟩:=z0u hb.choose_spec.choose_spec.2.2
   rw[hh] at hv'
   cases hv'; rfl
  subst hlen
  have r1:=z4o (w:=w) hE (zcj hz) ho (hv.trans hh) hiv h0 h1
  rw[hr] at r1
  simp only[Result.ok.injEq,Next.value.injEq,and_true] at r1
  rw[r1]
  exact z4o (w:=W) hE (zcj hz) ho (hv.trans hh) hiv h0 h1
 ·cases hb
theorem zm8 {E:Env} {cb:CB} {o:Oper} (hb:z5y st o=true):z1g E o=none∧z57 E cb st o=none∧z1t E st.ev o=false:=by
 refine⟨?_,?_⟩
 ·cases hsl:z1g E o with
  | none=>rfl
  | some l=>
   obtain⟨_,_,_,hf⟩:=z5u hsl
   unfold z41 at hf
   unfold z5y at hb
   split at hb<;>rename_i ho<;>simp[ho] at hf hb
 ·unfold z5y at hb
  split at hb
  ·rename_i ho; simp[z57,z1t,ho]
  ·rename_i ho; simp[z57,z1t,ho]
  ·rename_i ho; simp[z57,z1t,ho]
  ·rename_i ho; simp[z57,z1t,ho]
  ·rename_i ho; simp[z57,z1t,ho]
  ·cases hb
theorem zvk {E:Env} (hE:EnvOk C.P C.Γ E) {cb:CB} {o:Oper} {p:Pend} (h:RelP C st gh a w (some p)) (hb:z5y st o=true) {st':St} {c:Nat} (hs:(step E cb st o).run some=some (st',c))
  {next:Act→World→Prop} {Q:Exit→Act→World→Prop} (hn:∀ gh' a' w',RelP C st' gh' a' w' (some p)→next a' w'):o.wp C.P a w next Q:=by
 obtain⟨w2,e,t,xs,L,g,og,n,cc,cur,v1,h0,h1,h2,h3,h4,h5,h6,h7⟩:=h
 obtain⟨b0,b1,b2⟩:=zm8 (E:=E) (cb:=cb) hb
 rw[z1w b0] at hs
 unfold z6u at hs
 rw[b1] at hs
 simp only[b2,Bool.false_and,Bool.false_eq_true,if_false] at hs
 rw[Tree.run_map] at hs
 obtain⟨⟨v,new⟩,q1,q2⟩:=Tree.run_some _ hs
 simp only[Option.some.injEq,Prod.mk.injEq] at q2
 obtain⟨rfl,rfl⟩:=q2
 obtain⟨rfl,x,hvx,hrun⟩:=y0j hE h0 hb q1
 have hgl:g∈gh.ft p.1:=zag (h1▸h0.objs p.1) h4
 refine ze1 (hrun w fun l cs hob=>?_) (hn gh _ w ?_)
 ·have hbk:gh.bk l∈gh.ft l:=by
   have:=h0.objs l
   rw[hob] at this
   rw[this.1]; simp
  have hne:gh.bk l≠g:=fun e=>by
   have:=h0.dj _ _ _ (e▸hbk) hgl
   rw[this,h1] at hob
   cases hob
  rw[h7,setRow_other w g _ _ hne]
 ·refine⟨w2,e,t,xs,L,g,og,n,cc,cur,v1,?_,by simpa using h1,h2,h3,h4,h5,h6,h7⟩
  have:=h0.put (d:=o.dst) hvx
  cases hd:o.dst with
  | none=>rw[hd] at this; simpa[z04,hd,St.put] using this
  | some d=>rw[hd] at this; simpa[z04,hd,St.put] using this
theorem y2o {E:Env} (hE:EnvOk C.P C.Γ E) {o:Oper} (h:Rel C st gh a w) {st':St} {p:Pend} (hs:(appT E st o).run some=some (st',p))
  {next:Act→World→Prop} {Q:Exit→Act→World→Prop} (hn:∀ gh' a' w',RelP C st' gh' a' w' (some p)→next a' w'):o.wp C.P a w next Q:=by
 unfold appT at hs
 split at hs
 case h_2=>cases hs
 rename_i cl ho
 split at hs
 case h_2=>cases hs
 rename_i s x tt uu hc hargs hTy
 split at hs
 case isFalse=>cases hs
 rename_i htu
 simp only[beq_iff_eq] at htu
 subst htu
 split at hs
 case h_2=>cases hs
 rename_i ei ti l i off m hti hsl hxl
 rw[Tree.run_map] at hs
 obtain⟨st2,hs1,hs2⟩:=Tree.run_some _ hs
 simp only[Option.some.injEq,Prod.mk.injEq] at hs2
 obtain⟨rfl,rfl⟩:=hs2
 unfold zwg at hti
 split at hti
 case h_2=>cases hti
 rename_i e0 _ _ _ htt
 split at hti
 case h_2=>cases hti
 rename_i ti0 he0
 simp only[Option.some.injEq,Prod.mk.injEq] at hti
 obtain⟨rfl,rfl⟩:=hti
 have hu:=((hE.tab _ _ htt).td).2.1
 have hT:=hE.tab _ _ he0
 obtain⟨inf,hi,hz,hsi,hbi⟩:=hT.i
 unfold zuh at hs1
 split at hs1
 ·cases hs1
 rename_i hge
 simp only[Bool.or_eq_true,not_or] at hge
 obtain⟨g1,g2,g3,g4,g5⟩:=hge
 have hro:=z5a g1
 have hfx:=z5a g2
 have hrom:=z5a g3
 have hfxm:=z5a g4
 split at hs1
 case h_2=>cases hs1
 rename_i e1 t xs L e2 u zs L2 hob hobm
 split at hs1
 case h_2=>cases hs1
 rename_i e' u' ys hla
 split at hs1
 case h_2=>cases hs1
 rename_i zs' hcast
 obtain⟨rfl,rfl⟩:=z20 hcast
 split at hs1
 case isFalse=>cases hs1
 rename_i hcond
 simp only[Bool.and_eq_true,beq_iff_eq] at hcond
 obtain⟨rfl,rfl,hsz,hpos,hby⟩:=hcond
 have hpos:0<u.size:=by simpa using hpos
 have hby:0<ti0.bytes:=by simpa using hby
 obtain⟨hbd,hs1⟩:=Tree.run_need hs1
 have hbd:(List.length ys+zs.length)*ti0.bytes≤140737488355328:=by simpa using hbd
 split at hs1
 case h_2=>cases hs1
 rename_i z hset
 split at hs1
 case h_2=>cases hs1
 rename_i st1 hmv
 simp only[Tree.run,Option.some.injEq] at hs1
 subst hs1
 obtain⟨hr1,hcl,hcM,hroM,hlM,hMn,k1,k2,k3,k4⟩:=h.moveSt hmv
 have hlm:l≠m:=fun e=>hlM (by simp[e])
 have hob1:=(k4 l e1 t xs true L).2 hob
 have hsv:=h.leaf s
 rw[hsl] at hsv
 obtain⟨e3,t3,xs3,L3,g,og,n3,c3,s3,z3,hob3,hi0,hi1,hlz,hhd,hcell⟩:=hsv.1
 rw[hob] at hob3
 cases hob3
 have hxv:=h.leaf x
 rw[hxl] at hxv
 have hxe:a.eval x=gh.hd m:=hxv.1.1
 have hrow:=h.objs l
 rw[hob] at hrow
 have hrowm:=h.objs m
 rw[hobm] at hrowm
 obtain⟨G,v,g',og',n',c',cur,hhd',hgh,hplt,hcell',hGF,hgF,hgG,hGn,hdeep,hfin⟩:=zs4 hrow (h.nd l) (z6w (d:=t.zero) hi0 hi1) hla
 rw[hhd] at hhd'
 cases hhd'
 have hvs:a.eval s=v:=by rw[hcell] at hcell'; simpa using hcell'
 obtain⟨v0,hve,hin⟩:=hdeep
 simp only[List.cons.injEq,and_true] at hve
 subst hve
 obtain⟨Gs,ds,hA,hGF2,hxv',h1⟩:=zkp hrowm (fun x F c hR=>(z12 hR).1) (fun x F c hR=>(z12 hR).2.2)
 have hzs:(zval ti0).cells.size=u.size:=by rw[zbt hT,List.size_toArray,zfg,hsz]
 have hGm:∀ b∈Gs.flatten,b∈gh.ft m:=fun b hb=>by rw[hGF2]; simp[hb]
 have hml:∀ b∈gh.ft m,b∉gh.ft l:=fun b hb hb'=>hlm (h.dj _ _ _ hb' hb)
 obtain⟨v',w1,Fs,hrun,hgr,hblk,hlt',hone',hFeq,hrowT⟩:=RowR.append (ty:=o.type) hu hi hz (hsi.trans hsz.symm) hzs hpos (by omega) hin (fun x F c hR=>Deep.len u hR) hGn hA (fun x F c hR=>(z12 hR).1) (by rw[←hxe] at hxv'; exact hxv') h1 (by rw[hbi]; exact hbd)
 have hvG:∀ b,v.ownBlock=some b→b∈G:=fun b hb=>by rw[hFeq,hb]; simp
 have hFsG:∀ b∈Fs.flatten,b∈G:=fun b hb=>by rw[hFeq]; simp[hb]
 have hgsz:g<w.heap.size:=h.lt _ _ hgF
 have hgw1:w1.heap[g]? = some (.cells cur e1 (0,0)):=(hgr.block g hgsz fun e=>hgG (hvG g e.symm)).trans hgh
 have hgs1:w.heap.size≤w1.heap.size:=hgr.size
 have hgs2:∀ cs,(w1.setRow g cs).heap.size=w1.heap.size:=fun cs=>setRow_size w1 g cs
 have hgs3:=hgs2 (z07 (og+i.toNat*t.size+off) [v'] cur.toList).toArray
 have hvb:∀ b,v'.ownBlock=some b→b∈G∨b=w.heap.size:=by
  intro b hb
  rcases hblk with hk | hk
  ·exact .inl (hvG b (hk▸hb))
  ·rw[hb] at hk; exact .inr (by simpa using hk)
 have hG':∀ b∈v'.ownBlock.toList++(Fs++Gs).flatten,b∈G∨b∈gh.ft m∨b=w.heap.size:=by
  intro b hb
  rcases List.mem_append.1 hb with hb | hb
  ·rcases hvb b (by simpa using hb) with h3 | h3
   ·exact .inl h3
   ·exact .inr (.inr h3)
  ·rw[List.flatten_append] at hb
   rcases List.mem_append.1 hb with hb | hb
   ·exact .inl (hFsG b hb)
   ·exact .inr (.inl (hGm b hb))
 have hgG':g∉v'.ownBlock.toList++(Fs++Gs).flatten:=by
  intro hb
  rcases hG' g hb with h3 | h3 | h3
  ·exact hgG h3
  ·exact hml g h3 hgF
  ·omega
 have hrow1:=hrowT (Deep u w1) (fun y Gy c hG hR=>Deep.congr u hR fun b hb=>hgr.block b (h.lt l b (hGF b (hG b hb).1)) (hG b hb).2)
  (fun y Gy c hG hR=>Deep.congr u (show Deep u w y Gy c from by simpa[z38] using hR) fun b hb=>hgr.block b (h.lt m b (hGm b (hG b hb))) fun e=>hml b (hGm b (hG b hb)) (hGF b (hvG b e.symm)))
 have hrow2:RowR (Deep u (w1.setRow g (z07 (og+i.toNat*t.size+off) [v'] cur.toList).toArray)) (w1.setRow g (z07 (og+i.toNat*t.size+off) [v'] cur.toList).toArray) _ u.size v' (v'.ownBlock.toList++(Fs++Gs).flatten) (ys++zs):=
  hrow1.congr (fun b hb=>setRow_other w1 g b _ fun e=>hgG' (e▸hb)) fun y Gy c hG hR=>Deep.congr u hR fun b hb=>setRow_other w1 g b _ fun e=>hgG' (e▸hG b hb)
 have hnd':(v'.ownBlock.toList++(Fs++Gs).flatten).Nodup:=by
  rw[List.flatten_append]
  have hGs:Gs.flatten.Nodup:=by have:=h.nd m; rw[hGF2] at this; exact (List.nodup_append.1 this).2.1
  have hn2:=hGn
  rw[hFeq] at hn2
  obtain⟨n1,n2,n3⟩:=List.nodup_append.1 hn2
  refine List.nodup_append.2 ⟨by cases v'.ownBlock<;>simp,List.nodup_append.2 ⟨n2,hGs,fun b hb b' hb' e=>hml b' (hGm b' hb') (e▸hGF b (hFsG b hb))⟩,fun b hb b' hb' e=>?_⟩
  subst e
  have hb0:v'.ownBlock=some b:=by simpa using hb
  rcases hblk with hk | hk
  ·rw[hb0] at hk
   rcases List.mem_append.1 hb' with h4 | h4
   ·exact n3 b (by simp[←hk]) b h4 rfl
   ·exact hml b (hGm b h4) (hGF b (hvG b hk.symm))
  ·rw[hb0] at hk
   simp only[Option.some.injEq] at hk
   rcases List.mem_append.1 hb' with h4 | h4
   ·have:=h.lt l b (hGF b (hFsG b h4)); omega
   ·have:=h.lt m b (hGm b h4); omega
 obtain⟨F',f1,f2,hrow'⟩:=hfin (w1.setRow g (z07 (og+i.toNat*t.size+off) [v'] cur.toList).toArray) (ys++zs) z v' (v'.ownBlock.toList++(Fs++Gs).flatten) hset (setRow_heap w1 g cur _ e1 _ hgw1)
  (fun b hb hbG hbg=>(setRow_other w1 g b _ hbg).trans (hgr.block b (h.lt l b hb) fun e=>hbG (hvG b e.symm))) ⟨_,rfl,hrow2⟩ hnd' (fun b hb hbl=>by
   rcases hG' b hb with h3 | h3 | h3
   ·exact h3
   ·exact absurd hbl (hml b h3)
   ·have:=h.lt l b hbl; omega)
 have hM:MoveOk C st1 gh w false l [m] (.row e1 t (xs.set i.toNat z) true L) (gh.hd l) F' (w1.setRow g (z07 (og+i.toNat*t.size+off) [v'] cur.toList).toArray):=by
  refine⟨hcl,hcM,by omega,fun k hk=>by have:=hroM k hk; omega,fun k hk=>by have:=hroM k hk; omega,hlM,z0o (by rw[hob1]; simp),?_,fun _=>⟨rfl,fun e t xs d L he=>?_,fun cs he=>by (rw[hob1] at he; cases he)⟩,fun hl=>by omega,fun b hb=>?_,f1⟩
  ·refine⟨hgr.os,hgr.tape,hgr.output,by rw[hgs3]; exact hgs1,fun k hk hn=>?_,fun _=>(show w.drawn≤w1.drawn from zkm _ hrun)⟩
   exact (setRow_other w1 g k _ fun e=>hn (e▸hgF)).trans (hgr.block k hk fun e=>hn (hGF k (hvG k e.symm)))
  ·rw[hob1] at he
   have he:=he.symm
   cases he
   exact⟨_,_,_,rfl,by simp⟩
  ·rcases f2 b hb with ⟨h3,_⟩ | h3
   ·exact .inl h3
   ·rcases hG' b h3 with h4 | h4 | h4
    ·exact .inl (hGF b h4)
    ·exact .inr (.inl ⟨m,by simp,h4⟩)
    ·refine .inr (.inr ⟨by omega,?_⟩)
     rw[hgs3]
     rcases List.mem_append.1 h3 with h5 | h5
     ·exact hlt' b (by simpa using h5)
     ·exfalso
      rw[List.flatten_append] at h5
      rcases List.mem_append.1 h5 with h5 | h5
      ·have:=h.lt l b (hGF b (hFsG b h5)); omega
      ·have:=h.lt m b (hGm b h5); omega
 have hrel:=hr1.move hM (by
  show RowR _ _ e1 t.size ((gh.mv l _ _ [m]).hd l) ((gh.mv l _ _ [m]).ft l) _
  rw[Gh.mv_hd,Gh.mv_ft]
  exact hrow')
 have hll:l<(z0n [m] st1.objs).length:=by rw[z1q,k3]; exact z0o (by rw[hob]; simp)
 have hob2:obj ((z0n [m] st1.objs).set l (.row e1 t (xs.set i.toNat z) true L)) l=.row e1 t (xs.set i.toNat z) true L:=z0a hll
 have hcw2:(w1.setRow g (z07 (og+i.toNat*t.size+off) [v'] cur.toList).toArray).cell? ⟨g,og+i.toNat*t.size+off,none⟩=some v':=by
  rw[cell_setRow_same w1 g _ cur _ e1 _ hgw1]
  rw[List.getElem?_toArray,z4l (by simp; omega),if_neg (by omega),if_pos (by simp),Nat.sub_self]
  rfl
 have hexec:(execOp a.eval o).run C.P w=.ok (.value v') w1:=by
  have hargs':cl.args=#[s,x]:=by rw[←hargs]
  have hT':cl.argTypes=#[tt,tt]:=by rw[←hTy]
  rw[←hvs] at hrun
  unfold execOp
  simp only[ho,resolve,invoke,builtin,hc,hargs',hT',Sem.run_bind,Sem.run_pure,Result.andThen_ok,List.map_toArray,List.map_cons,List.map_nil,hrun]
 refine ze1 hexec (hn (gh.mv l (gh.hd l) F' [m]) _ w1 ⟨_,e1,t,xs.set i.toNat z,L,g,og,n3,c3,cur,v',hrel.put (d:=o.dst) (v:=.one (.sub l i off)) (x:=v') ⟨?_,fun _=>hone'⟩,hob2,hi0,by simpa using hi1,by rw[Gh.mv_hd]; exact hhd,hgw1,hplt,rfl⟩)
 exact⟨e1,t,xs.set i.toNat z,L,g,og,n3,c3,s3,z3,hob2,hi0,by simpa using hi1,hlz,by rw[Gh.mv_hd]; exact hhd,hcw2⟩
theorem zrk {E:Env} (hE:EnvOk C.P C.Γ E) {o:Oper} {p:Pend} (h:RelP C st gh a w (some p)) {st':St} (hs:(zgv E st o p).run some=some st')
  {next:Act→World→Prop} {Q:Exit→Act→World→Prop} (hn:∀ gh' a' w',Rel C st' gh' a' w'→next a' w'):st'=st∧o.wp C.P a w next Q:=by
 obtain⟨w2,e,t,xs,L,g,og,n,cc,cur,v1,h0,h1,h2,h3,h4,h5,h6,h7⟩:=h
 unfold zgv at hs
 split at hs
 case h_2=>cases hs
 rename_i tt pa x ho
 split at hs
 case h_2=>cases hs
 rename_i ti l i off l2 i2 off2 hd hti hpl hxl
 split at hs
 case isFalse=>cases hs
 rename_i hcond
 simp only[Bool.and_eq_true,beq_iff_eq] at hcond
 obtain⟨rfl,rfl,rfl,rfl,hsz⟩:=hcond
 obtain⟨q1,hs1⟩:=Tree.run_need hs
 obtain⟨q2,hs2⟩:=Tree.run_need hs1
 clear hs hs1
 have q1:i=p.2.1:=by simpa using q1
 have q2:i2=p.2.1:=by simpa using q2
 simp only[Tree.run,Option.some.injEq] at hs2
 refine⟨hs2.symm,?_⟩
 subst hs2
 rw[q1] at hpl
 rw[q2] at hxl
 have hpv:=h0.leaf pa
 rw[hpl] at hpv
 obtain⟨e3,t3,xs3,d3,L3,g3,og3,n3,c3,ho3,_,_,hh3,hv3⟩:=hpv.1
 rw[h1] at ho3
 cases ho3
 rw[h4] at hh3
 cases hh3
 have hxv:=h0.ev x
 rw[hxl] at hxv
 obtain⟨⟨e4,t4,xs4,L4,g4,og4,n4,c4,s4,z4,ho4,_,_,_,hh4,hcell4⟩,hone⟩:=hxv
 rw[h1] at ho4
 cases ho4
 rw[h4] at hh4
 cases hh4
 have hcw2:w2.cell? ⟨g,og+p.2.1.toNat*t.size+p.2.2,none⟩=some v1:=by
  rw[h7,cell_setRow_same w g _ cur _ e _ h5]
  rw[List.getElem?_toArray,z4l (by simp; omega),if_neg (by omega),if_pos (by simp),Nat.sub_self]
  rfl
 rw[hcw2] at hcell4
 have hve:v1=a.eval x:=by simpa using hcell4
 have hone':=hone rfl
 have hT:=hE.tab _ _ hti
 have hrun:=z2i (w:=w) hT ho hv3 (us:=[a.eval x]) (z3u (b:=false) rfl fun _=>hone') (by simpa using hone') (by simp[hsz]) h5 (by simp only[List.length_cons,List.length_nil]; omega)
 rw[←hve,←h7] at hrun
 refine zmy hrun ?_
 rw[hd]
 exact hn gh _ w2 h0
end
end Go.AM
