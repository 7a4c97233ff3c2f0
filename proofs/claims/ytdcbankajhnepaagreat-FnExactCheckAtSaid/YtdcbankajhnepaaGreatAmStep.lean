/- One operation. No condition. -/
import Derived.Test.YtdcbankajhnepaaGreatAmFill
set_option linter.unusedVariables false
set_option linter.unusedSimpArgs false
namespace Go.AM
theorem Tree.run_pure1 {t:Tree SV} {p:SV×Objs} (h:(zsg t).run some=some p):∃ v,t.run some=some v∧p=(v,[]):=by
 unfold zsg at h
 rw[Tree.run_map] at h
 obtain⟨v,h1,h2⟩:=Tree.run_some t h
 exact⟨v,h1,by simpa using h2.symm⟩
theorem Tree.run_ret1 {v:SV} {p:SV×Objs} (h:(ret1 v).run some=some p):p=(v,[]):=by
 simpa[ret1,Tree.run] using h.symm
theorem zcj {z:Option Nat} {t:Ty} (h:¬(!szIs z t)=true):z=some t.size:=by
 unfold szIs at h
 cases z with
 | none=>simp at h
 | some n=>simp only[Bool.not_eq_true',Bool.not_eq_false,beq_iff_eq] at h; rw[h]
section
variable {C:Ctx} {st:St} {gh:Gh} {a:Act} {w:World}
theorem YldN.wp {o:Oper} {v:SV} {new:Objs} (hy:YldN C st gh a w o v new) {next:Act→World→Prop} {Q:Exit→Act→World→Prop}
  (hn:∀ x gh' w',Grow C st gh w gh' w'→Rel C { st with objs:=st.objs++new } gh' a w'→SVOk (LeafOk C w' gh' (st.objs++new)) v x→next (a.put o.dst x) w'):o.wp C.P a w next Q:=by
 obtain⟨x,gh',w',hr,hg,hrel,hv⟩:=hy
 exact ze1 hr (hn x gh' w' hg hrel hv)
theorem zso {E:Env} (hE:EnvOk C.P C.Γ E) {o:Oper} (h:Rel C st gh a w) (hfx:st.fx≤st.objs.length) {t e:TypeId} {n:Nat} {parts:Array (Nat×Operand)} (ho:o.op=.buildSlice t n parts) {tt ti:TI} (ht:tyOf E t=some tt) (hs:tt.td=.slice e) (he:tyOf E e=some ti)
  (hsz:n*ti.ty.size≤16777216) (hpos:0<ti.ty.size) (hn:n=parts.toList.length) {xs:List ti.ty.den} {L:List Nat} (hp:z2x ti.ty st.objs false (parts.toList.map fun p=>(p.1,st.ev p.2)) 0=some (xs,L)):
  YldN C st gh a w o (.one (.val (.slice e ti.ty) xs L)) []:=by
 obtain⟨ess,Fs,hl1,hl2,hk,hA⟩:=zjs h hpos parts.toList 0 hp
 obtain⟨cur,hcur,hrun⟩:=za6 (C:=C) (a:=a) (w:=w) hE ho ht hs he hsz hn hl1 hk
 simp only[Bool.false_eq_true,if_false] at hA
 have hlen:∀ c∈ess,c.length=ti.ty.size:=AllR.size (fun x F c hR=>Rep.len _ hR.2.rep) hA
 have hrel:=h.newRows (new:=[]) (G:=[]) (w':=w.alloc (.cells cur e)) hfx (Fr.alloc w _).any trivial (by simp) (by simp)
 have hU:∀ b,UU C.U0 (gh.ext st.objs.length []) L b→UU C.U0 gh L b:=by
  intro b hu
  rcases hu with hu | ⟨l,hl,hb'⟩
  ·exact .inl hu
  ·by_cases hlt:l<st.objs.length
   ·simp only[Gh.ext,hlt,if_true] at hb'
    exact .inr ⟨l,hl,hb'⟩
   ·simp[Gh.ext,hlt] at hb'
 have hnew:¬UU C.U0 (gh.ext st.objs.length []) L w.heap.size:=fun hu=>by
  rcases hU _ hu with hu | ⟨l,_,hu⟩
  ·have:=h.u0 _ (.inl hu); have:=h.fr.size; omega
  ·have:=h.lt _ _ hu; omega
 refine⟨_,_,_,hrun,⟨(Fr.alloc w _).any,Gh.ext_same _ _ _,Gh.ext_new (G:=[]) (by simp)⟩,hrel,?_,fun _=>rfl⟩
 show ImmS (.slice e ti.ty) xs _ _ _
 intro W' hW
 have hsize:(w.alloc (.cells cur e)).heap.size=w.heap.size+1:=by simp
 refine⟨some ⟨w.heap.size,0,none⟩,n,by rw[hl2,←hn],by rw[hl2,←hn]; exact Nat.le_refl _,.inr ⟨w.heap.size,0,rfl,fun i x hx=>?_⟩⟩
 obtain⟨F,es,_,hes,_,hR⟩:=hA.get hx
 refine⟨es,hR W' fun b hb hu=>?_,fun j u hj=>?_⟩
 ·rw[hW b (by omega) (fun hh=>hu (hU b hh))]
  exact heap_alloc_old w _ b hb
 ·have hW0:=hW w.heap.size (by omega) hnew
  rw[heap_alloc_new] at hW0
  have hjl:j<ti.ty.size:=by
   rw[←hlen es (List.mem_of_getElem? hes)]
   exact (List.getElem?_eq_some_iff.1 hj).1
  have hc:=z4f hlen hes hjl
  rw[←hcur,hj] at hc
  rw[Nat.zero_add,cell_of_row W' w.heap.size _ cur e (0,0) hW0]
  simpa using hc
theorem ztn {E:Env} (hE:EnvOk C.P C.Γ E) {cb:CB} (hcb:CBOk C.P C.Γ cb) {o:Oper} (h:Rel C st gh a w) (hfx:st.fx≤st.objs.length) (hhc:z1t E st.ev o=true→st.fx=0) {v:SV} {new:Objs} (hs:(z0l E cb st.ev st.objs o).run some=some (v,new))
  {next:Act→World→Prop} {Q:Exit→Act→World→Prop}
  (hn:∀ x gh' w',Grow C st gh w gh' w'→Rel C { st with objs:=st.objs++new } gh' a w'→SVOk (LeafOk C w' gh' (st.objs++new)) v x→next (a.put o.dst x) w'):o.wp C.P a w next Q:=by
 have fin:∀ {v'},(v,new)=(v',[])→Yld C st gh a w o v'→o.wp C.P a w next Q:=by
  intro v' he hy
  simp only[Prod.mk.injEq] at he
  obtain⟨rfl,rfl⟩:=he
  exact (YldN.of h hy).wp hn
 unfold z0l at hs
 split at hs
 ·
  rename_i x ho
  exact fin (Tree.run_ret1 hs) (zx3 h (.inl ho))
 ·
  rename_i x ho
  split at hs
  ·rename_i hx
   split at hs
   ·rename_i e _ _ _ ht
    split at hs
    ·rename_i ti he
     simp only[zfu,Tree.run,Option.some.injEq,Prod.mk.injEq] at hs
     obtain⟨rfl,rfl⟩:=hs
     exact (zx2 h hfx ho hx e ti.ty).wp hn
    ·cases hs
   ·cases hs
  ·exact fin (Tree.run_ret1 hs) (zx3 h (.inr ho))
 ·
  rename_i c x y ho
  split at hs
  ·rename_i b L hc
   have:=y1y h ho hc
   simp only[Tree.run] at hs
   cases b
   ·exact fin (Tree.run_ret1 hs) this
   ·exact fin (Tree.run_ret1 hs) this
  ·cases hs
 ·
  rename_i op t x y u ho
  obtain⟨v',h1,h2⟩:=Tree.run_pure1 hs
  exact fin h2 (y68 hE h ho h1)
 ·
  rename_i op t x ho
  obtain⟨v',h1,h2⟩:=Tree.run_pure1 hs
  exact fin h2 (y7w h ho h1)
 ·
  rename_i t x ho
  split at hs
  ·rename_i ti ht
   split at hs
   ·rename_i v' hv
    exact fin (Tree.run_ret1 hs) (zsk hE h ho ht hv)
   ·cases hs
  ·cases hs
 ·
  rename_i t x f ho
  split at hs
  ·rename_i fs _ _ _ ht
   split at hs
   ·rename_i fi hf
    split at hs
    ·cases hs
    ·rename_i hz
     obtain⟨k1,k2,k3,k4⟩:=zj7 hE h ho ht rfl hf (by simpa using hz)
     split at hs
     ·rename_i l off hx; exact fin (Tree.run_ret1 hs) (k1 _ _ hx)
     ·rename_i t xs i off L hx; exact fin (Tree.run_ret1 hs) (k2 _ _ _ _ _ hx)
     ·rename_i l i off hx; exact fin (Tree.run_ret1 hs) (k3 _ _ _ hx)
     ·rename_i l i off j o2 hx; exact fin (Tree.run_ret1 hs) (k4 _ _ _ _ _ hx)
     ·cases hs
   ·cases hs
  ·cases hs
 ·
  rename_i T x i ho
  split at hs
  ·rename_i k n L' hi
   split at hs
   ·rename_i e t xs L hx
    split at hs
    ·cases hs
    rename_i hz
    obtain⟨h0,hs⟩:=Tree.run_need hs
    obtain⟨h1,hs⟩:=Tree.run_need hs
    have hxl:=h.leaf x
    rw[hx] at hxl
    exact fin (Tree.run_ret1 hs) (zsm hE h ho hi hxl.1 (zcj hz) (by simpa using h0) (by simpa using h1))
   ·rename_i l hx
    split at hs
    ·rename_i e t xs d L hob
     split at hs
     ·cases hs
     rename_i hz
     obtain⟨h0,hs⟩:=Tree.run_need hs
     obtain⟨h1,hs⟩:=Tree.run_need hs
     exact fin (Tree.run_ret1 hs) (zl2 hE h ho hi hx hob (zcj hz) (by simpa using h0) (by simpa using h1))
    ·cases hs
   ·rename_i l j off hx
    split at hs
    ·rename_i t ht
     split at hs
     ·rename_i xs L hd
      split at hs
      ·cases hs
      rename_i hz
      obtain⟨h0,hs⟩:=Tree.run_need hs
      obtain⟨h1,hs⟩:=Tree.run_need hs
      exact fin (Tree.run_ret1 hs) (zsl hE h ho hi hx hd (zcj hz) (by simpa using h0) (by simpa using h1))
     ·cases hs
    ·cases hs
   ·rename_i l hx
    split at hs
    ·rename_i e t ys hob
     split at hs
     ·cases hs
     rename_i hz
     obtain⟨h0,hs⟩:=Tree.run_need hs
     obtain⟨h1,hs⟩:=Tree.run_need hs
     exact fin (Tree.run_ret1 hs) (zsn hE h ho hi hx hob (zcj hz) (by simpa using h0) (by simpa using h1))
    ·cases hs
   ·cases hs
  ·cases hs
 ·
  rename_i T x i ho
  split at hs
  ·rename_i s L k n L' hx hi
   split at hs
   ·cases hs
   rename_i hz
   obtain⟨h0,hs⟩:=Tree.run_need hs
   obtain⟨h1,hs⟩:=Tree.run_need hs
   exact fin (Tree.run_ret1 hs) (zzo hE h ho hx hi (by simpa using hz) (by simpa using h0) (by simpa using h1))
  ·cases hs
 ·
  rename_i t x f ho
  split at hs
  ·rename_i fs _ _ _ cs ht hx
   split at hs
   ·rename_i fi hf
    split at hs
    ·rename_i ti hti
     split at hs
     ·rename_i hc
      simp only[Bool.and_eq_true,beq_iff_eq] at hc
      refine fin (Tree.run_ret1 hs) (zzq hE h ho ht rfl hf hti hx hc.1 hc.2 ?_)
      cases hag:ti.agg with
      | true=>exact .inl rfl
      | false=>
       right
       rw[hc.2]
       have htd:=(hE.tab _ _ hti).td
       split at htd
       ·obtain⟨_,h2⟩:=htd
        split at h2<;>first | exact h2.elim | simp[*,Ty.size]
       ·obtain⟨_,_,s,hs⟩:=htd; simp[hs,Ty.size]
       ·rw[htd.1] at hag; cases hag
     ·cases hs
    ·cases hs
   ·cases hs
  ·cases hs
 ·
  rename_i x i ho
  split at hs
  ·rename_i vs hx
   split at hs
   ·rename_i b cs hi
    by_cases hone:cs.length=1∨b=true
    ·exact fin (Tree.run_ret1 hs) (zuw h ho hx hi hone)
    ·have hb:b=false:=by cases b<;>simp_all
     subst hb
     obtain⟨us,hv,ht⟩:SVOk (LeafOk C w gh st.objs) (.tup vs) (a.eval x):=by rw[←hx]; exact h.ev x
     exfalso
     have:∀ (vs:List (Bool×List Leaf)) (us:List Value) (i:Nat),zjm (LeafOk C w gh st.objs) vs us→vs[i]? = some (false,cs)→cs.length=1:=by
      intro vs
      induction vs with
      | nil=>intro us i _ h; simp at h
      | cons p ps ih=>
       intro us i ht hi
       cases us with
       | nil=>exact ht.elim
       | cons u us=>
        obtain⟨⟨zs,h1,h2⟩,h3⟩:=ht
        cases i with
        | zero=>
         simp at hi
         subst hi
         obtain rfl:zs=[u]:=h1
         exact h2.len
        | succ i=>exact ih us i h3 (by simpa using hi)
     exact hone (.inl (this vs us i ht hi))
   ·cases hs
  ·cases hs
 ·
  rename_i t parts ho
  split at hs
  ·rename_i fs _ ty _ ht
   split at hs
   ·rename_i cs hf
    exact fin (Tree.run_ret1 hs) (zzu hE h ho ht rfl hf)
   ·cases hs
  ·cases hs
 ·
  rename_i t n parts ho
  split at hs
  ·rename_i e _ _ _ ht
   split at hs
   ·rename_i ti he
    split at hs
    ·rename_i hc
     simp only[Bool.and_eq_true,beq_iff_eq,decide_eq_true_eq] at hc
     obtain⟨⟨hsz,hpos⟩,hlen⟩:=hc
     have hpos:0<ti.ty.size:=by simpa using hpos
     split at hs
     ·split at hs
      ·rename_i xs L hp
       simp only[ret1,Tree.run,Option.some.injEq,Prod.mk.injEq] at hs
       obtain⟨rfl,rfl⟩:=hs
       exact (zso hE h hfx ho ht rfl he hsz hpos hlen hp).wp hn
      ·cases hs
     split at hs
     ·rename_i xs hp
      simp only[zfu,Tree.run,Option.some.injEq,Prod.mk.injEq] at hs
      obtain⟨rfl,rfl⟩:=hs
      exact (zhk hE h hfx ho ht rfl he hsz hpos hlen hp (fun _=>rfl)).wp hn
     ·split at hs
      ·rename_i xs L hp
       simp only[zfu,Tree.run,Option.some.injEq,Prod.mk.injEq] at hs
       obtain⟨rfl,rfl⟩:=hs
       exact (zhk hE h hfx ho ht rfl he hsz hpos hlen hp (fun hd=>by cases hd)).wp hn
      ·cases hs
    ·cases hs
   ·cases hs
  ·cases hs
 ·
  rename_i t n c ho
  split at hs
  ·rename_i e _ _ _ x L y M ht hnn hcc
   split at hs
   ·rename_i ti he
    split at hs
    ·rename_i hc
     simp only[Bool.and_eq_true] at hc
     obtain⟨h0,hs⟩:=Tree.run_need hs
     obtain⟨h1,hs⟩:=Tree.run_need hs
     obtain⟨h2,hs⟩:=Tree.run_need hs
     simp only[zfu,Tree.run,Option.some.injEq,Prod.mk.injEq] at hs
     obtain⟨rfl,rfl⟩:=hs
     have h1':x=y:=by simpa using h1
     subst h1'
     exact (y1z hE h hfx ho ht rfl he hnn hcc (by simpa using hc.1) (by simpa using hc.2) (by simpa using h0) (by simpa using h2)).wp hn
    ·cases hs
   ·cases hs
  ·cases hs
 ·
  rename_i t ho
  split at hs
  ·rename_i ti ht
   simp only[Tree.run,Option.some.injEq,Prod.mk.injEq] at hs
   obtain⟨rfl,rfl⟩:=hs
   exact (zzv hE h hfx ho ht).wp hn
  ·cases hs
 ·
  rename_i t x ho
  split at hs
  ·rename_i ti b ls ht hl
   split at hs
   ·rename_i hc
    simp only[Bool.and_eq_true] at hc
    simp only[Tree.run,Option.some.injEq,Prod.mk.injEq] at hs
    obtain⟨rfl,rfl⟩:=hs
    exact (y67 h hfx ho hl hc.2).wp hn
   ·cases hs
  ·cases hs
 ·
  rename_i f first caps ho
  split at hs
  ·rename_i hf
   split at hs
   ·rename_i cs hc
    exact fin (Tree.run_ret1 hs) (zsj h ho (by simpa using hf) hc)
   ·cases hs
  ·cases hs
 ·
  rename_i x ho
  split at hs
  ·rename_i l off hx; exact fin (Tree.run_ret1 hs) (zd1 h ho hx trivial)
  ·rename_i l i off hx; exact fin (Tree.run_ret1 hs) (zd1 h ho hx trivial)
  ·rename_i t xs i off L hx; exact fin (Tree.run_ret1 hs) (zd1 h ho hx trivial)
  ·rename_i l i off j o2 hx; exact fin (Tree.run_ret1 hs) (zd1 h ho hx trivial)
  ·cases hs
 ·
  rename_i T x lo hi ho
  obtain⟨v',h1,h2⟩:=Tree.run_pure1 hs
  exact fin h2 (zx1 hE h ho h1)
 ·
  rename_i src dst x ho
  split at hs
  ·rename_i hs1 hd1 hx
   exact fin (Tree.run_ret1 hs) (zuy hE h ho hs1 rfl rfl hd1 rfl rfl hx)
  ·rename_i hs1 hd1
   split at hs
   ·rename_i he1
    split at hs
    ·split at hs
     ·rename_i hd
      exact fin (Tree.run_ret1 hs) (zux hE h ho hs1 rfl hd1 rfl rfl he1 rfl rfl hd)
     ·cases hs
    ·cases hs
   ·cases hs
  ·cases hs
 ·
  rename_i c ho
  split at hs
  ·rename_i hc
   split at hs
   ·rename_i x T ha hT
    split at hs
    ·rename_i n hl
     exact fin (Tree.run_ret1 hs) (y66 hE h ho hc ha hT hl)
    ·cases hs
   ·cases hs
  ·rename_i hc
   split at hs
   ·rename_i k m L j n M he
    split at hs
    ·rename_i hk
     simp only[znd,decide_eq_true_eq] at hk
     subst hk
     match hargs:c.args.toList,he with
     | [x,y],he=>
      simp only[hargs,List.map_cons,List.map_nil,List.cons.injEq,and_true] at he
      exact fin (Tree.run_ret1 hs) ((y0u h ho hargs he.1 he.2).1 hc)
     | [],he=>simp[hargs] at he
     | [x],he=>simp[hargs] at he
     | x::y::z::r,he=>simp[hargs] at he
    ·cases hs
   ·cases hs
  ·rename_i hc
   split at hs
   ·rename_i k m L j n M he
    split at hs
    ·rename_i hk
     simp only[znd,decide_eq_true_eq] at hk
     subst hk
     match hargs:c.args.toList,he with
     | [x,y],he=>
      simp only[hargs,List.map_cons,List.map_nil,List.cons.injEq,and_true] at he
      exact fin (Tree.run_ret1 hs) ((y0u h ho hargs he.1 he.2).2 hc)
     | [],he=>simp[hargs] at he
     | [x],he=>simp[hargs] at he
     | x::y::z::r,he=>simp[hargs] at he
    ·cases hs
   ·cases hs
  ·rename_i f hc
   split at hs
   ·rename_i g hf
    split at hs
    ·rename_i s hsg
     split at hs
     ·cases hs
     ·rename_i hm
      refine zzs hE hcb h hfx ho hc hf hsg (by simpa using hm) (fun hclo=>hhc ?_) hs hn
      simp only[z1t,ho,hc,hf,hsg]
      exact hclo
    ·cases hs
   ·rename_i gs r p hf
    refine zuz h (hhc ?_) ho hc hf hs hn
    simp only[z1t,ho,hc,hf]
   ·cases hs
  ·cases hs
 ·cases hs
theorem zzb {E:Env} (hE:EnvOk C.P C.Γ E) {cb:CB} (hcb:CBOk C.P C.Γ cb) {o:Oper} (h:Rel C st gh a w) (hfx:st.fx≤st.objs.length) (hro:st.ro≤st.objs.length) {t:Tree St} (ht:z57 E cb st o=some t) {st':St} (hs:t.run some=some st')
  {next:Act→World→Prop} {Q:Exit→Act→World→Prop} (hn:∀ gh' a' w',Rel C st' gh' a' w'→next a' w'):o.wp C.P a w next Q:=by
 unfold z57 at ht
 split at ht
 ·
  rename_i tt p x ho
  simp only[Option.some.injEq] at ht
  subst ht
  split at hs
  ·rename_i ti hd hti
   cases hst:z8f st ti (st.ev p).leaf (st.ev x) with
   | none=>rw[hst] at hs; cases hs
   | some st1=>
    rw[hst] at hs
    simp only[Tree.ofOpt,Tree.run,Option.some.injEq] at hs
    subst hs
    obtain⟨gh',w',hr,hrel⟩:=zzm hE h ho hti hst
    refine zmy hr (hn gh' _ w' ?_)
    rw[hd]; exact hrel
  ·cases hs
 ·
  rename_i t n parts ho
  split at ht
  ·rename_i e _ _ _ htt
   split at ht
   ·rename_i ti he
    split at ht
    ·rename_i xs m M hp
     split at ht
     ·cases ht
     simp only[Option.some.injEq] at ht
     subst ht
     split at hs
     ·rename_i hc
      simp only[Bool.and_eq_true,beq_iff_eq,decide_eq_true_eq,Bool.not_eq_true'] at hc
      obtain⟨⟨⟨⟨hsz,hpos⟩,hlen⟩,_⟩,_⟩:=hc
      split at hs
      ·rename_i st1 hmv
       simp only[Tree.run,Option.some.injEq] at hs
       subst hs
       obtain⟨x,gh',w',hr,hrel⟩:=zmp hE h hfx hro ho htt rfl he hsz (by simpa using hpos) hlen hp hmv
       exact ze1 hr (hn gh' _ w' hrel)
      ·cases hs
     ·cases hs
    ·cases ht
   ·cases ht
  ·cases ht
 ·
  rename_i c ho
  split at ht
  ·
   rename_i hc
   simp only[Option.some.injEq] at ht
   subst ht
   split at hs
   ·rename_i s x t u hargs hT
    split at hs
    ·rename_i htu
     simp only[beq_iff_eq] at htu
     subst htu
     split at hs
     ·rename_i e _ _ _ htt
      split at hs
      ·rename_i ti he
       have hu:=((hE.tab _ _ htt).td).2.1
       have hTe:=hE.tab _ _ he
       have hargs':c.args=#[s,x]:=by rw[←hargs]
       have hT':c.argTypes=#[t,t]:=by rw[←hT]
       have hexec:∀ {v:Value} {w':World},(Builtin.append_ #[t,t] o.type #[a.eval s,a.eval x]).run C.P w=.ok v w'→(execOp a.eval o).run C.P w=.ok (.value v) w':=by
        intro v w' hr
        unfold execOp
        simp only[ho,resolve,invoke,builtin,hc,hargs',hT',Sem.run_bind,Sem.run_pure,Result.andThen_ok,List.map_toArray,List.map_cons,List.map_nil,hr]
       split at hs
       ·rename_i l hl
        obtain⟨v',gh',w',hr,hrel⟩:=zl3 (ty:=o.type) hTe hu h (h.leaf x) hs
        have hsv:=h.leaf s
        rw[hl] at hsv
        rw[←hsv.1.1] at hr
        exact ze1 (hexec hr) (hn gh' _ w' hrel)
       ·rename_i hl
        have hsv:=h.leaf s
        rw[hl] at hsv
        have hsv:a.eval s=.slice none 0 0:=hsv.1
        have h0:Rel C { st with objs:=st.objs++[AObj.row e ti.ty [] true []] } (gh.add st.objs.length (.slice none 0 0) 0 []) a w:=by
         refine h.new1 (Fr.refl _ _) hfx (by simp) (by simp) ⟨[],[],trivial,by simp[Gh.add,Value.ownBlock],?_⟩
         simp only[Gh.add,if_true]
         exact OwnR.nil w e ti.ty.size
        obtain⟨v',gh',w',hr,hrel⟩:=zl3 (ty:=o.type) hTe hu h0 (h0.leaf x) hs
        rw[show (gh.add st.objs.length (.slice none 0 0) 0 []).hd st.objs.length=a.eval s by simp[Gh.add,hsv]] at hr
        exact ze1 (hexec hr) (hn gh' _ w' hrel)
       ·cases hs
      ·cases hs
     ·cases hs
    ·cases hs
   ·cases hs
  ·
   rename_i hc
   simp only[Option.some.injEq] at ht
   subst ht
   split at hs
   ·rename_i y x t u hargs hT
    split at hs
    ·rename_i e _ _ _ htt
     split at hs
     ·rename_i ti he
      split at hs
      ·rename_i hsz
       simp only[beq_iff_eq] at hsz
       split at hs
       ·rename_i l lo hi hd
        have hu:=((hE.tab _ _ htt).td).2.1
        have hargs':c.args=#[y,x]:=by rw[←hargs]
        have hT':c.argTypes=#[t,u]:=by rw[←hT]
        obtain⟨v',gh',w',hr,hrel⟩:=zx5 (uu:=u) (ty:=o.type) (hE.tab _ _ he) hsz hu h (h.leaf y) hd (h.leaf x) hs
        refine ze1 ?_ (hn gh' _ w' hrel)
        unfold execOp
        simp only[ho,resolve,invoke,builtin,hc,hargs',hT',Sem.run_bind,Sem.run_pure,Result.andThen_ok,List.map_toArray,List.map_cons,List.map_nil,hr]
       ·cases hs
      ·cases hs
     ·cases hs
    ·cases hs
   ·cases hs
  ·
   rename_i f hc
   split at ht
   ·rename_i g hf
    split at ht
    ·rename_i ri hri
     simp only[Option.some.injEq] at ht
     subst ht
     exact y1x hE hcb h ho hc hf hri hs hn
    ·split at ht
     ·rename_i s hsg
      split at ht
      ·simp only[Option.some.injEq] at ht
       subst ht
       exact zzt hE h hfx ho hc hf hsg hs hn
      ·cases ht
     ·cases ht
   ·cases ht
  ·cases ht
 ·
  rename_i T x lo hi ho
  split at ht
  ·rename_i l hx _
   simp only[Option.some.injEq] at ht
   subst ht
   obtain⟨v,gh',hr,hrel⟩:=y20 hE h ho hx hs
   exact ze1 hr (hn gh' _ w hrel)
  ·cases ht
 ·
  rename_i T x lo hi mx ho
  split at ht
  ·rename_i l hx _
   simp only[Option.some.injEq] at ht
   subst ht
   obtain⟨v,gh',hr,hrel⟩:=zzr hE h ho hx hs
   exact ze1 hr (hn gh' _ w hrel)
  ·cases ht
 ·cases ht
theorem zzc {E:Env} (hE:EnvOk C.P C.Γ E) {cb:CB} (hcb:CBOk C.P C.Γ cb) {o:Oper} (h:Rel C st gh a w) (hfx:st.fx≤st.objs.length) (hro:st.ro≤st.objs.length) {st':St} {c:Nat} (hs:(z6u E cb st o).run some=some (st',c))
  {next:Act→World→Prop} {Q:Exit→Act→World→Prop} (hn:∀ gh' a' w',Rel C st' gh' a' w'→next a' w'):o.wp C.P a w next Q:=by
 unfold z6u at hs
 split at hs
 ·rename_i t ht
  rw[Tree.run_map] at hs
  obtain⟨st1,h1,h2⟩:=Tree.run_some t hs
  simp only[Option.some.injEq,Prod.mk.injEq] at h2
  obtain⟨rfl,rfl⟩:=h2
  exact zzb hE hcb h hfx hro ht h1 hn
 ·split at hs
  ·cases hs
  ·rename_i hh
   rw[Tree.run_map] at hs
   obtain⟨⟨v,new⟩,h1,h2⟩:=Tree.run_some _ hs
   simp only[Option.some.injEq,Prod.mk.injEq] at h2
   obtain⟨rfl,rfl⟩:=h2
   refine ztn hE hcb h hfx (fun hc=>?_) h1 fun x gh' w' _ hrel hv=>hn gh' _ w' (hrel.put hv)
   rw[hc] at hh
   cases hb:Nat.beq st.fx 0 with
   | true=>exact Nat.eq_of_beq_eq_true hb
   | false=>rw[hb] at hh; exact absurd rfl hh
theorem Tree.run_andThen {α β ρ:Type}:∀ (t:Tree α) {K:α→Tree β} {L:β→Option ρ} {y:ρ},(t.andThen K).run L=some y→∃ x,t.run some=some x∧(K x).run L=some y
 | .ret a,K,L,y,h=>⟨a,rfl,h⟩
 | .fail,K,L,y,h=>by cases h
 | .ite b t e,K,L,y,h=>by
  simp only[Tree.andThen,Tree.run] at h ⊢
  cases b
  ·exact Tree.run_andThen e h
  ·exact Tree.run_andThen t h
 | .bind m k,K,L,y,h=>by
  simp only[Tree.andThen,Tree.run] at h ⊢
  cases m with
  | none=>cases h
  | some x=>exact Tree.run_andThen (k x) h
theorem Tree.andThen_run {α β ρ:Type}:∀ (t:Tree α) {K:α→Tree β} {L:β→Option ρ} {x:α},t.run some=some x→(t.andThen K).run L=(K x).run L
 | .ret a,K,L,x,h=>by simp only[Tree.run,Option.some.injEq] at h; subst h; rfl
 | .fail,K,L,x,h=>by cases h
 | .ite b t e,K,L,x,h=>by
  simp only[Tree.andThen,Tree.run] at h ⊢
  cases b
  ·exact Tree.andThen_run e h
  ·exact Tree.andThen_run t h
 | .bind m k,K,L,x,h=>by
  simp only[Tree.andThen,Tree.run] at h ⊢
  cases m with
  | none=>cases h
  | some y=>exact Tree.andThen_run (k y) h
def z0m (ob:AObj) (n:Nat):SV:=match ob with
 | .box _=>.one (.ptr n 0)
 | _=>.one (.own n)
theorem zi6:∀ t:Ty,∀ c∈z1n t,c.code=[]
 | .pair a b,c,hc=>by
  simp only[z1n,List.mem_append] at hc
  exact hc.elim (zi6 a c) (zi6 b c)
 | .unit,c,hc=>by cases hc
 | .int _,c,hc=>by simp only[z1n,List.mem_singleton] at hc; subst hc; rfl
 | .bool,c,hc=>by simp only[z1n,List.mem_singleton] at hc; subst hc; rfl
 | .str,c,hc=>by simp only[z1n,List.mem_singleton] at hc; subst hc; rfl
 | .slice _ _,c,hc=>by simp only[z1n,List.mem_singleton] at hc; subst hc; rfl
theorem z5u {E:Env} {o:Oper} {l:Nat} (h:z1g E o=some l):∃ d,o.dst=some d∧z4i E.slots d=some l∧z41 E o=true:=by
 unfold z1g at h
 split at h
 case h_2=>cases h
 rename_i d hd
 split at h
 case h_2=>cases h
 rename_i k hk
 split at h
 case isFalse=>cases h
 rename_i hf
 exact⟨d,hd,hk.trans h,hf⟩
theorem zvd {E:Env} {o:Oper} (hf:z41 E o=true):o.guard=none:=by
 unfold z41 at hf
 simp only[Bool.and_eq_true] at hf
 cases hg:o.guard with
 | none=>rfl
 | some _=>rw[hg] at hf; simp at hf
theorem zvc {E:Env} {ρ:Operand→SV} (hρ:∀ g,ρ (.func g)=.one (.fn g [])) {o:Oper} (hf:z41 E o=true):z1t E ρ o=false:=by
 unfold z41 at hf
 simp only[Bool.and_eq_true] at hf
 obtain⟨_,_,hf⟩:=hf
 unfold z1t
 split at hf<;>rename_i ho<;>simp only[ho]<;>try rfl
 ·split at hf
  ·rename_i g hc
   simp only[Bool.and_eq_true] at hf
   have e:(ρ (.func g)).leaf=.fn g []:=by rw[hρ]; rfl
   simp only[hc,e]
   obtain⟨_,hf⟩:=hf
   split at hf
   ·rename_i s _ hs
    simp only[Bool.and_eq_true,List.isEmpty_iff] at hf
    simp[hs,hf.1]
   ·cases hf
  ·cases hf
theorem ziv {E:Env} {cb:CB} {ρ:Operand→SV} (hρ:∀ g,ρ (.func g)=.one (.fn g [])) {os:Objs} {o:Oper} {v:SV} {new:Objs} (hf:z41 E o=true) (hs:(z0l E cb ρ os o).run some=some (v,new)):
  ∃ ob,zg9 ob∧new=[ob]∧v=z0m ob os.length∧∀ os',(z0l E cb ρ os' o).run some=some (z0m ob os'.length,[ob]):=by
 unfold z41 at hf
 simp only[Bool.and_eq_true,Bool.not_eq_true'] at hf
 obtain⟨_,himm,hf⟩:=hf
 split at hf
 ·
  rename_i t ho
  simp only[z0l,ho] at hs ⊢
  split at hs
  case h_2=>cases hs
  rename_i ti _
  simp only[Tree.run,Option.some.injEq,Prod.mk.injEq] at hs
  exact⟨_,.inr ⟨_,rfl,zi6 ti.ty⟩,hs.2.symm,hs.1.symm,fun os'=>rfl⟩
 ·
  rename_i t n parts ho
  simp only[List.isEmpty_iff] at hf
  simp only[z0l,ho,hf,himm] at hs ⊢
  split at hs
  case h_2=>cases hs
  split at hs
  case h_2=>cases hs
  rename_i ti _
  split at hs
  case isFalse=>cases hs
  rename_i hc
  simp only[Bool.false_and,List.map_nil,z2x,zfu,Tree.run,Option.some.injEq,Prod.mk.injEq] at hs
  refine⟨_,.inl ⟨_,_,_,rfl⟩,hs.2.symm,hs.1.symm,fun os'=>?_⟩
  rw[if_pos hc]
  rfl
 ·
  rename_i t n c ho
  simp only[z0l,ho] at hs ⊢
  split at hs
  case h_2=>cases hs
  split at hs
  case h_2=>cases hs
  split at hs
  case isFalse=>cases hs
  rename_i hc
  obtain⟨g1,hs⟩:=Tree.run_need hs
  obtain⟨g2,hs⟩:=Tree.run_need hs
  obtain⟨g3,hs⟩:=Tree.run_need hs
  simp only[zfu,Tree.run,Option.some.injEq,Prod.mk.injEq] at hs
  refine⟨_,.inl ⟨_,_,_,rfl⟩,hs.2.symm,hs.1.symm,fun os'=>?_⟩
  rw[if_pos hc,g1,g2,g3]
  rfl
 ·
  rename_i c ho
  split at hf
  case h_2=>cases hf
  rename_i g hcal
  simp only[Bool.and_eq_true,List.isEmpty_iff] at hf
  obtain⟨hargs,hf⟩:=hf
  split at hf
  case h_2=>cases hf
  rename_i s _ hsg
  simp only[Bool.and_eq_true,List.isEmpty_iff] at hf
  obtain⟨hins,hf⟩:=hf
  split at hf
  case h_2=>cases hf
  rename_i e t houts
  have he:(ρ (.func g)).leaf=.fn g []:=by rw[hρ]; rfl
  obtain⟨ins,outs,fn,q⟩:=s
  simp only at hins houts
  subst hins houts
  simp only[z0l,ho,hcal,he,hsg,hargs,List.map_nil,List.any_nil,Bool.false_eq_true,if_false,himm,ztf,z05,Tree.run] at hs ⊢
  cases hy:fn () with
  | none=>rw[hy] at hs; cases hs
  | some y=>
   rw[hy] at hs
   simp only[Option.bind_some,Tree.run,Option.some.injEq,Prod.mk.injEq] at hs ⊢
   exact⟨_,.inl ⟨_,_,_,rfl⟩,hs.2.symm,hs.1.symm,fun os'=>⟨rfl,rfl⟩⟩
 ·cases hf
theorem zjy {E:Env} {cb:CB} {o:Oper} {l:Nat} (hf:z41 E o=true) {st':St} (hr:(zrf E cb st o l).run some=some st'):∃ ob,zg9 ob∧obj st.objs l=.dead∧(Nat.blt l st.objs.length&&(!Nat.blt l st.ro&&!Nat.blt l st.fx))=true∧(∀ z∈o.op.operands.toList,(st.ev z).code=[])∧st'=({ st with objs:=st.objs.set l ob }:St).put o.dst (z0m ob l)∧(z0l E cb st.ev (List.replicate l .dead) o).run some=some (z0m ob l,[ob]):=by
 unfold zrf at hr
 split at hr
 case h_2=>cases hr
 rename_i hob
 split at hr
 case isFalse=>cases hr
 rename_i hc
 rw[Bool.and_eq_true,List.all_eq_true] at hc
 obtain⟨hc,hfr⟩:=hc
 obtain⟨⟨v,new⟩,h1,h2⟩:=Tree.run_andThen _ hr
 obtain⟨ob,hso,rfl,rfl,hall⟩:=ziv (fun g=>rfl) hf h1
 rw[List.length_replicate] at h1 h2
 refine⟨ob,hso,hob,hc,fun z hz=>by simpa using hfr z hz,?_,h1⟩
 rcases hso with ⟨e,t,xs,rfl⟩ | ⟨cs,rfl,hcs⟩
 ·simp only[z0m,Tree.run,Option.some.injEq] at h2
  exact h2.symm
 ·simp only[z0m] at h2
  split at h2
  ·simp only[Tree.run,Option.some.injEq] at h2
   exact h2.symm
  ·cases h2
theorem zre {E:Env} {cb:CB} {o:Oper} {l:Nat} {s:St} {os:Objs} {ob:AObj} (hso:zg9 ob) (hob:obj s.objs l=.dead) (hc:(Nat.blt l s.objs.length&&(!Nat.blt l s.ro&&!Nat.blt l s.fx))=true) (hfr:∀ z∈o.op.operands.toList,(s.ev z).code=[]) (h1:(z0l E cb s.ev (List.replicate l .dead) o).run some=some (z0m ob l,[ob])) (hos:s.objs=os):
  (zrf E cb s o l).run some=some (({ s with objs:=os.set l ob }:St).put o.dst (z0m ob l)):=by
 subst hos
 unfold zrf
 rw[hob]
 have hfr2:(o.op.operands.toList.all fun z=>(s.ev z).code.isEmpty)=true:=List.all_eq_true.2 fun z hz=>by rw[hfr z hz]; rfl
 simp only[hc,hfr2,Bool.and_true,if_true]
 rw[Tree.andThen_run _ h1]
 rcases hso with ⟨e,t,xs,rfl⟩ | ⟨cs,rfl,hcs⟩
 ·rfl
 ·have:(cs.all fun c=>c.code.isEmpty)=true:=List.all_eq_true.2 fun c hc=>by rw[hcs c hc]; rfl
  simp only[z0m,this,if_true]
  rfl
theorem zzp {E:Env} (hE:EnvOk C.P C.Γ E) {cb:CB} (hcb:CBOk C.P C.Γ cb) {o:Oper} (h:Rel C st gh a w) (hfx:st.fx≤st.objs.length) {l:Nat} (hsl:z1g E o=some l) {st':St} (hr:(zrf E cb st o l).run some=some st')
  {next:Act→World→Prop} {Q:Exit→Act→World→Prop} (hn:∀ gh' a' w',Rel C st' gh' a' w'→next a' w'):o.wp C.P a w next Q:=by
 obtain⟨d,hd,_,hf⟩:=z5u hsl
 obtain⟨ob,hso,hob,hc,_,rfl,h1⟩:=zjy hf hr
 obtain⟨_,_,_,_,hall⟩:=ziv (fun g=>rfl) hf h1
 simp only[Bool.and_eq_true,Bool.not_eq_true'] at hc
 have hl:l<st.objs.length:=by simpa using hc.1
 have hlo:st.ro≤l:=Nat.not_lt.1 fun hlt=>by have h2:Nat.blt l st.ro=true:=(by simpa using hlt); rw[hc.2.1] at h2; cases h2
 have hlf:st.fx≤l:=Nat.not_lt.1 fun hlt=>by have h2:Nat.blt l st.fx=true:=(by simpa using hlt); rw[hc.2.2] at h2; cases h2
 obtain⟨ob',_,e1,_,hall⟩:=ziv (fun g=>rfl) hf h1
 simp only[List.cons.injEq,and_true] at e1
 subst e1
 refine ztn hE hcb h hfx (fun hh=>by rw[zvc (fun g=>rfl) hf] at hh; cases hh) (hall st.objs) fun x gh' w' hg hrel hv=>?_
 have hrel2:=h.toSlot hob hlo hlf hl hg hrel hso
 refine hn _ _ w' (hrel2.put ?_)
 rcases hso with ⟨e,t,xs,rfl⟩ | ⟨cs,rfl,_⟩
 ·exact⟨⟨by simpa[Gh.slot] using hv.1.1,_,_,_,_,_,z0a hl⟩,hv.2⟩
 ·exact⟨⟨by simpa[Gh.slot] using hv.1.1,_,z0a hl⟩,hv.2⟩
theorem zs6 {E:Env} (hE:EnvOk C.P C.Γ E) {cb:CB} (hcb:CBOk C.P C.Γ cb) {o:Oper} (h:Rel C st gh a w) (hfx:st.fx≤st.objs.length) (hro:st.ro≤st.objs.length) {st':St} {c:Nat} (hs:(step E cb st o).run some=some (st',c))
  {next:Act→World→Prop} {Q:Exit→Act→World→Prop} (hn:∀ gh' a' w',Rel C st' gh' a' w'→next a' w'):o.wp C.P a w next Q:=by
 unfold step at hs
 split at hs
 ·rename_i l hsl
  rw[Tree.run_map] at hs
  obtain⟨st1,h1,h2⟩:=Tree.run_some _ hs
  simp only[Option.some.injEq,Prod.mk.injEq] at h2
  obtain⟨rfl,_⟩:=h2
  exact zzp hE hcb h hfx hsl h1 hn
 ·exact zzc hE hcb h hfx hro hs hn
theorem z94 {E:Env} {cb:CB} {o:Oper} {st':St} {c:Nat} (hs:(step E cb st o).run some=some (st',c)) (hc:c % 8≠7):z1g E o=none∧(z6u E cb st o).run some=some (st',c):=by
 unfold step at hs
 split at hs
 ·rw[Tree.run_map] at hs
  obtain⟨st1,h1,h2⟩:=Tree.run_some _ hs
  simp only[Option.some.injEq,Prod.mk.injEq] at h2
  omega
 ·exact⟨by assumption,hs⟩
theorem z1w {E:Env} {cb:CB} {o:Oper} (h:z1g E o=none):step E cb st o=z6u E cb st o:=by unfold step; rw[h]
theorem zuo {E:Env} {cb:CB} {o:Oper} {st':St} {c:Nat} (hs:(z6u E cb st o).run some=some (st',c)):st'.ro=st.ro∧st'.fx=st.fx∧st.objs.length≤st'.objs.length:=by
 have hput:∀ (s:St) d v,(s.put d v).ro=s.ro∧(s.put d v).fx=s.fx∧(s.put d v).objs=s.objs:=fun _ _ _=>⟨rfl,rfl,rfl⟩
 have hka:∀ (M:List Nat) (m:Bool) {s s':St},s.killAll m M=some s'→s'.ro=s.ro∧s'.fx=s.fx∧s'.objs.length=s.objs.length:=by
  intro M m
  induction M with
  | nil=>intro s s' h; simp only[St.killAll,Option.some.injEq] at h; subst h; exact⟨rfl,rfl,rfl⟩
  | cons l M ih=>
   intro s s' h
   simp only[St.killAll] at h
   split at h
   ·rename_i s1 h1
    obtain⟨k1,k2,k3,_⟩:=z0f h1
    obtain⟨j1,j2,j3⟩:=ih h
    exact⟨j1.trans k1,j2.trans k2,j3.trans k3⟩
   ·cases h
 have hmove:∀ {M:List Nat} {m:Bool} {l:Nat} {s s':St},s.move M m l=some s'→s'.ro=s.ro∧s'.fx=s.fx∧s'.objs.length=s.objs.length:=by
  intro M m l s s' h
  unfold St.move at h
  split at h
  ·split at h
   ·rename_i s1 h1
    obtain⟨k1,k2,k3⟩:=hka M true h1
    obtain⟨j1,j2,j3,_⟩:=z0f h
    exact⟨j1.trans k1,j2.trans k2,j3.trans k3⟩
   ·cases h
  ·cases h
 have happ:∀ {s s':St} {d e ti l x},(zdi s d e ti l x).run some=some s'→s'.ro=s.ro∧s'.fx=s.fx∧s'.objs.length=s.objs.length:=by
  intro s s' d e ti l x h
  unfold zdi at h
  split at h
  ·cases h
  split at h
  case h_2=>cases h
  split at h
  case isFalse=>cases h
  split at h
  case h_1=>cases h
  obtain⟨_,h⟩:=Tree.run_need h
  split at h
  ·split at h
   ·cases h
   split at h
   ·rename_i s1 hk
    simp only[Tree.run,Option.some.injEq] at h
    subst h
    obtain⟨k1,k2,k3,_⟩:=z0f hk
    exact⟨k1,k2,by simpa[St.put] using k3⟩
   ·cases h
  ·have shal:∀ {l t deep L xs ys x},(zsc s d e l t deep L xs ys x).run some=some s'→s'.ro=s.ro∧s'.fx=s.fx∧s'.objs.length=s.objs.length:=by
    intro l t deep L xs ys x h
    unfold zsc at h
    split at h
    ·exact zmb h
    ·cases h
   split at h
   ·split at h
    ·rename_i s1 hk
     simp only[Tree.run,Option.some.injEq] at h
     subst h
     obtain⟨k1,k2,k3,_⟩:=z0f hk
     exact⟨k1,k2,by simpa[St.put] using k3⟩
    ·cases h
   ·split at h
    ·split at h
     ·split at h
      ·rename_i s1 hk
       simp only[Tree.run,Option.some.injEq] at h
       subst h
       obtain⟨k1,k2,k3⟩:=hmove hk
       exact⟨k1,k2,by simp only[St.put,List.length_set,z1q]; exact k3⟩
      ·cases h
     ·exact shal h
    ·exact shal h
   ·exact shal h
 have hpm:∀ (t:Ty) {os:Objs} {y:t.den} {ls:List Leaf} {p:Objs×List Leaf},z17 os t y ls=some p→p.1.length=os.length:=by
  intro t
  induction t with
  | pair a b iha ihb=>
   intro os y ls p hp
   simp only[z17] at hp
   split at hp
   ·rename_i os' r h1
    have:=iha h1
    have:=ihb hp
    simp_all
   ·cases hp
  | unit=>intro os y ls p hp; simp only[z17,Option.some.injEq] at hp; subst hp; rfl
  | int k=>
   intro os y ls p hp
   cases ls with
   | nil=>cases hp
   | cons c r=>simp only[z17,Option.some.injEq] at hp; subst hp; rfl
  | bool=>
   intro os y ls p hp
   cases ls with
   | nil=>cases hp
   | cons c r=>simp only[z17,Option.some.injEq] at hp; subst hp; rfl
  | str=>
   intro os y ls p hp
   cases ls with
   | nil=>cases hp
   | cons c r=>simp only[z17,Option.some.injEq] at hp; subst hp; rfl
  | slice e t ih=>
   intro os y ls p hp
   cases ls with
   | nil=>cases hp
   | cons c r=>
    cases c<;>simp only[z17] at hp<;>try (cases hp; done)
    ·simp only[Option.some.injEq] at hp; subst hp; rfl
    ·split at hp
     ·split at hp
      ·simp only[Option.some.injEq] at hp; subst hp; simp
      ·cases hp
     ·cases hp
    ·split at hp
     ·split at hp
      ·simp only[Option.some.injEq] at hp; subst hp; simp
      ·cases hp
     ·cases hp
 have hpms:∀ (ps:List PIn) {L:List Nat} {os os':Objs} {y:z51 ps} {vs:List SV},z19 L os ps y vs=some os'→os'.length=os.length:=by
  intro ps
  induction ps with
  | nil=>intro L os os' y vs hp; simp only[z19,Option.some.injEq] at hp; subst hp; rfl
  | cons q ps ih=>
   intro L os os' y vs hp
   cases q with
   | ptr t=>
    cases vs with
    | nil=>cases hp
    | cons v vs=>
     cases v with
     | one c=>
      cases c<;>first | (cases hp; done) | skip
      have:=ih hp
      simpa using this
     | agg _=>cases hp
     | tup _=>cases hp
   | imm b t=>
    cases vs with
    | nil=>cases hp
    | cons v vs=>exact ih hp
   | clo gs r=>
    cases vs with
    | nil=>cases hp
    | cons v vs=>exact ih hp
   | «mut» b t=>
    cases vs with
    | nil=>cases hp
    | cons v vs=>
     simp only[z19] at hp
     split at hp
     ·split at hp
      ·rename_i os2 h1
       have:=hpm t h1
       have:=ih hp
       simp_all
      ·cases hp
     ·cases hp
 have hcallM:∀ {s s':St} {d:Option Tmp} {sp:FSpec} {args:List SV},(zrp cb s d sp args).run some=some s'→s'.ro=s.ro∧s'.fx=s.fx∧s.objs.length≤s'.objs.length:=by
  intro s s' d sp args h
  unfold zrp at h
  split at h
  ·cases h
  split at h
  case isFalse=>cases h
  simp only[Tree.run] at h
  cases hy:sp.fn _ with
  | none=>rw[hy] at h; cases h
  | some y=>
   rw[hy] at h
   simp only[Option.bind_some] at h
   split at h
   ·cases h
   rename_i s1 hk
   split at h
   ·cases h
   rename_i os hp
   simp only[Tree.run,Option.some.injEq] at h
   subst h
   obtain⟨k1,k2,k3⟩:=hka _ _ hk
   have:=hpms _ hp
   exact⟨k1,k2,by simp only[St.put,List.length_append]; omega⟩
 unfold z6u at hs
 split at hs
 ·rename_i t ht
  rw[Tree.run_map] at hs
  obtain⟨st1,h1,h2⟩:=Tree.run_some t hs
  simp only[Option.some.injEq,Prod.mk.injEq] at h2
  obtain⟨rfl,rfl⟩:=h2
  unfold z57 at ht
  split at ht
  ·simp only[Option.some.injEq] at ht
   subst ht
   split at h1
   ·rename_i ti hd hti
    cases hst:z8f st ti (st.ev _).leaf (st.ev _) with
    | none=>rw[hst] at h1; cases h1
    | some st2=>
     rw[hst] at h1
     simp only[Tree.ofOpt,Tree.run,Option.some.injEq] at h1
     subst h1
     unfold z8f at hst
     split at hst
     ·cases hst
     split at hst
     case isFalse=>cases hst
     split at hst
     ·split at hst
      ·cases hst
      split at hst
      ·cases hst
      rename_i s1 hk
      obtain⟨k1,k2,k3,_⟩:=z0f hk
      split at hst
      case h_2=>cases hst
      split at hst
      case h_2=>cases hst
      split at hst
      ·simp only[Option.some.injEq] at hst
       subst hst
       exact⟨k1,k2,by simp only[List.length_set]; omega⟩
      ·cases hst
     ·split at hst
      ·cases hst
      split at hst
      case h_2=>cases hst
      split at hst
      ·split at hst
       case h_2=>cases hst
       split at hst
       ·rename_i s1 hk
        obtain⟨k1,k2,k3,_⟩:=z0f hk
        simp only[Option.some.injEq] at hst
        subst hst
        exact⟨k1,k2,by simp only[List.length_set]; omega⟩
       ·cases hst
      ·split at hst
       ·split at hst
        ·split at hst
         ·rename_i s1 hk
          obtain⟨k1,k2,k3⟩:=hmove hk
          simp only[Option.some.injEq] at hst
          subst hst
          exact⟨k1,k2,by simp only[List.length_set,z1q]; omega⟩
         ·have:=zay hst; exact⟨this.1,this.2.1,by omega⟩
        ·have:=zay hst; exact⟨this.1,this.2.1,by omega⟩
       ·have:=zay hst; exact⟨this.1,this.2.1,by omega⟩
     ·split at hst
      ·have:=zpu hst; exact⟨this.1,this.2.1,by omega⟩
      ·unfold zjp at hst
       split at hst
       ·cases hst
       split at hst
       case h_2=>cases hst
       split at hst
       case h_2=>cases hst
       split at hst
       case isFalse=>cases hst
       split at hst
       case h_2=>cases hst
       split at hst
       case h_2=>cases hst
       split at hst
       case h_2=>cases hst
       rename_i s1 hk
       obtain⟨k1,k2,k3⟩:=hmove hk
       simp only[Option.some.injEq] at hst
       subst hst
       exact⟨k1,k2,by simp only[List.length_set,z1q]; omega⟩
     ·cases hst
   ·cases h1
  ·split at ht
   ·split at ht
    ·split at ht
     split at ht
     ·cases ht
     ·simp only[Option.some.injEq] at ht
      subst ht
      split at h1
      ·split at h1
       ·rename_i s1 hk
        obtain⟨k1,k2,k3⟩:=hmove hk
        simp only[Tree.run,Option.some.injEq] at h1
        subst h1
        refine⟨k1,k2,?_⟩
        simp only[St.put,List.length_set,z1q]
        rw[k3]; simp
       ·cases h1
      ·cases h1
     ·cases ht
    ·cases ht
   ·cases ht
  ·split at ht
   ·simp only[Option.some.injEq] at ht
    subst ht
    split at h1
    ·split at h1
     ·split at h1
      ·split at h1
       ·split at h1
        ·obtain⟨k1,k2,k3⟩:=happ h1
         exact⟨k1,k2,by omega⟩
        ·obtain⟨k1,k2,k3⟩:=happ h1
         exact⟨k1,k2,by simp at k3; omega⟩
        ·cases h1
       ·cases h1
      ·cases h1
     ·cases h1
    ·cases h1
   ·simp only[Option.some.injEq] at ht
    subst ht
    split at h1
    ·split at h1
     ·split at h1
      ·split at h1
       ·split at h1
        ·unfold zrh at h1
         split at h1
         ·cases h1
         split at h1
         case h_2=>cases h1
         split at h1
         case isFalse=>cases h1
         split at h1
         case h_1=>cases h1
         split at h1
         case h_2=>cases h1
         rename_i s1 hk
         simp only[Tree.run,Option.some.injEq] at h1
         subst h1
         obtain⟨k1,k2,k3,_⟩:=z0f hk
         exact⟨k1,k2,by simp only[St.put,List.length_set]; omega⟩
        ·cases h1
       ·cases h1
      ·cases h1
     ·cases h1
    ·cases h1
   ·split at ht
    ·split at ht
     ·simp only[Option.some.injEq] at ht
      subst ht
      exact zwp h1
     ·split at ht
      ·split at ht
       ·simp only[Option.some.injEq] at ht
        subst ht
        exact hcallM h1
       ·cases ht
      ·cases ht
    ·cases ht
   ·cases ht
  ·split at ht
   ·simp only[Option.some.injEq] at ht
    subst ht
    exact zyj h1
   ·cases ht
  ·split at ht
   ·simp only[Option.some.injEq] at ht
    subst ht
    exact zvf h1
   ·cases ht
  ·cases ht
 ·split at hs
  ·cases hs
  ·rw[Tree.run_map] at hs
   obtain⟨⟨v,new⟩,h1,h2⟩:=Tree.run_some _ hs
   simp only[Option.some.injEq,Prod.mk.injEq] at h2
   obtain⟨rfl,rfl⟩:=h2
   exact⟨rfl,rfl,by simp⟩
theorem zpv {E:Env} {cb:CB} {o:Oper} {st':St} {c:Nat} (hs:(step E cb st o).run some=some (st',c)):st'.ro=st.ro∧st'.fx=st.fx∧st.objs.length≤st'.objs.length:=by
 unfold step at hs
 split at hs
 ·rename_i l hsl
  rw[Tree.run_map] at hs
  obtain⟨st1,h1,h2⟩:=Tree.run_some _ hs
  simp only[Option.some.injEq,Prod.mk.injEq] at h2
  obtain⟨rfl,_⟩:=h2
  obtain⟨_,_,_,hf⟩:=z5u hsl
  obtain⟨ob,_,_,_,_,rfl,_⟩:=zjy hf h1
  cases o.dst<;>exact⟨rfl,rfl,by simp[St.put]⟩
 ·exact zuo hs
end
end Go.AM
