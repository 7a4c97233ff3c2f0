/- 'append' to a row of our own. No condition. -/
import Derived.Test.YtdcbankajhnepaaGreatAmStore2
import Derived.Test.YtdcbankajhnepaaGreatAmDrawn
import Derived.Maps.AppendAt
import Derived.ArgAppend
set_option linter.unusedVariables false
set_option linter.unusedSimpArgs false
namespace Go.AM
theorem Tree.run_some {α ρ:Type}:∀ (t:Tree α) {K:α→Option ρ} {y:ρ},t.run K=some y→∃ x,t.run some=some x∧K x=some y
 | .ret a,K,y,h=>⟨a,rfl,h⟩
 | .fail,K,y,h=>by cases h
 | .ite b t e,K,y,h=>by
  simp only[Tree.run] at h ⊢
  cases b
  ·exact Tree.run_some e h
  ·exact Tree.run_some t h
 | .bind m k,K,y,h=>by
  simp only[Tree.run] at h ⊢
  cases m with
  | none=>cases h
  | some x=>exact Tree.run_some (k x) h
theorem Tree.run_map {α γ ρ:Type} (f:α→γ):∀ (t:Tree α) {K:γ→Option ρ},(t.map f).run K=t.run (fun x=>K (f x))
 | .ret a,K=>rfl
 | .fail,K=>rfl
 | .ite b t e,K=>by
  simp only[Tree.run,Tree.map]
  cases b
  ·exact Tree.run_map f e
  ·exact Tree.run_map f t
 | .bind m k,K=>by
  simp only[Tree.run,Tree.map]
  cases m with
  | none=>rfl
  | some x=>exact Tree.run_map f (k x)
theorem Tree.run_need {α ρ:Type} {b:Bool} {t:Tree α} {K:α→Option ρ} {y:ρ} (h:(Tree.need b t).run K=some y):b=true∧t.run K=some y:=by
 unfold Tree.need at h
 simp only[Tree.run] at h
 cases b
 ·simp at h
 ·exact⟨rfl,h⟩
theorem zko {P:Program} {w:World} {e size:Nat} {v:Value} {n:Nat} {xs:List Value} {t ty:TypeId} {i:TypeInfo} (ht:P.underlying t=some (.slice e)) (hi:P.info? e=some i)
  (hown:OwnR w e size v n xs) (c:Nat):(Builtin.append_ #[t,t] ty #[v,.slice none 0 c]).run P w=.ok v w:=by
 rcases hown.2 with ⟨rfl,rfl⟩ | ⟨g,og,cap,cur,rfl,hg,hc,hm,hcs,htk⟩
 ·simp[Builtin.append_,run_underlying ht,sizeOf,typeInfo,hi,Builtin.lenOf,Builtin.firstCells]
 ·simp[Builtin.append_,run_underlying ht,sizeOf,typeInfo,hi,Builtin.lenOf,Builtin.firstCells,hc,storeCells]
theorem zkn {P:Program} {w:World} {t ty e:TypeId} {i:TypeInfo} {z:Value} {size:Nat} (ht:P.underlying t=some (.slice e)) (hi:P.info? e=some i) (hz:i.zero=some z)
  (hsize:i.size=size) (hzs:z.cells.size=size) (hsz:0<size) {v:Value} {n:Nat} {xs:List Value} (hown:OwnR w e size v n xs)
  (a:Addr) (m c:Nat) (news:List Value) (hl:news.length=m*size) (hnews:∀ j u,news[j]? = some u→w.cell? (a.add j)=some u) (h1:∀ u∈news,u.oneCell'=true)
  (h63:n+m≤maxLen) (hbytes:(n+m)*i.bytes≤140737488355328):
  ∃ v' w',(Builtin.append_ #[t,t] ty #[v,.slice (some a) m c]).run P w=.ok v' w'∧OwnR w' e size v' (n+m) (xs++news)∧w.grownBy w' v.ownBlock∧(v'.ownBlock=v.ownBlock∨v'.ownBlock=some w.heap.size):=by
 have hlen:(xs++news).length=(n+m)*size:=by rw[List.length_append,hown.1,hl,Nat.add_mul]
 rcases hown.2 with ⟨rfl,rfl⟩ | ⟨g,og,cap,cur,rfl,hg,hc,hcm,hcs,htk⟩
 ·have hx:xs=[]:=List.eq_nil_of_length_eq_zero (by simpa using hown.1)
  subst hx
  obtain⟨v',w',hr,h2,h3,_,h5⟩:=run_append_own_at (P:=P) w 0 t ty e i z size i.bytes ht hi hz hsize rfl hzs hsz (.slice none 0 0) 0 [] (World.ownsRow_nil w 0 e size) a m c news hl hnews h1 h63 hbytes (Nat.zero_le _)
  exact⟨v',w',hr,.of h2,h3,h5⟩
 ·by_cases hroom:n+m≤cap
  ·have hmul:(n+m)*size≤cap*size:=Nat.mul_le_mul_right _ hroom
   rw[Nat.add_mul] at hmul
   have hcells:=fun j (hj:j<news.length)=>cell_of_row w g (og+n*i.size+j) cur e (0,0) hg
   have hr:=run_append_room_cells (P:=P) w t ty e i ht hi g og n cap a m c news (by rw[hsize]; exact hl) hnews h1 hroom
    (fun j hj=>by rw[hcells j hj,hsize,Array.getElem?_eq_getElem (by omega)]; rfl) (fun j hj=>by simp[World.frozen?,hg])
   rw[hsize] at hr
   have hst:=run_storeCells_at P g (og+n*size) e news 0 cur w hg (by omega) h1
   have hst2:=run_storeCells_cells (P:=P) g (og+n*size) news 0 w (fun j hj=>by rw[cell_of_row w g _ cur e (0,0) hg,Array.getElem?_eq_getElem (by omega)]; rfl) (fun j hj=>by simp[World.frozen?,hg]) h1
   rw[hst] at hst2
   simp only[Nat.add_zero,Result.ok.injEq,true_and] at hst2
   rw[←hst2] at hr
   refine⟨_,_,hr,⟨hlen,.inr ⟨g,og,cap,_,rfl,setRow_heap w g cur _ e _ hg,hroom,hcm,?_,?_⟩⟩,⟨rfl,rfl,rfl,by simp[World.setRow],fun k _ hk=>setRow_other w g k _ (fun e=>hk (by simp[Value.ownBlock,e]))⟩,.inl rfl⟩
   ·simp only[List.size_toArray,List.length_append,List.length_take,List.length_drop,Array.length_toList]
    omega
   ·rw[List.toList_toArray,List.append_assoc,List.drop_append_of_le_length (by simp; omega),←List.append_assoc,List.drop_take,Nat.add_sub_cancel_left,htk,←hlen]
    exact List.take_left
  ·subst hsize
   have hsmall:n+m≤9223372036854775807:=by simp only[maxLen] at h63; omega
   have hge:=grownCap_ge w (n+m) cap e
   have hcm':grownCap w (n+m) cap e≤maxLen:=grownCap_le_maxLen w (n+m) cap e h63
   have hr:=run_append_grow (P:=P) w t ty e i z ht hi hz ⟨g,og,none⟩ n cap xs hown.1 (fun j u hj=>by rw[Addr.add_lit]; exact hown.cells j u hj) a m c news hl hnews (by omega) (by omega) (growslice_fits (by omega) hbytes)
   refine⟨_,_,hr,⟨hlen,.inr ⟨w.heap.size,0,_,_,rfl,heap_alloc_new w.drew _,hge,hcm',?_,?_⟩⟩,⟨rfl,rfl,rfl,by simp,fun k hk _=>heap_alloc_old w.drew _ k hk⟩,.inr rfl⟩
   ·simp only[Array.size_append,List.size_toArray,size_zeroCells,hzs,hown.1,hl,Nat.zero_add]
    rw[←Nat.add_mul,←Nat.add_mul]
    exact Nat.mul_le_mul_right _ (by omega)
   ·simp only[Array.toList_append,List.append_assoc,List.drop_zero]
    rw[←List.append_assoc,←hlen]
    exact List.take_left
theorem RowR.append {α:Type} {P:Program} {w:World} {R S:α→List Nat→List Value→Prop} {e size:Nat} {v:Value} {F:List Nat} {xs ys:List α} {Gs:List (List Nat)} {ds:List (List Value)} {t ty:TypeId} {i:TypeInfo} {z:Value}
  (ht:P.underlying t=some (.slice e)) (hi:P.info? e=some i) (hz:i.zero=some z) (hsize:i.size=size) (hzs:z.cells.size=size) (hsz:0<size) (hby:0<i.bytes)
  (h:RowR R w e size v F xs) (hnR:∀ x G c,R x G c→c.length=size) (hF:F.Nodup) (hA:AllR S ys Gs ds) (hnS:∀ x G c,S x G c→c.length=size)
  {xv:Value} (hx:(∃ c,xv=.slice none 0 c∧ys=[])∨∃ ad c,xv=.slice (some ad) ys.length c∧∀ j u,ds.flatten[j]? = some u→w.cell? (ad.add j)=some u) (h1:∀ u∈ds.flatten,u.oneCell'=true)
  (hbytes:(xs.length+ys.length)*i.bytes≤140737488355328):
  ∃ v' w' Fs,(Builtin.append_ #[t,t] ty #[v,xv]).run P w=.ok v' w'∧w.grownBy w' v.ownBlock∧(v'.ownBlock=v.ownBlock∨v'.ownBlock=some w.heap.size)∧(∀ b,v'.ownBlock=some b→b<w'.heap.size)∧v'.oneCell'=true∧F=v.ownBlock.toList++Fs.flatten ∧
   ∀ T:α→List Nat→List Value→Prop,(∀ y G c,(∀ b∈G,b∈F∧some b≠v.ownBlock)→R y G c→T y G c)→(∀ y G c,(∀ b∈G,b∈Gs.flatten)→S y G c→T y G c) →
    RowR T w' e size v' (v'.ownBlock.toList++(Fs++Gs).flatten) (xs++ys):=by
 obtain⟨Fs,ess,ha,rfl,ho⟩:=h
 have hszA:=hA.size hnS
 have hfl:=z2j hszA
 have hlA:=hA.len
 have hmax:xs.length+ys.length≤maxLen:=by
  have:(xs.length+ys.length)*1≤(xs.length+ys.length)*i.bytes:=Nat.mul_le_mul_left _ hby
  simp only[maxLen]; omega
 have fin:∀ v' w',(Builtin.append_ #[t,t] ty #[v,xv]).run P w=.ok v' w'→OwnR w' e size v' (xs.length+ys.length) (ess.flatten++ds.flatten)→w.grownBy w' v.ownBlock→(v'.ownBlock=v.ownBlock∨v'.ownBlock=some w.heap.size) →
   ∃ v' w' Fs',(Builtin.append_ #[t,t] ty #[v,xv]).run P w=.ok v' w'∧w.grownBy w' v.ownBlock∧(v'.ownBlock=v.ownBlock∨v'.ownBlock=some w.heap.size)∧(∀ b,v'.ownBlock=some b→b<w'.heap.size)∧v'.oneCell'=true∧v.ownBlock.toList++Fs.flatten=v.ownBlock.toList++Fs'.flatten ∧
   ∀ T:α→List Nat→List Value→Prop,(∀ y G c,(∀ b∈G,b∈v.ownBlock.toList++Fs.flatten∧some b≠v.ownBlock)→R y G c→T y G c)→(∀ y G c,(∀ b∈G,b∈Gs.flatten)→S y G c→T y G c) →
    RowR T w' e size v' (v'.ownBlock.toList++(Fs'++Gs).flatten) (xs++ys):=by
  intro v' w' hr ho' hg hb
  refine⟨v',w',Fs,hr,hg,hb,fun b hb'=>zie ho' hb',?_,rfl,fun T hRT hST=>⟨Fs++Gs,ess++ds,?_,rfl,?_⟩⟩
  ·obtain⟨A,c,rfl,_⟩:=z0u ho'
   rfl
  ·have key:∀ (R:α→List Nat→List Value→Prop) (zs:List α) Hs cs (U:List Nat→Prop),(∀ y G c,U G→R y G c→T y G c)→(∀ G∈Hs,U G)→AllR R zs Hs cs→AllR T zs Hs cs:=by
    intro R zs
    induction zs with
    | nil=>intro Hs cs U _ _ h; cases Hs<;>cases cs<;>simp_all[AllR]
    | cons y zs ih=>
     intro Hs cs U hU hH h
     cases Hs<;>cases cs<;>simp only[AllR] at h ⊢
     exact⟨hU _ _ _ (hH _ (by simp)) h.1,ih _ _ U hU (fun G hG=>hH G (by simp[hG])) h.2⟩
   refine (key R xs Fs ess _ hRT (fun G hG b hb=>?_) ha).app (key S ys Gs ds _ hST (fun G hG b hb=>List.mem_flatten.2 ⟨G,hG,hb⟩) hA)
   have hmem:=List.mem_flatten.2 ⟨G,hG,hb⟩
   refine⟨by simp only[List.mem_append]; exact .inr hmem,fun e=>?_⟩
   rw[←e] at hF
   simp only[Option.toList_some,List.singleton_append,List.nodup_cons] at hF
   exact hF.1 hmem
  ·rw[List.length_append,List.flatten_append]
   exact ho'
 rcases hx with ⟨c,rfl,rfl⟩ | ⟨ad,c,rfl,hcell⟩
 ·have hds:ds=[]:=List.eq_nil_of_length_eq_zero hlA.2
  subst hds
  exact fin v w (zko ht hi ho c) (by simpa using ho) ⟨rfl,rfl,rfl,Nat.le_refl _,fun _ _ _=>rfl⟩ (.inl rfl)
 ·obtain⟨v',w',hr,h2,h3,h5⟩:=zkn (P:=P) (ty:=ty) ht hi hz hsize hzs hsz ho ad ys.length c ds.flatten (by rw[hfl,hlA.2]) hcell h1 hmax hbytes
  exact fin v' w' hr h2 h3 h5
section
variable {C:Ctx} {st:St} {gh:Gh} {a:Act} {w:World}
theorem zr1 {e:TypeId} {t:Ty} {ys:List t.den} {v:Value} {U:Nat→Prop} (h:ImmS (.slice e t) ys [v] w U) (hf:t.flat=true):
  ∃ ds,AllR (fun y G c=>G=[]∧Rep t w y c) ys (List.replicate ys.length []) ds∧((∃ c,v=.slice none 0 c∧ys=[])∨∃ ad c,v=.slice (some ad) ys.length c∧∀ j u,ds.flatten[j]? = some u→w.cell? (ad.add j)=some u)∧(∀ u∈ds.flatten,u.oneCell'=true):=by
 obtain⟨A,c,he,hc,hr⟩:=h.rep
 simp only[List.cons.injEq,and_true] at he
 subst he
 rcases hr with rfl | ⟨b,o,rfl,hel⟩
 ·refine⟨[],trivial,?_,by simp⟩
  cases A with
  | none=>exact .inl ⟨c,rfl,rfl⟩
  | some ad=>exact .inr ⟨ad,c,rfl,by simp⟩
 ·have key:∀ (zs:List t.den) (k:Nat),(∀ i x,zs[i]? = some x→∃ es,Rep t w x es∧∀ j u,es[j]? = some u→w.cell? ⟨b,o+(k+i)*t.size+j,none⟩=some u) →
    ∃ ds,AllR (fun y G c=>G=[]∧Rep t w y c) zs (List.replicate zs.length []) ds∧(∀ j u,ds.flatten[j]? = some u→w.cell? ⟨b,o+k*t.size+j,none⟩=some u)∧∀ u∈ds.flatten,u.oneCell'=true:=by
   intro zs
   induction zs with
   | nil=>intro k _; exact⟨[],trivial,by simp,by simp⟩
   | cons z zs ih=>
    intro k hz
    obtain⟨es,hes,hcell⟩:=hz 0 z rfl
    obtain⟨ds,h1,h2,h3⟩:=ih (k+1) fun i x hx=>by
     obtain⟨es,h1,h2⟩:=hz (i+1) x (by simpa using hx)
     exact⟨es,h1,fun j u hu=>by rw[show k+1+i=k+(i+1) by omega]; exact h2 j u hu⟩
    refine⟨es::ds,⟨⟨rfl,hes⟩,h1⟩,fun j u hu=>?_,fun u hu=>?_⟩
    ·rw[List.flatten_cons] at hu
     by_cases hj:j<es.length
     ·rw[List.getElem?_append_left hj] at hu
      simpa using hcell j u hu
     ·rw[List.getElem?_append_right (by omega)] at hu
      have:=h2 _ u hu
      have hl:=Rep.len t hes
      rw[show o+(k+1)*t.size+(j - es.length)=o+k*t.size+j by rw[Nat.add_mul,hl]; omega] at this
      exact this
    ·rw[List.flatten_cons,List.mem_append] at hu
     rcases hu with hu | hu
     ·exact Rep.one t hes u hu
     ·exact h3 u hu
  obtain⟨ds,h1,h2,h3⟩:=key ys 0 (by simpa using hel)
  refine⟨ds,h1,.inr ⟨⟨b,o,none⟩,c,rfl,fun j u hu=>?_⟩,h3⟩
  have:=h2 j u hu
  rw[Addr.add_lit]
  simpa using this
theorem zkp {α:Type} {R:α→List Nat→List Value→Prop} {e size:Nat} {v:Value} {F:List Nat} {ys:List α} (h:RowR R w e size v F ys) (hn:∀ x G c,R x G c→c.length=size) (h1:∀ x G c,R x G c→∀ u∈c,u.oneCell'=true):
  ∃ Gs ds,AllR R ys Gs ds∧F=v.ownBlock.toList++Gs.flatten∧((∃ c,v=.slice none 0 c∧ys=[])∨∃ ad c,v=.slice (some ad) ys.length c∧∀ j u,ds.flatten[j]? = some u→w.cell? (ad.add j)=some u)∧(∀ u∈ds.flatten,u.oneCell'=true):=by
 obtain⟨Gs,ds,ha,hF,ho⟩:=h
 refine⟨Gs,ds,ha,hF,?_,fun u hu=>?_⟩
 ·rcases ho.2 with ⟨rfl,h0⟩ | ⟨g,og,cap,cur,rfl,_,_,_,_,_⟩
  ·exact .inl ⟨0,rfl,List.eq_nil_of_length_eq_zero h0⟩
  ·exact .inr ⟨⟨g,og,none⟩,cap,rfl,fun j u hj=>by rw[Addr.add_lit]; exact ho.cells j u hj⟩
 ·obtain⟨c,hc,hu⟩:=List.mem_flatten.1 hu
  have:∃ x G,R x G c:=ha.mem hc
  obtain⟨x,G,hR⟩:=this
  exact h1 _ _ _ hR u hu
theorem zv8 {e:TypeId} {t:Ty} {ys:List t.den} {v:Value} {U:Nat→Prop} (h:ImmS (.slice e t) ys [v] w U):
  ∃ ds,AllR (fun y G c=>G=[]∧ImmS t y c w U) ys (List.replicate ys.length []) ds∧((∃ c,v=.slice none 0 c∧ys=[])∨∃ ad c,v=.slice (some ad) ys.length c∧∀ j u,ds.flatten[j]? = some u→w.cell? (ad.add j)=some u)∧(∀ u∈ds.flatten,u.oneCell'=true):=by
 obtain⟨A,c,he,hc,hr⟩:=h.rep
 simp only[List.cons.injEq,and_true] at he
 subst he
 rcases hr with rfl | ⟨b,o,rfl,_⟩
 ·refine⟨[],trivial,?_,by simp⟩
  cases A with
  | none=>exact .inl ⟨c,rfl,rfl⟩
  | some ad=>exact .inr ⟨ad,c,rfl,by simp⟩
 ·have hel:∀ (i:Nat) x,ys[i]? = some x→∃ es,ImmS t x es w U∧∀ j u,es[j]? = some u→w.cell? ⟨b,o+i*t.size+j,none⟩=some u:=fun i x hx=>by
   obtain⟨b',o',c',he,es,h1,h2⟩:=h.elem hx
   simp only[List.cons.injEq,Value.slice.injEq,Option.some.injEq,Addr.mk.injEq,and_true,true_and] at he
   obtain⟨⟨rfl,rfl⟩,_⟩:=he
   exact⟨es,h1,h2⟩
  have key:∀ (zs:List t.den) (k:Nat),(∀ i x,zs[i]? = some x→∃ es,ImmS t x es w U∧∀ j u,es[j]? = some u→w.cell? ⟨b,o+(k+i)*t.size+j,none⟩=some u) →
    ∃ ds,AllR (fun y G c=>G=[]∧ImmS t y c w U) zs (List.replicate zs.length []) ds∧(∀ j u,ds.flatten[j]? = some u→w.cell? ⟨b,o+k*t.size+j,none⟩=some u)∧∀ u∈ds.flatten,u.oneCell'=true:=by
   intro zs
   induction zs with
   | nil=>intro k _; exact⟨[],trivial,by simp,by simp⟩
   | cons z zs ih=>
    intro k hz
    obtain⟨es,hes,hcell⟩:=hz 0 z rfl
    obtain⟨ds,h1,h2,h3⟩:=ih (k+1) fun i x hx=>by
     obtain⟨es,h1,h2⟩:=hz (i+1) x (by simpa using hx)
     exact⟨es,h1,fun j u hu=>by rw[show k+1+i=k+(i+1) by omega]; exact h2 j u hu⟩
    refine⟨es::ds,⟨⟨rfl,hes⟩,h1⟩,fun j u hu=>?_,fun u hu=>?_⟩
    ·rw[List.flatten_cons] at hu
     by_cases hj:j<es.length
     ·rw[List.getElem?_append_left hj] at hu
      simpa using hcell j u hu
     ·rw[List.getElem?_append_right (by omega)] at hu
      have:=h2 _ u hu
      have hl:=Rep.len t hes.rep
      rw[show o+(k+1)*t.size+(j - es.length)=o+k*t.size+j by rw[Nat.add_mul,hl]; omega] at this
      exact this
    ·rw[List.flatten_cons,List.mem_append] at hu
     rcases hu with hu | hu
     ·exact Rep.one t hes.rep u hu
     ·exact h3 u hu
  obtain⟨ds,h1,h2,h3⟩:=key ys 0 (by simpa using hel)
  refine⟨ds,h1,.inr ⟨⟨b,o,none⟩,c,rfl,fun j u hu=>?_⟩,h3⟩
  have:=h2 j u hu
  rw[Addr.add_lit]
  simpa using this
theorem zol {e:TypeId} {ti:TI} {tt ty:TypeId} (hT:TabOk C.P e ti) (hu:C.P.underlying tt=some (.slice e)) (h:Rel C st gh a w) {d:Option Tmp} {l:Nat} {x:Leaf} {xv:Value} (hx:LeafOk C w gh st.objs x xv) (hro:st.ro≤l) (hfx:st.fx≤l)
  {t:Ty} {xs ys:List t.den} {deep:Bool} {L M:List Nat} (hob:obj st.objs l=.row e t xs deep L) (hpos:0<t.size) (hsz:t.size=ti.ty.size) (hby:0<ti.bytes) (hdata:z08 st.objs t x=some (ys,M)) (hbd:(xs.length+ys.length)*ti.bytes≤140737488355328)
  {dm:Bool} {m:Nat} {N:List Nat} (hsh:zwi st.objs t x=some (dm,m,N)) {st':St} (hs:(zcg st d e l t deep L xs ys dm m N).run some=some st'):
  ∃ v' gh' w',(Builtin.append_ #[tt,tt] ty #[gh.hd l,xv]).run C.P w=.ok v' w'∧Rel C st' gh' (a.put d v') w':=by
 obtain⟨i,hi,hz,hsi,hbi⟩:=hT.i
 have hzs:(zval ti).cells.size=t.size:=by rw[zbt hT,List.size_toArray,zfg,hsz]
 unfold zcg at hs
 split at hs
 ·cases hs
 rename_i hml
 simp only[Bool.or_eq_true,not_or] at hml
 have hNl:=Bool.eq_false_iff.2 hml.1
 have hme:m≠l:=fun e=>hml.2 (by rw[e]; exact Nat.beq_refl l)
 split at hs
 ·cases hs
 rename_i st1 hl1
 split at hs
 ·cases hs
 rename_i st2 hl2
 split at hs
 ·cases hs
 rename_i st3 hk
 simp only[Tree.run,Option.some.injEq] at hs
 subst hs
 have src:∃ g1,Rel C st1 g1 a w∧Same st st1 gh g1∧obj st1.objs l=.row e t xs deep L∧∃ Gs ds,AllR (fun y G c=>G=[]∧ImmS t y c w (UU C.U0 g1 N)) ys Gs ds ∧
   ((∃ c,xv=.slice none 0 c∧ys=[])∨∃ ad c,xv=.slice (some ad) ys.length c∧∀ j u,ds.flatten[j]? = some u→w.cell? (ad.add j)=some u)∧(∀ u∈ds.flatten,u.oneCell'=true):=by
  have other:st1=st→ImmS (.slice e t) ys [xv] w (UU C.U0 gh N)→∃ g1,Rel C st1 g1 a w∧Same st st1 gh g1∧obj st1.objs l=.row e t xs deep L∧∃ Gs ds,AllR (fun y G c=>G=[]∧ImmS t y c w (UU C.U0 g1 N)) ys Gs ds ∧
   ((∃ c,xv=.slice none 0 c∧ys=[])∨∃ ad c,xv=.slice (some ad) ys.length c∧∀ j u,ds.flatten[j]? = some u→w.cell? (ad.add j)=some u)∧(∀ u∈ds.flatten,u.oneCell'=true):=by
   intro he hi
   subst he
   obtain⟨ds,h1,h2,h3⟩:=zv8 hi
   exact⟨gh,h,Same.refl _ _,hob,_,ds,h1,h2,h3⟩
  have dflt:(match z08 st.objs t x with | some (_,M)=>some (false,st.objs.length,M) | none=>none)=some (dm,m,N)→∃ g1,Rel C st1 g1 a w∧Same st st1 gh g1∧obj st1.objs l=.row e t xs deep L∧∃ Gs ds,AllR (fun y G c=>G=[]∧ImmS t y c w (UU C.U0 g1 N)) ys Gs ds ∧
   ((∃ c,xv=.slice none 0 c∧ys=[])∨∃ ad c,xv=.slice (some ad) ys.length c∧∀ j u,ds.flatten[j]? = some u→w.cell? (ad.add j)=some u)∧(∀ u∈ds.flatten,u.oneCell'=true):=by
   intro hd
   rw[hdata] at hd
   simp only[Option.some.injEq,Prod.mk.injEq] at hd
   obtain⟨rfl,_,rfl⟩:=hd
   simp only[St.loose,Bool.false_eq_true,if_false,Option.some.injEq] at hl1
   exact other hl1.symm (z2d (e:=e) h.dj h.sep0 h.lt h.objs hx hdata)
  cases x with
  | own k=>
   simp only[zwi] at hsh
   cases hob2:obj st.objs k with
   | dead=>rw[hob2] at hsh; cases hsh
   | hol _ _ _=>rw[hob2] at hsh; cases hsh
   | box cs=>rw[hob2] at hsh; cases hsh
   | row e2 t2 zs d2 L2=>
   rw[hob2] at hsh
   simp only[Option.some.injEq,Prod.mk.injEq] at hsh
   obtain⟨rfl,rfl,rfl⟩:=hsh
   simp only[z08,hob2] at hdata
   split at hdata
   case h_2=>cases hdata
   rename_i y hc
   simp only[Option.some.injEq,Prod.mk.injEq] at hdata
   obtain⟨rfl,rfl⟩:=hdata
   obtain⟨rfl,rfl⟩:=z20 hc
   obtain⟨g1,hr1,s1,_,o1,o2,_⟩:=h.loose hl1 hob2
   have hrow2:=hr1.objs k
   rw[o1] at hrow2
   obtain⟨Gs,ds,hA,hGF,hxv,h1⟩:=zkp hrow2 (fun x F c hR=>(z12 hR).1) (fun x F c hR=>(z12 hR).2.2)
   have hxe:xv=g1.hd k:=by rw[s1.hd]; exact hx.1.1
   exact⟨g1,hr1,s1,(o2 l e _ xs deep L (Ne.symm hme)).2 hob,Gs,ds,hA,by rw[hxe]; exact hxv,h1⟩
  | _=>exact dflt hsh
 obtain⟨g1,hr1,s1,hob1,Gs,ds,hA,hxv,h1⟩:=src
 obtain⟨g2,hr2,s2,_,hob2,o2,_⟩:=hr1.loose hl2 hob1
 have S:=s1.trans s2
 obtain⟨hr3,hcl⟩:=hr2.kill hk
 obtain⟨k1,k2,k3,k4,k5⟩:=z0f hk
 have hob3:=(k4 l e t xs false L).2 hob2
 have hrow:=hr2.objs l
 rw[hob2] at hrow
 have hll:l<st3.objs.length:=z0o (by rw[hob3]; simp)
 have hGs:Gs.flatten=[]:=hA.nofoot fun x F c hR=>hR.1
 obtain⟨v',w',Fs,hrun,hgr,hblk,hlt',hone',hFeq,hrowT⟩:=RowR.append (ty:=ty) hu hi hz (hsi.trans hsz.symm) hzs hpos (by omega) hrow (fun x F c hR=>(z12 hR).1) (hr2.nd l) hA (fun x G c hS=>Rep.len t hS.2.rep) hxv h1 (by rw[hbi]; exact hbd)
 have hFl:∀ b∈Fs.flatten,b∈g2.ft l:=fun b hb=>by rw[hFeq]; simp[hb]
 have hvl:∀ b,(g2.hd l).ownBlock=some b→b∈g2.ft l:=fun b hb=>by rw[hFeq,hb]; simp
 have hM:MoveOk C st3 g2 w true l [] (.row e t (xs++ys) false (uni L N)) v' (v'.ownBlock.toList++(Fs++Gs).flatten) w':=by
  refine⟨hcl,by simp,by rw[k1,S.ro]; exact hro,by simp,by simp,by simp,hll,?_,fun hm=>(by cases hm),fun hl=>by rw[k2,S.fx] at hl; omega,fun b hb=>?_,?_⟩
  ·exact⟨hgr.os,hgr.tape,hgr.output,hgr.size,fun k hk hn=>hgr.block k hk fun e=>hn (hvl k e.symm),fun _=>zkm _ hrun⟩
  ·rw[List.flatten_append,hGs,List.append_nil] at hb
   rcases List.mem_append.1 hb with hb | hb
   ·have hb:v'.ownBlock=some b:=by simpa using hb
    rcases hblk with hk | hk
    ·exact .inl (hvl b (hk▸hb))
    ·rw[hb] at hk
     simp only[Option.some.injEq] at hk
     exact .inr (.inr ⟨by omega,hlt' b hb⟩)
   ·exact .inl (hFl b hb)
  ·rw[List.flatten_append,hGs,List.append_nil]
   have hnd:=hr2.nd l
   rw[hFeq] at hnd
   obtain⟨n1,n2,n3⟩:=List.nodup_append.1 hnd
   refine List.nodup_append.2 ⟨by cases v'.ownBlock<;>simp,n2,fun b hb b' hb' e=>?_⟩
   subst e
   have hb:v'.ownBlock=some b:=by simpa using hb
   rcases hblk with hk | hk
   ·rw[hb] at hk
    exact n3 b (by simp[←hk]) b hb' rfl
   ·rw[hb] at hk
    simp only[Option.some.injEq] at hk
    have:=hr2.lt _ _ (hFl b hb'); omega
 have hnoL:∀ j,(j=l∨j∈([]:List Nat))→has L j=false:=hM.noL hob3
 have hnoN:∀ j,(j=l∨j∈([]:List Nat))→has N j=false:=fun j hj=>by
  rcases hj with rfl | hj
  ·exact hNl
  ·cases hj
 have hrel:=hr3.move hM (by
  show RowR _ _ e t.size ((g2.mv l _ _ []).hd l) ((g2.mv l _ _ []).ft l) _
  rw[Gh.mv_hd,Gh.mv_ft]
  refine hrowT _ (fun y G c hG hR=>⟨hR.1,(zf3 hM.tr hnoL hR.2).sub fun b _ hb=>UU.mono (fun k hk=>by rw[zgq,hk,Bool.true_or]) hb⟩) (fun y G c hG hR=>⟨hR.1,?_⟩)
  have h5:ImmS t y c w (UU C.U0 g2 N):=hR.2.sub fun b _ hb=>s2.UU hb
  exact (zf3 hM.tr hnoN h5).sub fun b _ hb=>UU.mono (fun k hk=>by rw[zgq,hk,Bool.or_true]) hb)
 refine⟨v',_,w',by rw[←S.hd]; exact hrun,Rel.put (by simpa[z0n] using hrel) ?_⟩
 exact⟨⟨by rw[Gh.mv_hd],e,t,xs++ys,false,uni L N,z0a hll⟩,fun _=>hone'⟩
theorem zl3 {e:TypeId} {ti:TI} {tt ty:TypeId} (hT:TabOk C.P e ti) (hu:C.P.underlying tt=some (.slice e)) (h:Rel C st gh a w) {d:Option Tmp} {l:Nat} {x:Leaf} {xv:Value} (hx:LeafOk C w gh st.objs x xv) {st':St} (hs:(zdi st d e ti l x).run some=some st'):
  ∃ v' gh' w',(Builtin.append_ #[tt,tt] ty #[gh.hd l,xv]).run C.P w=.ok v' w'∧Rel C st' gh' (a.put d v') w':=by
 obtain⟨i,hi,hz,hsi,hbi⟩:=hT.i
 unfold zdi at hs
 split at hs
 ·cases hs
 rename_i hge
 simp only[Bool.or_eq_true,not_or] at hge
 have hro:=z5a hge.1
 have hfx:=z5a hge.2
 cases hob:obj st.objs l with
 | dead=>rw[hob] at hs; cases hs
 | hol _ _ _=>rw[hob] at hs; cases hs
 | box cs=>rw[hob] at hs; cases hs
 | row e' t xs deep L=>
 rw[hob] at hs
 simp only at hs
 split at hs
 case isFalse=>cases hs
 rename_i hcond
 simp only[Bool.and_eq_true,beq_iff_eq] at hcond
 obtain⟨⟨⟨rfl,hpos⟩,hsz⟩,hby⟩:=hcond
 have hpos:0<t.size:=by simpa using hpos
 have hby:0<ti.bytes:=by simpa using hby
 split at hs
 case h_1=>cases hs
 rename_i ys M hdata
 obtain⟨hbd,hs⟩:=Tree.run_need hs
 simp only[decide_eq_true_eq] at hbd
 have himm:=z2d (e:=e') h.dj h.sep0 h.lt h.objs hx hdata
 have hrow:=h.objs l
 rw[hob] at hrow
 have hzs:(zval ti).cells.size=t.size:=by rw[zbt hT,List.size_toArray,zfg,hsz]
 have hll:=z0o (os:=st.objs) (l:=l) (by rw[hob]; simp)
 have fin:∀ (st1:St) (N:List Nat) (S:t.den→List Nat→List Value→Prop) (Gs:List (List Nat)) (ds:List (List Value)),Rel C st1 gh a w→Clear true l st1→(∀ k∈N,Clear true k st1)→(∀ k∈N,st.ro≤k∧st.fx≤k)→l∉N→st1.ro=st.ro→st1.fx=st.fx→st1.objs.length=st.objs.length →
   (∀ k e t xs d L,obj st1.objs k=.row e t xs d L↔obj st.objs k=.row e t xs d L)→AllR S ys Gs ds→(∀ x G c,S x G c→c.length=t.size) →
   ((∃ c,xv=.slice none 0 c∧ys=[])∨∃ ad c,xv=.slice (some ad) ys.length c∧∀ j u,ds.flatten[j]? = some u→w.cell? (ad.add j)=some u)→(∀ u∈ds.flatten,u.oneCell'=true) →
   Gs.flatten.Nodup→(∀ b∈Gs.flatten,∃ k∈N,b∈gh.ft k) →
   (∀ w' g' y G c,(∀ b∈G,w'.heap[b]? = w.heap[b]?)→(∀ b∈G,b∈Gs.flatten)→S y G c→z38 C w' g' t deep L y G c) →
   ∃ v' gh' w',(Builtin.append_ #[tt,tt] ty #[gh.hd l,xv]).run C.P w=.ok v' w'∧Rel C (({ st1 with objs:=(z0n N st1.objs).set l (.row e' t (xs++ys) deep L) }).put d (.one (.own l))) gh' (a.put d v') w':=by
  intro st1 N S Gs ds hr1 hcl hcN hN hlN k1 k2 k3 k4 hA hnS hxv h1 hGn hGN hST
  have hob1:=(k4 l e' t xs deep L).2 hob
  obtain⟨v',w',Fs,hrun,hgr,hblk,hlt',hone',hFeq,hrowT⟩:=RowR.append (ty:=ty) hu hi hz (hsi.trans hsz.symm) hzs hpos (by omega) hrow (fun x F c hR=>(z12 hR).1) (h.nd l) hA hnS hxv h1 (by rw[hbi]; exact hbd)
  have hgdis:∀ b∈Gs.flatten,b∉gh.ft l:=by
   intro b hb hb'
   obtain⟨k,hk,hbk⟩:=hGN b hb
   exact hlN (h.dj _ _ _ hb' hbk▸hk)
  have hFl:∀ b∈Fs.flatten,b∈gh.ft l:=fun b hb=>by rw[hFeq]; simp[hb]
  have hvl:∀ b,(gh.hd l).ownBlock=some b→b∈gh.ft l:=fun b hb=>by rw[hFeq,hb]; simp
  have hM:MoveOk C st1 gh w true l N (.row e' t (xs++ys) deep L) v' (v'.ownBlock.toList++(Fs++Gs).flatten) w':=by
   refine⟨hcl,hcN,by omega,fun k hk=>by have:=hN k hk; omega,fun k hk=>by have:=hN k hk; omega,hlN,by omega,?_,fun hm=>(by cases hm),fun hl=>by omega,fun b hb=>?_,?_⟩
   ·exact⟨hgr.os,hgr.tape,hgr.output,hgr.size,fun k hk hn=>hgr.block k hk fun e=>hn (hvl k e.symm),fun _=>zkm _ hrun⟩
   ·rw[List.flatten_append] at hb
    rcases List.mem_append.1 hb with hb | hb
    ·have hb:v'.ownBlock=some b:=by simpa using hb
     rcases hblk with hk | hk
     ·exact .inl (hvl b (hk▸hb))
     ·rw[hb] at hk
      simp only[Option.some.injEq] at hk
      exact .inr (.inr ⟨by omega,hlt' b hb⟩)
    ·rcases List.mem_append.1 hb with hb | hb
     ·exact .inl (hFl b hb)
     ·exact .inr (.inl (hGN b hb))
   ·rw[List.flatten_append]
    have hnd:=h.nd l
    rw[hFeq] at hnd
    obtain⟨n1,n2,n3⟩:=List.nodup_append.1 hnd
    refine List.nodup_append.2 ⟨by cases v'.ownBlock<;>simp,List.nodup_append.2 ⟨n2,hGn,fun b hb b' hb' e=>hgdis b' hb' (e▸hFl b hb)⟩,fun b hb b' hb' e=>?_⟩
    subst e
    have hb:v'.ownBlock=some b:=by simpa using hb
    rcases hblk with hk | hk
    ·rw[hb] at hk
     rcases List.mem_append.1 hb' with h4 | h4
     ·exact n3 b (by simp[←hk]) b h4 rfl
     ·exact hgdis b h4 (hvl b hk.symm)
    ·rw[hb] at hk
     simp only[Option.some.injEq] at hk
     rcases List.mem_append.1 hb' with h4 | h4
     ·have:=h.lt _ _ (hFl b h4); omega
     ·obtain⟨k,_,hbk⟩:=hGN b h4
      have:=h.lt _ _ hbk; omega
  have hsame:∀ b,b<w.heap.size→b∉gh.ft l→w'.heap[b]? = w.heap[b]?:=fun b hb hn=>hgr.block b hb fun e=>hn (hvl b e.symm)
  have hrel:=hr1.move hM (by
   show RowR _ _ e' t.size ((gh.mv l _ _ N).hd l) ((gh.mv l _ _ N).ft l) _
   rw[Gh.mv_hd,Gh.mv_ft]
   refine hrowT _ (fun y G c hG hR=>?_) (fun y G c hG hR=>hST _ _ _ _ _ (fun b hb=>?_) hG hR)
   ·unfold z38 at hR ⊢
    cases deep with
    | true=>exact Deep.congr t hR fun b hb=>hgr.block b (h.lt _ _ (hG b hb).1) (hG b hb).2
    | false=>exact⟨hR.1,zf3 hM.tr (hM.noL hob1) hR.2⟩
   ·obtain⟨k,hk,hbk⟩:=hGN b (hG b hb)
    exact hsame b (h.lt _ _ hbk) (hgdis b (hG b hb)))
  refine⟨v',_,w',hrun,hrel.put ?_⟩
  refine⟨⟨by rw[Gh.mv_hd],e',t,xs++ys,deep,L,z0a ?_⟩,fun _=>hone'⟩
  rw[z1q,k3]; exact hll
 split at hs
 ·
  rename_i hflat
  split at hs
  ·cases hs
  split at hs
  case h_2=>cases hs
  rename_i st1 hk
  simp only[Tree.run,Option.some.injEq] at hs
  subst hs
  obtain⟨hr1,hcl⟩:=h.kill hk
  obtain⟨k1,k2,k3,k4,k5⟩:=z0f hk
  obtain⟨ds,hA,hxv,h1⟩:=zr1 himm hflat
  exact fin st1 [] _ _ ds hr1 hcl (by simp) (by simp) (by simp) k1 k2 k3 k4 hA (fun x G c hS=>Rep.len t hS.2) hxv h1 (by simp) (by simp) fun w' g' y G c _ _ hS=>by
   obtain⟨rfl,hS⟩:=hS
   unfold z38
   cases deep with
   | true=>exact Deep.flat t hflat hS w'
   | false=>exact⟨rfl,ImmS.flat hflat (Deep.rep t (Deep.flat t hflat hS w')) _⟩
 ·have shal:(zsc st d e' l t deep L xs ys x).run some=some st'→∃ v' gh' w',(Builtin.append_ #[tt,tt] ty #[gh.hd l,xv]).run C.P w=.ok v' w'∧Rel C st' gh' (a.put d v') w':=by
   intro hs
   unfold zsc at hs
   split at hs
   ·rename_i dm m N hsh
    exact zol hT hu h hx hro hfx hob hpos hsz hby hdata hbd hsh hs
   ·cases hs
  split at hs
  ·
   split at hs
   case h_2=>cases hs
   rename_i st1 hk
   simp only[Tree.run,Option.some.injEq] at hs
   subst hs
   obtain⟨hr1,hcl⟩:=h.kill hk
   obtain⟨k1,k2,k3,k4,k5⟩:=z0f hk
   simp only[z08,Option.some.injEq,Prod.mk.injEq] at hdata
   obtain⟨rfl,rfl⟩:=hdata
   have hxv:xv=.slice none 0 0:=hx.1
   exact fin st1 [] (fun _ _ _=>False) [] [] hr1 hcl (by simp) (by simp) (by simp) k1 k2 k3 k4 trivial (fun _ _ _ h=>h.elim) (.inl ⟨0,hxv,rfl⟩) (by simp) (by simp) (by simp) fun _ _ _ _ _ _ _ h=>h.elim
  ·
   rename_i m _
   cases hob2:obj st.objs m with
   | dead=>rw[hob2] at hs; exact shal hs
   | hol _ _ _=>rw[hob2] at hs; exact shal hs
   | box cs=>rw[hob2] at hs; exact shal hs
   | row e2 t2 zs d2 L2=>
   rw[hob2] at hs
   cases d2 with
   | false=>exact shal hs
   | true=>
   simp only at hs
   split at hs
   case isFalse=>exact shal hs
   rename_i hcond
   simp only[Bool.and_eq_true,beq_iff_eq,decide_eq_true_eq] at hcond
   obtain⟨rfl,rfl⟩:=hcond
   split at hs
   case h_2=>cases hs
   rename_i st1 hmv
   simp only[Tree.run,Option.some.injEq] at hs
   subst hs
   obtain⟨hr1,hcl,hcM,hroM,hlM,hMn,k1,k2,k3,k4⟩:=h.moveSt hmv
   simp only[z08,hob2] at hdata
   split at hdata
   case h_2=>cases hdata
   rename_i y hc
   simp only[Option.some.injEq,Prod.mk.injEq] at hdata
   obtain⟨rfl,rfl⟩:=hdata
   obtain⟨_,rfl⟩:=z20 hc
   have hrow2:=h.objs m
   rw[hob2] at hrow2
   obtain⟨Gs,ds,hA,hGF,hxv,h1⟩:=zkp hrow2 (fun x F c hR=>(z12 hR).1) (fun x F c hR=>(z12 hR).2.2)
   have hxe:xv=gh.hd m:=hx.1.1
   have hGm:∀ b∈Gs.flatten,b∈gh.ft m:=fun b hb=>by rw[hGF]; simp[hb]
   exact fin st1 [m] _ Gs ds hr1 hcl hcM hroM hlM k1 k2 k3 k4 hA (fun x F c hR=>(z12 hR).1) (by rw[hxe]; exact hxv) h1 (by have:=h.nd m; rw[hGF] at this; exact (List.nodup_append.1 this).2.1) (fun b hb=>⟨m,by simp,hGm b hb⟩)
    fun w' g' y G c hsame hG hR=>Deep.congr _ hR hsame
  ·exact shal hs
end
end Go.AM
