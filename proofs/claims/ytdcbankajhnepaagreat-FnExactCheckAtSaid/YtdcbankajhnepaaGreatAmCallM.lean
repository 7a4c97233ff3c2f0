/- Calls that write what is lent to them. No condition. -/
import Derived.Test.YtdcbankajhnepaaGreatAmLend
set_option linter.unusedVariables false
set_option linter.unusedSimpArgs false
namespace Go.AM
def y1a (w':World) (gh:Gh) (U:Nat→Prop) (Lc:List Nat) (os os':Objs) (l:Nat):Prop:=
 (∃ e s ys zs L,obj os l=.row e s ys true L∧obj os' l=.row e s zs true L∧zs.length=ys.length∧RowR (Deep s w') w' e s.size (gh.hd l) (gh.ft l) zs) ∨
 ∃ cs t y arr T,obj os l=.box cs∧obj os' l=.box (z2k t y Lc)∧gh.ft l=[gh.bk l]∧w'.heap[gh.bk l]? = some (.cells arr T (0,0))∧ImmS t y arr.toList w' U
section
variable {C:Ctx} {st:St} {gh:Gh} {a:Act} {w w':World}
theorem Rel.lentNew (h:Rel C st gh a w) {W F Lc:List Nat} {U:Nat→Prop} {os new:Objs} {G:List (Value×List Nat)} (hU:∀ b,b<w'.heap.size→UU C.U0 (gh.ext st.objs.length G) Lc b→U b) (hcl:∀ l∈W,Clear false l st) (hro:∀ l∈W,st.ro≤l) (hlen:os.length=st.objs.length) (hfx:st.fx≤st.objs.length)
  (hsame:∀ k,k∉W→obj os k=obj st.objs k) (hturn:∀ l∈W,y1a w' gh U Lc st.objs os l) (hfr:FrQ (C.Γ.q=true) (·∈F) w w') (hF:∀ b∈F,∃ l∈W,b∈gh.ft l)
  (hG:All2 (zrw w') new G) (hn:(G.flatMap (·.2)).Nodup) (hf:∀ b∈G.flatMap (·.2),w.heap.size≤b):Rel C { st with objs:=os++new } (gh.ext st.objs.length G) a w':=by
 obtain⟨n1,n2⟩:=zda hn
 have hsz:=hfr.size
 have hold:∀ l,l<st.objs.length→(gh.ext st.objs.length G).ft l=gh.ft l∧(gh.ext st.objs.length G).hd l=gh.hd l∧(gh.ext st.objs.length G).bk l=gh.bk l:=fun l hl=>by simp[Gh.ext,hl]
 have hftl:∀ l b,st.objs.length≤l→b∈(gh.ext st.objs.length G).ft l→∃ g,G[l - st.objs.length]? = some g∧b∈g.2:=by
  intro l b hl hb
  simp only[Gh.ext,show ¬l<st.objs.length by omega,if_false] at hb
  split at hb
  ·rename_i g hg; exact⟨g,hg,hb⟩
  ·cases hb
 have hrow:∀ l g,G[l - st.objs.length]? = some g→∃ o,new[l - st.objs.length]? = some o∧zrw w' o g:=by
  intro l g hg
  have hl:=hG.len
  have hlt:l - st.objs.length<new.length:=by rw[hl]; exact (List.getElem?_eq_some_iff.1 hg).1
  obtain⟨g',hg',hr⟩:=hG.get (List.getElem?_eq_getElem hlt)
  rw[hg] at hg'
  simp only[Option.some.injEq] at hg'
  subst hg'
  exact⟨_,List.getElem?_eq_getElem hlt,hr⟩
 have hnew:∀ l b,st.objs.length≤l→b∈(gh.ext st.objs.length G).ft l→w.heap.size≤b∧b<w'.heap.size:=by
  intro l b hl hb
  obtain⟨g,hg,hb⟩:=hftl l b hl hb
  refine⟨hf b (List.mem_flatMap.2 ⟨g,List.mem_of_getElem? hg,hb⟩),?_⟩
  obtain⟨o,_,e,t,xs,_,hr⟩:=hrow l g hg
  exact hr.lt (fun x G c hR=>Deep.lt t hR) b hb
 have hWlt:∀ l∈W,l<st.objs.length:=fun l hl=>by
  rcases hturn l hl with ⟨e,s,ys,zs,L,o1,_⟩ | ⟨cs,t,y,arr,T,o1,_⟩
  ·exact z0o (by rw[o1]; simp)
  ·exact z0o (by rw[o1]; simp)
 have hobj:∀ l,l<st.objs.length→obj (os++new) l=obj os l:=fun l hl=>z29 (by omega)
 have hT:Tr C w gh st.objs w' (gh.ext st.objs.length G) (os++new) (·∈W) (fun _=>True):=by
  refine⟨hsz,fun b hb=>?_,fun k b hb hk=>?_,fun k hk hd=>?_,fun k hk _=>?_⟩
  ·by_cases hbF:b∈F
   ·obtain⟨l,hl,h'⟩:=hF b hbF
    exact .inr ⟨l,hl,h'⟩
   ·exact .inl (hfr.block b hb hbF)
  ·by_cases hl:k<st.objs.length
   ·rw[(hold k hl).1] at hk; exact⟨k,hk,.inl rfl⟩
   ·have:=hnew k b (by omega) hk; omega
  ·have hl:=z0o hd
   obtain⟨k1,k2,k3⟩:=hold k hl
   exact⟨by rw[hobj k hl,hsame k hk],k2,k3,k1⟩
  ·have hl:=hWlt k hk
   obtain⟨k1,k2,k3⟩:=hold k hl
   rcases hturn k hk with ⟨e,s,ys,zs,L,o1,o2,o3,o4⟩ | ⟨cs,t,y,arr,T,o1,o2,_⟩
   ·refine⟨k2,k3,fun e' t xs d L' ho=>?_,fun cs ho=>by (rw[o1] at ho; cases ho)⟩
    rw[o1] at ho
    cases ho
    exact⟨zs,true,L,by rw[hobj k hl]; exact o2,o3⟩
   ·exact⟨k2,k3,fun e' t xs d L' ho=>by (rw[o1] at ho; cases ho),fun cs ho=>⟨_,by rw[hobj k hl]; exact o2⟩⟩
 have hstay:∀ c:Leaf,(∀ l∈W,c.dies false l=false)→c.stays (·∈W) (fun _=>True):=by
  intro c hc
  cases c with
  | val t x L=>exact fun l hl=>hc l hl
  | ela t xs i o L=>exact fun l hl=>hc l hl
  | own k=>exact fun _=>trivial
  | oela k _ _=>exact fun _=>trivial
  | view k _ _=>exact fun _=>trivial
  | ptr k _=>exact fun _=>trivial
  | sub k _ _=>intro hk; have:=hc k hk; simp[Leaf.dies] at this
  | oel2 k _ _ _ _=>intro hk; have:=hc k hk; simp[Leaf.dies] at this
  | hol k _=>intro hk; have:=hc k hk; simp[Leaf.dies] at this
  | fn f caps=>exact fun _ _ _=>trivial
  | _=>trivial
 refine⟨h.fr.on hfr (fun i hi hlt=>?_) id,h.u0,h.gl,fun k b hb=>?_,fun k b hk hb=>?_,fun k k' b hb hb'=>?_,fun k=>?_,fun k b hb=>?_,fun k=>?_,fun k hk=>?_,h.fm,h.len,fun i=>?_,h.df,h.frm.mono fun c y hc hk=>z52 hT h.dj h.objs (hstay c fun l hl=>(hcl l hl).frm c hc) hk⟩
 ·obtain⟨l,hl,hb⟩:=hF i hi
  rcases h.own l i (hro l hl) hb with h' | h'
  ·omega
  ·exact h'
 ·by_cases e:k<st.objs.length
  ·rw[(hold k e).1] at hb; have:=h.lt _ _ hb; omega
  ·exact (hnew k b (by omega) hb).2
 ·by_cases e:k<st.objs.length
  ·rw[(hold k e).1] at hb; exact h.own _ _ hk hb
  ·left; have:=hnew k b (by omega) hb; have:=h.fr.size; omega
 ·by_cases e:k<st.objs.length<;>by_cases e':k'<st.objs.length
  ·rw[(hold k e).1] at hb; rw[(hold k' e').1] at hb'; exact h.dj _ _ _ hb hb'
  ·rw[(hold k e).1] at hb; have:=h.lt _ _ hb; have:=hnew k' b (by omega) hb'; omega
  ·rw[(hold k' e').1] at hb'; have:=h.lt _ _ hb'; have:=hnew k b (by omega) hb; omega
  ·obtain⟨g,hg,hb⟩:=hftl k b (by omega) hb
   obtain⟨g',hg',hb'⟩:=hftl k' b (by omega) hb'
   have:=n2 _ _ _ _ _ hg hg' hb hb'
   omega
 ·by_cases e:k<st.objs.length
  ·rw[(hold k e).1]; exact h.nd k
  ·simp only[Gh.ext,e,if_false]
   split
   ·rename_i g hg; exact n1 _ g hg
   ·exact List.nodup_nil
 ·by_cases e:k<st.objs.length
  ·rw[(hold k e).1] at hb; exact h.sep _ _ hb
  ·intro hu; have:=hnew k b (by omega) hb; have:=h.u0 _ hu; have:=h.fr.size; omega
 ·show z2n C w' _ (os++new) k (obj (os++new) k)
  by_cases e:k<st.objs.length
  ·by_cases hkW:k∈W
   ·rcases hturn k hkW with ⟨e',s,ys,zs,L,o1,o2,o3,o4⟩ | ⟨cs,t,y,arr,T,o1,o2,o3,o4,o5⟩
    ·rw[hobj k e,o2]
     show RowR _ _ _ _ ((gh.ext _ _).hd k) ((gh.ext _ _).ft k) zs
     rw[(hold k e).1,(hold k e).2.1]
     exact o4
    ·rw[hobj k e,o2]
     obtain⟨k1,k2,k3⟩:=hold k e
     exact⟨by rw[k1,k3]; exact o3,arr,T,by rw[k3]; exact o4,z3t t (o5.sub hU)⟩
   ·by_cases hd:obj st.objs k=.dead
    ·have:=h.objs k
     rw[hd] at this
     rw[hobj k e,hsame k hkW,hd]
     show (gh.ext _ _).ft k=[]
     rw[(hold k e).1]; exact this
    ·refine zhl hT h.dj h.objs h.lt hkW hd ?_
     cases ho:obj st.objs k with
     | dead=>exact absurd ho hd
     | hol _ _ _=>exact trivial
     | box cs=>exact fun c hc=>hstay c fun l hl=>(hcl l hl).boxes k cs ho c hc
     | row e2 t xs d L=>exact fun l hl=>(hcl l hl).rows _ _ _ _ _ _ ho
  ·cases hg:G[k - st.objs.length]? with
   | none=>
    have hlen2:=hG.len
    have:new.length≤k - st.objs.length:=by rw[hlen2]; simpa using hg
    rw[show obj (os++new) k=.dead by simp[obj,List.getD,List.getElem?_append,hlen,show ¬k<st.objs.length by omega,List.getElem?_eq_none this]]
    show (gh.ext _ _).ft k=[]
    simp[Gh.ext,show ¬k<st.objs.length by omega,hg]
   | some g=>
    obtain⟨o,ho,e',t,xs,rfl,hr⟩:=hrow k g hg
    rw[show obj (os++new) k=.row e' t xs true [] by simp[obj,List.getD,List.getElem?_append,hlen,show ¬k<st.objs.length by omega,ho]]
    show RowR _ _ _ _ ((gh.ext _ _).hd k) ((gh.ext _ _).ft k) xs
    simp only[Gh.ext,show ¬k<st.objs.length by omega,if_false,hg]
    exact hr
 ·have hk':k<st.fx:=hk
  obtain⟨k1,k2,k3⟩:=hold k (by omega)
  rw[k1,k2,k3]; exact h.fix k hk
 ·exact znw hT h.dj h.objs (z2r fun c hc=>hstay c fun l hl=>(hcl l hl).regs i c hc) (h.regs i)
theorem zfo {cb:CB} (h:Rel C st gh a w) {Lt:List Nat}:∀ (ps:List PIn) {vs:List SV} {args:List Value} {x:z6e ps} {L W:List Nat},All2 (SVOk (LeafOk C w gh st.objs)) vs args→z05 cb st.objs ps vs=some (x,L,W) →
  (∀ p∈ps,p.isClo=false)→W.Nodup→(∀ l,has L l=true→has Lt l=true)→∃ F,F.Nodup∧(∀ b∈F,∃ l∈W,b∈gh.ft l) ∧
   (∀ (U0:Nat→Prop) (Fm:List Nat),(∀ b,MutU U0 Fm b→UU C.U0 gh Lt b)→zpi C.P w U0 Fm ps x args F) ∧
   ∀ (w':World) (U:Nat→Prop) (Lc:List Nat) (y:z51 ps) (os1 os':Objs),os1.length=st.objs.length→zje w w' U ps x y args→(∀ l∈W,∀ e t xs d L,obj st.objs l=.row e t xs d L→obj os1 l=.row e t xs d L)→(∀ l∈W,∀ b∈gh.ft l,b∉F→w'.heap[b]? = w.heap[b]?)→z19 Lc os1 ps y vs=some os' →
    os'.length=os1.length∧(∀ k,k∉W→obj os' k=obj os1 k)∧∀ l∈W,y1a w' gh U Lc st.objs os' l
 | [],vs,args,x,L,W,ha,hg,_,_,_=>by
  cases vs with
  | cons _ _=>simp[z05] at hg
  | nil=>
   obtain rfl:=ha.nil_right
   simp only[z05,Option.some.injEq,Prod.mk.injEq] at hg
   obtain⟨_,rfl,rfl⟩:=hg
   refine⟨[],List.nodup_nil,by simp,fun U0 Fm _=>⟨rfl,rfl⟩,fun w' U Lc y os1 os' _ _ _ _ hp=>?_⟩
   simp only[z19,Option.some.injEq] at hp
   subst hp
   exact⟨rfl,fun _ _=>rfl,by simp⟩
 | .imm b t::ps,vs,args,x,L,W,ha,hg,hc,hW,hL=>by
  cases vs with
  | nil=>simp[z05] at hg
  | cons v vs=>
   cases args with
   | nil=>exact ha.elim
   | cons u args=>
    simp only[z05] at hg
    split at hg
    ·rename_i b' ls hls
     split at hg
     ·rename_i hb
      simp only[beq_iff_eq] at hb
      subst hb
      split at hg
      ·rename_i z L1 hgi
       split at hg
       ·rename_i q M W' hr
        simp only[Option.some.injEq,Prod.mk.injEq] at hg
        obtain⟨rfl,rfl,rfl⟩:=hg
        obtain⟨cs,hp,hcs⟩:=za2 ha.1 hls
        obtain⟨v1,v2,rfl,hi,h2⟩:=z58 h.dj h.sep0 h.lt h.objs t hcs hgi
        obtain rfl:=h2.nil_right
        rw[List.append_nil] at hp
        obtain⟨F,f1,f2,f3,f4⟩:=zfo h ps ha.2 hr (fun p hp=>hc p (by simp[hp])) hW (fun l hl=>hL l (by simp[z2o,hl]))
        exact⟨F,f1,f2,fun U0 Fm hU=>⟨u,v1,args,rfl,hp,hi.sub fun b _ hb=>UU.mono (fun l hl=>hL l (by simp[z2o,hl])) (hU b hb),f3 U0 Fm hU⟩,
         fun w' U Lc y os1 os' hln hm hos hsame hput=>f4 w' U Lc y os1 os' hln hm hos hsame (by simpa only[z19] using hput)⟩
       ·cases hg
      ·cases hg
     ·cases hg
    ·cases hg
 | .clo gs r::ps,vs,args,x,L,W,ha,hg,hc,hW,hL=>by
  have:=hc (.clo gs r) (by simp)
  simp[PIn.isClo] at this
 | .ptr t::ps,vs,args,x,L,W,ha,hg,hc,hW,hL=>by
  cases vs with
  | nil=>simp[z05] at hg
  | cons v vs=>
   cases args with
   | nil=>exact ha.elim
   | cons u args=>
    have hv0:∃ l off,v=.one (.ptr l off):=by
     cases v with
     | one c=>cases c<;>first | exact⟨_,_,rfl⟩ | simp[z05] at hg
     | agg _=>simp[z05] at hg
     | tup _=>simp[z05] at hg
    obtain⟨l,off,rfl⟩:=hv0
    simp only[z05] at hg
    split at hg
    case isFalse=>cases hg
    rename_i h0
    obtain rfl:off=0:=by simpa using h0
    split at hg
    case h_2=>cases hg
    rename_i ls hob
    split at hg
    case h_2=>cases hg
    rename_i z L1 hgi
    split at hg
    case h_2=>cases hg
    rename_i q M W' hr
    simp only[Option.some.injEq,Prod.mk.injEq] at hg
    obtain⟨rfl,rfl,rfl⟩:=hg
    obtain⟨n1,n2⟩:=List.nodup_cons.1 hW
    have hu:u=.pointer (some ⟨gh.bk l,0,none⟩):=ha.1.1.1
    have hbox:=h.objs l
    rw[hob] at hbox
    obtain⟨b1,arr,T,b2,b3⟩:=hbox
    obtain⟨v1,v2,he,hi,h2⟩:=z58 h.dj h.sep0 h.lt h.objs t b3 hgi
    obtain rfl:=h2.nil_right
    rw[List.append_nil] at he
    have hll:l<st.objs.length:=z0o (by rw[hob]; simp)
    obtain⟨F2,f1,f2,f3,f4⟩:=zfo h ps ha.2 hr (fun p hp=>hc p (by simp[hp])) n2 (fun l hl=>hL l (by simp[z2o,hl]))
    have apart:gh.bk l∉F2:=by
     intro hb
     obtain⟨l',hl',hbl'⟩:=f2 _ hb
     have:=h.dj l l' (gh.bk l) (by rw[b1]; simp) hbl'
     exact n1 (this▸hl')
    refine⟨gh.bk l::F2,List.nodup_cons.2 ⟨apart,f1⟩,fun b hb=>?_,fun U0 Fm hU=>⟨gh.bk l,arr,T,args,F2,by rw[hu],b2,?_,rfl,f3 U0 Fm hU⟩,fun w' U Lc y os1 os' hln hm hos hsame hput=>?_⟩
    ·rcases List.mem_cons.1 hb with rfl | hb
     ·exact⟨l,by simp,by rw[b1]; simp⟩
     ·obtain⟨l',hl',h'⟩:=f2 b hb; exact⟨l',by simp[hl'],h'⟩
    ·rw[he]
     exact hi.sub fun b _ hb=>UU.mono (fun l hl=>hL l (by simp[z2o,hl])) (hU b hb)
    ·simp only[z19] at hput
     obtain⟨m1,m2⟩:=hm
     obtain⟨arr',T',m3,m4⟩:=m1 (gh.bk l) (by rw[hu]; rfl)
     obtain⟨l2,k2,t2⟩:=f4 w' U Lc y.2 (os1.set l (.box (z2k t y.1 Lc))) os' (by simpa using hln) m2 (fun l' hl' e t xs d L ho=>by
       rw[z01 (os:=os1) (l:=l) (k:=l') (fun heq=>n1 (heq▸hl'))]; exact hos l' (by simp[hl']) e t xs d L ho) (fun l' hl' b hb hbF=>hsame l' (by simp[hl']) b hb fun hmm=>by
       rcases List.mem_cons.1 hmm with rfl | hmm
       ·have:=h.dj l l' (gh.bk l) (by rw[b1]; simp) hb
        exact n1 (this▸hl')
       ·exact hbF hmm) hput
     refine⟨l2.trans (by simp),fun k hk=>?_,fun l' hl'=>?_⟩
     ·simp only[List.mem_cons,not_or] at hk
      rw[k2 k hk.2,z01 (os:=os1) (l:=l) hk.1]
     ·rcases List.mem_cons.1 hl' with rfl | hl'
      ·exact .inr ⟨ls,t,y.1,arr',T',hob,by rw[k2 l' n1,z0a (by omega)],b1,m3,m4⟩
      ·exact t2 l' hl'
 | .mut b t::ps,vs,args,x,L,W,ha,hg,hc,hW,hL=>by
  cases vs with
  | nil=>simp[z05] at hg
  | cons v vs=>
   cases args with
   | nil=>exact ha.elim
   | cons u args=>
    simp only[z05] at hg
    split at hg
    ·rename_i b' ls hls
     split at hg
     ·rename_i hb
      simp only[beq_iff_eq] at hb
      subst hb
      split at hg
      ·rename_i z L1 hgi
       split at hg
       ·rename_i q M W' hr
        simp only[Option.some.injEq,Prod.mk.injEq] at hg
        obtain⟨rfl,rfl,rfl⟩:=hg
        obtain⟨n1,n2,n3⟩:=List.nodup_append.1 hW
        obtain⟨cs,hp,hcs⟩:=za2 ha.1 hls
        obtain⟨v1,v2,F1,rfl,d1,h2,g1,g2,g3⟩:=zsv h.dj h.nd h.objs t hcs hgi n1
        obtain rfl:=h2.nil_right
        rw[List.append_nil] at hp
        obtain⟨F2,f1,f2,f3,f4⟩:=zfo h ps ha.2 hr (fun p hp=>hc p (by simp[hp])) n2 hL
        have apart:∀ b∈F1,b∉F2:=by
         intro b hb hb'
         obtain⟨l,hl,hbl⟩:=g2 b hb
         obtain⟨l',hl',hbl'⟩:=f2 b hb'
         exact n3 l hl l' hl' (h.dj _ _ _ hbl hbl')
        refine⟨F1++F2,List.nodup_append.2 ⟨g1,f1,fun b hb b' hb' e=>apart b hb (e▸hb')⟩,fun b hb=>?_,fun U0 Fm hU=>⟨u,v1,args,F1,F2,rfl,hp,d1,rfl,f3 U0 Fm hU⟩,fun w' U Lc y os1 os' hln hm hos hsame hput=>?_⟩
        ·rcases List.mem_append.1 hb with hb | hb
         ·obtain⟨l,hl,h⟩:=g2 b hb; exact⟨l,by simp[hl],h⟩
         ·obtain⟨l,hl,h⟩:=f2 b hb; exact⟨l,by simp[hl],h⟩
        ·simp only[z19,hls] at hput
         split at hput
         ·rename_i os2 hp1
          obtain⟨m1,m2⟩:=hm
          obtain⟨_,l1,k1,t1⟩:=g3 w' y.1 os1 os2 [] (m1 v1 hp) (fun l hl=>hos l (by simp[hl])) (fun l hl b hb hF=>hsame l (by simp[hl]) b hb fun hmm=>by
           rcases List.mem_append.1 hmm with hmm | hmm
           ·exact hF hmm
           ·obtain⟨l',hl',hbl'⟩:=f2 b hmm
            exact n3 l hl l' hl' (h.dj _ _ _ hb hbl')) hp1
          obtain⟨l2,k2,t2⟩:=f4 w' U Lc y.2 os2 os' (l1.trans hln) m2 (fun l hl e t xs d L ho=>by rw[k1 l fun h=>n3 l h l hl rfl]; exact hos l (by simp[hl]) e t xs d L ho) (fun l hl b hb hF=>hsame l (by simp[hl]) b hb fun hmm=>by
           rcases List.mem_append.1 hmm with hmm | hmm
           ·obtain⟨l',hl',hbl'⟩:=g2 b hmm
            exact n3 l' hl' l hl (h.dj _ _ _ hbl' hb)
           ·exact hF hmm) hput
          refine⟨l2.trans l1,fun k hk=>?_,fun l hl=>?_⟩
          ·simp only[List.mem_append,not_or] at hk
           rw[k2 k hk.2,k1 k hk.1]
          ·rcases List.mem_append.1 hl with hl | hl
           ·obtain⟨e,s,ys,zs,L',o1,o2,o3,o4⟩:=t1 l hl
            exact .inl ⟨e,s,ys,zs,L',o1,by rw[k2 l fun h=>n3 l hl l h rfl]; exact o2,o3,o4⟩
           ·exact t2 l hl
         ·cases hput
       ·cases hg
      ·cases hg
     ·cases hg
    ·cases hg
theorem zzt {E:Env} (hE:EnvOk C.P C.Γ E) {cb:CB} {o:Oper} (h:Rel C st gh a w) (hfx:st.fx≤st.objs.length) {c:Call} {f:Operand} (ho:o.op=.call c) (hc:c.callee=.value f) {g:FuncId} (hf:(st.ev f).leaf=.fn g []) {s:FSpec} (hs:z4i E.sig g=some s)
  {st':St} (hr:(zrp cb st o.dst s (c.args.toList.map st.ev)).run some=some st') {next:Act→World→Prop} {Q:Exit→Act→World→Prop} (hn:∀ gh' a' w',Rel C st' gh' a' w'→next a' w'):o.wp C.P a w next Q:=by
 obtain⟨hen,hF,hsq⟩:=hE.sig _ _ hs
 have hfv:=h.leaf f
 rw[hf] at hfv
 have hfv:a.eval f=.func (.func g) #[] #[]:=by simpa using hfv.1.1
 unfold zrp at hr
 split at hr
 ·cases hr
 rename_i x L W hg
 split at hr
 case isFalse=>cases hr
 rename_i hcond
 simp only[Bool.and_eq_true,List.all_eq_true,Bool.not_eq_true'] at hcond
 obtain⟨⟨⟨hWn,hLW⟩,hWro⟩,hclo⟩:=hcond
 have hWn:=zd2 hWn
 obtain⟨F,f1,f2,f3,f4⟩:=zfo (Lt:=L) h s.ins (zjb h c.args.toList) hg (fun p hp=>hclo p hp) hWn fun l hl=>hl
 have hFU:∀ b∈F,UU C.U0 gh L b:=fun b hb=>by
  obtain⟨l,hl,hbl⟩:=f2 b hb
  refine .inr ⟨l,?_,hbl⟩
  cases hh:has L l with
  | false=>rfl
  | true=>have:=hLW l (z8w.1 hh); rw[z8w.2 hl] at this; cases this
 simp only[Tree.run] at hr
 cases hy:s.fn x with
 | none=>rw[hy] at hr; cases hr
 | some y=>
 rw[hy] at hr
 simp only[Option.bind_some] at hr
 split at hr
 ·cases hr
 rename_i st1 hka
 split at hr
 ·cases hr
 rename_i os hput
 simp only[Tree.run,Option.some.injEq] at hr
 subst hr
 obtain⟨hr1,hcl,_,e1,e2,e3,e4,e5⟩:=Rel.killAll W h hka
 have hcalls:=hF x _ w (fun b=>UU C.U0 gh L b∧b∉F) F (fun b hb=>by
  rcases hb.1 with hb | ⟨l,_,hb⟩
  ·have:=h.u0 b (.inl hb); have:=h.fr.size; omega
  ·exact h.lt _ _ hb) (f3 _ _ fun b hb=>by
   rcases hb with hb | hb
   ·exact hb.1
   ·exact hFU b hb) f1 (fun b hb hu=>hu.2 hb) ((h.glob (L:=L) (F:=F) fun b hb=>(f2 b hb).elim fun l hl=>⟨l,hl.2⟩).next (Nat.le_refl _) (fun _ _ _=>rfl) fun b _ hz=>hz.imp And.left id) y hy
 unfold Oper.wp
 rw[zae h ho hc hfv hen]
 simp only[Oper.upon]
 rw[show (c.args.toList.map a.eval).toArray++#[]=(c.args.toList.map a.eval).toArray by simp]
 refine hcalls.mono ?_
 rintro e w' ⟨vs,Fd,rfl,hfr0,hnd,hfd,houts,hmuts⟩
 have hfr:FrQ (C.Γ.q=true) (·∈F) w w':=hfr0.imp hsq
 obtain⟨p1,p2,p3⟩:=f4 w' _ L y.2 st1.objs os e3 hmuts (fun l _ e t xs d L ho=>(e4 l e t xs d L).2 ho) (fun l hl b hb hbF=>hfr.block b (h.lt _ _ hb) hbF) hput
 obtain⟨G,hG,rfl,hleaf⟩:=z85 (C:=C) (L:=L) s.outs os.length houts
 have hUb:∀ b,b<w'.heap.size→UU C.U0 (gh.ext st1.objs.length G) L b→((UU C.U0 gh L b∧b∉F)∨b∈F∨b∈G.flatMap (·.2)):=by
  intro b hb hu
  by_cases hbF:b∈F
  ·exact .inr (.inl hbF)
  ·rcases hu with hu | ⟨l,hl,hb'⟩
   ·exact .inl ⟨.inl hu,hbF⟩
   ·by_cases hlt:l<st1.objs.length
    ·simp only[Gh.ext,hlt,if_true] at hb'
     exact .inl ⟨.inr ⟨l,hl,hb'⟩,hbF⟩
    ·simp only[Gh.ext,hlt,if_false] at hb'
     split at hb'
     ·rename_i g hg; exact .inr (.inr (List.mem_flatMap.2 ⟨g,List.mem_of_getElem? hg,hb'⟩))
     ·cases hb'
 have hrel:=hr1.lentNew (new:=(z0e L s.outs y.1 os.length).2) hUb hcl (fun l hl=>by
   have:=hWro l hl
   rw[e1]
   exact Nat.not_lt.1 fun hlt=>by have h2:Nat.blt l st.ro=true:=(by simpa using hlt); rw[h2] at this; cases this) p1 (by rw[e2,e3]; exact hfx) p2 (fun l hl=>by
   rcases p3 l hl with ⟨e,t,ys,zs,L',o1,o2⟩ | ⟨cs,t,z,arr,T,o1,o2⟩
   ·exact .inl ⟨e,t,ys,zs,L',(e4 l e t ys true L').2 o1,o2⟩
   ·obtain⟨cs',hcs⟩:=(e5 l).2 ⟨cs,o1⟩
    exact .inr ⟨cs',t,z,arr,T,hcs,o2⟩) hfr f2 hG hnd hfd
 refine hn _ _ w' (hrel.put (zco (hleaf _ _ (fun j g hj=>?_) (fun j o hj=>?_) hUb) (zog s.outs os.length houts)))
 ·rw[p1]
  simp only[Gh.ext,show ¬st1.objs.length+j<st1.objs.length by omega,if_false,Nat.add_sub_cancel_left,hj]
 ·simp only[obj,List.getD,List.getElem?_append,show ¬os.length+j<os.length by omega,if_false,Nat.add_sub_cancel_left,hj,Option.getD_some]
end
end Go.AM
