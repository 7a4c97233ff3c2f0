/- Functions of the library that turn a row of ours. No condition. -/
import Derived.Test.YtdcbankajhnepaaGreatAmCallM
import Derived.Sort.AssemblyPlain
set_option linter.unusedVariables false
set_option linter.unusedSimpArgs false
namespace Go.AM
section
variable {C:Ctx} {st:St} {gh:Gh} {a:Act} {w w':World}
def Ctx.lay (C:Ctx) (gh:Gh) (l:Nat) (w:World) (B:Nat→Prop):Ctx:=⟨C.P,C.Γ,fun b=>C.U0 b∨B b,fun _=>False,w,gh.up l (gh.hd l) [],[]⟩
theorem RowR.own {α:Type} {R:α→List Nat→List Value→Prop} {e size:Nat} {v:Value} {F:List Nat} {xs:List α} (h:RowR R w e size v F xs) {b:Nat} (hb:v.ownBlock=some b):b∈F:=by
 obtain⟨Fs,ess,_,rfl,_⟩:=h
 simp[hb]
theorem zu4 (h:Rel C st gh a w) {B:Nat→Prop} (hfx:st.fx=0) {l:Nat} (hro:st.ro≤l) {e:TypeId} {t:Ty} {xs:List t.den} {d:Bool} {L:List Nat} (ho:obj st.objs l=.row e t xs d L) (hown:∀ b,B b→b∈gh.ft l)
  {c:Leaf} {v:Value} (hd:c.dies true l=false) (hc:LeafOk C w gh st.objs c v):LeafOk (C.lay gh l w B) w (gh.up l (gh.hd l) []) (st.objs.set l .dead) c v:=by
 have uu:∀ {L:List Nat} {b:Nat},has L l=false→UU (C.lay gh l w B).U0 (gh.up l (gh.hd l) []) L b→UU C.U0 gh L b:=by
  rintro L b hL ((hb | hb) | ⟨k,hk,hb⟩)
  ·exact .inl hb
  ·exact .inr ⟨l,hL,hown b hb⟩
  ·by_cases e:k=l
   ·subst e; rw[Gh.up_ft] at hb; cases hb
   ·rw[Gh.up_ft_ne _ _ _ _ e] at hb; exact .inr ⟨k,hk,hb⟩
 have sub:∀ {k:Nat} {i:Int} {off:Nat} {v:Value},k≠l→SubR w gh st.objs k i off v→SubR w (gh.up l (gh.hd l) []) (st.objs.set l .dead) k i off v:=by
  rintro k i off v hk ⟨e,t,xs,L,g,og,n,c,s,z,ho,h0,h1,h2,hh,hcell⟩
  exact⟨e,t,xs,L,g,og,n,c,s,z,by rw[z01 hk,ho],h0,h1,h2,by rw[Gh.up_hd_ne _ _ _ _ hk,hh],hcell⟩
 have boxes:∀ {k:Nat},(∃ ds,obj st.objs k=.box ds)→∃ ds,obj (st.objs.set l .dead) k=.box ds:=by
  rintro k ⟨ds,hk⟩
  by_cases e:k=l
  ·subst e; rw[ho] at hk; cases hk
  ·exact⟨ds,by rw[z01 e,hk]⟩
 refine⟨?_,hc.2⟩
 replace hc:=hc.1
 cases c with
 | val t x L=>exact hc.sub fun b _ hb=>uu hd hb
 | ela t xs i off L=>
  obtain⟨h0,h1,b,o,c,hv,hi⟩:=hc
  exact⟨h0,h1,b,o,c,hv,hi.sub fun b _ hb=>uu hd hb⟩
 | sub k i off=>exact sub (by simpa[Leaf.dies] using hd) hc
 | oel2 k i off j o2=>
  have hk:k≠l:=by simpa[Leaf.dies] using hd
  obtain⟨e,t,xs,L,s,u,ys,b,ob,n,c,ho',h1,h2,h3,h4,h5⟩:=hc
  exact⟨e,t,xs,L,s,u,ys,b,ob,n,c,by rw[z01 hk,ho'],h1,h2,h3,sub hk h4,h5⟩
 | hol k q=>
  have hk:k≠l:=by simpa[Leaf.dies] using hd
  cases q with
  | hd=>obtain⟨hv,e,t,ys,ho'⟩:=hc; exact⟨by rw[Gh.up_hd_ne _ _ _ _ hk,hv],e,t,ys,by rw[z01 hk,ho']⟩
  | pl i=>obtain⟨e,t,ys,g,og,n,c,ho',h0,h1,hh,r⟩:=hc; exact⟨e,t,ys,g,og,n,c,by rw[z01 hk,ho'],h0,h1,by rw[Gh.up_hd_ne _ _ _ _ hk,hh],r⟩
  | el i=>obtain⟨e,t,ys,g,og,n,c,ho',h0,h1,hh,r⟩:=hc; exact⟨e,t,ys,g,og,n,c,by rw[z01 hk,ho'],h0,h1,by rw[Gh.up_hd_ne _ _ _ _ hk,hh],r⟩
 | own k=>
  have hk:k≠l:=by simpa[Leaf.dies] using hd
  obtain⟨hv,e,t,xs,d,L,ho'⟩:=hc
  exact⟨by rw[Gh.up_hd_ne _ _ _ _ hk,hv],e,t,xs,d,L,by rw[z01 hk,ho']⟩
 | ptr k off=>exact⟨hc.1,boxes hc.2⟩
 | oela k i off=>
  have hk:k≠l:=by simpa[Leaf.dies] using hd
  obtain⟨e,t,xs,d,L,g,og,n,c,ho',h0,h1,hh,hv⟩:=hc
  exact⟨e,t,xs,d,L,g,og,n,c,by rw[z01 hk,ho'],h0,h1,by rw[Gh.up_hd_ne _ _ _ _ hk,hh],hv⟩
 | view k lo hi=>
  have hk:k≠l:=by simpa[Leaf.dies] using hd
  obtain⟨e,t,xs,d,L,A,n,c,ho',h0,h1,h2,hh,hv⟩:=hc
  exact⟨e,t,xs,d,L,A,n,c,by rw[z01 hk,ho'],h0,h1,h2,by rw[Gh.up_hd_ne _ _ _ _ hk,hh],hv⟩
 | fn f caps=>exact⟨hc.1,fun p hp=>boxes (hc.2 p hp)⟩
 | clo gs r p=>
  obtain⟨g,caps,hv,hW⟩:=hc
  have hfr:=h.fr
  refine⟨g,caps,hv,fun W hs hb x y args hargs hy=>hW W (Nat.le_trans hfr.size hs) (fun b hlt hu=>?_) x y args ?_ hy⟩
  ·have hsz:=hfr.size
   rw[hb b (by show b<w.heap.size; omega) ?_]
   ·exact hfr.block b hlt (h.fm hfx b)
   ·rintro (hb' | hb')
    ·exact hu hb'
    ·rcases h.own l b hro (hown b hb') with h' | h'
     ·omega
     ·exact h.fm hfx b h'
  ·have:∀ (gs:List (Bool×Ty)) {x:zca gs} {args:List Value},zi5 (C.lay gh l w B).U0 gs x args W→zi5 C.U0 gs x args W:=by
    intro gs
    induction gs with
    | nil=>intro x args h; exact h
    | cons g gs ih=>
     intro x args h
     obtain⟨v,cs,r,h1,h2,h3,h4⟩:=h
     exact⟨v,cs,r,h1,h2,h3.sub fun b _ hb=>.inl hb,ih h4⟩
   exact this gs hargs
 | undef=>exact hc
 | skip=>exact hc
 | nilS=>exact hc
theorem Rel.lay (h:Rel C st gh a w) {B:Nat→Prop} (hfx:st.fx=0) {l:Nat} (hro:st.ro≤l) {e:TypeId} {t:Ty} {xs:List t.den} {d:Bool} {L:List Nat} (ho:obj st.objs l=.row e t xs d L) (hown:∀ b,B b→b∈gh.ft l) (hcl:Clear true l st):
  Rel (C.lay gh l w B) { regs:=[],objs:=st.objs.set l .dead,ro:=(st.objs.set l .dead).length,fx:=0,frm:=[] } (gh.up l (gh.hd l) []) { tmps:=#[],defers:=[] } w:=by
 have hl:l<st.objs.length:=z0o (by rw[ho]; simp)
 have ft:∀ k b,b∈(gh.up l (gh.hd l) []).ft k→k≠l∧b∈gh.ft k:=by
  intro k b hb
  by_cases e:k=l
  ·subst e; rw[Gh.up_ft] at hb; cases hb
  ·rw[Gh.up_ft_ne _ _ _ _ e] at hb; exact⟨e,hb⟩
 refine⟨Fr.refl _ _,fun b hb=>?_,?_,fun k b hb=>h.lt k b (ft k b hb).2,fun k b hk hb=>?_,fun k k' b hb hb'=>h.dj k k' b (ft k b hb).2 (ft k' b hb').2,fun k=>?_,fun k b hb=>?_,fun k=>?_,fun k hk=>⟨rfl,rfl,rfl⟩,fun _ b hb=>hb,rfl,fun i=>by simpa[St.reg] using SVOk.undef _,rfl,trivial⟩
 ·rcases hb with (hb | hb) | hb
  ·have:=h.u0 b (.inl hb); have:=h.fr.size; show b<w.heap.size; omega
  ·exact h.lt _ _ (hown b hb)
  ·have:=h.u0 b (.inr hb); have:=h.fr.size; show b<w.heap.size; omega
 ·refine h.gl.next h.fr.size (fun b hb hz=>h.fr.block b hb fun hm=>hz (.inr hm)) fun b h1 hz=>?_
  rcases hz with (hz | hz) | hz
  ·exact .inl hz
  ·exact absurd (.inr h1) (h.sep l b (hown b hz))
  ·exact hz.elim
 ·have hk:st.objs.length≤k:=by simpa using hk
  have:=(ft k b hb).2
  rw[z6f h hk] at this; cases this
 ·by_cases e:k=l
  ·subst e; rw[Gh.up_ft]; exact List.nodup_nil
  ·rw[Gh.up_ft_ne _ _ _ _ e]; exact h.nd k
 ·obtain⟨h1,h2⟩:=ft k b hb
  rintro ((hb' | hb') | hb')
  ·exact h.sep0 _ _ h2 hb'
  ·exact h1 (h.dj _ _ _ h2 (hown b hb'))
  ·exact h.sep _ _ h2 (.inr hb')
 ·show z2n _ w _ (st.objs.set l .dead) k (obj (st.objs.set l .dead) k)
  by_cases e':k=l
  ·subst e'
   rw[z0a hl]
   exact Gh.up_ft _ _ _ _
  ·have hb:=h.objs k
   rw[z01 e']
   cases hk:obj st.objs k with
   | dead=>
    rw[hk] at hb
    show (gh.up l (gh.hd l) []).ft k=[]
    rw[Gh.up_ft_ne _ _ _ _ e']; exact hb
   | box cs=>
    rw[hk] at hb
    obtain⟨h1,arr,T,h2,h3⟩:=hb
    exact⟨by rw[Gh.up_ft_ne _ _ _ _ e']; exact h1,arr,T,h2,h3.mono fun c v hc hv=>zu4 h hfx hro ho hown (hcl.boxes k cs hk c hc) hv⟩
   | hol e2 t2 ys2=>
    rw[hk] at hb
    show RowR _ _ _ _ ((gh.up l (gh.hd l) []).hd k) ((gh.up l (gh.hd l) []).ft k) ys2
    rw[Gh.up_hd_ne _ _ _ _ e',Gh.up_ft_ne _ _ _ _ e']
    exact hb
   | row e2 t2 xs2 d2 L2=>
    rw[hk] at hb
    show RowR _ _ _ _ ((gh.up l (gh.hd l) []).hd k) ((gh.up l (gh.hd l) []).ft k) xs2
    rw[Gh.up_hd_ne _ _ _ _ e',Gh.up_ft_ne _ _ _ _ e']
    refine RowR.congr hb (fun _ _=>rfl) fun x G c hG hR=>?_
    unfold z38 at hR ⊢
    cases d2 with
    | true=>exact hR
    | false=>
     refine⟨hR.1,hR.2.sub fun b hlt hbu=>?_⟩
     have hL:=hcl.rows _ _ _ _ _ _ hk
     rcases hbu with (hb | hb) | ⟨j,hj,hb⟩
     ·exact .inl hb
     ·exact .inr ⟨l,hL,hown b hb⟩
     ·exact .inr ⟨j,hj,(ft j b hb).2⟩
theorem zkt {cb:CB} (hcb:CBOk C.P C.Γ cb) (h:Rel C st gh a w) {B:Nat→Prop} (hfx:st.fx=0) {l:Nat} (hro:st.ro≤l) {e:TypeId} {t:Ty} {xs:List t.den} {d:Bool} {L:List Nat} (ho:obj st.objs l=.row e t xs d L) (hown:∀ b,B b→b∈gh.ft l) (hcl:Clear true l st)
  {sv:SV} {v:Value} (hv:SVOk (LeafOk C w gh st.objs) sv v) {gs:List (Bool×Ty)} {r:Ty} {p:zca gs→Option r.den} (hp:zqe cb (st.objs.set l .dead) gs r sv=some p):
  ztj C.P v gs r p w (C.lay gh l w B).U0:=by
 have hR:=h.lay hfx hro ho hown hcl
 unfold zqe at hp
 split at hp
 ·rename_i g caps
  simp only[Option.some.injEq] at hp
  subst hp
  obtain⟨hvv,hc⟩:=hv.1
  have hh:=hcb (C.lay gh l w B) _ _ _ _ rfl rfl hR rfl g caps gs r fun p hp=>by
   obtain⟨cs,hb⟩:=hc p hp
   by_cases e:p.1=l
   ·rw[e,ho] at hb; cases hb
   ·exact⟨cs,by show obj (st.objs.set l .dead) p.1=_; rw[z01 e,hb]⟩
  rw[hvv]
  exact hh
 ·rename_i gs' r' q
  split at hp
  ·rename_i hg
   obtain⟨rfl,rfl⟩:=hg
   simp only[Option.some.injEq] at hp
   subst hp
   exact (zu4 (l:=l) h hfx hro ho hown (by simp[Leaf.dies]) hv).1
  ·cases hp
 ·cases hp
theorem zix (h:Rel C st gh a w) {l:Nat} {t:Ty} {d:Bool} {L:List Nat} (hL:has L l=false) {Fs:List (List Nat)}
  (hF:gh.ft l=(gh.hd l).ownBlock.toList++Fs.flatten) {x:t.den} {F:List Nat} {cs:List Value} (hFs:F∈Fs) (hx:z38 C w gh t d L x F cs) {W:World} (hs:w.heap.size≤W.heap.size)
  (hb:∀ k,k<w.heap.size→(gh.hd l).ownBlock≠some k→W.heap[k]? = w.heap[k]?):ImmS t x cs W (C.lay gh l w fun b=>(gh.hd l).ownBlock=some b).U0:=by
 have hnd:=h.nd l
 rw[hF] at hnd
 have hn:∀ b∈F,(gh.hd l).ownBlock≠some b:=fun b hbF hh=>(List.nodup_append.1 hnd).2.2 b (by simp[hh]) b (List.mem_flatten.2 ⟨F,hFs,hbF⟩) rfl
 have hown:∀ b,(gh.hd l).ownBlock=some b→b∈gh.ft l:=fun b hb=>by rw[hF]; simp[hb]
 have h0:ImmS t x cs w (C.lay gh l w fun b=>(gh.hd l).ownBlock=some b).U0:=by
  unfold z38 at hx
  cases d with
  | true=>
   refine ImmS.ofDeep (by simpa using hx) fun b hbF=>?_
   rintro (hu | hu)
   ·exact h.sep0 l b (by rw[hF]; exact List.mem_append.2 (.inr (List.mem_flatten.2 ⟨F,hFs,hbF⟩))) hu
   ·exact hn b hbF hu
  | false=>
   refine hx.2.sub fun b _ hu=>?_
   rcases hu with hu | hu
   ·exact .inl hu
   ·exact .inr ⟨l,hL,hown b hu⟩
 exact h0.next hs (fun b hlt hu=>hb b hlt fun hh=>hu (.inr hh)) fun b _ hb=>hb
theorem AllR.pick {α:Type} {R S:α→List Nat→List Value→Prop} {xs:List α} {Fs:List (List Nat)} {cs:List (List Value)} (h:AllR R xs Fs cs) {z:α} (hRS:∀ x F c,F∈Fs→R x F c→S x F c):∀ {σ:List Nat},(∀ i∈σ,i<xs.length) →
  AllR S (σ.map (xs.getD · z)) (σ.map (Fs.getD · [])) (σ.map (cs.getD · []))
 | [],_=>trivial
 | i::σ,hσ=>by
  have hi:=hσ i (by simp)
  obtain⟨F,c,hF,hc,hr⟩:=h.get (List.getElem?_eq_getElem hi)
  refine⟨?_,h.pick hRS fun j hj=>hσ j (by simp[hj])⟩
  have e1:xs.getD i z=xs[i]:=by simp[List.getD,List.getElem?_eq_getElem hi]
  have e2:Fs.getD i []=F:=by simp[List.getD,hF]
  have e3:cs.getD i []=c:=by simp[List.getD,hc]
  show S (xs.getD i z) (Fs.getD i []) (cs.getD i [])
  rw[e1,e2,e3]
  exact hRS _ _ _ (List.mem_of_getElem? hF) hr
theorem zid {Fs:List (List Nat)} (h:Fs.flatten.Nodup):∀ {σ:List Nat},σ.Nodup→((σ.map (Fs.getD · [])).flatten.Nodup∧∀ b∈(σ.map (Fs.getD · [])).flatten,b∈Fs.flatten)
 | [],_=>by simp
 | i::σ,hσ=>by
  obtain⟨h1,h2⟩:=List.nodup_cons.1 hσ
  obtain⟨h3,h4⟩:=zid h h2
  have hin:∀ b∈Fs.getD i [],b∈Fs.flatten:=by
   intro b hb
   by_cases hi:i<Fs.length
   ·rw[show Fs.getD i []=Fs[i] by simp[List.getD,List.getElem?_eq_getElem hi]] at hb
    exact List.mem_flatten.2 ⟨_,List.getElem_mem hi,hb⟩
   ·rw[show Fs.getD i []=[] by simp[List.getD,List.getElem?_eq_none (by omega:Fs.length≤i)]] at hb; cases hb
  have key:∀ (Fs:List (List Nat)),Fs.flatten.Nodup→(∀ i,(Fs.getD i []).Nodup)∧∀ i j b,i≠j→b∈Fs.getD i []→b∉Fs.getD j []:=by
   intro Fs
   induction Fs with
   | nil=>intro _; exact⟨fun i=>by simp,fun i j b _ hb=>by simp at hb⟩
   | cons F Fs ih=>
    intro hn
    simp only[List.flatten_cons] at hn
    obtain⟨n1,n2,n3⟩:=List.nodup_append.1 hn
    obtain⟨k1,k2⟩:=ih n2
    have hin:∀ i b,b∈Fs.getD i []→b∈Fs.flatten:=by
     intro i b hb
     by_cases hi:i<Fs.length
     ·rw[show Fs.getD i []=Fs[i] by simp[List.getD,List.getElem?_eq_getElem hi]] at hb
      exact List.mem_flatten.2 ⟨_,List.getElem_mem hi,hb⟩
     ·rw[show Fs.getD i []=[] by simp[List.getD,List.getElem?_eq_none (by omega:Fs.length≤i)]] at hb; cases hb
    refine⟨fun i=>?_,fun i j b hij hb hb'=>?_⟩
    ·cases i with
     | zero=>simpa using n1
     | succ i=>simpa using k1 i
    ·cases i with
     | zero=>
      cases j with
      | zero=>exact hij rfl
      | succ j=>exact n3 b (by simpa using hb) b (hin _ b (by simpa using hb')) rfl
     | succ i=>
      cases j with
      | zero=>exact n3 b (by simpa using hb') b (hin _ b (by simpa using hb)) rfl
      | succ j=>exact k2 i j b (by omega) (by simpa using hb) (by simpa using hb')
  obtain⟨k1,k2⟩:=key Fs h
  refine⟨?_,fun b hb=>?_⟩
  ·simp only[List.map_cons,List.flatten_cons]
   refine List.nodup_append.2 ⟨k1 i,h3,fun b hb b' hb' e=>?_⟩
   subst e
   obtain⟨G,hG,hbG⟩:=List.mem_flatten.1 hb'
   obtain⟨j,hj,rfl⟩:=List.mem_map.1 hG
   exact k2 i j b (fun e=>h1 (e▸hj)) hb hbG
  ·simp only[List.map_cons,List.flatten_cons,List.mem_append] at hb
   rcases hb with hb | hb
   ·exact hin b hb
   ·exact h4 b hb
theorem Rel.pick (h:Rel C st gh a w) {m:Bool} {l:Nat} (hcl:Clear m l st) (hro:st.ro≤l) (hfx:st.fx≤l) {e:TypeId} {t:Ty} {xs:List t.den} {d:Bool} {L:List Nat} (ho:obj st.objs l=.row e t xs d L)
  {Fs:List (List Nat)} {ess:List (List Value)} (ha:AllR (z38 C w gh t d L) xs Fs ess) (hF:gh.ft l=(gh.hd l).ownBlock.toList++Fs.flatten) {v':Value} {σ:List Nat} (hσ:σ.Nodup) (hlt:∀ i∈σ,i<xs.length)
  (hm:m=false→v'=gh.hd l∧σ.length=xs.length) (hob:v'.ownBlock=(gh.hd l).ownBlock) (how:OwnR w' e t.size v' σ.length (σ.map (ess.getD · [])).flatten) (hfr:Fr (fun k=>(gh.hd l).ownBlock=some k) w w'):
  ∃ gh',Rel C { st with objs:=st.objs.set l (.row e t (σ.map (xs.getD · t.zero)) d L) } gh' a w'∧gh'.hd l=v':=by
 have hl:l<st.objs.length:=z0o (by rw[ho]; simp)
 have hL:=hcl.rows _ _ _ _ _ _ ho
 have hnd:=h.nd l
 rw[hF] at hnd
 obtain⟨n1,n2,n3⟩:=List.nodup_append.1 hnd
 obtain⟨p1,p2⟩:=zid n2 hσ
 have hFin:∀ b∈v'.ownBlock.toList++(σ.map (Fs.getD · [])).flatten,b∈gh.ft l:=by
  intro b hb
  rw[hF]
  rcases List.mem_append.1 hb with hb | hb
  ·exact List.mem_append.2 (.inl (hob▸hb))
  ·exact List.mem_append.2 (.inr (p2 b hb))
 have hrel:=h.write (m:=m) (l:=l) (o':=.row e t (σ.map (xs.getD · t.zero)) d L) (hd':=v') (F':=v'.ownBlock.toList++(σ.map (Fs.getD · [])).flatten) hcl hro hl
  (⟨hfr.os,hfr.tape,hfr.output,hfr.size,fun k hk hn=>hfr.block k hk fun hh=>hn (by rw[hF]; simp[hh]),hfr.drawn⟩) (fun hm0=>⟨(hm hm0).1,fun e2 t2 xs2 d2 L2 he=>by rw[ho] at he; cases he; exact⟨_,_,_,rfl,by rw[List.length_map]; exact (hm hm0).2⟩,fun cs he=>by rw[ho] at he; cases he⟩) (fun hlt=>by omega) (fun b hb=>.inl (hFin b hb))
  (List.nodup_append.2 ⟨hob▸n1,p1,fun b hb b' hb' e=>n3 b (hob▸hb) b' (p2 b' hb') e⟩) ?_
 ·exact⟨_,hrel,Gh.up_hd _ _ _ _⟩
 ·show RowR _ _ _ _ ((gh.up l v' _).hd l) ((gh.up l v' _).ft l) _
  rw[Gh.up_hd,Gh.up_ft]
  refine⟨_,_,ha.pick (fun x F c hFm hx=>?_) hlt,rfl,?_⟩
  ·have hn:∀ b∈F,(gh.hd l).ownBlock≠some b:=fun b hbF hh=>n3 b (by simp[hh]) b (List.mem_flatten.2 ⟨F,hFm,hbF⟩) rfl
   unfold z38 at hx ⊢
   cases d with
   | true=>
    have hx:Deep t w x F c:=by simpa using hx
    simpa using Deep.congr t hx fun b hbF=>hfr.block b (Deep.lt t hx b hbF) (hn b hbF)
   | false=>
    refine⟨hx.1,hx.2.next hfr.size (fun b hb hu=>hfr.block b hb fun hh=>hu (.inr ⟨l,hL,by rw[hF]; simp[hh]⟩)) fun b _ hb=>?_⟩
    rcases hb with hb | ⟨j,hj,hb⟩
    ·exact .inl hb
    ·by_cases e:j=l
     ·subst e; rw[Gh.up_ft] at hb; exact .inr ⟨j,hj,hFin b hb⟩
     ·rw[Gh.up_ft_ne _ _ _ _ e] at hb; exact .inr ⟨j,hj,hb⟩
  ·simpa using how
theorem zqv (b:Bool) (bs:List Bool):z4d (b::bs)=(if b then [] else [0])++(z4d bs).map (·+1):=by
 unfold z4d
 rw[List.length_cons,List.range_succ_eq_map,List.filter_cons]
 have:List.filter (fun i=>!(b::bs).getD i true) (List.map Nat.succ (List.range bs.length))=((List.range bs.length).filter fun i=>!bs.getD i true).map (·+1):=by
  rw[List.filter_map]
  congr 1
 rw[this]
 cases b<;>simp
theorem zne (bs:List Bool):(z4d bs).Nodup∧∀ i∈z4d bs,i<bs.length:=
 ⟨List.nodup_range.filter _,fun i hi=>List.mem_range.1 (List.mem_filter.1 hi).1⟩
theorem zja {α:Type} {p:α→Option Bool} {z:α}:∀ {xs ys:List α},zdb p xs=some ys→∃ bs:List Bool,bs.length=xs.length∧(∀ (j:Nat) x b,xs[j]? = some x→bs[j]? = some b→p x=some b)∧ys=(z4d bs).map (xs.getD · z)
 | [],ys,h=>by
  simp only[zdb,Option.some.injEq] at h
  exact⟨[],rfl,by simp,by simp[z4d,←h]⟩
 | x::xs,ys,h=>by
  unfold zdb at h
  split at h
  ·rename_i b hb
   split at h
   ·rename_i zs hz
    obtain⟨bs,h1,h2,h3⟩:=zja (z:=z) hz
    simp only[Option.some.injEq] at h
    refine⟨b::bs,by simp[h1],fun j y c hj hc=>?_,?_⟩
    ·cases j with
     | zero=>simp at hj hc; subst hj hc; exact hb
     | succ j=>exact h2 j y c (by simpa using hj) (by simpa using hc)
    ·rw[zqv,←h,h3]
     cases b<;>simp
   ·cases h
  ·cases h
theorem zp9 {α:Type} {z:α} {xs:List α} {i j:Nat} (hi:i≤j) (hj:j≤xs.length):
  xs.take i++xs.drop j=(List.range i++List.range' j (xs.length - j)).map (xs.getD · z)∧(List.range i++List.range' j (xs.length - j)).Nodup∧∀ k∈List.range i++List.range' j (xs.length - j),k<xs.length:=by
 refine⟨?_,List.nodup_append.2 ⟨List.nodup_range,List.nodup_range',fun a ha b hb e=>?_⟩,fun k hk=>?_⟩
 ·rw[List.map_append]
  congr 1
  ·apply List.ext_getElem
   ·simp; omega
   ·intro k h1 h2
    simp at h1 h2
    simp[List.getD,List.getElem?_eq_getElem (show k<xs.length by omega)]
  ·apply List.ext_getElem
   ·simp
   ·intro k h1 h2
    simp at h1 h2
    simp[List.getD,List.getElem?_eq_getElem (show j+k<xs.length by omega)]
 ·have:=List.mem_range.1 ha
  have:=(List.mem_range'.1 hb)
  obtain⟨q,hq,rfl⟩:=this
  omega
 ·rcases List.mem_append.1 hk with hk | hk
  ·have:=List.mem_range.1 hk; omega
  ·obtain⟨q,hq,rfl⟩:=List.mem_range'.1 hk
   omega
theorem zjq {α:Type} {p:α→α→Option Int} {z:α} {xs ys:List α} (h:zab p xs=some ys):
  (∀ (i j:Nat) x y,xs[i]? = some x→xs[j]? = some y→p x y=some (z4m p xs i j))∧Go.Sort.SWO (z4x xs.length (z4m p xs))∧(z2w xs.length (z4m p xs)).Nodup∧(∀ i∈z2w xs.length (z4m p xs),i<xs.length) ∧
   ys=(z2w xs.length (z4m p xs)).map (xs.getD · z)∧(z2w xs.length (z4m p xs)).length=xs.length∧xs.length<4611686018427387904:=by
 unfold zab at h
 split at h
 case isFalse=>cases h
 rename_i hok
 simp only[Option.some.injEq] at h
 unfold zn3 at hok
 rw[Bool.and_eq_true,decide_eq_true_eq] at hok
 obtain⟨hbig,hok⟩:=hok
 simp only[List.all_eq_true,Bool.and_eq_true,Bool.not_eq_true',Bool.or_eq_true,Bool.and_eq_false_iff] at hok
 have hm:∀ (i j:Nat) x y,xs[i]? = some x→xs[j]? = some y→p x y=some (z4m p xs i j):=by
  intro i j x y hi hj
  have:=((hok x (List.mem_of_getElem? hi)).2 y (List.mem_of_getElem? hj)).1
  unfold z4m
  rw[hi,hj]
  cases hp:p x y with
  | none=>rw[hp] at this; cases this
  | some v=>show some v=some ((p x y).getD 0); rw[hp]; rfl
 have hl:∀ (i j:Nat) x y,xs[i]? = some x→xs[j]? = some y→decide (z4m p xs i j<0)=zfv p x y:=by
  intro i j x y hi hj
  unfold zfv
  rw[hm i j x y hi hj]
  rfl
 have hw:Go.Sort.SWO (z4x xs.length (z4m p xs)):=by
  by_cases h0:xs.length=0
  ·have hz:∀ i j,z4x xs.length (z4m p xs) i j=false:=by
    intro i j
    have:xs=[]:=List.length_eq_zero_iff.1 h0
    subst this
    simp[z4x,z4m]
   exact⟨fun x=>hz _ _,fun x y w h=>(by rw[hz] at h; cases h),fun x y w _ _=>hz _ _⟩
  ·have hg:∀ i,∃ x,xs[min i (xs.length - 1)]? = some x:=fun i=>⟨_,List.getElem?_eq_getElem (by omega)⟩
   have hs:∀ i j x y,xs[min i (xs.length - 1)]? = some x→xs[min j (xs.length - 1)]? = some y→z4x xs.length (z4m p xs) i j=zfv p x y:=fun i j x y hi hj=>hl _ _ x y hi hj
   refine⟨fun i=>?_,fun i j k h1 h2=>?_,fun i j k h1 h2=>?_⟩
   ·obtain⟨x,hx⟩:=hg i
    rw[hs i i x x hx hx]
    exact (hok x (List.mem_of_getElem? hx)).1
   ·obtain⟨x,hx⟩:=hg i
    obtain⟨y,hy⟩:=hg j
    obtain⟨u,hu⟩:=hg k
    rw[hs i j x y hx hy] at h1
    rw[hs j k y u hy hu] at h2
    rw[hs i k x u hx hu]
    have:=(((hok x (List.mem_of_getElem? hx)).2 y (List.mem_of_getElem? hy)).2 u (List.mem_of_getElem? hu)).1
    rcases this with (h3 | h3) | h3
    ·rw[h1] at h3; cases h3
    ·rw[h2] at h3; cases h3
    ·exact h3
   ·obtain⟨x,hx⟩:=hg i
    obtain⟨y,hy⟩:=hg j
    obtain⟨u,hu⟩:=hg k
    rw[hs i j x y hx hy] at h1
    rw[hs j k y u hy hu] at h2
    rw[hs i k x u hx hu]
    have:=(((hok x (List.mem_of_getElem? hx)).2 y (List.mem_of_getElem? hy)).2 u (List.mem_of_getElem? hu)).2
    rcases this with (h3 | h3) | h3
    ·rw[h1] at h3; cases h3
    ·rw[h2] at h3; cases h3
    ·exact h3
 have hps:=(Go.Sort.pdq_sorts (z4x xs.length (z4m p xs)) hw (List.range xs.length).toArray 0 xs.length (Go.Lib.bitLen xs.length) true true (Nat.zero_le _) (by simp) (Or.inl rfl)).1
 have hd:(Go.Sort.pdq (z4x xs.length (z4m p xs)) (List.range xs.length).toArray 0 xs.length (Go.Lib.bitLen xs.length) true true).size=xs.length:=by rw[hps.1]; simp
 have hperm:(z2w xs.length (z4m p xs)).Perm (List.range xs.length):=by
  have hp:=hps.2.2
  have e1:(Go.Sort.pdq (z4x xs.length (z4m p xs)) (List.range xs.length).toArray 0 xs.length (Go.Lib.bitLen xs.length) true true).extract 0 xs.length=Go.Sort.pdq (z4x xs.length (z4m p xs)) (List.range xs.length).toArray 0 xs.length (Go.Lib.bitLen xs.length) true true:=by
   apply Array.ext
   ·rw[Array.size_extract,hd]; omega
   ·intro i h1 h2; simp
  rw[e1] at hp
  have e2:((List.range xs.length).toArray.extract 0 xs.length).toList=List.range xs.length:=by simp
  rw[e2] at hp
  exact hp
 have hlt:∀ i∈z2w xs.length (z4m p xs),i<xs.length:=fun i hi=>List.mem_range.1 (hperm.mem_iff.1 hi)
 refine⟨hm,hw,hperm.nodup_iff.2 List.nodup_range,hlt,?_,by rw[hperm.length_eq,List.length_range],hbig⟩
 rw[←h]
 clear h hperm hps hd
 generalize z2w xs.length (z4m p xs)=σ at hlt
 induction σ with
 | nil=>rfl
 | cons i σ ih=>
  have hi:=hlt i (by simp)
  rw[List.filterMap_cons,List.getElem?_eq_getElem hi,List.map_cons,ih fun j hj=>hlt j (by simp[hj])]
  simp[List.getD,List.getElem?_eq_getElem hi]
theorem OwnR.piece {w:World} {e size:Nat} {A:Option Addr} {n c:Nat} {ess:List (List Value)} (hs:∀ d∈ess,d.length=size) (h:OwnR w e size (.slice A n c) ess.length ess.flatten) {i j:Nat} (hij:i≤j) (hj:j≤ess.length):
  OwnR w e size (.slice (if c=i then A else A.map (·.add (i*size))) (j - i) (c - i)) (j - i) ((ess.take j).drop i).flatten:=by
 have hlen:((ess.take j).drop i).length=j - i:=by simp; omega
 have hs':∀ d∈(ess.take j).drop i,d.length=size:=fun d hd=>hs d (List.mem_of_mem_take (List.mem_of_mem_drop hd))
 refine⟨by rw[z2j hs',hlen],?_⟩
 rcases h.2 with ⟨hv,h0⟩ | ⟨g,o,cap,cur,hv,hg,hc,hm,hcs,ht⟩
 ·simp only[Value.slice.injEq] at hv
  obtain⟨rfl,rfl,rfl⟩:=hv
  left
  have:i=0:=by omega
  have:j=0:=by omega
  subst_vars
  simp
 ·simp only[Value.slice.injEq] at hv
  obtain⟨rfl,rfl,rfl⟩:=hv
  right
  have hpc:((ess.take j).drop i).flatten=(ess.flatten.take (j*size)).drop (i*size):=by
   have key:∀ (ls:List (List Value)),(∀ d∈ls,d.length=size)→∀ k,(ls.take k).flatten=ls.flatten.take (k*size)∧(ls.drop k).flatten=ls.flatten.drop (k*size):=by
    intro ls
    induction ls with
    | nil=>intro _ k; simp
    | cons d ls ih=>
     intro hd k
     cases k with
     | zero=>simp
     | succ k=>
      obtain⟨q1,q2⟩:=ih (fun d' h'=>hd d' (by simp[h'])) k
      have hdl:=hd d (by simp)
      refine⟨?_,?_⟩
      ·rw[List.take_succ_cons,List.flatten_cons,List.flatten_cons,q1,Nat.succ_mul,Nat.add_comm,←hdl,List.take_length_add_append,hdl]
      ·rw[List.drop_succ_cons,List.flatten_cons,q2,Nat.succ_mul,Nat.add_comm,←hdl,List.drop_length_add_append,hdl]
   rw[(key _ (fun d hd=>hs d (List.mem_of_mem_take hd)) i).2,(key _ hs j).1]
  have hmul:ess.length*size≤c*size:=Nat.mul_le_mul_right _ hc
  have hmj:j*size≤ess.length*size:=Nat.mul_le_mul_right _ hj
  have hmi:i*size≤j*size:=Nat.mul_le_mul_right _ hij
  by_cases hci:c=i
  ·have:i=j:=by omega
   subst this
   refine⟨g,o,0,cur,by rw[if_pos hci,hci,Nat.sub_self],hg,by omega,by omega,by simp; omega,?_⟩
   rw[hpc,Nat.sub_self,Nat.zero_mul,List.take_zero,List.drop_of_length_le (by rw[List.length_take]; omega)]
  ·refine⟨g,o+i*size,c - i,cur,by rw[if_neg hci,Option.map_some,zdl],hg,by omega,by omega,?_,?_⟩
   ·rw[Nat.sub_mul]
    have:i*size≤c*size:=Nat.mul_le_mul_right _ (by omega)
    omega
   ·rw[hpc,←ht,List.take_take,Nat.min_eq_left (by omega),List.drop_take,List.drop_drop,Nat.sub_mul]
theorem y20 {E:Env} (hE:EnvOk C.P C.Γ E) {o:Oper} (h:Rel C st gh a w) {T:TypeId} {x:Operand} {lo hi:Option Operand} (ho:o.op=.slice T x lo hi none) {l:Nat} (hx:st.ev x=.one (.own l)) {st':St}
  (hr:(cutT (szIs (z3b E T)) st o.dst l lo hi).run some=some st'):∃ v gh',(execOp a.eval o).run C.P w=.ok (.value v) w∧Rel C st' gh' (a.put o.dst v) w:=by
 have hxv:=h.ev x
 rw[hx] at hxv
 obtain⟨⟨hv,_⟩,_⟩:=hxv
 unfold cutT at hr
 split at hr
 ·cases hr
 rename_i hcond
 simp only[Bool.or_eq_true,Nat.blt_eq,not_or,Nat.not_lt] at hcond
 obtain⟨hro,hfx⟩:=hcond
 split at hr
 case h_2=>cases hr
 rename_i e t xs d L hob
 split at hr
 case isFalse=>cases hr
 rename_i hsz
 split at hr
 case h_2=>cases hr
 rename_i i j hlo hhi
 obtain⟨g1,hr⟩:=Tree.run_need hr
 obtain⟨g2,hr⟩:=Tree.run_need hr
 obtain⟨g3,hr⟩:=Tree.run_need hr
 obtain⟨g4,hr⟩:=Tree.run_need hr
 simp only[decide_eq_true_eq] at g1 g2 g3 g4
 split at hr
 case h_2=>cases hr
 rename_i st1 hk
 simp only[Tree.run,Option.some.injEq] at hr
 subst hr
 obtain⟨hr1,hcl⟩:=h.kill hk
 obtain⟨k1,k2,k3,k4,k5⟩:=z0f hk
 have ho1:obj st1.objs l=.row e t xs d L:=(k4 l _ _ _ _ _).2 hob
 have hrow0:RowR (z38 C w gh t d L) w e t.size (gh.hd l) (gh.ft l) xs:=by have:=hr1.objs l; rw[ho1] at this; exact this
 obtain⟨Fs,ess,hall,hF,how⟩:=hrow0
 have hlen:=hall.len
 obtain⟨A,cap,hh,hcap⟩:=z0u how
 have hz:z3b E T=some t.size:=znv (by simp[hsz])
 obtain⟨e',hu,hsize⟩:=ze7 hE hz
 have hb:=zfj h (zd6:=true) (len:=xs.length) (cap:=cap) hlo hhi g1 (by omega) g3 g4
 have hrun:(execOp a.eval o).run C.P w=.ok (.value (.slice (if cap=i.toNat then A else A.map (·.add (i.toNat*t.size))) (j.toNat - i.toNat) (cap - i.toNat))) w:=by
  rw[hh] at hv
  simp only[execOp,ho,hv,Instr.sliceAt,Instr.slice,Sem.run_bind,run_underlying hu,Result.andThen_ok,Option.map_none,hb,hsize,Sem.run_pure]
 have hp:=OwnR.piece (i:=i.toNat) (j:=j.toNat) (hall.size fun x F c hR=>(z12 hR).1) (by rw[hlen.2,←hh]; exact how) (by omega) (by rw[hlen.2]; omega)
 have hσ:∀ {β:Type} (ls:List β) (z:β),ls.length=xs.length→(ls.take j.toNat).drop i.toNat=(List.range' i.toNat (j.toNat - i.toNat)).map (ls.getD · z):=by
  intro β ls z hl
  apply List.ext_getElem
  ·simp; omega
  ·intro k q1 q2
   simp at q1 q2
   simp[List.getD,List.getElem?_eq_getElem (show i.toNat+k<ls.length by omega)]
 obtain⟨gh',hrel,hhd⟩:=hr1.pick (v':=.slice (if cap=i.toNat then A else A.map (·.add (i.toNat*t.size))) (j.toNat - i.toNat) (cap - i.toNat)) (w':=w) (σ:=List.range' i.toNat (j.toNat - i.toNat)) hcl (by rw[k1]; exact hro) (by rw[k2]; exact hfx) ho1 hall hF List.nodup_range'
  (fun k hk=>by obtain⟨q,hq,rfl⟩:=List.mem_range'.1 hk; omega) (by simp) (by rw[hh]; split<;>cases A<;>simp[Value.ownBlock,Addr.add]<;>(try split)<;>rfl)
  (by rw[List.length_range',←hσ ess [] hlen.2]; exact hp) (Fr.refl _ _)
 refine⟨_,gh',hrun,?_⟩
 rw[hσ xs t.zero rfl]
 exact hrel.put ⟨⟨hhd.symm,_,_,_,_,_,z0a (z0o (by rw[ho1]; simp))⟩,fun _=>rfl⟩
theorem OwnR.clip {w:World} {e size:Nat} {A:Option Addr} {m c c':Nat} {n:Nat} {xs:List Value} (h:OwnR w e size (.slice A m c) n xs) (h1:n≤c') (h2:c'≤c):OwnR w e size (.slice A m c') n xs:=by
 refine⟨h.1,?_⟩
 rcases h.2 with ⟨hv,h0⟩ | ⟨g,o,cap,cur,hv,hg,hc,hm,hcs,ht⟩
 ·simp only[Value.slice.injEq] at hv
  obtain⟨rfl,rfl,rfl⟩:=hv
  left
  rw[show c'=0 by omega]
  exact⟨rfl,h0⟩
 ·simp only[Value.slice.injEq] at hv
  obtain⟨rfl,rfl,rfl⟩:=hv
  have:c'*size≤c*size:=Nat.mul_le_mul_right _ h2
  exact .inr ⟨g,o,c',cur,rfl,hg,h1,by omega,by omega,ht⟩
theorem OwnR.piece3 {w:World} {e size:Nat} {A:Option Addr} {n c:Nat} {ess:List (List Value)} (hs:∀ d∈ess,d.length=size) (h:OwnR w e size (.slice A n c) ess.length ess.flatten) {i j m:Nat} (hij:i≤j) (hjm:j≤m) (hm:m≤ess.length):
  OwnR w e size (.slice (if m=i then A else A.map (·.add (i*size))) (j - i) (m - i)) (j - i) ((ess.take j).drop i).flatten:=by
 have hn:n=ess.length∧n≤c:=by
  rcases h.2 with ⟨hv,h0⟩ | ⟨g,o,cap,cur,hv,hg,hc,hm,hcs,ht⟩
  ·simp only[Value.slice.injEq] at hv; omega
  ·simp only[Value.slice.injEq] at hv; omega
 obtain⟨rfl,hnc⟩:=hn
 by_cases hc2:ess.length≤m
 ·have e:m=ess.length:=by omega
  subst e
  exact OwnR.piece hs (h.clip (Nat.le_refl _) hnc) hij (by omega)
 ·
  have hnil:∀ A':Option Addr,i=j→OwnR w e size (.slice A' (j - i) (m - i)) (j - i) ((ess.take j).drop i).flatten→True:=fun _ _ _=>trivial
  have hp:=OwnR.piece hs h hij (by omega:j≤ess.length)
  have hne:c≠i:=by omega
  rw[if_neg hne] at hp
  by_cases hmi:m=i
  ·have:i=j:=by omega
   subst this
   rw[if_pos hmi]
   have hp0:=OwnR.piece hs h (Nat.zero_le 0) (Nat.zero_le _)
   have hne0:c≠0:=by omega
   rw[if_neg hne0] at hp0
   have hl:((ess.take i).drop i).flatten=[]:=by rw[List.drop_of_length_le (by rw[List.length_take]; omega)]; rfl
   have hl0:((ess.take 0).drop 0).flatten=([]:List Value):=by simp
   rw[hl]
   rw[hl0,Nat.zero_mul] at hp0
   have hA:A.map (·.add 0)=A:=by cases A<;>simp[Addr.add]<;>(try split)<;>simp_all
   rw[hA] at hp0
   rw[hmi,Nat.sub_self]
   exact hp0.clip (Nat.le_refl _) (Nat.zero_le _)
  ·rw[if_neg hmi]
   exact hp.clip (by omega) (by omega)
theorem zsd (h:Rel C st gh a w) {len cap:Nat} {lo:Option Operand} {hi mx:Operand} {l u m:Int} (hlo:bnd st.ev 0 lo=some l) (hhi:bnd st.ev 0 (some hi)=some u) (hmx:bnd st.ev 0 (some mx)=some m) (h1:m≤cap) (h2:0≤l) (h3:l≤u) (h4:u≤m):
  (Instr.sliceBounds true len cap (lo.map a.eval) ((some hi).map a.eval) ((some mx).map a.eval)).run C.P w=.ok (l.toNat,u.toNat,m.toNat) w:=by
 have e1:(u.toNat:Int)=u:=by omega
 have e2:(m.toNat:Int)=m:=by omega
 have h5:0≤m:=by omega
 have h6:0≤u:=by omega
 rcases zrq h hhi with ⟨q,_⟩ | ⟨y,j,q,hy⟩
 ·cases q
 cases q
 rcases zrq h hmx with ⟨q,_⟩ | ⟨z,k,q,hz⟩
 ·cases q
 cases q
 rcases zrq h hlo with ⟨rfl,rfl⟩ | ⟨x,i,rfl,hx⟩
 ·simp[Instr.sliceBounds,hy,hz,Instr.sliceBound,asIntOf,h1,h5,h6,e2,h4]
 ·simp[Instr.sliceBounds,hx,hy,hz,Instr.sliceBound,asIntOf,h1,h2,h5,h6,e1,e2,h3,h4]
theorem zzr {E:Env} (hE:EnvOk C.P C.Γ E) {o:Oper} (h:Rel C st gh a w) {T:TypeId} {x:Operand} {lo:Option Operand} {hi mx:Operand} (ho:o.op=.slice T x lo (some hi) (some mx)) {l:Nat} (hx:st.ev x=.one (.own l)) {st':St}
  (hr:(zrg (szIs (z3b E T)) st o.dst l lo hi mx).run some=some st'):∃ v gh',(execOp a.eval o).run C.P w=.ok (.value v) w∧Rel C st' gh' (a.put o.dst v) w:=by
 have hxv:=h.ev x
 rw[hx] at hxv
 obtain⟨⟨hv,_⟩,_⟩:=hxv
 unfold zrg at hr
 split at hr
 ·cases hr
 rename_i hcond
 simp only[Bool.or_eq_true,Nat.blt_eq,not_or,Nat.not_lt] at hcond
 obtain⟨hro,hfx⟩:=hcond
 split at hr
 case h_2=>cases hr
 rename_i e t xs d L hob
 split at hr
 case isFalse=>cases hr
 rename_i hsz
 split at hr
 case h_2=>cases hr
 rename_i i j m hlo hhi hmx
 obtain⟨g1,hr⟩:=Tree.run_need hr
 obtain⟨g2,hr⟩:=Tree.run_need hr
 obtain⟨g3,hr⟩:=Tree.run_need hr
 obtain⟨g4,hr⟩:=Tree.run_need hr
 simp only[decide_eq_true_eq] at g1 g2 g3 g4
 split at hr
 case h_2=>cases hr
 rename_i st1 hk
 simp only[Tree.run,Option.some.injEq] at hr
 subst hr
 obtain⟨hr1,hcl⟩:=h.kill hk
 obtain⟨k1,k2,k3,k4,k5⟩:=z0f hk
 have ho1:obj st1.objs l=.row e t xs d L:=(k4 l _ _ _ _ _).2 hob
 have hrow0:RowR (z38 C w gh t d L) w e t.size (gh.hd l) (gh.ft l) xs:=by have:=hr1.objs l; rw[ho1] at this; exact this
 obtain⟨Fs,ess,hall,hF,how⟩:=hrow0
 have hlen:=hall.len
 obtain⟨A,cap,hh,hcap⟩:=z0u how
 have hz:z3b E T=some t.size:=znv (by simp[hsz])
 obtain⟨e',hu,hsize⟩:=ze7 hE hz
 have hb:=zsd h (len:=xs.length) (cap:=cap) hlo hhi hmx (by omega) g2 g3 g4
 have hrun:(execOp a.eval o).run C.P w=.ok (.value (.slice (if m.toNat=i.toNat then A else A.map (·.add (i.toNat*t.size))) (j.toNat - i.toNat) (m.toNat - i.toNat))) w:=by
  rw[hh] at hv
  simp only[execOp,ho,hv,Instr.sliceAt,Instr.slice,Sem.run_bind,run_underlying hu,Result.andThen_ok,hb,hsize,Sem.run_pure]
 rw[hh] at how
 have how2:OwnR w e t.size (.slice A xs.length m.toNat) xs.length ess.flatten→True:=fun _=>trivial
 have hp:=OwnR.piece3 (i:=i.toNat) (j:=j.toNat) (m:=m.toNat) (hall.size fun x F c hR=>(z12 hR).1) (by rw[hlen.2]; exact how) (by omega) (by omega) (by rw[hlen.2]; omega)
 have hσ:∀ {β:Type} (ls:List β) (z:β),ls.length=xs.length→(ls.take j.toNat).drop i.toNat=(List.range' i.toNat (j.toNat - i.toNat)).map (ls.getD · z):=by
  intro β ls z hl
  apply List.ext_getElem
  ·simp; omega
  ·intro k q1 q2
   simp at q1 q2
   simp[List.getD,List.getElem?_eq_getElem (show i.toNat+k<ls.length by omega)]
 obtain⟨gh',hrel,hhd⟩:=hr1.pick (v':=.slice (if m.toNat=i.toNat then A else A.map (·.add (i.toNat*t.size))) (j.toNat - i.toNat) (m.toNat - i.toNat)) (w':=w) (σ:=List.range' i.toNat (j.toNat - i.toNat)) hcl (by rw[k1]; exact hro) (by rw[k2]; exact hfx) ho1 hall hF List.nodup_range'
  (fun k hk=>by obtain⟨q,hq,rfl⟩:=List.mem_range'.1 hk; omega) (by simp) (by rw[hh]; split<;>cases A<;>simp[Value.ownBlock,Addr.add]<;>(try split)<;>rfl)
  (by rw[List.length_range',←hσ ess [] hlen.2]; exact hp) (Fr.refl _ _)
 refine⟨_,gh',hrun,?_⟩
 rw[hσ xs t.zero rfl]
 exact hrel.put ⟨⟨hhd.symm,_,_,_,_,_,z0a (z0o (by rw[ho1]; simp))⟩,fun _=>rfl⟩
theorem zhb {ag:Bool} {t:Ty} {cs:List Value} (h:cs.length=t.size) (hs:(ag||Nat.beq t.size 1)=true):zci ag cs (zcf ag cs):=by
 cases ag with
 | true=>rfl
 | false=>
  simp only[Bool.false_or] at hs
  have hs:=Nat.eq_of_beq_eq_true hs
  match cs,h with
  | [c],_=>rfl
  | [],h=>simp at h; omega
  | _::_::_,h=>simp at h; omega
theorem zyj {okT:Ty→Bool} {d:Option Tmp} {l:Nat} {lo hi:Option Operand} {st':St} (hr:(cutT okT st d l lo hi).run some=some st'):st'.ro=st.ro∧st'.fx=st.fx∧st.objs.length≤st'.objs.length:=by
 unfold cutT at hr
 split at hr
 ·cases hr
 split at hr
 case h_2=>cases hr
 split at hr
 case isFalse=>cases hr
 split at hr
 case h_2=>cases hr
 obtain⟨g1,hr⟩:=Tree.run_need hr
 obtain⟨g2,hr⟩:=Tree.run_need hr
 obtain⟨g3,hr⟩:=Tree.run_need hr
 obtain⟨g4,hr⟩:=Tree.run_need hr
 split at hr
 case h_2=>cases hr
 rename_i st1 hk
 simp only[Tree.run,Option.some.injEq] at hr
 subst hr
 obtain⟨k1,k2,k3,_⟩:=z0f hk
 cases d with
 | none=>exact⟨k1,k2,by simp only[St.put,List.length_set]; omega⟩
 | some d=>exact⟨k1,k2,by simp only[St.put,List.length_set]; omega⟩
theorem zvf {okT:Ty→Bool} {d:Option Tmp} {l:Nat} {lo:Option Operand} {hi mx:Operand} {st':St} (hr:(zrg okT st d l lo hi mx).run some=some st'):st'.ro=st.ro∧st'.fx=st.fx∧st.objs.length≤st'.objs.length:=by
 unfold zrg at hr
 split at hr
 ·cases hr
 split at hr
 case h_2=>cases hr
 split at hr
 case isFalse=>cases hr
 split at hr
 case h_2=>cases hr
 obtain⟨g1,hr⟩:=Tree.run_need hr
 obtain⟨g2,hr⟩:=Tree.run_need hr
 obtain⟨g3,hr⟩:=Tree.run_need hr
 obtain⟨g4,hr⟩:=Tree.run_need hr
 split at hr
 case h_2=>cases hr
 rename_i st1 hk
 simp only[Tree.run,Option.some.injEq] at hr
 subst hr
 obtain⟨k1,k2,k3,_⟩:=z0f hk
 cases d with
 | none=>exact⟨k1,k2,by simp only[St.put,List.length_set]; omega⟩
 | some d=>exact⟨k1,k2,by simp only[St.put,List.length_set]; omega⟩
theorem zwp {cb:CB} {d:Option Tmp} {ri:RInfo} {vs:List SV} {st':St} (hr:(rowT cb st d ri vs).run some=some st'):st'.ro=st.ro∧st'.fx=st.fx∧st.objs.length≤st'.objs.length:=by
 unfold rowT at hr
 split at hr
 case h_2=>cases hr
 split at hr
 ·cases hr
 split at hr
 case h_2=>cases hr
 split at hr
 case isFalse=>cases hr
 split at hr
 case h_2=>cases hr
 rename_i st1 hk1
 split at hr
 case h_2=>cases hr
 rename_i st2 hk2
 rw[Tree.run_map] at hr
 obtain⟨ys,h1,h2⟩:=Tree.run_some _ hr
 simp only[Option.some.injEq] at h2
 subst h2
 obtain⟨m,hk⟩:∃ m,st.kill m _=some st2:=by
  split at hk2
  ·exact⟨false,hk2⟩
  ·exact⟨true,hk1.trans hk2⟩
 obtain⟨k1,k2,k3,_⟩:=z0f hk
 cases d with
 | none=>exact⟨k1,k2,by simp only[St.put,List.length_set]; omega⟩
 | some d=>exact⟨k1,k2,by simp only[St.put,List.length_set]; omega⟩
theorem y1x {E:Env} (hE:EnvOk C.P C.Γ E) {cb:CB} (hcb:CBOk C.P C.Γ cb) {o:Oper} (h:Rel C st gh a w) {c:Call} {f:Operand} (ho:o.op=.call c) (hc:c.callee=.value f) {g:FuncId} (hf:(st.ev f).leaf=.fn g []) {ri:RInfo} (hs:z4i E.rfn g=some ri)
  {st':St} (hr:(rowT cb st o.dst ri (c.args.toList.map st.ev)).run some=some st') {next:Act→World→Prop} {Q:Exit→Act→World→Prop} (hn:∀ gh' a' w',Rel C st' gh' a' w'→next a' w'):o.wp C.P a w next Q:=by
 obtain⟨hen,hrow⟩:=hE.rfn _ _ hs
 have hfv:=h.leaf f
 rw[hf] at hfv
 have hfv:a.eval f=.func (.func g) #[] #[]:=by simpa using hfv.1.1
 have hargs:=zjb h c.args.toList
 unfold Oper.wp
 rw[zae h ho hc hfv hen]
 simp only[Oper.upon]
 rw[show (c.args.toList.map a.eval).toArray++#[]=(c.args.toList.map a.eval).toArray by simp]
 generalize hvs:c.args.toList.map st.ev=vs at hr hargs
 generalize hxs:c.args.toList.map a.eval=args at hargs
 unfold rowT at hr
 split at hr
 case h_2=>cases hr
 rename_i l rest
 cases args with
 | nil=>exact hargs.elim
 | cons v0 args=>
 split at hr
 ·cases hr
 rename_i hcond
 simp only[Bool.or_eq_true,Bool.and_eq_true,Nat.blt_eq,not_or,Nat.not_lt,Bool.not_eq_true'] at hcond
 obtain⟨⟨hro,hfx⟩,hh⟩:=hcond
 split at hr
 case h_2=>cases hr
 rename_i e t xs deep L hobj
 split at hr
 case isFalse=>cases hr
 rename_i hcond
 simp only[Bool.and_eq_true,beq_iff_eq] at hcond
 obtain⟨⟨⟨rfl,hsz⟩,hpos⟩,hag⟩:=hcond
 split at hr
 case h_2=>cases hr
 rename_i st1 hk
 split at hr
 case h_2=>cases hr
 rename_i st2 hk2
 rw[Tree.run_map] at hr
 obtain⟨ys,h1,h2⟩:=Tree.run_some _ hr
 simp only[Option.some.injEq] at h2
 subst h2
 obtain⟨hr1,hcl⟩:=h.kill hk
 obtain⟨k1,k2,k3,k4,k5⟩:=z0f hk
 have ho1:obj st1.objs l=.row ri.e t xs deep L:=(k4 l _ _ _ _ _).2 hobj
 have hro1:st1.ro≤l:=by rw[k1]; exact hro
 have hfx1:st1.fx≤l:=by rw[k2]; exact hfx
 have hL:=hcl.rows _ _ _ _ _ _ ho1
 have hv0:v0=gh.hd l:=hargs.1.1.1
 subst hv0
 have hrow0:RowR (z38 C w gh t deep L) w ri.e t.size (gh.hd l) (gh.ft l) xs:=by have:=hr1.objs l; rw[ho1] at this; exact this
 obtain⟨Fs,ess,hall,hF,how⟩:=hrow0
 have hlen:=hall.len
 have hpre:∀ c∈ess,c.length=ri.size∧∀ u∈c,u.oneCell'=true:=fun c hc=>by
  obtain⟨x,F,hx⟩:=hall.mem hc
  obtain⟨q1,_,q3⟩:=z12 hx
  exact⟨by rw[q1,hsz],q3⟩
 have hrow1:=hrow w (gh.hd l) ess hpre (by rw[hlen.2,←hsz]; exact how)
 have fin0:ri.k.keeps=false→∀ (σ:List Nat),σ.Nodup→(∀ i∈σ,i<xs.length)→ys=σ.map (xs.getD · t.zero)→∀ e w',zti C.P ri.e ri.size w (gh.hd l) ess σ e w' →
   ∃ v',e=.returned v'∧next (a.put o.dst v') w':=by
  rintro hke σ hσ hlt rfl e w' ⟨v',rfl,hob,how',hfr⟩
  simp only[hke,Bool.false_eq_true,if_false,Option.some.injEq] at hk2 hn
  subst hk2
  obtain⟨gh',hrel,hhd⟩:=hr1.pick hcl hro1 hfx1 ho1 hall hF hσ hlt (by simp) hob (by rw[hsz]; exact how') hfr
  refine⟨v',rfl,hn gh' _ w' (hrel.put ⟨⟨hhd.symm,_,_,_,_,_,z0a (z0o (by rw[ho1]; simp))⟩,fun _=>?_⟩)⟩
  obtain⟨A,c,rfl,_⟩:=z0u how'
  rfl
 have hkeep:∀ {sv:SV} {v:Value},SVOk (LeafOk C w gh st.objs) sv v→SVOk (LeafOk C w gh st1.objs) sv v:=by
  intro sv v hv
  obtain⟨_,rfl⟩:=z4c hk
  have K:=za4 (os:=st.objs) (m:=true) (l:=l)
  exact hv.mono fun c y _ hc=>z6c K.1 K.2 hc
 unfold y0r at h1
 split at h1
 ·
  rename_i _ _ sv hkk
  have fin:=fin0 (by rw[hkk]; rfl)
  rw[hkk] at hrow1 hh
  have hfx0:st1.fx=0:=by
   rw[k2]
   simpa[RK.hands] using hh
  split at h1
  case h_2=>cases h1
  rename_i p hp
  cases args with
  | nil=>exact hargs.2.elim
  | cons fv args=>
  obtain rfl:args=[]:=hargs.2.2.nil_right
  simp only[Tree.run] at h1
  cases hfo:zdb (fun x=>p (x,())) xs with
  | none=>rw[hfo] at h1; cases h1
  | some zs=>
  rw[hfo] at h1
  simp only[Option.bind_some,Tree.run,Option.some.injEq] at h1
  subst h1
  obtain⟨bs,b1,b2,b3⟩:=zja (z:=t.zero) hfo
  obtain⟨q1,q2⟩:=zne bs
  have hfv1:SVOk (LeafOk C w gh st1.objs) sv fv:=hkeep hargs.2.1
  have hclo:=zkt hcb hr1 (B:=fun b=>(gh.hd l).ownBlock=some b) hfx0 hro1 ho1 (fun b hb=>by rw[hF]; simp[hb]) hcl hfv1 hp
  obtain⟨hh0,lb,hfe,hW⟩:=hclo
  refine (hrow1 fv bs (by rw[b1,hlen.2]) ⟨hh0,lb,hfe,?_⟩).mono fun e w' hpost=>?_
  ·rintro args res ⟨j,c,b,hc,hb,rfl,rfl⟩
   have hj:j<xs.length:=by have:=(List.getElem?_eq_some_iff.1 hc).1; omega
   obtain⟨F,c',hFj,hcj,hx⟩:=hall.get (List.getElem?_eq_getElem hj)
   obtain rfl:c'=c:=by rw[hcj] at hc; exact Option.some.inj hc
   have hin:=fun (W:World) hs hb=>zix hr1 hL hF (List.mem_of_getElem? hFj) hx (W:=W) hs hb
   have hans:=b2 j xs[j] b (List.getElem?_eq_getElem hj) hb
   have hargs':=fun (W:World) (hi:ImmS t xs[j] c' W (C.lay gh l w fun b=>(gh.hd l).ownBlock=some b).U0)=>(⟨zcf ri.ag c',c',[],rfl,zhb (z12 hx).1 hag,hi,rfl⟩:zi5 (C.lay gh l w fun b=>(gh.hd l).ownBlock=some b).U0 [(ri.ag,t)] (xs[j],()) [zcf ri.ag c'] W)
   refine⟨(hW w (Nat.le_refl _) (fun _ _ _=>rfl) (xs[j],()) b _ (hargs' w (hin w (Nat.le_refl _) fun _ _ _=>rfl)) hans).1,fun W hs hb=>?_⟩
   refine (hW W hs (fun k hk hu=>hb k hk fun hh=>hu (.inr hh)) (xs[j],()) b _ (hargs' W (hin W hs hb)) hans).2.mono ?_
   rintro e W' ⟨c,rfl,hrep,hfr⟩
   obtain rfl:c=.bool b:=by simpa[Rep] using hrep
   exact⟨rfl,hfr⟩
  ·obtain⟨v',rfl,hx⟩:=fin _ q1 (fun i hi=>by rw[←b1]; exact q2 i hi) b3 e w' hpost
   exact hx
 ·
  rename_i _ _ x y hkk
  have fin:=fin0 (by rw[hkk]; rfl)
  rw[hkk] at hrow1
  split at h1
  case h_2=>cases h1
  rename_i i Li j Lj hi hj
  cases args with
  | nil=>exact hargs.2.elim
  | cons vi args=>
  cases args with
  | nil=>exact hargs.2.2.elim
  | cons vj args=>
  obtain rfl:args=[]:=hargs.2.2.2.nil_right
  have leafv:∀ {sv:SV} {v:Value} {n:Int} {L:List Nat},SVOk (LeafOk C w gh st.objs) sv v→sv.leaf=.val (.int .i64) n L→v=.int .i64 n:=by
   intro sv v n L hv he
   cases sv with
   | one c=>
    simp only[SV.leaf] at he
    subst he
    exact z2b hv
   | agg cs=>simp[SV.leaf] at he
   | tup vs=>simp[SV.leaf] at he
  obtain rfl:=leafv hargs.2.1 hi
  obtain rfl:=leafv hargs.2.2.1 hj
  simp only[Tree.run,Tree.need,decide_eq_true_eq] at h1
  split at h1
  case isFalse=>cases h1
  rename_i c1
  split at h1
  case isFalse=>cases h1
  rename_i c2
  split at h1
  case isFalse=>cases h1
  rename_i c3
  simp only[Option.some.injEq] at h1
  obtain⟨m,rfl⟩:=Int.eq_ofNat_of_zero_le c1
  obtain⟨n,rfl⟩:=Int.eq_ofNat_of_zero_le (Int.le_trans c1 c2)
  simp only[Int.ofNat_le,Int.toNat_natCast] at c2 c3 h1
  obtain⟨q1,q2,q3⟩:=zp9 (z:=t.zero) c2 c3
  refine (hrow1 m n c2 (by rw[hlen.2]; exact c3)).mono fun e w' hpost=>?_
  rw[hlen.2] at hpost
  obtain⟨v',rfl,hx⟩:=fin _ q2 q3 (h1.symm.trans q1) e w' hpost
  exact hx
 ·
  rename_i _ _ sv hkk
  rw[hkk] at hrow1 hh hk2 hn
  simp only[RK.keeps,if_true] at hk2 hn
  have hfx0:st1.fx=0:=by
   rw[k2]
   simpa[RK.hands] using hh
  split at h1
  case h_2=>cases h1
  rename_i p hp
  cases args with
  | nil=>exact hargs.2.elim
  | cons fv args=>
  obtain rfl:args=[]:=hargs.2.2.nil_right
  simp only[Tree.run] at h1
  cases hfo:zab (fun x y=>p (x,(y,()))) xs with
  | none=>rw[hfo] at h1; cases h1
  | some zs=>
  rw[hfo] at h1
  simp only[Option.bind_some,Tree.run,Option.some.injEq] at h1
  subst h1
  obtain⟨b1,b2,b3,b4,b5⟩:=zjq (z:=t.zero) hfo
  have hfv1:SVOk (LeafOk C w gh st1.objs) sv fv:=hkeep hargs.2.1
  have hclo:=zkt hcb hr1 (B:=fun b=>(gh.hd l).ownBlock=some b) hfx0 hro1 ho1 (fun b hb=>by rw[hF]; simp[hb]) hcl hfv1 hp
  obtain⟨hh0,lb,hfe,hW⟩:=hclo
  obtain⟨hr2,hcl2⟩:=h.kill hk2
  obtain⟨j1,j2,j3,j4,j5⟩:=z0f hk2
  have ho2:obj st2.objs l=.row ri.e t xs deep L:=(j4 l _ _ _ _ _).2 hobj
  refine (hrow1 fv (z4m (fun x y=>p (x,(y,()))) xs) (by rw[hlen.2]; exact b5.2.2) (by rw[hlen.2]; exact b2) ⟨hh0,lb,hfe,?_⟩).mono fun e w' hpost=>?_
  ·rintro args res ⟨j,k,c,d,hc,hd,rfl,rfl⟩
   have hj:j<xs.length:=by have:=(List.getElem?_eq_some_iff.1 hc).1; omega
   have hk:k<xs.length:=by have:=(List.getElem?_eq_some_iff.1 hd).1; omega
   obtain⟨F,c',hFj,hcj,hx⟩:=hall.get (List.getElem?_eq_getElem hj)
   obtain⟨G,d',hGk,hdk,hy⟩:=hall.get (List.getElem?_eq_getElem hk)
   obtain rfl:c'=c:=by rw[hcj] at hc; exact Option.some.inj hc
   obtain rfl:d'=d:=by rw[hdk] at hd; exact Option.some.inj hd
   have hin:=fun (W:World) hs hb=>zix hr1 hL hF (List.mem_of_getElem? hFj) hx (W:=W) hs hb
   have hin2:=fun (W:World) hs hb=>zix hr1 hL hF (List.mem_of_getElem? hGk) hy (W:=W) hs hb
   have hans:p (xs[j],(xs[k],()))=some (z4m (fun x y=>p (x,(y,()))) xs j k):=b1 j k _ _ (List.getElem?_eq_getElem hj) (List.getElem?_eq_getElem hk)
   have hargs':=fun (W:World) (hi:ImmS t xs[j] c' W (C.lay gh l w fun b=>(gh.hd l).ownBlock=some b).U0) (hi2:ImmS t xs[k] d' W (C.lay gh l w fun b=>(gh.hd l).ownBlock=some b).U0)=>(⟨zcf ri.ag c',c',[zcf ri.ag d'],rfl,zhb (z12 hx).1 hag,hi,zcf ri.ag d',d',[],rfl,zhb (z12 hy).1 hag,hi2,rfl⟩:zi5 (C.lay gh l w fun b=>(gh.hd l).ownBlock=some b).U0 [(ri.ag,t),(ri.ag,t)] (xs[j],(xs[k],())) [zcf ri.ag c',zcf ri.ag d'] W)
   refine⟨(hW w (Nat.le_refl _) (fun _ _ _=>rfl) (xs[j],(xs[k],())) _ _ (hargs' w (hin w (Nat.le_refl _) fun _ _ _=>rfl) (hin2 w (Nat.le_refl _) fun _ _ _=>rfl)) hans).1,fun W hs hb=>?_⟩
   refine (hW W hs (fun k hk hu=>hb k hk fun hh=>hu (.inr hh)) (xs[j],(xs[k],())) _ _ (hargs' W (hin W hs hb) (hin2 W hs hb)) hans).2.mono ?_
   rintro e W' ⟨c,rfl,hrep,hfr⟩
   obtain rfl:c=.int .i64 (z4m (fun x y=>p (x,(y,()))) xs j k):=by simpa[Rep] using hrep
   exact⟨rfl,hfr⟩
  ·obtain⟨rfl,how',hfr⟩:=hpost
   rw[hlen.2] at how'
   have hall2:AllR (z38 C w gh t deep L) xs Fs ess:=hall
   obtain⟨gh',hrel,hhd⟩:=hr2.pick (v':=gh.hd l) (w':=w') hcl2 (by rw[j1]; exact hro) (by rw[j2]; exact hfx) ho2 hall2 hF b3 b4 (fun _=>⟨rfl,b5.2.1⟩) rfl (by rw[b5.2.1,hsz]; exact how') hfr
   refine hn gh' _ w' ?_
   rw[b5.1]
   refine hrel.put ⟨[],rfl,trivial⟩
 ·cases h1
end
end Go.AM
