/- Rows whose elements are borrowed; rows that are let go. No condition. -/
import Derived.Test.YtdcbankajhnepaaGreatAmStore
set_option linter.unusedVariables false
set_option linter.unusedSimpArgs false
namespace Go.AM
theorem bltF {a b:Nat} (h:¬Nat.blt a b=true):b≤a:=Nat.not_lt.1 fun hl=>h (by simpa using hl)
theorem zgq (L M:List Nat) (l:Nat):has (uni L M) l=(has L l||has M l):=by
 unfold uni
 induction M generalizing L with
 | nil=>simp[has]
 | cons m M ih=>
  rw[List.foldl_cons,ih,zd7]
  split
  ·rename_i hm
   cases hb:Nat.beq l m with
   | false=>simp
   | true=>rw[Nat.eq_of_beq_eq_true hb,hm]; simp
  ·rw[z2o,zd7]
   simp[has,Bool.or_assoc]
structure Same (st st':St) (gh gh':Gh):Prop where
 ro:st'.ro=st.ro
 fx:st'.fx=st.fx
 len:st'.objs.length=st.objs.length
 hd:gh'.hd=gh.hd
 bk:gh'.bk=gh.bk
 ft:∀ k b,b∈gh'.ft k→b∈gh.ft k
theorem Same.refl (st:St) (gh:Gh):Same st st gh gh:=⟨rfl,rfl,rfl,rfl,rfl,fun _ _ h=>h⟩
theorem Same.trans {a b c:St} {ga gb gc:Gh} (h:Same a b ga gb) (k:Same b c gb gc):Same a c ga gc:=
 ⟨k.ro.trans h.ro,k.fx.trans h.fx,k.len.trans h.len,k.hd.trans h.hd,k.bk.trans h.bk,fun j b hb=>h.ft j b (k.ft j b hb)⟩
theorem Same.UU {st st':St} {gh gh':Gh} (h:Same st st' gh gh') {U0:Nat→Prop} {L:List Nat} {b:Nat} (hb:UU U0 gh' L b):UU U0 gh L b:=by
 rcases hb with hb | ⟨l,hl,hb⟩
 ·exact .inl hb
 ·exact .inr ⟨l,hl,h.ft _ _ hb⟩
theorem zst {st st':St} {l:Nat} {L:List Nat} (h:st.loosen l L=some st'):st'.ro=st.ro∧st'.fx=st.fx∧st'.objs.length=st.objs.length:=by
 unfold St.loosen at h
 split at h
 ·cases h
 split at h
 ·split at h
  ·rename_i s1 hk
   obtain⟨k1,k2,k3,_⟩:=z0f hk
   simp only[Option.some.injEq] at h
   subst h
   exact⟨k1,k2,by simpa using k3⟩
  ·cases h
 ·cases h
theorem zij {st st':St} {l:Nat} {d:Bool} (h:st.loose d l=some st'):st'.ro=st.ro∧st'.fx=st.fx∧st'.objs.length=st.objs.length:=by
 unfold St.loose at h
 split at h
 ·exact zst h
 ·simp only[Option.some.injEq] at h; subst h; exact⟨rfl,rfl,rfl⟩
theorem znj:∀ (M:List Nat) {ls ls':List Leaf} {st st':St},st.frzLs M ls=some (ls',st')→st'.ro=st.ro∧st'.fx=st.fx∧st'.objs.length=st.objs.length
 | [],ls,ls',st,st',h=>by
  simp only[St.frzLs,Option.some.injEq,Prod.mk.injEq] at h
  obtain⟨_,rfl⟩:=h
  exact⟨rfl,rfl,rfl⟩
 | m::M,ls,ls',st,st',h=>by
  simp only[St.frzLs] at h
  split at h
  ·cases h
  split at h
  ·split at h
   ·rename_i s1 hk
    obtain⟨k1,k2,k3,_⟩:=z0f hk
    obtain⟨j1,j2,j3⟩:=znj M h
    exact⟨j1.trans k1,j2.trans k2,by simp only[List.length_set] at j3; omega⟩
   ·cases h
  ·cases h
theorem zay {st st':St} {l:Nat} {i:Int} {off:Nat} {ls:List Leaf} (h:z81 st l i off ls=some st'):st'.ro=st.ro∧st'.fx=st.fx∧st'.objs.length=st.objs.length:=by
 unfold z81 at h
 split at h
 case h_2=>cases h
 split at h
 ·cases h
 split at h
 case h_2=>cases h
 rename_i h1
 split at h
 case h_2=>cases h
 rename_i h2
 split at h
 case h_2=>cases h
 split at h
 ·cases h
 split at h
 case h_2=>cases h
 rename_i s3 hk
 obtain⟨a1,a2,a3⟩:=znj _ h1
 obtain⟨b1,b2,b3⟩:=zij h2
 obtain⟨k1,k2,k3,_⟩:=z0f hk
 simp only[Option.some.injEq] at h
 subst h
 exact⟨k1.trans (b1.trans a1),k2.trans (b2.trans a2),by simp only[List.length_set]; omega⟩
theorem zpu {st st':St} {l:Nat} {i:Int} {off:Nat} {j:Int} {o2:Nat} {ls:List Leaf} (h:zk7 st l i off j o2 ls=some st'):st'.ro=st.ro∧st'.fx=st.fx∧st'.objs.length=st.objs.length:=by
 unfold zk7 at h
 split at h
 ·cases h
 split at h
 case h_2=>cases h
 split at h
 case h_2=>cases h
 split at h
 case h_2=>cases h
 split at h
 case h_2=>cases h
 split at h
 case h_2=>cases h
 rename_i s3 hk
 obtain⟨k1,k2,k3,_⟩:=z0f hk
 simp only[Option.some.injEq] at h
 subst h
 exact⟨k1,k2,by simp only[List.length_set]; omega⟩
theorem zmb {st st':St} {d:Option Tmp} {e:TypeId} {l:Nat} {t:Ty} {deep:Bool} {L:List Nat} {xs ys:List t.den} {dm:Bool} {m:Nat} {M:List Nat} (h:(zcg st d e l t deep L xs ys dm m M).run some=some st'):st'.ro=st.ro∧st'.fx=st.fx∧st'.objs.length=st.objs.length:=by
 unfold zcg at h
 split at h
 ·cases h
 split at h
 ·cases h
 rename_i h1
 split at h
 ·cases h
 rename_i h2
 split at h
 ·cases h
 rename_i s3 hk
 obtain⟨a1,a2,a3⟩:=zij h1
 obtain⟨b1,b2,b3⟩:=zij h2
 obtain⟨k1,k2,k3,_⟩:=z0f hk
 simp only[Tree.run,Option.some.injEq] at h
 subst h
 exact⟨k1.trans (b1.trans a1),k2.trans (b2.trans a2),by simp only[St.put,List.length_set]; omega⟩
section
variable {C:Ctx} {st st':St} {gh:Gh} {a:Act} {w:World}
theorem Gh.mv_hd_same (gh:Gh) (l:Nat) (ft:List Nat) (M:List Nat):(gh.mv l (gh.hd l) ft M).hd=gh.hd:=by
 funext k
 by_cases e:k=l
 ·subst e; rw[Gh.mv_hd]
 ·rw[Gh.mv_hd_ne _ _ _ _ _ e]
theorem Rel.loosen (h:Rel C st gh a w) {l:Nat} {L':List Nat} (hk:st.loosen l L'=some st'):∃ gh' e t xs d L,Rel C st' gh' a w∧Same st st' gh gh'∧st.ro≤l∧st.fx≤l∧obj st.objs l=.row e t xs d L∧obj st'.objs l=.row e t xs false (uni L L') ∧
  (∀ k e t xs d L,k≠l→(obj st'.objs k=.row e t xs d L↔obj st.objs k=.row e t xs d L))∧(∀ c v,LeafOk C w gh st.objs c v→LeafOk C w gh' st'.objs (c.kill false l) v):=by
 unfold St.loosen at hk
 split at hk
 ·cases hk
 rename_i hge
 simp only[Bool.or_eq_true,not_or] at hge
 have hro:=bltF hge.1
 have hfx:=bltF hge.2
 cases hob:obj st.objs l with
 | dead=>rw[hob] at hk; cases hk
 | hol _ _ _=>rw[hob] at hk; cases hk
 | box _=>rw[hob] at hk; cases hk
 | row e t xs d L=>
 rw[hob] at hk
 simp only at hk
 split at hk
 case h_2=>cases hk
 rename_i st1 hk1
 simp only[Option.some.injEq] at hk
 subst hk
 obtain⟨hr1,hcl⟩:=h.kill hk1
 obtain⟨k1,k2,k3,k4,k5⟩:=z0f hk1
 have hob1:=(k4 l e t xs d L).2 hob
 have hll:l<st1.objs.length:=z0o (by rw[hob1]; simp)
 have hrow:=hr1.objs l
 rw[hob1] at hrow
 have hnd:=h.nd l
 obtain⟨Fs,ess,hA,hF,ho⟩:=hrow
 have hF0:gh.ft l=(gh.hd l).ownBlock.toList++Fs.flatten:=hF
 rw[hF0] at hnd
 obtain⟨n1,n2,n3⟩:=List.nodup_append.1 hnd
 have hM:MoveOk C st1 gh w false l [] (.row e t xs false (uni L L')) (gh.hd l) ((gh.hd l).ownBlock.toList) w:=
  ⟨hcl,by simp,by omega,by simp,by simp,by simp,hll,Fr.refl _ _,fun _=>⟨rfl,fun e1 t1 xs1 d1 L1 he=>by rw[hob1] at he; cases he; exact⟨_,_,_,rfl,rfl⟩,fun cs he=>by rw[hob1] at he; cases he⟩,fun hl=>by omega,
   fun b hb=>.inl (by rw[hF0]; exact List.mem_append.2 (.inl hb)),n1⟩
 have hno:∀ b∈Fs.flatten,b∉(gh.hd l).ownBlock.toList:=fun b hb hb'=>n3 b hb' b hb rfl
 have hinner:∀ b∈Fs.flatten,b∈gh.ft l:=fun b hb=>by rw[hF0]; exact List.mem_append.2 (.inr hb)
 have hUU:∀ b,UU C.U0 (gh.mv l (gh.hd l) ((gh.hd l).ownBlock.toList) []) (uni L L') b→UU C.U0 gh L b:=by
  rintro b (hb | ⟨k,hk,hb⟩)
  ·exact .inl hb
  ·rw[zgq,Bool.or_eq_false_iff] at hk
   refine .inr ⟨k,hk.1,?_⟩
   by_cases e:k=l
   ·subst e; rw[Gh.mv_ft] at hb; rw[hF0]; exact List.mem_append.2 (.inl hb)
   ·rwa [Gh.mv_ft_ne _ _ _ _ _ e (by simp)] at hb
 have hrel:=hr1.move hM (by
  show RowR _ _ e t.size ((gh.mv l _ _ []).hd l) ((gh.mv l _ _ []).ft l) xs
  rw[Gh.mv_hd,Gh.mv_ft]
  have key:∀ (ys:List t.den) (Gs:List (List Nat)) ds,(∀ G∈Gs,G∈Fs)→AllR (z38 C w gh t d L) ys Gs ds→AllR (z38 C w (gh.mv l (gh.hd l) ((gh.hd l).ownBlock.toList) []) t false (uni L L')) ys (Gs.map fun _=>[]) ds:=by
   intro ys
   induction ys with
   | nil=>intro Gs ds _ h; cases Gs<;>cases ds<;>simp_all[AllR]
   | cons y ys ih=>
    intro Gs ds hG hA2
    cases Gs with
    | nil=>cases ds<;>simp[AllR] at hA2
    | cons G Gs=>
     cases ds with
     | nil=>simp[AllR] at hA2
     | cons c ds=>
      refine⟨⟨rfl,?_⟩,ih _ _ (fun G hG'=>hG G (by simp[hG'])) hA2.2⟩
      have hR:=hA2.1
      unfold z38 at hR
      cases d with
      | true=>
       refine ImmS.ofDeep hR fun b hb hu=>?_
       have hbF:b∈Fs.flatten:=List.mem_flatten.2 ⟨G,hG G (by simp),hb⟩
       rcases hu with hu | ⟨k,_,hk⟩
       ·exact h.sep0 _ _ (hinner b hbF) hu
       ·by_cases e:k=l
        ·subst e; rw[Gh.mv_ft] at hk; exact hno b hbF hk
        ·rw[Gh.mv_ft_ne _ _ _ _ _ e (by simp)] at hk
         exact e (h.dj _ _ _ hk (hinner b hbF))
      | false=>exact hR.2.sub fun b _ hb=>hUU b hb
  refine⟨_,ess,key xs Fs ess (fun _ h=>h) hA,?_,ho⟩
  have:(Fs.map fun _=>([]:List Nat)).flatten=[]:=by simp
  rw[this,List.append_nil])
 refine⟨gh.mv l (gh.hd l) ((gh.hd l).ownBlock.toList) [],e,t,xs,d,L,?_,⟨k1,k2,by simp[k3],Gh.mv_hd_same _ _ _ _,rfl,fun k b hb=>?_⟩,hro,hfx,rfl,z0a hll,fun k e' t' xs' d' L1 hk=>?_,fun c v hc=>?_⟩
 ·simpa[z0n] using hrel
 ·by_cases e:k=l
  ·subst e; rw[Gh.mv_ft] at hb; rw[hF0]; exact List.mem_append.2 (.inl hb)
  ·rwa [Gh.mv_ft_ne _ _ _ _ _ e (by simp)] at hb
 ·show obj (st1.objs.set l _) k=_↔_
  rw[z01 hk]; exact k4 k e' t' xs' d' L1
 ·obtain⟨_,rfl⟩:=z4c hk1
  have K:=za4 (os:=st.objs) (m:=false) (l:=l)
  have h1:=zey (m:=false) (l:=l) (z6c K.1 K.2 hc)
  have:=z52 hM.tr h.dj hr1.objs (zbx (z87 c) (by simp) (by simp)) h1
  simpa[z0n] using this
theorem Rel.loose (h:Rel C st gh a w) {d:Bool} {l:Nat} (hk:st.loose d l=some st') {e:TypeId} {t:Ty} {xs:List t.den} {L:List Nat} (hob:obj st.objs l=.row e t xs d L):∃ gh',Rel C st' gh' a w∧Same st st' gh gh'∧(d=true→st.fx≤l)∧obj st'.objs l=.row e t xs false L ∧
  (∀ k e t xs d L,k≠l→(obj st'.objs k=.row e t xs d L↔obj st.objs k=.row e t xs d L))∧(∀ c v,LeafOk C w gh st.objs c v→LeafOk C w gh' st'.objs (c.kill false l) v):=by
 unfold St.loose at hk
 cases d with
 | false=>
  simp only[Bool.false_eq_true,if_false,Option.some.injEq] at hk
  subst hk
  exact⟨gh,h,Same.refl _ _,by simp,hob,fun _ _ _ _ _ _ _=>Iff.rfl,fun c v hc=>zey hc⟩
 | true=>
  simp only[if_true] at hk
  obtain⟨gh',e1,t1,xs1,d1,L1,h1,h2,h3,h4,h5,h6,h7,h8⟩:=h.loosen hk
  rw[hob] at h5
  cases h5
  exact⟨gh',h1,h2,fun _=>h4,h6,h7,h8⟩
theorem Rel.frz1 (h:Rel C st gh a w) {m:Nat} (hro:st.ro≤m) (hfx:st.fx≤m) {e:TypeId} {t:Ty} {xs:List t.den} {d:Bool} {L:List Nat} (hob:obj st.objs m=.row e t xs d L) {st1:St} (hk:st.kill true m=some st1):
  ∃ gh',Rel C { st1 with objs:=st1.objs.set m .dead } gh' a w∧Same st { st1 with objs:=st1.objs.set m .dead } gh gh'∧(∀ k e t xs d L,k≠m→(obj (st1.objs.set m .dead) k=.row e t xs d L↔obj st.objs k=.row e t xs d L)) ∧
   ∀ c v,LeafOk C w gh st.objs c v→LeafOk C w gh' (st1.objs.set m .dead) (Go.AM.frz1 st.objs m c) v:=by
 obtain⟨hr1,hcl⟩:=h.kill hk
 obtain⟨k1,k2,k3,k4,k5⟩:=z0f hk
 have hob1:=(k4 m e t xs d L).2 hob
 have hll:m<st1.objs.length:=z0o (by rw[hob1]; simp)
 have hM:MoveOk C st1 gh w true m [] .dead (gh.hd m) [] w:=
  ⟨hcl,by simp,by omega,by simp,by simp,by simp,hll,Fr.refl _ _,fun hm=>(by cases hm),fun hl=>by omega,by simp,List.nodup_nil⟩
 have hrel:=hr1.move hM (by
  show (gh.mv m _ [] []).ft m=[]
  rw[Gh.mv_ft])
 have hft:∀ k b,b∈(gh.mv m (gh.hd m) [] []).ft k→k≠m∧b∈gh.ft k:=fun k b hb=>by
  by_cases e:k=m
  ·subst e; rw[Gh.mv_ft] at hb; cases hb
  ·rw[Gh.mv_ft_ne _ _ _ _ _ e (by simp)] at hb; exact⟨e,hb⟩
 refine⟨gh.mv m (gh.hd m) [] [],by simpa[z0n] using hrel,⟨k1,k2,by simp[k3],Gh.mv_hd_same _ _ _ _,rfl,fun k b hb=>(hft k b hb).2⟩,fun k e' t' xs' d' L1 hk=>?_,fun c v hc=>?_⟩
 ·rw[z01 hk]; exact k4 k e' t' xs' d' L1
 ·have other:LeafOk C w (gh.mv m (gh.hd m) [] []) (st1.objs.set m .dead) (c.kill true m) v:=by
   obtain⟨_,rfl⟩:=z4c hk
   have K:=za4 (os:=st.objs) (m:=true) (l:=m)
   have h1:=zey (m:=true) (l:=m) (z6c K.1 K.2 hc)
   have:=z52 hM.tr h.dj hr1.objs (zbx (z87 c) (by simp) (by simp)) h1
   simpa[z0n] using this
  cases c with
  | own k=>
   by_cases hkm:k=m
   ·subst hkm
    have hi:=zkq (os:=st.objs) (e':=e) h.dj h.sep0 h.lt (hob▸h.objs k)
    obtain⟨hv,_⟩:=hc.1
    simp only[Go.AM.frz1,beq_self_eq_true,if_true,hob]
    refine⟨?_,hc.2⟩
    show ImmS _ _ _ _ _
    rw[hv]
    refine hi.sub fun b _ hb=>?_
    rcases hb with hb | ⟨j,hj,hb⟩
    ·exact .inl hb
    ·obtain⟨h1,h2⟩:=hft j b hb
     exact .inr ⟨j,by rw[zd7,hj,Bool.or_false]; exact Bool.eq_false_iff.2 fun e=>h1 (Nat.eq_of_beq_eq_true e),h2⟩
   ·have:Leaf.kill true m (.own k)=.own k:=by simp[Leaf.kill,Leaf.dies,hkm]
    rw[this] at other
    simpa[Go.AM.frz1,hkm] using other
  | _=>exact other
theorem Rel.frzLs:∀ (M:List Nat) {ls ls':List Leaf} {us:List Value} {st st':St} {gh:Gh},Rel C st gh a w→All2 (LeafOk C w gh st.objs) ls us→st.frzLs M ls=some (ls',st') →
  ∃ gh',Rel C st' gh' a w∧Same st st' gh gh'∧All2 (LeafOk C w gh' st'.objs) ls' us∧(∀ k∈M,st.ro≤k∧st.fx≤k)∧(∀ k e t xs d L,k∉M→(obj st'.objs k=.row e t xs d L↔obj st.objs k=.row e t xs d L))
 | [],ls,ls',us,st,st',gh,h,hl,hs=>by
  simp only[St.frzLs,Option.some.injEq,Prod.mk.injEq] at hs
  obtain⟨rfl,rfl⟩:=hs
  exact⟨gh,h,Same.refl _ _,hl,by simp,fun _ _ _ _ _ _ _=>Iff.rfl⟩
 | m::M,ls,ls',us,st,st',gh,h,hl,hs=>by
  simp only[St.frzLs] at hs
  split at hs
  ·cases hs
  rename_i hge
  simp only[Bool.or_eq_true,not_or] at hge
  split at hs
  case h_2=>cases hs
  rename_i hob
  split at hs
  case h_2=>cases hs
  rename_i st1 hk
  obtain⟨g1,h1,s1,o1,l1⟩:=h.frz1 (bltF hge.1) (bltF hge.2) hob hk
  obtain⟨g2,h2,s2,l2,b2,o2⟩:=Rel.frzLs M h1 (hl.map fun c v _ hc=>l1 c v hc) hs
  refine⟨g2,h2,s1.trans s2,l2,fun k hk=>?_,fun k e t xs d L hk=>?_⟩
  ·rcases List.mem_cons.1 hk with rfl | hk
   ·exact⟨bltF hge.1,bltF hge.2⟩
   ·have:=b2 k hk
    rw[s1.ro,s1.fx] at this
    exact this
  ·simp only[List.mem_cons,not_or] at hk
   exact (o2 k e t xs d L hk.2).trans (o1 k e t xs d L hk.1)
theorem zur {ls:List Leaf} {l:Nat} (h:has (zl0 ls) l=false):l∉zl0 ls:=fun hm=>by rw[z8w.2 hm] at h; cases h
theorem zky {os:Objs} (hdj:∀ l l' b,b∈gh.ft l→b∈gh.ft l'→l=l') (hsep:∀ l b,b∈gh.ft l→¬C.U0 b) (hlt:∀ l b,b∈gh.ft l→b<w.heap.size) (hob:∀ l,z2n C w gh os l (obj os l)) {N:List Nat}:
  ∀ (t:Ty) {x z:t.den} {cs:List Value} {off:Nat} {c:Leaf} {v:Value} {M:List Nat},ImmS t x cs w (UU C.U0 gh N)→LeafOk C w gh os c v→zfz os t x off c=some (z,M)→(∀ l,has M l=true→has N l=true)→off<t.size∧c.known=true∧ImmS t z (cs.set off v) w (UU C.U0 gh N)
 | .pair a b,x,z,cs,off,c,v,M,hx,hc,hp,hN=>by
  obtain⟨c1,c2,rfl,h1,h2⟩:=hx.pair
  have hl1:=Rep.len a h1.rep
  simp only[zfz] at hp
  split at hp
  ·rename_i hlt'
   split at hp
   ·rename_i q M' hq
    simp only[Option.some.injEq,Prod.mk.injEq] at hp
    obtain⟨rfl,rfl⟩:=hp
    obtain⟨k1,k2,k3⟩:=zky hdj hsep hlt hob a h1 hc hq hN
    exact⟨by simp only[Ty.size]; omega,k2,by rw[ze8 (by omega)]; exact ImmS.mk k3 h2⟩
   ·cases hp
  ·rename_i hge
   split at hp
   ·rename_i q M' hq
    simp only[Option.some.injEq,Prod.mk.injEq] at hp
    obtain⟨rfl,rfl⟩:=hp
    obtain⟨k1,k2,k3⟩:=zky hdj hsep hlt hob b h2 hc hq hN
    exact⟨by simp only[Ty.size]; omega,k2,by rw[zcl (by omega),hl1]; exact ImmS.mk h1 k3⟩
   ·cases hp
 | .unit,x,z,cs,off,c,v,M,hx,hc,hp,hN=>by simp[zfz] at hp
 | .slice e t,x,z,cs,off,c,v,M,hx,hc,hp,hN=>by
  simp only[zfz] at hp
  split at hp
  ·rename_i ho
   simp only[beq_iff_eq] at ho
   subst ho
   have hi:=z2d (e:=e) hdj hsep hlt hob hc hp
   obtain⟨A,k,rfl,_⟩:=hx.rep
   refine⟨by simp[Ty.size],?_,hi.sub fun b _ hb=>UU.mono hN hb⟩
   cases c<;>first | rfl | (simp[z08] at hp)
  ·cases hp
 | .int k,x,z,cs,off,c,v,M,hx,hc,hp,hN=>by
  cases c<;>simp only[zfz] at hp<;>try (cases hp; done)
  split at hp
  ·rename_i ho
   simp only[beq_iff_eq] at ho
   subst ho
   split at hp
   ·rename_i q hq
    simp only[Option.some.injEq,Prod.mk.injEq] at hp
    obtain⟨rfl,rfl⟩:=hp
    obtain⟨rfl,rfl⟩:=z11 hq
    obtain rfl:=hx.rep
    exact⟨by simp[Ty.size],rfl,ImmS.flat rfl (ImmS.rep hc.1) _⟩
   ·cases hp
  ·cases hp
 | .bool,x,z,cs,off,c,v,M,hx,hc,hp,hN=>by
  cases c<;>simp only[zfz] at hp<;>try (cases hp; done)
  split at hp
  ·rename_i ho
   simp only[beq_iff_eq] at ho
   subst ho
   split at hp
   ·rename_i q hq
    simp only[Option.some.injEq,Prod.mk.injEq] at hp
    obtain⟨rfl,rfl⟩:=hp
    obtain⟨rfl,rfl⟩:=z11 hq
    obtain rfl:=hx.rep
    exact⟨by simp[Ty.size],rfl,ImmS.flat rfl (ImmS.rep hc.1) _⟩
   ·cases hp
  ·cases hp
 | .str,x,z,cs,off,c,v,M,hx,hc,hp,hN=>by
  cases c<;>simp only[zfz] at hp<;>try (cases hp; done)
  split at hp
  ·rename_i ho
   simp only[beq_iff_eq] at ho
   subst ho
   split at hp
   ·rename_i q hq
    simp only[Option.some.injEq,Prod.mk.injEq] at hp
    obtain⟨rfl,rfl⟩:=hp
    obtain⟨rfl,rfl⟩:=z11 hq
    obtain rfl:=hx.rep
    exact⟨by simp[Ty.size],rfl,ImmS.flat rfl (ImmS.rep hc.1) _⟩
   ·cases hp
  ·cases hp
theorem zn8 {os:Objs} (hdj:∀ l l' b,b∈gh.ft l→b∈gh.ft l'→l=l') (hsep:∀ l b,b∈gh.ft l→¬C.U0 b) (hlt:∀ l b,b∈gh.ft l→b<w.heap.size) (hob:∀ l,z2n C w gh os l (obj os l)) {N:List Nat} {t:Ty}:
  ∀ {ls:List Leaf} {us:List Value} {x z:t.den} {cs:List Value} {off:Nat} {M:List Nat},All2 (LeafOk C w gh os) ls us→ImmS t x cs w (UU C.U0 gh N)→zkx os t x off ls=some (z,M)→(∀ l,has M l=true→has N l=true) →
   (ls=[]∨off+us.length≤t.size)∧ls.all Leaf.known=true∧ImmS t z (z07 off us cs) w (UU C.U0 gh N)
 | [],us,x,z,cs,off,M,ha,hx,hp,hN=>by
  obtain rfl:us=[]:=by cases us with | nil=>rfl | cons _ _=>exact ha.elim
  simp only[zkx,Option.some.injEq,Prod.mk.injEq] at hp
  obtain⟨rfl,rfl⟩:=hp
  exact⟨.inl rfl,rfl,by simpa[z07] using hx⟩
 | c::ls,us,x,z,cs,off,M,ha,hx,hp,hN=>by
  cases us with
  | nil=>exact ha.elim
  | cons v us=>
   simp only[zkx] at hp
   split at hp
   case h_2=>cases hp
   rename_i q M1 hq
   split at hp
   case h_2=>cases hp
   rename_i q2 M2 hq2
   simp only[Option.some.injEq,Prod.mk.injEq] at hp
   obtain⟨rfl,rfl⟩:=hp
   obtain⟨k1,k2,k3⟩:=zky hdj hsep hlt hob t hx ha.1 hq fun l hl=>hN l (by simp[z2o,hl])
   have hc:=Rep.len t hx.rep
   obtain⟨j1,j2,j3⟩:=zn8 hdj hsep hlt hob ha.2 k3 hq2 fun l hl=>hN l (by simp[z2o,hl])
   have hle:off+(us.length+1)≤t.size:=by
    rcases j1 with j1 | j1
    ·subst j1
     obtain rfl:us=[]:=by cases us with | nil=>rfl | cons _ _=>exact ha.2.elim
     simp only[List.length_nil]; omega
    ·omega
   refine⟨.inr (by simpa using hle),by simp[k2,j2],?_⟩
   rw[←zgc (by omega)]
   exact j3
end
end Go.AM
