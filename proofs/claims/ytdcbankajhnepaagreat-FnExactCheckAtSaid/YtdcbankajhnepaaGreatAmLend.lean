/- What is lent to be written: reading it, and what it is afterwards. No condition. -/
import Derived.Test.YtdcbankajhnepaaGreatAmBuild
set_option linter.unusedVariables false
set_option linter.unusedSimpArgs false
namespace Go.AM
section
variable {C:Ctx} {w:World} {gh:Gh} {os:Objs}
theorem zsv (hdj:∀ l l' b,b∈gh.ft l→b∈gh.ft l'→l=l') (hnd:∀ l,(gh.ft l).Nodup) (hob:∀ l,z2n C w gh os l (obj os l)):∀ (t:Ty) {ls:List Leaf} {vs:List Value} {x:t.den} {W:List Nat} {r:List Leaf},All2 (LeafOk C w gh os) ls vs→z0z os t ls=some (x,W,r)→W.Nodup →
  ∃ v1 v2 F,vs=v1++v2∧Deep t w x F v1∧All2 (LeafOk C w gh os) r v2∧F.Nodup∧(∀ b∈F,∃ l∈W,b∈gh.ft l) ∧
   ∀ (w':World) (y:t.den) (os1 os':Objs) (r':List Leaf),MutT t w w' x y v1→(∀ l∈W,∀ e t xs d L,obj os l=.row e t xs d L→obj os1 l=.row e t xs d L)→(∀ l∈W,∀ b∈gh.ft l,b∉F→w'.heap[b]? = w.heap[b]?)→z17 os1 t y ls=some (os',r') →
    r'=r∧os'.length=os1.length∧(∀ k,k∉W→obj os' k=obj os1 k)∧∀ l∈W,∃ e s ys zs L,obj os l=.row e s ys true L∧obj os' l=.row e s zs true L∧zs.length=ys.length∧RowR (Deep s w') w' e s.size (gh.hd l) (gh.ft l) zs
 | .pair a b,ls,vs,x,W,r,ha,hg,hW=>by
  simp only[z0z] at hg
  split at hg
  ·rename_i x1 L r1 h1
   split at hg
   ·rename_i x2 M r2 h2
    simp only[Option.some.injEq,Prod.mk.injEq] at hg
    obtain⟨rfl,rfl,rfl⟩:=hg
    obtain⟨n1,n2,n3⟩:=List.nodup_append.1 hW
    obtain⟨v1,v2,F1,rfl,d1,a1,f1,g1,p1⟩:=zsv hdj hnd hob a ha h1 n1
    obtain⟨v3,v4,F2,rfl,d2,a2,f2,g2,p2⟩:=zsv hdj hnd hob b a1 h2 n2
    have apart:∀ b∈F1,b∉F2:=by
     intro b hb hb'
     obtain⟨l,hl,hbl⟩:=g1 b hb
     obtain⟨l',hl',hbl'⟩:=g2 b hb'
     exact n3 l hl l' hl' (hdj _ _ _ hbl hbl')
    refine⟨v1++v3,v4,F1++F2,by simp,⟨F1,F2,v1,v3,rfl,rfl,d1,d2⟩,a2,List.nodup_append.2 ⟨f1,f2,fun b hb b' hb' e=>apart b hb (e▸hb')⟩,fun b hb=>?_,fun w' y os1 os' r' hmt hos hsame hput=>?_⟩
    ·rcases List.mem_append.1 hb with hb | hb
     ·obtain⟨l,hl,h⟩:=g1 b hb; exact⟨l,by simp[hl],h⟩
     ·obtain⟨l,hl,h⟩:=g2 b hb; exact⟨l,by simp[hl],h⟩
    ·obtain⟨m1,m2⟩:=hmt v1 v3 rfl (Deep.len a d1)
     simp only[z17] at hput
     split at hput
     ·rename_i os2 r3 hp1
      obtain⟨rfl,l1,k1,t1⟩:=p1 w' y.1 os1 os2 r3 m1 (fun l hl=>hos l (by simp[hl])) (fun l hl b hb hF=>hsame l (by simp[hl]) b hb fun hm=>by
       rcases List.mem_append.1 hm with hm | hm
       ·exact hF hm
       ·obtain⟨l',hl',hbl'⟩:=g2 b hm
        exact n3 l hl l' hl' (hdj _ _ _ hb hbl')) hp1
      obtain⟨rfl,l2,k2,t2⟩:=p2 w' y.2 os2 os' r' m2 (fun l hl e t xs d L ho=>by rw[k1 l fun h=>n3 l h l hl rfl]; exact hos l (by simp[hl]) e t xs d L ho) (fun l hl b hb hF=>hsame l (by simp[hl]) b hb fun hm=>by
       rcases List.mem_append.1 hm with hm | hm
       ·obtain⟨l',hl',hbl'⟩:=g1 b hm
        exact n3 l' hl' l hl (hdj _ _ _ hbl' hb)
       ·exact hF hm) hput
      refine⟨rfl,l2.trans l1,fun k hk=>?_,fun l hl=>?_⟩
      ·simp only[List.mem_append,not_or] at hk
       rw[k2 k hk.2,k1 k hk.1]
      ·rcases List.mem_append.1 hl with hl | hl
       ·obtain⟨e,s,ys,zs,L',o1,o2,o3,o4⟩:=t1 l hl
        exact⟨e,s,ys,zs,L',o1,by rw[k2 l fun h=>n3 l hl l h rfl]; exact o2,o3,o4⟩
       ·exact t2 l hl
     ·cases hput
   ·cases hg
  ·cases hg
 | .unit,ls,vs,x,W,r,ha,hg,hW=>by
  simp only[z0z,Option.some.injEq,Prod.mk.injEq] at hg
  obtain⟨_,rfl,rfl⟩:=hg
  refine⟨[],vs,[],rfl,⟨rfl,rfl⟩,ha,List.nodup_nil,by simp,fun w' y os1 os' r' _ _ _ hput=>?_⟩
  simp only[z17,Option.some.injEq,Prod.mk.injEq] at hput
  obtain⟨rfl,rfl⟩:=hput
  exact⟨rfl,rfl,fun _ _=>rfl,by simp⟩
 | .int k,ls,vs,x,W,r,ha,hg,hW=>by
  cases ls with
  | nil=>simp[z0z] at hg
  | cons c ls=>
   cases vs with
   | nil=>exact ha.elim
   | cons v vs=>
    cases c<;>simp only[z0z] at hg<;>try (cases hg; done)
    split at hg
    ·rename_i y hy
     simp only[Option.some.injEq,Prod.mk.injEq] at hg
     obtain⟨rfl,rfl,rfl⟩:=hg
     obtain⟨rfl,rfl⟩:=z11 hy
     refine⟨[v],vs,[],rfl,⟨rfl,ImmS.rep ha.1.1⟩,ha.2,List.nodup_nil,by simp,fun w' y os1 os' r' _ _ _ hput=>?_⟩
     simp only[z17,Option.some.injEq,Prod.mk.injEq] at hput
     obtain⟨rfl,rfl⟩:=hput
     exact⟨rfl,rfl,fun _ _=>rfl,by simp⟩
    ·cases hg
 | .bool,ls,vs,x,W,r,ha,hg,hW=>by
  cases ls with
  | nil=>simp[z0z] at hg
  | cons c ls=>
   cases vs with
   | nil=>exact ha.elim
   | cons v vs=>
    cases c<;>simp only[z0z] at hg<;>try (cases hg; done)
    split at hg
    ·rename_i y hy
     simp only[Option.some.injEq,Prod.mk.injEq] at hg
     obtain⟨rfl,rfl,rfl⟩:=hg
     obtain⟨rfl,rfl⟩:=z11 hy
     refine⟨[v],vs,[],rfl,⟨rfl,ImmS.rep ha.1.1⟩,ha.2,List.nodup_nil,by simp,fun w' y os1 os' r' _ _ _ hput=>?_⟩
     simp only[z17,Option.some.injEq,Prod.mk.injEq] at hput
     obtain⟨rfl,rfl⟩:=hput
     exact⟨rfl,rfl,fun _ _=>rfl,by simp⟩
    ·cases hg
 | .str,ls,vs,x,W,r,ha,hg,hW=>by
  cases ls with
  | nil=>simp[z0z] at hg
  | cons c ls=>
   cases vs with
   | nil=>exact ha.elim
   | cons v vs=>
    cases c<;>simp only[z0z] at hg<;>try (cases hg; done)
    split at hg
    ·rename_i y hy
     simp only[Option.some.injEq,Prod.mk.injEq] at hg
     obtain⟨rfl,rfl,rfl⟩:=hg
     obtain⟨rfl,rfl⟩:=z11 hy
     refine⟨[v],vs,[],rfl,⟨rfl,ImmS.rep ha.1.1⟩,ha.2,List.nodup_nil,by simp,fun w' y os1 os' r' _ _ _ hput=>?_⟩
     simp only[z17,Option.some.injEq,Prod.mk.injEq] at hput
     obtain⟨rfl,rfl⟩:=hput
     exact⟨rfl,rfl,fun _ _=>rfl,by simp⟩
    ·cases hg
 | .slice e t,ls,vs,x,W,r,ha,hg,hW=>by
  cases ls with
  | nil=>simp[z0z] at hg
  | cons c ls=>
   cases vs with
   | nil=>exact ha.elim
   | cons v vs=>
    obtain⟨hv,ha⟩:=ha
    cases c<;>simp only[z0z] at hg<;>try (cases hg; done)
    ·
     simp only[Option.some.injEq,Prod.mk.injEq] at hg
     obtain⟨rfl,rfl,rfl⟩:=hg
     obtain rfl:v=.slice none 0 0:=hv.1
     refine⟨_,vs,[],rfl,Deep.zero (.slice e t) w,ha,List.nodup_nil,by simp,fun w' y os1 os' r' _ _ _ hput=>?_⟩
     simp only[z17,Option.some.injEq,Prod.mk.injEq] at hput
     obtain⟨rfl,rfl⟩:=hput
     exact⟨rfl,rfl,fun _ _=>rfl,by simp⟩
    ·
     rename_i l
     cases ho:obj os l with
     | dead=>rw[ho] at hg; cases hg
     | hol _ _ _=>rw[ho] at hg; cases hg
     | box _=>rw[ho] at hg; cases hg
     | row e' s xs d L=>
     rw[ho] at hg
     cases d with
     | false=>cases hg
     | true=>
     simp only at hg
     split at hg
     ·rename_i he
      simp only[beq_iff_eq] at he
      subst he
      split at hg
      ·rename_i y hy
       simp only[Option.some.injEq,Prod.mk.injEq] at hg
       obtain⟨rfl,rfl,rfl⟩:=hg
       obtain⟨rfl,rfl⟩:=z20 hy
       have hrow:=hob l
       rw[ho] at hrow
       have hve:v=gh.hd l:=hv.1.1
       subst hve
       have hD:Deep (.slice e' s) w xs (gh.ft l) [gh.hd l]:=⟨_,rfl,hrow⟩
       refine⟨[gh.hd l],vs,gh.ft l,rfl,hD,ha,hnd l,fun b hb=>⟨l,by simp,hb⟩,fun w' y os1 os' r' hmt hos hsame hput=>?_⟩
       obtain⟨v',he',hrow'⟩:=hmt _ hD
       simp only[List.cons.injEq,and_true] at he'
       subst he'
       have ho1:=hos l (by simp) _ _ _ _ _ ho
       simp only[z17,ho1,castL_self',Option.some.injEq,Prod.mk.injEq] at hput
       obtain⟨rfl,rfl⟩:=hput
       have hlen1:=z0o (os:=os1) (l:=l) (by rw[ho1]; simp)
       refine⟨rfl,by simp,fun k hk=>z01 (by simpa using hk),fun k hk=>?_⟩
       obtain rfl:k=l:=by simpa using hk
       refine⟨_,_,_,y,_,ho,z0a hlen1,?_,hrow'⟩
       obtain⟨_,_,_,_,o1⟩:=hrow'
       obtain⟨_,_,_,_,o2⟩:=hrow
       obtain⟨A1,c1,q1,_⟩:=z0u o1
       obtain⟨A2,c2,q2,_⟩:=z0u o2
       rw[q1] at q2
       simp only[Value.slice.injEq] at q2
       exact q2.2.1
      ·cases hg
     ·cases hg
    ·
     rename_i l i off
     cases ho:obj os l with
     | dead=>rw[ho] at hg; cases hg
     | hol _ _ _=>rw[ho] at hg; cases hg
     | box _=>rw[ho] at hg; cases hg
     | row e' s xs d L=>
     rw[ho] at hg
     cases d with
     | false=>cases hg
     | true=>
     simp only at hg
     split at hg
     case h_2=>cases hg
     rename_i e2 u x' hl
     split at hg
     ·rename_i he
      simp only[beq_iff_eq] at he
      subst he
      split at hg
      ·rename_i y hy
       simp only[Option.some.injEq,Prod.mk.injEq] at hg
       obtain⟨rfl,rfl,rfl⟩:=hg
       obtain⟨rfl,rfl⟩:=z20 hy
       have hrow:=hob l
       rw[ho] at hrow
       obtain⟨e1,t1,xs1,L1,g,og,n,c,s1,z1,ho1,h0,h1,hz,hh,hcell⟩:=hv.1
       rw[ho] at ho1
       cases ho1
       obtain⟨G,v',g',og',n',c',hhd,hcell',hGs,hGn,hD,hput⟩:=zs3 hrow (hnd l) (z6w (d:=s.zero) h0 h1) hl
       rw[hh] at hhd
       cases hhd
       obtain rfl:v'=v:=by rw[hcell] at hcell'; simpa using hcell'.symm
       refine⟨[v'],vs,G,rfl,hD,ha,hGn,fun b hb=>⟨l,by simp,hGs b hb⟩,fun w' y os1 os' r' hmt hos hsame hpm=>?_⟩
       have hD':=hmt _ hD
       have ho1:=hos l (by simp) _ _ _ _ _ ho
       simp only[z17,ho1] at hpm
       split at hpm
       ·rename_i z hz'
        simp only[Option.some.injEq,Prod.mk.injEq] at hpm
        obtain⟨rfl,rfl⟩:=hpm
        have hlen1:=z0o (os:=os1) (l:=l) (by rw[ho1]; simp)
        refine⟨rfl,by simp,fun k hk=>z01 (by simpa using hk),fun k hk=>?_⟩
        obtain rfl:k=l:=by simpa using hk
        exact⟨_,_,_,_,_,ho,z0a hlen1,by simp,hput w' y z hz' (fun b hb hg=>hsame k (by simp) b hb hg) hD'⟩
       ·cases hpm
      ·cases hg
     ·cases hg
where
 castL_self' {t:Ty} {x:List t.den}:zfc t t x=some x:=by simp[zfc]
end
end Go.AM
