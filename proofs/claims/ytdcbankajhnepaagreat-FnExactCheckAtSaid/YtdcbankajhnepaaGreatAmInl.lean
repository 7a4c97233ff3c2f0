/- Functions entered in place. No condition. -/
import Derived.Test.YtdcbankajhnepaaGreatAmFunc
set_option linter.unusedVariables false
set_option linter.unusedSimpArgs false
namespace Go.AM
section
variable {C:Ctx} {st:St} {gh:Gh} {a:Act} {w:World}
theorem zqx {E:Env} (hE:EnvOk C.P C.Γ E) (h:Rel C st gh a w):∀ (rs:List ResultVar) {vs:List (Bool×List Leaf)},zqy E st rs=some vs →
  ∃ vals,All2 (zyy C.P w a.tmps) rs vals∧zjm (LeafOk C w gh st.objs) vs vals∧∀ p∈vs,p.2.length=1∨p.1=true
 | [],vs,hv=>by
  simp only[zqy,Option.some.injEq] at hv
  subst hv
  exact⟨[],trivial,trivial,by simp⟩
 | r::rs,vs,hv=>by
  simp only[zqy] at hv
  split at hv
  ·rename_i sv hsv
   split at hv
   ·rename_i p hp
    split at hv
    ·rename_i q hq
     simp only[Option.some.injEq] at hv
     subst hv
     obtain⟨v,h1,h2⟩:=zws hE h hsv
     obtain⟨vals,k1,k2,k3⟩:=zqx hE h rs hq
     obtain⟨b,ls⟩:=p
     obtain⟨cs,hpk,hls⟩:=za2 h2 hp
     refine⟨v::vals,⟨h1,k1⟩,⟨⟨cs,hpk,hls⟩,k2⟩,?_⟩
     rintro p' hp'
     rcases List.mem_cons.1 hp' with rfl | hp'
     ·cases sv with
      | one c=>simp only[SV.leaves,Option.some.injEq,Prod.mk.injEq] at hp; obtain⟨rfl,rfl⟩:=hp; exact .inl rfl
      | agg cs=>simp only[SV.leaves,Option.some.injEq,Prod.mk.injEq] at hp; obtain⟨rfl,rfl⟩:=hp; exact .inr rfl
      | tup _=>simp[SV.leaves] at hp
     ·exact k3 p' hp'
    ·cases hv
   ·cases hv
  ·cases hv
end
theorem zs1 {C:Ctx} {w:World} {gh:Gh} {os:Objs} {svs:List SV}:∀ {vs:List Value},svs.length=vs.length→(∀ i,SVOk (LeafOk C w gh os) (svs.getD i (.one .undef)) (vs.getD i undef))→All2 (LeafOk C w gh os) (svs.map SV.leaf) vs:=by
 induction svs with
 | nil=>intro vs hl _; cases vs with | nil=>trivial | cons _ _=>simp at hl
 | cons s svs ih=>
  intro vs hl h
  cases vs with
  | nil=>simp at hl
  | cons v vs=>exact⟨zpr (by simpa using h 0),ih (by simpa using hl) fun i=>by simpa using h (i+1)⟩
theorem y6m {P:Program} {Γ:Facts} {N:Nat} {E:Env} (hE:EnvOk P Γ E) {cb:CB} (hcb:CBOk P Γ cb) {inl:INL} (hinl:zry P Γ inl):zry P Γ (zwl N E cb inl):=by
 intro C st gh a w r f ρ y K g caps args vals hP hΓ hI h hcaps hargs hs
 unfold zwl at hs
 split at hs
 ·cases hs
 rename_i ci hci
 obtain⟨hf,hen⟩:=hE.clos _ _ hci
 refine⟨hen,?_⟩
 split at hs
 ·cases hs
 rename_i c hb
 subst hP hΓ
 obtain⟨fn,gs,live,xi,xr,xa,xh⟩:=ci
 simp only at hf hb hs
 have hE':EnvOk C.P C.Γ (E.enter ⟨fn,gs,live,xi,xr,xa,xh⟩):=⟨hE.mixed,hE.q,hE.tab,hE.sig,hE.clos,hE.eqs,hE.rfn⟩
 have hcapv:vals.toArray++zmu gh caps=(vals++caps.map fun p=>Value.pointer (some ⟨gh.bk p.1,p.2,none⟩)).toArray:=by simp[zmu]
 rw[hcapv]
 let C':Ctx:={ C with frm:=a.tmps.toList++C.frm }
 have hsv:All2 (SVOk (LeafOk C' w gh st.objs)) (args++caps.map fun p=>.one (.ptr p.1 p.2)) (vals++caps.map fun p=>Value.pointer (some ⟨gh.bk p.1,p.2,none⟩)):=by
  refine All2.app hargs ?_
  have:∀ (cs:List (Nat×Nat)),(∀ p∈cs,∃ ds,obj st.objs p.1=.box ds)→All2 (SVOk (LeafOk C' w gh st.objs)) (cs.map fun p=>.one (.ptr p.1 p.2)) (cs.map fun p=>Value.pointer (some ⟨gh.bk p.1,p.2,none⟩)):=by
   intro cs
   induction cs with
   | nil=>intro _; trivial
   | cons p cs ih=>intro hp; exact⟨⟨⟨rfl,hp p (by simp)⟩,fun _=>rfl⟩,ih fun q hq=>hp q (by simp[hq])⟩
  exact this caps hcaps
 have hfrm:All2 (LeafOk C' w gh st.objs) (st.regs.map SV.leaf++st.frm) (a.tmps.toList++C.frm):=by
  refine All2.app (zs1 (by rw[Array.length_toList]; exact h.len) fun i=>?_) h.frm
  have:=h.regs i
  simp only[St.reg] at this
  have e:a.tmps.toList.getD i undef=a.tmps.getD i undef:=by simp[List.getD,Array.getD_eq_getD_getElem?]
  rw[e]; exact this
 have hRel:Rel C' { st with regs:=zds fn (args++caps.map fun p=>.one (.ptr p.1 p.2)),frm:=st.regs.map SV.leaf++st.frm } gh { tmps:=(vals++caps.map fun p=>Value.pointer (some ⟨gh.bk p.1,p.2,none⟩)).toArray++Array.replicate (fn.ntmps - (vals++caps.map fun p=>Value.pointer (some ⟨gh.bk p.1,p.2,none⟩)).toArray.size) undef,defers:=[] } w:=
  ⟨h.fr,h.u0,h.gl,h.lt,h.own,h.dj,h.nd,h.sep,h.objs,h.fix,h.fm,zoa hsv.len fn,fun i=>zsf (fun v=>SVOk.undef v) hsv fn i,rfl,hfrm⟩
 refine calls_of_wp hf hb (z54 (C:=C') (st:={ st with regs:=zds fn (args++caps.map fun p=>.one (.ptr p.1 p.2)),frm:=st.regs.map SV.leaf++st.frm }) (r:=r) (f:=f) hE' hcb hinl c ⟨hI.ro,hI.fx,hI.rl,hI.fl⟩ hRel hs fun e st' gh' a' w' hI' h' hk=>?_)
 have main:(∃ j,e=.exit j)∨(a'.defers=[]∧∃ v,(results fn a'.tmps).run C.P w'=.ok v w'∧∃ v' sv st2 gh2,Ending.returned v=.returned v'∧Inv r f st2∧Rel C st2 gh2 a w'∧SVOk (LeafOk C w' gh2 st2.objs) sv v'∧K sv st2=some y):=by
  cases e with
  | exit j=>exact .inl ⟨j,rfl⟩
  | _=>
   right
   simp only[inlK] at hk
   split at hk
   ·rename_i vs hvs
    obtain⟨vals',k1,k2,k3⟩:=zqx (C:=C') (E:=E) hE h' _ hvs
    refine⟨h'.df,_,zge k1,_,_,_,gh',rfl,?_,?_,?_,hk⟩
    ·exact⟨hI'.ro,hI'.fx,hI'.rl,hI'.fl⟩
    ·have hq:=h'.frm
     have hn:st.regs.length=a.tmps.toList.length:=by rw[Array.length_toList]; exact h.len
     have q1:=hq.take st.regs.length
     have q2:=hq.drop st.regs.length
     rw[hn,show (C'.frm).take a.tmps.toList.length=a.tmps.toList from List.take_left] at q1
     rw[hn,show (C'.frm).drop a.tmps.toList.length=C.frm from List.drop_left] at q2
     rw[hn]
     refine⟨h'.fr,h'.u0,h'.gl,h'.lt,h'.own,h'.dj,h'.nd,h'.sep,h'.objs,h'.fix,h'.fm,?_,fun i=>?_,h.df,q2⟩
     ·have:=q1.len
      rw[List.length_map,this,Array.length_toList]
     ·simp only[St.reg,List.getD,List.getElem?_map]
      cases hi:(st'.frm.take a.tmps.toList.length)[i]? with
      | none=>exact SVOk.undef _
      | some c=>
       obtain⟨v,hv,hr⟩:=q1.get hi
       rw[Array.getElem?_toList] at hv
       rw[show a.tmps.getD i undef=v by simp[Array.getD_eq_getD_getElem?,hv]]
       exact hr
    ·exact zco k2 fun p hp=>k3 p (by rw[hp]; simp)
   ·cases hk
 rcases main with ⟨j,rfl⟩ | ⟨h1,v,h2,h3⟩
 ·simp[inlK] at hk
 ·cases e with
  | normal=>exact⟨h1,v,h2,h3⟩
  | ret=>exact⟨h1,v,h2,h3⟩
  | exit j=>simp[inlK] at hk
theorem zu6 {P:Program} {Γ:Facts} {N:Nat} {E:Env} (hE:EnvOk P Γ E) {cb:CB} (hcb:CBOk P Γ cb):∀ n,zry P Γ (y05 N E cb n)
 | 0=>ztz P Γ
 | n+1=>y6m hE hcb (zu6 hE hcb n)
end Go.AM
