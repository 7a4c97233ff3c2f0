/- An element's slice is sorted. No condition. -/
import Derived.Test.YtdcbankajhnepaaGreatAmStore2
import Derived.Test.YtdcbankajhnepaaGreatAmRow
set_option linter.unusedVariables false
set_option linter.unusedSimpArgs false
namespace Go.AM
theorem Deep.flatF:∀ (t:Ty),t.flat=true→∀ {w:World} {x:t.den} {F:List Nat} {cs},Deep t w x F cs→F=[]
 | .int _,_,_,_,_,_,h=>h.1
 | .bool,_,_,_,_,_,h=>h.1
 | .str,_,_,_,_,_,h=>h.1
 | .slice _ _,hf,_,_,_,_,_=>by simp[Ty.flat] at hf
 | .unit,_,_,_,_,_,h=>h.1
 | .pair a b,hf,w,x,F,cs,h=>by
  simp only[Ty.flat,Bool.and_eq_true] at hf
  obtain⟨F1,F2,c1,c2,rfl,rfl,h1,h2⟩:=h
  rw[Deep.flatF a hf.1 h1,Deep.flatF b hf.2 h2]; rfl
theorem zes:∀ {Fs:List (List Nat)},(∀ F∈Fs,F=[])→Fs.flatten=[]
 | [],_=>rfl
 | F::Fs,h=>by rw[List.flatten_cons,h F (by simp),zes fun G hG=>h G (by simp[hG])]; rfl
section
variable {C:Ctx} {st:St} {gh:Gh} {a:Act} {w w':World}
theorem zq2 {cb:CB} {d:Option Tmp} {ri:RInfo} {l:Nat} {i:Int} {off:Nat} {c:SV} {st':St} (hr:(zkg cb st d ri l i off c).run some=some st'):st'.ro=st.ro∧st'.fx=st.fx∧st.objs.length≤st'.objs.length:=by
 unfold zkg at hr
 split at hr
 ·cases hr
 split at hr
 case h_2=>cases hr
 split at hr
 case h_2=>cases hr
 split at hr
 case isFalse=>cases hr
 split at hr
 case h_2=>cases hr
 rename_i st1 st2 hk1 hk2
 split at hr
 case h_2=>cases hr
 rename_i p hp
 simp only[Tree.run] at hr
 generalize zab _ _=q at hr
 cases q with
 | none=>cases hr
 | some zs=>
 simp only[Option.bind_some] at hr
 split at hr
 case h_2=>cases hr
 simp only[Tree.run,Option.some.injEq] at hr
 subst hr
 obtain⟨k1,k2,k3,_⟩:=z0f hk2
 exact⟨by simp[St.put,k1],by simp[St.put,k2],by simp[St.put,k3]⟩
theorem zuu {E:Env} (hE:EnvOk C.P C.Γ E) {cb:CB} (hcb:CBOk C.P C.Γ cb) {o:Oper} (h:Rel C st gh a w) {c:Call} {f:Operand} (ho:o.op=.call c) (hc:c.callee=.value f) {g:FuncId} (hf:(st.ev f).leaf=.fn g []) {ri:RInfo} (hs:z4i E.rfn g=some ri) (hkk:ri.k=.sort)
  {l:Nat} {i:Int} {off:Nat} {sv:SV} (hca:c.args.toList.map st.ev=[.one (.sub l i off),sv]) {st':St} (hr:(zkg cb st o.dst ri l i off sv).run some=some st') {next:Act→World→Prop} {Q:Exit→Act→World→Prop} (hn:∀ gh' a' w',Rel C st' gh' a' w'→next a' w'):o.wp C.P a w next Q:=by
 obtain⟨hen,hrow⟩:=hE.rfn _ _ hs
 have hfv:=h.leaf f
 rw[hf] at hfv
 have hfv:a.eval f=.func (.func g) #[] #[]:=by simpa using hfv.1.1
 have hargs:=zjb h c.args.toList
 unfold Oper.wp
 rw[zae h ho hc hfv hen]
 simp only[Oper.upon]
 rw[show (c.args.toList.map a.eval).toArray++#[]=(c.args.toList.map a.eval).toArray by simp]
 rw[hca] at hargs
 generalize c.args.toList.map a.eval=args at hargs
 match args,hargs with
 | [v0,fv],hargs=>
 obtain⟨ha0,haf,_⟩:=hargs
 unfold zkg at hr
 split at hr
 ·cases hr
 rename_i hcond
 simp only[Bool.or_eq_true,Nat.blt_eq,not_or,Nat.not_lt,Bool.not_eq_true',Bool.not_eq_false] at hcond
 obtain⟨hro,hfx,hfx0⟩:=hcond
 have hfx0:st.fx=0:=Nat.eq_of_beq_eq_true hfx0
 split at hr
 case h_2=>cases hr
 rename_i e t xs L hob
 split at hr
 case h_2=>cases hr
 rename_i e' u ys hla
 split at hr
 case isFalse=>cases hr
 rename_i hcc
 simp only[Bool.and_eq_true,beq_iff_eq] at hcc
 obtain⟨rfl,hsz,hpos,hag,hflat⟩:=hcc
 split at hr
 case h_2=>cases hr
 rename_i st1 st2 hk1 hk2
 split at hr
 case h_2=>cases hr
 rename_i p hp
 simp only[Tree.run] at hr
 cases hfo:zab (fun x y=>p (x,(y,()))) ys with
 | none=>rw[hfo] at hr; cases hr
 | some zs=>
 rw[hfo] at hr
 simp only[Option.bind_some] at hr
 split at hr
 case h_2=>cases hr
 rename_i z hset
 simp only[Tree.run,Option.some.injEq] at hr
 subst hr
 obtain⟨⟨e1,t1,xs1,L1,g1,og,n1,c1,s1,z1,hob1,hi0,hi1,_,hhd,hcell⟩,_⟩:=ha0
 rw[hob] at hob1
 cases hob1
 have hrowl:=h.objs l
 rw[hob] at hrowl
 have hil:i.toNat<xs.length:=by omega
 obtain⟨G,v,g',og',n',c',hhd',hcell',hGF,hGn,hdeep,hfin⟩:=zs3 hrowl (h.nd l) (z6w (d:=t.zero) hi0 hi1) hla
 rw[hhd] at hhd'
 cases hhd'
 have hv:v=v0:=by rw[hcell] at hcell'; simpa using hcell'.symm
 subst hv
 obtain⟨v',he,hin⟩:=hdeep
 simp only[List.cons.injEq,and_true] at he
 subst he
 obtain⟨G2,v2,g2,og2,n2,c2,cur2,hhd2,_,_,hcell2,_,_,hgG2,_,hdeep2,_⟩:=zs4 hrowl (h.nd l) (z6w (d:=t.zero) hi0 hi1) hla
 rw[hhd] at hhd2
 cases hhd2
 have hv2:v2=v:=by rw[hcell] at hcell2; simpa using hcell2.symm
 subst hv2
 obtain⟨v3,he3,hin2⟩:=hdeep2
 simp only[List.cons.injEq,and_true] at he3
 subst he3
 have hgb:v2.ownBlock≠some g1:=fun hh=>hgG2 (hin2.own hh)
 have hGb:∀ b,v2.ownBlock=some b→b∈G:=fun b hb=>hin.own hb
 obtain⟨Fs,ess,hall,hGe,how⟩:=hin
 have hlen:=hall.len
 have hFs:∀ F∈Fs,F=[]:=by
  intro F hF
  obtain⟨j,hj,rfl⟩:=List.mem_iff_getElem.1 hF
  obtain⟨F',c',hF',hc',hx⟩:=hall.get (List.getElem?_eq_getElem (show j<List.length ys by rw[←hlen.1]; exact hj))
  rw[List.getElem?_eq_getElem hj] at hF'
  obtain rfl:=(Option.some.inj hF').symm
  exact Deep.flatF u hflat hx
 have hpre:∀ c∈ess,c.length=ri.size∧∀ u∈c,u.oneCell'=true:=fun c hc=>by
  obtain⟨x,F,hx⟩:=hall.mem hc
  exact⟨by rw[Deep.len u hx,hsz],Rep.one u (Deep.rep u hx)⟩
 have hrow1:=hrow w v2 ess hpre (by rw[hlen.2,←hsz]; exact how)
 rw[hkk] at hrow1
 obtain⟨hr1,hcl⟩:=h.kill hk1
 obtain⟨k1,k2,k3,k4,k5⟩:=z0f hk1
 have ho1:obj st1.objs l=.row e t xs true L:=(k4 l _ _ _ _ _).2 hob
 obtain⟨hr2,hcl2⟩:=h.kill hk2
 obtain⟨j1,j2,j3,j4,j5⟩:=z0f hk2
 have ho2:obj st2.objs l=.row e t xs true L:=(j4 l _ _ _ _ _).2 hob
 have hfv1:SVOk (LeafOk C w gh st1.objs) sv fv:=by
  obtain⟨_,rfl⟩:=z4c hk1
  have K:=za4 (os:=st.objs) (m:=true) (l:=l)
  exact haf.mono fun c y _ hc=>z6c K.1 K.2 hc
 obtain⟨b1,b2,b3,b4,b5⟩:=zjq (z:=u.zero) hfo
 have hclo:=zkt hcb hr1 (B:=fun b=>b∈gh.ft l) (by rw[k2]; exact hfx0) (by rw[k1]; exact hro) ho1 (fun b hb=>hb) hcl hfv1 hp
 obtain⟨hh0,lb,hfe,hW⟩:=hclo
 refine (hrow1 fv (z4m (fun x y=>p (x,(y,()))) ys) (by rw[hlen.2]; exact b5.2.2) (by rw[hlen.2]; exact b2) ⟨hh0,lb,hfe,?_⟩).mono fun e w' hpost=>?_
 ·rintro args res ⟨j,k,c,d,hc,hd,rfl,rfl⟩
  have hj:j<List.length ys:=by have:=(List.getElem?_eq_some_iff.1 hc).1; omega
  have hk:k<List.length ys:=by have:=(List.getElem?_eq_some_iff.1 hd).1; omega
  obtain⟨F,c',hFj,hcj,hx⟩:=hall.get (List.getElem?_eq_getElem hj)
  obtain⟨G',d',hGk,hdk,hy⟩:=hall.get (List.getElem?_eq_getElem hk)
  obtain rfl:c'=c:=by rw[hcj] at hc; exact Option.some.inj hc
  obtain rfl:d'=d:=by rw[hdk] at hd; exact Option.some.inj hd
  have hin:=fun (W:World)=>ImmS.flat hflat (Deep.rep u (Deep.flat u hflat (Deep.rep u hx) W)) (C.lay gh l w fun b=>b∈gh.ft l).U0
  have hin2:=fun (W:World)=>ImmS.flat hflat (Deep.rep u (Deep.flat u hflat (Deep.rep u hy) W)) (C.lay gh l w fun b=>b∈gh.ft l).U0
  have hans:=b1 j k _ _ (List.getElem?_eq_getElem hj) (List.getElem?_eq_getElem hk)
  have hargs':=fun (W:World)=>(⟨zcf ri.ag c',c',[zcf ri.ag d'],rfl,zhb (Deep.len u hx) hag,hin W,zcf ri.ag d',d',[],rfl,zhb (Deep.len u hy) hag,hin2 W,rfl⟩:zi5 (C.lay gh l w fun b=>b∈gh.ft l).U0 [(ri.ag,u),(ri.ag,u)] (ys[j],(ys[k],())) [zcf ri.ag c',zcf ri.ag d'] W)
  refine⟨(hW w (Nat.le_refl _) (fun _ _ _=>rfl) (ys[j],(ys[k],())) _ _ (hargs' w) hans).1,fun W hs hb=>?_⟩
  refine (hW W hs (fun k hk hu=>hb k hk fun hh=>hu (.inr (hGF _ (hGb _ hh)))) (ys[j],(ys[k],())) _ _ (hargs' W) hans).2.mono ?_
  rintro e W' ⟨c,rfl,hrep,hfr⟩
  obtain rfl:c=.int .i64 (z4m (fun x y=>p (x,(y,()))) ys j k):=by simpa[Rep] using hrep
  exact⟨rfl,hfr⟩
 ·obtain⟨rfl,how',hfr⟩:=hpost
  rw[hlen.2] at how'
  have hzl:List.length zs=List.length ys:=by rw[b5.1,List.length_map,b5.2.1]
  have hpk:=hall.pick (S:=fun x F c=>Deep u w' x F c) (z:=u.zero) (fun x F c hFm hx=>by rw[hFs F hFm]; exact Deep.flat u hflat (Deep.rep u hx) w') b4
  rw[←b5.1] at hpk
  have hdeep':Deep (.slice ri.e u) w' zs G [v2]:=by
   refine⟨v2,rfl,_,_,hpk,?_,?_⟩
   ·rw[hGe,zes hFs,zes]
    intro F hF
    obtain⟨j,_,rfl⟩:=List.mem_map.1 hF
    by_cases hj:j<Fs.length
    ·rw[show Fs.getD j []=Fs[j] by simp[List.getD,List.getElem?_eq_getElem hj]]
     exact hFs _ (List.getElem_mem hj)
    ·simp[List.getD,List.getElem?_eq_none (by omega:Fs.length≤j)]
   ·rw[hzl,hsz]; exact how'
  have hrow':=hfin w' zs z hset (fun b hbF hbG=>hfr.block b (h.lt l b hbF) fun hh=>hbG (hGb b hh)) hdeep'
  have hM:MoveOk C st2 gh w false l [] (.row e t (xs.set i.toNat z) true L) (gh.hd l) (gh.ft l) w':=by
   refine⟨hcl2,by simp,by omega,by simp,by simp,by simp,z0o (by rw[ho2]; simp),?_,fun _=>⟨rfl,fun e2 t2 xs2 d2 L2 he=>?_,fun cs he=>by (rw[ho2] at he; cases he)⟩,fun _=>⟨rfl,rfl⟩,fun b hb=>.inl hb,h.nd l⟩
   ·exact⟨hfr.os,hfr.tape,hfr.output,hfr.size,fun k hk hn=>hfr.block k hk fun hh=>hn (hGF _ (hGb _ hh)),hfr.drawn⟩
   ·rw[ho2] at he
    cases he
    exact⟨_,_,_,rfl,by simp⟩
  have hrel:=hr2.move hM (by
   show RowR _ _ e t.size ((gh.mv l _ _ []).hd l) ((gh.mv l _ _ []).ft l) _
   rw[Gh.mv_hd,Gh.mv_ft]
   exact hrow')
  have hrel:Rel C { st2 with objs:=st2.objs.set l (.row e t (xs.set i.toNat z) true L) } (gh.mv l (gh.hd l) (gh.ft l) []) a w':=by simpa[z0n] using hrel
  obtain⟨_,hst2⟩:=z4c hk2
  have hrel2:Rel C { st2 with regs:=st.regs.map (SV.killReg l),objs:=st2.objs.set l (.row e t (xs.set i.toNat z) true L) } (gh.mv l (gh.hd l) (gh.ft l) []) a w':=by
   refine⟨hrel.fr,hrel.u0,hrel.gl,hrel.lt,hrel.own,hrel.dj,hrel.nd,hrel.sep,hrel.objs,hrel.fix,hrel.fm,by simpa using h.len,fun k=>?_,hrel.df,hrel.frm⟩
   have hk':=hrel.regs k
   show SVOk _ ((st.regs.map (SV.killReg l)).getD k _) _
   by_cases hkl:k<st.regs.length
   ·have hk2':SVOk (LeafOk C w' (gh.mv l (gh.hd l) (gh.ft l) []) (st2.objs.set l (.row e t (xs.set i.toNat z) true L))) (SV.kill false l st.regs[k]) (a.tmps.getD k undef):=by
     have e1:st2.regs.getD k (.one .undef)=SV.kill false l st.regs[k]:=by rw[hst2]; simp[List.getD,List.getElem?_eq_getElem hkl]
     rw[←e1]; exact hk'
    have e2:(st.regs.map (SV.killReg l)).getD k (.one .undef)=SV.killReg l st.regs[k]:=by simp[List.getD,List.getElem?_eq_getElem hkl]
    rw[e2]
    have h0:SVOk (LeafOk C w gh st.objs) st.regs[k] (a.tmps.getD k undef):=by
     have:=h.regs k
     simpa[St.reg,List.getD,List.getElem?_eq_getElem hkl] using this
    generalize st.regs[k]=rv at hk2' h0 ⊢
    unfold SV.killReg
    split
    ·rename_i m jj oo
     by_cases hm:m=l
     ·subst hm
      obtain⟨⟨e3,t3,xs3,L3,g3,og3,n3,c3,s3,z3,hob3,q0,q1,q2,hhd3,hcell3⟩,hkn⟩:=h0
      rw[hob] at hob3
      cases hob3
      rw[hhd] at hhd3
      cases hhd3
      refine⟨⟨e,t,xs.set i.toNat z,L,g1,og,n1,c1,s3,z3,z0a (z0o (by rw[ho2]; simp)),q0,by rw[List.length_set]; exact q1,q2,by rw[Gh.mv_hd]; exact hhd,?_⟩,hkn⟩
      have hgl:g1<w.heap.size:=by
       refine h.lt m g1 ?_
       exact (RowR.own hrowl (by rw[hhd]; rfl))
      have hsame:=hfr.block g1 hgl hgb
      rw[←hcell3]
      unfold World.cell?
      simp only[hsame]
     ·have:SV.kill false l (.one (.sub m jj oo))=.one (.sub m jj oo):=by simp[SV.kill,Leaf.kill,Leaf.dies,hm]
      rw[this] at hk2'; exact hk2'
    ·exact hk2'
   ·have e2:(st.regs.map (SV.killReg l)).getD k (.one .undef)=.one .undef:=by simp[List.getD,List.getElem?_eq_none (by omega:st.regs.length≤k)]
    rw[e2]
    exact SVOk.undef _
  exact hn _ _ w' (hrel2.put ⟨[],rfl,trivial⟩)
end
end Go.AM
