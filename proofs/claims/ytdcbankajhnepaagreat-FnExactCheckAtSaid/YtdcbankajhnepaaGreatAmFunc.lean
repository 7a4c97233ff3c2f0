/- Functions. No condition. -/
import Derived.Test.YtdcbankajhnepaaGreatAmExec
import Derived.Tactics
set_option linter.unusedVariables false
set_option linter.unusedSimpArgs false
namespace Go.AM
def zyy (P:Program) (w:World) (tmps:Array Value):ResultVar→Value→Prop
 | .tmp t,v=>v=tmps.getD t undef
 | .cell a t,v=>∃ ad,tmps.getD a undef=.pointer (some ad)∧(loadVar t ad).run P w=.ok v w
theorem zge {P:Program} {fn:Func} {w:World} {tmps:Array Value} {vs:List Value} (h:All2 (zyy P w tmps) fn.results.toList vs):(results fn tmps).run P w=.ok (zkz vs) w:=by
 obtain⟨l,hl⟩:∃ l:List ResultVar,fn.results=l.toArray:=⟨fn.results.toList,by simp⟩
 rw[hl] at h
 simp only[List.toList_toArray] at h
 have key:∀ (l:List ResultVar) (vs:List Value),All2 (zyy P w tmps) l vs→(l.mapM (m:=Sem) fun | .tmp t=>pure (tmps.getD t undef) | .cell a t=>do loadVar t (←asAddr (tmps.getD a undef))).run P w=.ok vs w:=by
  intro l
  induction l with
  | nil=>intro vs h; obtain rfl:=h.nil_right; simp
  | cons r l ih=>
   intro vs h
   cases vs with
   | nil=>exact h.elim
   | cons v vs=>
    obtain⟨h1,h2⟩:=h
    cases r with
    | tmp t=>
     obtain rfl:v=_:=h1
     simp only[List.mapM_cons,Sem.run_bind,Sem.run_pure,Result.andThen_ok,ih _ h2]
    | cell a t=>
     obtain⟨ad,h3,h4⟩:=h1
     have h5:(asAddr (tmps.getD a undef)).run P w=.ok ad w:=by rw[h3]; simp[asAddr]
     simp only[List.mapM_cons,Sem.run_bind,Sem.run_pure,Result.andThen_ok,ih _ h2,h5,h4]
 unfold results
 simp only[hl,List.mapM_toArray,Sem.run_bind]
 have hk:=key l vs h
 simp only[Sem.run_map]
 erw [hk]
 simp only[Result.andThen_ok,Sem.run_pure]
 match vs with
 | []=>simp[zkz]
 | [v]=>simp[zkz]
 | v::u::r=>simp[zkz]
theorem zgt:∀ (t:Ty) (x:t.den) (L:List Nat),(z2k t x L).length=t.size
 | .pair a b,x,L=>by simp[z2k,Ty.size,zgt a,zgt b]
 | .int _,_,_=>rfl
 | .bool,_,_=>rfl
 | .str,_,_=>rfl
 | .slice _ _,_,_=>rfl
 | .unit,_,_=>rfl
section
variable {C:Ctx} {st:St} {gh:Gh} {a:Act} {w:World}
theorem zww {b:Bool} {t:Ty} {x:t.den} {L:List Nat} {v:Value} {cs:List Value} {os:Objs} (hp:zci b cs v) (hi:ImmS t x cs w (UU C.U0 gh L)):SVOk (LeafOk C w gh os) (z90 b (z2k t x L)) v:=by
 refine zc0 hp (z3t t hi) ?_
 cases b with
 | true=>exact .inr rfl
 | false=>
  left
  obtain rfl:cs=[v]:=hp
  rw[zgt,←Rep.len t hi.rep]
  rfl
theorem zsf {R:Leaf→Value→Prop} (hu:∀ v,R .undef v) {svs:List SV} {args:List Value} (h:All2 (SVOk R) svs args) (fn:Func) (i:Nat):
  SVOk R ((zds fn svs).getD i (.one .undef)) ((args.toArray++Array.replicate (fn.ntmps - args.toArray.size) undef).getD i undef):=by
 have hl:=h.len
 unfold zds
 by_cases hi:i<svs.length
 ·obtain⟨v,hv,hr⟩:=h.get (List.getElem?_eq_getElem hi)
  have h1:(svs++List.replicate (fn.ntmps - svs.length) (SV.one .undef)).getD i (.one .undef)=svs[i]:=by simp[List.getD,List.getElem?_append_left hi,List.getElem?_eq_getElem hi]
  have h2:(args.toArray++Array.replicate (fn.ntmps - args.toArray.size) undef).getD i undef=v:=by
   rw[Array.getD_eq_getD_getElem?,Array.getElem?_append_left (by simp; omega)]
   simp[hv]
  rw[h1,h2]; exact hr
 ·have h1:(svs++List.replicate (fn.ntmps - svs.length) (SV.one .undef)).getD i (.one .undef)=.one .undef:=by
   simp only[List.getD]
   rw[List.getElem?_append_right (by omega),List.getElem?_replicate]
   split<;>rfl
  rw[h1]
  exact hu _
theorem zoa {svs:List SV} {args:List Value} (hl:svs.length=args.length) (fn:Func):(zds fn svs).length=(args.toArray++Array.replicate (fn.ntmps - args.toArray.size) undef).size:=by
 unfold zds
 simp
 omega
theorem zws {E:Env} (hE:EnvOk C.P C.Γ E) (h:Rel C st gh a w) {r:ResultVar} {sv:SV} (hs:zuq E st r=some sv):∃ v,zyy C.P w a.tmps r v∧SVOk (LeafOk C w gh st.objs) sv v:=by
 cases r with
 | tmp t=>
  simp only[zuq,Option.some.injEq] at hs
  subst hs
  exact⟨_,rfl,h.regs t⟩
 | cell b t=>
  simp only[zuq] at hs
  split at hs
  ·rename_i ti l off ht hl
   have hld:z1k st.objs ti (st.ev (.tmp b)).leaf=some sv:=by
    show z1k st.objs ti (st.reg b).leaf=some sv
    rw[hl]; exact hs
   obtain⟨x,hx,hv⟩:=zsk (o:={ dst:=none,op:=.load t (.tmp b),type:=0,pos := "",after:=#[],guard:=none }) hE h rfl ht hld
   have hp:=h.leaf (.tmp b)
   have hl':(st.ev (.tmp b)).leaf=.ptr l off:=hl
   rw[hl'] at hp
   have hpv:a.tmps.getD b undef=.pointer (some ⟨gh.bk l,off,none⟩):=hp.1.1
   refine⟨x,⟨_,hpv,?_⟩,hv⟩
   simp only[execOp,Instr.loadAt,Instr.sureAddr,Sem.run_bind,Sem.run_pure,Result.andThen_ok] at hx
   have hev:a.eval (.tmp b)=.pointer (some ⟨gh.bk l,off,none⟩):=hpv
   rw[hev] at hx
   simp only[Sem.run_bind,Sem.run_pure,Result.andThen_ok] at hx
   cases hr:(loadVar t ⟨gh.bk l,off,none⟩).run C.P w with
   | ok y w'=>
    rw[hr] at hx
    simp only[Result.andThen_ok,Sem.run_pure] at hx
    cases hx
    rfl
   | halt e w'=>rw[hr] at hx; cases hx
  ·cases hs
theorem zjr {E:Env} (hE:EnvOk C.P C.Γ E) (h:Rel C st gh a w):∀ (ps:List POut) {rs:List ResultVar} {y:z4z ps} {M B:List Nat},zmn E st ps rs=some (y,M,B) →
  ∃ vs,All2 (zyy C.P w a.tmps) rs vs∧∀ U:Nat→Prop,(∀ b,b<w.heap.size→U b→UU C.U0 gh B b)→zi4 w U ps y vs (M.flatMap gh.ft)
 | [],rs,y,M,B,hs=>by
  cases rs with
  | nil=>
   simp only[zmn,Option.some.injEq,Prod.mk.injEq] at hs
   obtain⟨_,rfl,rfl⟩:=hs
   exact⟨[],trivial,fun U _=>⟨rfl,rfl⟩⟩
  | cons _ _=>simp[zmn] at hs
 | .imm b t::ps,rs,y,M,B,hs=>by
  cases rs with
  | nil=>simp[zmn] at hs
  | cons r rs=>
   simp only[zmn] at hs
   split at hs
   ·rename_i sv hsv
    split at hs
    ·rename_i b' ls hls
     split at hs
     ·rename_i hb
      simp only[beq_iff_eq] at hb
      subst hb
      split at hs
      ·rename_i x L hg
       split at hs
       ·rename_i y' M' B' hr
        simp only[Option.some.injEq,Prod.mk.injEq] at hs
        obtain⟨rfl,rfl,rfl⟩:=hs
        obtain⟨vs,h1,h2⟩:=zjr hE h ps hr
        obtain⟨v,hv,hsvok⟩:=zws hE h hsv
        refine⟨v::vs,⟨hv,h1⟩,fun U hU=>?_⟩
        obtain⟨cs,hp,hcs⟩:=za2 hsvok hls
        obtain⟨v1,v2,rfl,hi,h3⟩:=z58 h.dj h.sep0 h.lt h.objs t hcs hg
        obtain rfl:=h3.nil_right
        rw[List.append_nil] at hp
        exact⟨_,v1,_,rfl,hp,hi.sub fun b hb hu=>UU.mono (fun l hl=>by simp[z2o,hl]) (hU b hb hu),h2 U fun b hb hu=>UU.mono (fun l hl=>by simp[z2o,hl]) (hU b hb hu)⟩
       ·cases hs
      ·cases hs
     ·cases hs
    ·cases hs
   ·cases hs
 | .deep b t::ps,rs,y,M,B,hs=>by
  cases rs with
  | nil=>simp[zmn] at hs
  | cons r rs=>
   simp only[zmn] at hs
   split at hs
   ·rename_i sv hsv
    split at hs
    ·rename_i b' ls hls
     split at hs
     ·rename_i hb
      simp only[beq_iff_eq] at hb
      subst hb
      split at hs
      ·rename_i x L hg
       split at hs
       ·rename_i y' M' B' hr
        simp only[Option.some.injEq,Prod.mk.injEq] at hs
        obtain⟨rfl,rfl,rfl⟩:=hs
        obtain⟨vs,h1,h2⟩:=zjr hE h ps hr
        obtain⟨v,hv,hsvok⟩:=zws hE h hsv
        refine⟨v::vs,⟨hv,h1⟩,fun U hU=>?_⟩
        obtain⟨cs,hp,hcs⟩:=za2 hsvok hls
        obtain⟨v1,v2,rfl,hi,h3⟩:=z9f h.objs t hcs hg
        obtain rfl:=h3.nil_right
        rw[List.append_nil] at hp
        exact⟨_,v1,_,L.flatMap gh.ft,M'.flatMap gh.ft,rfl,hp,hi,List.flatMap_append,h2 U hU⟩
       ·cases hs
      ·cases hs
     ·cases hs
    ·cases hs
   ·cases hs
end
def gh0:Gh:=⟨fun _=>.slice none 0 0,fun _=>0,fun _=>[]⟩
end Go.AM
