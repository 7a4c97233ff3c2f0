/- Closures. No condition. -/
import Derived.Test.YtdcbankajhnepaaGreatAmMut
set_option linter.unusedVariables false
set_option linter.unusedSimpArgs false
namespace Go.AM
section
variable {C:Ctx} {st:St} {gh:Gh} {a:Act} {w W:World}
theorem zv6 (h:Rel C st gh a w) (hfx:st.fx=0) (hs:w.heap.size≤W.heap.size) (hW:∀ b,b<w.heap.size→¬C.U0 b→W.heap[b]? = w.heap[b]?) {c:Leaf} {v:Value} (hc:LeafOk C w gh st.objs c v):
  LeafOk ⟨C.P,C.Γ,C.U0,fun _=>False,W,gh,[]⟩ W gh st.objs c v:=by
 refine⟨?_,hc.2⟩
 replace hc:=hc.1
 have imm:∀ {t:Ty} {x:t.den} {cs:List Value} {L:List Nat},ImmS t x cs w (UU C.U0 gh L)→ImmS t x cs W (UU C.U0 gh L):=fun hi=>hi.next hs (fun b hb hu=>hW b hb fun hu'=>hu (.inl hu')) fun b _ hb=>hb
 cases c with
 | val t x L=>exact imm hc
 | ela t xs i off L=>
  obtain⟨h0,h1,b,o,c,hv,hi⟩:=hc
  exact⟨h0,h1,b,o,c,hv,imm hi⟩
 | sub l i off=>
  obtain⟨e,t,xs,L,g,og,n,c,s,z,ho,h0,h1,h2,hh,hcell⟩:=hc
  have hg:g∈gh.ft l:=zag (ho▸h.objs l) hh
  have hlt:=World.block_lt_of_cell? w _ hcell
  refine⟨e,t,xs,L,g,og,n,c,s,z,ho,h0,h1,h2,hh,?_⟩
  rw[World.cell?_of_block (w:=w) (a:=⟨g,_,none⟩) (hW g hlt (h.sep0 _ _ hg))]
  exact hcell
 | oel2 l i off j o2=>
  obtain⟨e,t,xs,L,s,u,ys,b,ob,n,c,ho,q1,q2,q3,⟨e',t',xs',L',g,og,n',c',s',z,ho',h0,h1,h2,hh,hcell⟩,q5⟩:=hc
  have hg:g∈gh.ft l:=zag (ho'▸h.objs l) hh
  have hlt:=World.block_lt_of_cell? w _ hcell
  refine⟨e,t,xs,L,s,u,ys,b,ob,n,c,ho,q1,q2,q3,⟨e',t',xs',L',g,og,n',c',s',z,ho',h0,h1,h2,hh,?_⟩,q5⟩
  rw[World.cell?_of_block (w:=w) (a:=⟨g,_,none⟩) (hW g hlt (h.sep0 _ _ hg))]
  exact hcell
 | hol l k=>
  cases k with
  | hd=>exact hc
  | pl i=>exact hc
  | el i=>
   obtain⟨e,t,ys,g,og,n,c,ho,h0,h1,hh,hcell⟩:=hc
   have hg:g∈gh.ft l:=zxo (ho▸h.objs l) hh
   have hlt:=World.block_lt_of_cell? w _ hcell
   refine⟨e,t,ys,g,og,n,c,ho,h0,h1,hh,?_⟩
   rw[World.cell?_of_block (w:=w) (a:=⟨g,_,none⟩) (hW g hlt (h.sep0 _ _ hg))]
   exact hcell
 | clo gs r p=>
  obtain⟨g,caps,hv,hp⟩:=zm7 h hfx hc
  exact⟨g,caps,hv,fun W' hs' hb=>hp W' (by have:W.heap.size≤W'.heap.size:=hs'; omega) fun b hlt hu=>(hb b (by show b<W.heap.size; omega) hu).trans (hW b hlt hu)⟩
 | undef=>exact hc
 | skip=>exact hc
 | nilS=>exact hc
 | own l=>exact hc
 | ptr l o=>exact hc
 | oela l i o=>exact hc
 | view l i o=>exact hc
 | fn f cs=>exact hc
theorem zwt (h:Rel C st gh a w) (hfx:st.fx=0) (hs:w.heap.size≤W.heap.size) (hW:∀ b,b<w.heap.size→¬C.U0 b→W.heap[b]? = w.heap[b]?) {regs:List SV} {tmps:Array Value} (hl:regs.length=tmps.size)
  (hr:∀ i,SVOk (LeafOk ⟨C.P,C.Γ,C.U0,fun _=>False,W,gh,[]⟩ W gh st.objs) (regs.getD i (.one .undef)) (tmps.getD i undef)):
  Rel ⟨C.P,C.Γ,C.U0,fun _=>False,W,gh,[]⟩ { regs:=regs,objs:=st.objs,ro:=st.objs.length,fx:=0,frm:=[] } gh { tmps:=tmps,defers:=[] } W:=by
 have same:∀ l b,b∈gh.ft l→W.heap[b]? = w.heap[b]?:=fun l b hb=>hW b (h.lt _ _ hb) (h.sep0 _ _ hb)
 refine⟨Fr.refl _ _,fun b hb=>?_,?_,fun l b hb=>?_,fun l b hl hb=>?_,h.dj,h.nd,fun l b hb hu=>h.sep l b hb hu,fun l=>?_,fun l _=>⟨rfl,rfl,rfl⟩,fun _ b hb=>hb,hl,hr,rfl,trivial⟩
 ·rcases hb with hb | hb
  ·have:=h.u0 b (.inl hb); have:=h.fr.size; show b<W.heap.size; omega
  ·have:=h.u0 b (.inr hb); have:=h.fr.size; show b<W.heap.size; omega
 ·refine (h.gl.next (Nat.le_trans h.fr.size hs) (fun b hb hz=>?_) fun b _ hz=>hz.elim .inl False.elim)
  exact (hW b (by have:=h.fr.size; omega) fun hu=>hz (.inl hu)).trans (h.fr.block b hb fun hm=>hz (.inr hm))
 ·have:=h.lt l b hb; omega
 ·rw[z6f h hl] at hb; cases hb
 ·have hb:=h.objs l
  show z2n _ W gh st.objs l (obj st.objs l)
  cases ho:obj st.objs l with
  | dead=>rw[ho] at hb; exact hb
  | hol e t ys=>
   rw[ho] at hb
   refine RowR.congr hb (same l) fun x G c hG hR=>?_
   cases x with
   | none=>exact hR
   | some x=>exact Deep.congr t hR fun b hb=>same l b (hG b hb)
  | box cs=>
   rw[ho] at hb
   obtain⟨h1,arr,T,h2,h3⟩:=hb
   exact⟨h1,arr,T,by rw[same l _ (by rw[h1]; simp)]; exact h2,h3.mono fun c v _ hc=>zv6 h hfx hs hW hc⟩
  | row e t xs d L=>
   rw[ho] at hb
   refine RowR.congr hb (same l) fun x G c hG hR=>?_
   unfold z38 at hR ⊢
   cases d with
   | true=>exact Deep.congr t hR fun b hb=>same l b (hG b hb)
   | false=>exact⟨hR.1,hR.2.next hs (fun b hb hu=>hW b hb fun hu'=>hu (.inl hu')) fun b _ hb=>hb⟩
theorem zro {C:Ctx} {os:Objs} {L:List Nat} (hL:∀ b,UU C.U0 gh L b→C.U0 b):∀ (gs:List (Bool×Ty)) {x:zca gs} {args:List Value},zi5 C.U0 gs x args W→All2 (SVOk (LeafOk C W gh os)) (znp L gs x) args
 | [],x,args,h=>by
  have h:args=[]:=h
  subst h
  trivial
 | (b,t)::gs,x,args,h=>by
  obtain⟨v,cs,r,rfl,hp,hi,hr⟩:=h
  exact⟨zww hp (hi.sub fun b _ hb=>hL b hb),zro hL gs hr⟩
end
theorem y6v {P:Program} {Γ:Facts} {N:Nat} {E:Env} (hE:EnvOk P Γ E) (hq:Γ.q=true) {cb:CB} (hcb:CBOk P Γ cb):CBOk P Γ (zwm N E cb):=by
 intro C st gh a w hP hΓ h hfx g caps gs r hcaps
 refine⟨g,zmu gh caps,rfl,fun W hs hW x y args hargs hy=>?_⟩
 unfold zwm at hy
 split at hy
 ·cases hy
 rename_i ci hci
 obtain⟨hf,hen⟩:=hE.clos _ _ hci
 refine⟨hen,?_⟩
 split at hy
 ·cases hy
 rename_i c hb
 split at hy
 ·cases hy
 rename_i x' hx
 unfold y0y at hx
 split at hx
 case isFalse=>cases hx
 rename_i hgs
 obtain⟨fn,gs',live,xi,xr,xa,xh⟩:=ci
 simp only at hgs
 subst hgs
 simp only[Option.some.injEq] at hx
 subst hx
 split at hy
 case isFalse=>cases hy
 cases hz:exec N (E.enter ⟨fn,gs,live,xi,xr,xa,xh⟩) cb y00 c { regs:=zds fn (znp (List.range st.objs.length) gs x++caps.map fun p=>.one (.ptr p.1 p.2)),objs:=st.objs,ro:=st.objs.length,fx:=0,frm:=[] } (retK E [] () [.imm false r] fn.results.toList) with
 | none=>rw[hz] at hy; cases hy
 | some z=>
 rw[hz] at hy
 simp only[Option.bind_some,Option.some.injEq] at hy
 subst hy
 subst hP hΓ
 have hcapv:args.toArray++zmu gh caps=(args++caps.map fun p=>Value.pointer (some ⟨gh.bk p.1,p.2,none⟩)).toArray:=by simp[zmu]
 rw[hcapv]
 have hsv:All2 (SVOk (LeafOk ⟨C.P,C.Γ,C.U0,fun _=>False,W,gh,[]⟩ W gh st.objs)) (znp (List.range st.objs.length) gs x++caps.map fun p=>.one (.ptr p.1 p.2)) (args++caps.map fun p=>Value.pointer (some ⟨gh.bk p.1,p.2,none⟩)):=by
  refine (zro (C:=⟨C.P,C.Γ,C.U0,fun _=>False,W,gh,[]⟩) (fun b hb=>?_) gs hargs).app ?_
  ·rcases hb with hb | ⟨l,hl,hb⟩
   ·exact hb
   ·by_cases hlt:l<st.objs.length
    ·rw[zls hlt] at hl; cases hl
    ·rw[z6f h (by omega)] at hb; cases hb
  ·have:∀ (cs:List (Nat×Nat)),(∀ p∈cs,∃ ds,obj st.objs p.1=.box ds)→All2 (SVOk (LeafOk ⟨C.P,C.Γ,C.U0,fun _=>False,W,gh,[]⟩ W gh st.objs)) (cs.map fun p=>.one (.ptr p.1 p.2)) (cs.map fun p=>Value.pointer (some ⟨gh.bk p.1,p.2,none⟩)):=by
    intro cs
    induction cs with
    | nil=>intro _; trivial
    | cons p cs ih=>intro hp; exact⟨⟨⟨rfl,hp p (by simp)⟩,fun _=>rfl⟩,ih fun q hq=>hp q (by simp[hq])⟩
   exact this caps hcaps
 have hRel:=zwt h hfx hs hW (zoa hsv.len fn) (fun i=>zsf (fun v=>SVOk.undef v) hsv fn i)
 refine calls_of_wp hf hb (z54 (C:=⟨C.P,C.Γ,C.U0,fun _=>False,W,gh,[]⟩) (st:={ regs:=zds fn (znp (List.range st.objs.length) gs x++caps.map fun p=>.one (.ptr p.1 p.2)),objs:=st.objs,ro:=st.objs.length,fx:=0,frm:=[] }) (r:=st.objs.length) (f:=0) (E:=(E.enter ⟨fn,gs,live,xi,xr,xa,xh⟩)) ⟨hE.mixed,hE.q,hE.tab,hE.sig,hE.clos,hE.eqs,hE.rfn⟩ hcb (ztz _ _) c ⟨rfl,rfl,Nat.le_refl _,Nat.zero_le _⟩ hRel hz fun e st' gh' a' w' hI' h' hk=>?_)
 have main:(∃ j,e=.exit j)∨(a'.defers=[]∧∃ v,(results fn a'.tmps).run C.P w'=.ok v w'∧∃ c,Ending.returned v=.returned c∧Rep r w' z.1.1 [c]∧Fr (fun _=>False) W w'):=by
  unfold retK at hk
  split at hk
  ·cases hk
  right
  split at hk
  ·rename_i y1 M B hret
   split at hk
   ·split at hk
    ·split at hk
     case isFalse=>cases hk
     simp only[Option.some.injEq] at hk
     subst hk
     obtain⟨vs,ht,hout⟩:=zjr (C:=⟨C.P,C.Γ,C.U0,fun _=>False,W,gh,[]⟩) hE h' [.imm false r] hret
     obtain⟨v,cs,q,hvs,hp,hi,hq,_⟩:=hout (UU C.U0 gh' B) (fun b _ hb=>hb)
     obtain rfl:cs=[v]:=hp
     subst hq
     refine⟨h'.df,_,zge ht,v,?_,hi.rep,h'.fr.full hq⟩
     rw[hvs]
     rfl
    ·cases hk
   ·cases hk
  ·cases hk
 rcases main with ⟨j,rfl⟩ | ⟨h1,v,h2,h3⟩
 ·simp[retK] at hk
 ·cases e with
  | normal=>exact⟨h1,v,h2,h3⟩
  | ret=>exact⟨h1,v,h2,h3⟩
  | exit j=>simp[retK] at hk
theorem zyn {P:Program} {Γ:Facts} {N:Nat} {E:Env} (hE:EnvOk P Γ E):∀ n,(n=0∨Γ.q=true)→CBOk P Γ (cbAt N E n)
 | 0,_=>by
  intro C st gh a w hP hΓ h hfx g caps gs r hcaps
  exact⟨g,zmu gh caps,rfl,fun W hs hW x y args hargs hy=>by cases hy⟩
 | n+1,h=>have hq:=h.resolve_left (by omega); y6v hE hq (zyn hE n (.inr hq))
theorem y0x {P:Program} {Γ:Facts} {N:Nat} {E:Env} (hE:EnvOk P Γ E):CBOk P Γ (cbs N E):=by
 refine zyn hE _ ?_
 cases h:E.q with
 | true=>exact .inr (hE.q▸h)
 | false=>exact .inl (by simp)
theorem zt8 {P:Program} {Γ:Facts} {E:Env} {s:FSpec} (hE:EnvOk P (Γ.at s.q) E) {f:FuncId} {fn:Func} {c:Code} (hf:P.funcs[f]? = some fn) (hb:fn.body=some c)
  (hr:∀ x y,s.fn x=some y→∃ N,runF N E fn s.ins s.outs x=some y):FOk P Γ f s:=y6p hE (fun N=>y0x hE) (fun N=>zu6 hE (y0x hE) 9) hf hb hr
end Go.AM
