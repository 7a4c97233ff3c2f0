/- Writing to an object, into which others may be moved. No condition. -/
import Derived.Test.YtdcbankajhnepaaGreatAmCall
set_option linter.unusedVariables false
set_option linter.unusedSimpArgs false
namespace Go.AM
def Gh.mv (gh:Gh) (l:Nat) (hd:Value) (ft:List Nat) (M:List Nat):Gh:=
 {hd:=fun k=>if k=l then hd else gh.hd k,bk:=gh.bk,ft:=fun k=>if k=l then ft else if k∈M then [] else gh.ft k }
section
variable (gh:Gh) (l:Nat) (hd:Value) (ft:List Nat) (M:List Nat)
theorem Gh.mv_hd:(gh.mv l hd ft M).hd l=hd:=by simp[Gh.mv]
theorem Gh.mv_ft:(gh.mv l hd ft M).ft l=ft:=by simp[Gh.mv]
theorem Gh.mv_bk:(gh.mv l hd ft M).bk=gh.bk:=rfl
theorem Gh.mv_hd_ne {k:Nat} (h:k≠l):(gh.mv l hd ft M).hd k=gh.hd k:=by simp[Gh.mv,h]
theorem Gh.mv_ft_ne {k:Nat} (h:k≠l) (hM:k∉M):(gh.mv l hd ft M).ft k=gh.ft k:=by simp[Gh.mv,h,hM]
theorem Gh.mv_ft_M {k:Nat} (h:k≠l) (hM:k∈M):(gh.mv l hd ft M).ft k=[]:=by simp[Gh.mv,h,hM]
end
theorem z1q (M:List Nat) (os:Objs):(z0n M os).length=os.length:=by
 induction M generalizing os with
 | nil=>rfl
 | cons m M ih=>simp only[z0n,List.foldl_cons] at *; rw[ih]; simp
theorem z4t (M:List Nat) (os:Objs) {k:Nat} (h:k∉M):obj (z0n M os) k=obj os k:=by
 induction M generalizing os with
 | nil=>rfl
 | cons m M ih=>
  simp only[z0n,List.foldl_cons] at *
  rw[ih _ (fun hk=>h (by simp[hk]))]
  exact z01 fun e=>h (by simp[e])
theorem ztc (M:List Nat) (os:Objs) {k:Nat} (h:k∈M):obj (z0n M os) k=.dead:=by
 induction M generalizing os with
 | nil=>cases h
 | cons m M ih=>
  by_cases hk:k∈M
  ·simp only[z0n,List.foldl_cons] at *; exact ih _ hk
  ·have hm:k=m:=by rcases List.mem_cons.1 h with h | h; exact h; exact absurd h hk
   subst hm
   have:=z4t M (os.set k .dead) hk
   simp only[z0n,List.foldl_cons] at *
   rw[this]
   by_cases hlt:k<os.length
   ·exact z0a hlt
   ·simp[obj,List.getD,hlt]
structure MoveOk (C:Ctx) (st:St) (gh:Gh) (w:World) (m:Bool) (l:Nat) (M:List Nat) (o':AObj) (hd':Value) (F':List Nat) (w':World):Prop where
 cl:Clear m l st
 cM:∀ k∈M,Clear true k st
 ro:st.ro≤l
 roM:∀ k∈M,st.ro≤k
 fxM:∀ k∈M,st.fx≤k
 lM:l∉M
 len:l<st.objs.length
 fr:Fr (·∈gh.ft l) w w'
 same:m=false→hd'=gh.hd l∧(∀ e t xs d L,obj st.objs l=.row e t xs d L→∃ ys d' L',o'=.row e t ys d' L'∧ys.length=xs.length)∧(∀ cs,obj st.objs l=.box cs→∃ ds,o'=.box ds)
 fix:l<st.fx→hd'=gh.hd l∧F'=gh.ft l
 F:∀ b∈F',b∈gh.ft l∨(∃ k∈M,b∈gh.ft k)∨(w.heap.size≤b∧b<w'.heap.size)
 nd:F'.Nodup
section
variable {C:Ctx} {st:St} {gh:Gh} {a:Act} {w w':World} {m:Bool} {l:Nat} {M:List Nat} {o':AObj} {hd':Value} {F':List Nat}
theorem MoveOk.tr (h:MoveOk C st gh w m l M o' hd' F' w'):Tr C w gh st.objs w' (gh.mv l hd' F' M) ((z0n M st.objs).set l o') (fun k=>k=l∨k∈M) (fun k=>k=l∧m=false):=by
 have hlen:l<(z0n M st.objs).length:=by rw[z1q]; exact h.len
 refine⟨h.fr.size,fun b hb=>?_,fun k b hb hk=>?_,fun k hk hd=>?_,fun k hk hH=>?_⟩
 ·by_cases hb':b∈gh.ft l
  ·exact .inr ⟨l,.inl rfl,hb'⟩
  ·exact .inl (h.fr.block b hb hb')
 ·by_cases e:k=l
  ·subst e
   rw[Gh.mv_ft] at hk
   rcases h.F b hk with h' | ⟨k',hk',h'⟩ | h'
   ·exact⟨k,h',.inl rfl⟩
   ·exact⟨k',h',.inr (.inr hk')⟩
   ·omega
  ·by_cases eM:k∈M
   ·rw[Gh.mv_ft_M _ _ _ _ _ e eM] at hk; cases hk
   ·rw[Gh.mv_ft_ne _ _ _ _ _ e eM] at hk
    exact⟨k,hk,.inl rfl⟩
 ·have e:k≠l:=fun e=>hk (.inl e)
  have eM:k∉M:=fun e=>hk (.inr e)
  exact⟨by rw[z01 e,z4t _ _ eM],Gh.mv_hd_ne _ _ _ _ _ e,rfl,Gh.mv_ft_ne _ _ _ _ _ e eM⟩
 ·obtain⟨rfl,hm⟩:=hH
  obtain⟨h1,h2,h3⟩:=h.same hm
  refine⟨by rw[Gh.mv_hd,h1],rfl,fun e t xs d L ho=>?_,fun cs ho=>?_⟩
  ·rw[z0a hlen]; exact h2 _ _ _ _ _ ho
  ·rw[z0a hlen]; exact h3 _ ho
theorem zbx {c:Leaf} (h1:c.dies m l=false) (h2:∀ k∈M,c.dies true k=false) (hlM:l∉M):c.stays (fun k=>k=l∨k∈M) (fun k=>k=l∧m=false):=by
 have key:∀ k,(k=l∨k∈M)→(c.dies true k=false)∨(k=l∧m=false):=by
  rintro k (e | e)
  ·subst e
   cases m
   ·exact .inr ⟨rfl,rfl⟩
   ·exact .inl h1
  ·exact .inl (h2 k e)
 cases c with
 | fn f caps=>
  intro p hp hk
  rcases key p.1 hk with hd | hd
  ·simp only[Leaf.dies,Bool.true_and,List.any_eq_false] at hd
   have:=hd p hp
   simp at this
  ·exact hd
 | val t x L=>
  intro k hk
  rcases hk with e | e
  ·subst e; exact h1
  ·exact h2 k e
 | ela t xs i o L=>
  intro k hk
  rcases hk with e | e
  ·subst e; exact h1
  ·exact h2 k e
 | own k=>intro hk; rcases key k hk with hd | hd; simp[Leaf.dies] at hd; exact hd
 | oela k _ _=>intro hk; rcases key k hk with hd | hd; simp[Leaf.dies] at hd; exact hd
 | view k _ _=>intro hk; rcases key k hk with hd | hd; simp[Leaf.dies] at hd; exact hd
 | ptr k _=>intro hk; rcases key k hk with hd | hd; simp[Leaf.dies] at hd; exact hd
 | sub k _ _=>
  intro hk
  rcases hk with e | e
  ·subst e; simp[Leaf.dies] at h1
  ·have:=h2 k e; simp[Leaf.dies] at this
 | oel2 k _ _ _ _=>
  intro hk
  rcases hk with e | e
  ·subst e; simp[Leaf.dies] at h1
  ·have:=h2 k e; simp[Leaf.dies] at this
 | hol k _=>
  intro hk
  rcases hk with e | e
  ·subst e; simp[Leaf.dies] at h1
  ·have:=h2 k e; simp[Leaf.dies] at this
 | undef=>trivial
 | skip=>trivial
 | nilS=>trivial
 | clo _ _ _=>trivial
theorem MoveOk.stays (h:MoveOk C st gh w m l M o' hd' F' w') {i:Nat}:∀ c∈(st.reg i).all,c.stays (fun k=>k=l∨k∈M) (fun k=>k=l∧m=false):=
 fun c hc=>zbx (h.cl.regs i c hc) (fun k hk=>(h.cM k hk).regs i c hc) h.lM
theorem MoveOk.staysBox (h:MoveOk C st gh w m l M o' hd' F' w') {k:Nat} {cs:List Leaf} (hk:obj st.objs k=.box cs):∀ c∈cs,c.stays (fun k=>k=l∨k∈M) (fun k=>k=l∧m=false):=
 fun c hc=>zbx (h.cl.boxes k cs hk c hc) (fun j hj=>(h.cM j hj).boxes k cs hk c hc) h.lM
theorem MoveOk.noL (h:MoveOk C st gh w m l M o' hd' F' w') {k:Nat} {e t xs d L} (hk:obj st.objs k=.row e t xs d L):∀ j,(j=l∨j∈M)→has L j=false:=by
 rintro j (e' | e')
 ·subst e'; exact h.cl.rows _ _ _ _ _ _ hk
 ·exact (h.cM j e').rows _ _ _ _ _ _ hk
theorem Rel.move (h:Rel C st gh a w) (hM:MoveOk C st gh w m l M o' hd' F' w') (hob:z2n C w' (gh.mv l hd' F' M) ((z0n M st.objs).set l o') l o'):
  Rel C { st with objs:=(z0n M st.objs).set l o' } (gh.mv l hd' F' M) a w':=by
 have hsz:=hM.fr.size
 have hT:=hM.tr
 have hlen:l<(z0n M st.objs).length:=by rw[z1q]; exact hM.len
 have cases3:∀ {k b},b∈(gh.mv l hd' F' M).ft k→(∃ k',b∈gh.ft k'∧(k'=k∨(k=l∧k'∈M))∧(k=l∨k∉M))∨(k=l∧w.heap.size≤b∧b<w'.heap.size):=by
  intro k b hb
  by_cases e:k=l
  ·subst e
   rw[Gh.mv_ft] at hb
   rcases hM.F b hb with h' | ⟨k',hk',h'⟩ | h'
   ·exact .inl ⟨k,h',.inl rfl,.inl rfl⟩
   ·exact .inl ⟨k',h',.inr ⟨rfl,hk'⟩,.inl rfl⟩
   ·exact .inr ⟨rfl,h'⟩
  ·by_cases eM:k∈M
   ·rw[Gh.mv_ft_M _ _ _ _ _ e eM] at hb; cases hb
   ·rw[Gh.mv_ft_ne _ _ _ _ _ e eM] at hb
    exact .inl ⟨k,hb,.inl rfl,.inr eM⟩
 refine⟨h.fr.on hM.fr fun i hi hlt=>?_,h.u0,h.gl,fun k b hb=>?_,fun k b hk hb=>?_,fun k k' b hb hb'=>?_,fun k=>?_,fun k b hb=>?_,fun k=>?_,fun k hk=>?_,h.fm,h.len,fun i=>?_,h.df,h.frm.mono fun c y hc hk=>z52 hT h.dj h.objs (zbx (hM.cl.frm c hc) (fun j hj=>(hM.cM j hj).frm c hc) hM.lM) hk⟩
 ·rcases h.own l i hM.ro hi with h' | h'
  ·omega
  ·exact h'
 ·rcases cases3 hb with ⟨k',h',_⟩ | ⟨_,h'⟩
  ·have:=h.lt _ _ h'; omega
  ·exact h'.2
 ·rcases cases3 hb with ⟨k',h',he,_⟩ | ⟨_,h'⟩
  ·refine h.own k' b ?_ h'
   rcases he with e | ⟨e,e'⟩
   ·subst e; exact hk
   ·exact hM.roM _ e'
  ·left; have:=h.fr.size; omega
 ·rcases cases3 hb with ⟨j,h1,e1,g1⟩ | ⟨e1,f1⟩<;>rcases cases3 hb' with ⟨j',h2,e2,g2⟩ | ⟨e2,f2⟩
  ·have hj:=h.dj _ _ _ h1 h2
   subst hj
   rcases e1 with e1 | ⟨e1,m1⟩<;>rcases e2 with e2 | ⟨e2,m2⟩
   ·rw[←e1,←e2]
   ·subst e1
    rcases g1 with g1 | g1
    ·rw[g1,e2]
    ·exact absurd m2 g1
   ·subst e2
    rcases g2 with g2 | g2
    ·rw[g2,e1]
    ·exact absurd m1 g2
   ·rw[e1,e2]
  ·have:=h.lt _ _ h1; omega
  ·have:=h.lt _ _ h2; omega
  ·rw[e1,e2]
 ·by_cases e:k=l
  ·subst e; rw[Gh.mv_ft]; exact hM.nd
  ·by_cases eM:k∈M
   ·rw[Gh.mv_ft_M _ _ _ _ _ e eM]; exact List.nodup_nil
   ·rw[Gh.mv_ft_ne _ _ _ _ _ e eM]; exact h.nd k
 ·rcases cases3 hb with ⟨j,h1,_⟩ | ⟨e1,f1⟩
  ·exact h.sep _ _ h1
  ·intro hu; have:=h.u0 _ hu; have:=h.fr.size; omega
 ·by_cases e:k=l
  ·subst e
   show z2n C w' _ _ k (obj ((z0n M st.objs).set k o') k)
   rw[z0a hlen]; exact hob
  ·by_cases eM:k∈M
   ·show z2n C w' _ _ k (obj ((z0n M st.objs).set l o') k)
    rw[z01 e,ztc _ _ eM]
    exact Gh.mv_ft_M _ _ _ _ _ e eM
   ·by_cases hd:obj st.objs k=.dead
    ·have:=h.objs k
     rw[hd] at this
     show z2n C w' _ _ k (obj ((z0n M st.objs).set l o') k)
     rw[z01 e,z4t _ _ eM,hd]
     show (gh.mv l hd' F' M).ft k=[]
     rw[Gh.mv_ft_ne _ _ _ _ _ e eM]; exact this
    ·refine zhl hT h.dj h.objs h.lt (by rintro (e' | e'); exact e e'; exact eM e') hd ?_
     cases ho:obj st.objs k with
     | dead=>exact absurd ho hd
     | hol _ _ _=>exact trivial
     | box cs=>exact hM.staysBox ho
     | row e t xs d L=>exact hM.noL ho
 ·by_cases e:k=l
  ·subst e
   obtain⟨h1,h2⟩:=hM.fix hk
   rw[Gh.mv_hd,Gh.mv_ft,Gh.mv_bk,h1,h2]; exact h.fix k hk
  ·have eM:k∉M:=fun e'=>by have:=hM.fxM k e'; have hk':k<st.fx:=hk; omega
   rw[Gh.mv_hd_ne _ _ _ _ _ e,Gh.mv_ft_ne _ _ _ _ _ e eM,Gh.mv_bk]; exact h.fix k hk
 ·exact znw hT h.dj h.objs (z2r hM.stays) (h.regs i)
end
theorem Clear.kill {st st':St} {m m':Bool} {l l':Nat} (h:Clear m l st) (hk:st.kill m' l'=some st'):Clear m l st':=by
 obtain⟨hl,rfl⟩:=z4c hk
 have key:∀ c:Leaf,c.dies m l=false→(c.kill m' l').dies m l=false:=by
  intro c hc
  unfold Leaf.kill
  split
  ·rfl
  ·exact hc
 refine⟨fun i c hc=>?_,fun k cs hk c hc=>?_,fun k e t xs d L hk=>?_,fun c hc=>by obtain⟨d,hd,rfl⟩:=List.mem_map.1 hc; exact key _ (h.frm d hd)⟩
 ·rw[zku] at hc
  have:=h.regs i
  cases hr:st.reg i with
  | one d=>
   rw[hr] at this hc
   simp only[SV.kill,SV.all,List.mem_singleton] at hc this
   subst hc
   exact key _ (this d rfl)
  | agg ds=>
   rw[hr] at this hc
   simp only[SV.kill,SV.all,List.mem_map] at hc this
   obtain⟨d,hd,rfl⟩:=hc
   exact key _ (this d hd)
  | tup vs=>
   rw[hr] at this hc
   simp only[SV.kill,SV.all,List.mem_flatMap,List.mem_map] at hc this
   obtain⟨p,⟨q,hq,rfl⟩,hc⟩:=hc
   obtain⟨d,hd,rfl⟩:=List.mem_map.1 hc
   exact key _ (this d ⟨q,hq,hd⟩)
 ·rw[z8s] at hk
  cases ho:obj st.objs k with
  | dead=>rw[ho] at hk; cases hk
  | hol _ _ _=>rw[ho] at hk; cases hk
  | row e t xs d L=>rw[ho] at hk; cases hk
  | box ds=>
   rw[ho] at hk
   simp only[AObj.kill,AObj.box.injEq] at hk
   subst hk
   obtain⟨d,hd,rfl⟩:=List.mem_map.1 hc
   exact key _ (h.boxes k ds ho d hd)
 ·rw[z8s] at hk
  cases ho:obj st.objs k with
  | dead=>rw[ho] at hk; cases hk
  | hol _ _ _=>rw[ho] at hk; cases hk
  | box ds=>rw[ho] at hk; cases hk
  | row e' t' xs' d' L'=>
   rw[ho] at hk
   simp only[AObj.kill] at hk
   cases hk
   exact h.rows _ _ _ _ _ _ ho
theorem z0f {st st':St} {m:Bool} {l:Nat} (hk:st.kill m l=some st'):st'.ro=st.ro∧st'.fx=st.fx∧st'.objs.length=st.objs.length∧(∀ k e t xs d L,obj st'.objs k=.row e t xs d L↔obj st.objs k=.row e t xs d L)∧(∀ k,(∃ cs,obj st'.objs k=.box cs)↔∃ cs,obj st.objs k=.box cs):=by
 obtain⟨_,rfl⟩:=z4c hk
 refine⟨rfl,rfl,by simp,fun k e t xs d L=>?_,fun k=>?_⟩
 ·rw[z8s]
  cases obj st.objs k<;>simp[AObj.kill]
 ·rw[z8s]
  cases obj st.objs k<;>simp[AObj.kill]
theorem Rel.killAll {C:Ctx} {gh:Gh} {a:Act} {w:World} {m:Bool}:∀ (M:List Nat) {st st':St},Rel C st gh a w→st.killAll m M=some st'→Rel C st' gh a w∧(∀ k∈M,Clear m k st')∧(∀ (m':Bool) j,Clear m' j st→Clear m' j st') ∧
  st'.ro=st.ro∧st'.fx=st.fx∧st'.objs.length=st.objs.length∧(∀ k e t xs d L,obj st'.objs k=.row e t xs d L↔obj st.objs k=.row e t xs d L)∧(∀ k,(∃ cs,obj st'.objs k=.box cs)↔∃ cs,obj st.objs k=.box cs)
 | [],st,st',h,hk=>by
  simp only[St.killAll,Option.some.injEq] at hk
  subst hk
  exact⟨h,by simp,fun _ _ h=>h,rfl,rfl,rfl,fun _ _ _ _ _ _=>Iff.rfl,fun _=>Iff.rfl⟩
 | l::M,st,st',h,hk=>by
  simp only[St.killAll] at hk
  split at hk
  ·rename_i st1 h1
   obtain⟨hr,hc⟩:=h.kill h1
   obtain⟨a1,a2,a3,a4,a5,a6,a7,a8⟩:=Rel.killAll M hr hk
   obtain⟨b1,b2,b3,b4,b5⟩:=z0f h1
   refine⟨a1,fun k hk=>?_,fun m' j hj=>a3 m' j (hj.kill h1),a4.trans b1,a5.trans b2,a6.trans b3,fun k e t xs d L=>(a7 k e t xs d L).trans (b4 k e t xs d L),fun k=>(a8 k).trans (b5 k)⟩
   rcases List.mem_cons.1 hk with rfl | hk
   ·exact a3 _ _ hc
   ·exact a2 k hk
  ·cases hk
theorem zd2:∀ {L:List Nat},zv0 L=true→L.Nodup
 | [],_=>List.nodup_nil
 | x::L,h=>by
  simp only[zv0,Bool.and_eq_true,Bool.not_eq_true'] at h
  refine List.nodup_cons.2 ⟨fun hx=>?_,zd2 h.2⟩
  rw[z8w.2 hx] at h
  cases h.1
theorem Rel.moveSt {C:Ctx} {st st':St} {gh:Gh} {a:Act} {w:World} {M:List Nat} {m:Bool} {l:Nat} (h:Rel C st gh a w) (hk:st.move M m l=some st'):
  Rel C st' gh a w∧Clear m l st'∧(∀ k∈M,Clear true k st')∧(∀ k∈M,st.ro≤k∧st.fx≤k)∧l∉M∧M.Nodup∧st'.ro=st.ro∧st'.fx=st.fx∧st'.objs.length=st.objs.length∧(∀ k e t xs d L,obj st'.objs k=.row e t xs d L↔obj st.objs k=.row e t xs d L):=by
 unfold St.move at hk
 split at hk
 ·rename_i hc
  simp only[Bool.and_eq_true,List.all_eq_true] at hc
  split at hk
  ·rename_i st1 h1
   obtain⟨a1,a2,a3,a4,a5,a6,a7,a8⟩:=Rel.killAll M h h1
   obtain⟨hr,hcl⟩:=a1.kill hk
   obtain⟨b1,b2,b3,b4,b5⟩:=z0f hk
   have hn:=List.nodup_cons.1 (zd2 hc.1)
   refine⟨hr,hcl,fun k hk'=>(a2 k hk').kill hk,fun k hk'=>?_,hn.1,hn.2,b1.trans a4,b2.trans a5,b3.trans a6,fun k e t xs d L=>(b4 k e t xs d L).trans (a7 k e t xs d L)⟩
   have:=hc.2 k hk'
   simp only[Bool.and_eq_true,Bool.not_eq_true'] at this
   constructor
   ·exact Nat.not_lt.1 fun hlt=>by have h2:Nat.blt k st.ro=true:=(by simpa using hlt); rw[h2] at this; cases this.1
   ·exact Nat.not_lt.1 fun hlt=>by have h2:Nat.blt k st.fx=true:=(by simpa using hlt); rw[h2] at this; cases this.2
  ·cases hk
 ·cases hk
end Go.AM
