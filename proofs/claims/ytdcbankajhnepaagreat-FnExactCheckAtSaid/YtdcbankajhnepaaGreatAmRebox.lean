/- A variable made anew takes the place of its elder self. No condition. -/
import Derived.Test.YtdcbankajhnepaaGreatAmDraw
set_option linter.unusedVariables false
set_option linter.unusedSimpArgs false
namespace Go.AM
section
variable {C:Ctx} {st:St} {gh:Gh} {a:Act} {w:World}
def Gh.rebox (gh:Gh) (l b:Nat):Gh:=
 {hd:=gh.hd,bk:=fun k=>if k=l then b else gh.bk k,ft:=fun k=>if k=l then [b] else gh.ft k }
theorem Gh.rebox_bk (gh:Gh) (l b:Nat):(gh.rebox l b).bk l=b:=by simp[Gh.rebox]
theorem Gh.rebox_ft (gh:Gh) (l b:Nat):(gh.rebox l b).ft l=[b]:=by simp[Gh.rebox]
theorem Gh.rebox_bk_ne (gh:Gh) {l b k:Nat} (h:k≠l):(gh.rebox l b).bk k=gh.bk k:=by simp[Gh.rebox,h]
theorem Gh.rebox_ft_ne (gh:Gh) {l b k:Nat} (h:k≠l):(gh.rebox l b).ft k=gh.ft k:=by simp[Gh.rebox,h]
theorem Rel.rebox (h:Rel C st gh a w) {l:Nat} (hcl:Clear true l st) (hro:st.ro≤l) (hfx:st.fx≤l) (hl:l<st.objs.length) {cs:List Leaf} {arr:Array Value} {T:TypeId}
  (hcs:∀ w' gh' os',All2 (LeafOk C w' gh' os') cs arr.toList):Rel C { st with objs:=st.objs.set l (.box cs) } (gh.rebox l w.heap.size) a (w.alloc (.cells arr T)):=by
 have hfr:=Fr.alloc w (.cells arr T)
 have hsz:(w.alloc (.cells arr T)).heap.size=w.heap.size+1:=by simp
 have hT:Tr C w gh st.objs (w.alloc (.cells arr T)) (gh.rebox l w.heap.size) (st.objs.set l (.box cs)) (fun k=>k=l) (fun _=>False):=by
  refine⟨by omega,fun b hb=>.inl (hfr.block b hb id),fun k b hb hk=>?_,fun k hk hd=>?_,fun k hk hH=>hH.elim⟩
  ·by_cases e:k=l
   ·subst e
    rw[Gh.rebox_ft,List.mem_singleton] at hk
    omega
   ·rw[Gh.rebox_ft_ne _ e] at hk
    exact⟨k,hk,.inl rfl⟩
  ·exact⟨z01 hk,rfl,Gh.rebox_bk_ne _ hk,Gh.rebox_ft_ne _ hk⟩
 have hst:∀ c:Leaf,c.dies true l=false→c.stays (fun k=>k=l) (fun _=>False):=by
  intro c hc
  have:=z3c hc
  cases c with
  | fn f caps=>intro p hp e; have h2:=this p hp e; cases h2
  | own k=>intro e; have h2:=this e; cases h2
  | oela k i o=>intro e; have h2:=this e; cases h2
  | view k i o=>intro e; have h2:=this e; cases h2
  | ptr k o=>intro e; have h2:=this e; cases h2
  | sub k i o=>exact this
  | oel2 k i o j o2=>exact this
  | hol k _=>exact this
  | val t x L=>exact this
  | ela t xs i o L=>exact this
  | undef=>trivial
  | skip=>trivial
  | nilS=>trivial
  | clo gs r p=>trivial
 have hup:∀ {k b},b∈(gh.rebox l w.heap.size).ft k→(k=l∧b=w.heap.size)∨(k≠l∧b∈gh.ft k):=by
  intro k b hb
  by_cases e:k=l
  ·subst e
   rw[Gh.rebox_ft,List.mem_singleton] at hb
   exact .inl ⟨rfl,hb⟩
  ·rw[Gh.rebox_ft_ne _ e] at hb
   exact .inr ⟨e,hb⟩
 refine⟨h.fr.on hfr fun i hi _=>hi.elim,h.u0,h.gl,fun k b hb=>?_,fun k b hk hb=>?_,fun k k' b hb hb'=>?_,fun k=>?_,fun k b hb=>?_,fun k=>?_,fun k hk=>?_,h.fm,h.len,fun i=>?_,h.df,h.frm.mono fun c y hc hk=>z52 hT h.dj h.objs (hst c (hcl.frm c hc)) hk⟩
 ·rcases hup hb with ⟨_,rfl⟩ | ⟨_,hb⟩
  ·omega
  ·have:=h.lt _ _ hb; omega
 ·rcases hup hb with ⟨_,rfl⟩ | ⟨_,hb⟩
  ·left; exact h.fr.size
  ·exact h.own _ _ hk hb
 ·rcases hup hb with ⟨rfl,rfl⟩ | ⟨_,hb⟩<;>rcases hup hb' with ⟨e,e2⟩ | ⟨_,hb'⟩
  ·exact e.symm
  ·have:=h.lt _ _ hb'; omega
  ·subst e2; have:=h.lt _ _ hb; omega
  ·exact h.dj _ _ _ hb hb'
 ·by_cases e:k=l
  ·subst e; rw[Gh.rebox_ft]; simp
  ·rw[Gh.rebox_ft_ne _ e]; exact h.nd k
 ·rcases hup hb with ⟨_,rfl⟩ | ⟨_,hb⟩
  ·intro hu; have:=h.u0 _ hu; have:=h.fr.size; omega
  ·exact h.sep _ _ hb
 ·by_cases e:k=l
  ·subst e
   show z2n C _ _ _ k (obj (st.objs.set k (.box cs)) k)
   rw[z0a hl]
   refine⟨by rw[Gh.rebox_ft,Gh.rebox_bk],arr,T,?_,hcs _ _ _⟩
   rw[Gh.rebox_bk]; exact heap_alloc_new w _
  ·by_cases hd:obj st.objs k=.dead
   ·have:=h.objs k
    rw[hd] at this
    show z2n C _ _ _ k (obj (st.objs.set l (.box cs)) k)
    rw[z01 e,hd]
    show (gh.rebox l _).ft k=[]
    rw[Gh.rebox_ft_ne _ e]; exact this
   ·refine zhl hT h.dj h.objs h.lt e hd ?_
    cases ho:obj st.objs k with
    | dead=>exact absurd ho hd
    | hol _ _ _=>exact trivial
    | box ds=>exact fun c hc=>hst c (hcl.boxes k ds ho c hc)
    | row e t xs d L=>intro l' hl'; subst hl'; exact hcl.rows _ _ _ _ _ _ ho
 ·have hk':k<st.fx:=hk
  have e:k≠l:=by omega
  rw[Gh.rebox_bk_ne _ e,Gh.rebox_ft_ne _ e]; exact h.fix k hk
 ·exact znw hT h.dj h.objs (z2r fun c hc=>hst c (hcl.regs i c hc)) (h.regs i)
theorem zuv {E:Env} (hE:EnvOk C.P C.Γ E) {o:Oper} (h:Rel C st gh a w) {st':St} (hs:zkv E st o=some st') {next:Act→World→Prop} {Q:Exit→Act→World→Prop}
  (hn:∀ gh' a' w',Rel C st' gh' a' w'→next a' w'):o.wp C.P a w next Q:=by
 unfold zkv at hs
 split at hs
 case h_2=>cases hs
 rename_i t ho
 split at hs
 case h_2=>cases hs
 rename_i d hd
 split at hs
 case h_2=>cases hs
 rename_i l hr
 split at hs
 case h_2=>cases hs
 rename_i cs ti hob hti
 split at hs
 case isFalse=>cases hs
 rename_i hc
 simp only[Bool.and_eq_true,Bool.not_eq_true'] at hc
 split at hs
 case h_2=>cases hs
 rename_i st1 hk
 simp only[Option.some.injEq] at hs
 subst hs
 obtain⟨h1,hcl⟩:=h.kill hk
 obtain⟨k1,k2,k3,_⟩:=z0f hk
 have hl:l<st.objs.length:=z0o (by rw[hob]; simp)
 have hlo:st1.ro≤l:=by rw[k1]; exact Nat.not_lt.1 fun hlt=>by have h2:Nat.blt l st.ro=true:=(by simpa using hlt); rw[hc.1] at h2; cases h2
 have hlf:st1.fx≤l:=by rw[k2]; exact Nat.not_lt.1 fun hlt=>by have h2:Nat.blt l st.fx=true:=(by simpa using hlt); rw[hc.2] at h2; cases h2
 have hT:=hE.tab _ _ hti
 obtain⟨i,hi,hz,_,_⟩:=hT.i
 have hcells:(zval ti).cells=(z3l ti.ty).toArray:=by
  unfold zval
  cases hag:ti.agg with
  | true=>rfl
  | false=>
   have htd:=hT.td
   split at htd
   ·cases hty:ti.ty<;>simp[hty] at htd<;>simp[z3l,Value.cells]
   ·obtain⟨s,hs⟩:=htd.2.2; simp[hs,z3l,Value.cells]
   ·rw[htd.1] at hag; cases hag
 have hrun:(execOp a.eval o).run C.P w=.ok (.value (.pointer (some ⟨w.heap.size,0,none⟩))) (w.alloc (.cells (z3l ti.ty).toArray t)):=by
  simp[execOp,ho,Instr.alloc,zeroValue,typeInfo,hi,hz,newVar,newRow,hcells]
 have hrel:=h1.rebox hcl hlo hlf (by omega) (cs:=z1n ti.ty) (arr:=(z3l ti.ty).toArray) (T:=t) (fun w' gh' os'=>by simpa using z61 ti.ty)
 refine ze1 hrun (hn (gh.rebox l w.heap.size) _ _ ?_)
 rw[hd]
 refine hrel.put ⟨⟨by rw[Gh.rebox_bk],_,z0a (by omega)⟩,fun _=>rfl⟩
end
end Go.AM
