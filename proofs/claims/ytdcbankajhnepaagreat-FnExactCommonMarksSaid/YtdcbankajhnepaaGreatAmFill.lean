/- A variable takes a place that was laid by for it. No condition. -/
import Derived.Test.YtdcbankajhnepaaGreatAmRow
set_option linter.unusedVariables false
set_option linter.unusedSimpArgs false
namespace Go.AM
section
variable {C:Ctx} {st:St} {gh:Gh} {a:Act} {w:World}
def Gh.rebox (gh:Gh) (l b:Nat):Gh:=
 {hd:=gh.hd,bk:=fun k=>if k = l then b else gh.bk k,ft:=fun k=>if k = l then [b] else gh.ft k }
theorem Gh.rebox_bk (gh:Gh) (l b:Nat):(gh.rebox l b).bk l = b:=by simp [Gh.rebox]
theorem Gh.rebox_ft (gh:Gh) (l b:Nat):(gh.rebox l b).ft l = [b]:=by simp [Gh.rebox]
theorem Gh.rebox_bk_ne (gh:Gh) {l b k:Nat} (h:k ≠ l):(gh.rebox l b).bk k = gh.bk k:=by simp [Gh.rebox,h]
theorem Gh.rebox_ft_ne (gh:Gh) {l b k:Nat} (h:k ≠ l):(gh.rebox l b).ft k = gh.ft k:=by simp [Gh.rebox,h]
theorem Rel.fill (h:Rel C st gh a w) {l:Nat} (hd:obj st.objs l = .dead) (hro:st.ro ≤ l) (hfx:st.fx ≤ l) (hl:l < st.objs.length) {cs:List Leaf} {arr:Array Value} {T:TypeId}
  (hcs:∀ w' gh' os',All2 (LeafOk C w' gh' os') cs arr.toList):Rel C { st with objs:=st.objs.set l (.box cs) } (gh.rebox l w.heap.size) a (w.alloc (.cells arr T)):=by
 have hfr:=Fr.alloc w (.cells arr T)
 have hsz:(w.alloc (.cells arr T)).heap.size = w.heap.size + 1:=by simp
 have hft0:gh.ft l = []:=by have:=h.objs l; rw [hd] at this; exact this
 have hT:Tr C w gh st.objs (w.alloc (.cells arr T)) (gh.rebox l w.heap.size) (st.objs.set l (.box cs)) (fun _=>False) (fun _=>False):=by
  refine ⟨by omega,fun b hb=>.inl (hfr.block b hb id),fun k b hb hk=>?_,fun k _ hk=>?_,fun k hk hH=>hH.elim⟩
  ·by_cases e:k = l
   ·subst e
    rw [Gh.rebox_ft,List.mem_singleton] at hk
    omega
   ·rw [Gh.rebox_ft_ne _ e] at hk
    exact ⟨k,hk,.inl rfl⟩
  ·have e:k ≠ l:=fun e=>hk (e ▸ hd)
   exact ⟨obj_set_ne e,rfl,Gh.rebox_bk_ne _ e,Gh.rebox_ft_ne _ e⟩
 have hup:∀ {k b},b ∈ (gh.rebox l w.heap.size).ft k → (k = l ∧ b = w.heap.size) ∨ (k ≠ l ∧ b ∈ gh.ft k):=by
  intro k b hb
  by_cases e:k = l
  ·subst e
   rw [Gh.rebox_ft,List.mem_singleton] at hb
   exact .inl ⟨rfl,hb⟩
  ·rw [Gh.rebox_ft_ne _ e] at hb
   exact .inr ⟨e,hb⟩
 refine ⟨h.fr.on hfr fun i hi _=>hi.elim,h.u0,h.gl,fun k b hb=>?_,fun k b hk hb=>?_,fun k k' b hb hb'=>?_,fun k=>?_,fun k b hb=>?_,fun k=>?_,fun k hk=>?_,h.fm,h.len,fun i=>?_,h.df,h.frm.mono fun c y hc hk=>leaf_tr hT h.dj h.objs stays_none hk⟩
 ·rcases hup hb with ⟨_,rfl⟩ | ⟨_,hb⟩
  ·omega
  ·have:=h.lt _ _ hb; omega
 ·rcases hup hb with ⟨_,rfl⟩ | ⟨_,hb⟩
  ·left; exact h.fr.size
  ·exact h.own _ _ hk hb
 ·rcases hup hb with ⟨rfl,rfl⟩ | ⟨_,hb⟩ <;> rcases hup hb' with ⟨e,e2⟩ | ⟨_,hb'⟩
  ·exact e.symm
  ·have:=h.lt _ _ hb'; omega
  ·subst e2; have:=h.lt _ _ hb; omega
  ·exact h.dj _ _ _ hb hb'
 ·by_cases e:k = l
  ·subst e; rw [Gh.rebox_ft]; simp
  ·rw [Gh.rebox_ft_ne _ e]; exact h.nd k
 ·rcases hup hb with ⟨_,rfl⟩ | ⟨_,hb⟩
  ·intro hu; have:=h.u0 _ hu; have:=h.fr.size; omega
  ·exact h.sep _ _ hb
 ·by_cases e:k = l
  ·subst e
   show ObjOk C _ _ _ k (obj (st.objs.set k (.box cs)) k)
   rw [obj_set_eq hl]
   refine ⟨by rw [Gh.rebox_ft,Gh.rebox_bk],arr,T,?_,hcs _ _ _⟩
   rw [Gh.rebox_bk]; exact heap_alloc_new w _
  ·by_cases hd:obj st.objs k = .dead
   ·have:=h.objs k
    rw [hd] at this
    show ObjOk C _ _ _ k (obj (st.objs.set l (.box cs)) k)
    rw [obj_set_ne e,hd]
    show (gh.rebox l _).ft k = []
    rw [Gh.rebox_ft_ne _ e]; exact this
   ·refine obj_tr hT h.dj h.objs h.lt (fun h=>h) hd ?_
    cases ho:obj st.objs k with
    | dead=>exact absurd ho hd
    | box ds=>exact fun c hc=>stays_none
    | row e t xs d L=>exact fun _ hl'=>hl'.elim
 ·have hk':k < st.fx:=hk
  have e:k ≠ l:=by omega
  rw [Gh.rebox_bk_ne _ e,Gh.rebox_ft_ne _ e]; exact h.fix k hk
 ·exact sv_tr hT h.dj h.objs (stays_of_all fun c hc=>stays_none) (h.regs i)
theorem ok_fill {E:Env} (hE:EnvOk C.P C.Γ E) {o:Oper} (h:Rel C st gh a w) {t:TypeId} {d:Tmp} {l:Nat} {ti:TI} (ho:o.op = .alloc t) (hdst:o.dst = some d) (hti:tyOf E t = some ti) (hob:obj st.objs l = .dead)
  (hc:(Nat.blt l st.objs.length && !Nat.blt l st.ro && !Nat.blt l st.fx) = true) {next:Act → World → Prop} {Q:Exit → Act → World → Prop}
  (hn:∀ gh' a' w',Rel C (({ st with objs:=st.objs.set l (.box (zeroLeaves ti.ty)) }).put (some d) (.one (.ptr l 0))) gh' a' w' → next a' w'):o.wp C.P a w next Q:=by
 simp only [Bool.and_eq_true,Bool.not_eq_true'] at hc
 have hl:l < st.objs.length:=by simpa using hc.1.1
 have hlo:st.ro ≤ l:=Nat.not_lt.1 fun hlt=>by have h2:Nat.blt l st.ro = true:=(by simpa using hlt); rw [hc.1.2] at h2; cases h2
 have hlf:st.fx ≤ l:=Nat.not_lt.1 fun hlt=>by have h2:Nat.blt l st.fx = true:=(by simpa using hlt); rw [hc.2] at h2; cases h2
 have hT:=hE.tab _ _ hti
 obtain ⟨i,hi,hz,_,_⟩:=hT.i
 have hcells:(zval ti).cells = (zcells ti.ty).toArray:=by
  unfold zval
  cases hag:ti.agg with
  | true=>rfl
  | false=>
   have htd:=hT.td
   split at htd
   ·cases hty:ti.ty <;> simp [hty] at htd <;> simp [zcells,Value.cells]
   ·obtain ⟨s,hs⟩:=htd.2.2; simp [hs,zcells,Value.cells]
   ·rw [htd.1] at hag; cases hag
 have hrun:(execOp a.eval o).run C.P w = .ok (.value (.pointer (some ⟨w.heap.size,0,none⟩))) (w.alloc (.cells (zcells ti.ty).toArray t)):=by
  simp [execOp,ho,Instr.alloc,zeroValue,typeInfo,hi,hz,newVar,newRow,hcells]
 have hrel:=h.fill hob hlo hlf hl (cs:=zeroLeaves ti.ty) (arr:=(zcells ti.ty).toArray) (T:=t) (fun w' gh' os'=>by simpa using zeroLeaves_ok ti.ty)
 refine wp_val hrun (hn (gh.rebox l w.heap.size) _ _ ?_)
 rw [hdst]
 refine hrel.put ⟨⟨by rw [Gh.rebox_bk],_,obj_set_eq hl⟩,fun _=>rfl⟩
theorem Rel.reserve (h:Rel C st gh a w) {os:Objs} (ho:∀ k,obj os k = obj st.objs k):Rel C { st with objs:=os } gh a w:=by
 have hT:Tr C w gh st.objs w gh os (fun _=>False) (fun _=>False):=
  ⟨Nat.le_refl _,fun b _=>.inl rfl,fun l b _ hb=>⟨l,hb,.inl rfl⟩,fun l _ _=>⟨ho l,rfl,rfl,rfl⟩,fun l hl=>hl.elim⟩
 refine ⟨h.fr,h.u0,h.gl,h.lt,h.own,h.dj,h.nd,h.sep,fun l=>?_,h.fix,h.fm,h.len,fun i=>?_,h.df,h.frm.mono fun c y hc hk=>leaf_tr hT h.dj h.objs stays_none hk⟩
 ·show ObjOk C w gh os l (obj os l)
  by_cases hd:obj st.objs l = .dead
  ·have:=h.objs l
   rw [ho l]
   rw [hd] at this ⊢
   exact this
  ·refine obj_tr hT h.dj h.objs h.lt (fun h=>h) hd ?_
   cases ho:obj st.objs l with
   | dead=>exact absurd ho hd
   | box cs=>exact fun c hc=>stays_none
   | row e t xs d L=>exact fun _ hl=>hl.elim
 ·exact sv_tr hT h.dj h.objs (stays_of_all fun c hc=>stays_none) (h.regs i)
theorem obj_dead (os:Objs) (n:List (Nat × Nat)) (k:Nat):obj (os ++ n.map fun _=>AObj.dead) k = obj os k:=by
 by_cases hk:k < os.length
 ·exact obj_app hk
 ·simp only [obj,List.getD]
  rw [List.getElem?_append_right (by omega),List.getElem?_eq_none (by omega:os.length ≤ k)]
  simp only [List.getElem?_map]
  cases n[k - os.length]? <;> rfl
end
end Go.AM
