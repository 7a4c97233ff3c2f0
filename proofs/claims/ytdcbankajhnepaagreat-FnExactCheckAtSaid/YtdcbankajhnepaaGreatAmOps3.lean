/- Operations that write no object: slicing, fields, literals of structs. No condition. -/
import Derived.Test.YtdcbankajhnepaaGreatAmOps2
import Derived.Laws.Tables
set_option linter.unusedVariables false
set_option linter.unusedSimpArgs false
namespace Go.AM
section
variable {C:Ctx} {st:St} {gh:Gh} {a:Act} {w:World}
theorem zrq (h:Rel C st gh a w) {d n:Int} {o:Option Operand} (hb:bnd st.ev d o=some n):(o=none∧n=d)∨∃ x k,o=some x∧a.eval x=.int k n:=by
 cases o with
 | none=>left; simp only[bnd,Option.some.injEq] at hb; exact⟨rfl,hb.symm⟩
 | some x=>
  right
  simp only[bnd] at hb
  split at hb
  ·rename_i k m L he
   simp only[Option.some.injEq] at hb
   subst hb
   have:=h.ev x
   rw[he] at this
   exact⟨x,k,rfl,z2b this⟩
  ·cases hb
theorem zfj (h:Rel C st gh a w) {zd6:Bool} {len cap:Nat} {lo hi:Option Operand} {l u:Int} (hlo:bnd st.ev 0 lo=some l) (hhi:bnd st.ev len hi=some u) (h0:0≤u) (h1:u≤cap) (h2:0≤l) (h3:l≤u):
  (Instr.sliceBounds zd6 len cap (lo.map a.eval) (hi.map a.eval) none).run C.P w=.ok (l.toNat,u.toNat,cap) w:=by
 have e1:(u.toNat:Int)=u:=by omega
 rcases zrq h hlo with ⟨rfl,rfl⟩ | ⟨x,k,rfl,hx⟩<;>rcases zrq h hhi with ⟨rfl,rfl⟩ | ⟨y,j,rfl,hy⟩
 ·simp[Instr.sliceBounds]
 ·simp[Instr.sliceBounds,hy,Instr.sliceBound,asIntOf,h0,h1]
 ·simp[Instr.sliceBounds,hx,Instr.sliceBound,asIntOf,h2]
  intro hc; omega
 ·simp[Instr.sliceBounds,hx,hy,Instr.sliceBound,asIntOf,h0,h1,h2]
  intro hc; omega
theorem zzn {E:Env} (hE:EnvOk C.P C.Γ E) {o:Oper} (h:Rel C st gh a w) {T:TypeId} {x:Operand} {lo hi:Option Operand} (ho:o.op=.slice T x lo hi none) {v:SV} (hs:(zb1 (z7b E T) (szIs (z3b E T)) st.ev st.objs (st.ev x) lo hi).run some=some v):Yld C st gh a w o v:=by
 have hxv:=h.ev x
 unfold zb1 at hs
 split at hs
 ·rename_i s L he
  rw[he] at hxv
  have hv:=zd5 hxv
  split at hs
  ·rename_i hst
   split at hs
   ·rename_i l u hlo hhi
    simp only[Tree.need,Tree.run] at hs
    split at hs
    ·rename_i g1; split at hs
     ·rename_i g2; split at hs
      ·rename_i g3; split at hs
       ·rename_i g4
        simp only[decide_eq_true_eq,Option.some.injEq] at g1 g2 g3 g4 hs
        subst hs
        have hu:C.P.underlying T=some .string:=by
         unfold z7b at hst
         split at hst
         ·rename_i ti hti; exact (hE.tab _ _ hti).td.2
         ·cases hst
        refine⟨_,?_,z0j (t:=.str) rfl rfl⟩
        have hb:=zfj h (zd6:=false) (len:=s.size) (cap:=s.size) hlo hhi g1 g2 g3 g4
        simp only[execOp,ho,hv,Instr.sliceAt,Instr.slice,Sem.run_bind,run_underlying hu,Result.andThen_ok,Option.map_none,hb]
        simp[hb]
       ·cases hs
      ·cases hs
     ·cases hs
    ·cases hs
   ·cases hs
  ·cases hs
 ·rename_i c hne he
  split at hs
  ·cases hs
  ·rename_i t hty
   split at hs
   ·rename_i hsz
    split at hs
    ·cases hs
    ·rename_i xs L hsd
     split at hs
     ·rename_i l u hlo hhi
      simp only[Tree.need,Tree.run] at hs
      split at hs
      ·rename_i g1; split at hs
       ·rename_i g2; split at hs
        ·rename_i g3; split at hs
         ·rename_i g4
          simp only[decide_eq_true_eq,Option.some.injEq] at g1 g2 g3 g4 hs
          subst hs
          rw[he] at hxv
          have hi:=z2d h.dj h.sep0 h.lt h.objs (e:=0) hxv hsd
          obtain⟨A,cap,hv,hcap,_⟩:=hi.rep
          simp only[List.cons.injEq,and_true] at hv
          rw[hv] at hi
          have hz:z3b E T=some t.size:=znv (by simp[hsz])
          obtain⟨e,hu,hsize⟩:=ze7 hE hz
          have hp:=zr0 hi (l:=l.toNat) (u:=u.toNat) (by omega) (by omega)
          refine⟨_,?_,⟨hp,fun _=>rfl⟩⟩
          have hb:=zfj h (zd6:=true) (len:=xs.length) (cap:=cap) hlo hhi g1 (by omega) g3 g4
          simp only[execOp,ho,hv,Instr.sliceAt,Instr.slice,Sem.run_bind,run_underlying hu,Result.andThen_ok,Option.map_none,hb,hsize,Sem.run_pure]
         ·cases hs
        ·cases hs
       ·cases hs
      ·cases hs
     ·cases hs
   ·cases hs
 ·cases hs
theorem zqi {E:Env} (hE:EnvOk C.P C.Γ E) {o:Oper} (h:Rel C st gh a w) {T:TypeId} {x:Operand} {lo hi:Option Operand} (ho:o.op=.slice T x lo hi none) {l:Nat} (hx:st.ev x=.one (.own l)) {v:SV} (hs:(ze6 (szIs (z3b E T)) st.ev st.objs l lo hi).run some=some v):Yld C st gh a w o v:=by
 have hxv:=h.ev x
 rw[hx] at hxv
 obtain⟨⟨hv,_⟩,_⟩:=hxv
 unfold ze6 at hs
 split at hs
 ·rename_i e' t xs d L hob
  split at hs
  ·rename_i hsz
   split at hs
   ·rename_i i j hlo hhi
    simp only[Tree.need,Tree.run] at hs
    split at hs
    ·rename_i g1; split at hs
     ·rename_i g2; split at hs
      ·rename_i g3; split at hs
       ·rename_i g4
        simp only[decide_eq_true_eq,Option.some.injEq] at g1 g2 g3 g4 hs
        subst hs
        have hi:=zkq (e':=0) h.dj h.sep0 h.lt (hob▸h.objs l)
        obtain⟨A,cap,hh,hcap,_⟩:=hi.rep
        simp only[List.cons.injEq,and_true] at hh
        have hz:z3b E T=some t.size:=znv (by simp[hsz])
        obtain⟨e,hu,hsize⟩:=ze7 hE hz
        refine⟨_,?_,⟨⟨_,_,_,_,_,A,xs.length,cap,hob,g3,g4,g2,hh,rfl⟩,fun _=>rfl⟩⟩
        have hb:=zfj h (zd6:=true) (len:=xs.length) (cap:=cap) hlo hhi g1 (by omega) g3 g4
        rw[hh] at hv
        simp only[execOp,ho,hv,Instr.sliceAt,Instr.slice,Sem.run_bind,run_underlying hu,Result.andThen_ok,Option.map_none,hb,hsize,Sem.run_pure]
       ·cases hs
      ·cases hs
     ·cases hs
    ·cases hs
   ·cases hs
  ·cases hs
 ·cases hs
theorem zx1 {E:Env} (hE:EnvOk C.P C.Γ E) {o:Oper} (h:Rel C st gh a w) {vw:Bool} {T:TypeId} {x:Operand} {lo hi:Option Operand} (ho:o.op=.slice T x lo hi none) {v:SV} (hs:(z5d vw (z7b E T) (szIs (z3b E T)) st.ev st.objs (st.ev x) lo hi).run some=some v):Yld C st gh a w o v:=by
 unfold z5d at hs
 split at hs
 ·rename_i l hl
  unfold ztl at hl
  split at hl
  ·rename_i l' hx
   split at hl
   ·simp only[Option.some.injEq] at hl
    subst hl
    exact zqi hE h ho hx hs
   ·cases hl
  ·cases hl
 ·exact zzn hE h ho hs
theorem zuw {o:Oper} (h:Rel C st gh a w) {x:Operand} {i:Nat} (ho:o.op=.extract x i) {vs:List (Bool×List Leaf)} (hx:st.ev x=.tup vs) {b:Bool} {cs:List Leaf} (hi:vs[i]? = some (b,cs)) (hn:cs.length=1∨b=true):Yld C st gh a w o (z90 b cs):=by
 have hxv:=h.ev x
 rw[hx] at hxv
 obtain⟨us,hv,ht⟩:=hxv
 have:∀ (vs:List (Bool×List Leaf)) (us:List Value) (i:Nat),zjm (LeafOk C w gh st.objs) vs us→vs[i]? = some (b,cs)→∃ v zs,us[i]? = some v∧zci b zs v∧All2 (LeafOk C w gh st.objs) cs zs:=by
  intro vs
  induction vs with
  | nil=>intro us i _ h; simp at h
  | cons p vs ih=>
   intro us i ht hi
   cases us with
   | nil=>exact ht.elim
   | cons u us=>
    cases i with
    | zero=>
     simp at hi; subst hi
     obtain⟨⟨zs,h1,h2⟩,_⟩:=ht
     exact⟨u,zs,rfl,h1,h2⟩
    | succ i=>simpa using ih us i ht.2 (by simpa using hi)
 obtain⟨v,zs,h1,h2,h3⟩:=this vs us i ht hi
 refine⟨v,?_,zc0 h2 h3 hn⟩
 simp[execOp,ho,hv,Instr.extract,h1]
theorem zzq {E:Env} (hE:EnvOk C.P C.Γ E) {o:Oper} (h:Rel C st gh a w) {t:TypeId} {x:Operand} {f:Nat} (ho:o.op=.field t x f) {ti:TI} (ht:tyOf E t=some ti) {fs:List FI} (hs:ti.td=.struct fs) {fi:FI} (hf:fs[f]? = some fi) {tf:TI} (htf:tyOf E fi.type=some tf)
  {cs:List Leaf} (hx:st.ev x=.agg cs) (hl:((cs.drop fi.off).take fi.size).length=fi.size) (hsz:fi.size=tf.ty.size) (hn:tf.agg=true∨fi.size=1):Yld C st gh a w o (z90 tf.agg ((cs.drop fi.off).take fi.size)):=by
 have hxv:=h.ev x
 rw[hx] at hxv
 obtain⟨vs,hv,ha⟩:=hxv
 obtain⟨arr,fld,hu,hg,h1,h2,h3⟩:=zj4 (hE.tab _ _ ht) hs hf
 have hagg:=(hE.tab _ _ htf).isAgg w
 have hd:=(ha.drop fi.off).take fi.size
 have hlen:=hd.len
 cases hag:tf.agg with
 | true=>
  rw[hag] at hagg
  refine⟨.agg ((vs.drop fi.off).take fi.size).toArray,?_,⟨_,rfl,hd⟩⟩
  simp only[execOp,ho,hv,Instr.field,Sem.run_bind,run_underlying hu,Result.andThen_ok,hg,asAgg,Sem.run_pure,part,h2,hagg,if_true,h3,h1]
  simp[List.extract_toArray,List.extract_eq_take_drop]
 | false=>
  rw[hag] at hagg
  have h1':fi.size=1:=by rcases hn with hn | hn; rw[hag] at hn; cases hn; exact hn
  have hl':((vs.drop fi.off).take fi.size).length=1:=by omega
  match hvs:(vs.drop fi.off).take fi.size,hl' with
  | [v],_=>
   refine⟨v,?_,zc0 (b:=false) rfl (hvs▸hd) (.inl (by omega))⟩
   have hg':vs[fi.off]? = some v:=by
    have:((vs.drop fi.off).take fi.size)[0]? = some v:=by rw[hvs]; rfl
    rw[List.getElem?_take,if_pos (by omega),List.getElem?_drop] at this
    simpa using this
   simp only[execOp,ho,hv,Instr.field,Sem.run_bind,run_underlying hu,Result.andThen_ok,hg,asAgg,Sem.run_pure,part,h2,hagg,Bool.false_eq_true,if_false,h1]
   simp[hg']
theorem zd1 {o:Oper} (h:Rel C st gh a w) {x:Operand} (ho:o.op=.nilCheck x) {c:Leaf} (hx:(st.ev x).leaf=c) (hc:match c with | .ptr _ _ | .oela _ _ _ | .ela _ _ _ _ _ | .oel2 _ _ _ _ _=>True | _=>False):Yld C st gh a w o (.one c):=by
 have hxv:=h.leaf x
 rw[hx] at hxv
 have:∃ ad,a.eval x=.pointer (some ad):=by
  cases c<;>simp only at hc
  ·exact⟨_,hxv.1.1⟩
  ·obtain⟨_,_,b,p,c,hv,_⟩:=hxv.1; exact⟨_,hv⟩
  ·obtain⟨e,t,xs,d,L,g,og,n,c,_,_,_,_,hv⟩:=hxv.1; exact⟨_,hv⟩
  ·obtain⟨e,t,xs,L,s,u,ys,b,ob,n,c,_,_,_,_,_,hv⟩:=hxv.1; exact⟨_,hv⟩
 obtain⟨ad,hv⟩:=this
 refine⟨a.eval x,?_,hxv⟩
 simp[execOp,ho,hv]
theorem zsj {o:Oper} (h:Rel C st gh a w) {f:FuncId} {first caps:Array Operand} (ho:o.op=.makeFunc (.func f) first caps) (hf:first.size=0) {cs:List (Nat×Nat)}
  (hc:caps.toList.mapM (fun x=>match (st.ev x).leaf with | .ptr l off=>some (l,off) | _=>none)=some cs):Yld C st gh a w o (.one (.fn f cs)):=by
 have key:∀ (xs:List Operand) (cs:List (Nat×Nat)),xs.mapM (fun x=>match (st.ev x).leaf with | .ptr l off=>some (l,off) | _=>none)=some cs →
   xs.map a.eval=cs.map (fun p=>Value.pointer (some ⟨gh.bk p.1,p.2,none⟩))∧∀ p∈cs,∃ ds,obj st.objs p.1=.box ds:=by
  intro xs
  induction xs with
  | nil=>intro cs h; simp at h; subst h; simp
  | cons x xs ih=>
   intro cs hm
   simp only[List.mapM_cons,Option.bind_eq_bind,Option.pure_def] at hm
   cases hl:(st.ev x).leaf with
   | ptr l off=>
    rw[hl] at hm
    simp only[Option.bind_some] at hm
    cases hr:xs.mapM (fun x=>match (st.ev x).leaf with | .ptr l off=>some (l,off) | _=>none) with
    | none=>rw[hr] at hm; cases hm
    | some ds=>
     rw[hr] at hm
     simp only[Option.bind_some,Option.some.injEq] at hm
     subst hm
     obtain⟨h1,h2⟩:=ih ds hr
     have hxv:=h.leaf x
     rw[hl] at hxv
     obtain⟨hv,hb⟩:=hxv.1
     refine⟨by simp[h1,hv],?_⟩
     intro p hp
     rcases List.mem_cons.1 hp with rfl | hp
     ·exact hb
     ·exact h2 p hp
   | _=>rw[hl] at hm; cases hm
 obtain⟨h1,h2⟩:=key _ _ hc
 have hf':first=#[]:=Array.eq_empty_of_size_eq_zero hf
 have hcaps:caps.map a.eval=(cs.map fun p=>Value.pointer (some ⟨gh.bk p.1,p.2,none⟩)).toArray:=by
  rw[←h1]
  apply Array.ext'
  simp
 exact⟨_,by simp[execOp,ho,hf',Instr.makeFunc,hcaps],⟨rfl,h2⟩,fun _=>rfl⟩
theorem y0u {o:Oper} (h:Rel C st gh a w) {c:Call} (ho:o.op=.call c) {x y:Operand} (hargs:c.args.toList=[x,y]) {k:IntKind} {m n:Int} {L M:List Nat} (hx:(st.ev x).leaf=.val (.int k) m L) (hy:(st.ev y).leaf=.val (.int k) n M):
  (c.callee=.builtin .max→Yld C st gh a w o (vint k (if m<n then n else m)))∧(c.callee=.builtin .min→Yld C st gh a w o (vint k (if n<m then n else m))):=by
 have hargs':c.args=#[x,y]:=by rw[←hargs]
 have h1:=h.leaf x
 rw[hx] at h1
 have h1:=z2b h1
 have h2:=h.leaf y
 rw[hy] at h2
 have h2:=z2b h2
 refine⟨fun hc=>⟨_,?_,z0j (t:=.int k) rfl rfl⟩,fun hc=>⟨_,?_,z0j (t:=.int k) rfl rfl⟩⟩
 ·simp[execOp,ho,resolve,hc,hargs',invoke,builtin,h1,h2,Builtin.max_,Builtin.max2]
 ·simp[execOp,ho,resolve,hc,hargs',invoke,builtin,h1,h2,Builtin.min_,Builtin.min2]
end
end Go.AM
