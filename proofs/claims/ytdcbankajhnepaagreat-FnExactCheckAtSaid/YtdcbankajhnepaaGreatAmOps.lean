/- Operations that write no object: their values. No condition. -/
import Derived.Test.YtdcbankajhnepaaGreatAmData
import Derived.Laws.StructEq
import Derived.Laws.Entries
import Derived.Laws.Shifts
import Derived.Sort.Statements
set_option linter.unusedVariables false
set_option linter.unusedSimpArgs false
namespace Go.AM
def zval (ti:TI):Value:=if ti.agg then .agg (z3l ti.ty).toArray else (z3l ti.ty).headD undef
structure TabOk (P:Program) (t:TypeId) (ti:TI):Prop where
 info:(P.info? t).map (fun i=>(i.zero,i.size,i.bytes))=some (some (zval ti),ti.ty.size,ti.bytes)
 td:match ti.td with
  | .data=>ti.agg=false∧(match ti.ty with
   | .int k=>P.underlying t=some (.int k)
   | .bool=>P.underlying t=some .bool
   | .str=>P.underlying t=some .string
   | _=>False)
  | .slice e=>ti.agg=false∧P.underlying t=some (.slice e)∧∃ s,ti.ty=.slice e s
  | .struct fs=>ti.agg=true∧∃ arr:Array Field,P.underlying t=some (.struct arr)∧arr.toList.map (fun f=>(f.offset,f.type))=fs.map (fun f=>(f.off,f.type)) ∧
    ∀ fi∈fs,(P.info? fi.type).map (·.size)=some fi.size
inductive Sc where
 | i (n:Int)
 | s (b:ByteArray)
def Sc.val:Sc→Value
 | .i n=>.int .i64 n
 | .s b=>.string b
def Sc.isS:Sc→Bool
 | .i _=>false
 | .s _=>true
def Sc.eq:Sc→Sc→Bool
 | .i a,.i b=>a==b
 | .s a,.s b=>a.toList==b.toList
 | _,_=>false
def scEq:List Sc→List Sc→Bool
 | [],[]=>true
 | a::r,b::s=>a.eq b&&scEq r s
 | _,_=>false
theorem zkl:∀ {a c b d:List Sc},a.length=c.length→scEq (a++b) (c++d)=(scEq a c&&scEq b d)
 | [],[],b,d,_=>by simp[scEq]
 | x::a,y::c,b,d,h=>by
  simp only[List.cons_append,scEq,zkl (a:=a) (c:=c) (b:=b) (d:=d) (by simpa using h),Bool.and_assoc]
 | [],_::_,_,_,h=>by simp at h
 | _::_,[],_,_,h=>by simp at h
def EqS (P:Program) (t:TypeId) (sh:List Bool):Prop:=
 P.eqGuardType P.depth t=false∧∀ (xs ys:List Sc) (w:World),xs.map Sc.isS=sh→ys.map Sc.isS=sh →
  (Op.equalIn 10000 t (.agg (xs.map Sc.val).toArray) (.agg (ys.map Sc.val).toArray)).run P w=.ok (scEq xs ys) w
def MutU (U0:Nat→Prop) (Fm:List Nat):Nat→Prop:=fun b=>U0 b∨b∈Fm
def zpi (P:Program) (w:World) (U0:Nat→Prop) (Fm:List Nat):(ps:List PIn)→z6e ps→List Value→List Nat→Prop
 | [],_,vs,F=>vs=[]∧F=[]
 | .imm b t::ps,x,vs,F=>∃ v cs r,vs=v::r∧zci b cs v∧ImmS t x.1 cs w (MutU U0 Fm)∧zpi P w U0 Fm ps x.2 r F
 | .mut b t::ps,x,vs,F=>∃ v cs r F1 F2,vs=v::r∧zci b cs v∧Deep t w x.1 F1 cs∧F=F1++F2∧zpi P w U0 Fm ps x.2 r F2
 | .clo gs r::ps,x,vs,F=>∃ v q,vs=v::q∧ztj P v gs r x.1 w U0∧Fm=[]∧zpi P w U0 Fm ps x.2 q F
 | .ptr t::ps,x,vs,F=>∃ b arr T r F2,vs=.pointer (some ⟨b,0,none⟩)::r∧w.heap[b]? = some (.cells arr T (0,0))∧ImmS t x.1 arr.toList w (MutU U0 Fm)∧F=b::F2∧zpi P w U0 Fm ps x.2 r F2
def zi4 (w:World) (U:Nat→Prop):(ps:List POut)→z4z ps→List Value→List Nat→Prop
 | [],_,vs,F=>vs=[]∧F=[]
 | .imm b t::ps,y,vs,F=>∃ v cs r,vs=v::r∧zci b cs v∧ImmS t y.1 cs w U∧zi4 w U ps y.2 r F
 | .deep b t::ps,y,vs,F=>∃ v cs r F1 F2,vs=v::r∧zci b cs v∧Deep t w y.1 F1 cs∧F=F1++F2∧zi4 w U ps y.2 r F2
def MutT:(t:Ty)→World→World→t.den→t.den→List Value→Prop
 | .pair a b,w,w',x,y,cs=>∀ c1 c2,cs=c1++c2→c1.length=a.size→MutT a w w' x.1 y.1 c1∧MutT b w w' x.2 y.2 c2
 | .slice e t,w,w',x,y,cs=>∀ F,Deep (.slice e t) w x F cs→Deep (.slice e t) w' y F cs
 | _,_,_,_,_,_=>True
def zje (w w':World) (U:Nat→Prop):(ps:List PIn)→z6e ps→z51 ps→List Value→Prop
 | [],_,_,_=>True
 | .imm _ _::ps,x,y,vs=>zje w w' U ps x.2 y vs.tail
 | .clo _ _::ps,x,y,vs=>zje w w' U ps x.2 y vs.tail
 | .mut b t::ps,x,y,vs=>(∀ cs,zci b cs (vs.headD undef)→MutT t w w' x.1 y.1 cs)∧zje w w' U ps x.2 y.2 vs.tail
 | .ptr t::ps,x,y,vs=>(∀ b,vs.headD undef=.pointer (some ⟨b,0,none⟩)→∃ arr T,w'.heap[b]? = some (.cells arr T (0,0))∧ImmS t y.1 arr.toList w' U)∧zje w w' U ps x.2 y.2 vs.tail
def zkz:List Value→Value
 | [v]=>v
 | vs=>.tuple vs.toArray
def FOk (P:Program) (Γ:Facts) (f:FuncId) (s:FSpec):Prop:=
 ∀ (x:z6e s.ins) (args:List Value) (w:World) (U0:Nat→Prop) (Fm:List Nat),(∀ b,U0 b→b<w.heap.size)→zpi P w U0 Fm s.ins x args Fm→Fm.Nodup→(∀ b∈Fm,¬U0 b)→Gl Γ (fun b=>U0 b∨b∈Fm) w →
  ∀ y,s.fn x=some y→Calls P f args.toArray w fun e w'=>∃ vs Fd,e=.returned (zkz vs)∧FrQ (s.q=true) (·∈Fm) w w'∧Fd.Nodup∧(∀ b∈Fd,w.heap.size≤b) ∧
   zi4 w' (fun b=>U0 b∨b∈Fm∨b∈Fd) s.outs y.1 vs Fd∧zje w w' (fun b=>U0 b∨b∈Fm∨b∈Fd) s.ins x y.2 args
def zcf (ag:Bool) (c:List Value):Value:=if ag then .agg c.toArray else c.headD undef
def zti (P:Program) (e:TypeId) (size:Nat) (w:World) (v:Value) (css:List (List Value)) (σ:List Nat):Ending→World→Prop:=fun r w'=>
 ∃ v',r=.returned v'∧v'.ownBlock=v.ownBlock∧OwnR w' e size v' σ.length (σ.map (css.getD · [])).flatten∧Fr (fun k=>v.ownBlock=some k) w w'
def y0m (e:TypeId) (size:Nat) (w:World) (v:Value) (css:List (List Value)) (σ:List Nat):Ending→World→Prop:=fun r w'=>
 r=.returned (.tuple #[])∧OwnR w' e size v css.length (σ.map (css.getD · [])).flatten∧Fr (fun k=>v.ownBlock=some k) w w'
def z4d (bs:List Bool):List Nat:=(List.range bs.length).filter fun i=>!bs.getD i true
def Says (P:Program) (w:World) (v fv:Value) (R:List Value→Value→Prop):Prop:=
 ∃ h lb,fv=.func (.func h) #[] lb∧∀ args res,R args res→z1m P h∧∀ W:World,w.heap.size≤W.heap.size→(∀ k,k<w.heap.size→v.ownBlock≠some k→W.heap[k]? = w.heap[k]?) →
  Calls P h (args.toArray++lb) W fun r W'=>r=.returned res∧Fr (fun _=>False) W W'
def zmw (P:Program) (g:FuncId) (ri:RInfo):Prop:=
 ∀ (w:World) (v:Value) (css:List (List Value)),(∀ c∈css,c.length=ri.size∧∀ u∈c,u.oneCell'=true)→OwnR w ri.e ri.size v css.length css.flatten →
  match ri.k with
  | .filter=>∀ (fv:Value) (bs:List Bool),bs.length=css.length→Says P w v fv (fun args res=>∃ (j:Nat) (c:List Value) (b:Bool),css[j]? = some c∧bs[j]? = some b∧args=[zcf ri.ag c]∧res=.bool b)→Calls P g #[v,fv] w (zti P ri.e ri.size w v css (z4d bs))
  | .sort=>∀ (fv:Value) (m:Nat→Nat→Int),css.length<4611686018427387904→Go.Sort.SWO (z4x css.length m)→Says P w v fv (fun args res=>∃ (j k:Nat) (c d:List Value),css[j]? = some c∧css[k]? = some d∧args=[zcf ri.ag c,zcf ri.ag d]∧res=.int .i64 (m j k))→Calls P g #[v,fv] w (y0m ri.e ri.size w v css (z2w css.length m))
  | .cut=>∀ i j:Nat,i≤j→j≤css.length→Calls P g #[v,.int .i64 i,.int .i64 j] w (zti P ri.e ri.size w v css (List.range i++List.range' j (css.length - j)))
structure EnvOk (P:Program) (Γ:Facts) (E:Env):Prop where
 mixed:P.follows .mixedOrders=true
 q:E.q=Γ.q
 tab:∀ t ti,tyOf E t=some ti→TabOk P t ti
 sig:∀ f s,z4i E.sig f=some s→z1m P f∧FOk P Γ f s∧(Γ.q=true→s.q=true)
 clos:∀ g ci,z4i E.clos g=some ci→P.funcs[g]? = some ci.fn∧z1m P g
 eqs:∀ t n,z4i E.eqs t=some n→EqS P t n
 rfn:∀ g ri,z4i E.rfn g=some ri→z1m P g∧zmw P g ri
section
variable {P:Program} {t:TypeId} {ti:TI}
theorem TabOk.size (h:TabOk P t ti) (w:World):(sizeOf t).run P w=.ok ti.ty.size w:=by
 have hi:=h.info
 cases hp:P.info? t with
 | none=>rw[hp] at hi; cases hi
 | some i=>
  rw[hp] at hi
  simp only[Option.map_some,Option.some.injEq,Prod.mk.injEq] at hi
  simp[sizeOf,typeInfo,hp,hi.2.1]
theorem TabOk.i (h:TabOk P t ti):∃ i,P.info? t=some i∧i.zero=some (zval ti)∧i.size=ti.ty.size∧i.bytes=ti.bytes:=by
 have hi:=h.info
 cases hp:P.info? t with
 | none=>rw[hp] at hi; cases hi
 | some i=>
  rw[hp] at hi
  simp only[Option.map_some,Option.some.injEq,Prod.mk.injEq] at hi
  exact⟨i,rfl,hi.1,hi.2.1,hi.2.2⟩
theorem TabOk.isAgg (h:TabOk P t ti) (w:World):(isAgg t).run P w=.ok ti.agg w:=by
 have ht:=h.td
 split at ht
 ·obtain⟨h1,h2⟩:=ht
  split at h2<;>first | exact h2.elim | simp[Go.isAgg,run_underlying h2,h1]
 ·obtain⟨h1,h2,_⟩:=ht
  simp[Go.isAgg,run_underlying h2,h1]
 ·obtain⟨h1,arr,h2,_⟩:=ht
  simp[Go.isAgg,run_underlying h2,h1]
end
theorem ze1 {P:Program} {o:Oper} {a:Act} {w w':World} {next:Act→World→Prop} {Q:Exit→Act→World→Prop} {x:Value}
  (hr:(execOp a.eval o).run P w=.ok (.value x) w') (h:next (a.put o.dst x) w'):o.wp P a w next Q:=by
 unfold Oper.wp; rw[hr]; exact h
section
variable {C:Ctx} {st:St} {gh:Gh} {a:Act} {w:World}
theorem y6j {v:Value} {os:Objs}:SVOk (LeafOk C w gh os) (zv4 v) v:=by
 unfold zv4
 split
 ·exact z0j rfl rfl
 ·exact z0j rfl rfl
 ·exact z0j rfl rfl
 ·exact⟨rfl,fun _=>rfl⟩
 ·exact SVOk.undef _
theorem Rel.ev (h:Rel C st gh a w) (x:Operand):SVOk (LeafOk C w gh st.objs) (st.ev x) (a.eval x):=by
 cases x with
 | tmp t=>exact h.regs t
 | const v=>exact y6j
 | global g=>exact SVOk.undef _
 | func f=>exact⟨⟨by simp[Act.eval],by simp⟩,fun _=>rfl⟩
theorem Rel.leaf (h:Rel C st gh a w) (x:Operand):LeafOk C w gh st.objs (st.ev x).leaf (a.eval x):=by
 have:=h.ev x
 cases hv:st.ev x with
 | one c=>rw[hv] at this; exact this
 | agg cs=>exact SVOk.undef _
 | tup vs=>exact SVOk.undef _
theorem Rel.leaves (h:Rel C st gh a w) (x:Operand) {b:Bool} {ls:List Leaf} (hl:(st.ev x).leaves=some (b,ls)):∃ cs,zci b cs (a.eval x)∧All2 (LeafOk C w gh st.objs) ls cs:=by
 have:=h.ev x
 cases hv:st.ev x with
 | one c=>
  rw[hv] at this hl
  simp only[SV.leaves,Option.some.injEq,Prod.mk.injEq] at hl
  obtain⟨rfl,rfl⟩:=hl
  exact⟨[a.eval x],rfl,this,trivial⟩
 | agg cs=>
  rw[hv] at this hl
  simp only[SV.leaves,Option.some.injEq,Prod.mk.injEq] at hl
  obtain⟨rfl,rfl⟩:=hl
  exact this
 | tup vs=>rw[hv] at hl; cases hl
theorem zc0 {R:Leaf→Value→Prop} {b:Bool} {ls:List Leaf} {cs:List Value} {v:Value} (hp:zci b cs v) (h:All2 R ls cs) (hn:ls.length=1∨b=true):SVOk R (z90 b ls) v:=by
 cases b with
 | true=>exact⟨cs,hp,h⟩
 | false=>
  obtain rfl:cs=[v]:=hp
  match ls,h with
  | [c],h=>exact h.1
  | c::d::r,h=>exact h.2.elim
  | [],h=>exact h.elim
theorem z2b {os:Objs} {k:IntKind} {n:Int} {L:List Nat} {v:Value} (h:LeafOk C w gh os (.val (.int k) n L) v):v=.int k n:=by
 have:=ImmS.rep h.1
 simpa[Rep] using this
theorem zc4 {os:Objs} {n:Bool} {L:List Nat} {v:Value} (h:LeafOk C w gh os (.val .bool n L) v):v=.bool n:=by
 have:=ImmS.rep h.1
 simpa[Rep] using this
theorem zd5 {os:Objs} {n:ByteArray} {L:List Nat} {v:Value} (h:LeafOk C w gh os (.val .str n L) v):v=.string n:=by
 have:=ImmS.rep h.1
 simpa[Rep] using this
def Yld (C:Ctx) (st:St) (gh:Gh) (a:Act) (w:World) (o:Oper) (v:SV):Prop:=
 ∃ x,(execOp a.eval o).run C.P w=.ok (.value x) w∧SVOk (LeafOk C w gh st.objs) v x
theorem zx3 {o:Oper} (h:Rel C st gh a w) {x:Operand} (ho:o.op=.move x∨o.op=.assign x):Yld C st gh a w o (st.ev x):=by
 refine⟨a.eval x,?_,h.ev x⟩
 rcases ho with ho | ho<;>simp[execOp,ho]
theorem y1y {o:Oper} (h:Rel C st gh a w) {c x y:Operand} (ho:o.op=.pick c x y) {b:Bool} {L:List Nat} (hc:(st.ev c).leaf=.val .bool b L):Yld C st gh a w o (if b then st.ev x else st.ev y):=by
 have hl:=h.leaf c
 rw[hc] at hl
 have hv:=zc4 hl
 refine⟨if b then a.eval x else a.eval y,?_,?_⟩
 ·simp[execOp,ho,hv,asBool]
 ·cases b
  ·exact h.ev y
  ·exact h.ev x
theorem y7w {o:Oper} (h:Rel C st gh a w) {op:UnOp} {t:TypeId} {x:Operand} (ho:o.op=.unOp op t x) {v:SV} (hs:(un op (st.ev x)).run some=some v):Yld C st gh a w o v:=by
 have hx:=h.ev x
 unfold un at hs
 split at hs
 ·rename_i b L hv
  rw[hv] at hx
  have e:=zc4 hx
  simp only[Tree.run,Option.some.injEq] at hs
  subst hs
  exact⟨.bool (!b),by simp[execOp,ho,e,Op.unary],z0j rfl rfl⟩
 ·rename_i k n L hv
  rw[hv] at hx
  have e:=z2b hx
  simp only[Tree.run,Option.some.injEq] at hs
  subst hs
  exact⟨.int k (k.wrap (0 - n)),by simp[execOp,ho,e,Op.unary,Op.intArith],z0j rfl rfl⟩
 ·cases hs
theorem zq7 {sh:List Bool} {ls:List Leaf} (h:z62 (false::sh) ls=true):∃ x X l,ls=.val (.int .i64) x X::l∧z62 sh l=true:=by
 unfold z62 at h
 split at h<;>first | contradiction | (simp_all; done) | skip
 rename_i e
 cases e
 exact⟨_,_,_,rfl,h⟩
theorem zq5 {sh:List Bool} {ls:List Leaf} (h:z62 (true::sh) ls=true):∃ x X l,ls=.val .str x X::l∧z62 sh l=true:=by
 unfold z62 at h
 split at h<;>first | contradiction | (simp_all; done) | skip
 rename_i e
 cases e
 exact⟨_,_,_,rfl,h⟩
theorem zq6 {ls:List Leaf} (h:z62 [] ls=true):ls=[]:=by
 cases ls with
 | nil=>rfl
 | cons a r=>simp[z62] at h
theorem zdd {os:Objs}:∀ {sh:List Bool} {ls ms:List Leaf} {cs ds:List Value} {r:Bool},All2 (LeafOk C w gh os) ls cs→All2 (LeafOk C w gh os) ms ds→z62 sh ls=true→z62 sh ms=true→zde ls ms=some r →
  ∃ xs ys:List Sc,cs=xs.map Sc.val∧ds=ys.map Sc.val∧xs.map Sc.isS=sh∧ys.map Sc.isS=sh∧r=scEq xs ys
 | [],ls,ms,cs,ds,r,h1,h2,s1,s2,hr=>by
  obtain rfl:=zq6 s1
  obtain rfl:=zq6 s2
  cases cs with
  | cons c cs=>exact h1.elim
  | nil=>
   cases ds with
   | cons d ds=>exact h2.elim
   | nil=>
    simp only[zde,Option.some.injEq] at hr
    exact⟨[],[],rfl,rfl,rfl,rfl,hr.symm⟩
 | false::sh,ls,ms,cs,ds,r,h1,h2,s1,s2,hr=>by
  obtain⟨x,X,ls,rfl,s1⟩:=zq7 s1
  obtain⟨y,Y,ms,rfl,s2⟩:=zq7 s2
  rw[zde] at hr
  split at hr
  ·rename_i q hq
   cases cs with
   | nil=>exact h1.elim
   | cons v cs=>
    cases ds with
    | nil=>exact h2.elim
    | cons u ds=>
     obtain⟨xs,ys,rfl,rfl,g1,g2,rfl⟩:=zdd h1.2 h2.2 s1 s2 hq
     obtain rfl:=z2b h1.1
     obtain rfl:=z2b h2.1
     simp only[Option.some.injEq] at hr
     exact⟨.i x::xs,.i y::ys,rfl,rfl,by rw[←g1]; rfl,by rw[←g2]; rfl,by rw[←hr]; rfl⟩
  ·cases hr
 | true::sh,ls,ms,cs,ds,r,h1,h2,s1,s2,hr=>by
  obtain⟨x,X,ls,rfl,s1⟩:=zq5 s1
  obtain⟨y,Y,ms,rfl,s2⟩:=zq5 s2
  rw[zde] at hr
  split at hr
  ·rename_i q hq
   cases cs with
   | nil=>exact h1.elim
   | cons v cs=>
    cases ds with
    | nil=>exact h2.elim
    | cons u ds=>
     obtain⟨xs,ys,rfl,rfl,g1,g2,rfl⟩:=zdd h1.2 h2.2 s1 s2 hq
     obtain rfl:=zd5 h1.1
     obtain rfl:=zd5 h2.1
     simp only[Option.some.injEq] at hr
     exact⟨.s x::xs,.s y::ys,rfl,rfl,by rw[←g1]; rfl,by rw[←g2]; rfl,by rw[←hr]; rfl⟩
  ·cases hr
theorem y68 {E:Env} (hE:EnvOk C.P C.Γ E) {o:Oper} (h:Rel C st gh a w) {op:BinOp} {t u:TypeId} {x y:Operand} (ho:o.op=.binOp op t x y u) {v:SV} (hs:(bin E.eqs (zou E t) op t (st.ev x) (st.ev y)).run some=some v):Yld C st gh a w o v:=by
 have hx:=h.ev x
 have hy:=h.ev y
 unfold bin at hs
 split at hs
 ·
  rename_i k n L j m M hv1 hv2
  rw[hv1] at hx; rw[hv2] at hy
  have e1:=z2b hx
  have e2:=z2b hy
  split at hs
  ·rename_i hsh
   simp only[Tree.run] at hs
   split at hs
   ·cases hs
   ·rename_i hneg
    simp only[decide_eq_true_eq] at hneg
    simp only[Option.some.injEq] at hs
    subst hs
    refine⟨_,?_,z0j (t:=.int k) rfl rfl⟩
    have hneg:0≤m:=Int.not_lt.1 hneg
    cases op<;>first | (cases hsh; done) | skip
    ·simp[execOp,ho,e1,e2,eqGuard_at_int,binOp_shl,shift_shl_any _ _ _ _ hneg,y1q]
    ·simp[execOp,ho,e1,e2,eqGuard_at_int,binOp_shr,shift_shr_any _ _ _ _ hneg,y1q]
  split at hs
  ·rename_i hk
   simp only[znd,decide_eq_true_eq] at hk
   subst hk
   unfold y0v at hs
   split at hs
   all_goals try (simp only[Tree.run,Option.some.injEq] at hs; subst hs)
   all_goals try (refine⟨_,?_,z0j (t:=.int k) rfl rfl⟩; simp[execOp,ho,e1,e2,eqGuard_at_int,binOp,Op.intArith]; done)
   all_goals try (refine⟨_,?_,z0j (t:=.int k) rfl rfl⟩; simp[execOp,ho,e1,e2,eqGuard_at_int,binOp,intBits_and,intBits_or,intBits_xor,intBits_andNot]; done)
   all_goals try (refine⟨_,?_,z0j (t:=.bool) rfl rfl⟩; simp[execOp,ho,e1,e2,eqGuard_at_int,binOp,Op.intCmp]; done)
   all_goals try (cases hs; done)
   all_goals
    simp only[Tree.run] at hs
    split at hs
    ·cases hs
    ·rename_i hz
     simp only[Option.some.injEq] at hs
     subst hs
     have hz':¬m=0:=fun e=>hz (by simp[e])
     refine⟨_,?_,z0j (t:=.int k) rfl rfl⟩
     simp[execOp,ho,e1,e2,eqGuard_at_int,binOp,Op.intDiv,hz']
  ·cases hs
 ·
  rename_i n L m M hv1 hv2
  rw[hv1] at hx; rw[hv2] at hy
  have e1:=zd5 hx
  have e2:=zd5 hy
  unfold y0p at hs
  split at hs
  ·simp only[Tree.run,Tree.need] at hs
   split at hs
   ·rename_i hz
    simp only[Option.some.injEq] at hs
    subst hs
    have hz2:n.size+m.size≤9223372036854775807:=by simpa using hz
    have hz':¬((n.size+m.size:Nat):Int) > IntKind.i64.max:=by
     have:IntKind.i64.max=9223372036854775807:=by decide
     rw[this]; omega
    refine⟨.string (n++m),?_,z0j (t:=.str) rfl rfl⟩
    simp only[execOp,ho,e1,e2,eqGuard_at_string,binOp,Op.stringOp,Sem.run_bind,Sem.run_pure,Result.andThen_ok]
    rw[if_neg hz']
    rfl
   ·cases hs
  all_goals try (simp only[Tree.run,Option.some.injEq] at hs; subst hs; refine⟨_,?_,z0j (t:=.bool) rfl rfl⟩; simp[execOp,ho,e1,e2,eqGuard_at_string,binOp,Op.stringOp]; done)
  cases hs
 ·
  rename_i n L m M hv1 hv2
  rw[hv1] at hx; rw[hv2] at hy
  have e1:=zc4 hx
  have e2:=zc4 hy
  split at hs
  ·rename_i hb
   have ht:C.P.underlying t=some .bool:=by
    unfold zou at hb
    split at hb
    ·rename_i ti hti
     have:=(hE.tab _ _ hti).td
     exact this.2
    ·cases hb
   split at hs
   ·simp only[Tree.run,Option.some.injEq] at hs
    subst hs
    refine⟨_,?_,z0j (t:=.bool) rfl rfl⟩
    have:=run_equalIn_bool w 9999 t n m ht
    simp[execOp,ho,e1,e2,eqGuard_at_bool,binOp,Op.equal,Op.maxDepth,this]
   ·simp only[Tree.run,Option.some.injEq] at hs
    subst hs
    refine⟨_,?_,z0j (t:=.bool) rfl rfl⟩
    have:=run_equalIn_bool w 9999 t n m ht
    simp[execOp,ho,e1,e2,eqGuard_at_bool,binOp,Op.equal,Op.maxDepth,this]
    first | rfl | (cases n<;>cases m<;>rfl)
   ·cases hs
  ·cases hs
 ·
  rename_i ls ms hv1 hv2
  rw[hv1] at hx; rw[hv2] at hy
  obtain⟨cs,e1,h1⟩:=hx
  obtain⟨ds,e2,h2⟩:=hy
  split at hs
  ·rename_i n hn
   split at hs
   ·rename_i hlen
    simp only[Bool.and_eq_true] at hlen
    obtain⟨hg,heq⟩:=hE.eqs _ _ hn
    split at hs
    ·rename_i r hr
     obtain⟨xs,ys,rfl,rfl,g1,g2,rfl⟩:=zdd h1 h2 hlen.1 hlen.2 hr
     simp only[Tree.run,Option.some.injEq] at hs
     subst hs
     refine⟨.bool (scEq xs ys),?_,z0j (t:=.bool) rfl rfl⟩
     have:=heq xs ys w g1 g2
     simp only[execOp,ho,e1,e2,Sem.run_bind,Sem.run_pure]
     rw[run_eqGuard_agg w .eql t x y _ _ hg]
     simp only[Result.andThen_ok]
     rw[run_eql_struct,this]
     rfl
    ·rename_i r hr
     obtain⟨xs,ys,rfl,rfl,g1,g2,rfl⟩:=zdd h1 h2 hlen.1 hlen.2 hr
     simp only[Tree.run,Option.some.injEq] at hs
     subst hs
     refine⟨.bool (!(scEq xs ys)),?_,z0j (t:=.bool) rfl rfl⟩
     have:=heq xs ys w g1 g2
     simp only[execOp,ho,e1,e2,Sem.run_bind,Sem.run_pure]
     rw[run_eqGuard_agg w .neq t x y _ _ hg]
     simp only[Result.andThen_ok]
     rw[run_neq_struct,this]
     rfl
    ·cases hs
   ·cases hs
  ·cases hs
 ·cases hs
end
end Go.AM
