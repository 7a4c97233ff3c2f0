/- The relation between an abstract state and a frame in a world, and how it passes from one world to another. No condition. -/
import Derived.Test.YtdcbankajhnepaaGreatAmRel
import Derived.BigQuiet
set_option linter.unusedVariables false
set_option linter.unusedSimpArgs false
namespace Go.AM
def All2 {α β:Type} (R:α→β→Prop):List α→List β→Prop
 | [],[]=>True
 | x::xs,y::ys=>R x y∧All2 R xs ys
 | _,_=>False
section
variable {α β:Type} {R S:α→β→Prop}
theorem All2.mono {xs:List α}:∀ {ys:List β},(∀ x y,x∈xs→R x y→S x y)→All2 R xs ys→All2 S xs ys:=by
 induction xs with
 | nil=>intro ys h k; cases ys<;>simp_all[All2]
 | cons x xs ih=>
  intro ys h k
  cases ys<;>simp only[All2] at k ⊢
  exact⟨h _ _ (by simp) k.1,ih (fun y z hy=>h y z (by simp[hy])) k.2⟩
theorem All2.len {xs:List α}:∀ {ys:List β},All2 R xs ys→xs.length=ys.length:=by
 induction xs with
 | nil=>intro ys k; cases ys<;>simp_all[All2]
 | cons x xs ih=>
  intro ys k
  cases ys<;>simp only[All2] at k
  simp[ih k.2]
theorem All2.get {xs:List α}:∀ {ys:List β} {i:Nat} {x:α},All2 R xs ys→xs[i]? = some x→∃ y,ys[i]? = some y∧R x y:=by
 induction xs with
 | nil=>intro ys i x _ h; simp at h
 | cons z xs ih=>
  intro ys i x k h
  cases ys<;>simp only[All2] at k
  cases i with
  | zero=>simp at h; subst h; exact⟨_,rfl,k.1⟩
  | succ i=>simpa using ih k.2 (by simpa using h)
theorem All2.app {xs xs':List α}:∀ {ys ys':List β},All2 R xs ys→All2 R xs' ys'→All2 R (xs++xs') (ys++ys'):=by
 induction xs with
 | nil=>intro ys ys' k k'; cases ys<;>simp_all[All2]
 | cons z xs ih=>
  intro ys ys' k k'
  cases ys<;>simp only[All2] at k
  exact⟨k.1,ih k.2 k'⟩
theorem All2.take {xs:List α}:∀ {ys:List β} (n:Nat),All2 R xs ys→All2 R (xs.take n) (ys.take n):=by
 induction xs with
 | nil=>intro ys n k; cases ys<;>simp_all[All2]
 | cons z xs ih=>
  intro ys n k
  cases ys<;>simp only[All2] at k
  cases n with
  | zero=>simp[All2]
  | succ n=>exact⟨k.1,ih n k.2⟩
theorem All2.drop {xs:List α}:∀ {ys:List β} (n:Nat),All2 R xs ys→All2 R (xs.drop n) (ys.drop n):=by
 induction xs with
 | nil=>intro ys n k; cases ys<;>simp_all[All2]
 | cons z xs ih=>
  intro ys n k
  cases ys<;>simp only[All2] at k
  cases n with
  | zero=>exact⟨k.1,k.2⟩
  | succ n=>exact ih n k.2
theorem All2.split {xs xs':List α}:∀ {ys:List β},All2 R (xs++xs') ys→∃ y1 y2,ys=y1++y2∧All2 R xs y1∧All2 R xs' y2:=by
 induction xs with
 | nil=>intro ys k; exact⟨[],ys,rfl,by simp[All2],k⟩
 | cons z xs ih=>
  intro ys k
  cases ys with
  | nil=>exact k.elim
  | cons y ys=>
   obtain⟨y1,y2,rfl,h1,h2⟩:=ih k.2
   exact⟨y::y1,y2,rfl,⟨k.1,h1⟩,h2⟩
theorem All2.mem {xs:List α}:∀ {ys:List β} {y:β},All2 R xs ys→y∈ys→∃ x∈xs,R x y:=by
 induction xs with
 | nil=>intro ys y k h; cases ys<;>simp_all[All2]
 | cons z xs ih=>
  intro ys y k h
  cases ys with
  | nil=>exact k.elim
  | cons y' ys=>
   rcases List.mem_cons.1 h with rfl | h
   ·exact⟨z,by simp,k.1⟩
   ·obtain⟨x,hx,hr⟩:=ih k.2 h
    exact⟨x,by simp[hx],hr⟩
end
structure Gh where
 hd:Nat→Value
 bk:Nat→Nat
 ft:Nat→List Nat
structure Facts where
 n:Nat
 p:World→Prop
 q:Bool:=true
def Facts.at (Γ:Facts) (q:Bool):Facts:=⟨Γ.n,Γ.p,q⟩
def Gl (Γ:Facts) (Z:Nat→Prop) (w:World):Prop:=
 ∃ W,Γ.p W∧Γ.n≤w.heap.size∧∀ b,b<Γ.n→¬Z b∧w.heap[b]? = W.heap[b]?
theorem Gl.next {Γ:Facts} {Z Z':Nat→Prop} {w w':World} (h:Gl Γ Z w) (hs:w.heap.size≤w'.heap.size) (hw:∀ b,b<w.heap.size→¬Z b→w'.heap[b]? = w.heap[b]?)
  (hz:∀ b,b<Γ.n→Z' b→Z b):Gl Γ Z' w':=by
 obtain⟨W,hW,hn,hb⟩:=h
 refine⟨W,hW,by omega,fun b h1=>?_⟩
 obtain⟨h4,h5⟩:=hb b h1
 exact⟨fun hz'=>h4 (hz b h1 hz'),(hw b (by omega) h4).trans h5⟩
structure Ctx where
 P:Program
 Γ:Facts
 U0:Nat→Prop
 M:Nat→Prop
 w0:World
 g0:Gh
 frm:List Value
def UU (U0:Nat→Prop) (gh:Gh) (L:List Nat):Nat→Prop:=fun b=>U0 b∨∃ l,has L l=false∧b∈gh.ft l
structure FrQ (q:Prop) (M:Nat→Prop) (w w':World):Prop where
 os:w'.os=w.os
 tape:w'.tape=w.tape
 output:w'.output=w.output
 size:w.heap.size≤w'.heap.size
 block:∀ k,k<w.heap.size→¬M k→w'.heap[k]? = w.heap[k]?
 drawn:q→w.drawn≤w'.drawn
abbrev Fr (M:Nat→Prop) (w w':World):Prop:=FrQ True M w w'
theorem Fr.refl {q:Prop} (M:Nat→Prop) (w:World):FrQ q M w w:=⟨rfl,rfl,rfl,Nat.le_refl _,fun _ _ _=>rfl,fun _=>Nat.le_refl _⟩
theorem FrQ.any {q:Prop} {M:Nat→Prop} {w w':World} (h:Fr M w w'):FrQ q M w w':=⟨h.os,h.tape,h.output,h.size,h.block,fun _=>h.drawn trivial⟩
theorem FrQ.full {q:Prop} {M:Nat→Prop} {w w':World} (h:FrQ q M w w') (hq:q):Fr M w w':=⟨h.os,h.tape,h.output,h.size,h.block,fun _=>h.drawn hq⟩
theorem FrQ.imp {q r:Prop} {M:Nat→Prop} {w w':World} (h:FrQ q M w w') (hq:r→q):FrQ r M w w':=⟨h.os,h.tape,h.output,h.size,h.block,fun hr=>h.drawn (hq hr)⟩
theorem FrQ.trans {q:Prop} {M:Nat→Prop} {a b c:World} (h:FrQ q M a b) (k:FrQ q M b c):FrQ q M a c:=
 ⟨k.os.trans h.os,k.tape.trans h.tape,k.output.trans h.output,Nat.le_trans h.size k.size,fun i hi hm=>(k.block i (by have:=h.size; omega) hm).trans (h.block i hi hm),fun hq=>Nat.le_trans (h.drawn hq) (k.drawn hq)⟩
theorem FrQ.on {q r:Prop} {M N:Nat→Prop} {a b c:World} (h:FrQ q M a b) (k:FrQ r N b c) (hN:∀ i,N i→i<a.heap.size→M i) (hq:q→r:=by exact fun _=>trivial):FrQ q M a c:=
 ⟨k.os.trans h.os,k.tape.trans h.tape,k.output.trans h.output,Nat.le_trans h.size k.size,fun i hi hm=>
  (k.block i (by have:=h.size; omega) fun hn=>hm (hN i hn hi)).trans (h.block i hi hm),fun hh=>Nat.le_trans (h.drawn hh) (k.drawn (hq hh))⟩
def zci:Bool→List Value→Value→Prop
 | true,cs,v=>v=.agg cs.toArray
 | false,cs,v=>cs=[v]
def zi5 (U:Nat→Prop):(gs:List (Bool×Ty))→zca gs→List Value→World→Prop
 | [],_,vs,_=>vs=[]
 | g::gs,x,vs,w=>∃ v cs r,vs=v::r∧zci g.1 cs v∧ImmS g.2 x.1 cs w U∧zi5 U gs x.2 r w
def z1m (P:Program) (g:FuncId):Prop:=∀ (args:Array Value) (w:World),(callFunc g args).run P w=.ok (.enter g args) w
def ztj (P:Program) (v:Value) (gs:List (Bool×Ty)) (r:Ty) (p:zca gs→Option r.den) (w0:World) (U0:Nat→Prop):Prop:=
 ∃ g caps,v=.func (.func g) #[] caps∧∀ W:World,w0.heap.size≤W.heap.size→(∀ b,b<w0.heap.size→¬U0 b→W.heap[b]? = w0.heap[b]?) →
  ∀ x y args,zi5 U0 gs x args W→p x=some y→z1m P g∧Calls P g (args.toArray++caps) W fun e W'=>∃ c,e=.returned c∧Rep r W' y [c]∧Fr (fun _=>False) W W'
abbrev SubR (w:World) (gh:Gh) (os:Objs) (l:Nat) (i:Int) (off:Nat) (v:Value):Prop:=
 ∃ e t xs L g o n c s z,obj os l=.row e t xs true L∧0≤i∧i<xs.length∧z18 t t.zero off=some ⟨.slice s z,[]⟩ ∧
   gh.hd l=.slice (some ⟨g,o,none⟩) n c∧w.cell? ⟨g,o+i.toNat*t.size+off,none⟩=some v
def HolR (w:World) (gh:Gh) (os:Objs) (l:Nat) (v:Value):HK→Prop
 | .hd=>v=gh.hd l∧∃ e t ys,obj os l=.hol e t ys
 | .pl i=>∃ e t ys g o n c,obj os l=.hol e t ys∧0≤i∧i<ys.length∧gh.hd l=.slice (some ⟨g,o,none⟩) n c∧v=.pointer (some ⟨g,o+i.toNat*t.size,none⟩)
 | .el i=>∃ e t ys g o n c,obj os l=.hol e t ys∧0≤i∧i<ys.length∧gh.hd l=.slice (some ⟨g,o,none⟩) n c∧w.cell? ⟨g,o+i.toNat*t.size,none⟩=some v
def y70 (C:Ctx) (w:World) (gh:Gh) (os:Objs):Leaf→Value→Prop
 | .hol l k,v=>HolR w gh os l v k
 | .undef,_=>True
 | .skip,v=>v=undef
 | .nilS,v=>v=.slice none 0 0
 | .val t x L,v=>ImmS t x [v] w (UU C.U0 gh L)
 | .own l,v=>v=gh.hd l∧∃ e t xs d L,obj os l=.row e t xs d L
 | .sub l i off,v=>SubR w gh os l i off v
 | .oel2 l i off j o2,v=>∃ e t xs L s u ys b o n c,obj os l=.row e t xs true L∧z18 t (rd xs i t.zero) off=some ⟨.slice s u,ys⟩∧0≤j∧j<(List.length ys:Int) ∧
   SubR w gh os l i off (.slice (some ⟨b,o,none⟩) n c)∧v=.pointer (some ⟨b,o+j.toNat*u.size+o2,none⟩)
 | .ptr l off,v=>v=.pointer (some ⟨gh.bk l,off,none⟩)∧∃ cs,obj os l=.box cs
 | .ela t xs i off L,v=>0≤i∧i<xs.length∧∃ b o c,v=.pointer (some ⟨b,o+i.toNat*t.size+off,none⟩) ∧
   ImmS (.slice 0 t) xs [.slice (some ⟨b,o,none⟩) xs.length c] w (UU C.U0 gh L)
 | .oela l i off,v=>∃ e t xs d L g o n c,obj os l=.row e t xs d L∧0≤i∧i<xs.length ∧
   gh.hd l=.slice (some ⟨g,o,none⟩) n c∧v=.pointer (some ⟨g,o+i.toNat*t.size+off,none⟩)
 | .view l lo hi,v=>∃ e t xs d L A n c,obj os l=.row e t xs d L∧0≤lo∧lo≤hi∧hi≤xs.length ∧
   gh.hd l=.slice A n c∧v=.slice (if c=lo.toNat then A else A.map (·.add (lo.toNat*t.size))) (hi.toNat - lo.toNat) (c - lo.toNat)
 | .fn f caps,v=>v=.func (.func f) #[] (caps.map fun p=>Value.pointer (some ⟨gh.bk p.1,p.2,none⟩)).toArray∧∀ p∈caps,∃ cs,obj os p.1=.box cs
 | .clo gs r p,v=>ztj C.P v gs r p C.w0 C.U0
def LeafOk (C:Ctx) (w:World) (gh:Gh) (os:Objs) (c:Leaf) (v:Value):Prop:=y70 C w gh os c v∧(c.known=true→v.oneCell'=true)
def zjm (R:Leaf→Value→Prop):List (Bool×List Leaf)→List Value→Prop
 | [],[]=>True
 | p::r,v::vs=>(∃ us,zci p.1 us v∧All2 R p.2 us)∧zjm R r vs
 | _,_=>False
def SVOk (R:Leaf→Value→Prop):SV→Value→Prop
 | .one c,v=>R c v
 | .agg cs,v=>∃ vs,v=.agg vs.toArray∧All2 R cs vs
 | .tup rs,v=>∃ vs,v=.tuple vs.toArray∧zjm R rs vs
def z38 (C:Ctx) (w:World) (gh:Gh) (t:Ty) (d:Bool) (L:List Nat):t.den→List Nat→List Value→Prop:=
 fun x F cs=>if d then Deep t w x F cs else F=[]∧ImmS t x cs w (UU C.U0 gh L)
def HolE {α:Type} (size:Nat) (R:α→List Nat→List Value→Prop):Option α→List Nat→List Value→Prop
 | none,F,cs=>F=[]∧cs.length=size∧∀ u∈cs,u.oneCell'=true
 | some x,F,cs=>R x F cs
def z2n (C:Ctx) (w:World) (gh:Gh) (os:Objs) (l:Nat):AObj→Prop
 | .hol e t ys=>RowR (HolE t.size (Deep t w)) w e t.size (gh.hd l) (gh.ft l) ys
 | .dead=>gh.ft l=[]
 | .box cs=>gh.ft l=[gh.bk l]∧∃ arr T,w.heap[gh.bk l]? = some (.cells arr T (0,0))∧All2 (LeafOk C w gh os) cs arr.toList
 | .row e t xs d L=>RowR (z38 C w gh t d L) w e t.size (gh.hd l) (gh.ft l) xs
def Ctx.S (C:Ctx) (b:Nat):Prop:=C.U0 b∨b<C.Γ.n
structure Rel (C:Ctx) (st:St) (gh:Gh) (a:Act) (w:World):Prop where
 fr:FrQ (C.Γ.q=true) C.M C.w0 w
 u0:∀ b,C.S b→b<C.w0.heap.size
 gl:Gl C.Γ (fun b=>C.U0 b∨C.M b) C.w0
 lt:∀ l b,b∈gh.ft l→b<w.heap.size
 own:∀ l b,st.ro≤l→b∈gh.ft l→C.w0.heap.size≤b∨C.M b
 dj:∀ l l' b,b∈gh.ft l→b∈gh.ft l'→l=l'
 nd:∀ l,(gh.ft l).Nodup
 sep:∀ l b,b∈gh.ft l→¬C.S b
 objs:∀ l,z2n C w gh st.objs l (obj st.objs l)
 fix:∀ l,l<st.fx→gh.hd l=C.g0.hd l∧gh.bk l=C.g0.bk l∧gh.ft l=C.g0.ft l
 fm:st.fx=0→∀ b,¬C.M b
 len:st.regs.length=a.tmps.size
 regs:∀ i,SVOk (LeafOk C w gh st.objs) (st.reg i) (a.tmps.getD i undef)
 df:a.defers=[]
 frm:All2 (LeafOk C w gh st.objs) st.frm C.frm
theorem Rel.sep0 {C:Ctx} {st:St} {gh:Gh} {a:Act} {w:World} (h:Rel C st gh a w):∀ l b,b∈gh.ft l→¬C.U0 b:=fun l b hb hu=>h.sep l b hb (.inl hu)
theorem Rel.glob {C:Ctx} {st:St} {gh:Gh} {a:Act} {w:World} (h:Rel C st gh a w) {L F:List Nat} (hF:∀ b∈F,∃ l,b∈gh.ft l):Gl C.Γ (fun b=>UU C.U0 gh L b∨b∈F) w:=by
 refine h.gl.next h.fr.size (fun b hb hz=>h.fr.block b hb fun hm=>hz (.inr hm)) fun b h1 hz=>?_
 rcases hz with (hz | ⟨l,_,hz⟩) | hz
 ·exact .inl hz
 ·exact absurd (.inr h1) (h.sep l b hz)
 ·obtain⟨l,hl⟩:=hF b hz
  exact absurd (.inr h1) (h.sep l b hl)
theorem z12 {C:Ctx} {w:World} {gh:Gh} {t:Ty} {d:Bool} {L:List Nat} {x:t.den} {F cs} (h:z38 C w gh t d L x F cs):cs.length=t.size∧Rep t w x cs∧∀ u∈cs,u.oneCell'=true:=by
 unfold z38 at h
 cases d
 ·exact⟨Rep.len t h.2.rep,h.2.rep,Rep.one t h.2.rep⟩
 ·exact⟨Deep.len t h,Deep.rep t h,Deep.one t h⟩
theorem z0o {os:Objs} {l:Nat} (h:obj os l≠.dead):l<os.length:=by
 apply Decidable.byContradiction
 intro hl
 exact h (by simp[obj,List.getD,List.getElem?_eq_none (by omega:os.length≤l)])
theorem z29 {os os':Objs} {l:Nat} (h:l<os.length):obj (os++os') l=obj os l:=by
 simp[obj,List.getD,List.getElem?_append_left h]
theorem z01 {os:Objs} {l k:Nat} {o:AObj} (h:k≠l):obj (os.set l o) k=obj os k:=by
 simp[obj,List.getD,List.getElem?_set_ne (fun e=>h e.symm)]
theorem z0a {os:Objs} {l:Nat} {o:AObj} (h:l<os.length):obj (os.set l o) l=o:=by
 simp[obj,List.getD,h]
structure Tr (C:Ctx) (w:World) (gh:Gh) (os:Objs) (w':World) (gh':Gh) (os':Objs) (Z H:Nat→Prop):Prop where
 size:w.heap.size≤w'.heap.size
 chg:∀ b,b<w.heap.size→w'.heap[b]? = w.heap[b]?∨∃ l,Z l∧b∈gh.ft l
 ft:∀ l b,b<w.heap.size→b∈gh'.ft l→∃ l',b∈gh.ft l'∧(l'=l∨Z l')
 keep:∀ l,¬Z l→obj os l≠.dead→obj os' l=obj os l∧gh'.hd l=gh.hd l∧gh'.bk l=gh.bk l∧gh'.ft l=gh.ft l
 keepH:∀ l,Z l→H l→gh'.hd l=gh.hd l∧gh'.bk l=gh.bk l ∧
  (∀ e t xs d L,obj os l=.row e t xs d L→∃ ys d' L',obj os' l=.row e t ys d' L'∧ys.length=xs.length)∧(∀ cs,obj os l=.box cs→∃ ds,obj os' l=.box ds)
def Leaf.stays (Z H:Nat→Prop):Leaf→Prop
 | .val _ _ L | .ela _ _ _ _ L=>∀ l,Z l→has L l=false
 | .own k | .oela k _ _ | .view k _ _=>Z k→H k
 | .sub k _ _ | .oel2 k _ _ _ _ | .hol k _=>¬Z k
 | .ptr k _=>Z k→H k
 | .fn _ caps=>∀ p∈caps,Z p.1→H p.1
 | _=>True
theorem zag {C:Ctx} {w:World} {gh:Gh} {os:Objs} {l:Nat} {e:TypeId} {t:Ty} {xs:List t.den} {d:Bool} {L:List Nat}
  (h:z2n C w gh os l (.row e t xs d L)) {g:Nat} {o:Nat} {n c:Nat} (hv:gh.hd l=.slice (some ⟨g,o,none⟩) n c):g∈gh.ft l:=by
 obtain⟨Fs,ess,_,hF,_⟩:=h
 rw[hF,hv]
 simp[Value.ownBlock]
section
variable {C:Ctx} {w w':World} {gh gh':Gh} {os os':Objs} {Z H:Nat→Prop}
theorem y9v (hT:Tr C w gh os w' gh' os' Z H) {L:List Nat} (hL:∀ l,Z l→has L l=false) {b:Nat} (hb:b<w.heap.size) (h:UU C.U0 gh' L b):UU C.U0 gh L b:=by
 rcases h with h | ⟨l,hl,h⟩
 ·exact .inl h
 ·obtain⟨l',h',he | hz⟩:=hT.ft l b hb h
  ·exact .inr ⟨l,hl,he▸h'⟩
  ·exact .inr ⟨l',hL l' hz,h'⟩
theorem y6w (hT:Tr C w gh os w' gh' os' Z H) {L:List Nat} (hL:∀ l,Z l→has L l=false) {b:Nat} (hb:b<w.heap.size) (h:¬UU C.U0 gh L b):w'.heap[b]? = w.heap[b]?:=by
 rcases hT.chg b hb with h' | ⟨l,hz,hm⟩
 ·exact h'
 ·exact absurd (.inr ⟨l,hL l hz,hm⟩) h
theorem zf3 (hT:Tr C w gh os w' gh' os' Z H) {L:List Nat} (hL:∀ l,Z l→has L l=false) {t:Ty} {x:t.den} {cs} (h:ImmS t x cs w (UU C.U0 gh L)):ImmS t x cs w' (UU C.U0 gh' L):=
 h.next hT.size (fun b hb hu=>y6w hT hL hb hu) fun b hb hv=>y9v hT hL hb hv
theorem y0o (hT:Tr C w gh os w' gh' os' Z H) (hdj:∀ l l' b,b∈gh.ft l→b∈gh.ft l'→l=l') (hob:∀ l,z2n C w gh os l (obj os l))
  {l:Nat} {i:Int} {off:Nat} {v:Value} (hc:¬Z l) (h:SubR w gh os l i off v):SubR w' gh' os' l i off v:=by
 obtain⟨e,t,xs,L,g,og,n,c,s,z,ho,h0,h1,h2,hh,hcell⟩:=h
 obtain⟨k0,k1,k2,k3⟩:=hT.keep l hc (by rw[ho]; simp)
 refine⟨e,t,xs,L,g,og,n,c,s,z,by rw[k0,ho],h0,h1,h2,by rw[k1,hh],?_⟩
 have hg:g∈gh.ft l:=zag (ho▸hob l) hh
 have hlt:=World.block_lt_of_cell? w _ hcell
 rw[World.cell?_of_block (w:=w) (a:=⟨g,_,none⟩) ?_]
 ·exact hcell
 ·rcases hT.chg g hlt with h' | ⟨l',hz,hm⟩
  ·exact h'
  ·exact absurd (hdj _ _ _ hg hm▸hz) hc
theorem zxo {C:Ctx} {w:World} {gh:Gh} {os:Objs} {l:Nat} {e:TypeId} {t:Ty} {ys:List (Option t.den)}
  (h:z2n C w gh os l (.hol e t ys)) {g:Nat} {o:Nat} {n c:Nat} (hv:gh.hd l=.slice (some ⟨g,o,none⟩) n c):g∈gh.ft l:=by
 obtain⟨Fs,ess,_,hF,_⟩:=h
 rw[hF,hv]
 simp[Value.ownBlock]
theorem y6n (hT:Tr C w gh os w' gh' os' Z H) (hdj:∀ l l' b,b∈gh.ft l→b∈gh.ft l'→l=l') (hob:∀ l,z2n C w gh os l (obj os l))
  {l:Nat} {k:HK} {v:Value} (hc:¬Z l) (h:HolR w gh os l v k):HolR w' gh' os' l v k:=by
 cases k with
 | hd=>
  obtain⟨hv,e,t,ys,ho⟩:=h
  obtain⟨k0,k1,_⟩:=hT.keep l hc (by rw[ho]; simp)
  exact⟨by rw[k1,hv],e,t,ys,by rw[k0,ho]⟩
 | pl i=>
  obtain⟨e,t,ys,g,og,n,c,ho,h0,h1,hh,hv⟩:=h
  obtain⟨k0,k1,_⟩:=hT.keep l hc (by rw[ho]; simp)
  exact⟨e,t,ys,g,og,n,c,by rw[k0,ho],h0,h1,by rw[k1,hh],hv⟩
 | el i=>
  obtain⟨e,t,ys,g,og,n,c,ho,h0,h1,hh,hcell⟩:=h
  obtain⟨k0,k1,_⟩:=hT.keep l hc (by rw[ho]; simp)
  refine⟨e,t,ys,g,og,n,c,by rw[k0,ho],h0,h1,by rw[k1,hh],?_⟩
  have hg:g∈gh.ft l:=zxo (ho▸hob l) hh
  have hlt:=World.block_lt_of_cell? w _ hcell
  rw[World.cell?_of_block (w:=w) (a:=⟨g,_,none⟩) ?_]
  ·exact hcell
  ·rcases hT.chg g hlt with h' | ⟨l',hz,hm⟩
   ·exact h'
   ·exact absurd (hdj _ _ _ hg hm▸hz) hc
theorem z52 (hT:Tr C w gh os w' gh' os' Z H) (hdj:∀ l l' b,b∈gh.ft l→b∈gh.ft l'→l=l') (hob:∀ l,z2n C w gh os l (obj os l))
  {c:Leaf} {v:Value} (hc:c.stays Z H) (h:LeafOk C w gh os c v):LeafOk C w' gh' os' c v:=by
 refine⟨?_,h.2⟩
 replace h:=h.1
 cases c with
 | undef=>trivial
 | skip=>exact h
 | nilS=>exact h
 | val t x L=>exact zf3 hT hc h
 | own l=>
  obtain⟨hv,e,t,xs,d,L,ho⟩:=h
  by_cases hz:Z l
  ·obtain⟨k1,_,k3,_⟩:=hT.keepH l hz (hc hz)
   obtain⟨ys,d',L',ho',_⟩:=k3 _ _ _ _ _ ho
   exact⟨by rw[k1,hv],_,_,_,_,_,ho'⟩
  ·obtain⟨k0,k1,_⟩:=hT.keep l hz (by rw[ho]; simp)
   exact⟨by rw[k1,hv],_,_,_,_,_,by rw[k0,ho]⟩
 | sub l i off=>exact y0o hT hdj hob hc h
 | oel2 l i off j o2=>
  obtain⟨e,t,xs,L,s,u,ys,b,og,n,c,ho,h1,h2,h3,h4,h5⟩:=h
  obtain⟨k0,_⟩:=hT.keep l hc (by rw[ho]; simp)
  exact⟨e,t,xs,L,s,u,ys,b,og,n,c,by rw[k0,ho],h1,h2,h3,y0o hT hdj hob hc h4,h5⟩
 | ptr l off=>
  obtain⟨hv,cs,ho⟩:=h
  by_cases hz:Z l
  ·obtain⟨_,k2,_,k4⟩:=hT.keepH l hz (hc hz)
   exact⟨by rw[k2,hv],k4 _ ho⟩
  ·obtain⟨k0,_,k2,_⟩:=hT.keep l hz (by rw[ho]; simp)
   exact⟨by rw[k2,hv],_,by rw[k0,ho]⟩
 | ela t xs i off L=>
  obtain⟨h0,h1,b,o,c,hv,hi⟩:=h
  exact⟨h0,h1,b,o,c,hv,zf3 hT hc hi⟩
 | oela l i off=>
  obtain⟨e,t,xs,d,L,g,og,n,c,ho,h0,h1,hh,hv⟩:=h
  by_cases hz:Z l
  ·obtain⟨k1,_,k3,_⟩:=hT.keepH l hz (hc hz)
   obtain⟨ys,d',L',ho',hl⟩:=k3 _ _ _ _ _ ho
   exact⟨e,t,ys,d',L',g,og,n,c,ho',h0,by rw[hl]; exact h1,by rw[k1,hh],hv⟩
  ·obtain⟨k0,k1,_⟩:=hT.keep l hz (by rw[ho]; simp)
   exact⟨e,t,xs,d,L,g,og,n,c,by rw[k0,ho],h0,h1,by rw[k1,hh],hv⟩
 | view l lo hi=>
  obtain⟨e,t,xs,d,L,g,n,c,ho,h0,h1,h2,hh,hv⟩:=h
  by_cases hz:Z l
  ·obtain⟨k1,_,k3,_⟩:=hT.keepH l hz (hc hz)
   obtain⟨ys,d',L',ho',hl⟩:=k3 _ _ _ _ _ ho
   exact⟨e,t,ys,d',L',g,n,c,ho',h0,h1,by rw[hl]; exact h2,by rw[k1,hh],hv⟩
  ·obtain⟨k0,k1,_⟩:=hT.keep l hz (by rw[ho]; simp)
   exact⟨e,t,xs,d,L,g,n,c,by rw[k0,ho],h0,h1,h2,by rw[k1,hh],hv⟩
 | fn f caps=>
  obtain⟨hv,hcap⟩:=h
  have key:∀ p∈caps,gh'.bk p.1=gh.bk p.1∧∃ cs,obj os' p.1=.box cs:=by
   intro p hp
   obtain⟨cs,ho⟩:=hcap p hp
   by_cases hz:Z p.1
   ·obtain⟨_,k2,_,k4⟩:=hT.keepH p.1 hz (hc p hp hz)
    exact⟨k2,k4 _ ho⟩
   ·obtain⟨k0,_,k2,_⟩:=hT.keep p.1 hz (by rw[ho]; simp)
    exact⟨k2,_,by rw[k0,ho]⟩
  refine⟨?_,fun p hp=>(key p hp).2⟩
  rw[hv]
  congr 2
  apply List.map_congr_left
  intro p hp
  rw[(key p hp).1]
 | clo gs r p=>exact h
 | hol l k=>exact y6n hT hdj hob hc h
theorem zhl (hT:Tr C w gh os w' gh' os' Z H) (hdj:∀ l l' b,b∈gh.ft l→b∈gh.ft l'→l=l') (hob:∀ l,z2n C w gh os l (obj os l))
  (hlt:∀ l b,b∈gh.ft l→b<w.heap.size) {l:Nat} (hz:¬Z l) (hd:obj os l≠.dead)
  (hst:match obj os l with | .box cs=>∀ c∈cs,c.stays Z H | .row _ _ _ _ L=>∀ l,Z l→has L l=false | .dead=>True | .hol _ _ _=>True):
  z2n C w' gh' os' l (obj os' l):=by
 obtain⟨k0,k1,k2,k3⟩:=hT.keep l hz hd
 have h:=hob l
 have same:∀ b∈gh.ft l,w'.heap[b]? = w.heap[b]?:=by
  intro b hb
  rcases hT.chg b (hlt _ _ hb) with h' | ⟨l',hz',hm⟩
  ·exact h'
  ·exact absurd (hdj _ _ _ hb hm▸hz') hz
 rw[k0]
 cases ho:obj os l with
 | dead=>exact absurd ho hd
 | box cs=>
  rw[ho] at h hst
  obtain⟨h1,arr,T,h2,h3⟩:=h
  refine⟨by rw[k3,k2,h1],arr,T,?_,h3.mono fun c v hc hk=>z52 hT hdj hob (hst c hc) hk⟩
  rw[k2,same _ (by rw[h1]; simp),h2]
 | hol e t ys=>
  rw[ho] at h
  show RowR _ _ _ _ (gh'.hd l) (gh'.ft l) ys
  rw[k1,k3]
  refine RowR.congr h same fun x G c hG hR=>?_
  cases x with
  | none=>exact hR
  | some x=>exact Deep.congr t hR fun b hb=>same b (hG b hb)
 | row e t xs d L=>
  rw[ho] at h hst
  show RowR _ _ _ _ (gh'.hd l) (gh'.ft l) xs
  rw[k1,k3]
  refine RowR.congr h same fun x G c hG hR=>?_
  unfold z38 at hR ⊢
  cases d
  ·exact⟨hR.1,zf3 hT hst hR.2⟩
  ·exact Deep.congr t hR fun b hb=>same b (hG b hb)
end
theorem SVOk.mono {R S:Leaf→Value→Prop} {v:SV} {x:Value} (h:SVOk R v x) (hm:∀ c y,(match v with | .one d=>c=d | .agg cs=>c∈cs | .tup vs=>∃ p∈vs,c∈p.2)→R c y→S c y):SVOk S v x:=by
 cases v with
 | one c=>exact hm _ _ rfl h
 | agg cs=>obtain⟨vs,rfl,h⟩:=h; exact⟨vs,rfl,h.mono fun c y hc=>hm c y hc⟩
 | tup rs=>
  obtain⟨vs,rfl,h⟩:=h
  refine⟨vs,rfl,?_⟩
  have:∀ (ps:List (Bool×List Leaf)) vs,(∀ p∈ps,p∈rs)→zjm R ps vs→zjm S ps vs:=by
   intro ps
   induction ps with
   | nil=>intro vs _ h; cases vs<;>simp_all[zjm]
   | cons p ps ih=>
    intro vs hp h
    cases vs with
    | nil=>exact h.elim
    | cons v vs=>
     obtain⟨⟨us,h1,h2⟩,h3⟩:=h
     exact⟨⟨us,h1,h2.mono fun c y hc=>hm c y ⟨p,hp p (by simp),hc⟩⟩,ih vs (fun q hq=>hp q (by simp[hq])) h3⟩
  exact this rs vs (fun _ h=>h) h
def SV.stays (Z H:Nat→Prop):SV→Prop
 | .one c=>c.stays Z H
 | .agg cs=>∀ c∈cs,c.stays Z H
 | .tup vs=>∀ p∈vs,∀ c∈p.2,c.stays Z H
theorem znw {C:Ctx} {w w':World} {gh gh':Gh} {os os':Objs} {Z H:Nat→Prop} (hT:Tr C w gh os w' gh' os' Z H) (hdj:∀ l l' b,b∈gh.ft l→b∈gh.ft l'→l=l') (hob:∀ l,z2n C w gh os l (obj os l))
  {v:SV} {x:Value} (hs:v.stays Z H) (h:SVOk (LeafOk C w gh os) v x):SVOk (LeafOk C w' gh' os') v x:=by
 refine h.mono fun c y hc hk=>z52 hT hdj hob ?_ hk
 cases v with
 | one d=>exact hc▸hs
 | agg cs=>exact hs c hc
 | tup vs=>obtain⟨p,hp,hc⟩:=hc; exact hs p hp c hc
end Go.AM
